/- Words that harts and loader share, plainly; contracts of memory's New, PageOf, Size, Pages, word, of. Conditions: the memory's cells. -/
import Derived.Test.YthnbdeibjbicpaaGreatKTabA
import Derived.Deep.OwnRows
import Derived.Deep.RegionWith
import Derived.Test.YthnbdeibjbicpaaGreatKIsaB
set_option linter.unusedSimpArgs false
namespace Go.Proofs.YthnbdeibjbicpaaGreat.PM
set_option linter.unusedVariables false
open Go.RowKit
/-- Block d holds the words L, one behind the other. -/
structure Wds (w : World) (d : Nat) (L : List Nat) : Prop where
  lt : d < w.heap.size
  cell : ∀ i, i < L.length → w.cell? ⟨d, i, none⟩ = some (.int .u32 ((L[i]! : Nat) : Int))
  free : ∀ o, w.frozen? ⟨d, o, none⟩ = false
/-- Ten cells hold a memory: eight gates, the table, the words. -/
structure Ten (w : World) (M : Nat) (G : Nat → Nat) (u v : Value) : Prop where
  lt : M < w.heap.size
  gate : ∀ i, i < 8 → w.cell? ⟨M, i, none⟩ = some (.int .u32 (G i : Int))
  c8 : w.cell? ⟨M, 8, none⟩ = some u
  c9 : w.cell? ⟨M, 9, none⟩ = some v
  free : ∀ o, w.frozen? ⟨M, o, none⟩ = false
section
variable {w w' : World} {d M : Nat} {L : List Nat} {G : Nat → Nat} {u v : Value}
theorem Wds.kept (h : Wds w d L) (hb : Below w.heap.size w w') : Wds w' d L :=
  ⟨Nat.lt_of_lt_of_le h.lt hb.size, fun i hi => (hb.cell (p := ⟨d, i, none⟩) h.lt).trans (h.cell i hi), fun o => (hb.frozen (p := ⟨d, o, none⟩) h.lt).trans (h.free o)⟩
theorem Wds.block (h : Wds w d L) (hs : w.heap.size ≤ w'.heap.size) (e : w'.heap[d]? = w.heap[d]?) : Wds w' d L :=
  ⟨Nat.lt_of_lt_of_le h.lt hs, fun i hi => (World.cell?_of_block (w := w) (a := ⟨d, i, none⟩) e).trans (h.cell i hi), fun o => (World.frozen?_of_block (w := w) (a := ⟨d, o, none⟩) e).trans (h.free o)⟩
theorem Wds.upd (h : Wds w d L) {k : Nat} (hu : Upd k w w') (hne : d ≠ k) : Wds w' d L := h.block hu.size (hu.block d h.lt hne)
theorem Wds.far (h : Wds w d L) {p : Addr} (hne : d ≠ p.block) (x : Value) : Wds (w.setCell p x) d L := h.block (by simp [World.setCell]) (Below.heap_setCell w p x d hne)
theorem Wds.alloc (h : Wds w d L) (o : Obj) : Wds (w.alloc o) d L := h.kept ((Below.refl _ _).alloc (Nat.le_refl _) o)
theorem Wds.drewN (h : Wds w d L) (n : Nat) : Wds (w.drewN n) d L := h.kept (below_drewN (Below.refl _ _) n)
theorem nat_set (L : List Nat) (i j x : Nat) (hj : j < L.length) : (L.set i x)[j]! = if j = i then x else L[j]! := by
  simp only [List.getElem!_eq_getElem?_getD, List.getElem?_set]
  by_cases e : j = i
  · subst e; simp [hj]
  · rw [if_neg (fun h => e h.symm), if_neg e]
/-- A word is stored. -/
theorem Wds.set (h : Wds w d L) {i : Nat} (hi : i < L.length) (x : Nat) : Wds (w.setCell ⟨d, i, none⟩ (.int .u32 (x : Int))) d (L.set i x) := by
  refine ⟨by simpa [World.setCell] using h.lt, fun j hj => ?_, fun o => by rw [World.frozen?_setCell]; exact h.free o⟩
  rw [List.length_set] at hj
  rw [nat_set L i j x hj]
  by_cases e : j = i
  · subst e
    rw [if_pos rfl]
    exact World.cell?_setCell_same _ _ _ (h.cell j hj)
  · rw [if_neg e, World.cell?_setCell_other _ _ _ _ (by intro q; injection q with _ q; exact e q.symm)]
    exact h.cell j hj
theorem Ten.block (h : Ten w M G u v) (hs : w.heap.size ≤ w'.heap.size) (e : w'.heap[M]? = w.heap[M]?) : Ten w' M G u v :=
  ⟨Nat.lt_of_lt_of_le h.lt hs, fun i hi => (World.cell?_of_block (w := w) (a := ⟨M, i, none⟩) e).trans (h.gate i hi), (World.cell?_of_block (w := w) (a := ⟨M, 8, none⟩) e).trans h.c8, (World.cell?_of_block (w := w) (a := ⟨M, 9, none⟩) e).trans h.c9, fun o => (World.frozen?_of_block (w := w) (a := ⟨M, o, none⟩) e).trans (h.free o)⟩
theorem Ten.kept (h : Ten w M G u v) (hb : Below w.heap.size w w') : Ten w' M G u v := h.block hb.size (hb.block M h.lt)
theorem Ten.upd (h : Ten w M G u v) {k : Nat} (hu : Upd k w w') (hne : M ≠ k) : Ten w' M G u v := h.block hu.size (hu.block M h.lt hne)
theorem Ten.far (h : Ten w M G u v) {p : Addr} (hne : M ≠ p.block) (x : Value) : Ten (w.setCell p x) M G u v := h.block (by simp [World.setCell]) (Below.heap_setCell w p x M hne)
theorem Ten.alloc (h : Ten w M G u v) (o : Obj) : Ten (w.alloc o) M G u v := h.kept ((Below.refl _ _).alloc (Nat.le_refl _) o)
theorem Ten.drewN (h : Ten w M G u v) (n : Nat) : Ten (w.drewN n) M G u v := h.kept (below_drewN (Below.refl _ _) n)
/-- A gate is stored. -/
theorem Ten.set (h : Ten w M G u v) {i : Nat} (hi : i < 8) (x : Nat) : Ten (w.setCell ⟨M, i, none⟩ (.int .u32 (x : Int))) M (fun j => if j = i then x else G j) u v := by
  have oth : ∀ j, j ≠ i → (w.setCell ⟨M, i, none⟩ (.int .u32 (x : Int))).cell? ⟨M, j, none⟩ = w.cell? ⟨M, j, none⟩ := fun j hj => World.cell?_setCell_other _ _ _ _ (by intro q; injection q with _ q; exact hj q.symm)
  refine ⟨by simpa [World.setCell] using h.lt, fun j hj => ?_, (oth 8 (by omega)).trans h.c8, (oth 9 (by omega)).trans h.c9, fun o => by rw [World.frozen?_setCell]; exact h.free o⟩
  by_cases e : j = i
  · subst e
    simp only [if_true]
    exact World.cell?_setCell_same _ _ _ (h.gate j hj)
  · simp only [if_neg e]
    exact (oth j e).trans (h.gate j hj)
theorem Ten.congr (h : Ten w M G u v) {G' : Nat → Nat} (e : ∀ i, i < 8 → G i = G' i) : Ten w M G' u v :=
  ⟨h.lt, fun i hi => by rw [← e i hi]; exact h.gate i hi, h.c8, h.c9, h.free⟩
/-- A new box of ten cells. -/
theorem Ten.new (w : World) (t : TypeId) (g0 g1 g2 g3 g4 g5 g6 g7 : Nat) (u v : Value) : Ten (w.alloc (.cells #[.int .u32 (g0 : Int), .int .u32 (g1 : Int), .int .u32 (g2 : Int), .int .u32 (g3 : Int), .int .u32 (g4 : Int), .int .u32 (g5 : Int), .int .u32 (g6 : Int), .int .u32 (g7 : Int), u, v] t)) w.heap.size (fun i => [g0, g1, g2, g3, g4, g5, g6, g7].getD i 0) u v := by
  have hB := Blk.new w t #[.int .u32 (g0 : Int), .int .u32 (g1 : Int), .int .u32 (g2 : Int), .int .u32 (g3 : Int), .int .u32 (g4 : Int), .int .u32 (g5 : Int), .int .u32 (g6 : Int), .int .u32 (g7 : Int), u, v]
  refine ⟨hB.lt, fun i hi => ?_, hB.cell 8, hB.cell 9, hB.frozen⟩
  match i, hi with
  | 0, _ => exact hB.cell 0
  | 1, _ => exact hB.cell 1
  | 2, _ => exact hB.cell 2
  | 3, _ => exact hB.cell 3
  | 4, _ => exact hB.cell 4
  | 5, _ => exact hB.cell 5
  | 6, _ => exact hB.cell 6
  | 7, _ => exact hB.cell 7
end
/-- A memory: ten cells, a table, the words. -/
structure Mem (w : World) (M g h c d cd : Nat) (G : Nat → Nat) (T : List Page) (L : List Nat) : Prop where
  ten : Ten w M G (.pointer (some ⟨g, 0, none⟩)) (.slice (some ⟨d, 0, none⟩) L.length cd)
  tab : Tab w g h c T
  wds : Wds w d L
  len : L.length = 16 * T.length
  cap : L.length ≤ cd
  Mg : M ≠ g
  Mh : M ≠ h
  Md : M ≠ d
  gd : g ≠ d
  hd : h ≠ d
theorem Mem.kept {w w' : World} {M g h c d cd : Nat} {G : Nat → Nat} {T : List Page} {L : List Nat} (m : Mem w M g h c d cd G T L) (hb : Below w.heap.size w w') : Mem w' M g h c d cd G T L :=
  ⟨m.ten.kept hb, m.tab.kept hb, m.wds.kept hb, m.len, m.cap, m.Mg, m.Mh, m.Md, m.gd, m.hd⟩
theorem Mem.alloc {w : World} {M g h c d cd : Nat} {G : Nat → Nat} {T : List Page} {L : List Nat} (m : Mem w M g h c d cd G T L) (o : Obj) : Mem (w.alloc o) M g h c d cd G T L := m.kept ((Below.refl _ _).alloc (Nat.le_refl _) o)
theorem Mem.drewN {w : World} {M g h c d cd : Nat} {G : Nat → Nat} {T : List Page} {L : List Nat} (m : Mem w M g h c d cd G T L) (n : Nat) : Mem (w.drewN n) M g h c d cd G T L := m.kept (below_drewN (Below.refl _ _) n)
/-- The page of an address. -/
def pageOf (x : Nat) : Int := if x < 80 ∨ 4176 ≤ x then -1 else ((x - 80) / 16 : Nat)
theorem pageof_c (w : World) (x : Nat) (hx : x < 4294967296) :
    Calls Tryz.prog 93 #[.int .u32 (x : Int)] w fun e w' => e = .returned (.int .i64 (pageOf x)) ∧ w' = w := by
  unfold pageOf
  by_cases h0 : x < 80
  · rw [if_pos (Or.inl h0)]
    have hz : (x : Int) < 80 := by omega
    go_enter Tryz.func93, Tryz.ntmps93
    go_wp2_with fail
    go_ret
    exact ⟨rfl, rfl⟩
  have hz0 : ¬ (x : Int) < 80 := by omega
  by_cases h1 : 4176 ≤ x
  · rw [if_pos (Or.inr h1)]
    have hz : (4176 : Int) ≤ (x : Int) := by omega
    go_enter Tryz.func93, Tryz.ntmps93
    go_wp2_with fail
    go_ret
    exact ⟨rfl, rfl⟩
  rw [if_neg (by omega)]
  have hz1 : ¬ (4176 : Int) ≤ (x : Int) := by omega
  obtain ⟨y, rfl⟩ : ∃ y : Nat, x = 80 + y := ⟨x - 80, by omega⟩
  have e : ((80 + y : Nat) : Int) = 80 + (y : Int) := by omega
  rw [e] at *
  have hd : Int.tdiv (y : Int) 16 = ((y / 16 : Nat) : Int) := by rw [Int.tdiv_eq_ediv_of_nonneg (by omega)]; omega
  have e2 : 80 + y - 80 = y := by omega
  rw [e2]
  go_enter Tryz.func93, Tryz.ntmps93
  go_wp2_with fail
  go_ret
  exact ⟨ret_int (by omega), rfl⟩
theorem size_c {w : World} {M g h c d cd : Nat} {G : Nat → Nat} {T : List Page} {L : List Nat} (m : Mem w M g h c d cd G T L) :
    Calls Tryz.prog 49 #[.pointer (some ⟨M, 0, none⟩)] w fun e w' => e = .returned (.int .i64 (80 + (L.length : Int))) ∧ w' = w := by
  have c9 := m.ten.c9
  have h1 := m.len
  have h2 := m.tab.few
  have hL : L.length ≤ 4096 := by omega
  clear m h1 h2
  generalize L.length = n at c9 hL
  go_enter Tryz.func49, Tryz.ntmps49
  go_wp2_with fail
  go_ret
  exact ⟨rfl, rfl⟩
theorem pages_c {w : World} {M g h c d cd : Nat} {G : Nat → Nat} {T : List Page} {L : List Nat} (m : Mem w M g h c d cd G T L) :
    Calls Tryz.prog 14 #[.pointer (some ⟨M, 0, none⟩)] w fun e w' => e = .returned (.pointer (some ⟨g, 0, none⟩)) ∧ w' = w := by
  have c8 := m.ten.c8
  clear m
  go_enter Tryz.func14, Tryz.ntmps14
  go_wp2_with fail
  go_ret
  exact ⟨rfl, rfl⟩
/-- Where an address's word stands. -/
def wordAt (d : Nat) (L : List Nat) (x : Nat) : Option Addr := if 80 ≤ x ∧ x - 80 < L.length then some ⟨d, x - 80, none⟩ else none
set_option maxRecDepth 100000 in
set_option maxHeartbeats 2000000 in
theorem word_c {w : World} {M g h c d cd : Nat} {G : Nat → Nat} {T : List Page} {L : List Nat} (m : Mem w M g h c d cd G T L) (x : Nat) (hx : x < 4294967296) :
    Calls Tryz.prog 59 #[.pointer (some ⟨M, 0, none⟩), .int .u32 (x : Int)] w fun e w' => e = .returned (.pointer (wordAt d L x)) ∧ w' = w := by
  have c8 := m.ten.c8
  have c9 := m.ten.c9
  have LC := Lib.hid (len_c w g h c T m.tab)
  have few := m.tab.few
  have hlen := m.len
  have hcap := m.cap
  have PC := Lib.hid (fun W => pageof_c W x hx)
  clear m
  unfold wordAt
  unfold pageOf at PC
  by_cases h0 : x < 80 ∨ 4176 ≤ x
  · rw [if_pos h0] at PC
    rw [if_neg (by omega)]
    go_enter Tryz.func59, Tryz.ntmps59
    go_wp2_with fail
    refine (PC.out _).mono ?_
    rintro e w1 ⟨rfl, rfl⟩
    go_wp2_with fail
    go_ret
    exact ⟨rfl, rfl⟩
  rw [if_neg h0] at PC
  obtain ⟨y, rfl⟩ : ∃ y : Nat, x = 80 + y := ⟨x - 80, by omega⟩
  have e2 : 80 + y - 80 = y := by omega
  rw [e2] at PC ⊢
  obtain ⟨q, hq⟩ : ∃ q, y / 16 = q := ⟨_, rfl⟩
  rw [hq] at PC
  by_cases h1 : q < T.length
  · rw [if_pos (by omega)]
    have hz : (q : Int) < (T.length : Int) := by omega
    have hq1 : q < 256 := by omega
    have hm : Int.tmod (y : Int) 16 = ((y % 16 : Nat) : Int) := by rw [Int.tmod_eq_emod_of_nonneg (by omega)]; omega
    obtain ⟨r, hr⟩ : ∃ r, y % 16 = r := ⟨_, rfl⟩
    rw [hr] at hm
    have hr16 : r < 16 := by omega
    have hy : y = q * 16 + r := by omega
    have HY := Lib.hid hy
    have hqc : q * 16 + 16 ≤ cd := by omega
    have hqz : (q : Int) * 16 + 16 ≤ (cd : Int) := by omega
    have hyb : (y : Int) < 4096 := by omega
    clear hy hq hr h0 hlen hcap hx e2
    go_enter Tryz.func59, Tryz.ntmps59
    go_wp2_with fail
    refine (PC.out _).mono ?_
    rintro e w1 ⟨rfl, rfl⟩
    go_wp2_with fail
    refine LC.out.mono ?_
    rintro e w1 ⟨rfl, rfl⟩
    go_wp2_with fail
    go_ret
    refine ⟨?_, rfl⟩
    have e3 : q * 16 + (80 + y - 80) % 16 = y := by have := HY.out; omega
    show Ending.returned (.pointer (some ⟨d, q * 16 + (80 + y - 80) % 16, none⟩)) = _
    rw [e3]
  · rw [if_neg (by omega)]
    have hz : ¬ (q : Int) < (T.length : Int) := by omega
    have hyb : (y : Int) < 4096 := by omega
    clear hq h0 hlen hcap hx e2 h1
    go_enter Tryz.func59, Tryz.ntmps59
    go_wp2_with fail
    refine (PC.out _).mono ?_
    rintro e w1 ⟨rfl, rfl⟩
    go_wp2_with fail
    refine LC.out.mono ?_
    rintro e w1 ⟨rfl, rfl⟩
    go_wp2_with fail
    go_ret
    exact ⟨rfl, rfl⟩
end Go.Proofs.YthnbdeibjbicpaaGreat.PM

/- Contracts of memory's New, of, slot, Peek, Gate. Conditions: the memory's cells. -/
set_option linter.unusedSimpArgs false
namespace Go.Proofs.YthnbdeibjbicpaaGreat.PM
set_option linter.unusedVariables false
open Go.RowKit
theorem info_u32 : (Tryz.prog.info? 23).map (fun i => (i.zero, i.size, i.bytes)) = some (some (.int .u32 0), 1, 4) := by kernel_rfl
def NewMem (w : World) (m : Nat) (e : Ending) (w' : World) : Prop := ∃ M g h c d cd, e = .returned (.pointer (some ⟨M, 0, none⟩)) ∧ w.heap.size ≤ M ∧ w.heap.size ≤ g ∧ w.heap.size ≤ h ∧ w.heap.size ≤ d ∧
  Mem w' M g h c d cd (fun _ => 0) (List.replicate m nz) (List.replicate (16 * m) 0) ∧ Below w.heap.size w w'
theorem zeros_wds (w : World) (k : Nat) : Wds (w.alloc (.cells (madeCells #[.int .u32 0] k) 23)) w.heap.size (List.replicate k 0) := by
  have h := World.rowIs_made w (.int .u32 0) k 23
  refine ⟨h.lt, fun i hi => ?_, h.frozen⟩
  have hi' : i < k := by simpa using hi
  have e : (List.replicate k 0)[i]! = 0 := by simp [hi']
  rw [e]
  exact h.cell hi'
set_option maxHeartbeats 2000000 in
theorem newmem_c (w : World) (n : Int) :
    Calls Tryz.prog 12 #[.int .i64 n] w fun e w' => NewMem w (newLen n) e w' := by
  have hm := newLen_le n
  have NC := Lib.hid (new_c w n)
  generalize newLen n = m at hm NC ⊢
  have hmk := run_make_row' (P := Tryz.prog) 22 23 (.int .u32 0) 4 Tryz.underlying22 info_u32 rfl .i64 .i64 (m * 16) (by omega) (by omega)
  rw [Int.natCast_mul] at hmk
  have hmk : ∀ w : World, (Instr.makeSlice 22 (.int .i64 ((m : Int) * 16)) (.int .i64 ((m : Int) * 16))).run Tryz.prog w = .ok (.slice (some ⟨w.heap.size, 0, none⟩) (m * 16) (m * 16)) (w.alloc (.cells (madeCells #[.int .u32 0] (m * 16)) 23)) := hmk
  generalize hcs : madeCells #[.int .u32 0] (m * 16) = cs at hmk
  have CS := Lib.hid hcs
  clear hcs
  go_enter Tryz.func12, Tryz.ntmps12
  go_wp2_with fail
  refine NC.out.mono ?_
  rintro e w1 ⟨g, h, c, rfl, hg, hh, t, hb⟩
  have LC := Lib.hid (len_c w1 g h c _ t)
  rw [List.length_replicate] at LC
  have F : Hid (NewMem w m (.returned (.pointer (some ⟨w1.heap.size + 1, 0, none⟩))) ((w1.alloc (.cells cs 23)).alloc (.cells #[.int .u32 0, .int .u32 0, .int .u32 0, .int .u32 0, .int .u32 0, .int .u32 0, .int .u32 0, .int .u32 0, .pointer (some ⟨g, 0, none⟩), .slice (some ⟨w1.heap.size, 0, none⟩) (m * 16) (m * 16)] 103))) := by
    refine Lib.hid ⟨_, g, h, c, w1.heap.size, m * 16, rfl, by have := hb.size; omega, hg, hh, hb.size, ⟨?_, (t.alloc _).alloc _, ?_, by simp, by simp; omega, ?_, ?_, by omega, ?_, ?_⟩, (hb.alloc hb.size _).alloc (by have := hb.size; simp; omega) _⟩
    · have k := Ten.new (w1.alloc (.cells cs 23)) 103 0 0 0 0 0 0 0 0 (.pointer (some ⟨g, 0, none⟩)) (.slice (some ⟨w1.heap.size, 0, none⟩) (m * 16) (m * 16))
      rw [World.size_alloc] at k
      have k2 := k.congr (G' := fun _ => 0) (fun i hi => by
        match i, hi with
        | 0, _ => rfl
        | 1, _ => rfl
        | 2, _ => rfl
        | 3, _ => rfl
        | 4, _ => rfl
        | 5, _ => rfl
        | 6, _ => rfl
        | 7, _ => rfl)
      rw [List.length_replicate, Nat.mul_comm 16 m]
      exact k2
    · rw [Nat.mul_comm 16 m, ← CS.out]
      exact (zeros_wds w1 (m * 16)).alloc _
    · have := t.lt; omega
    · have := t.pgs.lt; omega
    · have := t.lt; omega
    · have := t.pgs.lt; omega
  clear t hb hg hh
  go_wp2_with fail
  refine LC.out.mono ?_
  rintro e w2 ⟨rfl, rfl⟩
  go_wp2_with fail
  go_ret
  exact F.out
set_option maxHeartbeats 2000000 in
theorem ofp_c {w : World} {M g h c d cd : Nat} {G : Nat → Nat} {T : List Page} {L : List Nat} (m : Mem w M g h c d cd G T L) (x : Nat) (hx : x < 4294967296) :
    Calls Tryz.prog 60 #[.pointer (some ⟨M, 0, none⟩), .int .u32 (x : Int)] w fun e w' => e = .returned (getP T (pageOf x)).v ∧ Below w.heap.size w w' := by
  have c8 := m.ten.c8
  have hM := m.ten.lt
  have T0 := Lib.hid (m.tab.alloc (.cells #[.int .u8 0, .bool false, .bool false, .int .u16 0, .int .u64 0] 109))
  have PC := Lib.hid (fun W => pageof_c W x hx)
  clear m
  generalize pageOf x = i at PC ⊢
  obtain ⟨p, hp⟩ : ∃ p, getP T i = p := ⟨_, rfl⟩
  have GC : ∀ W, Tab W g h c T → Calls Tryz.prog 94 #[.pointer (some ⟨g, 0, none⟩), .int .i64 i] W fun e w' => e = .returned p.v ∧ Below W.heap.size W w' := fun W t => by
    have := get_c W g h c T t i; rw [hp] at this; exact this
  rw [hp]
  obtain ⟨s, x_, wr, ow, ep⟩ := p
  have GC : Hid (∀ W, Tab W g h c T → Calls Tryz.prog 94 #[.pointer (some ⟨g, 0, none⟩), .int .i64 i] W fun e w' => e = .returned (.agg #[.int .u8 (s : Int), .bool x_, .bool wr, .int .u16 (ow : Int), .int .u64 (ep : Int)]) ∧ Below W.heap.size W w') := Lib.hid GC
  clear hp
  go_enter Tryz.func60, Tryz.ntmps60
  go_wp2_with fail
  go_region_with (first | (go_at_call 93; (with_reducible refine (PC.out _).mono ?_); rintro e w1 ⟨rfl, rfl⟩) | (go_at_call 94; (with_reducible refine (GC.out _ ?_).mono ?_); (first | exact T0.out | exact T0.out.drewN 1); rintro e w1 ⟨rfl, hb⟩; have kz := (((Blk.new w 109 #[.int .u8 0, .bool false, .bool false, .int .u16 0, .int .u64 0]).drewN 1).kept hb); obtain ⟨z0, z1, z2, z3, z4⟩ := kz.five; obtain ⟨f0, f1, f2, f3, f4⟩ := kz.five_free; have HB := Lib.hid hb; clear hb kz))
  all_goals go_wp2_with fail
  all_goals
    refine bodyPost_ret (v := .agg #[.int .u8 (s : Int), .bool x_, .bool wr, .int .u16 (ow : Int), .int .u64 (ep : Int)]) (by simp [results, Tryz.results60, go_sem, *]) rfl ?_
    exact ⟨rfl, (((((((((Below.refl _ w).alloc (Nat.le_refl _) _).drew).trans (HB.out.mono (by simp))).setCell (Nat.le_refl _) _).setCell (Nat.le_refl _) _).setCell (Nat.le_refl _) _).setCell (Nat.le_refl _) _).setCell (Nat.le_refl _) _)⟩
/-- The word of a slot: Enter. -/
def ent (k : Nat) : Nat := 2818572288 + k
theorem chk_ent (k : Nat) (hk : k < 64) : IM.chk 21 0 0 0 (k : Int) = 0 :=
  IM.chk_0 ⟨by omega, IM.regB_zero rfl, IM.regB_zero rfl, IM.regB_zero rfl, Or.inl rfl⟩ (by unfold WM.fitsB; simp; omega) (by omega) (fun _ => ⟨by omega, by omega⟩)
theorem encN_ent (k : Nat) (hk : k < 64) : IM.encN 21 0 0 0 (k : Int) = ent k := by
  unfold IM.encN ent
  omega
theorem slot_c (w : World) (k : Nat) (hk : k < 64) :
    Calls Tryz.prog 72 #[.int .u32 (k : Int)] w fun e w' => e = .returned (.int .u32 (ent k : Int)) ∧ Below w.heap.size w w' := by
  have E := fun W => I6.encode_ok 21 0 0 0 (k : Int) W (by omega) (by omega) (chk_ent k hk)
  rw [encN_ent k hk] at E
  have E : ∀ W : World, Calls Tryz.prog 77 #[.agg #[.int .u8 21, .int .u8 0, .int .u8 0, .int .u8 0, .int .i32 (k : Int)]] W fun e w' => e = .returned (.tuple #[.int .u32 (ent k : Int), .int .i64 0]) ∧ Below W.heap.size W w' := E
  have E := Lib.hid E
  have hz : (k : Int) < 64 := by omega
  generalize ent k = z at E ⊢
  go_enter Tryz.func72, Tryz.ntmps72
  go_wp2_with fail
  refine (E.out _).mono ?_
  rintro e w1 ⟨rfl, hb⟩
  have HB := Lib.hid hb
  clear hb
  go_wp2_with fail
  go_ret
  exact ⟨rfl, HB.out⟩
/-- What stands at an address. -/
def peekM (G : Nat → Nat) (L : List Nat) (x : Nat) : Nat := if x < 64 then ent x else if x < 72 then G (x - 64) else if 80 ≤ x ∧ x - 80 < L.length then L[x - 80]! else 0
set_option maxRecDepth 100000 in
set_option maxHeartbeats 2000000 in
theorem peek_c {w : World} {M g h c d cd : Nat} {G : Nat → Nat} {T : List Page} {L : List Nat} (m : Mem w M g h c d cd G T L) (x : Nat) (hx : x < 4294967296) :
    Calls Tryz.prog 47 #[.pointer (some ⟨M, 0, none⟩), .int .u32 (x : Int)] w fun e w' => e = .returned (.int .u32 (peekM G L x : Int)) ∧ Below w.heap.size w w' := by
  unfold peekM
  by_cases h0 : x < 64
  · rw [if_pos h0]
    have hz : (x : Int) < 64 := by omega
    have S := Lib.hid (fun W => slot_c W x h0)
    clear m
    go_enter Tryz.func47, Tryz.ntmps47
    go_wp2_with fail
    refine (S.out _).mono ?_
    rintro e w1 ⟨rfl, hb⟩
    have HB := Lib.hid hb
    clear hb
    go_wp2_with fail
    go_ret
    exact ⟨rfl, HB.out⟩
  rw [if_neg h0]
  have hz0 : ¬ (x : Int) < 64 := by omega
  by_cases h1 : x < 72
  · rw [if_pos h1]
    obtain ⟨y, rfl⟩ : ∃ y : Nat, x = 64 + y := ⟨x - 64, by omega⟩
    have cg := m.ten.gate y (by omega)
    have e2 : 64 + y - 64 = y := by omega
    rw [e2]
    have hy : (y : Int) < 8 := by omega
    have hy8 : y < 8 := by omega
    clear m h0 h1 hx e2 hz0
    go_enter Tryz.func47, Tryz.ntmps47
    go_wp2_with fail
    go_ret
    exact ⟨rfl, Below.refl _ _⟩
  rw [if_neg h1]
  have hz1 : ¬ (x : Int) < 72 := by omega
  have WC := Lib.hid (word_c m x hx)
  have cw := m.wds.cell (x - 80)
  unfold wordAt at WC
  clear m
  by_cases h2 : 80 ≤ x ∧ x - 80 < L.length
  · rw [if_pos h2] at WC ⊢
    have cw := cw h2.2
    generalize x - 80 = y at WC cw ⊢
    generalize L[y]! = z at cw ⊢
    clear h2 h0 h1
    go_enter Tryz.func47, Tryz.ntmps47
    go_wp2_with fail
    refine WC.out.mono ?_
    rintro e w1 ⟨rfl, rfl⟩
    go_wp2_with fail
    go_ret
    exact ⟨rfl, Below.refl _ _⟩
  · rw [if_neg h2] at WC ⊢
    clear h2 cw h0 h1
    go_enter Tryz.func47, Tryz.ntmps47
    go_wp2_with fail
    refine WC.out.mono ?_
    rintro e w1 ⟨rfl, rfl⟩
    go_wp2_with fail
    go_ret
    exact ⟨rfl, Below.refl _ _⟩
set_option maxRecDepth 100000 in
theorem gate_c {w : World} {M g h c d cd : Nat} {G : Nat → Nat} {T : List Page} {L : List Nat} (m : Mem w M g h c d cd G T L) (i : Int) :
    Calls Tryz.prog 82 #[.pointer (some ⟨M, 0, none⟩), .int .i64 i] w fun e w' => e = .returned (.int .u32 ((if 0 ≤ i ∧ i < 8 then G i.toNat else 0 : Nat) : Int)) ∧ w' = w := by
  by_cases h0 : i < 0
  · rw [if_neg (by omega)]
    clear m
    go_enter Tryz.func82, Tryz.ntmps82
    go_wp2_with fail
    go_ret
    exact ⟨rfl, rfl⟩
  by_cases h1 : 8 ≤ i
  · rw [if_neg (by omega)]
    clear m
    go_enter Tryz.func82, Tryz.ntmps82
    go_wp2_with fail
    go_ret
    exact ⟨rfl, rfl⟩
  obtain ⟨y, rfl⟩ : ∃ y : Nat, i = (y : Int) := ⟨i.toNat, by omega⟩
  rw [if_pos (by omega), Int.toNat_natCast]
  have cg := m.ten.gate y (by omega)
  have hy : (y : Int) < 8 := by omega
  have hy8 : y < 8 := by omega
  clear m h0 h1
  go_enter Tryz.func82, Tryz.ntmps82
  go_wp2_with fail
  go_ret
  exact ⟨rfl, rfl⟩
end Go.Proofs.YthnbdeibjbicpaaGreat.PM
