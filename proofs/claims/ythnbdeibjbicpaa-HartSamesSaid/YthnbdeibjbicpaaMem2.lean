/- Contracts of memory's New, of, slot, Peek, Gate. Conditions: the memory's cells. -/
import Derived.Test.YthnbdeibjbicpaaMem1
import Derived.Test.YthnbdeibjbicpaaIsa6
set_option linter.unusedSimpArgs false
namespace Go.Proofs.Ythnbdeibjbicpaa.PM
set_option linter.unusedVariables false
open Go.RowKit
theorem info_u32 : (Try.prog.info? 22).map (fun i => (i.zero, i.size, i.bytes)) = some (some (.int .u32 0), 1, 4) := by kernel_rfl
def NewMem (w : World) (m : Nat) (e : Ending) (w' : World) : Prop := ∃ M g h c d cd, e = .returned (.pointer (some ⟨M, 0, none⟩)) ∧ w.heap.size ≤ M ∧ w.heap.size ≤ g ∧ w.heap.size ≤ h ∧ w.heap.size ≤ d ∧
  Mem w' M g h c d cd (fun _ => 0) (List.replicate m nz) (List.replicate (16 * m) 0) ∧ Below w.heap.size w w'
theorem zeros_wds (w : World) (k : Nat) : Wds (w.alloc (.cells (madeCells #[.int .u32 0] k) 22)) w.heap.size (List.replicate k 0) := by
  have h := World.rowIs_made w (.int .u32 0) k 22
  refine ⟨h.lt, fun i hi => ?_, h.frozen⟩
  have hi' : i < k := by simpa using hi
  have e : (List.replicate k 0)[i]! = 0 := by simp [hi']
  rw [e]
  exact h.cell hi'
set_option maxHeartbeats 2000000 in
theorem newmem_c (w : World) (n : Int) :
    Calls Try.prog 27 #[.int .i64 n] w fun e w' => NewMem w (newLen n) e w' := by
  have hm := newLen_le n
  have NC := Lib.hid (new_c w n)
  generalize newLen n = m at hm NC ⊢
  have hmk := run_make_row' (P := Try.prog) 24 22 (.int .u32 0) 4 Try.underlying24 info_u32 rfl .i64 .i64 (m * 16) (by omega) (by omega)
  rw [Int.natCast_mul] at hmk
  have hmk : ∀ w : World, (Instr.makeSlice 24 (.int .i64 ((m : Int) * 16)) (.int .i64 ((m : Int) * 16))).run Try.prog w = .ok (.slice (some ⟨w.heap.size, 0, none⟩) (m * 16) (m * 16)) (w.alloc (.cells (madeCells #[.int .u32 0] (m * 16)) 22)) := hmk
  generalize hcs : madeCells #[.int .u32 0] (m * 16) = cs at hmk
  have CS := Lib.hid hcs
  clear hcs
  go_enter Try.func27, Try.ntmps27
  go_wp2_with fail
  refine NC.out.mono ?_
  rintro e w1 ⟨g, h, c, rfl, hg, hh, t, hb⟩
  have LC := Lib.hid (len_c w1 g h c _ t)
  rw [List.length_replicate] at LC
  have F : Hid (NewMem w m (.returned (.pointer (some ⟨w1.heap.size + 1, 0, none⟩))) ((w1.alloc (.cells cs 22)).alloc (.cells #[.int .u32 0, .int .u32 0, .int .u32 0, .int .u32 0, .int .u32 0, .int .u32 0, .int .u32 0, .int .u32 0, .pointer (some ⟨g, 0, none⟩), .slice (some ⟨w1.heap.size, 0, none⟩) (m * 16) (m * 16)] 96))) := by
    refine Lib.hid ⟨_, g, h, c, w1.heap.size, m * 16, rfl, by have := hb.size; omega, hg, hh, hb.size, ⟨?_, (t.alloc _).alloc _, ?_, by simp, by simp; omega, ?_, ?_, by omega, ?_, ?_⟩, (hb.alloc hb.size _).alloc (by have := hb.size; simp; omega) _⟩
    · have k := Ten.new (w1.alloc (.cells cs 22)) 96 0 0 0 0 0 0 0 0 (.pointer (some ⟨g, 0, none⟩)) (.slice (some ⟨w1.heap.size, 0, none⟩) (m * 16) (m * 16))
      rw [World.size_alloc] at k
      have k2 := k.congr (G' := fun _ => 0) (fun i hi => by
        match i, hi with
        | 0, _ => rfl
        | 1, _ => rfl
        | 2, _ => rfl
        | 3, _ => rfl
        | 4, _ => rfl
        | 5, _ => rfl
        | 6, _ => rfl
        | 7, _ => rfl)
      rw [List.length_replicate, Nat.mul_comm 16 m]
      exact k2
    · rw [Nat.mul_comm 16 m, ← CS.out]
      exact (zeros_wds w1 (m * 16)).alloc _
    · have := t.lt; omega
    · have := t.pgs.lt; omega
    · have := t.lt; omega
    · have := t.pgs.lt; omega
  clear t hb hg hh
  go_wp2_with fail
  refine LC.out.mono ?_
  rintro e w2 ⟨rfl, rfl⟩
  go_wp2_with fail
  go_ret
  exact F.out
set_option maxHeartbeats 2000000 in
theorem ofp_c {w : World} {M g h c d cd : Nat} {G : Nat → Nat} {T : List Page} {L : List Nat} (m : Mem w M g h c d cd G T L) (x : Nat) (hx : x < 4294967296) :
    Calls Try.prog 59 #[.pointer (some ⟨M, 0, none⟩), .int .u32 (x : Int)] w fun e w' => e = .returned (getP T (pageOf x)).v ∧ Below w.heap.size w w' := by
  have c8 := m.ten.c8
  have hM := m.ten.lt
  have T0 := Lib.hid (m.tab.alloc (.cells #[.int .u8 0, .bool false, .bool false, .int .u16 0, .int .u64 0] 59))
  have PC := Lib.hid (fun W => pageof_c W x hx)
  clear m
  generalize pageOf x = i at PC ⊢
  obtain ⟨p, hp⟩ : ∃ p, getP T i = p := ⟨_, rfl⟩
  have GC : ∀ W, Tab W g h c T → Calls Try.prog 23 #[.pointer (some ⟨g, 0, none⟩), .int .i64 i] W fun e w' => e = .returned p.v ∧ Below W.heap.size W w' := fun W t => by
    have := get_c W g h c T t i; rw [hp] at this; exact this
  rw [hp]
  obtain ⟨s, x_, wr, ow, ep⟩ := p
  have GC : Hid (∀ W, Tab W g h c T → Calls Try.prog 23 #[.pointer (some ⟨g, 0, none⟩), .int .i64 i] W fun e w' => e = .returned (.agg #[.int .u8 (s : Int), .bool x_, .bool wr, .int .u16 (ow : Int), .int .u64 (ep : Int)]) ∧ Below W.heap.size W w') := Lib.hid GC
  clear hp
  go_enter Try.func59, Try.ntmps59
  go_wp2_with fail
  go_region_with (first | (go_at_call 24; (with_reducible refine (PC.out _).mono ?_); rintro e w1 ⟨rfl, rfl⟩) | (go_at_call 23; (with_reducible refine (GC.out _ ?_).mono ?_); (first | exact T0.out | exact T0.out.drewN 1); rintro e w1 ⟨rfl, hb⟩; have kz := (((Blk.new w 59 #[.int .u8 0, .bool false, .bool false, .int .u16 0, .int .u64 0]).drewN 1).kept hb); obtain ⟨z0, z1, z2, z3, z4⟩ := kz.five; obtain ⟨f0, f1, f2, f3, f4⟩ := kz.five_free; have HB := Lib.hid hb; clear hb kz))
  all_goals go_wp2_with fail
  all_goals
    refine bodyPost_ret (v := .agg #[.int .u8 (s : Int), .bool x_, .bool wr, .int .u16 (ow : Int), .int .u64 (ep : Int)]) (by simp [results, Try.results59, go_sem, *]) rfl ?_
    exact ⟨rfl, (((((((((Below.refl _ w).alloc (Nat.le_refl _) _).drew).trans (HB.out.mono (by simp))).setCell (Nat.le_refl _) _).setCell (Nat.le_refl _) _).setCell (Nat.le_refl _) _).setCell (Nat.le_refl _) _).setCell (Nat.le_refl _) _)⟩
/-- The word of a slot: Enter. -/
def ent (k : Nat) : Nat := 2818572288 + k
theorem chk_ent (k : Nat) (hk : k < 64) : IM.chk 21 0 0 0 (k : Int) = 0 :=
  IM.chk_0 ⟨by omega, IM.regB_zero rfl, IM.regB_zero rfl, IM.regB_zero rfl, Or.inl rfl⟩ (by unfold WM.fitsB; simp; omega) (by omega) (fun _ => ⟨by omega, by omega⟩)
theorem encN_ent (k : Nat) (hk : k < 64) : IM.encN 21 0 0 0 (k : Int) = ent k := by
  unfold IM.encN ent
  omega
theorem slot_c (w : World) (k : Nat) (hk : k < 64) :
    Calls Try.prog 50 #[.int .u32 (k : Int)] w fun e w' => e = .returned (.int .u32 (ent k : Int)) ∧ Below w.heap.size w w' := by
  have E := fun W => I6.encode_ok 21 0 0 0 (k : Int) W (by omega) (by omega) (chk_ent k hk)
  rw [encN_ent k hk] at E
  have E : ∀ W : World, Calls Try.prog 74 #[.agg #[.int .u8 21, .int .u8 0, .int .u8 0, .int .u8 0, .int .i32 (k : Int)]] W fun e w' => e = .returned (.tuple #[.int .u32 (ent k : Int), .int .i64 0]) ∧ Below W.heap.size W w' := E
  have E := Lib.hid E
  have hz : (k : Int) < 64 := by omega
  generalize ent k = z at E ⊢
  go_enter Try.func50, Try.ntmps50
  go_wp2_with fail
  refine (E.out _).mono ?_
  rintro e w1 ⟨rfl, hb⟩
  have HB := Lib.hid hb
  clear hb
  go_wp2_with fail
  go_ret
  exact ⟨rfl, HB.out⟩
/-- What stands at an address. -/
def peekM (G : Nat → Nat) (L : List Nat) (x : Nat) : Nat := if x < 64 then ent x else if x < 72 then G (x - 64) else if 80 ≤ x ∧ x - 80 < L.length then L[x - 80]! else 0
set_option maxRecDepth 100000 in
set_option maxHeartbeats 2000000 in
theorem peek_c {w : World} {M g h c d cd : Nat} {G : Nat → Nat} {T : List Page} {L : List Nat} (m : Mem w M g h c d cd G T L) (x : Nat) (hx : x < 4294967296) :
    Calls Try.prog 21 #[.pointer (some ⟨M, 0, none⟩), .int .u32 (x : Int)] w fun e w' => e = .returned (.int .u32 (peekM G L x : Int)) ∧ Below w.heap.size w w' := by
  unfold peekM
  by_cases h0 : x < 64
  · rw [if_pos h0]
    have hz : (x : Int) < 64 := by omega
    have S := Lib.hid (fun W => slot_c W x h0)
    clear m
    go_enter Try.func21, Try.ntmps21
    go_wp2_with fail
    refine (S.out _).mono ?_
    rintro e w1 ⟨rfl, hb⟩
    have HB := Lib.hid hb
    clear hb
    go_wp2_with fail
    go_ret
    exact ⟨rfl, HB.out⟩
  rw [if_neg h0]
  have hz0 : ¬ (x : Int) < 64 := by omega
  by_cases h1 : x < 72
  · rw [if_pos h1]
    obtain ⟨y, rfl⟩ : ∃ y : Nat, x = 64 + y := ⟨x - 64, by omega⟩
    have cg := m.ten.gate y (by omega)
    have e2 : 64 + y - 64 = y := by omega
    rw [e2]
    have hy : (y : Int) < 8 := by omega
    have hy8 : y < 8 := by omega
    clear m h0 h1 hx e2 hz0
    go_enter Try.func21, Try.ntmps21
    go_wp2_with fail
    go_ret
    exact ⟨rfl, Below.refl _ _⟩
  rw [if_neg h1]
  have hz1 : ¬ (x : Int) < 72 := by omega
  have WC := Lib.hid (word_c m x hx)
  have cw := m.wds.cell (x - 80)
  unfold wordAt at WC
  clear m
  by_cases h2 : 80 ≤ x ∧ x - 80 < L.length
  · rw [if_pos h2] at WC ⊢
    have cw := cw h2.2
    generalize x - 80 = y at WC cw ⊢
    generalize L[y]! = z at cw ⊢
    clear h2 h0 h1
    go_enter Try.func21, Try.ntmps21
    go_wp2_with fail
    refine WC.out.mono ?_
    rintro e w1 ⟨rfl, rfl⟩
    go_wp2_with fail
    go_ret
    exact ⟨rfl, Below.refl _ _⟩
  · rw [if_neg h2] at WC ⊢
    clear h2 cw h0 h1
    go_enter Try.func21, Try.ntmps21
    go_wp2_with fail
    refine WC.out.mono ?_
    rintro e w1 ⟨rfl, rfl⟩
    go_wp2_with fail
    go_ret
    exact ⟨rfl, Below.refl _ _⟩
set_option maxRecDepth 100000 in
theorem gate_c {w : World} {M g h c d cd : Nat} {G : Nat → Nat} {T : List Page} {L : List Nat} (m : Mem w M g h c d cd G T L) (i : Int) :
    Calls Try.prog 79 #[.pointer (some ⟨M, 0, none⟩), .int .i64 i] w fun e w' => e = .returned (.int .u32 ((if 0 ≤ i ∧ i < 8 then G i.toNat else 0 : Nat) : Int)) ∧ w' = w := by
  by_cases h0 : i < 0
  · rw [if_neg (by omega)]
    clear m
    go_enter Try.func79, Try.ntmps79
    go_wp2_with fail
    go_ret
    exact ⟨rfl, rfl⟩
  by_cases h1 : 8 ≤ i
  · rw [if_neg (by omega)]
    clear m
    go_enter Try.func79, Try.ntmps79
    go_wp2_with fail
    go_ret
    exact ⟨rfl, rfl⟩
  obtain ⟨y, rfl⟩ : ∃ y : Nat, i = (y : Int) := ⟨i.toNat, by omega⟩
  rw [if_pos (by omega), Int.toNat_natCast]
  have cg := m.ten.gate y (by omega)
  have hy : (y : Int) < 8 := by omega
  have hy8 : y < 8 := by omega
  clear m h0 h1
  go_enter Try.func79, Try.ntmps79
  go_wp2_with fail
  go_ret
  exact ⟨rfl, rfl⟩
end Go.Proofs.Ythnbdeibjbicpaa.PM
