/- Contracts of the reference's memory: New, Size, PageOf, there, Peek, Gate. Conditions: the memory's cells. -/
import Derived.Test.YthnbdeibjbicpaaGreatMem3
import Derived.Test.YthnbdeibjbicpaaGreatRef1
set_option linter.unusedSimpArgs false
namespace Go.Proofs.YthnbdeibjbicpaaGreat.PM
set_option linter.unusedVariables false
open Go.RowKit
/-- The reference's memory as a value. -/
abbrev rm (G : Nat → Nat) (b cb : Nat) (T : List Page) (d cd : Nat) (L : List Nat) : Value :=
  .agg #[.int .u32 (G 0 : Int), .int .u32 (G 1 : Int), .int .u32 (G 2 : Int), .int .u32 (G 3 : Int), .int .u32 (G 4 : Int), .int .u32 (G 5 : Int), .int .u32 (G 6 : Int), .int .u32 (G 7 : Int), .slice (some ⟨b, 0, none⟩) T.length cb, .slice (some ⟨d, 0, none⟩) L.length cd]
/-- The blocks that it names. -/
structure RM (w : World) (b d : Nat) (T : List Page) (L : List Nat) : Prop where
  pgs : Pgs w b T
  wds : Wds w d L
  few : T.length ≤ 256
  len : L.length = 16 * T.length
theorem RM.kept {w w' : World} {b d : Nat} {T : List Page} {L : List Nat} (r : RM w b d T L) (hb : Below w.heap.size w w') : RM w' b d T L := ⟨r.pgs.kept hb, r.wds.kept hb, r.few, r.len⟩
theorem RM.alloc {w : World} {b d : Nat} {T : List Page} {L : List Nat} (r : RM w b d T L) (o : Obj) : RM (w.alloc o) b d T L := r.kept ((Below.refl _ _).alloc (Nat.le_refl _) o)
theorem RM.drewN {w : World} {b d : Nat} {T : List Page} {L : List Nat} (r : RM w b d T L) (n : Nat) : RM (w.drewN n) b d T L := r.kept (below_drewN (Below.refl _ _) n)
theorem rpageof_c (w : World) (x : Nat) (hx : x < 4294967296) :
    Calls Tryz.prog 63 #[.int .u32 (x : Int)] w fun e w' => e = .returned (.int .i64 (pageOf x)) ∧ w' = w := by
  unfold pageOf
  by_cases h0 : x < 80
  · rw [if_pos (Or.inl h0)]
    have hz : (x : Int) < 80 := by omega
    go_enter Tryz.func63, Tryz.ntmps63
    go_wp2_with fail
    go_ret
    exact ⟨rfl, rfl⟩
  have hz0 : ¬ (x : Int) < 80 := by omega
  by_cases h1 : 4176 ≤ x
  · rw [if_pos (Or.inr h1)]
    have hz : (4176 : Int) ≤ (x : Int) := by omega
    go_enter Tryz.func63, Tryz.ntmps63
    go_wp2_with fail
    go_ret
    exact ⟨rfl, rfl⟩
  rw [if_neg (by omega)]
  have hz1 : ¬ (4176 : Int) ≤ (x : Int) := by omega
  obtain ⟨y, rfl⟩ : ∃ y : Nat, x = 80 + y := ⟨x - 80, by omega⟩
  have e : ((80 + y : Nat) : Int) = 80 + (y : Int) := by omega
  rw [e] at *
  have e2 : 80 + y - 80 = y := by omega
  rw [e2]
  go_enter Tryz.func63, Tryz.ntmps63
  go_wp2_with fail
  go_ret
  exact ⟨ret_int (by omega), rfl⟩
theorem below_setCells {B g : Nat} {a : World} (hg : B ≤ g) : ∀ (vs : List Value) (o : Nat) (w : World), Below B a w → Below B a (w.setCells g o vs)
  | [], _, _, h => h
  | v :: r, o, w, h => below_setCells hg r (o + 1) _ (h.setCell hg v)
theorem pgs_setCells {b g : Nat} {T : List Page} (hne : b ≠ g) : ∀ (vs : List Value) (o : Nat) (w : World), Pgs w b T → Pgs (w.setCells g o vs) b T
  | [], _, _, h => h
  | v :: r, o, w, h => pgs_setCells hne r (o + 1) _ (h.far hne v)
theorem wds_setCells {d g : Nat} {L : List Nat} (hne : d ≠ g) : ∀ (vs : List Value) (o : Nat) (w : World), Wds w d L → Wds (w.setCells g o vs) d L
  | [], _, _, h => h
  | v :: r, o, w, h => wds_setCells hne r (o + 1) _ (h.far hne v)
theorem size_setCells (g : Nat) : ∀ (vs : List Value) (o : Nat) (w : World), (w.setCells g o vs).heap.size = w.heap.size
  | [], _, _ => rfl
  | v :: r, o, w => by rw [World.setCells, size_setCells g r (o + 1)]; simp [World.setCell]
def RNew (w : World) (m : Nat) (e : Ending) (w' : World) : Prop := ∃ b cb d cd, e = .returned (rm (fun _ => 0) b cb (List.replicate m nz) d cd (List.replicate (16 * m) 0)) ∧ w.heap.size ≤ b ∧ w.heap.size ≤ d ∧ b ≠ d ∧ RM w' b d (List.replicate m nz) (List.replicate (16 * m) 0) ∧ Below w.heap.size w w'
set_option maxRecDepth 100000 in
set_option maxHeartbeats 4000000 in
theorem rnewmem_c (w : World) (n : Int) :
    Calls Tryz.prog 13 #[.int .i64 n] w fun e w' => RNew w (newLen n) e w' := by
  have hm := newLen_le n
  have NC := Lib.hid (fun W => rnew_c W n)
  generalize newLen n = m at hm NC ⊢
  have hmk := run_make_row' (P := Tryz.prog) 22 23 (.int .u32 0) 4 Tryz.underlying22 info_u32 rfl .i64 .i64 (16 * m) (by omega) (by omega)
  rw [Int.natCast_mul] at hmk
  have hmk : ∀ w : World, (Instr.makeSlice 22 (.int .i64 (16 * (m : Int))) (.int .i64 (16 * (m : Int)))).run Tryz.prog w = .ok (.slice (some ⟨w.heap.size, 0, none⟩) (16 * m) (16 * m)) (w.alloc (.cells (madeCells #[.int .u32 0] (16 * m)) 23)) := hmk
  generalize hcs : madeCells #[.int .u32 0] (16 * m) = cs at hmk
  have CS := Lib.hid hcs
  clear hcs
  go_enter Tryz.func13, Tryz.ntmps13
  go_wp2_with fail
  refine (NC.out _).mono ?_
  rintro e w1 ⟨b, cb, rfl, hbb, hp, hb⟩
  have hbl := hp.lt
  have hbb : w.heap.size + 1 ≤ b := by simpa using hbb
  have KZ := ((Blk.new w 36 #[.int .u32 0, .int .u32 0, .int .u32 0, .int .u32 0, .int .u32 0, .int .u32 0, .int .u32 0, .int .u32 0, .slice none 0 0, .slice none 0 0]).kept hb)
  have HP := Lib.hid hp
  have HB := Lib.hid (((Below.refl _ w).alloc (Nat.le_refl _) (.cells #[.int .u32 0, .int .u32 0, .int .u32 0, .int .u32 0, .int .u32 0, .int .u32 0, .int .u32 0, .int .u32 0, .slice none 0 0, .slice none 0 0] 36)).trans (hb.mono (by simp)))
  obtain ⟨z0, z1, z2, z3, z4, z5, z6, z7, z8, z9⟩ := blkc10 KZ
  have f0 := KZ.frozen 0
  have f1 := KZ.frozen 1
  have f2 := KZ.frozen 2
  have f3 := KZ.frozen 3
  have f4 := KZ.frozen 4
  have f5 := KZ.frozen 5
  have f6 := KZ.frozen 6
  have f7 := KZ.frozen 7
  have f8 := KZ.frozen 8
  have f9 := KZ.frozen 9
  have hlt := KZ.lt
  clear hp hb KZ
  unfold rv
  simp only [List.length_replicate]
  have F : Hid (∀ (vs : List Value) (o : Obj), RNew w m (.returned (.agg #[.int .u32 0, .int .u32 0, .int .u32 0, .int .u32 0, .int .u32 0, .int .u32 0, .int .u32 0, .int .u32 0, .slice (some ⟨b, 0, none⟩) m cb, .slice (some ⟨w1.heap.size + 1, 0, none⟩) (16 * m) (16 * m)])) ((((w1.setCells w.heap.size 0 vs).alloc o).alloc (.cells cs 23)).drew)) := by
    refine Lib.hid (fun vs o => ?_)
    have sz := size_setCells w.heap.size vs 0 w1
    have k := zeros_wds ((w1.setCells w.heap.size 0 vs).alloc o) (16 * m)
    rw [World.size_alloc, sz, CS.out] at k
    have p := pgs_setCells (b := b) (g := w.heap.size) (by omega) vs 0 w1 HP.out
    exact ⟨b, cb, w1.heap.size + 1, 16 * m, by simp [rm], by omega, by omega, by omega, ⟨((p.alloc o).alloc _).drewN 1, k.drewN 1, by simpa using hm, by simp⟩, (((below_setCells (Nat.le_refl _) vs 0 w1 HB.out).alloc (by rw [sz]; omega) o).alloc (by rw [World.size_alloc, sz]; omega) _).drew⟩
  go_wp2_with fail
  go_region
  all_goals go_wp2_with fail
  refine bodyPost_ret (v := .agg #[.int .u32 0, .int .u32 0, .int .u32 0, .int .u32 0, .int .u32 0, .int .u32 0, .int .u32 0, .int .u32 0, .slice (some ⟨b, 0, none⟩) m cb, .slice (some ⟨w1.heap.size + 1, 0, none⟩) (16 * m) (16 * m)]) (by simp [results, Tryz.results13, go_sem, *]) rfl ?_
  exact F.out [.int .u32 0, .int .u32 0, .int .u32 0, .int .u32 0, .int .u32 0, .int .u32 0, .int .u32 0, .int .u32 0, .slice (some ⟨b, 0, none⟩) m cb, .slice (some ⟨w1.heap.size + 1, 0, none⟩) (16 * m) (16 * m)] _
def tenc (G : Nat → Nat) (u v : Value) : Array Value := #[.int .u32 (G 0 : Int), .int .u32 (G 1 : Int), .int .u32 (G 2 : Int), .int .u32 (G 3 : Int), .int .u32 (G 4 : Int), .int .u32 (G 5 : Int), .int .u32 (G 6 : Int), .int .u32 (G 7 : Int), u, v]
theorem rsize_c (w : World) (G : Nat → Nat) (b cb d cd : Nat) (T : List Page) (L : List Nat) (hL : L.length ≤ 4096) :
    Calls Tryz.prog 46 #[rm G b cb T d cd L] w fun e w' => e = .returned (.int .i64 (80 + (L.length : Int))) ∧ Below w.heap.size w w' := by
  unfold rm
  generalize L.length = n at hL
  go_enter Tryz.func46, Tryz.ntmps46
  go_wp2_with fail
  go_ret
  exact ⟨rfl, (Below.refl _ _).alloc (Nat.le_refl _) _⟩
set_option maxRecDepth 100000 in
theorem there_c (w : World) (G : Nat → Nat) (b cb d cd : Nat) (T : List Page) (L : List Nat) (hL : L.length ≤ 4096) (x : Nat) (hx : x < 4294967296) :
    Calls Tryz.prog 61 #[rm G b cb T d cd L, .int .u32 (x : Int)] w fun e w' => e = .returned (.bool (inB L x)) ∧ Below w.heap.size w w' := by
  have SC := Lib.hid (fun W => rsize_c W G b cb d cd T L hL)
  unfold inB
  by_cases h0 : 80 ≤ x
  · have hz : (80 : Int) ≤ (x : Int) := by omega
    have e1 : (decide (80 ≤ x) && decide (x - 80 < L.length)) = decide ((x : Int) < 80 + (L.length : Int)) := by
      rw [decide_eq_true h0, Bool.true_and, decide_eq_decide]; omega
    rw [e1]
    unfold rm at SC ⊢
    clear e1 h0
    go_enter Tryz.func61, Tryz.ntmps61
    go_wp2_with fail
    refine (SC.out _).mono ?_
    rintro e w1 ⟨rfl, hb⟩
    have B := Lib.hid (((Below.refl _ w).alloc (Nat.le_refl _) _).trans (hb.mono (by simp)))
    clear hb
    go_wp2_with fail
    go_ret
    exact ⟨rfl, B.out⟩
  · have hz : ¬ (80 : Int) ≤ (x : Int) := by omega
    rw [decide_eq_false h0, Bool.false_and]
    unfold rm
    clear SC h0
    go_enter Tryz.func61, Tryz.ntmps61
    go_wp2_with fail
    go_ret
    exact ⟨rfl, (Below.refl _ _).alloc (Nat.le_refl _) _⟩
theorem rgate_v (G : Nat → Nat) (u v : Value) (i : Nat) (hi : i < 8) : (tenc G u v)[i]? = some (.int .u32 (G i : Int)) := by
  match i, hi with
  | 0, _ => rfl
  | 1, _ => rfl
  | 2, _ => rfl
  | 3, _ => rfl
  | 4, _ => rfl
  | 5, _ => rfl
  | 6, _ => rfl
  | 7, _ => rfl
set_option maxRecDepth 100000 in
theorem rgate_c (w : World) (G : Nat → Nat) (b cb d cd : Nat) (T : List Page) (L : List Nat) (i : Int) :
    Calls Tryz.prog 44 #[rm G b cb T d cd L, .int .i64 i] w fun e w' => e = .returned (.int .u32 ((if 0 ≤ i ∧ i < 8 then G i.toNat else 0 : Nat) : Int)) ∧ Below w.heap.size w w' := by
  by_cases h0 : i < 0
  · rw [if_neg (by omega)]
    unfold rm
    go_enter Tryz.func44, Tryz.ntmps44
    go_wp2_with fail
    go_ret
    exact ⟨rfl, (Below.refl _ _).alloc (Nat.le_refl _) _⟩
  by_cases h1 : 8 ≤ i
  · rw [if_neg (by omega)]
    unfold rm
    go_enter Tryz.func44, Tryz.ntmps44
    go_wp2_with fail
    go_ret
    exact ⟨rfl, (Below.refl _ _).alloc (Nat.le_refl _) _⟩
  obtain ⟨y, rfl⟩ : ∃ y : Nat, i = (y : Int) := ⟨i.toNat, by omega⟩
  rw [if_pos (by omega), Int.toNat_natCast]
  have hy : (y : Int) < 8 := by omega
  have hy8 : y < 8 := by omega
  have cv := rgate_v G (.slice (some ⟨b, 0, none⟩) T.length cb) (.slice (some ⟨d, 0, none⟩) L.length cd) y hy8
  unfold tenc at cv
  unfold rm
  clear h0 h1
  go_enter Tryz.func44, Tryz.ntmps44
  go_wp2_with fail
  go_ret
  exact ⟨rfl, (Below.refl _ _).alloc (Nat.le_refl _) _⟩
end Go.Proofs.YthnbdeibjbicpaaGreat.PM

/- Contracts of the reference's memory: Peek, Fetch, Load. Conditions: the memory's cells. -/
set_option linter.unusedSimpArgs false
namespace Go.Proofs.YthnbdeibjbicpaaGreat.PM
set_option linter.unusedVariables false
open Go.RowKit
set_option maxRecDepth 100000 in
set_option maxHeartbeats 4000000 in
theorem rpeek_c (w : World) (G : Nat → Nat) (b cb d cd : Nat) (T : List Page) (L : List Nat) (r : RM w b d T L) (x : Nat) (hx : x < 4294967296) :
    Calls Tryz.prog 48 #[rm G b cb T d cd L, .int .u32 (x : Int)] w fun e w' => e = .returned (.int .u32 (peekM G L x : Int)) ∧ Below w.heap.size w w' := by
  unfold peekM
  by_cases h0 : x < 64
  · rw [if_pos h0]
    have hz : (x : Int) < 64 := by omega
    have E := fun W => I6.rencode_ok 21 0 0 0 (x : Int) W (by omega) (by omega) (chk_ent x h0)
    rw [encN_ent x h0] at E
    have E : ∀ W : World, Calls Tryz.prog 87 #[.agg #[.int .u8 21, .int .u8 0, .int .u8 0, .int .u8 0, .int .i32 (x : Int)]] W fun e w' => e = .returned (.tuple #[.int .u32 (ent x : Int), .int .i64 0]) ∧ Below W.heap.size W w' := E
    have E := Lib.hid E
    generalize ent x = z at E ⊢
    unfold rm
    clear r h0 hx
    go_enter Tryz.func48, Tryz.ntmps48
    go_wp2_with fail
    refine (E.out _).mono ?_
    rintro e w1 ⟨rfl, hb⟩
    have B := Lib.hid (((Below.refl _ w).alloc (Nat.le_refl _) _).trans (hb.mono (by simp)))
    clear hb
    go_wp2_with fail
    go_ret
    exact ⟨rfl, B.out⟩
  rw [if_neg h0]
  have hz0 : ¬ (x : Int) < 64 := by omega
  by_cases h1 : x < 72
  · rw [if_pos h1]
    obtain ⟨y, rfl⟩ : ∃ y : Nat, x = 64 + y := ⟨x - 64, by omega⟩
    have e2 : 64 + y - 64 = y := by omega
    rw [e2]
    have hy : (y : Int) < 8 := by omega
    have hy8 : y < 8 := by omega
    have cv := rgate_v G (.slice (some ⟨b, 0, none⟩) T.length cb) (.slice (some ⟨d, 0, none⟩) L.length cd) y hy8
    unfold tenc at cv
    unfold rm
    clear r h0 h1 hx e2 hz0
    go_enter Tryz.func48, Tryz.ntmps48
    go_wp2_with fail
    go_ret
    exact ⟨rfl, (Below.refl _ _).alloc (Nat.le_refl _) _⟩
  rw [if_neg h1]
  have hz1 : ¬ (x : Int) < 72 := by omega
  have TH := fun W => there_c W G b cb d cd T L (by have := r.len; have := r.few; omega) x hx
  have hiff : inB L x = true ↔ 80 ≤ x ∧ x - 80 < L.length := by unfold inB; simp
  unfold rm at TH ⊢
  by_cases h2 : 80 ≤ x ∧ x - 80 < L.length
  · rw [if_pos h2]
    rw [hiff.2 h2] at TH
    have TH := Lib.hid TH
    obtain ⟨y, rfl⟩ : ∃ y : Nat, x = 80 + y := ⟨x - 80, by omega⟩
    have e2 : 80 + y - 80 = y := by omega
    rw [e2] at h2 ⊢
    have hyl : y < L.length := h2.2
    have hyz : (y : Int) < (L.length : Int) := by omega
    have cw := r.wds.cell y hyl
    have hdl := r.wds.lt
    have hy4 : y < 4096 := by have := r.len; have := r.few; omega
    have hy4z : (y : Int) < 4096 := by omega
    generalize L[y]! = z at cw ⊢
    clear r h0 h1 h2 hx e2 hiff hz0 hz1
    go_enter Tryz.func48, Tryz.ntmps48
    go_wp2_with fail
    refine (TH.out _).mono ?_
    rintro e w1 ⟨rfl, hb⟩
    have B := Lib.hid (((Below.refl _ w).alloc (Nat.le_refl _) (.cells #[.int .u32 (G 0 : Int), .int .u32 (G 1 : Int), .int .u32 (G 2 : Int), .int .u32 (G 3 : Int), .int .u32 (G 4 : Int), .int .u32 (G 5 : Int), .int .u32 (G 6 : Int), .int .u32 (G 7 : Int), .slice (some ⟨b, 0, none⟩) T.length cb, .slice (some ⟨d, 0, none⟩) L.length cd] 36)).trans (hb.mono (by simp)))
    have cw1 : w1.cell? ⟨d, y, none⟩ = some (.int .u32 (z : Int)) := (B.out.cell (p := ⟨d, y, none⟩) hdl).trans cw
    have TC := (Blk.new w 36 #[.int .u32 (G 0 : Int), .int .u32 (G 1 : Int), .int .u32 (G 2 : Int), .int .u32 (G 3 : Int), .int .u32 (G 4 : Int), .int .u32 (G 5 : Int), .int .u32 (G 6 : Int), .int .u32 (G 7 : Int), .slice (some ⟨b, 0, none⟩) T.length cb, .slice (some ⟨d, 0, none⟩) L.length cd]).kept hb
    obtain ⟨t0, t1, t2, t3, t4, t5, t6, t7, t8, t9⟩ := blkc10 TC
    have tl := TC.lt
    clear TC
    clear hb cw
    go_wp2_with fail
    go_ret
    exact ⟨rfl, B.out⟩
  · rw [if_neg h2]
    rw [show inB L x = false from by cases h : inB L x; rfl; exact absurd (hiff.1 h) h2] at TH
    have TH := Lib.hid TH
    clear r h0 h1 h2 hx hiff
    go_enter Tryz.func48, Tryz.ntmps48
    go_wp2_with fail
    refine (TH.out _).mono ?_
    rintro e w1 ⟨rfl, hb⟩
    have B := Lib.hid (((Below.refl _ w).alloc (Nat.le_refl _) _).trans (hb.mono (by simp)))
    clear hb
    go_wp2_with fail
    go_ret
    exact ⟨rfl, B.out⟩
end Go.Proofs.YthnbdeibjbicpaaGreat.PM
