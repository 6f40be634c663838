/- HartStill walked. Conditions: the cells. -/
import Derived.Test.YthnbdeibjbicpaaLawE0
import Derived.Deep.Cut
import Derived.Test.YthnbdeibjbicpaaLawD7
namespace Go.Proofs.Ythnbdeibjbicpaa.PM
set_option linter.unusedVariables false
set_option linter.unusedSimpArgs false
open Go.RowKit
set_option maxRecDepth 100000 in
set_option maxHeartbeats 16000000 in
theorem law_hstill (s1 : Option Addr) (C : List Nat) (c1 : Nat) (s2 : Option Addr) (D : List Nat) (c2 gate : Nat) (ret : Bool) (p : Nat) (R : Nat → Nat) (s : Option Addr) (S : List Nat) (c y ep hm epoch : Nat) (w : World) (h1 : Stk w s1 C) (h2 : Stk w s2 D) (hS : Stk w s S) (n1 : S.length < 35184372088832) :
    Calls Try.prog 7 #[.agg #[.slice s1 C.length c1, .slice s2 D.length c2, .int .u32 (gate : Int), .bool ret], .agg #[.int .u32 (p : Int), .int .u32 (R 0 : Int), .int .u32 (R 1 : Int), .int .u32 (R 2 : Int), .int .u32 (R 3 : Int), .int .u32 (R 4 : Int), .int .u32 (R 5 : Int), .int .u32 (R 6 : Int), .int .u32 (R 7 : Int), .slice s S.length c, .int .u8 (y : Int), .int .u64 (ep : Int), .int .u32 (hm : Int)], .int .u64 (epoch : Int)] w fun e w' => e = .returned (.bool true) ∧ Below w.heap.size w w' := by
  have MK : ∀ W, Stk W s1 C → Stk W s2 D → Calls Try.prog 16 #[.agg #[.slice s1 C.length c1, .slice s2 D.length c2, .int .u32 (gate : Int), .bool ret]] W fun e w' => Made W C D gate ret e w' := fun W a b => made_c W s1 C c1 s2 D c2 gate ret a b
  have SN : ∀ W, Stk W s S → Calls Try.prog 17 #[.agg #[.int .u32 (p : Int), .int .u32 (R 0 : Int), .int .u32 (R 1 : Int), .int .u32 (R 2 : Int), .int .u32 (R 3 : Int), .int .u32 (R 4 : Int), .int .u32 (R 5 : Int), .int .u32 (R 6 : Int), .int .u32 (R 7 : Int), .slice s S.length c, .int .u8 (y : Int), .int .u64 (ep : Int), .int .u32 (hm : Int)], .pointer none, .int .u64 (epoch : Int)] W fun e w' => StepN W p R S y ep hm e w' := fun W a => step_nil W p R S ep hm epoch y s c a n1
  have SS : ∀ W s3 c3, Stk W s3 S → Stk W s S → Calls Try.prog 10 #[.agg #[.int .u32 (p : Int), .int .u32 (R 0 : Int), .int .u32 (R 1 : Int), .int .u32 (R 2 : Int), .int .u32 (R 3 : Int), .int .u32 (R 4 : Int), .int .u32 (R 5 : Int), .int .u32 (R 6 : Int), .int .u32 (R 7 : Int), .slice s3 S.length c3, .int .u8 (y : Int), .int .u64 (ep : Int), .int .u32 (hm : Int)], .agg #[.int .u32 (p : Int), .int .u32 (R 0 : Int), .int .u32 (R 1 : Int), .int .u32 (R 2 : Int), .int .u32 (R 3 : Int), .int .u32 (R 4 : Int), .int .u32 (R 5 : Int), .int .u32 (R 6 : Int), .int .u32 (R 7 : Int), .slice s S.length c, .int .u8 (y : Int), .int .u64 (ep : Int), .int .u32 (hm : Int)]] W fun e w' => e = .returned (.bool true) ∧ Below W.heap.size W w' := fun W s3 c3 a b => sameH_refl p R S y ep hm ▸ same_h W p R S y ep hm p R S y ep hm s3 s c3 c a b n1
  have ST : ((y : Int) != 0) = true → ∀ W M g h c' d cd G T L, Mem W M g h c' d cd G T L → Stk W s S → Calls Try.prog 17 #[.agg #[.int .u32 (p : Int), .int .u32 (R 0 : Int), .int .u32 (R 1 : Int), .int .u32 (R 2 : Int), .int .u32 (R 3 : Int), .int .u32 (R 4 : Int), .int .u32 (R 5 : Int), .int .u32 (R 6 : Int), .int .u32 (R 7 : Int), .slice s S.length c, .int .u8 (y : Int), .int .u64 (ep : Int), .int .u32 (hm : Int)], .pointer (some ⟨M, 0, none⟩), .int .u64 (epoch : Int)] W fun en w' => ∃ s5 c5, en = .returned (.tuple #[.agg #[.int .u32 (p : Int), .int .u32 (R 0 : Int), .int .u32 (R 1 : Int), .int .u32 (R 2 : Int), .int .u32 (R 3 : Int), .int .u32 (R 4 : Int), .int .u32 (R 5 : Int), .int .u32 (R 6 : Int), .int .u32 (R 7 : Int), .slice s5 S.length c5, .int .u8 (y : Int), .int .u64 (ep : Int), .int .u32 (hm : Int)], .agg #[.bool false, .bool false, .int .u32 0, .int .u32 0]]) ∧ Own w' W.heap.size (.slice s5 S.length c5) S ∧ Mem w' M g h c' d cd G T L ∧ UpdX W.heap.size d W w' := fun hw W M g h c' d cd G T L m a =>
    (step_still W M g h c' d cd G T L p R S ep hm epoch y s c m a n1 hw).mono fun en w' r => by
      obtain ⟨v, he, sp⟩ := r
      obtain ⟨s5, c5, rfl, _⟩ := sp.1.form
      exact ⟨s5, c5, he, sp.1, sp.2.1, sp.2.2⟩
  have SM := fun W M g h c' d cd b cb e ce G T L (m : Mem W M g h c' d cd G T L) (r : RM W b e T L) => same9_c W M g h c' d cd b cb e ce G T L m r
  unfold PM.rm at SM
  have NE := note_ne
  have NQ := note_eq
  replace MK := Lib.hid MK
  replace SN := Lib.hid SN
  replace SS := Lib.hid SS
  replace ST := Lib.hid ST
  replace SM := Lib.hid SM
  replace NE := Lib.hid NE
  replace NQ := Lib.hid NQ
  generalize hW : (w.alloc (.cells #[.slice s1 C.length c1, .slice s2 D.length c2, .int .u32 (gate : Int), .bool ret] 44)).alloc (.cells #[.int .u32 (p : Int), .int .u32 (R 0 : Int), .int .u32 (R 1 : Int), .int .u32 (R 2 : Int), .int .u32 (R 3 : Int), .int .u32 (R 4 : Int), .int .u32 (R 5 : Int), .int .u32 (R 6 : Int), .int .u32 (R 7 : Int), .slice s S.length c, .int .u8 (y : Int), .int .u64 (ep : Int), .int .u32 (hm : Int)] 28) = W0
  have KH : Hid (Blk W0 (w.heap.size + 1) 28 #[.int .u32 (p : Int), .int .u32 (R 0 : Int), .int .u32 (R 1 : Int), .int .u32 (R 2 : Int), .int .u32 (R 3 : Int), .int .u32 (R 4 : Int), .int .u32 (R 5 : Int), .int .u32 (R 6 : Int), .int .u32 (R 7 : Int), .slice s S.length c, .int .u8 (y : Int), .int .u64 (ep : Int), .int .u32 (hm : Int)]) := Lib.hid (by
    have k := Blk.new (w.alloc (.cells #[.slice s1 C.length c1, .slice s2 D.length c2, .int .u32 (gate : Int), .bool ret] 44)) 28 #[.int .u32 (p : Int), .int .u32 (R 0 : Int), .int .u32 (R 1 : Int), .int .u32 (R 2 : Int), .int .u32 (R 3 : Int), .int .u32 (R 4 : Int), .int .u32 (R 5 : Int), .int .u32 (R 6 : Int), .int .u32 (R 7 : Int), .slice s S.length c, .int .u8 (y : Int), .int .u64 (ep : Int), .int .u32 (hm : Int)]
    have e : (w.alloc (.cells #[.slice s1 C.length c1, .slice s2 D.length c2, .int .u32 (gate : Int), .bool ret] 44)).heap.size = w.heap.size + 1 := by simp
    rw [e] at k
    exact hW ▸ k)
  have B0 : Hid (Below w.heap.size w W0) := Lib.hid (hW ▸ ((Below.refl _ w).alloc (Nat.le_refl _) _).alloc (by simp) _)
  have Z0 : Hid (W0.heap.size = w.heap.size + 2) := Lib.hid (hW ▸ by simp)
  have H1 := Lib.hid h1
  have H2 := Lib.hid h2
  have HS := Lib.hid hS
  have KW := Lib.hid hW
  clear h1 h2 hS n1 hW
  go_enter Try.func7, Try.ntmps7
  go_wp2_with fail
  (try rw [KW.out])
  refine (MK.out _ (H1.out.kept B0.out) (H2.out.kept B0.out)).mono ?_
  rintro en w1 ⟨M, g, h, c', d, cd, b, cb, e, ce, rfl, LD⟩
  generalize landG gate = G at LD ⊢
  generalize landT ret = T at LD ⊢
  generalize landL C D = L at LD ⊢
  unfold PM.rm
  generalize hX1 : w1.alloc (.cells #[.int .u32 (G 0 : Int), .int .u32 (G 1 : Int), .int .u32 (G 2 : Int), .int .u32 (G 3 : Int), .int .u32 (G 4 : Int), .int .u32 (G 5 : Int), .int .u32 (G 6 : Int), .int .u32 (G 7 : Int), .slice (some ⟨b, 0, none⟩) T.length cb, .slice (some ⟨e, 0, none⟩) L.length ce] 40) = X1
  have SZ : Hid (W0.heap.size ≤ d ∧ d < w1.heap.size ∧ b ≠ d ∧ e ≠ d) := Lib.hid ⟨LD.ld, LD.mem.wds.lt, LD.bd, LD.ed⟩
  have KB1 : Hid (Blk X1 w1.heap.size 40 #[.int .u32 (G 0 : Int), .int .u32 (G 1 : Int), .int .u32 (G 2 : Int), .int .u32 (G 3 : Int), .int .u32 (G 4 : Int), .int .u32 (G 5 : Int), .int .u32 (G 6 : Int), .int .u32 (G 7 : Int), .slice (some ⟨b, 0, none⟩) T.length cb, .slice (some ⟨e, 0, none⟩) L.length ce]) := Lib.hid (hX1 ▸ Blk.new w1 _ _)
  have KH1 : Hid (Blk X1 (w.heap.size + 1) 28 #[.int .u32 (p : Int), .int .u32 (R 0 : Int), .int .u32 (R 1 : Int), .int .u32 (R 2 : Int), .int .u32 (R 3 : Int), .int .u32 (R 4 : Int), .int .u32 (R 5 : Int), .int .u32 (R 6 : Int), .int .u32 (R 7 : Int), .slice s S.length c, .int .u8 (y : Int), .int .u64 (ep : Int), .int .u32 (hm : Int)]) := Lib.hid (hX1 ▸ (KH.out.kept LD.bel).alloc _)
  have M1 : Hid (Mem X1 M g h c' d cd G T L) := Lib.hid (hX1 ▸ LD.mem.alloc _)
  have R1' : Hid (RM X1 b e T L) := Lib.hid (hX1 ▸ LD.rm.alloc _)
  have B1 : Hid (Below w.heap.size w X1) := Lib.hid (hX1 ▸ (B0.out.trans (LD.bel.mono B0.out.size)).alloc (Nat.le_trans B0.out.size LD.bel.size) _)
  have KX1 := Lib.hid hX1
  clear hX1 LD KH
  go_upto_region 2 with fail
  (try rw [KX1.out])
  have t0 : X1.cell? ⟨(w.heap.size + 1), 0, none⟩ = some (.int .u32 (p : Int)) := KH1.out.cell 0
  have t1 : X1.cell? ⟨(w.heap.size + 1), 1, none⟩ = some (.int .u32 (R 0 : Int)) := KH1.out.cell 1
  have t2 : X1.cell? ⟨(w.heap.size + 1), 2, none⟩ = some (.int .u32 (R 1 : Int)) := KH1.out.cell 2
  have t3 : X1.cell? ⟨(w.heap.size + 1), 3, none⟩ = some (.int .u32 (R 2 : Int)) := KH1.out.cell 3
  have t4 : X1.cell? ⟨(w.heap.size + 1), 4, none⟩ = some (.int .u32 (R 3 : Int)) := KH1.out.cell 4
  have t5 : X1.cell? ⟨(w.heap.size + 1), 5, none⟩ = some (.int .u32 (R 4 : Int)) := KH1.out.cell 5
  have t6 : X1.cell? ⟨(w.heap.size + 1), 6, none⟩ = some (.int .u32 (R 5 : Int)) := KH1.out.cell 6
  have t7 : X1.cell? ⟨(w.heap.size + 1), 7, none⟩ = some (.int .u32 (R 6 : Int)) := KH1.out.cell 7
  have t8 : X1.cell? ⟨(w.heap.size + 1), 8, none⟩ = some (.int .u32 (R 7 : Int)) := KH1.out.cell 8
  have t9 : X1.cell? ⟨(w.heap.size + 1), 9, none⟩ = some (.slice s S.length c) := KH1.out.cell 9
  have t10 : X1.cell? ⟨(w.heap.size + 1), 10, none⟩ = some (.int .u8 (y : Int)) := KH1.out.cell 10
  have t11 : X1.cell? ⟨(w.heap.size + 1), 11, none⟩ = some (.int .u64 (ep : Int)) := KH1.out.cell 11
  have t12 : X1.cell? ⟨(w.heap.size + 1), 12, none⟩ = some (.int .u32 (hm : Int)) := KH1.out.cell 12
  go_wp2_with fail
  refine (SN.out _ (HS.out.kept B1.out)).mono ?_
  rintro en w2 ⟨v3, rfl, ow, hb⟩
  obtain ⟨s3, c3, rfl, _⟩ := ow.form
  unfold hv
  generalize hX2 : (w2.alloc (.cells #[.int .u32 (p : Int), .int .u32 (R 0 : Int), .int .u32 (R 1 : Int), .int .u32 (R 2 : Int), .int .u32 (R 3 : Int), .int .u32 (R 4 : Int), .int .u32 (R 5 : Int), .int .u32 (R 6 : Int), .int .u32 (R 7 : Int), .slice s3 S.length c3, .int .u8 (y : Int), .int .u64 (ep : Int), .int .u32 (hm : Int)] 28)).alloc (.cells #[.bool false, .bool false, .int .u32 0, .int .u32 0] 46) = X2
  have BX : Hid (Below w2.heap.size w2 X2) := Lib.hid (hX2 ▸ ((Below.refl _ w2).alloc (Nat.le_refl _) _).alloc (by simp) _)
  have KX : Hid (Blk X2 w2.heap.size 28 #[.int .u32 (p : Int), .int .u32 (R 0 : Int), .int .u32 (R 1 : Int), .int .u32 (R 2 : Int), .int .u32 (R 3 : Int), .int .u32 (R 4 : Int), .int .u32 (R 5 : Int), .int .u32 (R 6 : Int), .int .u32 (R 7 : Int), .slice s3 S.length c3, .int .u8 (y : Int), .int .u64 (ep : Int), .int .u32 (hm : Int)]) := Lib.hid (hX2 ▸ (Blk.new w2 _ _).alloc _)
  have KN : Hid (Blk X2 (w2.heap.size + 1) 46 #[.bool false, .bool false, .int .u32 0, .int .u32 0]) := Lib.hid (by
    have k := Blk.new (w2.alloc (.cells #[.int .u32 (p : Int), .int .u32 (R 0 : Int), .int .u32 (R 1 : Int), .int .u32 (R 2 : Int), .int .u32 (R 3 : Int), .int .u32 (R 4 : Int), .int .u32 (R 5 : Int), .int .u32 (R 6 : Int), .int .u32 (R 7 : Int), .slice s3 S.length c3, .int .u8 (y : Int), .int .u64 (ep : Int), .int .u32 (hm : Int)] 28)) 46 #[.bool false, .bool false, .int .u32 0, .int .u32 0]
    have e : (w2.alloc (.cells #[.int .u32 (p : Int), .int .u32 (R 0 : Int), .int .u32 (R 1 : Int), .int .u32 (R 2 : Int), .int .u32 (R 3 : Int), .int .u32 (R 4 : Int), .int .u32 (R 5 : Int), .int .u32 (R 6 : Int), .int .u32 (R 7 : Int), .slice s3 S.length c3, .int .u8 (y : Int), .int .u64 (ep : Int), .int .u32 (hm : Int)] 28)).heap.size = w2.heap.size + 1 := by simp
    rw [e] at k
    exact hX2 ▸ k)
  have KB2 := Lib.hid ((KB1.out.kept hb).kept BX.out)
  have KH2 := Lib.hid ((KH1.out.kept hb).kept BX.out)
  have M2 := Lib.hid ((M1.out.kept hb).kept BX.out)
  have R2 := Lib.hid ((R1'.out.kept hb).kept BX.out)
  have B2 := Lib.hid ((B1.out.trans (hb.mono B1.out.size)).trans (BX.out.mono (Nat.le_trans B1.out.size hb.size)))
  have O2 := Lib.hid (ow.kept BX.out)
  have L1 : Hid (w1.heap.size < X1.heap.size) := Lib.hid KB1.out.lt
  have KX2 := Lib.hid hX2
  clear hX2 ow hb BX KB1 KH1 M1 R1' B1 t0 t1 t2 t3 t4 t5 t6 t7 t8 t9 t10 t11 t12
  go_upto_region 3 with fail
  (try rw [KX2.out])
  have x0 : X2.cell? ⟨w2.heap.size, 0, none⟩ = some (.int .u32 (p : Int)) := KX.out.cell 0
  have x1 : X2.cell? ⟨w2.heap.size, 1, none⟩ = some (.int .u32 (R 0 : Int)) := KX.out.cell 1
  have x2 : X2.cell? ⟨w2.heap.size, 2, none⟩ = some (.int .u32 (R 1 : Int)) := KX.out.cell 2
  have x3 : X2.cell? ⟨w2.heap.size, 3, none⟩ = some (.int .u32 (R 2 : Int)) := KX.out.cell 3
  have x4 : X2.cell? ⟨w2.heap.size, 4, none⟩ = some (.int .u32 (R 3 : Int)) := KX.out.cell 4
  have x5 : X2.cell? ⟨w2.heap.size, 5, none⟩ = some (.int .u32 (R 4 : Int)) := KX.out.cell 5
  have x6 : X2.cell? ⟨w2.heap.size, 6, none⟩ = some (.int .u32 (R 5 : Int)) := KX.out.cell 6
  have x7 : X2.cell? ⟨w2.heap.size, 7, none⟩ = some (.int .u32 (R 6 : Int)) := KX.out.cell 7
  have x8 : X2.cell? ⟨w2.heap.size, 8, none⟩ = some (.int .u32 (R 7 : Int)) := KX.out.cell 8
  have x9 : X2.cell? ⟨w2.heap.size, 9, none⟩ = some (.slice s3 S.length c3) := KX.out.cell 9
  have x10 : X2.cell? ⟨w2.heap.size, 10, none⟩ = some (.int .u8 (y : Int)) := KX.out.cell 10
  have x11 : X2.cell? ⟨w2.heap.size, 11, none⟩ = some (.int .u64 (ep : Int)) := KX.out.cell 11
  have x12 : X2.cell? ⟨w2.heap.size, 12, none⟩ = some (.int .u32 (hm : Int)) := KX.out.cell 12
  have t0 : X2.cell? ⟨(w.heap.size + 1), 0, none⟩ = some (.int .u32 (p : Int)) := KH2.out.cell 0
  have t1 : X2.cell? ⟨(w.heap.size + 1), 1, none⟩ = some (.int .u32 (R 0 : Int)) := KH2.out.cell 1
  have t2 : X2.cell? ⟨(w.heap.size + 1), 2, none⟩ = some (.int .u32 (R 1 : Int)) := KH2.out.cell 2
  have t3 : X2.cell? ⟨(w.heap.size + 1), 3, none⟩ = some (.int .u32 (R 2 : Int)) := KH2.out.cell 3
  have t4 : X2.cell? ⟨(w.heap.size + 1), 4, none⟩ = some (.int .u32 (R 3 : Int)) := KH2.out.cell 4
  have t5 : X2.cell? ⟨(w.heap.size + 1), 5, none⟩ = some (.int .u32 (R 4 : Int)) := KH2.out.cell 5
  have t6 : X2.cell? ⟨(w.heap.size + 1), 6, none⟩ = some (.int .u32 (R 5 : Int)) := KH2.out.cell 6
  have t7 : X2.cell? ⟨(w.heap.size + 1), 7, none⟩ = some (.int .u32 (R 6 : Int)) := KH2.out.cell 7
  have t8 : X2.cell? ⟨(w.heap.size + 1), 8, none⟩ = some (.int .u32 (R 7 : Int)) := KH2.out.cell 8
  have t9 : X2.cell? ⟨(w.heap.size + 1), 9, none⟩ = some (.slice s S.length c) := KH2.out.cell 9
  have t10 : X2.cell? ⟨(w.heap.size + 1), 10, none⟩ = some (.int .u8 (y : Int)) := KH2.out.cell 10
  have t11 : X2.cell? ⟨(w.heap.size + 1), 11, none⟩ = some (.int .u64 (ep : Int)) := KH2.out.cell 11
  have t12 : X2.cell? ⟨(w.heap.size + 1), 12, none⟩ = some (.int .u32 (hm : Int)) := KH2.out.cell 12
  go_wp2_with fail
  refine (SS.out _ _ _ O2.out.stk (HS.out.kept B2.out)).mono ?_
  rintro en w3 ⟨rfl, hb⟩
  have KN3 := Lib.hid (KN.out.kept hb)
  have KB3 := Lib.hid (KB2.out.kept hb)
  have KH3 := Lib.hid (KH2.out.kept hb)
  have M3 := Lib.hid (M2.out.kept hb)
  have R3 := Lib.hid (R2.out.kept hb)
  have B3 := Lib.hid (B2.out.trans (hb.mono B2.out.size))
  clear hb KX KN KB2 KH2 M2 R2 B2 O2 x0 x1 x2 x3 x4 x5 x6 x7 x8 x9 x10 x11 x12 t0 t1 t2 t3 t4 t5 t6 t7 t8 t9 t10 t11 t12
  have n0 : w3.cell? ⟨(w2.heap.size + 1), 0, none⟩ = some (.bool false) := KN3.out.cell 0
  have n1 : w3.cell? ⟨(w2.heap.size + 1), 1, none⟩ = some (.bool false) := KN3.out.cell 1
  have n2 : w3.cell? ⟨(w2.heap.size + 1), 2, none⟩ = some (.int .u32 0) := KN3.out.cell 2
  have n3 : w3.cell? ⟨(w2.heap.size + 1), 3, none⟩ = some (.int .u32 0) := KN3.out.cell 3
  have t10 : w3.cell? ⟨(w.heap.size + 1), 10, none⟩ = some (.int .u8 (y : Int)) := KH3.out.cell 10
  have ne := NE.out
  cases hw : ((y : Int) != 0) with
  | false =>
    go_wp2_with fail
    refine (awake09_c _).mono ?_
    rintro en w9 ⟨rfl, hb⟩
    have B9 := Lib.hid (B3.out.trans (hb.mono B3.out.size))
    clear hb
    go_wp2_with fail
    go_ret
    exact ⟨rfl, B9.out⟩
  | true =>
    have ST1 := Lib.hid (ST.out hw)
    clear t10
    have t0 : w3.cell? ⟨(w.heap.size + 1), 0, none⟩ = some (.int .u32 (p : Int)) := KH3.out.cell 0
    have t1 : w3.cell? ⟨(w.heap.size + 1), 1, none⟩ = some (.int .u32 (R 0 : Int)) := KH3.out.cell 1
    have t2 : w3.cell? ⟨(w.heap.size + 1), 2, none⟩ = some (.int .u32 (R 1 : Int)) := KH3.out.cell 2
    have t3 : w3.cell? ⟨(w.heap.size + 1), 3, none⟩ = some (.int .u32 (R 2 : Int)) := KH3.out.cell 3
    have t4 : w3.cell? ⟨(w.heap.size + 1), 4, none⟩ = some (.int .u32 (R 3 : Int)) := KH3.out.cell 4
    have t5 : w3.cell? ⟨(w.heap.size + 1), 5, none⟩ = some (.int .u32 (R 4 : Int)) := KH3.out.cell 5
    have t6 : w3.cell? ⟨(w.heap.size + 1), 6, none⟩ = some (.int .u32 (R 5 : Int)) := KH3.out.cell 6
    have t7 : w3.cell? ⟨(w.heap.size + 1), 7, none⟩ = some (.int .u32 (R 6 : Int)) := KH3.out.cell 7
    have t8 : w3.cell? ⟨(w.heap.size + 1), 8, none⟩ = some (.int .u32 (R 7 : Int)) := KH3.out.cell 8
    have t9 : w3.cell? ⟨(w.heap.size + 1), 9, none⟩ = some (.slice s S.length c) := KH3.out.cell 9
    have t10 : w3.cell? ⟨(w.heap.size + 1), 10, none⟩ = some (.int .u8 (y : Int)) := KH3.out.cell 10
    have t11 : w3.cell? ⟨(w.heap.size + 1), 11, none⟩ = some (.int .u64 (ep : Int)) := KH3.out.cell 11
    have t12 : w3.cell? ⟨(w.heap.size + 1), 12, none⟩ = some (.int .u32 (hm : Int)) := KH3.out.cell 12
    go_wp2_with fail
    refine (ST1.out _ _ _ _ _ _ _ _ _ _ M3.out (HS.out.kept B3.out)).mono ?_
    rintro en w4 ⟨s5, c5, rfl, ow, m4, u4⟩
    obtain ⟨z1, z2, z3, z4⟩ := SZ.out
    have z0 := Z0.out
    have zl := KB3.out.lt
    have zd := M3.out.wds.lt
    generalize hX4 : (w4.alloc (.cells #[.int .u32 (p : Int), .int .u32 (R 0 : Int), .int .u32 (R 1 : Int), .int .u32 (R 2 : Int), .int .u32 (R 3 : Int), .int .u32 (R 4 : Int), .int .u32 (R 5 : Int), .int .u32 (R 6 : Int), .int .u32 (R 7 : Int), .slice s5 S.length c5, .int .u8 (y : Int), .int .u64 (ep : Int), .int .u32 (hm : Int)] 28)).alloc (.cells #[.bool false, .bool false, .int .u32 0, .int .u32 0] 46) = X4
    have BX : Hid (Below w4.heap.size w4 X4) := Lib.hid (hX4 ▸ ((Below.refl _ w4).alloc (Nat.le_refl _) _).alloc (by simp) _)
    have KX : Hid (Blk X4 w4.heap.size 28 #[.int .u32 (p : Int), .int .u32 (R 0 : Int), .int .u32 (R 1 : Int), .int .u32 (R 2 : Int), .int .u32 (R 3 : Int), .int .u32 (R 4 : Int), .int .u32 (R 5 : Int), .int .u32 (R 6 : Int), .int .u32 (R 7 : Int), .slice s5 S.length c5, .int .u8 (y : Int), .int .u64 (ep : Int), .int .u32 (hm : Int)]) := Lib.hid (hX4 ▸ (Blk.new w4 _ _).alloc _)
    have KN : Hid (Blk X4 (w4.heap.size + 1) 46 #[.bool false, .bool false, .int .u32 0, .int .u32 0]) := Lib.hid (by
      have k := Blk.new (w4.alloc (.cells #[.int .u32 (p : Int), .int .u32 (R 0 : Int), .int .u32 (R 1 : Int), .int .u32 (R 2 : Int), .int .u32 (R 3 : Int), .int .u32 (R 4 : Int), .int .u32 (R 5 : Int), .int .u32 (R 6 : Int), .int .u32 (R 7 : Int), .slice s5 S.length c5, .int .u8 (y : Int), .int .u64 (ep : Int), .int .u32 (hm : Int)] 28)) 46 #[.bool false, .bool false, .int .u32 0, .int .u32 0]
      have e : (w4.alloc (.cells #[.int .u32 (p : Int), .int .u32 (R 0 : Int), .int .u32 (R 1 : Int), .int .u32 (R 2 : Int), .int .u32 (R 3 : Int), .int .u32 (R 4 : Int), .int .u32 (R 5 : Int), .int .u32 (R 6 : Int), .int .u32 (R 7 : Int), .slice s5 S.length c5, .int .u8 (y : Int), .int .u64 (ep : Int), .int .u32 (hm : Int)] 28)).heap.size = w4.heap.size + 1 := by simp
      rw [e] at k
      exact hX4 ▸ k)
    have B4 : Hid (Below w.heap.size w w4) := Lib.hid (u4.below B3.out (by omega))
    have KB4 := Lib.hid ((u4.blk KB3.out (by omega)).kept BX.out)
    have KH4 := Lib.hid ((u4.blk KH3.out (by omega)).kept BX.out)
    have M4 := Lib.hid (m4.kept BX.out)
    have R4 := Lib.hid ((R3.out.updx u4 z3 z4).kept BX.out)
    have B5 := Lib.hid (B4.out.trans (BX.out.mono B4.out.size))
    have O4 := Lib.hid (ow.kept BX.out)
    have KX4 := Lib.hid hX4
    clear hX4 ow m4 u4 z0 z1 z2 z3 z4 zl zd BX KB3 KH3 M3 R3 B3 B4 t0 t1 t2 t3 t4 t5 t6 t7 t8 t9 t10 t11 t12 n0 n1 n2 n3 KN3 ne
    go_upto_region 7 with fail
    (try rw [KX4.out])
    have x0 : X4.cell? ⟨w4.heap.size, 0, none⟩ = some (.int .u32 (p : Int)) := KX.out.cell 0
    have x1 : X4.cell? ⟨w4.heap.size, 1, none⟩ = some (.int .u32 (R 0 : Int)) := KX.out.cell 1
    have x2 : X4.cell? ⟨w4.heap.size, 2, none⟩ = some (.int .u32 (R 1 : Int)) := KX.out.cell 2
    have x3 : X4.cell? ⟨w4.heap.size, 3, none⟩ = some (.int .u32 (R 2 : Int)) := KX.out.cell 3
    have x4 : X4.cell? ⟨w4.heap.size, 4, none⟩ = some (.int .u32 (R 3 : Int)) := KX.out.cell 4
    have x5 : X4.cell? ⟨w4.heap.size, 5, none⟩ = some (.int .u32 (R 4 : Int)) := KX.out.cell 5
    have x6 : X4.cell? ⟨w4.heap.size, 6, none⟩ = some (.int .u32 (R 5 : Int)) := KX.out.cell 6
    have x7 : X4.cell? ⟨w4.heap.size, 7, none⟩ = some (.int .u32 (R 6 : Int)) := KX.out.cell 7
    have x8 : X4.cell? ⟨w4.heap.size, 8, none⟩ = some (.int .u32 (R 7 : Int)) := KX.out.cell 8
    have x9 : X4.cell? ⟨w4.heap.size, 9, none⟩ = some (.slice s5 S.length c5) := KX.out.cell 9
    have x10 : X4.cell? ⟨w4.heap.size, 10, none⟩ = some (.int .u8 (y : Int)) := KX.out.cell 10
    have x11 : X4.cell? ⟨w4.heap.size, 11, none⟩ = some (.int .u64 (ep : Int)) := KX.out.cell 11
    have x12 : X4.cell? ⟨w4.heap.size, 12, none⟩ = some (.int .u32 (hm : Int)) := KX.out.cell 12
    have t0 : X4.cell? ⟨(w.heap.size + 1), 0, none⟩ = some (.int .u32 (p : Int)) := KH4.out.cell 0
    have t1 : X4.cell? ⟨(w.heap.size + 1), 1, none⟩ = some (.int .u32 (R 0 : Int)) := KH4.out.cell 1
    have t2 : X4.cell? ⟨(w.heap.size + 1), 2, none⟩ = some (.int .u32 (R 1 : Int)) := KH4.out.cell 2
    have t3 : X4.cell? ⟨(w.heap.size + 1), 3, none⟩ = some (.int .u32 (R 2 : Int)) := KH4.out.cell 3
    have t4 : X4.cell? ⟨(w.heap.size + 1), 4, none⟩ = some (.int .u32 (R 3 : Int)) := KH4.out.cell 4
    have t5 : X4.cell? ⟨(w.heap.size + 1), 5, none⟩ = some (.int .u32 (R 4 : Int)) := KH4.out.cell 5
    have t6 : X4.cell? ⟨(w.heap.size + 1), 6, none⟩ = some (.int .u32 (R 5 : Int)) := KH4.out.cell 6
    have t7 : X4.cell? ⟨(w.heap.size + 1), 7, none⟩ = some (.int .u32 (R 6 : Int)) := KH4.out.cell 7
    have t8 : X4.cell? ⟨(w.heap.size + 1), 8, none⟩ = some (.int .u32 (R 7 : Int)) := KH4.out.cell 8
    have t9 : X4.cell? ⟨(w.heap.size + 1), 9, none⟩ = some (.slice s S.length c) := KH4.out.cell 9
    have t10 : X4.cell? ⟨(w.heap.size + 1), 10, none⟩ = some (.int .u8 (y : Int)) := KH4.out.cell 10
    have t11 : X4.cell? ⟨(w.heap.size + 1), 11, none⟩ = some (.int .u64 (ep : Int)) := KH4.out.cell 11
    have t12 : X4.cell? ⟨(w.heap.size + 1), 12, none⟩ = some (.int .u32 (hm : Int)) := KH4.out.cell 12
    go_wp2_with fail
    refine (SS.out _ _ _ O4.out.stk (HS.out.kept B5.out)).mono ?_
    rintro en w5 ⟨rfl, hb⟩
    have KN5 := Lib.hid (KN.out.kept hb)
    have KB5 := Lib.hid (KB4.out.kept hb)
    have M5 := Lib.hid (M4.out.kept hb)
    have R5 := Lib.hid (R4.out.kept hb)
    have B6 := Lib.hid (B5.out.trans (hb.mono B5.out.size))
    clear hb KX KN KB4 KH4 M4 R4 B5 O4 x0 x1 x2 x3 x4 x5 x6 x7 x8 x9 x10 x11 x12 t0 t1 t2 t3 t4 t5 t6 t7 t8 t9 t10 t11 t12
    have n0 : w5.cell? ⟨(w4.heap.size + 1), 0, none⟩ = some (.bool false) := KN5.out.cell 0
    have n1 : w5.cell? ⟨(w4.heap.size + 1), 1, none⟩ = some (.bool false) := KN5.out.cell 1
    have n2 : w5.cell? ⟨(w4.heap.size + 1), 2, none⟩ = some (.int .u32 0) := KN5.out.cell 2
    have n3 : w5.cell? ⟨(w4.heap.size + 1), 3, none⟩ = some (.int .u32 0) := KN5.out.cell 3
    have r0 : w5.cell? ⟨w1.heap.size, 0, none⟩ = some (.int .u32 (G 0 : Int)) := KB5.out.cell 0
    have r1 : w5.cell? ⟨w1.heap.size, 1, none⟩ = some (.int .u32 (G 1 : Int)) := KB5.out.cell 1
    have r2 : w5.cell? ⟨w1.heap.size, 2, none⟩ = some (.int .u32 (G 2 : Int)) := KB5.out.cell 2
    have r3 : w5.cell? ⟨w1.heap.size, 3, none⟩ = some (.int .u32 (G 3 : Int)) := KB5.out.cell 3
    have r4 : w5.cell? ⟨w1.heap.size, 4, none⟩ = some (.int .u32 (G 4 : Int)) := KB5.out.cell 4
    have r5 : w5.cell? ⟨w1.heap.size, 5, none⟩ = some (.int .u32 (G 5 : Int)) := KB5.out.cell 5
    have r6 : w5.cell? ⟨w1.heap.size, 6, none⟩ = some (.int .u32 (G 6 : Int)) := KB5.out.cell 6
    have r7 : w5.cell? ⟨w1.heap.size, 7, none⟩ = some (.int .u32 (G 7 : Int)) := KB5.out.cell 7
    have r8 : w5.cell? ⟨w1.heap.size, 8, none⟩ = some (.slice (some ⟨b, 0, none⟩) T.length cb) := KB5.out.cell 8
    have r9 : w5.cell? ⟨w1.heap.size, 9, none⟩ = some (.slice (some ⟨e, 0, none⟩) L.length ce) := KB5.out.cell 9
    have nq := NQ.out
    go_wp2_with fail
    refine (SM.out _ _ _ _ _ _ _ _ _ _ _ _ _ _ M5.out R5.out).mono ?_
    rintro en w6 ⟨rfl, hb⟩
    have B7 := Lib.hid (B6.out.trans (hb.mono B6.out.size))
    clear hb n0 n1 n2 n3 r0 r1 r2 r3 r4 r5 r6 r7 r8 r9
    go_wp2_with fail
    refine (awake09_c _).mono ?_
    rintro en w7 ⟨rfl, hb⟩
    have B8 := Lib.hid (B7.out.trans (hb.mono B7.out.size))
    clear hb
    go_wp2_with fail
    go_ret
    exact ⟨rfl, B8.out⟩
end Go.Proofs.Ythnbdeibjbicpaa.PM
