/- HartBranches walked. No condition. -/
import Derived.Test.YthnbdeibjbicpaaLawE2
namespace Go.Proofs.Ythnbdeibjbicpaa.PM
set_option linter.unusedVariables false
set_option linter.unusedSimpArgs false
open Go.RowKit
theorem dec_15 : ∀ i : Fin 20, IM.dOp (2034237440 + i.val) = 15 ∧ IM.dD (2034237440 + i.val) = 1 ∧ IM.dA (2034237440 + i.val) = 2 ∧ IM.dB (2034237440 + i.val) = 0 ∧ IM.dI (2034237440 + i.val) = (i.val : Int) ∧ IM.chk 15 1 2 0 (i.val : Int) = 0 ∧ IM.encN 15 1 2 0 (i.val : Int) = 2034237440 + i.val := by decide
theorem tgt_15 : ∀ i : Fin 20, tgtN 80 15 1 2 0 (i.val : Int) = 81 + i.val := by decide
theorem or_15 : ∀ i : Fin 20, Go.bits .or .u32 2034237440 (i.val : Int) = ((2034237440 + i.val : Nat) : Int) := by decide
theorem dec_16 : ∀ i : Fin 20, IM.dOp (2168455168 + i.val) = 16 ∧ IM.dD (2168455168 + i.val) = 1 ∧ IM.dA (2168455168 + i.val) = 2 ∧ IM.dB (2168455168 + i.val) = 0 ∧ IM.dI (2168455168 + i.val) = (i.val : Int) ∧ IM.chk 16 1 2 0 (i.val : Int) = 0 ∧ IM.encN 16 1 2 0 (i.val : Int) = 2168455168 + i.val := by decide
theorem tgt_16 : ∀ i : Fin 20, tgtN 81 16 1 2 0 (i.val : Int) = 82 + i.val := by decide
theorem or_16 : ∀ i : Fin 20, Go.bits .or .u32 2168455168 (i.val : Int) = ((2168455168 + i.val : Nat) : Int) := by decide
set_option maxRecDepth 100000 in
set_option maxHeartbeats 16000000 in
theorem branches_c (a b by_ im : Nat) (w : World) (ha : a < 4294967296) (hb : b < 4294967296) (hby : by_ < 256) (hk : by_ % 20 = im) :
    Calls Try.prog 6 #[.int .u32 (a : Int), .int .u32 (b : Int), .int .u8 (by_ : Int)] w fun e w' => e = .returned (.bool true) ∧ Below w.heap.size w w' := by
  have him : im < 20 := by omega
  obtain ⟨q1, hq1⟩ : ∃ q1, 2034237440 + im = q1 := ⟨_, rfl⟩
  obtain ⟨q2, hq2⟩ : ∃ q2, 2168455168 + im = q2 := ⟨_, rfl⟩
  have o1 : Go.bits .or .u32 2034237440 (im : Int) = (q1 : Int) := by rw [← hq1]; exact or_15 ⟨im, him⟩
  have o2 : Go.bits .or .u32 2168455168 (im : Int) = (q2 : Int) := by rw [← hq2]; exact or_16 ⟨im, him⟩
  obtain ⟨p1, hp1⟩ : ∃ p1, (if a = b then 81 + im else 81) = p1 := ⟨_, rfl⟩
  obtain ⟨p2, hp2⟩ : ∃ p2, (if a = b then 82 else 82 + im) = p2 := ⟨_, rfl⟩
  have S1 : ∀ W M g h c d cd src cap, Mem W M g h c d cd (landG 0) (landT false) (landL [q1, q2] []) → Calls Try.prog 17 #[.agg #[.int .u32 80, .int .u32 0, .int .u32 (a : Int), .int .u32 (b : Int), .int .u32 0, .int .u32 0, .int .u32 0, .int .u32 0, .int .u32 0, .slice src 0 cap, .int .u8 0, .int .u64 0, .int .u32 0], .pointer (some ⟨M, 0, none⟩), .int .u64 0] W fun e w' => ∃ src2 cap2, e = .returned (.tuple #[.agg #[.int .u32 (p1 : Int), .int .u32 0, .int .u32 (a : Int), .int .u32 (b : Int), .int .u32 0, .int .u32 0, .int .u32 0, .int .u32 0, .int .u32 0, .slice src2 0 cap2, .int .u8 0, .int .u64 0, .int .u32 0], .agg #[.bool false, .bool false, .int .u32 0, .int .u32 0]]) ∧ Mem w' M g h c d cd (landG 0) (landT false) (landL [q1, q2] []) ∧ UpdX W.heap.size d W w' := fun W M g h c d cd src cap m => by
    have f : fetchM (landG 0) (landT false) (landL [q1, q2] []) 80 0 = (q1, 1, true) := fetch_land [q1, q2] [] 0 0 0 (by simp) (by decide)
    have hs : hstep (landG 0) (landT false) (landL [q1, q2] []) 80 (fun i => [0, a, b, 0, 0, 0, 0, 0].getD i 0 : Nat → Nat) [] 0 0 0 0 = ⟨p1, (fun i => [0, a, b, 0, 0, 0, 0, 0].getD i 0 : Nat → Nat), [], 0, 0, (landL [q1, q2] []), false, false, 0, 0⟩ := by
      obtain ⟨d1, d2, d3, d4, d5, d6, d7⟩ := dec_15 ⟨im, him⟩
      simp only at d1 d2 d3 d4 d5 d6 d7
      rw [hq1] at d1 d2 d3 d4 d5 d7
      have tg := tgt_15 ⟨im, him⟩
      simp only at tg
      unfold hstep
      rw [f]
      simp only
      rw [d1, d2, d3, d4, d5, d6, d7, if_neg (by decide), if_neg (by decide), if_neg (by simp)]
      show (⟨if a = b then tgtN 80 15 1 2 0 (im : Int) else inc 80, (fun i => [0, a, b, 0, 0, 0, 0, 0].getD i 0 : Nat → Nat), [], 0, 0, (landL [q1, q2] []), false, false, 0, 0⟩ : Out) = _
      rw [tg, ← hp1]
      rfl
    have key := step_c W M g h c d cd (landG 0) (landT false) (landL [q1, q2] []) 80 (fun i => [0, a, b, 0, 0, 0, 0, 0].getD i 0 : Nat → Nat) [] 0 0 0 0 src cap m (fun i hi => by cases hi) (by decide) (by decide) (getD8_lt (by decide) ha hb (by decide) (by decide) (by decide) (by decide) (by decide)) (by rw [f]; simp only; omega)
    rw [hs] at key
    exact key.mono fun e w' r => by
      obtain ⟨s, he, sp⟩ := r
      obtain ⟨src2, cap2, rfl, _⟩ := sp.1.form
      exact ⟨src2, cap2, he, sp.2.1, sp.2.2⟩
  have S2 : ∀ W M g h c d cd src cap, Mem W M g h c d cd (landG 0) (landT false) (landL [q1, q2] []) → Calls Try.prog 17 #[.agg #[.int .u32 81, .int .u32 0, .int .u32 (a : Int), .int .u32 (b : Int), .int .u32 0, .int .u32 0, .int .u32 0, .int .u32 0, .int .u32 0, .slice src 0 cap, .int .u8 0, .int .u64 0, .int .u32 0], .pointer (some ⟨M, 0, none⟩), .int .u64 0] W fun e w' => ∃ src2 cap2, e = .returned (.tuple #[.agg #[.int .u32 (p2 : Int), .int .u32 0, .int .u32 (a : Int), .int .u32 (b : Int), .int .u32 0, .int .u32 0, .int .u32 0, .int .u32 0, .int .u32 0, .slice src2 0 cap2, .int .u8 0, .int .u64 0, .int .u32 0], .agg #[.bool false, .bool false, .int .u32 0, .int .u32 0]]) ∧ Mem w' M g h c d cd (landG 0) (landT false) (landL [q1, q2] []) ∧ UpdX W.heap.size d W w' := fun W M g h c d cd src cap m => by
    have f : fetchM (landG 0) (landT false) (landL [q1, q2] []) 81 0 = (q2, 1, true) := fetch_land [q1, q2] [] 0 1 0 (by simp) (by decide)
    have hs : hstep (landG 0) (landT false) (landL [q1, q2] []) 81 (fun i => [0, a, b, 0, 0, 0, 0, 0].getD i 0 : Nat → Nat) [] 0 0 0 0 = ⟨p2, (fun i => [0, a, b, 0, 0, 0, 0, 0].getD i 0 : Nat → Nat), [], 0, 0, (landL [q1, q2] []), false, false, 0, 0⟩ := by
      obtain ⟨d1, d2, d3, d4, d5, d6, d7⟩ := dec_16 ⟨im, him⟩
      simp only at d1 d2 d3 d4 d5 d6 d7
      rw [hq2] at d1 d2 d3 d4 d5 d7
      have tg := tgt_16 ⟨im, him⟩
      simp only at tg
      unfold hstep
      rw [f]
      simp only
      rw [d1, d2, d3, d4, d5, d6, d7, if_neg (by decide), if_neg (by decide), if_neg (by simp)]
      show (⟨if a = b then inc 81 else tgtN 81 16 1 2 0 (im : Int), (fun i => [0, a, b, 0, 0, 0, 0, 0].getD i 0 : Nat → Nat), [], 0, 0, (landL [q1, q2] []), false, false, 0, 0⟩ : Out) = _
      rw [tg, ← hp2]
      rfl
    have key := step_c W M g h c d cd (landG 0) (landT false) (landL [q1, q2] []) 81 (fun i => [0, a, b, 0, 0, 0, 0, 0].getD i 0 : Nat → Nat) [] 0 0 0 0 src cap m (fun i hi => by cases hi) (by decide) (by decide) (getD8_lt (by decide) ha hb (by decide) (by decide) (by decide) (by decide) (by decide)) (by rw [f]; simp only; omega)
    rw [hs] at key
    exact key.mono fun e w' r => by
      obtain ⟨s, he, sp⟩ := r
      obtain ⟨src2, cap2, rfl, _⟩ := sp.1.form
      exact ⟨src2, cap2, he, sp.2.1, sp.2.2⟩
  have MK : ∀ W, Stk W (some ⟨w.heap.size, 0, none⟩) [q1, q2] → Calls Try.prog 16 #[.agg #[.slice (some ⟨w.heap.size, 0, none⟩) 2 2, .slice none 0 0, .int .u32 0, .bool false]] W fun e w' => Made W [q1, q2] [] 0 false e w' := fun W q => made_c W _ _ 2 none [] 0 0 false q Stk.nil
  have KC : Hid (Stk (w.alloc (.cells #[.int .u32 (q1 : Int), .int .u32 (q2 : Int)] 22)) (some ⟨w.heap.size, 0, none⟩) [q1, q2]) := Lib.hid (by
    have K := Blk.new w 22 #[.int .u32 (q1 : Int), .int .u32 (q2 : Int)]
    intro i hi
    refine ⟨w.heap.size, 0, rfl, K.lt, ?_⟩
    rw [Nat.zero_add]
    match i, hi with
    | 0, _ => exact K.cell 0
    | 1, _ => exact K.cell 1)
  have B0 : Hid (Below w.heap.size w (w.alloc (.cells #[.int .u32 (q1 : Int), .int .u32 (q2 : Int)] 22))) := Lib.hid ((Below.refl _ w).alloc (Nat.le_refl _) _)
  have htm : Int.tmod (by_ : Int) 20 = (im : Int) := by rw [Int.tmod_eq_emod_of_nonneg (by omega)]; omega
  have hdz : (by_ : Int) < 256 := by omega
  have hiz : (im : Int) < 20 := by omega
  replace S1 := Lib.hid S1
  replace S2 := Lib.hid S2
  replace MK := Lib.hid MK
  replace hp1 := Lib.hid hp1
  replace hp2 := Lib.hid hp2
  clear hq1 hq2 hk hby ha hb him
  go_enter Try.func6, Try.ntmps6
  go_wp2_with fail
  refine (MK.out _ KC.out).mono ?_
  rintro en w1 ⟨M, g, h, c, d, cd, b0, cb, e0, ce, rfl, LD⟩
  generalize landG 0 = G at S1 S2 LD ⊢
  generalize landT false = T at S1 S2 LD ⊢
  generalize landL [q1, q2] [] = L at S1 S2 LD ⊢
  unfold PM.rm
  clear o1 o2
  go_upto_region 6 with fail
  generalize hX1 : (w1.alloc (.cells #[.int .u32 (G 0 : Int), .int .u32 (G 1 : Int), .int .u32 (G 2 : Int), .int .u32 (G 3 : Int), .int .u32 (G 4 : Int), .int .u32 (G 5 : Int), .int .u32 (G 6 : Int), .int .u32 (G 7 : Int), .slice (some ⟨b0, 0, none⟩) T.length cb, .slice (some ⟨e0, 0, none⟩) L.length ce] 40)).alloc (.cells #[.int .u32 80, .int .u32 0, .int .u32 (a : Int), .int .u32 (b : Int), .int .u32 0, .int .u32 0, .int .u32 0, .int .u32 0, .int .u32 0, .slice none 0 0, .int .u8 0, .int .u64 0, .int .u32 0] 28) = X1
  have HBX : Hid (Blk X1 (w1.heap.size + 1) 28 #[.int .u32 80, .int .u32 0, .int .u32 (a : Int), .int .u32 (b : Int), .int .u32 0, .int .u32 0, .int .u32 0, .int .u32 0, .int .u32 0, .slice none 0 0, .int .u8 0, .int .u64 0, .int .u32 0]) := Lib.hid (by
    have q := Blk.new (w1.alloc (.cells #[.int .u32 (G 0 : Int), .int .u32 (G 1 : Int), .int .u32 (G 2 : Int), .int .u32 (G 3 : Int), .int .u32 (G 4 : Int), .int .u32 (G 5 : Int), .int .u32 (G 6 : Int), .int .u32 (G 7 : Int), .slice (some ⟨b0, 0, none⟩) T.length cb, .slice (some ⟨e0, 0, none⟩) L.length ce] 40)) 28 #[.int .u32 80, .int .u32 0, .int .u32 (a : Int), .int .u32 (b : Int), .int .u32 0, .int .u32 0, .int .u32 0, .int .u32 0, .int .u32 0, .slice none 0 0, .int .u8 0, .int .u64 0, .int .u32 0]
    have z : (w1.alloc (.cells #[.int .u32 (G 0 : Int), .int .u32 (G 1 : Int), .int .u32 (G 2 : Int), .int .u32 (G 3 : Int), .int .u32 (G 4 : Int), .int .u32 (G 5 : Int), .int .u32 (G 6 : Int), .int .u32 (G 7 : Int), .slice (some ⟨b0, 0, none⟩) T.length cb, .slice (some ⟨e0, 0, none⟩) L.length ce] 40)).heap.size = w1.heap.size + 1 := by simp
    rw [z] at q
    exact hX1 ▸ q)
  have M1 : Hid (Mem X1 M g h c d cd G T L) := Lib.hid (hX1 ▸ (LD.mem.alloc _).alloc _)
  have B1 : Hid (Below w.heap.size w X1) := Lib.hid (hX1 ▸ ((B0.out.trans (LD.bel.mono B0.out.size)).alloc (Nat.le_trans B0.out.size LD.bel.size) _).alloc (by have := B0.out.size; have := LD.bel.size; simp at this ⊢; omega) _)
  have SZ : Hid (w.heap.size ≤ d ∧ M < w1.heap.size ∧ g < w1.heap.size ∧ h < w1.heap.size ∧ d < w1.heap.size ∧ w.heap.size ≤ w1.heap.size) := Lib.hid ⟨Nat.le_trans B0.out.size LD.ld, LD.mem.ten.lt, LD.mem.tab.lt, LD.mem.tab.pgs.lt, LD.mem.wds.lt, Nat.le_trans B0.out.size LD.bel.size⟩
  clear hX1 LD KC
  have t0 : X1.cell? ⟨(w1.heap.size + 1), 0, none⟩ = some (.int .u32 80) := HBX.out.cell 0
  have t1 : X1.cell? ⟨(w1.heap.size + 1), 1, none⟩ = some (.int .u32 0) := HBX.out.cell 1
  have t2 : X1.cell? ⟨(w1.heap.size + 1), 2, none⟩ = some (.int .u32 (a : Int)) := HBX.out.cell 2
  have t3 : X1.cell? ⟨(w1.heap.size + 1), 3, none⟩ = some (.int .u32 (b : Int)) := HBX.out.cell 3
  have t4 : X1.cell? ⟨(w1.heap.size + 1), 4, none⟩ = some (.int .u32 0) := HBX.out.cell 4
  have t5 : X1.cell? ⟨(w1.heap.size + 1), 5, none⟩ = some (.int .u32 0) := HBX.out.cell 5
  have t6 : X1.cell? ⟨(w1.heap.size + 1), 6, none⟩ = some (.int .u32 0) := HBX.out.cell 6
  have t7 : X1.cell? ⟨(w1.heap.size + 1), 7, none⟩ = some (.int .u32 0) := HBX.out.cell 7
  have t8 : X1.cell? ⟨(w1.heap.size + 1), 8, none⟩ = some (.int .u32 0) := HBX.out.cell 8
  have t9 : X1.cell? ⟨(w1.heap.size + 1), 9, none⟩ = some (.slice none 0 0) := HBX.out.cell 9
  have t10 : X1.cell? ⟨(w1.heap.size + 1), 10, none⟩ = some (.int .u8 0) := HBX.out.cell 10
  have t11 : X1.cell? ⟨(w1.heap.size + 1), 11, none⟩ = some (.int .u64 0) := HBX.out.cell 11
  have t12 : X1.cell? ⟨(w1.heap.size + 1), 12, none⟩ = some (.int .u32 0) := HBX.out.cell 12
  go_wp2_with fail
  refine (S1.out _ _ _ _ _ _ _ _ _ M1.out).mono ?_
  rintro en w2 ⟨sa, ca, rfl, m2, u2⟩
  have B2 := Lib.hid (u2.below B1.out SZ.out.1)
  have sz := SZ.out
  have lx := HBX.out.lt
  have ls := u2.size
  have KH2 : Hid (Blk w2 (w1.heap.size + 1) 28 #[.int .u32 80, .int .u32 0, .int .u32 (a : Int), .int .u32 (b : Int), .int .u32 0, .int .u32 0, .int .u32 0, .int .u32 0, .int .u32 0, .slice none 0 0, .int .u8 0, .int .u64 0, .int .u32 0]) := Lib.hid (u2.blk HBX.out (by omega))
  have L2 : Hid (w1.heap.size + 1 < w2.heap.size) := Lib.hid (by omega)
  have M2 := m2
  clear m2 ls lx sz t0 t1 t2 t3 t4 t5 t6 t7 t8 t9 t10 t11 t12
  have M2 : Hid (Mem w2 M g h c d cd G T L) := Lib.hid M2
  go_upto_region 7 with fail
  generalize hX2 : (w2.alloc (.cells #[.int .u32 (p1 : Int), .int .u32 0, .int .u32 (a : Int), .int .u32 (b : Int), .int .u32 0, .int .u32 0, .int .u32 0, .int .u32 0, .int .u32 0, .slice sa 0 ca, .int .u8 0, .int .u64 0, .int .u32 0] 28)).alloc (.cells #[.bool false, .bool false, .int .u32 0, .int .u32 0] 46) = X2
  have KX : Hid (Blk X2 w2.heap.size 28 #[.int .u32 (p1 : Int), .int .u32 0, .int .u32 (a : Int), .int .u32 (b : Int), .int .u32 0, .int .u32 0, .int .u32 0, .int .u32 0, .int .u32 0, .slice sa 0 ca, .int .u8 0, .int .u64 0, .int .u32 0]) := Lib.hid (hX2 ▸ (Blk.new w2 _ _).alloc _)
  have KH3 : Hid (Blk X2 (w1.heap.size + 1) 28 #[.int .u32 80, .int .u32 0, .int .u32 (a : Int), .int .u32 (b : Int), .int .u32 0, .int .u32 0, .int .u32 0, .int .u32 0, .int .u32 0, .slice none 0 0, .int .u8 0, .int .u64 0, .int .u32 0]) := Lib.hid (hX2 ▸ (KH2.out.alloc _).alloc _)
  have M3 : Hid (Mem X2 M g h c d cd G T L) := Lib.hid (hX2 ▸ (M2.out.alloc _).alloc _)
  have B3 : Hid (Below w.heap.size w X2) := Lib.hid (hX2 ▸ (B2.out.alloc B2.out.size _).alloc (by have := B2.out.size; simp; omega) _)
  have M4 : Hid (Mem (X2.setCell ⟨w1.heap.size + 1, 0, none⟩ (.int .u32 81)) M g h c d cd G T L) := Lib.hid (M3.out.upd9 ((Upd.refl _ _).setCell 0 _) (by have := SZ.out; omega) (by have := SZ.out; omega) (by have := SZ.out; omega) (by have := SZ.out; omega))
  have KH4 : Hid (Blk (X2.setCell ⟨w1.heap.size + 1, 0, none⟩ (.int .u32 81)) (w1.heap.size + 1) 28 #[.int .u32 81, .int .u32 0, .int .u32 (a : Int), .int .u32 (b : Int), .int .u32 0, .int .u32 0, .int .u32 0, .int .u32 0, .int .u32 0, .slice none 0 0, .int .u8 0, .int .u64 0, .int .u32 0]) := Lib.hid (KH3.out.set_ 0 _)
  have KX4 : Hid (Blk (X2.setCell ⟨w1.heap.size + 1, 0, none⟩ (.int .u32 81)) w2.heap.size 28 #[.int .u32 (p1 : Int), .int .u32 0, .int .u32 (a : Int), .int .u32 (b : Int), .int .u32 0, .int .u32 0, .int .u32 0, .int .u32 0, .int .u32 0, .slice sa 0 ca, .int .u8 0, .int .u64 0, .int .u32 0]) := Lib.hid (KX.out.far (by show w2.heap.size ≠ w1.heap.size + 1; have := L2.out; omega) _)
  have B4 : Hid (Below w.heap.size w (X2.setCell ⟨w1.heap.size + 1, 0, none⟩ (.int .u32 81))) := Lib.hid (B3.out.setCell (by show w.heap.size ≤ w1.heap.size + 1; have := SZ.out; omega) _)
  clear hX2 HBX u2 B1 B2 M2 KH2 M3 KX B3
  have t0 : X2.cell? ⟨w1.heap.size + 1, 0, none⟩ = some (.int .u32 80) := KH3.out.cell 0
  have ft0 : X2.frozen? ⟨w1.heap.size + 1, 0, none⟩ = false := KH3.out.frozen 0
  go_upto_region 8 with fail
  generalize hX3 : X2.setCell ⟨w1.heap.size + 1, 0, none⟩ (.int .u32 81) = X3 at M4 KH4 KX4 B4
  (try rw [hX3])
  clear hX3 t0 ft0 KH3
  have t0 : X3.cell? ⟨(w1.heap.size + 1), 0, none⟩ = some (.int .u32 81) := KH4.out.cell 0
  have t1 : X3.cell? ⟨(w1.heap.size + 1), 1, none⟩ = some (.int .u32 0) := KH4.out.cell 1
  have t2 : X3.cell? ⟨(w1.heap.size + 1), 2, none⟩ = some (.int .u32 (a : Int)) := KH4.out.cell 2
  have t3 : X3.cell? ⟨(w1.heap.size + 1), 3, none⟩ = some (.int .u32 (b : Int)) := KH4.out.cell 3
  have t4 : X3.cell? ⟨(w1.heap.size + 1), 4, none⟩ = some (.int .u32 0) := KH4.out.cell 4
  have t5 : X3.cell? ⟨(w1.heap.size + 1), 5, none⟩ = some (.int .u32 0) := KH4.out.cell 5
  have t6 : X3.cell? ⟨(w1.heap.size + 1), 6, none⟩ = some (.int .u32 0) := KH4.out.cell 6
  have t7 : X3.cell? ⟨(w1.heap.size + 1), 7, none⟩ = some (.int .u32 0) := KH4.out.cell 7
  have t8 : X3.cell? ⟨(w1.heap.size + 1), 8, none⟩ = some (.int .u32 0) := KH4.out.cell 8
  have t9 : X3.cell? ⟨(w1.heap.size + 1), 9, none⟩ = some (.slice none 0 0) := KH4.out.cell 9
  have t10 : X3.cell? ⟨(w1.heap.size + 1), 10, none⟩ = some (.int .u8 0) := KH4.out.cell 10
  have t11 : X3.cell? ⟨(w1.heap.size + 1), 11, none⟩ = some (.int .u64 0) := KH4.out.cell 11
  have t12 : X3.cell? ⟨(w1.heap.size + 1), 12, none⟩ = some (.int .u32 0) := KH4.out.cell 12
  go_wp2_with fail
  refine (S2.out _ _ _ _ _ _ _ _ _ M4.out).mono ?_
  rintro en w3 ⟨sb, cb2, rfl, m3, u3⟩
  have K5 := Lib.hid (u3.blk KX4.out (by have := SZ.out; have := L2.out; omega))
  have B5 := Lib.hid (u3.below B4.out SZ.out.1)
  clear m3 u3 t0 t1 t2 t3 t4 t5 t6 t7 t8 t9 t10 t11 t12 KH4 KX4 B4 M4
  go_upto_region 9 with fail
  generalize hX4 : (w3.alloc (.cells #[.int .u32 (p2 : Int), .int .u32 0, .int .u32 (a : Int), .int .u32 (b : Int), .int .u32 0, .int .u32 0, .int .u32 0, .int .u32 0, .int .u32 0, .slice sb 0 cb2, .int .u8 0, .int .u64 0, .int .u32 0] 28)).alloc (.cells #[.bool false, .bool false, .int .u32 0, .int .u32 0] 46) = X4
  have KX : Hid (Blk X4 w2.heap.size 28 #[.int .u32 (p1 : Int), .int .u32 0, .int .u32 (a : Int), .int .u32 (b : Int), .int .u32 0, .int .u32 0, .int .u32 0, .int .u32 0, .int .u32 0, .slice sa 0 ca, .int .u8 0, .int .u64 0, .int .u32 0]) := Lib.hid (hX4 ▸ (K5.out.alloc _).alloc _)
  have KY : Hid (Blk X4 w3.heap.size 28 #[.int .u32 (p2 : Int), .int .u32 0, .int .u32 (a : Int), .int .u32 (b : Int), .int .u32 0, .int .u32 0, .int .u32 0, .int .u32 0, .int .u32 0, .slice sb 0 cb2, .int .u8 0, .int .u64 0, .int .u32 0]) := Lib.hid (hX4 ▸ (Blk.new w3 _ _).alloc _)
  have B6 : Hid (Below w.heap.size w X4) := Lib.hid (hX4 ▸ (B5.out.alloc B5.out.size _).alloc (by have := B5.out.size; simp; omega) _)
  clear hX4 K5 B5
  have x0 : X4.cell? ⟨w2.heap.size, 0, none⟩ = some (.int .u32 (p1 : Int)) := KX.out.cell 0
  have y0 : X4.cell? ⟨w3.heap.size, 0, none⟩ = some (.int .u32 (p2 : Int)) := KY.out.cell 0
  have w81 : IntKind.u32.wrap (81 + (im : Int)) = 81 + (im : Int) := by unfold IntKind.wrap; simp [IntKind.bits, IntKind.signed]; omega
  have w82 : IntKind.u32.wrap (82 + (im : Int)) = 82 + (im : Int) := by unfold IntKind.wrap; simp [IntKind.bits, IntKind.signed]; omega
  have bq : ∀ x y : Int, ∀ q : Bool, decide (x = y) = q → (x == y) = q := fun x y q h => by rw [← h]; by_cases e : x = y <;> simp [e]
  replace bq := Lib.hid bq
  have fin_ : ∀ (be b0 bf bn bx by2 : Bool), ((a : Int) == (b : Int)) = be → ((im : Int) == 0) = b0 → ((p1 : Int) == 81 + (im : Int)) = bf → ((p2 : Int) == 82 + (im : Int)) = bn → ((p1 : Int) == 81) = bx → ((p2 : Int) == 82) = by2 → True := fun _ _ _ _ _ _ _ _ _ _ _ _ => trivial
  clear fin_
  have hpa := hp1.out
  have hpb := hp2.out
  by_cases hab : a = b
  · rw [if_pos hab] at hpa hpb
    by_cases him0 : im = 0
    · have c1 : ((a : Int) == (b : Int)) = true := bq.out _ _ _ (by exact decide_eq_true (by omega))
      have c2 : ((im : Int) == 0) = true := bq.out _ _ _ (by exact decide_eq_true (by omega))
      have c3 : ((p1 : Int) == 81 + (im : Int)) = true := bq.out _ _ _ (by exact decide_eq_true (by omega))
      have c4 : ((p2 : Int) == 82 + (im : Int)) = true := bq.out _ _ _ (by exact decide_eq_true (by omega))
      have c5 : ((p1 : Int) == 81) = true := bq.out _ _ _ (by exact decide_eq_true (by omega))
      have c6 : ((p2 : Int) == 82) = true := bq.out _ _ _ (by exact decide_eq_true (by omega))
      clear hpa hpb hab him0
      go_wp2_with fail
      go_quiet (fail)
      go_wp2_with fail
      refine (awake09_c _).mono ?_
      rintro en w9 ⟨rfl, hb⟩
      have B8 := Lib.hid ((below_drewN B6.out _).trans (hb.mono (below_drewN B6.out _).size))
      clear hb
      go_wp2_with fail
      go_ret
      exact ⟨rfl, B8.out⟩
    · have c1 : ((a : Int) == (b : Int)) = true := bq.out _ _ _ (by exact decide_eq_true (by omega))
      have c2 : ((im : Int) == 0) = false := bq.out _ _ _ (by exact decide_eq_false (by omega))
      have c3 : ((p1 : Int) == 81 + (im : Int)) = true := bq.out _ _ _ (by exact decide_eq_true (by omega))
      have c4 : ((p2 : Int) == 82 + (im : Int)) = false := bq.out _ _ _ (by exact decide_eq_false (by omega))
      have c5 : ((p1 : Int) == 81) = false := bq.out _ _ _ (by exact decide_eq_false (by omega))
      have c6 : ((p2 : Int) == 82) = true := bq.out _ _ _ (by exact decide_eq_true (by omega))
      clear hpa hpb hab him0
      go_wp2_with fail
      go_quiet (fail)
      go_wp2_with fail
      refine (awake09_c _).mono ?_
      rintro en w9 ⟨rfl, hb⟩
      have B8 := Lib.hid ((below_drewN B6.out _).trans (hb.mono (below_drewN B6.out _).size))
      clear hb
      go_wp2_with fail
      go_ret
      exact ⟨rfl, B8.out⟩
  · rw [if_neg hab] at hpa hpb
    by_cases him0 : im = 0
    · have c1 : ((a : Int) == (b : Int)) = false := bq.out _ _ _ (by exact decide_eq_false (by omega))
      have c2 : ((im : Int) == 0) = true := bq.out _ _ _ (by exact decide_eq_true (by omega))
      have c3 : ((p1 : Int) == 81 + (im : Int)) = true := bq.out _ _ _ (by exact decide_eq_true (by omega))
      have c4 : ((p2 : Int) == 82 + (im : Int)) = true := bq.out _ _ _ (by exact decide_eq_true (by omega))
      have c5 : ((p1 : Int) == 81) = true := bq.out _ _ _ (by exact decide_eq_true (by omega))
      have c6 : ((p2 : Int) == 82) = true := bq.out _ _ _ (by exact decide_eq_true (by omega))
      clear hpa hpb hab him0
      go_wp2_with fail
      go_quiet (fail)
      go_wp2_with fail
      refine (awake09_c _).mono ?_
      rintro en w9 ⟨rfl, hb⟩
      have B8 := Lib.hid ((below_drewN B6.out _).trans (hb.mono (below_drewN B6.out _).size))
      clear hb
      go_wp2_with fail
      go_ret
      exact ⟨rfl, B8.out⟩
    · have c1 : ((a : Int) == (b : Int)) = false := bq.out _ _ _ (by exact decide_eq_false (by omega))
      have c2 : ((im : Int) == 0) = false := bq.out _ _ _ (by exact decide_eq_false (by omega))
      have c3 : ((p1 : Int) == 81 + (im : Int)) = false := bq.out _ _ _ (by exact decide_eq_false (by omega))
      have c4 : ((p2 : Int) == 82 + (im : Int)) = true := bq.out _ _ _ (by exact decide_eq_true (by omega))
      have c5 : ((p1 : Int) == 81) = true := bq.out _ _ _ (by exact decide_eq_true (by omega))
      have c6 : ((p2 : Int) == 82) = false := bq.out _ _ _ (by exact decide_eq_false (by omega))
      clear hpa hpb hab him0
      go_wp2_with fail
      go_quiet (fail)
      go_wp2_with fail
      refine (awake09_c _).mono ?_
      rintro en w9 ⟨rfl, hb⟩
      have B8 := Lib.hid ((below_drewN B6.out _).trans (hb.mono (below_drewN B6.out _).size))
      clear hb
      go_wp2_with fail
      go_ret
      exact ⟨rfl, B8.out⟩
end Go.Proofs.Ythnbdeibjbicpaa.PM
