/- HartSums walked. No condition. -/
import Derived.Test.YthnbdeibjbicpaaLawE0
import Derived.Test.YthnbdeibjbicpaaLandM
import Derived.Deep.Cut
import Derived.Outline
namespace Go.Proofs.Ythnbdeibjbicpaa.PM
set_option linter.unusedVariables false
set_option linter.unusedSimpArgs false
open Go.RowKit
theorem getD8_lt {x0 x1 x2 x3 x4 x5 x6 x7 : Nat} (h0 : x0 < 4294967296) (h1 : x1 < 4294967296) (h2 : x2 < 4294967296) (h3 : x3 < 4294967296) (h4 : x4 < 4294967296) (h5 : x5 < 4294967296) (h6 : x6 < 4294967296) (h7 : x7 < 4294967296) : ∀ i, i < 8 → [x0, x1, x2, x3, x4, x5, x6, x7].getD i 0 < 4294967296 := fun i hi => by
  match i, hi with
  | 0, _ => exact h0
  | 1, _ => exact h1
  | 2, _ => exact h2
  | 3, _ => exact h3
  | 4, _ => exact h4
  | 5, _ => exact h5
  | 6, _ => exact h6
  | 7, _ => exact h7
set_option maxRecDepth 100000 in
set_option maxHeartbeats 16000000 in
theorem sums_3 (a b dd : Nat) (w : World) (ha : a < 4294967296) (hb : b < 4294967296) (hdd : dd < 256) (hk : dd % 5 = 0) :
    Calls Try.prog 4 #[.int .u32 (a : Int), .int .u32 (b : Int), .int .u8 (dd : Int)] w fun e w' => e = .returned (.bool true) ∧ Below w.heap.size w w' := by
  obtain ⟨v, hvd⟩ : ∃ v, (a + b) % 4294967296 = v := ⟨_, rfl⟩
  have hv : v < 4294967296 := by omega
  have hva : (v + (4294967296 - b)) % 4294967296 = a := by omega
  have hab : IntKind.u32.wrap ((a : Int) + (b : Int)) = (v : Int) := by
    unfold IntKind.wrap
    simp [IntKind.bits, IntKind.signed]
    omega
  have S1 : ∀ W M g h c d cd src cap, Mem W M g h c d cd (landG 0) (landT false) (landL [455081986, 593494018, 402653184] []) → Calls Try.prog 17 #[.agg #[.int .u32 80, .int .u32 0, .int .u32 (a : Int), .int .u32 (b : Int), .int .u32 0, .int .u32 0, .int .u32 0, .int .u32 0, .int .u32 0, .slice src 0 cap, .int .u8 0, .int .u64 0, .int .u32 0], .pointer (some ⟨M, 0, none⟩), .int .u64 0] W fun e w' => ∃ src2 cap2, e = .returned (.tuple #[.agg #[.int .u32 81, .int .u32 0, .int .u32 (a : Int), .int .u32 (b : Int), .int .u32 (v : Int), .int .u32 0, .int .u32 0, .int .u32 0, .int .u32 0, .slice src2 0 cap2, .int .u8 0, .int .u64 0, .int .u32 0], .agg #[.bool false, .bool false, .int .u32 0, .int .u32 0]]) ∧ Mem w' M g h c d cd (landG 0) (landT false) (landL [455081986, 593494018, 402653184] []) ∧ UpdX W.heap.size d W w' := fun W M g h c d cd src cap m => by
    have f : fetchM (landG 0) (landT false) (landL [455081986, 593494018, 402653184] []) 80 0 = (455081986, 1, true) := fetch_land [455081986, 593494018, 402653184] [] 0 0 0 (by decide) (by decide)
    have hs : hstep (landG 0) (landT false) (landL [455081986, 593494018, 402653184] []) 80 (fun i => [0, a, b, 0, 0, 0, 0, 0].getD i 0 : Nat → Nat) [] 0 0 0 0 = ⟨81, setR (fun i => [0, a, b, 0, 0, 0, 0, 0].getD i 0 : Nat → Nat) 3 ((a + b) % 4294967296), [], 0, 0, (landL [455081986, 593494018, 402653184] []), false, false, 0, 0⟩ := by
      unfold hstep
      rw [f, if_neg (by decide), if_neg (by decide), if_neg (by decide)]
      rfl
    rw [hvd] at hs
    have key := step_c W M g h c d cd (landG 0) (landT false) (landL [455081986, 593494018, 402653184] []) 80 (fun i => [0, a, b, 0, 0, 0, 0, 0].getD i 0 : Nat → Nat) [] 0 0 0 0 src cap m (fun i hi => by cases hi) (by decide) (by decide) (getD8_lt (by decide) ha hb (by decide) (by decide) (by decide) (by decide) (by decide)) (by rw [f]; decide)
    rw [hs] at key
    exact key.mono fun e w' r => by
      obtain ⟨s, he, sp⟩ := r
      obtain ⟨src2, cap2, rfl, _⟩ := sp.1.form
      exact ⟨src2, cap2, he, sp.2.1, sp.2.2⟩
  have S2 : ∀ W M g h c d cd src cap, Mem W M g h c d cd (landG 0) (landT false) (landL [455081986, 593494018, 402653184] []) → Calls Try.prog 17 #[.agg #[.int .u32 81, .int .u32 0, .int .u32 (a : Int), .int .u32 (b : Int), .int .u32 (v : Int), .int .u32 0, .int .u32 0, .int .u32 0, .int .u32 0, .slice src 0 cap, .int .u8 0, .int .u64 0, .int .u32 0], .pointer (some ⟨M, 0, none⟩), .int .u64 0] W fun e w' => ∃ src2 cap2, e = .returned (.tuple #[.agg #[.int .u32 82, .int .u32 0, .int .u32 (a : Int), .int .u32 (b : Int), .int .u32 (a : Int), .int .u32 0, .int .u32 0, .int .u32 0, .int .u32 0, .slice src2 0 cap2, .int .u8 0, .int .u64 0, .int .u32 0], .agg #[.bool false, .bool false, .int .u32 0, .int .u32 0]]) ∧ Mem w' M g h c d cd (landG 0) (landT false) (landL [455081986, 593494018, 402653184] []) ∧ UpdX W.heap.size d W w' := fun W M g h c d cd src cap m => by
    have f : fetchM (landG 0) (landT false) (landL [455081986, 593494018, 402653184] []) 81 0 = (593494018, 1, true) := fetch_land [455081986, 593494018, 402653184] [] 0 1 0 (by decide) (by decide)
    have hs : hstep (landG 0) (landT false) (landL [455081986, 593494018, 402653184] []) 81 (fun i => [0, a, b, v, 0, 0, 0, 0].getD i 0 : Nat → Nat) [] 0 0 0 0 = ⟨82, setR (fun i => [0, a, b, v, 0, 0, 0, 0].getD i 0 : Nat → Nat) 3 ((v + (4294967296 - b)) % 4294967296), [], 0, 0, (landL [455081986, 593494018, 402653184] []), false, false, 0, 0⟩ := by
      unfold hstep
      rw [f, if_neg (by decide), if_neg (by decide), if_neg (by decide)]
      rfl
    rw [hva] at hs
    have key := step_c W M g h c d cd (landG 0) (landT false) (landL [455081986, 593494018, 402653184] []) 81 (fun i => [0, a, b, v, 0, 0, 0, 0].getD i 0 : Nat → Nat) [] 0 0 0 0 src cap m (fun i hi => by cases hi) (by decide) (by decide) (getD8_lt (by decide) ha hb hv (by decide) (by decide) (by decide) (by decide)) (by rw [f]; decide)
    rw [hs] at key
    exact key.mono fun e w' r => by
      obtain ⟨s, he, sp⟩ := r
      obtain ⟨src2, cap2, rfl, _⟩ := sp.1.form
      exact ⟨src2, cap2, he, sp.2.1, sp.2.2⟩
  have S3 : ∀ W M g h c d cd src cap, Mem W M g h c d cd (landG 0) (landT false) (landL [455081986, 593494018, 402653184] []) → Calls Try.prog 17 #[.agg #[.int .u32 82, .int .u32 0, .int .u32 (a : Int), .int .u32 (b : Int), .int .u32 (a : Int), .int .u32 0, .int .u32 0, .int .u32 0, .int .u32 0, .slice src 0 cap, .int .u8 0, .int .u64 0, .int .u32 0], .pointer (some ⟨M, 0, none⟩), .int .u64 0] W fun e w' => ∃ src2 cap2, e = .returned (.tuple #[.agg #[.int .u32 83, .int .u32 0, .int .u32 (a : Int), .int .u32 (b : Int), .int .u32 (a : Int), .int .u32 0, .int .u32 0, .int .u32 0, .int .u32 0, .slice src2 0 cap2, .int .u8 0, .int .u64 0, .int .u32 0], .agg #[.bool false, .bool false, .int .u32 0, .int .u32 0]]) ∧ Mem w' M g h c d cd (landG 0) (landT false) (landL [455081986, 593494018, 402653184] []) ∧ UpdX W.heap.size d W w' := fun W M g h c d cd src cap m => by
    have f : fetchM (landG 0) (landT false) (landL [455081986, 593494018, 402653184] []) 82 0 = (402653184, 1, true) := fetch_land [455081986, 593494018, 402653184] [] 0 2 0 (by decide) (by decide)
    have hs : hstep (landG 0) (landT false) (landL [455081986, 593494018, 402653184] []) 82 (fun i => [0, a, b, a, 0, 0, 0, 0].getD i 0 : Nat → Nat) [] 0 0 0 0 = ⟨83, (fun i => [0, a, b, a, 0, 0, 0, 0].getD i 0 : Nat → Nat), [], 0, 0, (landL [455081986, 593494018, 402653184] []), false, false, 0, 0⟩ := by
      unfold hstep
      rw [f, if_neg (by decide), if_neg (by decide), if_neg (by decide)]
      rfl
    have key := step_c W M g h c d cd (landG 0) (landT false) (landL [455081986, 593494018, 402653184] []) 82 (fun i => [0, a, b, a, 0, 0, 0, 0].getD i 0 : Nat → Nat) [] 0 0 0 0 src cap m (fun i hi => by cases hi) (by decide) (by decide) (getD8_lt (by decide) ha hb ha (by decide) (by decide) (by decide) (by decide)) (by rw [f]; decide)
    rw [hs] at key
    exact key.mono fun e w' r => by
      obtain ⟨s, he, sp⟩ := r
      obtain ⟨src2, cap2, rfl, _⟩ := sp.1.form
      exact ⟨src2, cap2, he, sp.2.1, sp.2.2⟩
  have MK : ∀ W, Stk W (some ⟨w.heap.size, 0, none⟩) [455081986, 593494018, 402653184] → Calls Try.prog 16 #[.agg #[.slice (some ⟨w.heap.size, 0, none⟩) 3 3, .slice none 0 0, .int .u32 0, .bool false]] W fun e w' => Made W [455081986, 593494018, 402653184] [] 0 false e w' := fun W q => made_c W _ _ 3 none [] 0 0 false q Stk.nil
  have KC : Hid (Stk (w.alloc (.cells #[.int .u32 455081986, .int .u32 593494018, .int .u32 402653184] 22)) (some ⟨w.heap.size, 0, none⟩) [455081986, 593494018, 402653184]) := Lib.hid (by
    have K := Blk.new w 22 #[.int .u32 455081986, .int .u32 593494018, .int .u32 402653184]
    intro i hi
    refine ⟨w.heap.size, 0, rfl, K.lt, ?_⟩
    rw [Nat.zero_add]
    match i, hi with
    | 0, _ => exact K.cell 0
    | 1, _ => exact K.cell 1
    | 2, _ => exact K.cell 2)
  have B0 : Hid (Below w.heap.size w (w.alloc (.cells #[.int .u32 455081986, .int .u32 593494018, .int .u32 402653184] 22))) := Lib.hid ((Below.refl _ w).alloc (Nat.le_refl _) _)
  have htm : Int.tmod (dd : Int) 5 = 0 := by rw [Int.tmod_eq_emod_of_nonneg (by omega)]; omega
  have hdz : (dd : Int) < 256 := by omega
  clear hvd hva hv ha hb hk hdd
  replace S1 := Lib.hid S1
  replace S2 := Lib.hid S2
  replace S3 := Lib.hid S3
  replace MK := Lib.hid MK
  replace hab := Lib.hid hab
  go_enter Try.func4, Try.ntmps4
  go_wp2_with fail
  refine (MK.out _ KC.out).mono ?_
  rintro en w1 ⟨M, g, h, c, d, cd, b0, cb, e0, ce, rfl, LD⟩
  generalize landG 0 = G at S1 S2 S3 LD ⊢
  generalize landT false = T at S1 S2 S3 LD ⊢
  generalize landL [455081986, 593494018, 402653184] [] = L at S1 S2 S3 LD ⊢
  unfold PM.rm
  go_upto_region 6 with fail
  generalize hX1 : (w1.alloc (.cells #[.int .u32 (G 0 : Int), .int .u32 (G 1 : Int), .int .u32 (G 2 : Int), .int .u32 (G 3 : Int), .int .u32 (G 4 : Int), .int .u32 (G 5 : Int), .int .u32 (G 6 : Int), .int .u32 (G 7 : Int), .slice (some ⟨b0, 0, none⟩) T.length cb, .slice (some ⟨e0, 0, none⟩) L.length ce] 40)).alloc (.cells #[.int .u32 80, .int .u32 0, .int .u32 (a : Int), .int .u32 (b : Int), .int .u32 0, .int .u32 0, .int .u32 0, .int .u32 0, .int .u32 0, .slice none 0 0, .int .u8 0, .int .u64 0, .int .u32 0] 28) = X1
  have HBX : Hid (Blk X1 (w1.heap.size + 1) 28 #[.int .u32 80, .int .u32 0, .int .u32 (a : Int), .int .u32 (b : Int), .int .u32 0, .int .u32 0, .int .u32 0, .int .u32 0, .int .u32 0, .slice none 0 0, .int .u8 0, .int .u64 0, .int .u32 0]) := Lib.hid (by
    have q := Blk.new (w1.alloc (.cells #[.int .u32 (G 0 : Int), .int .u32 (G 1 : Int), .int .u32 (G 2 : Int), .int .u32 (G 3 : Int), .int .u32 (G 4 : Int), .int .u32 (G 5 : Int), .int .u32 (G 6 : Int), .int .u32 (G 7 : Int), .slice (some ⟨b0, 0, none⟩) T.length cb, .slice (some ⟨e0, 0, none⟩) L.length ce] 40)) 28 #[.int .u32 80, .int .u32 0, .int .u32 (a : Int), .int .u32 (b : Int), .int .u32 0, .int .u32 0, .int .u32 0, .int .u32 0, .int .u32 0, .slice none 0 0, .int .u8 0, .int .u64 0, .int .u32 0]
    have z : (w1.alloc (.cells #[.int .u32 (G 0 : Int), .int .u32 (G 1 : Int), .int .u32 (G 2 : Int), .int .u32 (G 3 : Int), .int .u32 (G 4 : Int), .int .u32 (G 5 : Int), .int .u32 (G 6 : Int), .int .u32 (G 7 : Int), .slice (some ⟨b0, 0, none⟩) T.length cb, .slice (some ⟨e0, 0, none⟩) L.length ce] 40)).heap.size = w1.heap.size + 1 := by simp
    rw [z] at q
    exact hX1 ▸ q)
  have M1 : Hid (Mem X1 M g h c d cd G T L) := Lib.hid (hX1 ▸ (LD.mem.alloc _).alloc _)
  have B1 : Hid (Below w.heap.size w X1) := Lib.hid (hX1 ▸ ((B0.out.trans (LD.bel.mono B0.out.size)).alloc (Nat.le_trans B0.out.size LD.bel.size) _).alloc (by have := B0.out.size; have := LD.bel.size; simp at this ⊢; omega) _)
  have SZ : Hid (w.heap.size ≤ d ∧ M < X1.heap.size ∧ g < X1.heap.size ∧ h < X1.heap.size ∧ d < X1.heap.size) := Lib.hid ⟨Nat.le_trans B0.out.size LD.ld, M1.out.ten.lt, M1.out.tab.lt, M1.out.tab.pgs.lt, M1.out.wds.lt⟩
  clear hX1 LD KC
  have t0 : X1.cell? ⟨(w1.heap.size + 1), 0, none⟩ = some (.int .u32 80) := HBX.out.cell 0
  have t1 : X1.cell? ⟨(w1.heap.size + 1), 1, none⟩ = some (.int .u32 0) := HBX.out.cell 1
  have t2 : X1.cell? ⟨(w1.heap.size + 1), 2, none⟩ = some (.int .u32 (a : Int)) := HBX.out.cell 2
  have t3 : X1.cell? ⟨(w1.heap.size + 1), 3, none⟩ = some (.int .u32 (b : Int)) := HBX.out.cell 3
  have t4 : X1.cell? ⟨(w1.heap.size + 1), 4, none⟩ = some (.int .u32 0) := HBX.out.cell 4
  have t5 : X1.cell? ⟨(w1.heap.size + 1), 5, none⟩ = some (.int .u32 0) := HBX.out.cell 5
  have t6 : X1.cell? ⟨(w1.heap.size + 1), 6, none⟩ = some (.int .u32 0) := HBX.out.cell 6
  have t7 : X1.cell? ⟨(w1.heap.size + 1), 7, none⟩ = some (.int .u32 0) := HBX.out.cell 7
  have t8 : X1.cell? ⟨(w1.heap.size + 1), 8, none⟩ = some (.int .u32 0) := HBX.out.cell 8
  have t9 : X1.cell? ⟨(w1.heap.size + 1), 9, none⟩ = some (.slice none 0 0) := HBX.out.cell 9
  have t10 : X1.cell? ⟨(w1.heap.size + 1), 10, none⟩ = some (.int .u8 0) := HBX.out.cell 10
  have t11 : X1.cell? ⟨(w1.heap.size + 1), 11, none⟩ = some (.int .u64 0) := HBX.out.cell 11
  have t12 : X1.cell? ⟨(w1.heap.size + 1), 12, none⟩ = some (.int .u32 0) := HBX.out.cell 12
  go_wp2_with fail
  refine (S1.out _ _ _ _ _ _ _ _ _ M1.out).mono ?_
  rintro en w2 ⟨sa, ca, rfl, m2, u2⟩
  have B2 := Lib.hid (u2.below B1.out SZ.out.1)
  have L2 : Hid (X1.heap.size ≤ w2.heap.size) := Lib.hid u2.size
  go_upto_region 7 with fail
  generalize hX2 : (w2.alloc (.cells #[.int .u32 81, .int .u32 0, .int .u32 (a : Int), .int .u32 (b : Int), .int .u32 (v : Int), .int .u32 0, .int .u32 0, .int .u32 0, .int .u32 0, .slice sa 0 ca, .int .u8 0, .int .u64 0, .int .u32 0] 28)).alloc (.cells #[.bool false, .bool false, .int .u32 0, .int .u32 0] 46) = X2
  have KX : Hid (Blk X2 w2.heap.size 28 #[.int .u32 81, .int .u32 0, .int .u32 (a : Int), .int .u32 (b : Int), .int .u32 (v : Int), .int .u32 0, .int .u32 0, .int .u32 0, .int .u32 0, .slice sa 0 ca, .int .u8 0, .int .u64 0, .int .u32 0]) := Lib.hid (hX2 ▸ (Blk.new w2 _ _).alloc _)
  have M2 : Hid (Mem X2 M g h c d cd G T L) := Lib.hid (hX2 ▸ (m2.alloc _).alloc _)
  have B3 : Hid (Below w.heap.size w X2) := Lib.hid (hX2 ▸ (B2.out.alloc B2.out.size _).alloc (by have := B2.out.size; simp; omega) _)
  clear hX2 t0 t1 t2 t3 t4 t5 t6 t7 t8 t9 t10 t11 t12 HBX m2 u2 B1 B2
  have x0 : X2.cell? ⟨w2.heap.size, 0, none⟩ = some (.int .u32 81) := KX.out.cell 0
  have x1 : X2.cell? ⟨w2.heap.size, 1, none⟩ = some (.int .u32 0) := KX.out.cell 1
  have x2 : X2.cell? ⟨w2.heap.size, 2, none⟩ = some (.int .u32 (a : Int)) := KX.out.cell 2
  have x3 : X2.cell? ⟨w2.heap.size, 3, none⟩ = some (.int .u32 (b : Int)) := KX.out.cell 3
  have x4 : X2.cell? ⟨w2.heap.size, 4, none⟩ = some (.int .u32 (v : Int)) := KX.out.cell 4
  have x5 : X2.cell? ⟨w2.heap.size, 5, none⟩ = some (.int .u32 0) := KX.out.cell 5
  have x6 : X2.cell? ⟨w2.heap.size, 6, none⟩ = some (.int .u32 0) := KX.out.cell 6
  have x7 : X2.cell? ⟨w2.heap.size, 7, none⟩ = some (.int .u32 0) := KX.out.cell 7
  have x8 : X2.cell? ⟨w2.heap.size, 8, none⟩ = some (.int .u32 0) := KX.out.cell 8
  have x9 : X2.cell? ⟨w2.heap.size, 9, none⟩ = some (.slice sa 0 ca) := KX.out.cell 9
  have x10 : X2.cell? ⟨w2.heap.size, 10, none⟩ = some (.int .u8 0) := KX.out.cell 10
  have x11 : X2.cell? ⟨w2.heap.size, 11, none⟩ = some (.int .u64 0) := KX.out.cell 11
  have x12 : X2.cell? ⟨w2.heap.size, 12, none⟩ = some (.int .u32 0) := KX.out.cell 12
  have hab' := hab.out
  go_wp2_with fail
  refine (S2.out _ _ _ _ _ _ _ _ _ M2.out).mono ?_
  rintro en w3 ⟨sb, cb2, rfl, m3, u3⟩
  have sz := SZ.out
  have l2 := L2.out
  have K3 := Lib.hid (u3.blk KX.out (by omega))
  have B4 := Lib.hid (u3.below B3.out SZ.out.1)
  have M3 : Hid (Mem (w3.setCells w2.heap.size 0 [.int .u32 82, .int .u32 0, .int .u32 (a : Int), .int .u32 (b : Int), .int .u32 (a : Int), .int .u32 0, .int .u32 0, .int .u32 0, .int .u32 0, .slice sb 0 cb2, .int .u8 0, .int .u64 0, .int .u32 0]) M g h c d cd G T L) := Lib.hid (m3.upd9 (upd_setCells9 _ _ 0 _) (by omega) (by omega) (by omega) (by omega))
  have K4 : Hid (Blk (w3.setCells w2.heap.size 0 [.int .u32 82, .int .u32 0, .int .u32 (a : Int), .int .u32 (b : Int), .int .u32 (a : Int), .int .u32 0, .int .u32 0, .int .u32 0, .int .u32 0, .slice sb 0 cb2, .int .u8 0, .int .u64 0, .int .u32 0]) w2.heap.size 28 #[.int .u32 82, .int .u32 0, .int .u32 (a : Int), .int .u32 (b : Int), .int .u32 (a : Int), .int .u32 0, .int .u32 0, .int .u32 0, .int .u32 0, .slice sb 0 cb2, .int .u8 0, .int .u64 0, .int .u32 0]) := Lib.hid (Blk.all13 K3.out _ _ _ _ _ _ _ _ _ _ _ _ _)
  have B5 : Hid (Below w.heap.size w (w3.setCells w2.heap.size 0 [.int .u32 82, .int .u32 0, .int .u32 (a : Int), .int .u32 (b : Int), .int .u32 (a : Int), .int .u32 0, .int .u32 0, .int .u32 0, .int .u32 0, .slice sb 0 cb2, .int .u8 0, .int .u64 0, .int .u32 0])) := Lib.hid (below_setCells (by have := SZ.out; omega) _ 0 _ B4.out)
  have NE : Hid (w2.heap.size ≠ d) := Lib.hid (by omega)
  clear m3 u3 sz l2 x0 x1 x2 x3 x4 x5 x6 x7 x8 x9 x10 x11 x12 KX B3
  have x0 : w3.cell? ⟨w2.heap.size, 0, none⟩ = some (.int .u32 81) := K3.out.cell 0
  have fx0 : w3.frozen? ⟨w2.heap.size, 0, none⟩ = false := K3.out.frozen 0
  have x1 : w3.cell? ⟨w2.heap.size, 1, none⟩ = some (.int .u32 0) := K3.out.cell 1
  have fx1 : w3.frozen? ⟨w2.heap.size, 1, none⟩ = false := K3.out.frozen 1
  have x2 : w3.cell? ⟨w2.heap.size, 2, none⟩ = some (.int .u32 (a : Int)) := K3.out.cell 2
  have fx2 : w3.frozen? ⟨w2.heap.size, 2, none⟩ = false := K3.out.frozen 2
  have x3 : w3.cell? ⟨w2.heap.size, 3, none⟩ = some (.int .u32 (b : Int)) := K3.out.cell 3
  have fx3 : w3.frozen? ⟨w2.heap.size, 3, none⟩ = false := K3.out.frozen 3
  have x4 : w3.cell? ⟨w2.heap.size, 4, none⟩ = some (.int .u32 (v : Int)) := K3.out.cell 4
  have fx4 : w3.frozen? ⟨w2.heap.size, 4, none⟩ = false := K3.out.frozen 4
  have x5 : w3.cell? ⟨w2.heap.size, 5, none⟩ = some (.int .u32 0) := K3.out.cell 5
  have fx5 : w3.frozen? ⟨w2.heap.size, 5, none⟩ = false := K3.out.frozen 5
  have x6 : w3.cell? ⟨w2.heap.size, 6, none⟩ = some (.int .u32 0) := K3.out.cell 6
  have fx6 : w3.frozen? ⟨w2.heap.size, 6, none⟩ = false := K3.out.frozen 6
  have x7 : w3.cell? ⟨w2.heap.size, 7, none⟩ = some (.int .u32 0) := K3.out.cell 7
  have fx7 : w3.frozen? ⟨w2.heap.size, 7, none⟩ = false := K3.out.frozen 7
  have x8 : w3.cell? ⟨w2.heap.size, 8, none⟩ = some (.int .u32 0) := K3.out.cell 8
  have fx8 : w3.frozen? ⟨w2.heap.size, 8, none⟩ = false := K3.out.frozen 8
  have x9 : w3.cell? ⟨w2.heap.size, 9, none⟩ = some (.slice sa 0 ca) := K3.out.cell 9
  have fx9 : w3.frozen? ⟨w2.heap.size, 9, none⟩ = false := K3.out.frozen 9
  have x10 : w3.cell? ⟨w2.heap.size, 10, none⟩ = some (.int .u8 0) := K3.out.cell 10
  have fx10 : w3.frozen? ⟨w2.heap.size, 10, none⟩ = false := K3.out.frozen 10
  have x11 : w3.cell? ⟨w2.heap.size, 11, none⟩ = some (.int .u64 0) := K3.out.cell 11
  have fx11 : w3.frozen? ⟨w2.heap.size, 11, none⟩ = false := K3.out.frozen 11
  have x12 : w3.cell? ⟨w2.heap.size, 12, none⟩ = some (.int .u32 0) := K3.out.cell 12
  have fx12 : w3.frozen? ⟨w2.heap.size, 12, none⟩ = false := K3.out.frozen 12
  go_upto_region 10 with fail
  generalize hX3 : w3.setCells w2.heap.size 0 [.int .u32 82, .int .u32 0, .int .u32 (a : Int), .int .u32 (b : Int), .int .u32 (a : Int), .int .u32 0, .int .u32 0, .int .u32 0, .int .u32 0, .slice sb 0 cb2, .int .u8 0, .int .u64 0, .int .u32 0] = X3 at M3 K4 B5
  simp only [World.setCells, Nat.zero_add, Nat.reduceAdd] at hX3
  (try rw [hX3])
  clear hX3 x0 x1 x2 x3 x4 x5 x6 x7 x8 x9 x10 x11 x12 fx0 fx1 fx2 fx3 fx4 fx5 fx6 fx7 fx8 fx9 fx10 fx11 fx12 K3 B4
  have x0 : X3.cell? ⟨w2.heap.size, 0, none⟩ = some (.int .u32 82) := K4.out.cell 0
  have x1 : X3.cell? ⟨w2.heap.size, 1, none⟩ = some (.int .u32 0) := K4.out.cell 1
  have x2 : X3.cell? ⟨w2.heap.size, 2, none⟩ = some (.int .u32 (a : Int)) := K4.out.cell 2
  have x3 : X3.cell? ⟨w2.heap.size, 3, none⟩ = some (.int .u32 (b : Int)) := K4.out.cell 3
  have x4 : X3.cell? ⟨w2.heap.size, 4, none⟩ = some (.int .u32 (a : Int)) := K4.out.cell 4
  have x5 : X3.cell? ⟨w2.heap.size, 5, none⟩ = some (.int .u32 0) := K4.out.cell 5
  have x6 : X3.cell? ⟨w2.heap.size, 6, none⟩ = some (.int .u32 0) := K4.out.cell 6
  have x7 : X3.cell? ⟨w2.heap.size, 7, none⟩ = some (.int .u32 0) := K4.out.cell 7
  have x8 : X3.cell? ⟨w2.heap.size, 8, none⟩ = some (.int .u32 0) := K4.out.cell 8
  have x9 : X3.cell? ⟨w2.heap.size, 9, none⟩ = some (.slice sb 0 cb2) := K4.out.cell 9
  have x10 : X3.cell? ⟨w2.heap.size, 10, none⟩ = some (.int .u8 0) := K4.out.cell 10
  have x11 : X3.cell? ⟨w2.heap.size, 11, none⟩ = some (.int .u64 0) := K4.out.cell 11
  have x12 : X3.cell? ⟨w2.heap.size, 12, none⟩ = some (.int .u32 0) := K4.out.cell 12
  go_wp2_with fail
  refine (S3.out _ _ _ _ _ _ _ _ _ M3.out).mono ?_
  rintro en w4 ⟨sc, cc, rfl, m4, u4⟩
  have K5 := Lib.hid (u4.blk K4.out NE.out)
  have B6 := Lib.hid (u4.below B5.out SZ.out.1)
  clear m4 u4 x0 x1 x2 x3 x4 x5 x6 x7 x8 x9 x10 x11 x12 K4 B5 M3
  go_upto_region 11 with fail
  generalize hX4 : (w4.alloc (.cells #[.int .u32 83, .int .u32 0, .int .u32 (a : Int), .int .u32 (b : Int), .int .u32 (a : Int), .int .u32 0, .int .u32 0, .int .u32 0, .int .u32 0, .slice sc 0 cc, .int .u8 0, .int .u64 0, .int .u32 0] 28)).alloc (.cells #[.bool false, .bool false, .int .u32 0, .int .u32 0] 46) = X4
  have KX : Hid (Blk X4 w2.heap.size 28 #[.int .u32 82, .int .u32 0, .int .u32 (a : Int), .int .u32 (b : Int), .int .u32 (a : Int), .int .u32 0, .int .u32 0, .int .u32 0, .int .u32 0, .slice sb 0 cb2, .int .u8 0, .int .u64 0, .int .u32 0]) := Lib.hid (hX4 ▸ (K5.out.alloc _).alloc _)
  have KY : Hid (Blk X4 w4.heap.size 28 #[.int .u32 83, .int .u32 0, .int .u32 (a : Int), .int .u32 (b : Int), .int .u32 (a : Int), .int .u32 0, .int .u32 0, .int .u32 0, .int .u32 0, .slice sc 0 cc, .int .u8 0, .int .u64 0, .int .u32 0]) := Lib.hid (hX4 ▸ (Blk.new w4 _ _).alloc _)
  have B7 : Hid (Below w.heap.size w X4) := Lib.hid (hX4 ▸ (B6.out.alloc B6.out.size _).alloc (by have := B6.out.size; simp; omega) _)
  clear hX4 K5 B6
  have x0 : X4.cell? ⟨w2.heap.size, 0, none⟩ = some (.int .u32 82) := KX.out.cell 0
  have x1 : X4.cell? ⟨w2.heap.size, 1, none⟩ = some (.int .u32 0) := KX.out.cell 1
  have x2 : X4.cell? ⟨w2.heap.size, 2, none⟩ = some (.int .u32 (a : Int)) := KX.out.cell 2
  have x3 : X4.cell? ⟨w2.heap.size, 3, none⟩ = some (.int .u32 (b : Int)) := KX.out.cell 3
  have x4 : X4.cell? ⟨w2.heap.size, 4, none⟩ = some (.int .u32 (a : Int)) := KX.out.cell 4
  have x5 : X4.cell? ⟨w2.heap.size, 5, none⟩ = some (.int .u32 0) := KX.out.cell 5
  have x6 : X4.cell? ⟨w2.heap.size, 6, none⟩ = some (.int .u32 0) := KX.out.cell 6
  have x7 : X4.cell? ⟨w2.heap.size, 7, none⟩ = some (.int .u32 0) := KX.out.cell 7
  have x8 : X4.cell? ⟨w2.heap.size, 8, none⟩ = some (.int .u32 0) := KX.out.cell 8
  have x9 : X4.cell? ⟨w2.heap.size, 9, none⟩ = some (.slice sb 0 cb2) := KX.out.cell 9
  have x10 : X4.cell? ⟨w2.heap.size, 10, none⟩ = some (.int .u8 0) := KX.out.cell 10
  have x11 : X4.cell? ⟨w2.heap.size, 11, none⟩ = some (.int .u64 0) := KX.out.cell 11
  have x12 : X4.cell? ⟨w2.heap.size, 12, none⟩ = some (.int .u32 0) := KX.out.cell 12
  have y0 : X4.cell? ⟨w4.heap.size, 0, none⟩ = some (.int .u32 83) := KY.out.cell 0
  have y1 : X4.cell? ⟨w4.heap.size, 1, none⟩ = some (.int .u32 0) := KY.out.cell 1
  have y2 : X4.cell? ⟨w4.heap.size, 2, none⟩ = some (.int .u32 (a : Int)) := KY.out.cell 2
  have y3 : X4.cell? ⟨w4.heap.size, 3, none⟩ = some (.int .u32 (b : Int)) := KY.out.cell 3
  have y4 : X4.cell? ⟨w4.heap.size, 4, none⟩ = some (.int .u32 (a : Int)) := KY.out.cell 4
  have y5 : X4.cell? ⟨w4.heap.size, 5, none⟩ = some (.int .u32 0) := KY.out.cell 5
  have y6 : X4.cell? ⟨w4.heap.size, 6, none⟩ = some (.int .u32 0) := KY.out.cell 6
  have y7 : X4.cell? ⟨w4.heap.size, 7, none⟩ = some (.int .u32 0) := KY.out.cell 7
  have y8 : X4.cell? ⟨w4.heap.size, 8, none⟩ = some (.int .u32 0) := KY.out.cell 8
  have y9 : X4.cell? ⟨w4.heap.size, 9, none⟩ = some (.slice sc 0 cc) := KY.out.cell 9
  have y10 : X4.cell? ⟨w4.heap.size, 10, none⟩ = some (.int .u8 0) := KY.out.cell 10
  have y11 : X4.cell? ⟨w4.heap.size, 11, none⟩ = some (.int .u64 0) := KY.out.cell 11
  have y12 : X4.cell? ⟨w4.heap.size, 12, none⟩ = some (.int .u32 0) := KY.out.cell 12
  go_wp2_with fail
  refine (awake09_c _).mono ?_
  rintro en w9 ⟨rfl, hb⟩
  have B8 := Lib.hid (B7.out.trans (hb.mono B7.out.size))
  clear hb
  go_wp2_with fail
  go_ret
  exact ⟨rfl, B8.out⟩
set_option maxRecDepth 100000 in
set_option maxHeartbeats 16000000 in
theorem sums_4 (a b dd : Nat) (w : World) (ha : a < 4294967296) (hb : b < 4294967296) (hdd : dd < 256) (hk : dd % 5 = 1) :
    Calls Try.prog 4 #[.int .u32 (a : Int), .int .u32 (b : Int), .int .u8 (dd : Int)] w fun e w' => e = .returned (.bool true) ∧ Below w.heap.size w w' := by
  obtain ⟨v, hvd⟩ : ∃ v, (a + b) % 4294967296 = v := ⟨_, rfl⟩
  have hv : v < 4294967296 := by omega
  have hva : (v + (4294967296 - b)) % 4294967296 = a := by omega
  have hab : IntKind.u32.wrap ((a : Int) + (b : Int)) = (v : Int) := by
    unfold IntKind.wrap
    simp [IntKind.bits, IntKind.signed]
    omega
  have S1 : ∀ W M g h c d cd src cap, Mem W M g h c d cd (landG 0) (landT false) (landL [471859202, 612368386, 402653184] []) → Calls Try.prog 17 #[.agg #[.int .u32 80, .int .u32 0, .int .u32 (a : Int), .int .u32 (b : Int), .int .u32 0, .int .u32 0, .int .u32 0, .int .u32 0, .int .u32 0, .slice src 0 cap, .int .u8 0, .int .u64 0, .int .u32 0], .pointer (some ⟨M, 0, none⟩), .int .u64 0] W fun e w' => ∃ src2 cap2, e = .returned (.tuple #[.agg #[.int .u32 81, .int .u32 0, .int .u32 (a : Int), .int .u32 (b : Int), .int .u32 0, .int .u32 (v : Int), .int .u32 0, .int .u32 0, .int .u32 0, .slice src2 0 cap2, .int .u8 0, .int .u64 0, .int .u32 0], .agg #[.bool false, .bool false, .int .u32 0, .int .u32 0]]) ∧ Mem w' M g h c d cd (landG 0) (landT false) (landL [471859202, 612368386, 402653184] []) ∧ UpdX W.heap.size d W w' := fun W M g h c d cd src cap m => by
    have f : fetchM (landG 0) (landT false) (landL [471859202, 612368386, 402653184] []) 80 0 = (471859202, 1, true) := fetch_land [471859202, 612368386, 402653184] [] 0 0 0 (by decide) (by decide)
    have hs : hstep (landG 0) (landT false) (landL [471859202, 612368386, 402653184] []) 80 (fun i => [0, a, b, 0, 0, 0, 0, 0].getD i 0 : Nat → Nat) [] 0 0 0 0 = ⟨81, setR (fun i => [0, a, b, 0, 0, 0, 0, 0].getD i 0 : Nat → Nat) 4 ((a + b) % 4294967296), [], 0, 0, (landL [471859202, 612368386, 402653184] []), false, false, 0, 0⟩ := by
      unfold hstep
      rw [f, if_neg (by decide), if_neg (by decide), if_neg (by decide)]
      rfl
    rw [hvd] at hs
    have key := step_c W M g h c d cd (landG 0) (landT false) (landL [471859202, 612368386, 402653184] []) 80 (fun i => [0, a, b, 0, 0, 0, 0, 0].getD i 0 : Nat → Nat) [] 0 0 0 0 src cap m (fun i hi => by cases hi) (by decide) (by decide) (getD8_lt (by decide) ha hb (by decide) (by decide) (by decide) (by decide) (by decide)) (by rw [f]; decide)
    rw [hs] at key
    exact key.mono fun e w' r => by
      obtain ⟨s, he, sp⟩ := r
      obtain ⟨src2, cap2, rfl, _⟩ := sp.1.form
      exact ⟨src2, cap2, he, sp.2.1, sp.2.2⟩
  have S2 : ∀ W M g h c d cd src cap, Mem W M g h c d cd (landG 0) (landT false) (landL [471859202, 612368386, 402653184] []) → Calls Try.prog 17 #[.agg #[.int .u32 81, .int .u32 0, .int .u32 (a : Int), .int .u32 (b : Int), .int .u32 0, .int .u32 (v : Int), .int .u32 0, .int .u32 0, .int .u32 0, .slice src 0 cap, .int .u8 0, .int .u64 0, .int .u32 0], .pointer (some ⟨M, 0, none⟩), .int .u64 0] W fun e w' => ∃ src2 cap2, e = .returned (.tuple #[.agg #[.int .u32 82, .int .u32 0, .int .u32 (a : Int), .int .u32 (b : Int), .int .u32 0, .int .u32 (a : Int), .int .u32 0, .int .u32 0, .int .u32 0, .slice src2 0 cap2, .int .u8 0, .int .u64 0, .int .u32 0], .agg #[.bool false, .bool false, .int .u32 0, .int .u32 0]]) ∧ Mem w' M g h c d cd (landG 0) (landT false) (landL [471859202, 612368386, 402653184] []) ∧ UpdX W.heap.size d W w' := fun W M g h c d cd src cap m => by
    have f : fetchM (landG 0) (landT false) (landL [471859202, 612368386, 402653184] []) 81 0 = (612368386, 1, true) := fetch_land [471859202, 612368386, 402653184] [] 0 1 0 (by decide) (by decide)
    have hs : hstep (landG 0) (landT false) (landL [471859202, 612368386, 402653184] []) 81 (fun i => [0, a, b, 0, v, 0, 0, 0].getD i 0 : Nat → Nat) [] 0 0 0 0 = ⟨82, setR (fun i => [0, a, b, 0, v, 0, 0, 0].getD i 0 : Nat → Nat) 4 ((v + (4294967296 - b)) % 4294967296), [], 0, 0, (landL [471859202, 612368386, 402653184] []), false, false, 0, 0⟩ := by
      unfold hstep
      rw [f, if_neg (by decide), if_neg (by decide), if_neg (by decide)]
      rfl
    rw [hva] at hs
    have key := step_c W M g h c d cd (landG 0) (landT false) (landL [471859202, 612368386, 402653184] []) 81 (fun i => [0, a, b, 0, v, 0, 0, 0].getD i 0 : Nat → Nat) [] 0 0 0 0 src cap m (fun i hi => by cases hi) (by decide) (by decide) (getD8_lt (by decide) ha hb (by decide) hv (by decide) (by decide) (by decide)) (by rw [f]; decide)
    rw [hs] at key
    exact key.mono fun e w' r => by
      obtain ⟨s, he, sp⟩ := r
      obtain ⟨src2, cap2, rfl, _⟩ := sp.1.form
      exact ⟨src2, cap2, he, sp.2.1, sp.2.2⟩
  have S3 : ∀ W M g h c d cd src cap, Mem W M g h c d cd (landG 0) (landT false) (landL [471859202, 612368386, 402653184] []) → Calls Try.prog 17 #[.agg #[.int .u32 82, .int .u32 0, .int .u32 (a : Int), .int .u32 (b : Int), .int .u32 0, .int .u32 (a : Int), .int .u32 0, .int .u32 0, .int .u32 0, .slice src 0 cap, .int .u8 0, .int .u64 0, .int .u32 0], .pointer (some ⟨M, 0, none⟩), .int .u64 0] W fun e w' => ∃ src2 cap2, e = .returned (.tuple #[.agg #[.int .u32 83, .int .u32 0, .int .u32 (a : Int), .int .u32 (b : Int), .int .u32 0, .int .u32 (a : Int), .int .u32 0, .int .u32 0, .int .u32 0, .slice src2 0 cap2, .int .u8 0, .int .u64 0, .int .u32 0], .agg #[.bool false, .bool false, .int .u32 0, .int .u32 0]]) ∧ Mem w' M g h c d cd (landG 0) (landT false) (landL [471859202, 612368386, 402653184] []) ∧ UpdX W.heap.size d W w' := fun W M g h c d cd src cap m => by
    have f : fetchM (landG 0) (landT false) (landL [471859202, 612368386, 402653184] []) 82 0 = (402653184, 1, true) := fetch_land [471859202, 612368386, 402653184] [] 0 2 0 (by decide) (by decide)
    have hs : hstep (landG 0) (landT false) (landL [471859202, 612368386, 402653184] []) 82 (fun i => [0, a, b, 0, a, 0, 0, 0].getD i 0 : Nat → Nat) [] 0 0 0 0 = ⟨83, (fun i => [0, a, b, 0, a, 0, 0, 0].getD i 0 : Nat → Nat), [], 0, 0, (landL [471859202, 612368386, 402653184] []), false, false, 0, 0⟩ := by
      unfold hstep
      rw [f, if_neg (by decide), if_neg (by decide), if_neg (by decide)]
      rfl
    have key := step_c W M g h c d cd (landG 0) (landT false) (landL [471859202, 612368386, 402653184] []) 82 (fun i => [0, a, b, 0, a, 0, 0, 0].getD i 0 : Nat → Nat) [] 0 0 0 0 src cap m (fun i hi => by cases hi) (by decide) (by decide) (getD8_lt (by decide) ha hb (by decide) ha (by decide) (by decide) (by decide)) (by rw [f]; decide)
    rw [hs] at key
    exact key.mono fun e w' r => by
      obtain ⟨s, he, sp⟩ := r
      obtain ⟨src2, cap2, rfl, _⟩ := sp.1.form
      exact ⟨src2, cap2, he, sp.2.1, sp.2.2⟩
  have MK : ∀ W, Stk W (some ⟨w.heap.size, 0, none⟩) [471859202, 612368386, 402653184] → Calls Try.prog 16 #[.agg #[.slice (some ⟨w.heap.size, 0, none⟩) 3 3, .slice none 0 0, .int .u32 0, .bool false]] W fun e w' => Made W [471859202, 612368386, 402653184] [] 0 false e w' := fun W q => made_c W _ _ 3 none [] 0 0 false q Stk.nil
  have KC : Hid (Stk (w.alloc (.cells #[.int .u32 471859202, .int .u32 612368386, .int .u32 402653184] 22)) (some ⟨w.heap.size, 0, none⟩) [471859202, 612368386, 402653184]) := Lib.hid (by
    have K := Blk.new w 22 #[.int .u32 471859202, .int .u32 612368386, .int .u32 402653184]
    intro i hi
    refine ⟨w.heap.size, 0, rfl, K.lt, ?_⟩
    rw [Nat.zero_add]
    match i, hi with
    | 0, _ => exact K.cell 0
    | 1, _ => exact K.cell 1
    | 2, _ => exact K.cell 2)
  have B0 : Hid (Below w.heap.size w (w.alloc (.cells #[.int .u32 471859202, .int .u32 612368386, .int .u32 402653184] 22))) := Lib.hid ((Below.refl _ w).alloc (Nat.le_refl _) _)
  have htm : Int.tmod (dd : Int) 5 = 1 := by rw [Int.tmod_eq_emod_of_nonneg (by omega)]; omega
  have hdz : (dd : Int) < 256 := by omega
  clear hvd hva hv ha hb hk hdd
  replace S1 := Lib.hid S1
  replace S2 := Lib.hid S2
  replace S3 := Lib.hid S3
  replace MK := Lib.hid MK
  replace hab := Lib.hid hab
  go_enter Try.func4, Try.ntmps4
  go_wp2_with fail
  refine (MK.out _ KC.out).mono ?_
  rintro en w1 ⟨M, g, h, c, d, cd, b0, cb, e0, ce, rfl, LD⟩
  generalize landG 0 = G at S1 S2 S3 LD ⊢
  generalize landT false = T at S1 S2 S3 LD ⊢
  generalize landL [471859202, 612368386, 402653184] [] = L at S1 S2 S3 LD ⊢
  unfold PM.rm
  go_upto_region 6 with fail
  generalize hX1 : (w1.alloc (.cells #[.int .u32 (G 0 : Int), .int .u32 (G 1 : Int), .int .u32 (G 2 : Int), .int .u32 (G 3 : Int), .int .u32 (G 4 : Int), .int .u32 (G 5 : Int), .int .u32 (G 6 : Int), .int .u32 (G 7 : Int), .slice (some ⟨b0, 0, none⟩) T.length cb, .slice (some ⟨e0, 0, none⟩) L.length ce] 40)).alloc (.cells #[.int .u32 80, .int .u32 0, .int .u32 (a : Int), .int .u32 (b : Int), .int .u32 0, .int .u32 0, .int .u32 0, .int .u32 0, .int .u32 0, .slice none 0 0, .int .u8 0, .int .u64 0, .int .u32 0] 28) = X1
  have HBX : Hid (Blk X1 (w1.heap.size + 1) 28 #[.int .u32 80, .int .u32 0, .int .u32 (a : Int), .int .u32 (b : Int), .int .u32 0, .int .u32 0, .int .u32 0, .int .u32 0, .int .u32 0, .slice none 0 0, .int .u8 0, .int .u64 0, .int .u32 0]) := Lib.hid (by
    have q := Blk.new (w1.alloc (.cells #[.int .u32 (G 0 : Int), .int .u32 (G 1 : Int), .int .u32 (G 2 : Int), .int .u32 (G 3 : Int), .int .u32 (G 4 : Int), .int .u32 (G 5 : Int), .int .u32 (G 6 : Int), .int .u32 (G 7 : Int), .slice (some ⟨b0, 0, none⟩) T.length cb, .slice (some ⟨e0, 0, none⟩) L.length ce] 40)) 28 #[.int .u32 80, .int .u32 0, .int .u32 (a : Int), .int .u32 (b : Int), .int .u32 0, .int .u32 0, .int .u32 0, .int .u32 0, .int .u32 0, .slice none 0 0, .int .u8 0, .int .u64 0, .int .u32 0]
    have z : (w1.alloc (.cells #[.int .u32 (G 0 : Int), .int .u32 (G 1 : Int), .int .u32 (G 2 : Int), .int .u32 (G 3 : Int), .int .u32 (G 4 : Int), .int .u32 (G 5 : Int), .int .u32 (G 6 : Int), .int .u32 (G 7 : Int), .slice (some ⟨b0, 0, none⟩) T.length cb, .slice (some ⟨e0, 0, none⟩) L.length ce] 40)).heap.size = w1.heap.size + 1 := by simp
    rw [z] at q
    exact hX1 ▸ q)
  have M1 : Hid (Mem X1 M g h c d cd G T L) := Lib.hid (hX1 ▸ (LD.mem.alloc _).alloc _)
  have B1 : Hid (Below w.heap.size w X1) := Lib.hid (hX1 ▸ ((B0.out.trans (LD.bel.mono B0.out.size)).alloc (Nat.le_trans B0.out.size LD.bel.size) _).alloc (by have := B0.out.size; have := LD.bel.size; simp at this ⊢; omega) _)
  have SZ : Hid (w.heap.size ≤ d ∧ M < X1.heap.size ∧ g < X1.heap.size ∧ h < X1.heap.size ∧ d < X1.heap.size) := Lib.hid ⟨Nat.le_trans B0.out.size LD.ld, M1.out.ten.lt, M1.out.tab.lt, M1.out.tab.pgs.lt, M1.out.wds.lt⟩
  clear hX1 LD KC
  have t0 : X1.cell? ⟨(w1.heap.size + 1), 0, none⟩ = some (.int .u32 80) := HBX.out.cell 0
  have t1 : X1.cell? ⟨(w1.heap.size + 1), 1, none⟩ = some (.int .u32 0) := HBX.out.cell 1
  have t2 : X1.cell? ⟨(w1.heap.size + 1), 2, none⟩ = some (.int .u32 (a : Int)) := HBX.out.cell 2
  have t3 : X1.cell? ⟨(w1.heap.size + 1), 3, none⟩ = some (.int .u32 (b : Int)) := HBX.out.cell 3
  have t4 : X1.cell? ⟨(w1.heap.size + 1), 4, none⟩ = some (.int .u32 0) := HBX.out.cell 4
  have t5 : X1.cell? ⟨(w1.heap.size + 1), 5, none⟩ = some (.int .u32 0) := HBX.out.cell 5
  have t6 : X1.cell? ⟨(w1.heap.size + 1), 6, none⟩ = some (.int .u32 0) := HBX.out.cell 6
  have t7 : X1.cell? ⟨(w1.heap.size + 1), 7, none⟩ = some (.int .u32 0) := HBX.out.cell 7
  have t8 : X1.cell? ⟨(w1.heap.size + 1), 8, none⟩ = some (.int .u32 0) := HBX.out.cell 8
  have t9 : X1.cell? ⟨(w1.heap.size + 1), 9, none⟩ = some (.slice none 0 0) := HBX.out.cell 9
  have t10 : X1.cell? ⟨(w1.heap.size + 1), 10, none⟩ = some (.int .u8 0) := HBX.out.cell 10
  have t11 : X1.cell? ⟨(w1.heap.size + 1), 11, none⟩ = some (.int .u64 0) := HBX.out.cell 11
  have t12 : X1.cell? ⟨(w1.heap.size + 1), 12, none⟩ = some (.int .u32 0) := HBX.out.cell 12
  go_wp2_with fail
  refine (S1.out _ _ _ _ _ _ _ _ _ M1.out).mono ?_
  rintro en w2 ⟨sa, ca, rfl, m2, u2⟩
  have B2 := Lib.hid (u2.below B1.out SZ.out.1)
  have L2 : Hid (X1.heap.size ≤ w2.heap.size) := Lib.hid u2.size
  go_upto_region 7 with fail
  generalize hX2 : (w2.alloc (.cells #[.int .u32 81, .int .u32 0, .int .u32 (a : Int), .int .u32 (b : Int), .int .u32 0, .int .u32 (v : Int), .int .u32 0, .int .u32 0, .int .u32 0, .slice sa 0 ca, .int .u8 0, .int .u64 0, .int .u32 0] 28)).alloc (.cells #[.bool false, .bool false, .int .u32 0, .int .u32 0] 46) = X2
  have KX : Hid (Blk X2 w2.heap.size 28 #[.int .u32 81, .int .u32 0, .int .u32 (a : Int), .int .u32 (b : Int), .int .u32 0, .int .u32 (v : Int), .int .u32 0, .int .u32 0, .int .u32 0, .slice sa 0 ca, .int .u8 0, .int .u64 0, .int .u32 0]) := Lib.hid (hX2 ▸ (Blk.new w2 _ _).alloc _)
  have M2 : Hid (Mem X2 M g h c d cd G T L) := Lib.hid (hX2 ▸ (m2.alloc _).alloc _)
  have B3 : Hid (Below w.heap.size w X2) := Lib.hid (hX2 ▸ (B2.out.alloc B2.out.size _).alloc (by have := B2.out.size; simp; omega) _)
  clear hX2 t0 t1 t2 t3 t4 t5 t6 t7 t8 t9 t10 t11 t12 HBX m2 u2 B1 B2
  have x0 : X2.cell? ⟨w2.heap.size, 0, none⟩ = some (.int .u32 81) := KX.out.cell 0
  have x1 : X2.cell? ⟨w2.heap.size, 1, none⟩ = some (.int .u32 0) := KX.out.cell 1
  have x2 : X2.cell? ⟨w2.heap.size, 2, none⟩ = some (.int .u32 (a : Int)) := KX.out.cell 2
  have x3 : X2.cell? ⟨w2.heap.size, 3, none⟩ = some (.int .u32 (b : Int)) := KX.out.cell 3
  have x4 : X2.cell? ⟨w2.heap.size, 4, none⟩ = some (.int .u32 0) := KX.out.cell 4
  have x5 : X2.cell? ⟨w2.heap.size, 5, none⟩ = some (.int .u32 (v : Int)) := KX.out.cell 5
  have x6 : X2.cell? ⟨w2.heap.size, 6, none⟩ = some (.int .u32 0) := KX.out.cell 6
  have x7 : X2.cell? ⟨w2.heap.size, 7, none⟩ = some (.int .u32 0) := KX.out.cell 7
  have x8 : X2.cell? ⟨w2.heap.size, 8, none⟩ = some (.int .u32 0) := KX.out.cell 8
  have x9 : X2.cell? ⟨w2.heap.size, 9, none⟩ = some (.slice sa 0 ca) := KX.out.cell 9
  have x10 : X2.cell? ⟨w2.heap.size, 10, none⟩ = some (.int .u8 0) := KX.out.cell 10
  have x11 : X2.cell? ⟨w2.heap.size, 11, none⟩ = some (.int .u64 0) := KX.out.cell 11
  have x12 : X2.cell? ⟨w2.heap.size, 12, none⟩ = some (.int .u32 0) := KX.out.cell 12
  have hab' := hab.out
  go_wp2_with fail
  refine (S2.out _ _ _ _ _ _ _ _ _ M2.out).mono ?_
  rintro en w3 ⟨sb, cb2, rfl, m3, u3⟩
  have sz := SZ.out
  have l2 := L2.out
  have K3 := Lib.hid (u3.blk KX.out (by omega))
  have B4 := Lib.hid (u3.below B3.out SZ.out.1)
  have M3 : Hid (Mem (w3.setCells w2.heap.size 0 [.int .u32 82, .int .u32 0, .int .u32 (a : Int), .int .u32 (b : Int), .int .u32 0, .int .u32 (a : Int), .int .u32 0, .int .u32 0, .int .u32 0, .slice sb 0 cb2, .int .u8 0, .int .u64 0, .int .u32 0]) M g h c d cd G T L) := Lib.hid (m3.upd9 (upd_setCells9 _ _ 0 _) (by omega) (by omega) (by omega) (by omega))
  have K4 : Hid (Blk (w3.setCells w2.heap.size 0 [.int .u32 82, .int .u32 0, .int .u32 (a : Int), .int .u32 (b : Int), .int .u32 0, .int .u32 (a : Int), .int .u32 0, .int .u32 0, .int .u32 0, .slice sb 0 cb2, .int .u8 0, .int .u64 0, .int .u32 0]) w2.heap.size 28 #[.int .u32 82, .int .u32 0, .int .u32 (a : Int), .int .u32 (b : Int), .int .u32 0, .int .u32 (a : Int), .int .u32 0, .int .u32 0, .int .u32 0, .slice sb 0 cb2, .int .u8 0, .int .u64 0, .int .u32 0]) := Lib.hid (Blk.all13 K3.out _ _ _ _ _ _ _ _ _ _ _ _ _)
  have B5 : Hid (Below w.heap.size w (w3.setCells w2.heap.size 0 [.int .u32 82, .int .u32 0, .int .u32 (a : Int), .int .u32 (b : Int), .int .u32 0, .int .u32 (a : Int), .int .u32 0, .int .u32 0, .int .u32 0, .slice sb 0 cb2, .int .u8 0, .int .u64 0, .int .u32 0])) := Lib.hid (below_setCells (by have := SZ.out; omega) _ 0 _ B4.out)
  have NE : Hid (w2.heap.size ≠ d) := Lib.hid (by omega)
  clear m3 u3 sz l2 x0 x1 x2 x3 x4 x5 x6 x7 x8 x9 x10 x11 x12 KX B3
  have x0 : w3.cell? ⟨w2.heap.size, 0, none⟩ = some (.int .u32 81) := K3.out.cell 0
  have fx0 : w3.frozen? ⟨w2.heap.size, 0, none⟩ = false := K3.out.frozen 0
  have x1 : w3.cell? ⟨w2.heap.size, 1, none⟩ = some (.int .u32 0) := K3.out.cell 1
  have fx1 : w3.frozen? ⟨w2.heap.size, 1, none⟩ = false := K3.out.frozen 1
  have x2 : w3.cell? ⟨w2.heap.size, 2, none⟩ = some (.int .u32 (a : Int)) := K3.out.cell 2
  have fx2 : w3.frozen? ⟨w2.heap.size, 2, none⟩ = false := K3.out.frozen 2
  have x3 : w3.cell? ⟨w2.heap.size, 3, none⟩ = some (.int .u32 (b : Int)) := K3.out.cell 3
  have fx3 : w3.frozen? ⟨w2.heap.size, 3, none⟩ = false := K3.out.frozen 3
  have x4 : w3.cell? ⟨w2.heap.size, 4, none⟩ = some (.int .u32 0) := K3.out.cell 4
  have fx4 : w3.frozen? ⟨w2.heap.size, 4, none⟩ = false := K3.out.frozen 4
  have x5 : w3.cell? ⟨w2.heap.size, 5, none⟩ = some (.int .u32 (v : Int)) := K3.out.cell 5
  have fx5 : w3.frozen? ⟨w2.heap.size, 5, none⟩ = false := K3.out.frozen 5
  have x6 : w3.cell? ⟨w2.heap.size, 6, none⟩ = some (.int .u32 0) := K3.out.cell 6
  have fx6 : w3.frozen? ⟨w2.heap.size, 6, none⟩ = false := K3.out.frozen 6
  have x7 : w3.cell? ⟨w2.heap.size, 7, none⟩ = some (.int .u32 0) := K3.out.cell 7
  have fx7 : w3.frozen? ⟨w2.heap.size, 7, none⟩ = false := K3.out.frozen 7
  have x8 : w3.cell? ⟨w2.heap.size, 8, none⟩ = some (.int .u32 0) := K3.out.cell 8
  have fx8 : w3.frozen? ⟨w2.heap.size, 8, none⟩ = false := K3.out.frozen 8
  have x9 : w3.cell? ⟨w2.heap.size, 9, none⟩ = some (.slice sa 0 ca) := K3.out.cell 9
  have fx9 : w3.frozen? ⟨w2.heap.size, 9, none⟩ = false := K3.out.frozen 9
  have x10 : w3.cell? ⟨w2.heap.size, 10, none⟩ = some (.int .u8 0) := K3.out.cell 10
  have fx10 : w3.frozen? ⟨w2.heap.size, 10, none⟩ = false := K3.out.frozen 10
  have x11 : w3.cell? ⟨w2.heap.size, 11, none⟩ = some (.int .u64 0) := K3.out.cell 11
  have fx11 : w3.frozen? ⟨w2.heap.size, 11, none⟩ = false := K3.out.frozen 11
  have x12 : w3.cell? ⟨w2.heap.size, 12, none⟩ = some (.int .u32 0) := K3.out.cell 12
  have fx12 : w3.frozen? ⟨w2.heap.size, 12, none⟩ = false := K3.out.frozen 12
  go_upto_region 10 with fail
  generalize hX3 : w3.setCells w2.heap.size 0 [.int .u32 82, .int .u32 0, .int .u32 (a : Int), .int .u32 (b : Int), .int .u32 0, .int .u32 (a : Int), .int .u32 0, .int .u32 0, .int .u32 0, .slice sb 0 cb2, .int .u8 0, .int .u64 0, .int .u32 0] = X3 at M3 K4 B5
  simp only [World.setCells, Nat.zero_add, Nat.reduceAdd] at hX3
  (try rw [hX3])
  clear hX3 x0 x1 x2 x3 x4 x5 x6 x7 x8 x9 x10 x11 x12 fx0 fx1 fx2 fx3 fx4 fx5 fx6 fx7 fx8 fx9 fx10 fx11 fx12 K3 B4
  have x0 : X3.cell? ⟨w2.heap.size, 0, none⟩ = some (.int .u32 82) := K4.out.cell 0
  have x1 : X3.cell? ⟨w2.heap.size, 1, none⟩ = some (.int .u32 0) := K4.out.cell 1
  have x2 : X3.cell? ⟨w2.heap.size, 2, none⟩ = some (.int .u32 (a : Int)) := K4.out.cell 2
  have x3 : X3.cell? ⟨w2.heap.size, 3, none⟩ = some (.int .u32 (b : Int)) := K4.out.cell 3
  have x4 : X3.cell? ⟨w2.heap.size, 4, none⟩ = some (.int .u32 0) := K4.out.cell 4
  have x5 : X3.cell? ⟨w2.heap.size, 5, none⟩ = some (.int .u32 (a : Int)) := K4.out.cell 5
  have x6 : X3.cell? ⟨w2.heap.size, 6, none⟩ = some (.int .u32 0) := K4.out.cell 6
  have x7 : X3.cell? ⟨w2.heap.size, 7, none⟩ = some (.int .u32 0) := K4.out.cell 7
  have x8 : X3.cell? ⟨w2.heap.size, 8, none⟩ = some (.int .u32 0) := K4.out.cell 8
  have x9 : X3.cell? ⟨w2.heap.size, 9, none⟩ = some (.slice sb 0 cb2) := K4.out.cell 9
  have x10 : X3.cell? ⟨w2.heap.size, 10, none⟩ = some (.int .u8 0) := K4.out.cell 10
  have x11 : X3.cell? ⟨w2.heap.size, 11, none⟩ = some (.int .u64 0) := K4.out.cell 11
  have x12 : X3.cell? ⟨w2.heap.size, 12, none⟩ = some (.int .u32 0) := K4.out.cell 12
  go_wp2_with fail
  refine (S3.out _ _ _ _ _ _ _ _ _ M3.out).mono ?_
  rintro en w4 ⟨sc, cc, rfl, m4, u4⟩
  have K5 := Lib.hid (u4.blk K4.out NE.out)
  have B6 := Lib.hid (u4.below B5.out SZ.out.1)
  clear m4 u4 x0 x1 x2 x3 x4 x5 x6 x7 x8 x9 x10 x11 x12 K4 B5 M3
  go_upto_region 11 with fail
  generalize hX4 : (w4.alloc (.cells #[.int .u32 83, .int .u32 0, .int .u32 (a : Int), .int .u32 (b : Int), .int .u32 0, .int .u32 (a : Int), .int .u32 0, .int .u32 0, .int .u32 0, .slice sc 0 cc, .int .u8 0, .int .u64 0, .int .u32 0] 28)).alloc (.cells #[.bool false, .bool false, .int .u32 0, .int .u32 0] 46) = X4
  have KX : Hid (Blk X4 w2.heap.size 28 #[.int .u32 82, .int .u32 0, .int .u32 (a : Int), .int .u32 (b : Int), .int .u32 0, .int .u32 (a : Int), .int .u32 0, .int .u32 0, .int .u32 0, .slice sb 0 cb2, .int .u8 0, .int .u64 0, .int .u32 0]) := Lib.hid (hX4 ▸ (K5.out.alloc _).alloc _)
  have KY : Hid (Blk X4 w4.heap.size 28 #[.int .u32 83, .int .u32 0, .int .u32 (a : Int), .int .u32 (b : Int), .int .u32 0, .int .u32 (a : Int), .int .u32 0, .int .u32 0, .int .u32 0, .slice sc 0 cc, .int .u8 0, .int .u64 0, .int .u32 0]) := Lib.hid (hX4 ▸ (Blk.new w4 _ _).alloc _)
  have B7 : Hid (Below w.heap.size w X4) := Lib.hid (hX4 ▸ (B6.out.alloc B6.out.size _).alloc (by have := B6.out.size; simp; omega) _)
  clear hX4 K5 B6
  have x0 : X4.cell? ⟨w2.heap.size, 0, none⟩ = some (.int .u32 82) := KX.out.cell 0
  have x1 : X4.cell? ⟨w2.heap.size, 1, none⟩ = some (.int .u32 0) := KX.out.cell 1
  have x2 : X4.cell? ⟨w2.heap.size, 2, none⟩ = some (.int .u32 (a : Int)) := KX.out.cell 2
  have x3 : X4.cell? ⟨w2.heap.size, 3, none⟩ = some (.int .u32 (b : Int)) := KX.out.cell 3
  have x4 : X4.cell? ⟨w2.heap.size, 4, none⟩ = some (.int .u32 0) := KX.out.cell 4
  have x5 : X4.cell? ⟨w2.heap.size, 5, none⟩ = some (.int .u32 (a : Int)) := KX.out.cell 5
  have x6 : X4.cell? ⟨w2.heap.size, 6, none⟩ = some (.int .u32 0) := KX.out.cell 6
  have x7 : X4.cell? ⟨w2.heap.size, 7, none⟩ = some (.int .u32 0) := KX.out.cell 7
  have x8 : X4.cell? ⟨w2.heap.size, 8, none⟩ = some (.int .u32 0) := KX.out.cell 8
  have x9 : X4.cell? ⟨w2.heap.size, 9, none⟩ = some (.slice sb 0 cb2) := KX.out.cell 9
  have x10 : X4.cell? ⟨w2.heap.size, 10, none⟩ = some (.int .u8 0) := KX.out.cell 10
  have x11 : X4.cell? ⟨w2.heap.size, 11, none⟩ = some (.int .u64 0) := KX.out.cell 11
  have x12 : X4.cell? ⟨w2.heap.size, 12, none⟩ = some (.int .u32 0) := KX.out.cell 12
  have y0 : X4.cell? ⟨w4.heap.size, 0, none⟩ = some (.int .u32 83) := KY.out.cell 0
  have y1 : X4.cell? ⟨w4.heap.size, 1, none⟩ = some (.int .u32 0) := KY.out.cell 1
  have y2 : X4.cell? ⟨w4.heap.size, 2, none⟩ = some (.int .u32 (a : Int)) := KY.out.cell 2
  have y3 : X4.cell? ⟨w4.heap.size, 3, none⟩ = some (.int .u32 (b : Int)) := KY.out.cell 3
  have y4 : X4.cell? ⟨w4.heap.size, 4, none⟩ = some (.int .u32 0) := KY.out.cell 4
  have y5 : X4.cell? ⟨w4.heap.size, 5, none⟩ = some (.int .u32 (a : Int)) := KY.out.cell 5
  have y6 : X4.cell? ⟨w4.heap.size, 6, none⟩ = some (.int .u32 0) := KY.out.cell 6
  have y7 : X4.cell? ⟨w4.heap.size, 7, none⟩ = some (.int .u32 0) := KY.out.cell 7
  have y8 : X4.cell? ⟨w4.heap.size, 8, none⟩ = some (.int .u32 0) := KY.out.cell 8
  have y9 : X4.cell? ⟨w4.heap.size, 9, none⟩ = some (.slice sc 0 cc) := KY.out.cell 9
  have y10 : X4.cell? ⟨w4.heap.size, 10, none⟩ = some (.int .u8 0) := KY.out.cell 10
  have y11 : X4.cell? ⟨w4.heap.size, 11, none⟩ = some (.int .u64 0) := KY.out.cell 11
  have y12 : X4.cell? ⟨w4.heap.size, 12, none⟩ = some (.int .u32 0) := KY.out.cell 12
  go_wp2_with fail
  refine (awake09_c _).mono ?_
  rintro en w9 ⟨rfl, hb⟩
  have B8 := Lib.hid (B7.out.trans (hb.mono B7.out.size))
  clear hb
  go_wp2_with fail
  go_ret
  exact ⟨rfl, B8.out⟩
set_option maxRecDepth 100000 in
set_option maxHeartbeats 16000000 in
theorem sums_5 (a b dd : Nat) (w : World) (ha : a < 4294967296) (hb : b < 4294967296) (hdd : dd < 256) (hk : dd % 5 = 2) :
    Calls Try.prog 4 #[.int .u32 (a : Int), .int .u32 (b : Int), .int .u8 (dd : Int)] w fun e w' => e = .returned (.bool true) ∧ Below w.heap.size w w' := by
  obtain ⟨v, hvd⟩ : ∃ v, (a + b) % 4294967296 = v := ⟨_, rfl⟩
  have hv : v < 4294967296 := by omega
  have hva : (v + (4294967296 - b)) % 4294967296 = a := by omega
  have hab : IntKind.u32.wrap ((a : Int) + (b : Int)) = (v : Int) := by
    unfold IntKind.wrap
    simp [IntKind.bits, IntKind.signed]
    omega
  have S1 : ∀ W M g h c d cd src cap, Mem W M g h c d cd (landG 0) (landT false) (landL [488636418, 631242754, 402653184] []) → Calls Try.prog 17 #[.agg #[.int .u32 80, .int .u32 0, .int .u32 (a : Int), .int .u32 (b : Int), .int .u32 0, .int .u32 0, .int .u32 0, .int .u32 0, .int .u32 0, .slice src 0 cap, .int .u8 0, .int .u64 0, .int .u32 0], .pointer (some ⟨M, 0, none⟩), .int .u64 0] W fun e w' => ∃ src2 cap2, e = .returned (.tuple #[.agg #[.int .u32 81, .int .u32 0, .int .u32 (a : Int), .int .u32 (b : Int), .int .u32 0, .int .u32 0, .int .u32 (v : Int), .int .u32 0, .int .u32 0, .slice src2 0 cap2, .int .u8 0, .int .u64 0, .int .u32 0], .agg #[.bool false, .bool false, .int .u32 0, .int .u32 0]]) ∧ Mem w' M g h c d cd (landG 0) (landT false) (landL [488636418, 631242754, 402653184] []) ∧ UpdX W.heap.size d W w' := fun W M g h c d cd src cap m => by
    have f : fetchM (landG 0) (landT false) (landL [488636418, 631242754, 402653184] []) 80 0 = (488636418, 1, true) := fetch_land [488636418, 631242754, 402653184] [] 0 0 0 (by decide) (by decide)
    have hs : hstep (landG 0) (landT false) (landL [488636418, 631242754, 402653184] []) 80 (fun i => [0, a, b, 0, 0, 0, 0, 0].getD i 0 : Nat → Nat) [] 0 0 0 0 = ⟨81, setR (fun i => [0, a, b, 0, 0, 0, 0, 0].getD i 0 : Nat → Nat) 5 ((a + b) % 4294967296), [], 0, 0, (landL [488636418, 631242754, 402653184] []), false, false, 0, 0⟩ := by
      unfold hstep
      rw [f, if_neg (by decide), if_neg (by decide), if_neg (by decide)]
      rfl
    rw [hvd] at hs
    have key := step_c W M g h c d cd (landG 0) (landT false) (landL [488636418, 631242754, 402653184] []) 80 (fun i => [0, a, b, 0, 0, 0, 0, 0].getD i 0 : Nat → Nat) [] 0 0 0 0 src cap m (fun i hi => by cases hi) (by decide) (by decide) (getD8_lt (by decide) ha hb (by decide) (by decide) (by decide) (by decide) (by decide)) (by rw [f]; decide)
    rw [hs] at key
    exact key.mono fun e w' r => by
      obtain ⟨s, he, sp⟩ := r
      obtain ⟨src2, cap2, rfl, _⟩ := sp.1.form
      exact ⟨src2, cap2, he, sp.2.1, sp.2.2⟩
  have S2 : ∀ W M g h c d cd src cap, Mem W M g h c d cd (landG 0) (landT false) (landL [488636418, 631242754, 402653184] []) → Calls Try.prog 17 #[.agg #[.int .u32 81, .int .u32 0, .int .u32 (a : Int), .int .u32 (b : Int), .int .u32 0, .int .u32 0, .int .u32 (v : Int), .int .u32 0, .int .u32 0, .slice src 0 cap, .int .u8 0, .int .u64 0, .int .u32 0], .pointer (some ⟨M, 0, none⟩), .int .u64 0] W fun e w' => ∃ src2 cap2, e = .returned (.tuple #[.agg #[.int .u32 82, .int .u32 0, .int .u32 (a : Int), .int .u32 (b : Int), .int .u32 0, .int .u32 0, .int .u32 (a : Int), .int .u32 0, .int .u32 0, .slice src2 0 cap2, .int .u8 0, .int .u64 0, .int .u32 0], .agg #[.bool false, .bool false, .int .u32 0, .int .u32 0]]) ∧ Mem w' M g h c d cd (landG 0) (landT false) (landL [488636418, 631242754, 402653184] []) ∧ UpdX W.heap.size d W w' := fun W M g h c d cd src cap m => by
    have f : fetchM (landG 0) (landT false) (landL [488636418, 631242754, 402653184] []) 81 0 = (631242754, 1, true) := fetch_land [488636418, 631242754, 402653184] [] 0 1 0 (by decide) (by decide)
    have hs : hstep (landG 0) (landT false) (landL [488636418, 631242754, 402653184] []) 81 (fun i => [0, a, b, 0, 0, v, 0, 0].getD i 0 : Nat → Nat) [] 0 0 0 0 = ⟨82, setR (fun i => [0, a, b, 0, 0, v, 0, 0].getD i 0 : Nat → Nat) 5 ((v + (4294967296 - b)) % 4294967296), [], 0, 0, (landL [488636418, 631242754, 402653184] []), false, false, 0, 0⟩ := by
      unfold hstep
      rw [f, if_neg (by decide), if_neg (by decide), if_neg (by decide)]
      rfl
    rw [hva] at hs
    have key := step_c W M g h c d cd (landG 0) (landT false) (landL [488636418, 631242754, 402653184] []) 81 (fun i => [0, a, b, 0, 0, v, 0, 0].getD i 0 : Nat → Nat) [] 0 0 0 0 src cap m (fun i hi => by cases hi) (by decide) (by decide) (getD8_lt (by decide) ha hb (by decide) (by decide) hv (by decide) (by decide)) (by rw [f]; decide)
    rw [hs] at key
    exact key.mono fun e w' r => by
      obtain ⟨s, he, sp⟩ := r
      obtain ⟨src2, cap2, rfl, _⟩ := sp.1.form
      exact ⟨src2, cap2, he, sp.2.1, sp.2.2⟩
  have S3 : ∀ W M g h c d cd src cap, Mem W M g h c d cd (landG 0) (landT false) (landL [488636418, 631242754, 402653184] []) → Calls Try.prog 17 #[.agg #[.int .u32 82, .int .u32 0, .int .u32 (a : Int), .int .u32 (b : Int), .int .u32 0, .int .u32 0, .int .u32 (a : Int), .int .u32 0, .int .u32 0, .slice src 0 cap, .int .u8 0, .int .u64 0, .int .u32 0], .pointer (some ⟨M, 0, none⟩), .int .u64 0] W fun e w' => ∃ src2 cap2, e = .returned (.tuple #[.agg #[.int .u32 83, .int .u32 0, .int .u32 (a : Int), .int .u32 (b : Int), .int .u32 0, .int .u32 0, .int .u32 (a : Int), .int .u32 0, .int .u32 0, .slice src2 0 cap2, .int .u8 0, .int .u64 0, .int .u32 0], .agg #[.bool false, .bool false, .int .u32 0, .int .u32 0]]) ∧ Mem w' M g h c d cd (landG 0) (landT false) (landL [488636418, 631242754, 402653184] []) ∧ UpdX W.heap.size d W w' := fun W M g h c d cd src cap m => by
    have f : fetchM (landG 0) (landT false) (landL [488636418, 631242754, 402653184] []) 82 0 = (402653184, 1, true) := fetch_land [488636418, 631242754, 402653184] [] 0 2 0 (by decide) (by decide)
    have hs : hstep (landG 0) (landT false) (landL [488636418, 631242754, 402653184] []) 82 (fun i => [0, a, b, 0, 0, a, 0, 0].getD i 0 : Nat → Nat) [] 0 0 0 0 = ⟨83, (fun i => [0, a, b, 0, 0, a, 0, 0].getD i 0 : Nat → Nat), [], 0, 0, (landL [488636418, 631242754, 402653184] []), false, false, 0, 0⟩ := by
      unfold hstep
      rw [f, if_neg (by decide), if_neg (by decide), if_neg (by decide)]
      rfl
    have key := step_c W M g h c d cd (landG 0) (landT false) (landL [488636418, 631242754, 402653184] []) 82 (fun i => [0, a, b, 0, 0, a, 0, 0].getD i 0 : Nat → Nat) [] 0 0 0 0 src cap m (fun i hi => by cases hi) (by decide) (by decide) (getD8_lt (by decide) ha hb (by decide) (by decide) ha (by decide) (by decide)) (by rw [f]; decide)
    rw [hs] at key
    exact key.mono fun e w' r => by
      obtain ⟨s, he, sp⟩ := r
      obtain ⟨src2, cap2, rfl, _⟩ := sp.1.form
      exact ⟨src2, cap2, he, sp.2.1, sp.2.2⟩
  have MK : ∀ W, Stk W (some ⟨w.heap.size, 0, none⟩) [488636418, 631242754, 402653184] → Calls Try.prog 16 #[.agg #[.slice (some ⟨w.heap.size, 0, none⟩) 3 3, .slice none 0 0, .int .u32 0, .bool false]] W fun e w' => Made W [488636418, 631242754, 402653184] [] 0 false e w' := fun W q => made_c W _ _ 3 none [] 0 0 false q Stk.nil
  have KC : Hid (Stk (w.alloc (.cells #[.int .u32 488636418, .int .u32 631242754, .int .u32 402653184] 22)) (some ⟨w.heap.size, 0, none⟩) [488636418, 631242754, 402653184]) := Lib.hid (by
    have K := Blk.new w 22 #[.int .u32 488636418, .int .u32 631242754, .int .u32 402653184]
    intro i hi
    refine ⟨w.heap.size, 0, rfl, K.lt, ?_⟩
    rw [Nat.zero_add]
    match i, hi with
    | 0, _ => exact K.cell 0
    | 1, _ => exact K.cell 1
    | 2, _ => exact K.cell 2)
  have B0 : Hid (Below w.heap.size w (w.alloc (.cells #[.int .u32 488636418, .int .u32 631242754, .int .u32 402653184] 22))) := Lib.hid ((Below.refl _ w).alloc (Nat.le_refl _) _)
  have htm : Int.tmod (dd : Int) 5 = 2 := by rw [Int.tmod_eq_emod_of_nonneg (by omega)]; omega
  have hdz : (dd : Int) < 256 := by omega
  clear hvd hva hv ha hb hk hdd
  replace S1 := Lib.hid S1
  replace S2 := Lib.hid S2
  replace S3 := Lib.hid S3
  replace MK := Lib.hid MK
  replace hab := Lib.hid hab
  go_enter Try.func4, Try.ntmps4
  go_wp2_with fail
  refine (MK.out _ KC.out).mono ?_
  rintro en w1 ⟨M, g, h, c, d, cd, b0, cb, e0, ce, rfl, LD⟩
  generalize landG 0 = G at S1 S2 S3 LD ⊢
  generalize landT false = T at S1 S2 S3 LD ⊢
  generalize landL [488636418, 631242754, 402653184] [] = L at S1 S2 S3 LD ⊢
  unfold PM.rm
  go_upto_region 6 with fail
  generalize hX1 : (w1.alloc (.cells #[.int .u32 (G 0 : Int), .int .u32 (G 1 : Int), .int .u32 (G 2 : Int), .int .u32 (G 3 : Int), .int .u32 (G 4 : Int), .int .u32 (G 5 : Int), .int .u32 (G 6 : Int), .int .u32 (G 7 : Int), .slice (some ⟨b0, 0, none⟩) T.length cb, .slice (some ⟨e0, 0, none⟩) L.length ce] 40)).alloc (.cells #[.int .u32 80, .int .u32 0, .int .u32 (a : Int), .int .u32 (b : Int), .int .u32 0, .int .u32 0, .int .u32 0, .int .u32 0, .int .u32 0, .slice none 0 0, .int .u8 0, .int .u64 0, .int .u32 0] 28) = X1
  have HBX : Hid (Blk X1 (w1.heap.size + 1) 28 #[.int .u32 80, .int .u32 0, .int .u32 (a : Int), .int .u32 (b : Int), .int .u32 0, .int .u32 0, .int .u32 0, .int .u32 0, .int .u32 0, .slice none 0 0, .int .u8 0, .int .u64 0, .int .u32 0]) := Lib.hid (by
    have q := Blk.new (w1.alloc (.cells #[.int .u32 (G 0 : Int), .int .u32 (G 1 : Int), .int .u32 (G 2 : Int), .int .u32 (G 3 : Int), .int .u32 (G 4 : Int), .int .u32 (G 5 : Int), .int .u32 (G 6 : Int), .int .u32 (G 7 : Int), .slice (some ⟨b0, 0, none⟩) T.length cb, .slice (some ⟨e0, 0, none⟩) L.length ce] 40)) 28 #[.int .u32 80, .int .u32 0, .int .u32 (a : Int), .int .u32 (b : Int), .int .u32 0, .int .u32 0, .int .u32 0, .int .u32 0, .int .u32 0, .slice none 0 0, .int .u8 0, .int .u64 0, .int .u32 0]
    have z : (w1.alloc (.cells #[.int .u32 (G 0 : Int), .int .u32 (G 1 : Int), .int .u32 (G 2 : Int), .int .u32 (G 3 : Int), .int .u32 (G 4 : Int), .int .u32 (G 5 : Int), .int .u32 (G 6 : Int), .int .u32 (G 7 : Int), .slice (some ⟨b0, 0, none⟩) T.length cb, .slice (some ⟨e0, 0, none⟩) L.length ce] 40)).heap.size = w1.heap.size + 1 := by simp
    rw [z] at q
    exact hX1 ▸ q)
  have M1 : Hid (Mem X1 M g h c d cd G T L) := Lib.hid (hX1 ▸ (LD.mem.alloc _).alloc _)
  have B1 : Hid (Below w.heap.size w X1) := Lib.hid (hX1 ▸ ((B0.out.trans (LD.bel.mono B0.out.size)).alloc (Nat.le_trans B0.out.size LD.bel.size) _).alloc (by have := B0.out.size; have := LD.bel.size; simp at this ⊢; omega) _)
  have SZ : Hid (w.heap.size ≤ d ∧ M < X1.heap.size ∧ g < X1.heap.size ∧ h < X1.heap.size ∧ d < X1.heap.size) := Lib.hid ⟨Nat.le_trans B0.out.size LD.ld, M1.out.ten.lt, M1.out.tab.lt, M1.out.tab.pgs.lt, M1.out.wds.lt⟩
  clear hX1 LD KC
  have t0 : X1.cell? ⟨(w1.heap.size + 1), 0, none⟩ = some (.int .u32 80) := HBX.out.cell 0
  have t1 : X1.cell? ⟨(w1.heap.size + 1), 1, none⟩ = some (.int .u32 0) := HBX.out.cell 1
  have t2 : X1.cell? ⟨(w1.heap.size + 1), 2, none⟩ = some (.int .u32 (a : Int)) := HBX.out.cell 2
  have t3 : X1.cell? ⟨(w1.heap.size + 1), 3, none⟩ = some (.int .u32 (b : Int)) := HBX.out.cell 3
  have t4 : X1.cell? ⟨(w1.heap.size + 1), 4, none⟩ = some (.int .u32 0) := HBX.out.cell 4
  have t5 : X1.cell? ⟨(w1.heap.size + 1), 5, none⟩ = some (.int .u32 0) := HBX.out.cell 5
  have t6 : X1.cell? ⟨(w1.heap.size + 1), 6, none⟩ = some (.int .u32 0) := HBX.out.cell 6
  have t7 : X1.cell? ⟨(w1.heap.size + 1), 7, none⟩ = some (.int .u32 0) := HBX.out.cell 7
  have t8 : X1.cell? ⟨(w1.heap.size + 1), 8, none⟩ = some (.int .u32 0) := HBX.out.cell 8
  have t9 : X1.cell? ⟨(w1.heap.size + 1), 9, none⟩ = some (.slice none 0 0) := HBX.out.cell 9
  have t10 : X1.cell? ⟨(w1.heap.size + 1), 10, none⟩ = some (.int .u8 0) := HBX.out.cell 10
  have t11 : X1.cell? ⟨(w1.heap.size + 1), 11, none⟩ = some (.int .u64 0) := HBX.out.cell 11
  have t12 : X1.cell? ⟨(w1.heap.size + 1), 12, none⟩ = some (.int .u32 0) := HBX.out.cell 12
  go_wp2_with fail
  refine (S1.out _ _ _ _ _ _ _ _ _ M1.out).mono ?_
  rintro en w2 ⟨sa, ca, rfl, m2, u2⟩
  have B2 := Lib.hid (u2.below B1.out SZ.out.1)
  have L2 : Hid (X1.heap.size ≤ w2.heap.size) := Lib.hid u2.size
  go_upto_region 7 with fail
  generalize hX2 : (w2.alloc (.cells #[.int .u32 81, .int .u32 0, .int .u32 (a : Int), .int .u32 (b : Int), .int .u32 0, .int .u32 0, .int .u32 (v : Int), .int .u32 0, .int .u32 0, .slice sa 0 ca, .int .u8 0, .int .u64 0, .int .u32 0] 28)).alloc (.cells #[.bool false, .bool false, .int .u32 0, .int .u32 0] 46) = X2
  have KX : Hid (Blk X2 w2.heap.size 28 #[.int .u32 81, .int .u32 0, .int .u32 (a : Int), .int .u32 (b : Int), .int .u32 0, .int .u32 0, .int .u32 (v : Int), .int .u32 0, .int .u32 0, .slice sa 0 ca, .int .u8 0, .int .u64 0, .int .u32 0]) := Lib.hid (hX2 ▸ (Blk.new w2 _ _).alloc _)
  have M2 : Hid (Mem X2 M g h c d cd G T L) := Lib.hid (hX2 ▸ (m2.alloc _).alloc _)
  have B3 : Hid (Below w.heap.size w X2) := Lib.hid (hX2 ▸ (B2.out.alloc B2.out.size _).alloc (by have := B2.out.size; simp; omega) _)
  clear hX2 t0 t1 t2 t3 t4 t5 t6 t7 t8 t9 t10 t11 t12 HBX m2 u2 B1 B2
  have x0 : X2.cell? ⟨w2.heap.size, 0, none⟩ = some (.int .u32 81) := KX.out.cell 0
  have x1 : X2.cell? ⟨w2.heap.size, 1, none⟩ = some (.int .u32 0) := KX.out.cell 1
  have x2 : X2.cell? ⟨w2.heap.size, 2, none⟩ = some (.int .u32 (a : Int)) := KX.out.cell 2
  have x3 : X2.cell? ⟨w2.heap.size, 3, none⟩ = some (.int .u32 (b : Int)) := KX.out.cell 3
  have x4 : X2.cell? ⟨w2.heap.size, 4, none⟩ = some (.int .u32 0) := KX.out.cell 4
  have x5 : X2.cell? ⟨w2.heap.size, 5, none⟩ = some (.int .u32 0) := KX.out.cell 5
  have x6 : X2.cell? ⟨w2.heap.size, 6, none⟩ = some (.int .u32 (v : Int)) := KX.out.cell 6
  have x7 : X2.cell? ⟨w2.heap.size, 7, none⟩ = some (.int .u32 0) := KX.out.cell 7
  have x8 : X2.cell? ⟨w2.heap.size, 8, none⟩ = some (.int .u32 0) := KX.out.cell 8
  have x9 : X2.cell? ⟨w2.heap.size, 9, none⟩ = some (.slice sa 0 ca) := KX.out.cell 9
  have x10 : X2.cell? ⟨w2.heap.size, 10, none⟩ = some (.int .u8 0) := KX.out.cell 10
  have x11 : X2.cell? ⟨w2.heap.size, 11, none⟩ = some (.int .u64 0) := KX.out.cell 11
  have x12 : X2.cell? ⟨w2.heap.size, 12, none⟩ = some (.int .u32 0) := KX.out.cell 12
  have hab' := hab.out
  go_wp2_with fail
  refine (S2.out _ _ _ _ _ _ _ _ _ M2.out).mono ?_
  rintro en w3 ⟨sb, cb2, rfl, m3, u3⟩
  have sz := SZ.out
  have l2 := L2.out
  have K3 := Lib.hid (u3.blk KX.out (by omega))
  have B4 := Lib.hid (u3.below B3.out SZ.out.1)
  have M3 : Hid (Mem (w3.setCells w2.heap.size 0 [.int .u32 82, .int .u32 0, .int .u32 (a : Int), .int .u32 (b : Int), .int .u32 0, .int .u32 0, .int .u32 (a : Int), .int .u32 0, .int .u32 0, .slice sb 0 cb2, .int .u8 0, .int .u64 0, .int .u32 0]) M g h c d cd G T L) := Lib.hid (m3.upd9 (upd_setCells9 _ _ 0 _) (by omega) (by omega) (by omega) (by omega))
  have K4 : Hid (Blk (w3.setCells w2.heap.size 0 [.int .u32 82, .int .u32 0, .int .u32 (a : Int), .int .u32 (b : Int), .int .u32 0, .int .u32 0, .int .u32 (a : Int), .int .u32 0, .int .u32 0, .slice sb 0 cb2, .int .u8 0, .int .u64 0, .int .u32 0]) w2.heap.size 28 #[.int .u32 82, .int .u32 0, .int .u32 (a : Int), .int .u32 (b : Int), .int .u32 0, .int .u32 0, .int .u32 (a : Int), .int .u32 0, .int .u32 0, .slice sb 0 cb2, .int .u8 0, .int .u64 0, .int .u32 0]) := Lib.hid (Blk.all13 K3.out _ _ _ _ _ _ _ _ _ _ _ _ _)
  have B5 : Hid (Below w.heap.size w (w3.setCells w2.heap.size 0 [.int .u32 82, .int .u32 0, .int .u32 (a : Int), .int .u32 (b : Int), .int .u32 0, .int .u32 0, .int .u32 (a : Int), .int .u32 0, .int .u32 0, .slice sb 0 cb2, .int .u8 0, .int .u64 0, .int .u32 0])) := Lib.hid (below_setCells (by have := SZ.out; omega) _ 0 _ B4.out)
  have NE : Hid (w2.heap.size ≠ d) := Lib.hid (by omega)
  clear m3 u3 sz l2 x0 x1 x2 x3 x4 x5 x6 x7 x8 x9 x10 x11 x12 KX B3
  have x0 : w3.cell? ⟨w2.heap.size, 0, none⟩ = some (.int .u32 81) := K3.out.cell 0
  have fx0 : w3.frozen? ⟨w2.heap.size, 0, none⟩ = false := K3.out.frozen 0
  have x1 : w3.cell? ⟨w2.heap.size, 1, none⟩ = some (.int .u32 0) := K3.out.cell 1
  have fx1 : w3.frozen? ⟨w2.heap.size, 1, none⟩ = false := K3.out.frozen 1
  have x2 : w3.cell? ⟨w2.heap.size, 2, none⟩ = some (.int .u32 (a : Int)) := K3.out.cell 2
  have fx2 : w3.frozen? ⟨w2.heap.size, 2, none⟩ = false := K3.out.frozen 2
  have x3 : w3.cell? ⟨w2.heap.size, 3, none⟩ = some (.int .u32 (b : Int)) := K3.out.cell 3
  have fx3 : w3.frozen? ⟨w2.heap.size, 3, none⟩ = false := K3.out.frozen 3
  have x4 : w3.cell? ⟨w2.heap.size, 4, none⟩ = some (.int .u32 0) := K3.out.cell 4
  have fx4 : w3.frozen? ⟨w2.heap.size, 4, none⟩ = false := K3.out.frozen 4
  have x5 : w3.cell? ⟨w2.heap.size, 5, none⟩ = some (.int .u32 0) := K3.out.cell 5
  have fx5 : w3.frozen? ⟨w2.heap.size, 5, none⟩ = false := K3.out.frozen 5
  have x6 : w3.cell? ⟨w2.heap.size, 6, none⟩ = some (.int .u32 (v : Int)) := K3.out.cell 6
  have fx6 : w3.frozen? ⟨w2.heap.size, 6, none⟩ = false := K3.out.frozen 6
  have x7 : w3.cell? ⟨w2.heap.size, 7, none⟩ = some (.int .u32 0) := K3.out.cell 7
  have fx7 : w3.frozen? ⟨w2.heap.size, 7, none⟩ = false := K3.out.frozen 7
  have x8 : w3.cell? ⟨w2.heap.size, 8, none⟩ = some (.int .u32 0) := K3.out.cell 8
  have fx8 : w3.frozen? ⟨w2.heap.size, 8, none⟩ = false := K3.out.frozen 8
  have x9 : w3.cell? ⟨w2.heap.size, 9, none⟩ = some (.slice sa 0 ca) := K3.out.cell 9
  have fx9 : w3.frozen? ⟨w2.heap.size, 9, none⟩ = false := K3.out.frozen 9
  have x10 : w3.cell? ⟨w2.heap.size, 10, none⟩ = some (.int .u8 0) := K3.out.cell 10
  have fx10 : w3.frozen? ⟨w2.heap.size, 10, none⟩ = false := K3.out.frozen 10
  have x11 : w3.cell? ⟨w2.heap.size, 11, none⟩ = some (.int .u64 0) := K3.out.cell 11
  have fx11 : w3.frozen? ⟨w2.heap.size, 11, none⟩ = false := K3.out.frozen 11
  have x12 : w3.cell? ⟨w2.heap.size, 12, none⟩ = some (.int .u32 0) := K3.out.cell 12
  have fx12 : w3.frozen? ⟨w2.heap.size, 12, none⟩ = false := K3.out.frozen 12
  go_upto_region 10 with fail
  generalize hX3 : w3.setCells w2.heap.size 0 [.int .u32 82, .int .u32 0, .int .u32 (a : Int), .int .u32 (b : Int), .int .u32 0, .int .u32 0, .int .u32 (a : Int), .int .u32 0, .int .u32 0, .slice sb 0 cb2, .int .u8 0, .int .u64 0, .int .u32 0] = X3 at M3 K4 B5
  simp only [World.setCells, Nat.zero_add, Nat.reduceAdd] at hX3
  (try rw [hX3])
  clear hX3 x0 x1 x2 x3 x4 x5 x6 x7 x8 x9 x10 x11 x12 fx0 fx1 fx2 fx3 fx4 fx5 fx6 fx7 fx8 fx9 fx10 fx11 fx12 K3 B4
  have x0 : X3.cell? ⟨w2.heap.size, 0, none⟩ = some (.int .u32 82) := K4.out.cell 0
  have x1 : X3.cell? ⟨w2.heap.size, 1, none⟩ = some (.int .u32 0) := K4.out.cell 1
  have x2 : X3.cell? ⟨w2.heap.size, 2, none⟩ = some (.int .u32 (a : Int)) := K4.out.cell 2
  have x3 : X3.cell? ⟨w2.heap.size, 3, none⟩ = some (.int .u32 (b : Int)) := K4.out.cell 3
  have x4 : X3.cell? ⟨w2.heap.size, 4, none⟩ = some (.int .u32 0) := K4.out.cell 4
  have x5 : X3.cell? ⟨w2.heap.size, 5, none⟩ = some (.int .u32 0) := K4.out.cell 5
  have x6 : X3.cell? ⟨w2.heap.size, 6, none⟩ = some (.int .u32 (a : Int)) := K4.out.cell 6
  have x7 : X3.cell? ⟨w2.heap.size, 7, none⟩ = some (.int .u32 0) := K4.out.cell 7
  have x8 : X3.cell? ⟨w2.heap.size, 8, none⟩ = some (.int .u32 0) := K4.out.cell 8
  have x9 : X3.cell? ⟨w2.heap.size, 9, none⟩ = some (.slice sb 0 cb2) := K4.out.cell 9
  have x10 : X3.cell? ⟨w2.heap.size, 10, none⟩ = some (.int .u8 0) := K4.out.cell 10
  have x11 : X3.cell? ⟨w2.heap.size, 11, none⟩ = some (.int .u64 0) := K4.out.cell 11
  have x12 : X3.cell? ⟨w2.heap.size, 12, none⟩ = some (.int .u32 0) := K4.out.cell 12
  go_wp2_with fail
  refine (S3.out _ _ _ _ _ _ _ _ _ M3.out).mono ?_
  rintro en w4 ⟨sc, cc, rfl, m4, u4⟩
  have K5 := Lib.hid (u4.blk K4.out NE.out)
  have B6 := Lib.hid (u4.below B5.out SZ.out.1)
  clear m4 u4 x0 x1 x2 x3 x4 x5 x6 x7 x8 x9 x10 x11 x12 K4 B5 M3
  go_upto_region 11 with fail
  generalize hX4 : (w4.alloc (.cells #[.int .u32 83, .int .u32 0, .int .u32 (a : Int), .int .u32 (b : Int), .int .u32 0, .int .u32 0, .int .u32 (a : Int), .int .u32 0, .int .u32 0, .slice sc 0 cc, .int .u8 0, .int .u64 0, .int .u32 0] 28)).alloc (.cells #[.bool false, .bool false, .int .u32 0, .int .u32 0] 46) = X4
  have KX : Hid (Blk X4 w2.heap.size 28 #[.int .u32 82, .int .u32 0, .int .u32 (a : Int), .int .u32 (b : Int), .int .u32 0, .int .u32 0, .int .u32 (a : Int), .int .u32 0, .int .u32 0, .slice sb 0 cb2, .int .u8 0, .int .u64 0, .int .u32 0]) := Lib.hid (hX4 ▸ (K5.out.alloc _).alloc _)
  have KY : Hid (Blk X4 w4.heap.size 28 #[.int .u32 83, .int .u32 0, .int .u32 (a : Int), .int .u32 (b : Int), .int .u32 0, .int .u32 0, .int .u32 (a : Int), .int .u32 0, .int .u32 0, .slice sc 0 cc, .int .u8 0, .int .u64 0, .int .u32 0]) := Lib.hid (hX4 ▸ (Blk.new w4 _ _).alloc _)
  have B7 : Hid (Below w.heap.size w X4) := Lib.hid (hX4 ▸ (B6.out.alloc B6.out.size _).alloc (by have := B6.out.size; simp; omega) _)
  clear hX4 K5 B6
  have x0 : X4.cell? ⟨w2.heap.size, 0, none⟩ = some (.int .u32 82) := KX.out.cell 0
  have x1 : X4.cell? ⟨w2.heap.size, 1, none⟩ = some (.int .u32 0) := KX.out.cell 1
  have x2 : X4.cell? ⟨w2.heap.size, 2, none⟩ = some (.int .u32 (a : Int)) := KX.out.cell 2
  have x3 : X4.cell? ⟨w2.heap.size, 3, none⟩ = some (.int .u32 (b : Int)) := KX.out.cell 3
  have x4 : X4.cell? ⟨w2.heap.size, 4, none⟩ = some (.int .u32 0) := KX.out.cell 4
  have x5 : X4.cell? ⟨w2.heap.size, 5, none⟩ = some (.int .u32 0) := KX.out.cell 5
  have x6 : X4.cell? ⟨w2.heap.size, 6, none⟩ = some (.int .u32 (a : Int)) := KX.out.cell 6
  have x7 : X4.cell? ⟨w2.heap.size, 7, none⟩ = some (.int .u32 0) := KX.out.cell 7
  have x8 : X4.cell? ⟨w2.heap.size, 8, none⟩ = some (.int .u32 0) := KX.out.cell 8
  have x9 : X4.cell? ⟨w2.heap.size, 9, none⟩ = some (.slice sb 0 cb2) := KX.out.cell 9
  have x10 : X4.cell? ⟨w2.heap.size, 10, none⟩ = some (.int .u8 0) := KX.out.cell 10
  have x11 : X4.cell? ⟨w2.heap.size, 11, none⟩ = some (.int .u64 0) := KX.out.cell 11
  have x12 : X4.cell? ⟨w2.heap.size, 12, none⟩ = some (.int .u32 0) := KX.out.cell 12
  have y0 : X4.cell? ⟨w4.heap.size, 0, none⟩ = some (.int .u32 83) := KY.out.cell 0
  have y1 : X4.cell? ⟨w4.heap.size, 1, none⟩ = some (.int .u32 0) := KY.out.cell 1
  have y2 : X4.cell? ⟨w4.heap.size, 2, none⟩ = some (.int .u32 (a : Int)) := KY.out.cell 2
  have y3 : X4.cell? ⟨w4.heap.size, 3, none⟩ = some (.int .u32 (b : Int)) := KY.out.cell 3
  have y4 : X4.cell? ⟨w4.heap.size, 4, none⟩ = some (.int .u32 0) := KY.out.cell 4
  have y5 : X4.cell? ⟨w4.heap.size, 5, none⟩ = some (.int .u32 0) := KY.out.cell 5
  have y6 : X4.cell? ⟨w4.heap.size, 6, none⟩ = some (.int .u32 (a : Int)) := KY.out.cell 6
  have y7 : X4.cell? ⟨w4.heap.size, 7, none⟩ = some (.int .u32 0) := KY.out.cell 7
  have y8 : X4.cell? ⟨w4.heap.size, 8, none⟩ = some (.int .u32 0) := KY.out.cell 8
  have y9 : X4.cell? ⟨w4.heap.size, 9, none⟩ = some (.slice sc 0 cc) := KY.out.cell 9
  have y10 : X4.cell? ⟨w4.heap.size, 10, none⟩ = some (.int .u8 0) := KY.out.cell 10
  have y11 : X4.cell? ⟨w4.heap.size, 11, none⟩ = some (.int .u64 0) := KY.out.cell 11
  have y12 : X4.cell? ⟨w4.heap.size, 12, none⟩ = some (.int .u32 0) := KY.out.cell 12
  go_wp2_with fail
  refine (awake09_c _).mono ?_
  rintro en w9 ⟨rfl, hb⟩
  have B8 := Lib.hid (B7.out.trans (hb.mono B7.out.size))
  clear hb
  go_wp2_with fail
  go_ret
  exact ⟨rfl, B8.out⟩
set_option maxRecDepth 100000 in
set_option maxHeartbeats 16000000 in
theorem sums_6 (a b dd : Nat) (w : World) (ha : a < 4294967296) (hb : b < 4294967296) (hdd : dd < 256) (hk : dd % 5 = 3) :
    Calls Try.prog 4 #[.int .u32 (a : Int), .int .u32 (b : Int), .int .u8 (dd : Int)] w fun e w' => e = .returned (.bool true) ∧ Below w.heap.size w w' := by
  obtain ⟨v, hvd⟩ : ∃ v, (a + b) % 4294967296 = v := ⟨_, rfl⟩
  have hv : v < 4294967296 := by omega
  have hva : (v + (4294967296 - b)) % 4294967296 = a := by omega
  have hab : IntKind.u32.wrap ((a : Int) + (b : Int)) = (v : Int) := by
    unfold IntKind.wrap
    simp [IntKind.bits, IntKind.signed]
    omega
  have S1 : ∀ W M g h c d cd src cap, Mem W M g h c d cd (landG 0) (landT false) (landL [505413634, 650117122, 402653184] []) → Calls Try.prog 17 #[.agg #[.int .u32 80, .int .u32 0, .int .u32 (a : Int), .int .u32 (b : Int), .int .u32 0, .int .u32 0, .int .u32 0, .int .u32 0, .int .u32 0, .slice src 0 cap, .int .u8 0, .int .u64 0, .int .u32 0], .pointer (some ⟨M, 0, none⟩), .int .u64 0] W fun e w' => ∃ src2 cap2, e = .returned (.tuple #[.agg #[.int .u32 81, .int .u32 0, .int .u32 (a : Int), .int .u32 (b : Int), .int .u32 0, .int .u32 0, .int .u32 0, .int .u32 (v : Int), .int .u32 0, .slice src2 0 cap2, .int .u8 0, .int .u64 0, .int .u32 0], .agg #[.bool false, .bool false, .int .u32 0, .int .u32 0]]) ∧ Mem w' M g h c d cd (landG 0) (landT false) (landL [505413634, 650117122, 402653184] []) ∧ UpdX W.heap.size d W w' := fun W M g h c d cd src cap m => by
    have f : fetchM (landG 0) (landT false) (landL [505413634, 650117122, 402653184] []) 80 0 = (505413634, 1, true) := fetch_land [505413634, 650117122, 402653184] [] 0 0 0 (by decide) (by decide)
    have hs : hstep (landG 0) (landT false) (landL [505413634, 650117122, 402653184] []) 80 (fun i => [0, a, b, 0, 0, 0, 0, 0].getD i 0 : Nat → Nat) [] 0 0 0 0 = ⟨81, setR (fun i => [0, a, b, 0, 0, 0, 0, 0].getD i 0 : Nat → Nat) 6 ((a + b) % 4294967296), [], 0, 0, (landL [505413634, 650117122, 402653184] []), false, false, 0, 0⟩ := by
      unfold hstep
      rw [f, if_neg (by decide), if_neg (by decide), if_neg (by decide)]
      rfl
    rw [hvd] at hs
    have key := step_c W M g h c d cd (landG 0) (landT false) (landL [505413634, 650117122, 402653184] []) 80 (fun i => [0, a, b, 0, 0, 0, 0, 0].getD i 0 : Nat → Nat) [] 0 0 0 0 src cap m (fun i hi => by cases hi) (by decide) (by decide) (getD8_lt (by decide) ha hb (by decide) (by decide) (by decide) (by decide) (by decide)) (by rw [f]; decide)
    rw [hs] at key
    exact key.mono fun e w' r => by
      obtain ⟨s, he, sp⟩ := r
      obtain ⟨src2, cap2, rfl, _⟩ := sp.1.form
      exact ⟨src2, cap2, he, sp.2.1, sp.2.2⟩
  have S2 : ∀ W M g h c d cd src cap, Mem W M g h c d cd (landG 0) (landT false) (landL [505413634, 650117122, 402653184] []) → Calls Try.prog 17 #[.agg #[.int .u32 81, .int .u32 0, .int .u32 (a : Int), .int .u32 (b : Int), .int .u32 0, .int .u32 0, .int .u32 0, .int .u32 (v : Int), .int .u32 0, .slice src 0 cap, .int .u8 0, .int .u64 0, .int .u32 0], .pointer (some ⟨M, 0, none⟩), .int .u64 0] W fun e w' => ∃ src2 cap2, e = .returned (.tuple #[.agg #[.int .u32 82, .int .u32 0, .int .u32 (a : Int), .int .u32 (b : Int), .int .u32 0, .int .u32 0, .int .u32 0, .int .u32 (a : Int), .int .u32 0, .slice src2 0 cap2, .int .u8 0, .int .u64 0, .int .u32 0], .agg #[.bool false, .bool false, .int .u32 0, .int .u32 0]]) ∧ Mem w' M g h c d cd (landG 0) (landT false) (landL [505413634, 650117122, 402653184] []) ∧ UpdX W.heap.size d W w' := fun W M g h c d cd src cap m => by
    have f : fetchM (landG 0) (landT false) (landL [505413634, 650117122, 402653184] []) 81 0 = (650117122, 1, true) := fetch_land [505413634, 650117122, 402653184] [] 0 1 0 (by decide) (by decide)
    have hs : hstep (landG 0) (landT false) (landL [505413634, 650117122, 402653184] []) 81 (fun i => [0, a, b, 0, 0, 0, v, 0].getD i 0 : Nat → Nat) [] 0 0 0 0 = ⟨82, setR (fun i => [0, a, b, 0, 0, 0, v, 0].getD i 0 : Nat → Nat) 6 ((v + (4294967296 - b)) % 4294967296), [], 0, 0, (landL [505413634, 650117122, 402653184] []), false, false, 0, 0⟩ := by
      unfold hstep
      rw [f, if_neg (by decide), if_neg (by decide), if_neg (by decide)]
      rfl
    rw [hva] at hs
    have key := step_c W M g h c d cd (landG 0) (landT false) (landL [505413634, 650117122, 402653184] []) 81 (fun i => [0, a, b, 0, 0, 0, v, 0].getD i 0 : Nat → Nat) [] 0 0 0 0 src cap m (fun i hi => by cases hi) (by decide) (by decide) (getD8_lt (by decide) ha hb (by decide) (by decide) (by decide) hv (by decide)) (by rw [f]; decide)
    rw [hs] at key
    exact key.mono fun e w' r => by
      obtain ⟨s, he, sp⟩ := r
      obtain ⟨src2, cap2, rfl, _⟩ := sp.1.form
      exact ⟨src2, cap2, he, sp.2.1, sp.2.2⟩
  have S3 : ∀ W M g h c d cd src cap, Mem W M g h c d cd (landG 0) (landT false) (landL [505413634, 650117122, 402653184] []) → Calls Try.prog 17 #[.agg #[.int .u32 82, .int .u32 0, .int .u32 (a : Int), .int .u32 (b : Int), .int .u32 0, .int .u32 0, .int .u32 0, .int .u32 (a : Int), .int .u32 0, .slice src 0 cap, .int .u8 0, .int .u64 0, .int .u32 0], .pointer (some ⟨M, 0, none⟩), .int .u64 0] W fun e w' => ∃ src2 cap2, e = .returned (.tuple #[.agg #[.int .u32 83, .int .u32 0, .int .u32 (a : Int), .int .u32 (b : Int), .int .u32 0, .int .u32 0, .int .u32 0, .int .u32 (a : Int), .int .u32 0, .slice src2 0 cap2, .int .u8 0, .int .u64 0, .int .u32 0], .agg #[.bool false, .bool false, .int .u32 0, .int .u32 0]]) ∧ Mem w' M g h c d cd (landG 0) (landT false) (landL [505413634, 650117122, 402653184] []) ∧ UpdX W.heap.size d W w' := fun W M g h c d cd src cap m => by
    have f : fetchM (landG 0) (landT false) (landL [505413634, 650117122, 402653184] []) 82 0 = (402653184, 1, true) := fetch_land [505413634, 650117122, 402653184] [] 0 2 0 (by decide) (by decide)
    have hs : hstep (landG 0) (landT false) (landL [505413634, 650117122, 402653184] []) 82 (fun i => [0, a, b, 0, 0, 0, a, 0].getD i 0 : Nat → Nat) [] 0 0 0 0 = ⟨83, (fun i => [0, a, b, 0, 0, 0, a, 0].getD i 0 : Nat → Nat), [], 0, 0, (landL [505413634, 650117122, 402653184] []), false, false, 0, 0⟩ := by
      unfold hstep
      rw [f, if_neg (by decide), if_neg (by decide), if_neg (by decide)]
      rfl
    have key := step_c W M g h c d cd (landG 0) (landT false) (landL [505413634, 650117122, 402653184] []) 82 (fun i => [0, a, b, 0, 0, 0, a, 0].getD i 0 : Nat → Nat) [] 0 0 0 0 src cap m (fun i hi => by cases hi) (by decide) (by decide) (getD8_lt (by decide) ha hb (by decide) (by decide) (by decide) ha (by decide)) (by rw [f]; decide)
    rw [hs] at key
    exact key.mono fun e w' r => by
      obtain ⟨s, he, sp⟩ := r
      obtain ⟨src2, cap2, rfl, _⟩ := sp.1.form
      exact ⟨src2, cap2, he, sp.2.1, sp.2.2⟩
  have MK : ∀ W, Stk W (some ⟨w.heap.size, 0, none⟩) [505413634, 650117122, 402653184] → Calls Try.prog 16 #[.agg #[.slice (some ⟨w.heap.size, 0, none⟩) 3 3, .slice none 0 0, .int .u32 0, .bool false]] W fun e w' => Made W [505413634, 650117122, 402653184] [] 0 false e w' := fun W q => made_c W _ _ 3 none [] 0 0 false q Stk.nil
  have KC : Hid (Stk (w.alloc (.cells #[.int .u32 505413634, .int .u32 650117122, .int .u32 402653184] 22)) (some ⟨w.heap.size, 0, none⟩) [505413634, 650117122, 402653184]) := Lib.hid (by
    have K := Blk.new w 22 #[.int .u32 505413634, .int .u32 650117122, .int .u32 402653184]
    intro i hi
    refine ⟨w.heap.size, 0, rfl, K.lt, ?_⟩
    rw [Nat.zero_add]
    match i, hi with
    | 0, _ => exact K.cell 0
    | 1, _ => exact K.cell 1
    | 2, _ => exact K.cell 2)
  have B0 : Hid (Below w.heap.size w (w.alloc (.cells #[.int .u32 505413634, .int .u32 650117122, .int .u32 402653184] 22))) := Lib.hid ((Below.refl _ w).alloc (Nat.le_refl _) _)
  have htm : Int.tmod (dd : Int) 5 = 3 := by rw [Int.tmod_eq_emod_of_nonneg (by omega)]; omega
  have hdz : (dd : Int) < 256 := by omega
  clear hvd hva hv ha hb hk hdd
  replace S1 := Lib.hid S1
  replace S2 := Lib.hid S2
  replace S3 := Lib.hid S3
  replace MK := Lib.hid MK
  replace hab := Lib.hid hab
  go_enter Try.func4, Try.ntmps4
  go_wp2_with fail
  refine (MK.out _ KC.out).mono ?_
  rintro en w1 ⟨M, g, h, c, d, cd, b0, cb, e0, ce, rfl, LD⟩
  generalize landG 0 = G at S1 S2 S3 LD ⊢
  generalize landT false = T at S1 S2 S3 LD ⊢
  generalize landL [505413634, 650117122, 402653184] [] = L at S1 S2 S3 LD ⊢
  unfold PM.rm
  go_upto_region 6 with fail
  generalize hX1 : (w1.alloc (.cells #[.int .u32 (G 0 : Int), .int .u32 (G 1 : Int), .int .u32 (G 2 : Int), .int .u32 (G 3 : Int), .int .u32 (G 4 : Int), .int .u32 (G 5 : Int), .int .u32 (G 6 : Int), .int .u32 (G 7 : Int), .slice (some ⟨b0, 0, none⟩) T.length cb, .slice (some ⟨e0, 0, none⟩) L.length ce] 40)).alloc (.cells #[.int .u32 80, .int .u32 0, .int .u32 (a : Int), .int .u32 (b : Int), .int .u32 0, .int .u32 0, .int .u32 0, .int .u32 0, .int .u32 0, .slice none 0 0, .int .u8 0, .int .u64 0, .int .u32 0] 28) = X1
  have HBX : Hid (Blk X1 (w1.heap.size + 1) 28 #[.int .u32 80, .int .u32 0, .int .u32 (a : Int), .int .u32 (b : Int), .int .u32 0, .int .u32 0, .int .u32 0, .int .u32 0, .int .u32 0, .slice none 0 0, .int .u8 0, .int .u64 0, .int .u32 0]) := Lib.hid (by
    have q := Blk.new (w1.alloc (.cells #[.int .u32 (G 0 : Int), .int .u32 (G 1 : Int), .int .u32 (G 2 : Int), .int .u32 (G 3 : Int), .int .u32 (G 4 : Int), .int .u32 (G 5 : Int), .int .u32 (G 6 : Int), .int .u32 (G 7 : Int), .slice (some ⟨b0, 0, none⟩) T.length cb, .slice (some ⟨e0, 0, none⟩) L.length ce] 40)) 28 #[.int .u32 80, .int .u32 0, .int .u32 (a : Int), .int .u32 (b : Int), .int .u32 0, .int .u32 0, .int .u32 0, .int .u32 0, .int .u32 0, .slice none 0 0, .int .u8 0, .int .u64 0, .int .u32 0]
    have z : (w1.alloc (.cells #[.int .u32 (G 0 : Int), .int .u32 (G 1 : Int), .int .u32 (G 2 : Int), .int .u32 (G 3 : Int), .int .u32 (G 4 : Int), .int .u32 (G 5 : Int), .int .u32 (G 6 : Int), .int .u32 (G 7 : Int), .slice (some ⟨b0, 0, none⟩) T.length cb, .slice (some ⟨e0, 0, none⟩) L.length ce] 40)).heap.size = w1.heap.size + 1 := by simp
    rw [z] at q
    exact hX1 ▸ q)
  have M1 : Hid (Mem X1 M g h c d cd G T L) := Lib.hid (hX1 ▸ (LD.mem.alloc _).alloc _)
  have B1 : Hid (Below w.heap.size w X1) := Lib.hid (hX1 ▸ ((B0.out.trans (LD.bel.mono B0.out.size)).alloc (Nat.le_trans B0.out.size LD.bel.size) _).alloc (by have := B0.out.size; have := LD.bel.size; simp at this ⊢; omega) _)
  have SZ : Hid (w.heap.size ≤ d ∧ M < X1.heap.size ∧ g < X1.heap.size ∧ h < X1.heap.size ∧ d < X1.heap.size) := Lib.hid ⟨Nat.le_trans B0.out.size LD.ld, M1.out.ten.lt, M1.out.tab.lt, M1.out.tab.pgs.lt, M1.out.wds.lt⟩
  clear hX1 LD KC
  have t0 : X1.cell? ⟨(w1.heap.size + 1), 0, none⟩ = some (.int .u32 80) := HBX.out.cell 0
  have t1 : X1.cell? ⟨(w1.heap.size + 1), 1, none⟩ = some (.int .u32 0) := HBX.out.cell 1
  have t2 : X1.cell? ⟨(w1.heap.size + 1), 2, none⟩ = some (.int .u32 (a : Int)) := HBX.out.cell 2
  have t3 : X1.cell? ⟨(w1.heap.size + 1), 3, none⟩ = some (.int .u32 (b : Int)) := HBX.out.cell 3
  have t4 : X1.cell? ⟨(w1.heap.size + 1), 4, none⟩ = some (.int .u32 0) := HBX.out.cell 4
  have t5 : X1.cell? ⟨(w1.heap.size + 1), 5, none⟩ = some (.int .u32 0) := HBX.out.cell 5
  have t6 : X1.cell? ⟨(w1.heap.size + 1), 6, none⟩ = some (.int .u32 0) := HBX.out.cell 6
  have t7 : X1.cell? ⟨(w1.heap.size + 1), 7, none⟩ = some (.int .u32 0) := HBX.out.cell 7
  have t8 : X1.cell? ⟨(w1.heap.size + 1), 8, none⟩ = some (.int .u32 0) := HBX.out.cell 8
  have t9 : X1.cell? ⟨(w1.heap.size + 1), 9, none⟩ = some (.slice none 0 0) := HBX.out.cell 9
  have t10 : X1.cell? ⟨(w1.heap.size + 1), 10, none⟩ = some (.int .u8 0) := HBX.out.cell 10
  have t11 : X1.cell? ⟨(w1.heap.size + 1), 11, none⟩ = some (.int .u64 0) := HBX.out.cell 11
  have t12 : X1.cell? ⟨(w1.heap.size + 1), 12, none⟩ = some (.int .u32 0) := HBX.out.cell 12
  go_wp2_with fail
  refine (S1.out _ _ _ _ _ _ _ _ _ M1.out).mono ?_
  rintro en w2 ⟨sa, ca, rfl, m2, u2⟩
  have B2 := Lib.hid (u2.below B1.out SZ.out.1)
  have L2 : Hid (X1.heap.size ≤ w2.heap.size) := Lib.hid u2.size
  go_upto_region 7 with fail
  generalize hX2 : (w2.alloc (.cells #[.int .u32 81, .int .u32 0, .int .u32 (a : Int), .int .u32 (b : Int), .int .u32 0, .int .u32 0, .int .u32 0, .int .u32 (v : Int), .int .u32 0, .slice sa 0 ca, .int .u8 0, .int .u64 0, .int .u32 0] 28)).alloc (.cells #[.bool false, .bool false, .int .u32 0, .int .u32 0] 46) = X2
  have KX : Hid (Blk X2 w2.heap.size 28 #[.int .u32 81, .int .u32 0, .int .u32 (a : Int), .int .u32 (b : Int), .int .u32 0, .int .u32 0, .int .u32 0, .int .u32 (v : Int), .int .u32 0, .slice sa 0 ca, .int .u8 0, .int .u64 0, .int .u32 0]) := Lib.hid (hX2 ▸ (Blk.new w2 _ _).alloc _)
  have M2 : Hid (Mem X2 M g h c d cd G T L) := Lib.hid (hX2 ▸ (m2.alloc _).alloc _)
  have B3 : Hid (Below w.heap.size w X2) := Lib.hid (hX2 ▸ (B2.out.alloc B2.out.size _).alloc (by have := B2.out.size; simp; omega) _)
  clear hX2 t0 t1 t2 t3 t4 t5 t6 t7 t8 t9 t10 t11 t12 HBX m2 u2 B1 B2
  have x0 : X2.cell? ⟨w2.heap.size, 0, none⟩ = some (.int .u32 81) := KX.out.cell 0
  have x1 : X2.cell? ⟨w2.heap.size, 1, none⟩ = some (.int .u32 0) := KX.out.cell 1
  have x2 : X2.cell? ⟨w2.heap.size, 2, none⟩ = some (.int .u32 (a : Int)) := KX.out.cell 2
  have x3 : X2.cell? ⟨w2.heap.size, 3, none⟩ = some (.int .u32 (b : Int)) := KX.out.cell 3
  have x4 : X2.cell? ⟨w2.heap.size, 4, none⟩ = some (.int .u32 0) := KX.out.cell 4
  have x5 : X2.cell? ⟨w2.heap.size, 5, none⟩ = some (.int .u32 0) := KX.out.cell 5
  have x6 : X2.cell? ⟨w2.heap.size, 6, none⟩ = some (.int .u32 0) := KX.out.cell 6
  have x7 : X2.cell? ⟨w2.heap.size, 7, none⟩ = some (.int .u32 (v : Int)) := KX.out.cell 7
  have x8 : X2.cell? ⟨w2.heap.size, 8, none⟩ = some (.int .u32 0) := KX.out.cell 8
  have x9 : X2.cell? ⟨w2.heap.size, 9, none⟩ = some (.slice sa 0 ca) := KX.out.cell 9
  have x10 : X2.cell? ⟨w2.heap.size, 10, none⟩ = some (.int .u8 0) := KX.out.cell 10
  have x11 : X2.cell? ⟨w2.heap.size, 11, none⟩ = some (.int .u64 0) := KX.out.cell 11
  have x12 : X2.cell? ⟨w2.heap.size, 12, none⟩ = some (.int .u32 0) := KX.out.cell 12
  have hab' := hab.out
  go_wp2_with fail
  refine (S2.out _ _ _ _ _ _ _ _ _ M2.out).mono ?_
  rintro en w3 ⟨sb, cb2, rfl, m3, u3⟩
  have sz := SZ.out
  have l2 := L2.out
  have K3 := Lib.hid (u3.blk KX.out (by omega))
  have B4 := Lib.hid (u3.below B3.out SZ.out.1)
  have M3 : Hid (Mem (w3.setCells w2.heap.size 0 [.int .u32 82, .int .u32 0, .int .u32 (a : Int), .int .u32 (b : Int), .int .u32 0, .int .u32 0, .int .u32 0, .int .u32 (a : Int), .int .u32 0, .slice sb 0 cb2, .int .u8 0, .int .u64 0, .int .u32 0]) M g h c d cd G T L) := Lib.hid (m3.upd9 (upd_setCells9 _ _ 0 _) (by omega) (by omega) (by omega) (by omega))
  have K4 : Hid (Blk (w3.setCells w2.heap.size 0 [.int .u32 82, .int .u32 0, .int .u32 (a : Int), .int .u32 (b : Int), .int .u32 0, .int .u32 0, .int .u32 0, .int .u32 (a : Int), .int .u32 0, .slice sb 0 cb2, .int .u8 0, .int .u64 0, .int .u32 0]) w2.heap.size 28 #[.int .u32 82, .int .u32 0, .int .u32 (a : Int), .int .u32 (b : Int), .int .u32 0, .int .u32 0, .int .u32 0, .int .u32 (a : Int), .int .u32 0, .slice sb 0 cb2, .int .u8 0, .int .u64 0, .int .u32 0]) := Lib.hid (Blk.all13 K3.out _ _ _ _ _ _ _ _ _ _ _ _ _)
  have B5 : Hid (Below w.heap.size w (w3.setCells w2.heap.size 0 [.int .u32 82, .int .u32 0, .int .u32 (a : Int), .int .u32 (b : Int), .int .u32 0, .int .u32 0, .int .u32 0, .int .u32 (a : Int), .int .u32 0, .slice sb 0 cb2, .int .u8 0, .int .u64 0, .int .u32 0])) := Lib.hid (below_setCells (by have := SZ.out; omega) _ 0 _ B4.out)
  have NE : Hid (w2.heap.size ≠ d) := Lib.hid (by omega)
  clear m3 u3 sz l2 x0 x1 x2 x3 x4 x5 x6 x7 x8 x9 x10 x11 x12 KX B3
  have x0 : w3.cell? ⟨w2.heap.size, 0, none⟩ = some (.int .u32 81) := K3.out.cell 0
  have fx0 : w3.frozen? ⟨w2.heap.size, 0, none⟩ = false := K3.out.frozen 0
  have x1 : w3.cell? ⟨w2.heap.size, 1, none⟩ = some (.int .u32 0) := K3.out.cell 1
  have fx1 : w3.frozen? ⟨w2.heap.size, 1, none⟩ = false := K3.out.frozen 1
  have x2 : w3.cell? ⟨w2.heap.size, 2, none⟩ = some (.int .u32 (a : Int)) := K3.out.cell 2
  have fx2 : w3.frozen? ⟨w2.heap.size, 2, none⟩ = false := K3.out.frozen 2
  have x3 : w3.cell? ⟨w2.heap.size, 3, none⟩ = some (.int .u32 (b : Int)) := K3.out.cell 3
  have fx3 : w3.frozen? ⟨w2.heap.size, 3, none⟩ = false := K3.out.frozen 3
  have x4 : w3.cell? ⟨w2.heap.size, 4, none⟩ = some (.int .u32 0) := K3.out.cell 4
  have fx4 : w3.frozen? ⟨w2.heap.size, 4, none⟩ = false := K3.out.frozen 4
  have x5 : w3.cell? ⟨w2.heap.size, 5, none⟩ = some (.int .u32 0) := K3.out.cell 5
  have fx5 : w3.frozen? ⟨w2.heap.size, 5, none⟩ = false := K3.out.frozen 5
  have x6 : w3.cell? ⟨w2.heap.size, 6, none⟩ = some (.int .u32 0) := K3.out.cell 6
  have fx6 : w3.frozen? ⟨w2.heap.size, 6, none⟩ = false := K3.out.frozen 6
  have x7 : w3.cell? ⟨w2.heap.size, 7, none⟩ = some (.int .u32 (v : Int)) := K3.out.cell 7
  have fx7 : w3.frozen? ⟨w2.heap.size, 7, none⟩ = false := K3.out.frozen 7
  have x8 : w3.cell? ⟨w2.heap.size, 8, none⟩ = some (.int .u32 0) := K3.out.cell 8
  have fx8 : w3.frozen? ⟨w2.heap.size, 8, none⟩ = false := K3.out.frozen 8
  have x9 : w3.cell? ⟨w2.heap.size, 9, none⟩ = some (.slice sa 0 ca) := K3.out.cell 9
  have fx9 : w3.frozen? ⟨w2.heap.size, 9, none⟩ = false := K3.out.frozen 9
  have x10 : w3.cell? ⟨w2.heap.size, 10, none⟩ = some (.int .u8 0) := K3.out.cell 10
  have fx10 : w3.frozen? ⟨w2.heap.size, 10, none⟩ = false := K3.out.frozen 10
  have x11 : w3.cell? ⟨w2.heap.size, 11, none⟩ = some (.int .u64 0) := K3.out.cell 11
  have fx11 : w3.frozen? ⟨w2.heap.size, 11, none⟩ = false := K3.out.frozen 11
  have x12 : w3.cell? ⟨w2.heap.size, 12, none⟩ = some (.int .u32 0) := K3.out.cell 12
  have fx12 : w3.frozen? ⟨w2.heap.size, 12, none⟩ = false := K3.out.frozen 12
  go_upto_region 10 with fail
  generalize hX3 : w3.setCells w2.heap.size 0 [.int .u32 82, .int .u32 0, .int .u32 (a : Int), .int .u32 (b : Int), .int .u32 0, .int .u32 0, .int .u32 0, .int .u32 (a : Int), .int .u32 0, .slice sb 0 cb2, .int .u8 0, .int .u64 0, .int .u32 0] = X3 at M3 K4 B5
  simp only [World.setCells, Nat.zero_add, Nat.reduceAdd] at hX3
  (try rw [hX3])
  clear hX3 x0 x1 x2 x3 x4 x5 x6 x7 x8 x9 x10 x11 x12 fx0 fx1 fx2 fx3 fx4 fx5 fx6 fx7 fx8 fx9 fx10 fx11 fx12 K3 B4
  have x0 : X3.cell? ⟨w2.heap.size, 0, none⟩ = some (.int .u32 82) := K4.out.cell 0
  have x1 : X3.cell? ⟨w2.heap.size, 1, none⟩ = some (.int .u32 0) := K4.out.cell 1
  have x2 : X3.cell? ⟨w2.heap.size, 2, none⟩ = some (.int .u32 (a : Int)) := K4.out.cell 2
  have x3 : X3.cell? ⟨w2.heap.size, 3, none⟩ = some (.int .u32 (b : Int)) := K4.out.cell 3
  have x4 : X3.cell? ⟨w2.heap.size, 4, none⟩ = some (.int .u32 0) := K4.out.cell 4
  have x5 : X3.cell? ⟨w2.heap.size, 5, none⟩ = some (.int .u32 0) := K4.out.cell 5
  have x6 : X3.cell? ⟨w2.heap.size, 6, none⟩ = some (.int .u32 0) := K4.out.cell 6
  have x7 : X3.cell? ⟨w2.heap.size, 7, none⟩ = some (.int .u32 (a : Int)) := K4.out.cell 7
  have x8 : X3.cell? ⟨w2.heap.size, 8, none⟩ = some (.int .u32 0) := K4.out.cell 8
  have x9 : X3.cell? ⟨w2.heap.size, 9, none⟩ = some (.slice sb 0 cb2) := K4.out.cell 9
  have x10 : X3.cell? ⟨w2.heap.size, 10, none⟩ = some (.int .u8 0) := K4.out.cell 10
  have x11 : X3.cell? ⟨w2.heap.size, 11, none⟩ = some (.int .u64 0) := K4.out.cell 11
  have x12 : X3.cell? ⟨w2.heap.size, 12, none⟩ = some (.int .u32 0) := K4.out.cell 12
  go_wp2_with fail
  refine (S3.out _ _ _ _ _ _ _ _ _ M3.out).mono ?_
  rintro en w4 ⟨sc, cc, rfl, m4, u4⟩
  have K5 := Lib.hid (u4.blk K4.out NE.out)
  have B6 := Lib.hid (u4.below B5.out SZ.out.1)
  clear m4 u4 x0 x1 x2 x3 x4 x5 x6 x7 x8 x9 x10 x11 x12 K4 B5 M3
  go_upto_region 11 with fail
  generalize hX4 : (w4.alloc (.cells #[.int .u32 83, .int .u32 0, .int .u32 (a : Int), .int .u32 (b : Int), .int .u32 0, .int .u32 0, .int .u32 0, .int .u32 (a : Int), .int .u32 0, .slice sc 0 cc, .int .u8 0, .int .u64 0, .int .u32 0] 28)).alloc (.cells #[.bool false, .bool false, .int .u32 0, .int .u32 0] 46) = X4
  have KX : Hid (Blk X4 w2.heap.size 28 #[.int .u32 82, .int .u32 0, .int .u32 (a : Int), .int .u32 (b : Int), .int .u32 0, .int .u32 0, .int .u32 0, .int .u32 (a : Int), .int .u32 0, .slice sb 0 cb2, .int .u8 0, .int .u64 0, .int .u32 0]) := Lib.hid (hX4 ▸ (K5.out.alloc _).alloc _)
  have KY : Hid (Blk X4 w4.heap.size 28 #[.int .u32 83, .int .u32 0, .int .u32 (a : Int), .int .u32 (b : Int), .int .u32 0, .int .u32 0, .int .u32 0, .int .u32 (a : Int), .int .u32 0, .slice sc 0 cc, .int .u8 0, .int .u64 0, .int .u32 0]) := Lib.hid (hX4 ▸ (Blk.new w4 _ _).alloc _)
  have B7 : Hid (Below w.heap.size w X4) := Lib.hid (hX4 ▸ (B6.out.alloc B6.out.size _).alloc (by have := B6.out.size; simp; omega) _)
  clear hX4 K5 B6
  have x0 : X4.cell? ⟨w2.heap.size, 0, none⟩ = some (.int .u32 82) := KX.out.cell 0
  have x1 : X4.cell? ⟨w2.heap.size, 1, none⟩ = some (.int .u32 0) := KX.out.cell 1
  have x2 : X4.cell? ⟨w2.heap.size, 2, none⟩ = some (.int .u32 (a : Int)) := KX.out.cell 2
  have x3 : X4.cell? ⟨w2.heap.size, 3, none⟩ = some (.int .u32 (b : Int)) := KX.out.cell 3
  have x4 : X4.cell? ⟨w2.heap.size, 4, none⟩ = some (.int .u32 0) := KX.out.cell 4
  have x5 : X4.cell? ⟨w2.heap.size, 5, none⟩ = some (.int .u32 0) := KX.out.cell 5
  have x6 : X4.cell? ⟨w2.heap.size, 6, none⟩ = some (.int .u32 0) := KX.out.cell 6
  have x7 : X4.cell? ⟨w2.heap.size, 7, none⟩ = some (.int .u32 (a : Int)) := KX.out.cell 7
  have x8 : X4.cell? ⟨w2.heap.size, 8, none⟩ = some (.int .u32 0) := KX.out.cell 8
  have x9 : X4.cell? ⟨w2.heap.size, 9, none⟩ = some (.slice sb 0 cb2) := KX.out.cell 9
  have x10 : X4.cell? ⟨w2.heap.size, 10, none⟩ = some (.int .u8 0) := KX.out.cell 10
  have x11 : X4.cell? ⟨w2.heap.size, 11, none⟩ = some (.int .u64 0) := KX.out.cell 11
  have x12 : X4.cell? ⟨w2.heap.size, 12, none⟩ = some (.int .u32 0) := KX.out.cell 12
  have y0 : X4.cell? ⟨w4.heap.size, 0, none⟩ = some (.int .u32 83) := KY.out.cell 0
  have y1 : X4.cell? ⟨w4.heap.size, 1, none⟩ = some (.int .u32 0) := KY.out.cell 1
  have y2 : X4.cell? ⟨w4.heap.size, 2, none⟩ = some (.int .u32 (a : Int)) := KY.out.cell 2
  have y3 : X4.cell? ⟨w4.heap.size, 3, none⟩ = some (.int .u32 (b : Int)) := KY.out.cell 3
  have y4 : X4.cell? ⟨w4.heap.size, 4, none⟩ = some (.int .u32 0) := KY.out.cell 4
  have y5 : X4.cell? ⟨w4.heap.size, 5, none⟩ = some (.int .u32 0) := KY.out.cell 5
  have y6 : X4.cell? ⟨w4.heap.size, 6, none⟩ = some (.int .u32 0) := KY.out.cell 6
  have y7 : X4.cell? ⟨w4.heap.size, 7, none⟩ = some (.int .u32 (a : Int)) := KY.out.cell 7
  have y8 : X4.cell? ⟨w4.heap.size, 8, none⟩ = some (.int .u32 0) := KY.out.cell 8
  have y9 : X4.cell? ⟨w4.heap.size, 9, none⟩ = some (.slice sc 0 cc) := KY.out.cell 9
  have y10 : X4.cell? ⟨w4.heap.size, 10, none⟩ = some (.int .u8 0) := KY.out.cell 10
  have y11 : X4.cell? ⟨w4.heap.size, 11, none⟩ = some (.int .u64 0) := KY.out.cell 11
  have y12 : X4.cell? ⟨w4.heap.size, 12, none⟩ = some (.int .u32 0) := KY.out.cell 12
  go_wp2_with fail
  refine (awake09_c _).mono ?_
  rintro en w9 ⟨rfl, hb⟩
  have B8 := Lib.hid (B7.out.trans (hb.mono B7.out.size))
  clear hb
  go_wp2_with fail
  go_ret
  exact ⟨rfl, B8.out⟩
set_option maxRecDepth 100000 in
set_option maxHeartbeats 16000000 in
theorem sums_7 (a b dd : Nat) (w : World) (ha : a < 4294967296) (hb : b < 4294967296) (hdd : dd < 256) (hk : dd % 5 = 4) :
    Calls Try.prog 4 #[.int .u32 (a : Int), .int .u32 (b : Int), .int .u8 (dd : Int)] w fun e w' => e = .returned (.bool true) ∧ Below w.heap.size w w' := by
  obtain ⟨v, hvd⟩ : ∃ v, (a + b) % 4294967296 = v := ⟨_, rfl⟩
  have hv : v < 4294967296 := by omega
  have hva : (v + (4294967296 - b)) % 4294967296 = a := by omega
  have hab : IntKind.u32.wrap ((a : Int) + (b : Int)) = (v : Int) := by
    unfold IntKind.wrap
    simp [IntKind.bits, IntKind.signed]
    omega
  have S1 : ∀ W M g h c d cd src cap, Mem W M g h c d cd (landG 0) (landT false) (landL [522190850, 668991490, 402653184] []) → Calls Try.prog 17 #[.agg #[.int .u32 80, .int .u32 0, .int .u32 (a : Int), .int .u32 (b : Int), .int .u32 0, .int .u32 0, .int .u32 0, .int .u32 0, .int .u32 0, .slice src 0 cap, .int .u8 0, .int .u64 0, .int .u32 0], .pointer (some ⟨M, 0, none⟩), .int .u64 0] W fun e w' => ∃ src2 cap2, e = .returned (.tuple #[.agg #[.int .u32 81, .int .u32 0, .int .u32 (a : Int), .int .u32 (b : Int), .int .u32 0, .int .u32 0, .int .u32 0, .int .u32 0, .int .u32 (v : Int), .slice src2 0 cap2, .int .u8 0, .int .u64 0, .int .u32 0], .agg #[.bool false, .bool false, .int .u32 0, .int .u32 0]]) ∧ Mem w' M g h c d cd (landG 0) (landT false) (landL [522190850, 668991490, 402653184] []) ∧ UpdX W.heap.size d W w' := fun W M g h c d cd src cap m => by
    have f : fetchM (landG 0) (landT false) (landL [522190850, 668991490, 402653184] []) 80 0 = (522190850, 1, true) := fetch_land [522190850, 668991490, 402653184] [] 0 0 0 (by decide) (by decide)
    have hs : hstep (landG 0) (landT false) (landL [522190850, 668991490, 402653184] []) 80 (fun i => [0, a, b, 0, 0, 0, 0, 0].getD i 0 : Nat → Nat) [] 0 0 0 0 = ⟨81, setR (fun i => [0, a, b, 0, 0, 0, 0, 0].getD i 0 : Nat → Nat) 7 ((a + b) % 4294967296), [], 0, 0, (landL [522190850, 668991490, 402653184] []), false, false, 0, 0⟩ := by
      unfold hstep
      rw [f, if_neg (by decide), if_neg (by decide), if_neg (by decide)]
      rfl
    rw [hvd] at hs
    have key := step_c W M g h c d cd (landG 0) (landT false) (landL [522190850, 668991490, 402653184] []) 80 (fun i => [0, a, b, 0, 0, 0, 0, 0].getD i 0 : Nat → Nat) [] 0 0 0 0 src cap m (fun i hi => by cases hi) (by decide) (by decide) (getD8_lt (by decide) ha hb (by decide) (by decide) (by decide) (by decide) (by decide)) (by rw [f]; decide)
    rw [hs] at key
    exact key.mono fun e w' r => by
      obtain ⟨s, he, sp⟩ := r
      obtain ⟨src2, cap2, rfl, _⟩ := sp.1.form
      exact ⟨src2, cap2, he, sp.2.1, sp.2.2⟩
  have S2 : ∀ W M g h c d cd src cap, Mem W M g h c d cd (landG 0) (landT false) (landL [522190850, 668991490, 402653184] []) → Calls Try.prog 17 #[.agg #[.int .u32 81, .int .u32 0, .int .u32 (a : Int), .int .u32 (b : Int), .int .u32 0, .int .u32 0, .int .u32 0, .int .u32 0, .int .u32 (v : Int), .slice src 0 cap, .int .u8 0, .int .u64 0, .int .u32 0], .pointer (some ⟨M, 0, none⟩), .int .u64 0] W fun e w' => ∃ src2 cap2, e = .returned (.tuple #[.agg #[.int .u32 82, .int .u32 0, .int .u32 (a : Int), .int .u32 (b : Int), .int .u32 0, .int .u32 0, .int .u32 0, .int .u32 0, .int .u32 (a : Int), .slice src2 0 cap2, .int .u8 0, .int .u64 0, .int .u32 0], .agg #[.bool false, .bool false, .int .u32 0, .int .u32 0]]) ∧ Mem w' M g h c d cd (landG 0) (landT false) (landL [522190850, 668991490, 402653184] []) ∧ UpdX W.heap.size d W w' := fun W M g h c d cd src cap m => by
    have f : fetchM (landG 0) (landT false) (landL [522190850, 668991490, 402653184] []) 81 0 = (668991490, 1, true) := fetch_land [522190850, 668991490, 402653184] [] 0 1 0 (by decide) (by decide)
    have hs : hstep (landG 0) (landT false) (landL [522190850, 668991490, 402653184] []) 81 (fun i => [0, a, b, 0, 0, 0, 0, v].getD i 0 : Nat → Nat) [] 0 0 0 0 = ⟨82, setR (fun i => [0, a, b, 0, 0, 0, 0, v].getD i 0 : Nat → Nat) 7 ((v + (4294967296 - b)) % 4294967296), [], 0, 0, (landL [522190850, 668991490, 402653184] []), false, false, 0, 0⟩ := by
      unfold hstep
      rw [f, if_neg (by decide), if_neg (by decide), if_neg (by decide)]
      rfl
    rw [hva] at hs
    have key := step_c W M g h c d cd (landG 0) (landT false) (landL [522190850, 668991490, 402653184] []) 81 (fun i => [0, a, b, 0, 0, 0, 0, v].getD i 0 : Nat → Nat) [] 0 0 0 0 src cap m (fun i hi => by cases hi) (by decide) (by decide) (getD8_lt (by decide) ha hb (by decide) (by decide) (by decide) (by decide) hv) (by rw [f]; decide)
    rw [hs] at key
    exact key.mono fun e w' r => by
      obtain ⟨s, he, sp⟩ := r
      obtain ⟨src2, cap2, rfl, _⟩ := sp.1.form
      exact ⟨src2, cap2, he, sp.2.1, sp.2.2⟩
  have S3 : ∀ W M g h c d cd src cap, Mem W M g h c d cd (landG 0) (landT false) (landL [522190850, 668991490, 402653184] []) → Calls Try.prog 17 #[.agg #[.int .u32 82, .int .u32 0, .int .u32 (a : Int), .int .u32 (b : Int), .int .u32 0, .int .u32 0, .int .u32 0, .int .u32 0, .int .u32 (a : Int), .slice src 0 cap, .int .u8 0, .int .u64 0, .int .u32 0], .pointer (some ⟨M, 0, none⟩), .int .u64 0] W fun e w' => ∃ src2 cap2, e = .returned (.tuple #[.agg #[.int .u32 83, .int .u32 0, .int .u32 (a : Int), .int .u32 (b : Int), .int .u32 0, .int .u32 0, .int .u32 0, .int .u32 0, .int .u32 (a : Int), .slice src2 0 cap2, .int .u8 0, .int .u64 0, .int .u32 0], .agg #[.bool false, .bool false, .int .u32 0, .int .u32 0]]) ∧ Mem w' M g h c d cd (landG 0) (landT false) (landL [522190850, 668991490, 402653184] []) ∧ UpdX W.heap.size d W w' := fun W M g h c d cd src cap m => by
    have f : fetchM (landG 0) (landT false) (landL [522190850, 668991490, 402653184] []) 82 0 = (402653184, 1, true) := fetch_land [522190850, 668991490, 402653184] [] 0 2 0 (by decide) (by decide)
    have hs : hstep (landG 0) (landT false) (landL [522190850, 668991490, 402653184] []) 82 (fun i => [0, a, b, 0, 0, 0, 0, a].getD i 0 : Nat → Nat) [] 0 0 0 0 = ⟨83, (fun i => [0, a, b, 0, 0, 0, 0, a].getD i 0 : Nat → Nat), [], 0, 0, (landL [522190850, 668991490, 402653184] []), false, false, 0, 0⟩ := by
      unfold hstep
      rw [f, if_neg (by decide), if_neg (by decide), if_neg (by decide)]
      rfl
    have key := step_c W M g h c d cd (landG 0) (landT false) (landL [522190850, 668991490, 402653184] []) 82 (fun i => [0, a, b, 0, 0, 0, 0, a].getD i 0 : Nat → Nat) [] 0 0 0 0 src cap m (fun i hi => by cases hi) (by decide) (by decide) (getD8_lt (by decide) ha hb (by decide) (by decide) (by decide) (by decide) ha) (by rw [f]; decide)
    rw [hs] at key
    exact key.mono fun e w' r => by
      obtain ⟨s, he, sp⟩ := r
      obtain ⟨src2, cap2, rfl, _⟩ := sp.1.form
      exact ⟨src2, cap2, he, sp.2.1, sp.2.2⟩
  have MK : ∀ W, Stk W (some ⟨w.heap.size, 0, none⟩) [522190850, 668991490, 402653184] → Calls Try.prog 16 #[.agg #[.slice (some ⟨w.heap.size, 0, none⟩) 3 3, .slice none 0 0, .int .u32 0, .bool false]] W fun e w' => Made W [522190850, 668991490, 402653184] [] 0 false e w' := fun W q => made_c W _ _ 3 none [] 0 0 false q Stk.nil
  have KC : Hid (Stk (w.alloc (.cells #[.int .u32 522190850, .int .u32 668991490, .int .u32 402653184] 22)) (some ⟨w.heap.size, 0, none⟩) [522190850, 668991490, 402653184]) := Lib.hid (by
    have K := Blk.new w 22 #[.int .u32 522190850, .int .u32 668991490, .int .u32 402653184]
    intro i hi
    refine ⟨w.heap.size, 0, rfl, K.lt, ?_⟩
    rw [Nat.zero_add]
    match i, hi with
    | 0, _ => exact K.cell 0
    | 1, _ => exact K.cell 1
    | 2, _ => exact K.cell 2)
  have B0 : Hid (Below w.heap.size w (w.alloc (.cells #[.int .u32 522190850, .int .u32 668991490, .int .u32 402653184] 22))) := Lib.hid ((Below.refl _ w).alloc (Nat.le_refl _) _)
  have htm : Int.tmod (dd : Int) 5 = 4 := by rw [Int.tmod_eq_emod_of_nonneg (by omega)]; omega
  have hdz : (dd : Int) < 256 := by omega
  clear hvd hva hv ha hb hk hdd
  replace S1 := Lib.hid S1
  replace S2 := Lib.hid S2
  replace S3 := Lib.hid S3
  replace MK := Lib.hid MK
  replace hab := Lib.hid hab
  go_enter Try.func4, Try.ntmps4
  go_wp2_with fail
  refine (MK.out _ KC.out).mono ?_
  rintro en w1 ⟨M, g, h, c, d, cd, b0, cb, e0, ce, rfl, LD⟩
  generalize landG 0 = G at S1 S2 S3 LD ⊢
  generalize landT false = T at S1 S2 S3 LD ⊢
  generalize landL [522190850, 668991490, 402653184] [] = L at S1 S2 S3 LD ⊢
  unfold PM.rm
  go_upto_region 6 with fail
  generalize hX1 : (w1.alloc (.cells #[.int .u32 (G 0 : Int), .int .u32 (G 1 : Int), .int .u32 (G 2 : Int), .int .u32 (G 3 : Int), .int .u32 (G 4 : Int), .int .u32 (G 5 : Int), .int .u32 (G 6 : Int), .int .u32 (G 7 : Int), .slice (some ⟨b0, 0, none⟩) T.length cb, .slice (some ⟨e0, 0, none⟩) L.length ce] 40)).alloc (.cells #[.int .u32 80, .int .u32 0, .int .u32 (a : Int), .int .u32 (b : Int), .int .u32 0, .int .u32 0, .int .u32 0, .int .u32 0, .int .u32 0, .slice none 0 0, .int .u8 0, .int .u64 0, .int .u32 0] 28) = X1
  have HBX : Hid (Blk X1 (w1.heap.size + 1) 28 #[.int .u32 80, .int .u32 0, .int .u32 (a : Int), .int .u32 (b : Int), .int .u32 0, .int .u32 0, .int .u32 0, .int .u32 0, .int .u32 0, .slice none 0 0, .int .u8 0, .int .u64 0, .int .u32 0]) := Lib.hid (by
    have q := Blk.new (w1.alloc (.cells #[.int .u32 (G 0 : Int), .int .u32 (G 1 : Int), .int .u32 (G 2 : Int), .int .u32 (G 3 : Int), .int .u32 (G 4 : Int), .int .u32 (G 5 : Int), .int .u32 (G 6 : Int), .int .u32 (G 7 : Int), .slice (some ⟨b0, 0, none⟩) T.length cb, .slice (some ⟨e0, 0, none⟩) L.length ce] 40)) 28 #[.int .u32 80, .int .u32 0, .int .u32 (a : Int), .int .u32 (b : Int), .int .u32 0, .int .u32 0, .int .u32 0, .int .u32 0, .int .u32 0, .slice none 0 0, .int .u8 0, .int .u64 0, .int .u32 0]
    have z : (w1.alloc (.cells #[.int .u32 (G 0 : Int), .int .u32 (G 1 : Int), .int .u32 (G 2 : Int), .int .u32 (G 3 : Int), .int .u32 (G 4 : Int), .int .u32 (G 5 : Int), .int .u32 (G 6 : Int), .int .u32 (G 7 : Int), .slice (some ⟨b0, 0, none⟩) T.length cb, .slice (some ⟨e0, 0, none⟩) L.length ce] 40)).heap.size = w1.heap.size + 1 := by simp
    rw [z] at q
    exact hX1 ▸ q)
  have M1 : Hid (Mem X1 M g h c d cd G T L) := Lib.hid (hX1 ▸ (LD.mem.alloc _).alloc _)
  have B1 : Hid (Below w.heap.size w X1) := Lib.hid (hX1 ▸ ((B0.out.trans (LD.bel.mono B0.out.size)).alloc (Nat.le_trans B0.out.size LD.bel.size) _).alloc (by have := B0.out.size; have := LD.bel.size; simp at this ⊢; omega) _)
  have SZ : Hid (w.heap.size ≤ d ∧ M < X1.heap.size ∧ g < X1.heap.size ∧ h < X1.heap.size ∧ d < X1.heap.size) := Lib.hid ⟨Nat.le_trans B0.out.size LD.ld, M1.out.ten.lt, M1.out.tab.lt, M1.out.tab.pgs.lt, M1.out.wds.lt⟩
  clear hX1 LD KC
  have t0 : X1.cell? ⟨(w1.heap.size + 1), 0, none⟩ = some (.int .u32 80) := HBX.out.cell 0
  have t1 : X1.cell? ⟨(w1.heap.size + 1), 1, none⟩ = some (.int .u32 0) := HBX.out.cell 1
  have t2 : X1.cell? ⟨(w1.heap.size + 1), 2, none⟩ = some (.int .u32 (a : Int)) := HBX.out.cell 2
  have t3 : X1.cell? ⟨(w1.heap.size + 1), 3, none⟩ = some (.int .u32 (b : Int)) := HBX.out.cell 3
  have t4 : X1.cell? ⟨(w1.heap.size + 1), 4, none⟩ = some (.int .u32 0) := HBX.out.cell 4
  have t5 : X1.cell? ⟨(w1.heap.size + 1), 5, none⟩ = some (.int .u32 0) := HBX.out.cell 5
  have t6 : X1.cell? ⟨(w1.heap.size + 1), 6, none⟩ = some (.int .u32 0) := HBX.out.cell 6
  have t7 : X1.cell? ⟨(w1.heap.size + 1), 7, none⟩ = some (.int .u32 0) := HBX.out.cell 7
  have t8 : X1.cell? ⟨(w1.heap.size + 1), 8, none⟩ = some (.int .u32 0) := HBX.out.cell 8
  have t9 : X1.cell? ⟨(w1.heap.size + 1), 9, none⟩ = some (.slice none 0 0) := HBX.out.cell 9
  have t10 : X1.cell? ⟨(w1.heap.size + 1), 10, none⟩ = some (.int .u8 0) := HBX.out.cell 10
  have t11 : X1.cell? ⟨(w1.heap.size + 1), 11, none⟩ = some (.int .u64 0) := HBX.out.cell 11
  have t12 : X1.cell? ⟨(w1.heap.size + 1), 12, none⟩ = some (.int .u32 0) := HBX.out.cell 12
  go_wp2_with fail
  refine (S1.out _ _ _ _ _ _ _ _ _ M1.out).mono ?_
  rintro en w2 ⟨sa, ca, rfl, m2, u2⟩
  have B2 := Lib.hid (u2.below B1.out SZ.out.1)
  have L2 : Hid (X1.heap.size ≤ w2.heap.size) := Lib.hid u2.size
  go_upto_region 7 with fail
  generalize hX2 : (w2.alloc (.cells #[.int .u32 81, .int .u32 0, .int .u32 (a : Int), .int .u32 (b : Int), .int .u32 0, .int .u32 0, .int .u32 0, .int .u32 0, .int .u32 (v : Int), .slice sa 0 ca, .int .u8 0, .int .u64 0, .int .u32 0] 28)).alloc (.cells #[.bool false, .bool false, .int .u32 0, .int .u32 0] 46) = X2
  have KX : Hid (Blk X2 w2.heap.size 28 #[.int .u32 81, .int .u32 0, .int .u32 (a : Int), .int .u32 (b : Int), .int .u32 0, .int .u32 0, .int .u32 0, .int .u32 0, .int .u32 (v : Int), .slice sa 0 ca, .int .u8 0, .int .u64 0, .int .u32 0]) := Lib.hid (hX2 ▸ (Blk.new w2 _ _).alloc _)
  have M2 : Hid (Mem X2 M g h c d cd G T L) := Lib.hid (hX2 ▸ (m2.alloc _).alloc _)
  have B3 : Hid (Below w.heap.size w X2) := Lib.hid (hX2 ▸ (B2.out.alloc B2.out.size _).alloc (by have := B2.out.size; simp; omega) _)
  clear hX2 t0 t1 t2 t3 t4 t5 t6 t7 t8 t9 t10 t11 t12 HBX m2 u2 B1 B2
  have x0 : X2.cell? ⟨w2.heap.size, 0, none⟩ = some (.int .u32 81) := KX.out.cell 0
  have x1 : X2.cell? ⟨w2.heap.size, 1, none⟩ = some (.int .u32 0) := KX.out.cell 1
  have x2 : X2.cell? ⟨w2.heap.size, 2, none⟩ = some (.int .u32 (a : Int)) := KX.out.cell 2
  have x3 : X2.cell? ⟨w2.heap.size, 3, none⟩ = some (.int .u32 (b : Int)) := KX.out.cell 3
  have x4 : X2.cell? ⟨w2.heap.size, 4, none⟩ = some (.int .u32 0) := KX.out.cell 4
  have x5 : X2.cell? ⟨w2.heap.size, 5, none⟩ = some (.int .u32 0) := KX.out.cell 5
  have x6 : X2.cell? ⟨w2.heap.size, 6, none⟩ = some (.int .u32 0) := KX.out.cell 6
  have x7 : X2.cell? ⟨w2.heap.size, 7, none⟩ = some (.int .u32 0) := KX.out.cell 7
  have x8 : X2.cell? ⟨w2.heap.size, 8, none⟩ = some (.int .u32 (v : Int)) := KX.out.cell 8
  have x9 : X2.cell? ⟨w2.heap.size, 9, none⟩ = some (.slice sa 0 ca) := KX.out.cell 9
  have x10 : X2.cell? ⟨w2.heap.size, 10, none⟩ = some (.int .u8 0) := KX.out.cell 10
  have x11 : X2.cell? ⟨w2.heap.size, 11, none⟩ = some (.int .u64 0) := KX.out.cell 11
  have x12 : X2.cell? ⟨w2.heap.size, 12, none⟩ = some (.int .u32 0) := KX.out.cell 12
  have hab' := hab.out
  go_wp2_with fail
  refine (S2.out _ _ _ _ _ _ _ _ _ M2.out).mono ?_
  rintro en w3 ⟨sb, cb2, rfl, m3, u3⟩
  have sz := SZ.out
  have l2 := L2.out
  have K3 := Lib.hid (u3.blk KX.out (by omega))
  have B4 := Lib.hid (u3.below B3.out SZ.out.1)
  have M3 : Hid (Mem (w3.setCells w2.heap.size 0 [.int .u32 82, .int .u32 0, .int .u32 (a : Int), .int .u32 (b : Int), .int .u32 0, .int .u32 0, .int .u32 0, .int .u32 0, .int .u32 (a : Int), .slice sb 0 cb2, .int .u8 0, .int .u64 0, .int .u32 0]) M g h c d cd G T L) := Lib.hid (m3.upd9 (upd_setCells9 _ _ 0 _) (by omega) (by omega) (by omega) (by omega))
  have K4 : Hid (Blk (w3.setCells w2.heap.size 0 [.int .u32 82, .int .u32 0, .int .u32 (a : Int), .int .u32 (b : Int), .int .u32 0, .int .u32 0, .int .u32 0, .int .u32 0, .int .u32 (a : Int), .slice sb 0 cb2, .int .u8 0, .int .u64 0, .int .u32 0]) w2.heap.size 28 #[.int .u32 82, .int .u32 0, .int .u32 (a : Int), .int .u32 (b : Int), .int .u32 0, .int .u32 0, .int .u32 0, .int .u32 0, .int .u32 (a : Int), .slice sb 0 cb2, .int .u8 0, .int .u64 0, .int .u32 0]) := Lib.hid (Blk.all13 K3.out _ _ _ _ _ _ _ _ _ _ _ _ _)
  have B5 : Hid (Below w.heap.size w (w3.setCells w2.heap.size 0 [.int .u32 82, .int .u32 0, .int .u32 (a : Int), .int .u32 (b : Int), .int .u32 0, .int .u32 0, .int .u32 0, .int .u32 0, .int .u32 (a : Int), .slice sb 0 cb2, .int .u8 0, .int .u64 0, .int .u32 0])) := Lib.hid (below_setCells (by have := SZ.out; omega) _ 0 _ B4.out)
  have NE : Hid (w2.heap.size ≠ d) := Lib.hid (by omega)
  clear m3 u3 sz l2 x0 x1 x2 x3 x4 x5 x6 x7 x8 x9 x10 x11 x12 KX B3
  have x0 : w3.cell? ⟨w2.heap.size, 0, none⟩ = some (.int .u32 81) := K3.out.cell 0
  have fx0 : w3.frozen? ⟨w2.heap.size, 0, none⟩ = false := K3.out.frozen 0
  have x1 : w3.cell? ⟨w2.heap.size, 1, none⟩ = some (.int .u32 0) := K3.out.cell 1
  have fx1 : w3.frozen? ⟨w2.heap.size, 1, none⟩ = false := K3.out.frozen 1
  have x2 : w3.cell? ⟨w2.heap.size, 2, none⟩ = some (.int .u32 (a : Int)) := K3.out.cell 2
  have fx2 : w3.frozen? ⟨w2.heap.size, 2, none⟩ = false := K3.out.frozen 2
  have x3 : w3.cell? ⟨w2.heap.size, 3, none⟩ = some (.int .u32 (b : Int)) := K3.out.cell 3
  have fx3 : w3.frozen? ⟨w2.heap.size, 3, none⟩ = false := K3.out.frozen 3
  have x4 : w3.cell? ⟨w2.heap.size, 4, none⟩ = some (.int .u32 0) := K3.out.cell 4
  have fx4 : w3.frozen? ⟨w2.heap.size, 4, none⟩ = false := K3.out.frozen 4
  have x5 : w3.cell? ⟨w2.heap.size, 5, none⟩ = some (.int .u32 0) := K3.out.cell 5
  have fx5 : w3.frozen? ⟨w2.heap.size, 5, none⟩ = false := K3.out.frozen 5
  have x6 : w3.cell? ⟨w2.heap.size, 6, none⟩ = some (.int .u32 0) := K3.out.cell 6
  have fx6 : w3.frozen? ⟨w2.heap.size, 6, none⟩ = false := K3.out.frozen 6
  have x7 : w3.cell? ⟨w2.heap.size, 7, none⟩ = some (.int .u32 0) := K3.out.cell 7
  have fx7 : w3.frozen? ⟨w2.heap.size, 7, none⟩ = false := K3.out.frozen 7
  have x8 : w3.cell? ⟨w2.heap.size, 8, none⟩ = some (.int .u32 (v : Int)) := K3.out.cell 8
  have fx8 : w3.frozen? ⟨w2.heap.size, 8, none⟩ = false := K3.out.frozen 8
  have x9 : w3.cell? ⟨w2.heap.size, 9, none⟩ = some (.slice sa 0 ca) := K3.out.cell 9
  have fx9 : w3.frozen? ⟨w2.heap.size, 9, none⟩ = false := K3.out.frozen 9
  have x10 : w3.cell? ⟨w2.heap.size, 10, none⟩ = some (.int .u8 0) := K3.out.cell 10
  have fx10 : w3.frozen? ⟨w2.heap.size, 10, none⟩ = false := K3.out.frozen 10
  have x11 : w3.cell? ⟨w2.heap.size, 11, none⟩ = some (.int .u64 0) := K3.out.cell 11
  have fx11 : w3.frozen? ⟨w2.heap.size, 11, none⟩ = false := K3.out.frozen 11
  have x12 : w3.cell? ⟨w2.heap.size, 12, none⟩ = some (.int .u32 0) := K3.out.cell 12
  have fx12 : w3.frozen? ⟨w2.heap.size, 12, none⟩ = false := K3.out.frozen 12
  go_upto_region 10 with fail
  generalize hX3 : w3.setCells w2.heap.size 0 [.int .u32 82, .int .u32 0, .int .u32 (a : Int), .int .u32 (b : Int), .int .u32 0, .int .u32 0, .int .u32 0, .int .u32 0, .int .u32 (a : Int), .slice sb 0 cb2, .int .u8 0, .int .u64 0, .int .u32 0] = X3 at M3 K4 B5
  simp only [World.setCells, Nat.zero_add, Nat.reduceAdd] at hX3
  (try rw [hX3])
  clear hX3 x0 x1 x2 x3 x4 x5 x6 x7 x8 x9 x10 x11 x12 fx0 fx1 fx2 fx3 fx4 fx5 fx6 fx7 fx8 fx9 fx10 fx11 fx12 K3 B4
  have x0 : X3.cell? ⟨w2.heap.size, 0, none⟩ = some (.int .u32 82) := K4.out.cell 0
  have x1 : X3.cell? ⟨w2.heap.size, 1, none⟩ = some (.int .u32 0) := K4.out.cell 1
  have x2 : X3.cell? ⟨w2.heap.size, 2, none⟩ = some (.int .u32 (a : Int)) := K4.out.cell 2
  have x3 : X3.cell? ⟨w2.heap.size, 3, none⟩ = some (.int .u32 (b : Int)) := K4.out.cell 3
  have x4 : X3.cell? ⟨w2.heap.size, 4, none⟩ = some (.int .u32 0) := K4.out.cell 4
  have x5 : X3.cell? ⟨w2.heap.size, 5, none⟩ = some (.int .u32 0) := K4.out.cell 5
  have x6 : X3.cell? ⟨w2.heap.size, 6, none⟩ = some (.int .u32 0) := K4.out.cell 6
  have x7 : X3.cell? ⟨w2.heap.size, 7, none⟩ = some (.int .u32 0) := K4.out.cell 7
  have x8 : X3.cell? ⟨w2.heap.size, 8, none⟩ = some (.int .u32 (a : Int)) := K4.out.cell 8
  have x9 : X3.cell? ⟨w2.heap.size, 9, none⟩ = some (.slice sb 0 cb2) := K4.out.cell 9
  have x10 : X3.cell? ⟨w2.heap.size, 10, none⟩ = some (.int .u8 0) := K4.out.cell 10
  have x11 : X3.cell? ⟨w2.heap.size, 11, none⟩ = some (.int .u64 0) := K4.out.cell 11
  have x12 : X3.cell? ⟨w2.heap.size, 12, none⟩ = some (.int .u32 0) := K4.out.cell 12
  go_wp2_with fail
  refine (S3.out _ _ _ _ _ _ _ _ _ M3.out).mono ?_
  rintro en w4 ⟨sc, cc, rfl, m4, u4⟩
  have K5 := Lib.hid (u4.blk K4.out NE.out)
  have B6 := Lib.hid (u4.below B5.out SZ.out.1)
  clear m4 u4 x0 x1 x2 x3 x4 x5 x6 x7 x8 x9 x10 x11 x12 K4 B5 M3
  go_upto_region 11 with fail
  generalize hX4 : (w4.alloc (.cells #[.int .u32 83, .int .u32 0, .int .u32 (a : Int), .int .u32 (b : Int), .int .u32 0, .int .u32 0, .int .u32 0, .int .u32 0, .int .u32 (a : Int), .slice sc 0 cc, .int .u8 0, .int .u64 0, .int .u32 0] 28)).alloc (.cells #[.bool false, .bool false, .int .u32 0, .int .u32 0] 46) = X4
  have KX : Hid (Blk X4 w2.heap.size 28 #[.int .u32 82, .int .u32 0, .int .u32 (a : Int), .int .u32 (b : Int), .int .u32 0, .int .u32 0, .int .u32 0, .int .u32 0, .int .u32 (a : Int), .slice sb 0 cb2, .int .u8 0, .int .u64 0, .int .u32 0]) := Lib.hid (hX4 ▸ (K5.out.alloc _).alloc _)
  have KY : Hid (Blk X4 w4.heap.size 28 #[.int .u32 83, .int .u32 0, .int .u32 (a : Int), .int .u32 (b : Int), .int .u32 0, .int .u32 0, .int .u32 0, .int .u32 0, .int .u32 (a : Int), .slice sc 0 cc, .int .u8 0, .int .u64 0, .int .u32 0]) := Lib.hid (hX4 ▸ (Blk.new w4 _ _).alloc _)
  have B7 : Hid (Below w.heap.size w X4) := Lib.hid (hX4 ▸ (B6.out.alloc B6.out.size _).alloc (by have := B6.out.size; simp; omega) _)
  clear hX4 K5 B6
  have x0 : X4.cell? ⟨w2.heap.size, 0, none⟩ = some (.int .u32 82) := KX.out.cell 0
  have x1 : X4.cell? ⟨w2.heap.size, 1, none⟩ = some (.int .u32 0) := KX.out.cell 1
  have x2 : X4.cell? ⟨w2.heap.size, 2, none⟩ = some (.int .u32 (a : Int)) := KX.out.cell 2
  have x3 : X4.cell? ⟨w2.heap.size, 3, none⟩ = some (.int .u32 (b : Int)) := KX.out.cell 3
  have x4 : X4.cell? ⟨w2.heap.size, 4, none⟩ = some (.int .u32 0) := KX.out.cell 4
  have x5 : X4.cell? ⟨w2.heap.size, 5, none⟩ = some (.int .u32 0) := KX.out.cell 5
  have x6 : X4.cell? ⟨w2.heap.size, 6, none⟩ = some (.int .u32 0) := KX.out.cell 6
  have x7 : X4.cell? ⟨w2.heap.size, 7, none⟩ = some (.int .u32 0) := KX.out.cell 7
  have x8 : X4.cell? ⟨w2.heap.size, 8, none⟩ = some (.int .u32 (a : Int)) := KX.out.cell 8
  have x9 : X4.cell? ⟨w2.heap.size, 9, none⟩ = some (.slice sb 0 cb2) := KX.out.cell 9
  have x10 : X4.cell? ⟨w2.heap.size, 10, none⟩ = some (.int .u8 0) := KX.out.cell 10
  have x11 : X4.cell? ⟨w2.heap.size, 11, none⟩ = some (.int .u64 0) := KX.out.cell 11
  have x12 : X4.cell? ⟨w2.heap.size, 12, none⟩ = some (.int .u32 0) := KX.out.cell 12
  have y0 : X4.cell? ⟨w4.heap.size, 0, none⟩ = some (.int .u32 83) := KY.out.cell 0
  have y1 : X4.cell? ⟨w4.heap.size, 1, none⟩ = some (.int .u32 0) := KY.out.cell 1
  have y2 : X4.cell? ⟨w4.heap.size, 2, none⟩ = some (.int .u32 (a : Int)) := KY.out.cell 2
  have y3 : X4.cell? ⟨w4.heap.size, 3, none⟩ = some (.int .u32 (b : Int)) := KY.out.cell 3
  have y4 : X4.cell? ⟨w4.heap.size, 4, none⟩ = some (.int .u32 0) := KY.out.cell 4
  have y5 : X4.cell? ⟨w4.heap.size, 5, none⟩ = some (.int .u32 0) := KY.out.cell 5
  have y6 : X4.cell? ⟨w4.heap.size, 6, none⟩ = some (.int .u32 0) := KY.out.cell 6
  have y7 : X4.cell? ⟨w4.heap.size, 7, none⟩ = some (.int .u32 0) := KY.out.cell 7
  have y8 : X4.cell? ⟨w4.heap.size, 8, none⟩ = some (.int .u32 (a : Int)) := KY.out.cell 8
  have y9 : X4.cell? ⟨w4.heap.size, 9, none⟩ = some (.slice sc 0 cc) := KY.out.cell 9
  have y10 : X4.cell? ⟨w4.heap.size, 10, none⟩ = some (.int .u8 0) := KY.out.cell 10
  have y11 : X4.cell? ⟨w4.heap.size, 11, none⟩ = some (.int .u64 0) := KY.out.cell 11
  have y12 : X4.cell? ⟨w4.heap.size, 12, none⟩ = some (.int .u32 0) := KY.out.cell 12
  go_wp2_with fail
  refine (awake09_c _).mono ?_
  rintro en w9 ⟨rfl, hb⟩
  have B8 := Lib.hid (B7.out.trans (hb.mono B7.out.size))
  clear hb
  go_wp2_with fail
  go_ret
  exact ⟨rfl, B8.out⟩
end Go.Proofs.Ythnbdeibjbicpaa.PM
