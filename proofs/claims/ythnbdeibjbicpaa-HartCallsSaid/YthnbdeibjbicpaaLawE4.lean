/- HartCalls walked. Conditions: the registers are words. -/
import Derived.Test.YthnbdeibjbicpaaLawE2
import Derived.OwnWalk
namespace Go.Proofs.Ythnbdeibjbicpaa.PM
set_option linter.unusedVariables false
set_option linter.unusedSimpArgs false
open Go.RowKit
theorem Own.stkn {w : World} {base n : Nat} {src : Option Addr} {cap : Nat} {S : List Nat} (o : Own w base (.slice src n cap) S) : Stk w src S := by
  obtain ⟨s2, c2, e, _⟩ := o.form
  injection e with e1 e2 e3
  subst e2
  exact o.stk
def St (n : Nat) : List Nat := (List.range n).map (90 + ·)
theorem St_len (n : Nat) : (St n).length = n := by simp [St]
theorem St_next (n : Nat) : St (n + 1) = St n ++ [90 + n] := by simp [St, List.range_succ]
theorem bang_last (S : List Nat) (x : Nat) : (S ++ [x])[S.length]! = x := by
  rw [List.getElem!_eq_getElem?_getD]
  simp
set_option maxRecDepth 100000 in
set_option maxHeartbeats 16000000 in
theorem calls_c (deep n : Nat) (R : Nat → Nat) (w : World) (hR : ∀ i, i < 8 → R i < 4294967296) (hdp : deep < 256) (hk : deep % 18 = n) :
    Calls Try.prog 5 #[.int .u8 (deep : Int), .agg #[.int .u32 (R 0 : Int), .int .u32 (R 1 : Int), .int .u32 (R 2 : Int), .int .u32 (R 3 : Int), .int .u32 (R 4 : Int), .int .u32 (R 5 : Int), .int .u32 (R 6 : Int), .int .u32 (R 7 : Int)]] w fun e w' => e = .returned (.bool true) ∧ Below w.heap.size w w' := by
  obtain ⟨ti, hi, hz0, hz1, hz2⟩ := info_parts info_u32
  have hn18 : n < 18 := by omega
  obtain ⟨S, hS⟩ : ∃ S, S = St n := ⟨_, rfl⟩
  have hSl : S.length = n := by rw [hS]; exact St_len n
  have f0 : fetchM (landG 0) (landT false) (landL [2281701457, 2415919104] []) 80 0 = (2281701457, 1, true) := fetch_land [2281701457, 2415919104] [] 0 0 0 (by decide) (by decide)
  have f1 : fetchM (landG 0) (landT false) (landL [2281701457, 2415919104] []) 81 0 = (2415919104, 1, true) := fetch_land [2281701457, 2415919104] [] 0 1 0 (by decide) (by decide)
  have S0 : ¬ n < 16 → ∀ W M g h c d cd src cap, Mem W M g h c d cd (landG 0) (landT false) (landL [2281701457, 2415919104] []) → Stk W src S → Calls Try.prog 17 #[.agg #[.int .u32 80, .int .u32 (R 0 : Int), .int .u32 (R 1 : Int), .int .u32 (R 2 : Int), .int .u32 (R 3 : Int), .int .u32 (R 4 : Int), .int .u32 (R 5 : Int), .int .u32 (R 6 : Int), .int .u32 (R 7 : Int), .slice src n cap, .int .u8 0, .int .u64 0, .int .u32 0], .pointer (some ⟨M, 0, none⟩), .int .u64 0] W fun e w' => ∃ src2 cap2, e = .returned (.tuple #[.agg #[.int .u32 80, .int .u32 (R 0 : Int), .int .u32 (R 1 : Int), .int .u32 (R 2 : Int), .int .u32 (R 3 : Int), .int .u32 (R 4 : Int), .int .u32 (R 5 : Int), .int .u32 (R 6 : Int), .int .u32 (R 7 : Int), .slice src2 n cap2, .int .u8 6, .int .u64 0, .int .u32 0], .agg #[.bool false, .bool false, .int .u32 0, .int .u32 0]]) ∧ Own w' W.heap.size (.slice src2 n cap2) S ∧ Mem w' M g h c d cd (landG 0) (landT false) (landL [2281701457, 2415919104] []) ∧ UpdX W.heap.size d W w' := fun hlt W M g h c d cd src cap m hq => by
    have hs : hstep (landG 0) (landT false) (landL [2281701457, 2415919104] []) 80 R S 0 0 0 0 = ⟨80, R, S, 6, 0, (landL [2281701457, 2415919104] []), false, false, 0, 0⟩ := by
      unfold hstep
      rw [f0, if_neg (by decide), if_neg (by decide), if_neg (by decide)]
      show (if S.length < 16 then goto (landL [2281701457, 2415919104] []) (S ++ [inc 80]) 0 (tgtN 80 17 0 0 0 81) R else stay (landL [2281701457, 2415919104] []) 80 R S 0 6) = _
      rw [if_neg (by omega)]
      rfl
    have key := step_c W M g h c d cd (landG 0) (landT false) (landL [2281701457, 2415919104] []) 80 R S 0 0 0 0 src cap m hq (by omega) (by decide) hR (by rw [f0]; decide)
    rw [hs] at key
    have l1 : S.length = n := hSl
    have l2 : S.length = n := hSl
    rw [l1] at key
    exact key.mono fun e w' r => by
      obtain ⟨s, he, sp⟩ := r
      have ow : Own w' W.heap.size s S := sp.1
      obtain ⟨src2, cap2, rfl, _⟩ := ow.form
      rw [l2] at he ow
      exact ⟨src2, cap2, he, ow, sp.2.1, sp.2.2⟩
  have S1 : n < 16 → ∀ W M g h c d cd src cap, Mem W M g h c d cd (landG 0) (landT false) (landL [2281701457, 2415919104] []) → Stk W src S → Calls Try.prog 17 #[.agg #[.int .u32 80, .int .u32 (R 0 : Int), .int .u32 (R 1 : Int), .int .u32 (R 2 : Int), .int .u32 (R 3 : Int), .int .u32 (R 4 : Int), .int .u32 (R 5 : Int), .int .u32 (R 6 : Int), .int .u32 (R 7 : Int), .slice src n cap, .int .u8 0, .int .u64 0, .int .u32 0], .pointer (some ⟨M, 0, none⟩), .int .u64 0] W fun e w' => ∃ src2 cap2, e = .returned (.tuple #[.agg #[.int .u32 81, .int .u32 (R 0 : Int), .int .u32 (R 1 : Int), .int .u32 (R 2 : Int), .int .u32 (R 3 : Int), .int .u32 (R 4 : Int), .int .u32 (R 5 : Int), .int .u32 (R 6 : Int), .int .u32 (R 7 : Int), .slice src2 (n + 1) cap2, .int .u8 0, .int .u64 0, .int .u32 0], .agg #[.bool false, .bool false, .int .u32 0, .int .u32 0]]) ∧ Own w' W.heap.size (.slice src2 (n + 1) cap2) (S ++ [81]) ∧ Mem w' M g h c d cd (landG 0) (landT false) (landL [2281701457, 2415919104] []) ∧ UpdX W.heap.size d W w' := fun hlt W M g h c d cd src cap m hq => by
    have hs : hstep (landG 0) (landT false) (landL [2281701457, 2415919104] []) 80 R S 0 0 0 0 = ⟨81, R, S ++ [81], 0, 0, (landL [2281701457, 2415919104] []), false, false, 0, 0⟩ := by
      unfold hstep
      rw [f0, if_neg (by decide), if_neg (by decide), if_neg (by decide)]
      show (if S.length < 16 then goto (landL [2281701457, 2415919104] []) (S ++ [inc 80]) 0 (tgtN 80 17 0 0 0 81) R else stay (landL [2281701457, 2415919104] []) 80 R S 0 6) = _
      rw [if_pos (by omega)]
      rfl
    have key := step_c W M g h c d cd (landG 0) (landT false) (landL [2281701457, 2415919104] []) 80 R S 0 0 0 0 src cap m hq (by omega) (by decide) hR (by rw [f0]; decide)
    rw [hs] at key
    have l1 : S.length = n := hSl
    have l2 : (S ++ [81]).length = (n + 1) := (by simp [hSl])
    rw [l1] at key
    exact key.mono fun e w' r => by
      obtain ⟨s, he, sp⟩ := r
      have ow : Own w' W.heap.size s (S ++ [81]) := sp.1
      obtain ⟨src2, cap2, rfl, _⟩ := ow.form
      rw [l2] at he ow
      exact ⟨src2, cap2, he, ow, sp.2.1, sp.2.2⟩
  have S2 : ∀ W M g h c d cd src cap, Mem W M g h c d cd (landG 0) (landT false) (landL [2281701457, 2415919104] []) → Stk W src (S ++ [81]) → Calls Try.prog 17 #[.agg #[.int .u32 81, .int .u32 (R 0 : Int), .int .u32 (R 1 : Int), .int .u32 (R 2 : Int), .int .u32 (R 3 : Int), .int .u32 (R 4 : Int), .int .u32 (R 5 : Int), .int .u32 (R 6 : Int), .int .u32 (R 7 : Int), .slice src (n + 1) cap, .int .u8 0, .int .u64 0, .int .u32 0], .pointer (some ⟨M, 0, none⟩), .int .u64 0] W fun e w' => ∃ src2 cap2, e = .returned (.tuple #[.agg #[.int .u32 81, .int .u32 (R 0 : Int), .int .u32 (R 1 : Int), .int .u32 (R 2 : Int), .int .u32 (R 3 : Int), .int .u32 (R 4 : Int), .int .u32 (R 5 : Int), .int .u32 (R 6 : Int), .int .u32 (R 7 : Int), .slice src2 n cap2, .int .u8 0, .int .u64 0, .int .u32 0], .agg #[.bool false, .bool false, .int .u32 0, .int .u32 0]]) ∧ Own w' W.heap.size (.slice src2 n cap2) S ∧ Mem w' M g h c d cd (landG 0) (landT false) (landL [2281701457, 2415919104] []) ∧ UpdX W.heap.size d W w' := fun W M g h c d cd src cap m hq => by
    have hs : hstep (landG 0) (landT false) (landL [2281701457, 2415919104] []) 81 R (S ++ [81]) 0 0 0 0 = ⟨81, R, S, 0, 0, (landL [2281701457, 2415919104] []), false, false, 0, 0⟩ := by
      unfold hstep
      rw [f1, if_neg (by decide), if_neg (by decide), if_neg (by decide)]
      show (if S ++ [81] = [] then passM (landL [2281701457, 2415919104] []) 81 R (S ++ [81]) 0 0 0 6 else goto (landL [2281701457, 2415919104] []) (S ++ [81]).dropLast 0 ((S ++ [81]).getLastD 0) R) = _
      rw [if_neg (by simp), List.dropLast_concat]
      have e : (S ++ [81]).getLastD 0 = 81 := by simp
      rw [e]
      rfl
    have key := step_c W M g h c d cd (landG 0) (landT false) (landL [2281701457, 2415919104] []) 81 R (S ++ [81]) 0 0 0 0 src cap m hq (by simp; omega) (by decide) hR (by rw [f1]; decide)
    rw [hs] at key
    have l1 : (S ++ [81]).length = (n + 1) := (by simp [hSl])
    have l2 : S.length = n := hSl
    rw [l1] at key
    exact key.mono fun e w' r => by
      obtain ⟨s, he, sp⟩ := r
      have ow : Own w' W.heap.size s S := sp.1
      obtain ⟨src2, cap2, rfl, _⟩ := ow.form
      rw [l2] at he ow
      exact ⟨src2, cap2, he, ow, sp.2.1, sp.2.2⟩
  have MK : ∀ W b, Stk W (some ⟨b, 0, none⟩) [2281701457, 2415919104] → Calls Try.prog 16 #[.agg #[.slice (some ⟨b, 0, none⟩) 2 2, .slice none 0 0, .int .u32 0, .bool false]] W fun e w' => Made W [2281701457, 2415919104] [] 0 false e w' := fun W b q => made_c W _ _ 2 none [] 0 0 false q Stk.nil
  have HE : ∀ W, _ := fun W => eq8 W R R
  rw [eqR_refl] at HE
  generalize hW : (w.alloc (.cells #[.int .u32 (R 0 : Int), .int .u32 (R 1 : Int), .int .u32 (R 2 : Int), .int .u32 (R 3 : Int), .int .u32 (R 4 : Int), .int .u32 (R 5 : Int), .int .u32 (R 6 : Int), .int .u32 (R 7 : Int)] 23)).alloc (.cells #[.int .u32 2281701457, .int .u32 2415919104] 22) = W0
  have KR : Hid (Blk W0 w.heap.size 23 #[.int .u32 (R 0 : Int), .int .u32 (R 1 : Int), .int .u32 (R 2 : Int), .int .u32 (R 3 : Int), .int .u32 (R 4 : Int), .int .u32 (R 5 : Int), .int .u32 (R 6 : Int), .int .u32 (R 7 : Int)]) := Lib.hid (hW ▸ (Blk.new w _ _).alloc _)
  have KC : Hid (Stk W0 (some ⟨w.heap.size + 1, 0, none⟩) [2281701457, 2415919104]) := Lib.hid (by
    have K := Blk.new (w.alloc (.cells #[.int .u32 (R 0 : Int), .int .u32 (R 1 : Int), .int .u32 (R 2 : Int), .int .u32 (R 3 : Int), .int .u32 (R 4 : Int), .int .u32 (R 5 : Int), .int .u32 (R 6 : Int), .int .u32 (R 7 : Int)] 23)) 22 #[.int .u32 2281701457, .int .u32 2415919104]
    have z : (w.alloc (.cells #[.int .u32 (R 0 : Int), .int .u32 (R 1 : Int), .int .u32 (R 2 : Int), .int .u32 (R 3 : Int), .int .u32 (R 4 : Int), .int .u32 (R 5 : Int), .int .u32 (R 6 : Int), .int .u32 (R 7 : Int)] 23)).heap.size = w.heap.size + 1 := by simp
    rw [z, hW] at K
    intro i hi
    refine ⟨w.heap.size + 1, 0, rfl, K.lt, ?_⟩
    rw [Nat.zero_add]
    match i, hi with
    | 0, _ => exact K.cell 0
    | 1, _ => exact K.cell 1)
  have B0 : Hid (Below w.heap.size w W0) := Lib.hid (hW ▸ ((Below.refl _ w).alloc (Nat.le_refl _) _).alloc (by simp) _)
  have Z0 : Hid (W0.heap.size = w.heap.size + 2) := Lib.hid (hW ▸ by simp)
  have htm : Int.tmod (deep : Int) 18 = (n : Int) := by rw [Int.tmod_eq_emod_of_nonneg (by omega)]; omega
  have hdz : (deep : Int) < 256 := by omega
  have hnz : (n : Int) < 18 := by omega
  have KW := Lib.hid hW
  replace S0 := Lib.hid S0
  replace S1 := Lib.hid S1
  replace S2 := Lib.hid S2
  replace MK := Lib.hid MK
  replace hS := Lib.hid hS
  replace hSl := Lib.hid hSl
  replace hi := Lib.hid hi
  replace hz0 := Lib.hid hz0
  replace hz1 := Lib.hid hz1
  replace hz2 := Lib.hid hz2
  replace HE := Lib.hid HE
  clear f0 f1 hW hk hdp hR
  go_enter Try.func5, Try.ntmps5
  go_wp2_with fail
  (try rw [KW.out])
  refine (MK.out _ _ KC.out).mono ?_
  rintro en w1 ⟨M, g, h, c, d, cd, b0, cb, e0, ce, rfl, LD⟩
  generalize landG 0 = G at S0 S1 S2 LD ⊢
  generalize landT false = T at S0 S1 S2 LD ⊢
  generalize landL [2281701457, 2415919104] [] = L at S0 S1 S2 LD ⊢
  unfold PM.rm
  have KR1 := Lib.hid (KR.out.kept LD.bel)
  have SZ : Hid (w.heap.size + 2 ≤ d ∧ w.heap.size + 2 ≤ M ∧ M < w1.heap.size ∧ g < w1.heap.size ∧ h < w1.heap.size ∧ d < w1.heap.size ∧ w.heap.size + 2 ≤ w1.heap.size) := Lib.hid (by
    have z := Z0.out
    have z1 := LD.ld
    have z2 := LD.lM
    have z3 := LD.bel.size
    exact ⟨by omega, by omega, LD.mem.ten.lt, LD.mem.tab.lt, LD.mem.tab.pgs.lt, LD.mem.wds.lt, by omega⟩)
  go_upto_region 3 with fail
  generalize hX0 : w1.alloc (.cells #[.int .u32 (G 0 : Int), .int .u32 (G 1 : Int), .int .u32 (G 2 : Int), .int .u32 (G 3 : Int), .int .u32 (G 4 : Int), .int .u32 (G 5 : Int), .int .u32 (G 6 : Int), .int .u32 (G 7 : Int), .slice (some ⟨b0, 0, none⟩) T.length cb, .slice (some ⟨e0, 0, none⟩) L.length ce] 40) = X0
  have KR2 : Hid (Blk X0 w.heap.size 23 #[.int .u32 (R 0 : Int), .int .u32 (R 1 : Int), .int .u32 (R 2 : Int), .int .u32 (R 3 : Int), .int .u32 (R 4 : Int), .int .u32 (R 5 : Int), .int .u32 (R 6 : Int), .int .u32 (R 7 : Int)]) := Lib.hid (hX0 ▸ KR1.out.alloc _)
  have M0 : Hid (Mem X0 M g h c d cd G T L) := Lib.hid (hX0 ▸ LD.mem.alloc _)
  have B1 : Hid (Below w.heap.size w X0 ∧ X0.heap.size = w1.heap.size + 1) := Lib.hid (hX0 ▸ ⟨(B0.out.trans (LD.bel.mono B0.out.size)).alloc (Nat.le_trans B0.out.size LD.bel.size) _, by simp⟩)
  (try rw [hX0])
  clear hX0 LD KC KR KR1 B0
  have q0 : X0.cell? ⟨w.heap.size, 0, none⟩ = some (.int .u32 (R 0 : Int)) := KR2.out.cell 0
  have q1 : X0.cell? ⟨w.heap.size, 1, none⟩ = some (.int .u32 (R 1 : Int)) := KR2.out.cell 1
  have q2 : X0.cell? ⟨w.heap.size, 2, none⟩ = some (.int .u32 (R 2 : Int)) := KR2.out.cell 2
  have q3 : X0.cell? ⟨w.heap.size, 3, none⟩ = some (.int .u32 (R 3 : Int)) := KR2.out.cell 3
  have q4 : X0.cell? ⟨w.heap.size, 4, none⟩ = some (.int .u32 (R 4 : Int)) := KR2.out.cell 4
  have q5 : X0.cell? ⟨w.heap.size, 5, none⟩ = some (.int .u32 (R 5 : Int)) := KR2.out.cell 5
  have q6 : X0.cell? ⟨w.heap.size, 6, none⟩ = some (.int .u32 (R 6 : Int)) := KR2.out.cell 6
  have q7 : X0.cell? ⟨w.heap.size, 7, none⟩ = some (.int .u32 (R 7 : Int)) := KR2.out.cell 7
  go_upto_region 5 with fail
  have zx := B1.out.2
  generalize hX1 : X0.alloc (.cells #[.int .u32 80, .int .u32 (R 0 : Int), .int .u32 (R 1 : Int), .int .u32 (R 2 : Int), .int .u32 (R 3 : Int), .int .u32 (R 4 : Int), .int .u32 (R 5 : Int), .int .u32 (R 6 : Int), .int .u32 (R 7 : Int), .slice none 0 0, .int .u8 0, .int .u64 0, .int .u32 0] 28) = X1
  have KH1 : Hid (Blk X1 (w1.heap.size + 1) 28 #[.int .u32 80, .int .u32 (R 0 : Int), .int .u32 (R 1 : Int), .int .u32 (R 2 : Int), .int .u32 (R 3 : Int), .int .u32 (R 4 : Int), .int .u32 (R 5 : Int), .int .u32 (R 6 : Int), .int .u32 (R 7 : Int), .slice none 0 0, .int .u8 0, .int .u64 0, .int .u32 0]) := Lib.hid (by
    have q := Blk.new X0 28 #[.int .u32 80, .int .u32 (R 0 : Int), .int .u32 (R 1 : Int), .int .u32 (R 2 : Int), .int .u32 (R 3 : Int), .int .u32 (R 4 : Int), .int .u32 (R 5 : Int), .int .u32 (R 6 : Int), .int .u32 (R 7 : Int), .slice none 0 0, .int .u8 0, .int .u64 0, .int .u32 0]
    rw [zx, hX1] at q
    exact q)
  have KR3 : Hid (Blk X1 w.heap.size 23 #[.int .u32 (R 0 : Int), .int .u32 (R 1 : Int), .int .u32 (R 2 : Int), .int .u32 (R 3 : Int), .int .u32 (R 4 : Int), .int .u32 (R 5 : Int), .int .u32 (R 6 : Int), .int .u32 (R 7 : Int)]) := Lib.hid (hX1 ▸ KR2.out.alloc _)
  have M1 : Hid (Mem X1 M g h c d cd G T L) := Lib.hid (hX1 ▸ M0.out.alloc _)
  have B2 : Hid (Below w.heap.size w X1) := Lib.hid (hX1 ▸ B1.out.1.alloc B1.out.1.size _)
  (try rw [hX1])
  (try rw [zx])
  clear hX1 zx KR2 M0 B1 q0 q1 q2 q3 q4 q5 q6 q7
  go_wp2_with fail
  go_loopg [10] n (fun gg s10 wr => ∃ kk : Nat, kk ≤ n ∧ n - kk ≤ gg ∧ s10 = .int .i64 (kk : Int) ∧ Hid (∃ v, Blk wr (w1.heap.size + 1) 28 #[.int .u32 80, .int .u32 (R 0 : Int), .int .u32 (R 1 : Int), .int .u32 (R 2 : Int), .int .u32 (R 3 : Int), .int .u32 (R 4 : Int), .int .u32 (R 5 : Int), .int .u32 (R 6 : Int), .int .u32 (R 7 : Int), v, .int .u8 0, .int .u64 0, .int .u32 0] ∧ Own wr X1.heap.size v (St kk) ∧ Upd (w1.heap.size + 1) X1 wr))
  case atStart => exact ⟨0, Nat.zero_le _, by omega, rfl, Lib.hid ⟨.slice none 0 0, KH1.out, ⟨rfl, .inl ⟨rfl, rfl⟩⟩, Upd.refl _ _⟩⟩
  case round =>
    obtain ⟨kk, hkk, hg, rfl, IN⟩ := hrel
    obtain ⟨v, hkh, how, hu⟩ := IN.out
    obtain ⟨sv, cv, rfl, _⟩ := how.form
    rw [St_len] at hkh how
    have KHr := Lib.hid hkh
    have OWr := Lib.hid how
    have UGr := Lib.hid hu
    clear hkh how hu IN
    by_cases hlt : kk < n
    · have hltz : (kk : Int) < (n : Int) := by omega
      have HM : (wr.alloc (.cells #[.int .u32 (90 + (kk : Int))] 22)).ownsRow X1.heap.size 22 1 (.slice sv kk cv) kk (u32s (St kk)) := by
        have := OWr.out.kept ((Below.refl _ wr).alloc (Nat.le_refl _) (.cells #[.int .u32 (90 + (kk : Int))] 22))
        unfold Own at this
        rw [St_len] at this
        exact this
      replace HM := Lib.hid HM
      have BW : Hid (Below X1.heap.size wr (wr.alloc (.cells #[.int .u32 (90 + (kk : Int))] 22))) := Lib.hid ((Below.refl _ wr).alloc UGr.out.size _)
      have KA := Lib.hid (KHr.out.alloc (.cells #[.int .u32 (90 + (kk : Int))] 22))
      have KS := Lib.hid (Blk.new wr 22 #[.int .u32 (90 + (kk : Int))])
      have LA : Hid (X1.heap.size ≤ (wr.alloc (.cells #[.int .u32 (90 + (kk : Int))] 22)).heap.size) := Lib.hid (Nat.le_trans UGr.out.size BW.out.size)
      have r9 : wr.cell? ⟨(w1.heap.size + 1), 9, none⟩ = some (.slice sv kk cv) := KHr.out.cell 9
      have hl9 : (w1.heap.size + 1) < wr.heap.size := KHr.out.lt
      go_wp2_with (at_builtin; refine wpList_append_own _ rfl _ _ 24 rfl X1.heap.size 22 ti (.int .u32 0) 1 4 Try.underlying24 hi.out hz0.out hz1.out hz2.out (by kernel_rfl) (by decide) _ _ _ rfl HM.out ⟨wr.heap.size, 0, none⟩ 1 1 [.int .u32 (90 + (kk : Int))] rfl ?qc1 ?qc2 ?qc3 ?qc4 ?qc5 ?qc6 ?_)
      case qc1 => simp
      case qc2 =>
        intro j u hj
        cases j with
        | zero => simp at hj; subst hj; exact KS.out.cell 0
        | succ j => simp at hj
      case qc3 => intro u hu; simp at hu; subst hu; rfl
      case qc4 => simp [maxLen]; omega
      case qc5 => omega
      case qc6 => exact LA.out
      intro v' w2 hown hgrow hnil
      have ow2 : Own w2 X1.heap.size v' (St (kk + 1)) := by
        rw [St_next]
        unfold Own u32s
        simpa [u32s, St_len] using hown
      have b2 : Below X1.heap.size wr w2 := BW.out.grown hgrow LA.out (fun k hk => (OWr.out.lt k hk).1)
      have z1 := UGr.out.size
      have z2 := KH1.out.lt
      have kh2 : Blk w2 (w1.heap.size + 1) 28 #[.int .u32 80, .int .u32 (R 0 : Int), .int .u32 (R 1 : Int), .int .u32 (R 2 : Int), .int .u32 (R 3 : Int), .int .u32 (R 4 : Int), .int .u32 (R 5 : Int), .int .u32 (R 6 : Int), .int .u32 (R 7 : Int), (.slice sv kk cv), .int .u8 0, .int .u64 0, .int .u32 0] := (b2.block _ z2).trans KHr.out
      obtain ⟨s3, c3, rfl, _⟩ := ow2.form
      rw [St_len] at ow2
      have REL : Hid (∃ v, Blk (w2.setCell ⟨(w1.heap.size + 1), 9, none⟩ (.slice s3 (St (kk + 1)).length c3)) (w1.heap.size + 1) 28 #[.int .u32 80, .int .u32 (R 0 : Int), .int .u32 (R 1 : Int), .int .u32 (R 2 : Int), .int .u32 (R 3 : Int), .int .u32 (R 4 : Int), .int .u32 (R 5 : Int), .int .u32 (R 6 : Int), .int .u32 (R 7 : Int), v, .int .u8 0, .int .u64 0, .int .u32 0] ∧ Own (w2.setCell ⟨(w1.heap.size + 1), 9, none⟩ (.slice s3 (St (kk + 1)).length c3)) X1.heap.size v (St (kk + 1)) ∧ Upd (w1.heap.size + 1) X1 (w2.setCell ⟨(w1.heap.size + 1), 9, none⟩ (.slice s3 (St (kk + 1)).length c3))) := Lib.hid (by
        refine ⟨_, kh2.set_ 9 _, ?_, (UGr.out.then_low b2).setCell 9 _⟩
        rw [St_len]
        exact ow2.upd ((Upd.refl _ w2).setCell 9 _) (fun e => by have := (ow2.lt _ e).1; omega))
      rw [St_len] at REL ⊢
      have t9 : w2.cell? ⟨(w1.heap.size + 1), 9, none⟩ = some (.slice sv kk cv) := kh2.cell 9
      have ft9 : w2.frozen? ⟨(w1.heap.size + 1), 9, none⟩ = false := kh2.frozen 9
      clear hown hgrow hnil b2 z1 z2 kh2 ow2 HM BW KA KS LA r9 hl9 KHr OWr UGr
      go_wp2_with fail
      go_roundg (n - (kk + 1))
      case measure => omega
      case rel => exact ⟨kk + 1, by omega, by omega, by go_num, REL⟩
    · have hltz : ¬ (kk : Int) < (n : Int) := by omega
      have hkn : kk = n := by omega
      subst hkn
      have B3 := Lib.hid (UGr.out.below B2.out (by have := SZ.out; omega))
      have M2 := Lib.hid (M1.out.upd9 UGr.out (by have := SZ.out; omega) (by have := SZ.out; omega) (by have := SZ.out; omega) (by have := SZ.out; omega))
      have KRr := Lib.hid (UGr.out.blk KR3.out (by have := SZ.out; omega))
      have OS : Hid (Own wr X1.heap.size (.slice sv kk cv) S) := Lib.hid (by rw [hS.out]; exact OWr.out)
      have OD : Hid ((w1.heap.size + 1) ≠ d ∧ w.heap.size ≠ d ∧ (w1.heap.size + 1) < wr.heap.size) := Lib.hid (by have := SZ.out; have := KHr.out.lt; omega)
      have t0 : wr.cell? ⟨(w1.heap.size + 1), 0, none⟩ = some (.int .u32 80) := KHr.out.cell 0
      have t1 : wr.cell? ⟨(w1.heap.size + 1), 1, none⟩ = some (.int .u32 (R 0 : Int)) := KHr.out.cell 1
      have t2 : wr.cell? ⟨(w1.heap.size + 1), 2, none⟩ = some (.int .u32 (R 1 : Int)) := KHr.out.cell 2
      have t3 : wr.cell? ⟨(w1.heap.size + 1), 3, none⟩ = some (.int .u32 (R 2 : Int)) := KHr.out.cell 3
      have t4 : wr.cell? ⟨(w1.heap.size + 1), 4, none⟩ = some (.int .u32 (R 3 : Int)) := KHr.out.cell 4
      have t5 : wr.cell? ⟨(w1.heap.size + 1), 5, none⟩ = some (.int .u32 (R 4 : Int)) := KHr.out.cell 5
      have t6 : wr.cell? ⟨(w1.heap.size + 1), 6, none⟩ = some (.int .u32 (R 5 : Int)) := KHr.out.cell 6
      have t7 : wr.cell? ⟨(w1.heap.size + 1), 7, none⟩ = some (.int .u32 (R 6 : Int)) := KHr.out.cell 7
      have t8 : wr.cell? ⟨(w1.heap.size + 1), 8, none⟩ = some (.int .u32 (R 7 : Int)) := KHr.out.cell 8
      have t9 : wr.cell? ⟨(w1.heap.size + 1), 9, none⟩ = some (.slice sv kk cv) := KHr.out.cell 9
      have t10 : wr.cell? ⟨(w1.heap.size + 1), 10, none⟩ = some (.int .u8 0) := KHr.out.cell 10
      have t11 : wr.cell? ⟨(w1.heap.size + 1), 11, none⟩ = some (.int .u64 0) := KHr.out.cell 11
      have t12 : wr.cell? ⟨(w1.heap.size + 1), 12, none⟩ = some (.int .u32 0) := KHr.out.cell 12
      clear OWr UGr KR3 M1 B2 KH1
      by_cases h16 : kk < 16
      · have S1' := Lib.hid (S1.out h16)
        have h16z : ¬ (16 : Int) ≤ (kk : Int) := by omega
        have hm16 : (kk : Int) < 16 := by omega
        go_wp2_with fail
        refine (S1'.out _ _ _ _ _ _ _ _ _ M2.out OS.out.stkn).mono ?_
        rintro en w2 ⟨sa, ca, rfl, ow2, m2, u2⟩
        have B4 := Lib.hid (u2.below B3.out (by have := SZ.out; omega))
        have KR4 := Lib.hid (u2.blk KRr.out OD.out.2.1)
        have O2 := Lib.hid ow2
        obtain ⟨ga, c5, e5, _⟩ := ow2.form_pos (by simp)
        have l2 : (S ++ [81]).length = kk + 1 := by simp [hSl.out]
        rw [l2] at e5
        injection e5 with e6 e7 e8
        subst e6 e8
        have cl : Hid (w2.cell? ⟨ga, kk, none⟩ = some (.int .u32 81)) := Lib.hid (by
          have ow3 := ow2
          rw [← l2] at ow3
          have q := ow3.cell (g := ga) (cap := ca) kk (by rw [l2]; omega)
          rw [← hSl.out, bang_last] at q
          rw [← hSl.out]
          exact q)
        have gl := (O2.out.lt ga rfl).2
        have L2 : Hid ((w1.heap.size + 1) < w2.heap.size ∧ ga < w2.heap.size) := Lib.hid ⟨Nat.lt_of_lt_of_le OD.out.2.2 u2.size, gl⟩
        have M3 := Lib.hid m2
        clear ow2 e7 m2 u2 gl l2 t0 t1 t2 t3 t4 t5 t6 t7 t8 t9 t10 t11 t12 KHr
        go_upto_region 10 with fail
        generalize hX2 : (w2.alloc (.cells #[.int .u32 81, .int .u32 (R 0 : Int), .int .u32 (R 1 : Int), .int .u32 (R 2 : Int), .int .u32 (R 3 : Int), .int .u32 (R 4 : Int), .int .u32 (R 5 : Int), .int .u32 (R 6 : Int), .int .u32 (R 7 : Int), .slice (some ⟨ga, 0, none⟩) (kk + 1) ca, .int .u8 0, .int .u64 0, .int .u32 0] 28)).alloc (.cells #[.bool false, .bool false, .int .u32 0, .int .u32 0] 46) = X2
        have BX : Hid (Below w2.heap.size w2 X2) := Lib.hid (hX2 ▸ ((Below.refl _ w2).alloc (Nat.le_refl _) _).alloc (by simp) _)
        have KX : Hid (Blk X2 w2.heap.size 28 #[.int .u32 81, .int .u32 (R 0 : Int), .int .u32 (R 1 : Int), .int .u32 (R 2 : Int), .int .u32 (R 3 : Int), .int .u32 (R 4 : Int), .int .u32 (R 5 : Int), .int .u32 (R 6 : Int), .int .u32 (R 7 : Int), .slice (some ⟨ga, 0, none⟩) (kk + 1) ca, .int .u8 0, .int .u64 0, .int .u32 0]) := Lib.hid (hX2 ▸ (Blk.new w2 _ _).alloc _)
        (try rw [hX2])
        clear hX2
        have KR5 := Lib.hid (KR4.out.kept BX.out)
        have O3 := Lib.hid (O2.out.kept BX.out)
        have M4 := Lib.hid (M3.out.kept BX.out)
        have B5 := Lib.hid (B4.out.trans (BX.out.mono B4.out.size))
        have cx : X2.cell? ⟨ga, kk, none⟩ = some (.int .u32 81) := (BX.out.cell (p := ⟨ga, kk, none⟩) L2.out.2).trans cl.out
        have hca : kk + 1 ≤ ca := by
          obtain ⟨s7, c7, e9, hc7⟩ := O3.out.form
          injection e9 with _ _ e9
          have : (S ++ [81]).length = kk + 1 := by simp [hSl.out]
          omega
        have x0 : X2.cell? ⟨w2.heap.size, 0, none⟩ = some (.int .u32 81) := KX.out.cell 0
        have x1 : X2.cell? ⟨w2.heap.size, 1, none⟩ = some (.int .u32 (R 0 : Int)) := KX.out.cell 1
        have x2 : X2.cell? ⟨w2.heap.size, 2, none⟩ = some (.int .u32 (R 1 : Int)) := KX.out.cell 2
        have x3 : X2.cell? ⟨w2.heap.size, 3, none⟩ = some (.int .u32 (R 2 : Int)) := KX.out.cell 3
        have x4 : X2.cell? ⟨w2.heap.size, 4, none⟩ = some (.int .u32 (R 3 : Int)) := KX.out.cell 4
        have x5 : X2.cell? ⟨w2.heap.size, 5, none⟩ = some (.int .u32 (R 4 : Int)) := KX.out.cell 5
        have x6 : X2.cell? ⟨w2.heap.size, 6, none⟩ = some (.int .u32 (R 5 : Int)) := KX.out.cell 6
        have x7 : X2.cell? ⟨w2.heap.size, 7, none⟩ = some (.int .u32 (R 6 : Int)) := KX.out.cell 7
        have x8 : X2.cell? ⟨w2.heap.size, 8, none⟩ = some (.int .u32 (R 7 : Int)) := KX.out.cell 8
        have x9 : X2.cell? ⟨w2.heap.size, 9, none⟩ = some (.slice (some ⟨ga, 0, none⟩) (kk + 1) ca) := KX.out.cell 9
        have x10 : X2.cell? ⟨w2.heap.size, 10, none⟩ = some (.int .u8 0) := KX.out.cell 10
        have x11 : X2.cell? ⟨w2.heap.size, 11, none⟩ = some (.int .u64 0) := KX.out.cell 11
        have x12 : X2.cell? ⟨w2.heap.size, 12, none⟩ = some (.int .u32 0) := KX.out.cell 12
        clear KR4 O2 M3 B4 cl
        go_wp2_with fail
        refine (S2.out _ _ _ _ _ _ _ _ _ M4.out O3.out.stkn).mono ?_
        rintro en w3 ⟨sb, cb3, rfl, ow3, m3, u3⟩
        have B6 := Lib.hid (u3.below B5.out (by have := SZ.out; omega))
        have KR6 := Lib.hid (u3.blk KR5.out OD.out.2.1)
        clear ow3 m3 u3 x0 x1 x2 x3 x4 x5 x6 x7 x8 x9 x10 x11 x12 KX cx B5 M4 O3 KR5
        go_upto_region 15 with fail
        generalize hX3 : (w3.alloc (.cells #[.int .u32 81, .int .u32 (R 0 : Int), .int .u32 (R 1 : Int), .int .u32 (R 2 : Int), .int .u32 (R 3 : Int), .int .u32 (R 4 : Int), .int .u32 (R 5 : Int), .int .u32 (R 6 : Int), .int .u32 (R 7 : Int), .slice sb kk cb3, .int .u8 0, .int .u64 0, .int .u32 0] 28)).alloc (.cells #[.bool false, .bool false, .int .u32 0, .int .u32 0] 46) = X3
        have BX3 : Hid (Below w3.heap.size w3 X3) := Lib.hid (hX3 ▸ ((Below.refl _ w3).alloc (Nat.le_refl _) _).alloc (by simp) _)
        have KY : Hid (Blk X3 w3.heap.size 28 #[.int .u32 81, .int .u32 (R 0 : Int), .int .u32 (R 1 : Int), .int .u32 (R 2 : Int), .int .u32 (R 3 : Int), .int .u32 (R 4 : Int), .int .u32 (R 5 : Int), .int .u32 (R 6 : Int), .int .u32 (R 7 : Int), .slice sb kk cb3, .int .u8 0, .int .u64 0, .int .u32 0]) := Lib.hid (hX3 ▸ (Blk.new w3 _ _).alloc _)
        (try rw [hX3])
        clear hX3
        have KR7 := Lib.hid (KR6.out.kept BX3.out)
        have B7 := Lib.hid (B6.out.trans (BX3.out.mono B6.out.size))
        have y0 : X3.cell? ⟨w3.heap.size, 0, none⟩ = some (.int .u32 81) := KY.out.cell 0
        have y1 : X3.cell? ⟨w3.heap.size, 1, none⟩ = some (.int .u32 (R 0 : Int)) := KY.out.cell 1
        have y2 : X3.cell? ⟨w3.heap.size, 2, none⟩ = some (.int .u32 (R 1 : Int)) := KY.out.cell 2
        have y3 : X3.cell? ⟨w3.heap.size, 3, none⟩ = some (.int .u32 (R 2 : Int)) := KY.out.cell 3
        have y4 : X3.cell? ⟨w3.heap.size, 4, none⟩ = some (.int .u32 (R 3 : Int)) := KY.out.cell 4
        have y5 : X3.cell? ⟨w3.heap.size, 5, none⟩ = some (.int .u32 (R 4 : Int)) := KY.out.cell 5
        have y6 : X3.cell? ⟨w3.heap.size, 6, none⟩ = some (.int .u32 (R 5 : Int)) := KY.out.cell 6
        have y7 : X3.cell? ⟨w3.heap.size, 7, none⟩ = some (.int .u32 (R 6 : Int)) := KY.out.cell 7
        have y8 : X3.cell? ⟨w3.heap.size, 8, none⟩ = some (.int .u32 (R 7 : Int)) := KY.out.cell 8
        have y9 : X3.cell? ⟨w3.heap.size, 9, none⟩ = some (.slice sb kk cb3) := KY.out.cell 9
        have y10 : X3.cell? ⟨w3.heap.size, 10, none⟩ = some (.int .u8 0) := KY.out.cell 10
        have y11 : X3.cell? ⟨w3.heap.size, 11, none⟩ = some (.int .u64 0) := KY.out.cell 11
        have y12 : X3.cell? ⟨w3.heap.size, 12, none⟩ = some (.int .u32 0) := KY.out.cell 12
        have q0 : X3.cell? ⟨w.heap.size, 0, none⟩ = some (.int .u32 (R 0 : Int)) := KR7.out.cell 0
        have q1 : X3.cell? ⟨w.heap.size, 1, none⟩ = some (.int .u32 (R 1 : Int)) := KR7.out.cell 1
        have q2 : X3.cell? ⟨w.heap.size, 2, none⟩ = some (.int .u32 (R 2 : Int)) := KR7.out.cell 2
        have q3 : X3.cell? ⟨w.heap.size, 3, none⟩ = some (.int .u32 (R 3 : Int)) := KR7.out.cell 3
        have q4 : X3.cell? ⟨w.heap.size, 4, none⟩ = some (.int .u32 (R 4 : Int)) := KR7.out.cell 4
        have q5 : X3.cell? ⟨w.heap.size, 5, none⟩ = some (.int .u32 (R 5 : Int)) := KR7.out.cell 5
        have q6 : X3.cell? ⟨w.heap.size, 6, none⟩ = some (.int .u32 (R 6 : Int)) := KR7.out.cell 6
        have q7 : X3.cell? ⟨w.heap.size, 7, none⟩ = some (.int .u32 (R 7 : Int)) := KR7.out.cell 7
        have he := HE.out
        go_wp2_with fail
        refine (awake09_c _).mono ?_
        rintro en w9 ⟨rfl, hb⟩
        have B8 := Lib.hid (B7.out.trans (hb.mono B7.out.size))
        clear hb he
        go_wp2_with fail
        go_ret
        exact ⟨rfl, B8.out⟩
      · have S0' := Lib.hid (S0.out h16)
        have h16z : (16 : Int) ≤ (kk : Int) := by omega
        go_wp2_with fail
        refine (S0'.out _ _ _ _ _ _ _ _ _ M2.out OS.out.stkn).mono ?_
        rintro en w2 ⟨sa, ca, rfl, ow2, m2, u2⟩
        have B4 := Lib.hid (u2.below B3.out (by have := SZ.out; omega))
        clear ow2 m2 u2 t0 t1 t2 t3 t4 t5 t6 t7 t8 t9 t10 t11 t12
        go_upto_region 10 with fail
        generalize hX2 : (w2.alloc (.cells #[.int .u32 80, .int .u32 (R 0 : Int), .int .u32 (R 1 : Int), .int .u32 (R 2 : Int), .int .u32 (R 3 : Int), .int .u32 (R 4 : Int), .int .u32 (R 5 : Int), .int .u32 (R 6 : Int), .int .u32 (R 7 : Int), .slice sa kk ca, .int .u8 6, .int .u64 0, .int .u32 0] 28)).alloc (.cells #[.bool false, .bool false, .int .u32 0, .int .u32 0] 46) = X2
        have KX : Hid (Blk X2 w2.heap.size 28 #[.int .u32 80, .int .u32 (R 0 : Int), .int .u32 (R 1 : Int), .int .u32 (R 2 : Int), .int .u32 (R 3 : Int), .int .u32 (R 4 : Int), .int .u32 (R 5 : Int), .int .u32 (R 6 : Int), .int .u32 (R 7 : Int), .slice sa kk ca, .int .u8 6, .int .u64 0, .int .u32 0]) := Lib.hid (hX2 ▸ (Blk.new w2 _ _).alloc _)
        have B5 : Hid (Below w.heap.size w X2) := Lib.hid (hX2 ▸ (B4.out.alloc B4.out.size _).alloc (by have := B4.out.size; simp; omega) _)
        (try rw [hX2])
        clear hX2
        have x0 : X2.cell? ⟨w2.heap.size, 0, none⟩ = some (.int .u32 80) := KX.out.cell 0
        have x1 : X2.cell? ⟨w2.heap.size, 1, none⟩ = some (.int .u32 (R 0 : Int)) := KX.out.cell 1
        have x2 : X2.cell? ⟨w2.heap.size, 2, none⟩ = some (.int .u32 (R 1 : Int)) := KX.out.cell 2
        have x3 : X2.cell? ⟨w2.heap.size, 3, none⟩ = some (.int .u32 (R 2 : Int)) := KX.out.cell 3
        have x4 : X2.cell? ⟨w2.heap.size, 4, none⟩ = some (.int .u32 (R 3 : Int)) := KX.out.cell 4
        have x5 : X2.cell? ⟨w2.heap.size, 5, none⟩ = some (.int .u32 (R 4 : Int)) := KX.out.cell 5
        have x6 : X2.cell? ⟨w2.heap.size, 6, none⟩ = some (.int .u32 (R 5 : Int)) := KX.out.cell 6
        have x7 : X2.cell? ⟨w2.heap.size, 7, none⟩ = some (.int .u32 (R 6 : Int)) := KX.out.cell 7
        have x8 : X2.cell? ⟨w2.heap.size, 8, none⟩ = some (.int .u32 (R 7 : Int)) := KX.out.cell 8
        have x9 : X2.cell? ⟨w2.heap.size, 9, none⟩ = some (.slice sa kk ca) := KX.out.cell 9
        have x10 : X2.cell? ⟨w2.heap.size, 10, none⟩ = some (.int .u8 6) := KX.out.cell 10
        have x11 : X2.cell? ⟨w2.heap.size, 11, none⟩ = some (.int .u64 0) := KX.out.cell 11
        have x12 : X2.cell? ⟨w2.heap.size, 12, none⟩ = some (.int .u32 0) := KX.out.cell 12
        go_wp2_with fail
        refine (awake09_c _).mono ?_
        rintro en w9 ⟨rfl, hb⟩
        have B8 := Lib.hid (B5.out.trans (hb.mono B5.out.size))
        clear hb
        go_wp2_with fail
        go_ret
        exact ⟨rfl, B8.out⟩
end Go.Proofs.Ythnbdeibjbicpaa.PM
