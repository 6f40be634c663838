/- MemoryBack walked. No condition. -/
import Derived.Test.YtjjcmclnjeplkaaLawM1
namespace Go.Proofs.Ytjjcmclnjeplkaa.PM
set_option linter.unusedVariables false
open Go.RowKit
theorem pageOf_2 (y : Nat) (h : y < 16) : pageOf (112 + y) = 2 := by
  unfold pageOf
  rw [if_neg (by omega)]; omega
theorem pageOf_1 (y : Nat) (h : y < 16) : pageOf (96 + y) = 1 := by
  unfold pageOf
  rw [if_neg (by omega)]; omega
theorem peek_set (G : Nat → Nat) (L : List Nat) (y v : Nat) (hL : L.length = 64) (h : y < 16) : peekM G (L.set (112 + y - 80) v) (112 + y) = v := by
  unfold peekM
  rw [if_neg (by omega), if_neg (by omega), if_pos (by rw [List.length_set]; omega), nat_set _ _ _ _ (by omega), if_pos rfl]
def Tb (s1 s2 e : Nat) : List Page := [nz, ⟨s1, true, false, 5, e⟩, ⟨s2, false, true, 5, e⟩, nz]
set_option maxRecDepth 100000 in
set_option maxHeartbeats 8000000 in
theorem law_back (at_ v e0 e1 : Nat) (w : World) (hat : at_ < 256) (hv : v < 4294967296) :
    Calls Try.prog 10 #[.int .u8 (at_ : Int), .int .u32 (v : Int), .agg #[.int .u64 (e0 : Int), .int .u64 (e1 : Int)]] w fun e w' => e = .returned (.bool true) ∧ Below w.heap.size w w' := by
  obtain ⟨y, hm, hy⟩ : ∃ y : Nat, Int.tmod (at_ : Int) 16 = (y : Int) ∧ y < 16 := ⟨at_ % 16, by rw [Int.tmod_eq_emod_of_nonneg (by omega)]; omega, by omega⟩
  have hyz : (y : Int) < 16 := by omega
  have NC := Lib.hid (fun W => newmem_c W 4)
  go_enter Try.func10, Try.ntmps10
  go_wp2_with fail
  go_quiet (fail)
  go_wp2_with fail
  refine (NC.out _).mono ?_
  rintro e w1 ⟨M, g, h, c, d, cd, rfl, hM, hg, hh, hd, m, hb⟩
  have m : Mem w1 M g h c d cd (fun _ => 0) [nz, nz, nz, nz] (List.replicate 64 0) := m
  have HM : Hid (w.heap.size ≤ h ∧ w.heap.size ≤ d) := Lib.hid (by
    have h1 : w.heap.size + 1 ≤ h := by simpa using hh
    have h2 : w.heap.size + 1 ≤ d := by simpa using hd
    exact ⟨by omega, by omega⟩)
  have M1 := Lib.hid m
  have B1 : Hid (Below w.heap.size w w1) := Lib.hid ((below_drewN ((Below.refl _ w).alloc (Nat.le_refl _) _) _).trans (hb.mono (by simp)))
  have PG := Lib.hid (pages_c m)
  clear m hb hM hg hh hd
  go_wp2_with fail
  refine PG.out.mono ?_
  rintro e w2 ⟨rfl, rfl⟩
  have ST : Calls Try.prog 23 #[.pointer (some ⟨g, 0, none⟩), .int .i64 1, .int .i64 2, .int .u16 5] w2 fun e w' => e = .returned (.int .i64 0) ∧ Tab w' g h c [nz, stg 5, stg 5, nz] ∧ Upd h w2 w' := stage_c w2 g h c _ M1.out.tab 1 2 5
  have ST := Lib.hid ST
  go_wp2_with fail
  refine ST.out.mono ?_
  rintro e w3 ⟨rfl, t3, u3⟩
  have M3 := Lib.hid (M1.out.table t3 u3 rfl)
  have B3 := Lib.hid (u3.below B1.out HM.out.1)
  have PG := Lib.hid (pages_c M3.out)
  clear t3 u3 ST
  go_wp2_with fail
  refine PG.out.mono ?_
  rintro e w4 ⟨rfl, rfl⟩
  have PB : Calls Try.prog 24 #[.pointer (some ⟨g, 0, none⟩), .int .u16 5, .int .i64 1] w4 fun e w' => e = .returned (.int .i64 0) ∧ Tab w' g h c (Tb 2 2 0) ∧ Upd h w4 w' := pub_c w4 g h c _ M3.out.tab 5 1
  have PB := Lib.hid PB
  go_wp2_with fail
  refine PB.out.mono ?_
  rintro e w5 ⟨rfl, t5, u5⟩
  have M5 := Lib.hid (M3.out.table t5 u5 rfl)
  have B5 := Lib.hid (u5.below B3.out HM.out.1)
  clear t5 u5 PB M3 M1 B1 B3
  have gp2 : ∀ s1 s2 e, getP (Tb s1 s2 e) 2 = ⟨s2, false, true, 5, e⟩ := fun _ _ _ => rfl
  have gp1 : ∀ s1 s2 e, getP (Tb s1 s2 e) 1 = ⟨s1, true, false, 5, e⟩ := fun _ _ _ => rfl
  have w25 : wrB ⟨2, false, true, 5, 0⟩ e0 5 = true := rfl
  have w24 : wrB ⟨2, false, true, 5, 0⟩ e0 4 = false := rfl
  have w15 : wrB ⟨2, true, false, 5, 0⟩ e0 5 = false := rfl
  have hsee : ∀ e, P1.see 3 e0 e = decide (e0 < e) := fun e => by unfold P1.see; simp
  have w35 : wrB ⟨3, false, true, 5, e1⟩ e0 5 = decide (e0 < e1) := by unfold wrB; rw [hsee]; rfl
  have HW := Lib.hid (And.intro w25 (And.intro w24 (And.intro w15 w35)))
  clear w25 w24 w15 w35
  have S1 : Calls Try.prog 43 #[.pointer (some ⟨M, 0, none⟩), .int .u32 (112 + (y : Int)), .int .u32 (v : Int), .int .u64 (e0 : Int), .int .u16 5] w5 fun e w' => e = .returned (.bool true) ∧ Mem w' M g h c d cd (fun _ => 0) (Tb 2 2 0) ((List.replicate 64 0).set (112 + y - 80) v) ∧ Upd d w5 w' := by
    have := store_c M5.out (112 + y) v e0 5 (by omega)
    unfold storeM at this
    rw [pageOf_2 y hy, gp2, HW.out.1, if_pos rfl] at this
    exact this
  have S1 := Lib.hid S1
  go_wp2_with fail
  refine S1.out.mono ?_
  rintro e w6 ⟨rfl, m6, u6⟩
  have hL6 : ((List.replicate 64 0).set (112 + y - 80) v).length = 64 := by simp
  have pk6 : peekM (fun _ => 0) ((List.replicate 64 0).set (112 + y - 80) v) (112 + y) = v := peek_set _ _ y v (by simp) hy
  generalize (List.replicate 64 0).set (112 + y - 80) v = L6 at m6 hL6 pk6
  have M6 := Lib.hid m6
  have B6 := Lib.hid (u6.below B5.out HM.out.2)
  have HL6 := Lib.hid hL6
  have PK6 := Lib.hid pk6
  clear m6 u6 S1 B5 M5 hL6 pk6
  have LD : Calls Try.prog 44 #[.pointer (some ⟨M, 0, none⟩), .int .u32 (112 + (y : Int)), .int .u64 (e0 : Int)] w6 fun e w' => e = .returned (.tuple #[.int .u32 (v : Int), .bool true]) ∧ Below w6.heap.size w6 w' := by
    have := load_c M6.out (112 + y) e0 (by omega)
    unfold loadM at this
    rw [pageOf_2 y hy, gp2, if_neg (by rintro ⟨_, q⟩; cases q), PK6.out] at this
    exact this
  have LD := Lib.hid LD
  go_wp2_with fail
  refine LD.out.mono ?_
  rintro e w7 ⟨rfl, hb⟩
  have M7 := Lib.hid (M6.out.kept hb)
  have B7 := Lib.hid (B6.out.trans (hb.mono B6.out.size))
  clear hb LD M6 B6
  have FC : Calls Try.prog 45 #[.pointer (some ⟨M, 0, none⟩), .int .u32 (112 + (y : Int)), .int .u64 (e0 : Int)] w7 fun e w' => e = .returned (.tuple #[.int .u32 0, .int .u16 0, .bool false]) ∧ Below w7.heap.size w7 w' := by
    have := fetch_c M7.out (112 + y) e0 (by omega)
    unfold fetchM at this
    rw [pageOf_2 y hy, gp2, if_neg (by omega), if_neg (by rw [Bool.false_and]; decide)] at this
    exact this
  have FC := Lib.hid FC
  go_wp2_with fail
  refine FC.out.mono ?_
  rintro e w8 ⟨rfl, hb⟩
  have M8 := Lib.hid (M7.out.kept hb)
  have B8 := Lib.hid (B7.out.trans (hb.mono B7.out.size))
  clear hb FC M7 B7
  have S2 : Calls Try.prog 43 #[.pointer (some ⟨M, 0, none⟩), .int .u32 (112 + (y : Int)), .int .u32 0, .int .u64 (e0 : Int), .int .u16 4] w8 fun e w' => e = .returned (.bool false) ∧ Mem w' M g h c d cd (fun _ => 0) (Tb 2 2 0) L6 ∧ Upd d w8 w' := by
    have := store_c M8.out (112 + y) 0 e0 4 (by omega)
    unfold storeM at this
    rw [pageOf_2 y hy, gp2, HW.out.2.1, if_neg (by decide)] at this
    exact this
  have S2 := Lib.hid S2
  go_wp2_with fail
  refine S2.out.mono ?_
  rintro e w9 ⟨rfl, m9, u9⟩
  have M9 := Lib.hid m9
  have B9 := Lib.hid (u9.below B8.out HM.out.2)
  clear m9 u9 S2 M8 B8
  have S3 : Calls Try.prog 43 #[.pointer (some ⟨M, 0, none⟩), .int .u32 (112 + (y : Int) - 16), .int .u32 0, .int .u64 (e0 : Int), .int .u16 5] w9 fun e w' => e = .returned (.bool false) ∧ Mem w' M g h c d cd (fun _ => 0) (Tb 2 2 0) L6 ∧ Upd d w9 w' := by
    have := store_c M9.out (96 + y) 0 e0 5 (by omega)
    unfold storeM at this
    rw [pageOf_1 y hy, gp1, HW.out.2.2.1, if_neg (by decide), show ((96 + y : Nat) : Int) = 112 + (y : Int) - 16 by omega] at this
    exact this
  have S3 := Lib.hid S3
  go_wp2_with fail
  refine S3.out.mono ?_
  rintro e w10 ⟨rfl, m10, u10⟩
  have M10 := Lib.hid m10
  have B10 := Lib.hid (u10.below B9.out HM.out.2)
  have PG := Lib.hid (pages_c m10)
  clear m10 u10 S3 M9 B9
  go_wp2_with fail
  refine PG.out.mono ?_
  rintro e w11 ⟨rfl, rfl⟩
  have RT : Calls Try.prog 25 #[.pointer (some ⟨g, 0, none⟩), .int .u16 5, .int .u64 (e1 : Int)] w11 fun e w' => e = .returned (.int .i64 0) ∧ Tab w' g h c (Tb 3 3 e1) ∧ Upd h w11 w' := ret_c w11 g h c _ M10.out.tab 5 e1
  have RT := Lib.hid RT
  go_wp2_with fail
  refine RT.out.mono ?_
  rintro e w12 ⟨rfl, t12, u12⟩
  have M12 := Lib.hid (M10.out.table t12 u12 rfl)
  have B12 := Lib.hid (u12.below B10.out HM.out.1)
  clear t12 u12 RT M10 B10
  by_cases hlt : e0 < e1
  · have hltz : (e0 : Int) < (e1 : Int) := by omega
    have LD : Calls Try.prog 44 #[.pointer (some ⟨M, 0, none⟩), .int .u32 (112 + (y : Int)), .int .u64 (e0 : Int)] w12 fun e w' => e = .returned (.tuple #[.int .u32 (v : Int), .bool true]) ∧ Below w12.heap.size w12 w' := by
      have := load_c M12.out (112 + y) e0 (by omega)
      unfold loadM at this
      rw [pageOf_2 y hy, gp2, hsee, if_neg (by simp [hlt]), PK6.out] at this
      exact this
    have LD := Lib.hid LD
    go_wp2_with fail
    refine LD.out.mono ?_
    rintro e w13 ⟨rfl, hb⟩
    have M13 := Lib.hid (M12.out.kept hb)
    have B13 := Lib.hid (B12.out.trans (hb.mono B12.out.size))
    clear hb LD
    have S4 : Calls Try.prog 43 #[.pointer (some ⟨M, 0, none⟩), .int .u32 (112 + (y : Int)), .int .u32 (v : Int), .int .u64 (e0 : Int), .int .u16 5] w13 fun e w' => e = .returned (.bool true) ∧ Mem w' M g h c d cd (fun _ => 0) (Tb 3 3 e1) (L6.set (112 + y - 80) v) ∧ Upd d w13 w' := by
      have := store_c M13.out (112 + y) v e0 5 (by omega)
      unfold storeM at this
      rw [pageOf_2 y hy, gp2, HW.out.2.2.2, decide_eq_true hlt, if_pos rfl] at this
      exact this
    have S4 := Lib.hid S4
    go_wp2_with fail
    refine S4.out.mono ?_
    rintro e w14 ⟨rfl, m14, u14⟩
    have B14 := Lib.hid (u14.below B13.out HM.out.2)
    have P5 : Calls Try.prog 46 #[.pointer (some ⟨M, 0, none⟩), .int .u32 (112 + (y : Int))] w14 fun e w' => e = .returned (.int .u32 (v : Int)) ∧ Below w14.heap.size w14 w' := by
      have := peek_c m14 (112 + y) (by omega)
      rw [peek_set _ _ y v HL6.out hy] at this
      exact this
    have P5 := Lib.hid P5
    clear m14 u14 S4
    go_wp2_with fail
    refine P5.out.mono ?_
    rintro e w15 ⟨rfl, hb⟩
    have B15 := Lib.hid (B14.out.trans (hb.mono B14.out.size))
    clear hb
    go_wp2_with fail
    refine (awake08_c _).mono ?_
    rintro e w16 ⟨rfl, hb⟩
    have B16 := Lib.hid (B15.out.trans (hb.mono B15.out.size))
    clear hb
    go_wp2_with fail
    go_ret
    exact ⟨rfl, B16.out⟩
  · have hltz : ¬ (e0 : Int) < (e1 : Int) := by omega
    have LD : Calls Try.prog 44 #[.pointer (some ⟨M, 0, none⟩), .int .u32 (112 + (y : Int)), .int .u64 (e0 : Int)] w12 fun e w' => e = .returned (.tuple #[.int .u32 0, .bool false]) ∧ Below w12.heap.size w12 w' := by
      have := load_c M12.out (112 + y) e0 (by omega)
      unfold loadM at this
      rw [pageOf_2 y hy, gp2, hsee, if_pos ⟨by omega, by simp [hlt]⟩] at this
      exact this
    have LD := Lib.hid LD
    go_wp2_with fail
    refine LD.out.mono ?_
    rintro e w13 ⟨rfl, hb⟩
    have M13 := Lib.hid (M12.out.kept hb)
    have B13 := Lib.hid (B12.out.trans (hb.mono B12.out.size))
    clear hb LD
    have S4 : Calls Try.prog 43 #[.pointer (some ⟨M, 0, none⟩), .int .u32 (112 + (y : Int)), .int .u32 (v : Int), .int .u64 (e0 : Int), .int .u16 5] w13 fun e w' => e = .returned (.bool false) ∧ Mem w' M g h c d cd (fun _ => 0) (Tb 3 3 e1) L6 ∧ Upd d w13 w' := by
      have := store_c M13.out (112 + y) v e0 5 (by omega)
      unfold storeM at this
      rw [pageOf_2 y hy, gp2, HW.out.2.2.2, decide_eq_false hlt, if_neg (by decide)] at this
      exact this
    have S4 := Lib.hid S4
    go_wp2_with fail
    refine S4.out.mono ?_
    rintro e w14 ⟨rfl, m14, u14⟩
    have B14 := Lib.hid (u14.below B13.out HM.out.2)
    have P5 : Calls Try.prog 46 #[.pointer (some ⟨M, 0, none⟩), .int .u32 (112 + (y : Int))] w14 fun e w' => e = .returned (.int .u32 (v : Int)) ∧ Below w14.heap.size w14 w' := by
      have := peek_c m14 (112 + y) (by omega)
      rw [PK6.out] at this
      exact this
    have P5 := Lib.hid P5
    clear m14 u14 S4
    go_wp2_with fail
    refine P5.out.mono ?_
    rintro e w15 ⟨rfl, hb⟩
    have B15 := Lib.hid (B14.out.trans (hb.mono B14.out.size))
    clear hb
    go_wp2_with fail
    refine (awake08_c _).mono ?_
    rintro e w16 ⟨rfl, hb⟩
    have B16 := Lib.hid (B15.out.trans (hb.mono B15.out.size))
    clear hb
    go_wp2_with fail
    go_ret
    exact ⟨rfl, B16.out⟩
end Go.Proofs.Ytjjcmclnjeplkaa.PM
