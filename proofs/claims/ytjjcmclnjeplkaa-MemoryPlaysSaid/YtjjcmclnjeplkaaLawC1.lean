/- law06: the closed case (awake). No condition. -/
import Derived.Test.YtjjcmclnjeplkaaRef4
import Derived.Test.YtjjcmclnjeplkaaRef5
import Derived.Test.YtjjcmclnjeplkaaPage1
set_option linter.unusedSimpArgs false
namespace Go.Proofs.Ytjjcmclnjeplkaa.PM
set_option linter.unusedVariables false
open Go.RowKit
set_option maxHeartbeats 4000000 in
theorem awake06_c (w : World) : Calls Try.prog 21 #[] w fun e w' => e = .returned (.bool true) ∧ Below w.heap.size w w' := by
  have HE := fun W => P1.eqPg W 2 true false 7 0 2 true false 7 0
  simp only [show P1.eqP 2 true false 7 0 2 true false 7 0 = true from rfl] at HE
  go_enter Try.func21, Try.ntmps21
  go_wp2_with fail
  refine (new_c w 4).mono ?_
  rintro e w1 ⟨g, h, c, rfl, hg, hh, t, hb⟩
  have S : Calls Try.prog 23 #[.pointer (some ⟨g, 0, none⟩), .int .i64 1, .int .i64 2, .int .u16 7] w1 fun e w' => e = .returned (.int .i64 0) ∧ Tab w' g h c [nz, stg 7, stg 7, nz] ∧ Upd h w1 w' := stage_c w1 g h c _ t 1 2 7
  have HS := Lib.hid S
  have B1 := Lib.hid hb
  have HH := Lib.hid hh
  clear t hb S hg hh
  go_wp2_with fail
  refine HS.out.mono ?_
  rintro e w2 ⟨rfl, t, hu⟩
  have S : Calls Try.prog 24 #[.pointer (some ⟨g, 0, none⟩), .int .u16 7, .int .i64 1] w2 fun e w' => e = .returned (.int .i64 0) ∧ Tab w' g h c [nz, ⟨2, true, false, 7, 0⟩, ⟨2, false, true, 7, 0⟩, nz] ∧ Upd h w2 w' := pub_c w2 g h c _ t 7 1
  have HS := Lib.hid S
  have B2 := Lib.hid (hu.below B1.out HH.out)
  clear t hu S B1
  go_wp2_with fail
  refine HS.out.mono ?_
  rintro e w3 ⟨rfl, t, hu⟩
  have S : Calls Try.prog 27 #[.pointer (some ⟨g, 0, none⟩), .int .i64 1] w3 fun e w' => e = .returned (.agg #[.int .u8 2, .bool true, .bool false, .int .u16 7, .int .u64 0]) ∧ Below w3.heap.size w3 w' := get_c w3 g h c _ t 1
  have T3 := Lib.hid t
  have HS := Lib.hid S
  have B3 := Lib.hid (hu.below B2.out HH.out)
  clear t hu S B2
  go_wp2_with fail
  refine HS.out.mono ?_
  rintro e w4 ⟨rfl, hb⟩
  have t := T3.out.kept hb
  have B4 := Lib.hid (B3.out.trans (hb.mono B3.out.size))
  have S : Calls Try.prog 23 #[.pointer (some ⟨g, 0, none⟩), .int .i64 2, .int .i64 1, .int .u16 8] w4 fun e w' => e = .returned (.int .i64 9) ∧ Tab w' g h c [nz, ⟨2, true, false, 7, 0⟩, ⟨2, false, true, 7, 0⟩, nz] ∧ Upd h w4 w' := stage_c w4 g h c _ t 2 1 8
  have HS := Lib.hid S
  clear t hb S B3 T3
  go_wp2_with fail
  refine HS.out.mono ?_
  rintro e w5 ⟨rfl, t, hu⟩
  have S : Calls Try.prog 25 #[.pointer (some ⟨g, 0, none⟩), .int .u16 7, .int .u64 3] w5 fun e w' => e = .returned (.int .i64 0) ∧ Tab w' g h c [nz, ⟨3, true, false, 7, 3⟩, ⟨3, false, true, 7, 3⟩, nz] ∧ Upd h w5 w' := ret_c w5 g h c _ t 7 3
  have HS := Lib.hid S
  have B5 := Lib.hid (hu.below B4.out HH.out)
  clear t hu S B4
  go_wp2_with fail
  refine HS.out.mono ?_
  rintro e w6 ⟨rfl, t, hu⟩
  have S : ∀ W, Below w6.heap.size w6 W → Calls Try.prog 27 #[.pointer (some ⟨g, 0, none⟩), .int .i64 1] W fun e w' => e = .returned (.agg #[.int .u8 3, .bool true, .bool false, .int .u16 7, .int .u64 3]) ∧ Below W.heap.size W w' := fun W hb => get_c W g h c _ (t.kept hb) 1
  have HS := Lib.hid S
  have B6 := Lib.hid (hu.below B5.out HH.out)
  have R2 : ∀ W, Calls Try.prog 17 #[.agg #[.int .u8 3, .bool true, .bool false, .int .u16 7, .int .u64 3], .int .u64 2] W fun e w' => e = .returned (.bool true) ∧ Below W.heap.size W w' := fun W => P1.runs_c 3 true false 7 3 2 W
  have R3 : ∀ W, Calls Try.prog 17 #[.agg #[.int .u8 3, .bool true, .bool false, .int .u16 7, .int .u64 3], .int .u64 3] W fun e w' => e = .returned (.bool false) ∧ Below W.heap.size W w' := fun W => P1.runs_c 3 true false 7 3 3 W
  have R2 := Lib.hid R2
  have R3 := Lib.hid R3
  clear t hu S B5
  go_wp2_with fail
  refine (HS.out _ (Below.refl _ _)).mono ?_
  rintro e w7 ⟨rfl, hb7⟩
  have B7 := Lib.hid hb7
  clear hb7
  go_wp2_with fail
  refine (R2.out _).mono ?_
  rintro e w8 ⟨rfl, hb8⟩
  have B8 := Lib.hid (B7.out.trans (hb8.mono B7.out.size))
  clear hb8
  go_wp2_with fail
  refine (HS.out _ B8.out).mono ?_
  rintro e w9 ⟨rfl, hb9⟩
  have B9 := Lib.hid (B8.out.trans (hb9.mono B8.out.size))
  clear hb9
  go_wp2_with fail
  refine (R3.out _).mono ?_
  rintro e w10 ⟨rfl, hb10⟩
  have B10 := Lib.hid (B6.out.trans ((B9.out.trans (hb10.mono B9.out.size)).mono B6.out.size))
  clear hb10
  go_wp2_with fail
  go_ret
  exact ⟨rfl, B10.out⟩
end Go.Proofs.Ytjjcmclnjeplkaa.PM
