/- law08: the closed case (awake). No condition. -/
import Derived.Test.YtjjcmclnjeplkaaMem3
import Derived.Test.YtjjcmclnjeplkaaTab8
set_option linter.unusedSimpArgs false
namespace Go.Proofs.Ytjjcmclnjeplkaa.PM
set_option linter.unusedVariables false
open Go.RowKit
set_option maxRecDepth 100000 in
set_option maxHeartbeats 4000000 in
theorem awake08_c (w : World) : Calls Try.prog 42 #[] w fun e w' => e = .returned (.bool true) ∧ Below w.heap.size w w' := by
  have E := fun W => I6.rencode_ok 21 0 0 0 9 W (by omega) (by omega) (chk_ent 9 (by decide))
  have E : ∀ W : World, Calls Try.prog 48 #[.agg #[.int .u8 21, .int .u8 0, .int .u8 0, .int .u8 0, .int .i32 9]] W fun e w' => e = .returned (.tuple #[.int .u32 2818572297, .int .i64 0]) ∧ Below W.heap.size W w' := E
  have E := Lib.hid E
  go_enter Try.func42, Try.ntmps42
  go_wp2_with fail
  refine (newmem_c w 2).mono ?_
  rintro e w1 ⟨M, g, h, c, d, cd, rfl, hM, hg, hh, hd, m, hb⟩
  have m : Mem w1 M g h c d cd (fun _ => 0) [nz, nz] (List.replicate 32 0) := m
  have HM := Lib.hid (And.intro hM (And.intro hh hd))
  have M1 := Lib.hid m
  have B1 := Lib.hid hb
  clear m hb hM hg hh hd
  go_wp2_with fail
  refine (E.out _).mono ?_
  rintro e w2 ⟨rfl, hb⟩
  have M2 := Lib.hid (M1.out.kept hb)
  have B2 := Lib.hid (B1.out.trans (hb.mono B1.out.size))
  have S : Calls Try.prog 38 #[.pointer (some ⟨M, 0, none⟩)] w2 fun e w' => e = .returned (.int .i64 112) ∧ w' = w2 := size_c M2.out
  have S := Lib.hid S
  have P : Calls Try.prog 46 #[.pointer (some ⟨M, 0, none⟩), .int .u32 9] w2 fun e w' => e = .returned (.int .u32 2818572297) ∧ Below w2.heap.size w2 w' := peek_c M2.out 9 (by decide)
  have P := Lib.hid P
  have PO : ∀ W, Calls Try.prog 36 #[.int .u32 96] W fun e w' => e = .returned (.int .i64 1) ∧ w' = W := fun W => pageof_c W 96 (by decide)
  have PO := Lib.hid PO
  clear hb
  go_wp2_with fail
  refine S.out.mono ?_
  rintro e w3 ⟨rfl, rfl⟩
  go_wp2_with fail
  refine P.out.mono ?_
  rintro e w3 ⟨rfl, hb⟩
  have M3 := Lib.hid (M2.out.kept hb)
  have B3 := Lib.hid (B2.out.trans (hb.mono B2.out.size))
  clear hb
  go_wp2_with fail
  refine (PO.out _).mono ?_
  rintro e w4 ⟨rfl, rfl⟩
  have Q : Calls Try.prog 49 #[.pointer (some ⟨M, 0, none⟩), .int .u32 80, .int .u32 7] w4 fun e w' => e = .returned (.int .i64 9) ∧ Mem w' M g h c d cd (fun _ => 0) [nz, nz] (List.replicate 32 0) ∧ Upd d w4 w' := put_c M3.out 80 7 (by decide)
  have Q := Lib.hid Q
  go_wp2_with fail
  refine Q.out.mono ?_
  rintro e w5 ⟨rfl, m5, u5⟩
  have M5 := Lib.hid m5
  have B5 := Lib.hid (u5.below B3.out HM.out.2.2)
  have PG := Lib.hid (pages_c m5)
  clear m5 u5 Q
  go_wp2_with fail
  refine PG.out.mono ?_
  rintro e w6 ⟨rfl, rfl⟩
  have ST : Calls Try.prog 23 #[.pointer (some ⟨g, 0, none⟩), .int .i64 0, .int .i64 1, .int .u16 3] w6 fun e w' => e = .returned (.int .i64 0) ∧ Tab w' g h c [stg 3, nz] ∧ Upd h w6 w' := stage_c w6 g h c _ M5.out.tab 0 1 3
  have ST := Lib.hid ST
  go_wp2_with fail
  refine ST.out.mono ?_
  rintro e w7 ⟨rfl, t7, u7⟩
  have M7 := Lib.hid (M5.out.table t7 u7 rfl)
  have B7 := Lib.hid (u7.below B5.out HM.out.2.1)
  clear t7 u7 ST
  have Q : Calls Try.prog 49 #[.pointer (some ⟨M, 0, none⟩), .int .u32 80, .int .u32 7] w7 fun e w' => e = .returned (.int .i64 0) ∧ Mem w' M g h c d cd (fun _ => 0) [stg 3, nz] ((List.replicate 32 0).set 0 7) ∧ Upd d w7 w' := put_c M7.out 80 7 (by decide)
  have Q := Lib.hid Q
  go_wp2_with fail
  refine Q.out.mono ?_
  rintro e w8 ⟨rfl, m8, u8⟩
  have M8 := Lib.hid m8
  have B8 := Lib.hid (u8.below B7.out HM.out.2.2)
  have P : Calls Try.prog 46 #[.pointer (some ⟨M, 0, none⟩), .int .u32 80] w8 fun e w' => e = .returned (.int .u32 7) ∧ Below w8.heap.size w8 w' := peek_c m8 80 (by decide)
  have P := Lib.hid P
  clear m8 u8 Q
  go_wp2_with fail
  refine P.out.mono ?_
  rintro e w9 ⟨rfl, hb⟩
  have B9 := Lib.hid (B8.out.trans (hb.mono B8.out.size))
  clear hb
  go_wp2_with fail
  go_ret
  exact ⟨rfl, B9.out⟩
end Go.Proofs.Ytjjcmclnjeplkaa.PM
