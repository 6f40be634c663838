/- The walks of the laws of layer 15, out of contracts. Conditions: the bounds of the kinds. -/
import Derived.Test.YtgnminoiddnheaaRel4
namespace Go.Proofs.Ytgnminoiddnheaa.B4
set_option linter.unusedVariables false
open Go.RowKit Go.Proofs.Ytgnminoiddnheaa.WM Go.Proofs.Ytgnminoiddnheaa.IM Go.Proofs.Ytgnminoiddnheaa.W1 Go.Proofs.Ytgnminoiddnheaa.I1 Go.Proofs.Ytgnminoiddnheaa.I2 Go.Proofs.Ytgnminoiddnheaa.I6 Go.Proofs.Ytgnminoiddnheaa.I7 Go.Proofs.Ytgnminoiddnheaa.I8 Go.Proofs.Ytgnminoiddnheaa.I9 Go.Proofs.Ytgnminoiddnheaa.B1 Go.Proofs.Ytgnminoiddnheaa.R2 Go.Proofs.Ytgnminoiddnheaa.R1 Go.Proofs.Ytgnminoiddnheaa.R3 Go.Proofs.Ytgnminoiddnheaa.R4
theorem aw_val (w : World) : Calls Try.prog 27 #[.agg #[.int .u8 2, .int .u16 0, .int .u16 3], .agg #[.int .u32 128, .int .u32 160], .slice none 0 0] w fun e w' => e = .returned (.tuple #[.int .u32 163, .int .i64 0]) ∧ Below w.heap.size w w' := by
  go_enter Try.func27, Try.ntmps27
  go_wp2_with fail
  go_ret2
  exact ⟨rfl, ((Below.refl _ _).alloc (Nat.le_refl _) _).alloc (by simp) _⟩
theorem aw_ap1 (w : World) : Calls Try.prog 30 #[.int .u32 285212672, .int .u8 2, .int .u32 163] w fun e w' => e = .returned (.tuple #[.int .u32 285212835, .int .i64 0]) ∧ Below w.heap.size w w' := by
  have h := apply_c 285212672 2 163 w (by decide) (by decide)
  rw [show apX 285212672 2 163 = 285212835 from by decide, show apE 285212672 2 163 = 0 from by decide] at h
  exact h
theorem aw_ap2 (w : World) : Calls Try.prog 30 #[.int .u32 2281701376, .int .u8 0, .int .u32 1048576] w fun e w' => e = .returned (.tuple #[.int .u32 0, .int .i64 30]) ∧ Below w.heap.size w w' := by
  have h := apply_c 2281701376 0 1048576 w (by decide) (by decide)
  rw [show apX 2281701376 0 1048576 = 0 from by decide, show apE 2281701376 0 1048576 = 30 from by decide] at h
  exact h
theorem awake_c (w : World) : Calls Try.prog 29 #[] w fun e w' => e = .returned (.bool true) ∧ Below w.heap.size w w' := by
  go_enter Try.func29, Try.ntmps29
  go_wp2_with fail
  refine (aw_val _).mono ?_
  rintro e w1 ⟨rfl, hb1⟩
  go_wp2_with fail
  refine (aw_ap1 _).mono ?_
  rintro e w2 ⟨rfl, hb2⟩
  go_wp2_with fail
  refine (aw_ap2 _).mono ?_
  rintro e w3 ⟨rfl, hb3⟩
  go_wp2_with fail
  go_ret
  exact ⟨rfl, below_then (below_then hb1 hb2) hb3⟩
theorem law_applies (x k v : Nat) (w : World) (hx : x < 4294967296) (hv : v < 4294967296) :
    Calls Try.prog 11 #[.int .u32 (x : Int), .int .u8 (k : Int), .int .u32 (v : Int)] w fun e w' => e = .returned (.bool true) ∧ Below w.heap.size w w' := by
  have H1 := Lib.hid (fun W => apply_c x k v W hx hv)
  have H2 := Lib.hid (fun W => rapply_c x k v W hx hv)
  have H3 := Lib.hid (fun W => reach_c k W)
  have H4 := Lib.hid (fun W => rreach_c k W)
  generalize apX x k v = y at H1 H2
  generalize apE x k v = c at H1 H2
  generalize reachV k = r at H3 H4
  go_enter Try.func11, Try.ntmps11
  go_wp2_with fail
  refine (H1.out _).mono ?_
  rintro e w1 ⟨rfl, hb1⟩
  go_wp2_with fail
  refine (H2.out _).mono ?_
  rintro e w2 ⟨rfl, hb2⟩
  (go_wp2_with (first | (go_at_call 32; (with_reducible refine (H3.out _).mono ?_); rintro e w' ⟨rfl, ⟨nd, rfl⟩⟩; (try first | exact ⟨rfl, _, World.drewN_drewN _ _ _⟩ | exact ⟨rfl, _, Eq.trans (World.drewN_drewN _ _ _) (congrArg (World.drewN _) (Nat.add_assoc _ _ _))⟩)) | (go_at_call 33; (with_reducible refine (H4.out _).mono ?_); rintro e w' ⟨rfl, ⟨nd, rfl⟩⟩; (try first | exact ⟨rfl, _, World.drewN_drewN _ _ _⟩ | exact ⟨rfl, _, Eq.trans (World.drewN_drewN _ _ _) (congrArg (World.drewN _) (Nat.add_assoc _ _ _))⟩)) | (go_at_call 29; (with_reducible refine (awake_c _).mono ?_); rintro e w' ⟨rfl, hb⟩))); repeat (go_quiet (first | (go_at_call 32; (with_reducible refine (H3.out _).mono ?_); rintro e w' ⟨rfl, ⟨nd, rfl⟩⟩; (try first | exact ⟨rfl, _, World.drewN_drewN _ _ _⟩ | exact ⟨rfl, _, Eq.trans (World.drewN_drewN _ _ _) (congrArg (World.drewN _) (Nat.add_assoc _ _ _))⟩)) | (go_at_call 33; (with_reducible refine (H4.out _).mono ?_); rintro e w' ⟨rfl, ⟨nd, rfl⟩⟩; (try first | exact ⟨rfl, _, World.drewN_drewN _ _ _⟩ | exact ⟨rfl, _, Eq.trans (World.drewN_drewN _ _ _) (congrArg (World.drewN _) (Nat.add_assoc _ _ _))⟩)) | (go_at_call 29; (with_reducible refine (awake_c _).mono ?_); rintro e w' ⟨rfl, hb⟩)); try go_wp2_with (first | (go_at_call 32; (with_reducible refine (H3.out _).mono ?_); rintro e w' ⟨rfl, ⟨nd, rfl⟩⟩; (try first | exact ⟨rfl, _, World.drewN_drewN _ _ _⟩ | exact ⟨rfl, _, Eq.trans (World.drewN_drewN _ _ _) (congrArg (World.drewN _) (Nat.add_assoc _ _ _))⟩)) | (go_at_call 33; (with_reducible refine (H4.out _).mono ?_); rintro e w' ⟨rfl, ⟨nd, rfl⟩⟩; (try first | exact ⟨rfl, _, World.drewN_drewN _ _ _⟩ | exact ⟨rfl, _, Eq.trans (World.drewN_drewN _ _ _) (congrArg (World.drewN _) (Nat.add_assoc _ _ _))⟩)) | (go_at_call 29; (with_reducible refine (awake_c _).mono ?_); rintro e w' ⟨rfl, hb⟩)))
  go_ret
  refine ⟨rfl, ?_⟩
  exact below_then (below_then hb1 hb2) (below_then (below_drewN (Below.refl _ _) _) hb)
theorem law_undoes (x k : Nat) (w : World) (hx : x < 4294967296) :
    Calls Try.prog 14 #[.int .u32 (x : Int), .int .u8 (k : Int)] w fun e w' => e = .returned (.bool true) ∧ Below w.heap.size w w' := by
  have H1 := Lib.hid (fun W => undo_c x k W hx)
  have H2 := Lib.hid (fun W => rundo_c x k W hx)
  generalize unX x k = y at H1 H2
  generalize unE x k = c at H1 H2
  go_enter Try.func14, Try.ntmps14
  go_wp2_with fail
  refine (H1.out _).mono ?_
  rintro e w1 ⟨rfl, hb1⟩
  go_wp2_with fail
  refine (H2.out _).mono ?_
  rintro e w2 ⟨rfl, hb2⟩
  go_wp2_with fail
  refine (awake_c _).mono ?_
  rintro e w3 ⟨rfl, hb3⟩
  go_wp2_with fail
  go_ret
  exact ⟨rfl, below_then (below_then hb1 hb2) hb3⟩
end Go.Proofs.Ytgnminoiddnheaa.B4
