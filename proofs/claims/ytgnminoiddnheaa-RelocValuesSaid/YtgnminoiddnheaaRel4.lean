/- Contracts of the reference's Apply and Undo. Conditions: the bounds of the kinds. -/
import Derived.Test.YtgnminoiddnheaaRel3
namespace Go.Proofs.Ytgnminoiddnheaa.R4
set_option linter.unusedVariables false
open Go.RowKit Go.Proofs.Ytgnminoiddnheaa.WM Go.Proofs.Ytgnminoiddnheaa.IM Go.Proofs.Ytgnminoiddnheaa.W1 Go.Proofs.Ytgnminoiddnheaa.I1 Go.Proofs.Ytgnminoiddnheaa.I2 Go.Proofs.Ytgnminoiddnheaa.I6 Go.Proofs.Ytgnminoiddnheaa.I7 Go.Proofs.Ytgnminoiddnheaa.I8 Go.Proofs.Ytgnminoiddnheaa.I9 Go.Proofs.Ytgnminoiddnheaa.B1 Go.Proofs.Ytgnminoiddnheaa.R2 Go.Proofs.Ytgnminoiddnheaa.R1 Go.Proofs.Ytgnminoiddnheaa.R3
theorem rdec_ok {x : Nat} (w : World) (hx : x < 4294967296) (h : okD x) : Calls Try.prog 24 #[.int .u32 (x : Int)] w fun e w' => e = .returned (.tuple #[ins (dOp x) (dD x) (dA x) (dB x) (dI x), .int .i64 0]) ∧ Below w.heap.size w w' := by
  have g := rdecode_c x w hx
  unfold zo zd za zb zi zc at g
  simpa only [h, if_true] using g
theorem rdec_no {x : Nat} (w : World) (hx : x < 4294967296) (h : ¬ okD x) : Calls Try.prog 24 #[.int .u32 (x : Int)] w fun e w' => e = .returned (.tuple #[.agg #[.int .u8 0, .int .u8 0, .int .u8 0, .int .u8 0, .int .i32 0], .int .i64 10]) ∧ Below w.heap.size w w' := by
  have g := rdecode_c x w hx
  unfold zo zd za zb zi zc at g
  simp only [h, if_false] at g
  exact g
theorem rap_w4 (x k v : Nat) (w : World) (hx : x < 4294967296) (hv : v < 4294967296) (hk : k = 4) : Calls Try.prog 31 #[.int .u32 (x : Int), .int .u8 (k : Int), .int .u32 (v : Int)] w fun e w' => e = .returned (.tuple #[.int .u32 (v : Int), .int .i64 0]) ∧ Below w.heap.size w w' := by
  have q4 : ((k : Int) == 4) = true := by rw [hk]; rfl
  have q5 : ((k : Int) == 5) = false := by rw [hk]; rfl
  have q6 : ((k : Int) == 6) = false := by rw [hk]; rfl
  have qg : (k : Int) ≤ 7 := by omega
  have hi := fun W => incode_c k W
  rw [show codeK k = false from by rw [hk]; rfl] at hi
  have HI := Lib.hid hi
  clear hi
  clear hk
  go_enter Try.func31, Try.ntmps31
  go_wp2_with (first | (go_at_call 49; (with_reducible refine (HI.out _).mono ?_); rintro e w' ⟨rfl, ⟨nd, rfl⟩⟩; (try first | exact ⟨rfl, _, World.drewN_drewN _ _ _⟩ | exact ⟨rfl, _, Eq.trans (World.drewN_drewN _ _ _) (congrArg (World.drewN _) (Nat.add_assoc _ _ _))⟩)))
  go_ret2
  exact ⟨rfl, Drew.below (by repeat (first | exact Drew.refl _ | apply Drew.step | apply Drew.step1))⟩
theorem rap_w5 (x k v : Nat) (w : World) (hx : x < 4294967296) (hv : v < 4294967296) (hk : k = 5) : Calls Try.prog 31 #[.int .u32 (x : Int), .int .u8 (k : Int), .int .u32 (v : Int)] w fun e w' => e = .returned (.tuple #[.int .u32 (v : Int), .int .i64 0]) ∧ Below w.heap.size w w' := by
  have q4 : ((k : Int) == 4) = false := by rw [hk]; rfl
  have q5 : ((k : Int) == 5) = true := by rw [hk]; rfl
  have q6 : ((k : Int) == 6) = false := by rw [hk]; rfl
  have qg : (k : Int) ≤ 7 := by omega
  have hi := fun W => incode_c k W
  rw [show codeK k = false from by rw [hk]; rfl] at hi
  have HI := Lib.hid hi
  clear hi
  clear hk
  go_enter Try.func31, Try.ntmps31
  go_wp2_with (first | (go_at_call 49; (with_reducible refine (HI.out _).mono ?_); rintro e w' ⟨rfl, ⟨nd, rfl⟩⟩; (try first | exact ⟨rfl, _, World.drewN_drewN _ _ _⟩ | exact ⟨rfl, _, Eq.trans (World.drewN_drewN _ _ _) (congrArg (World.drewN _) (Nat.add_assoc _ _ _))⟩)))
  go_ret2
  exact ⟨rfl, Drew.below (by repeat (first | exact Drew.refl _ | apply Drew.step | apply Drew.step1))⟩
theorem rap_w6 (x k v : Nat) (w : World) (hx : x < 4294967296) (hv : v < 4294967296) (hk : k = 6) : Calls Try.prog 31 #[.int .u32 (x : Int), .int .u8 (k : Int), .int .u32 (v : Int)] w fun e w' => e = .returned (.tuple #[.int .u32 (v : Int), .int .i64 0]) ∧ Below w.heap.size w w' := by
  have q4 : ((k : Int) == 4) = false := by rw [hk]; rfl
  have q5 : ((k : Int) == 5) = false := by rw [hk]; rfl
  have q6 : ((k : Int) == 6) = true := by rw [hk]; rfl
  have qg : (k : Int) ≤ 7 := by omega
  have hi := fun W => incode_c k W
  rw [show codeK k = false from by rw [hk]; rfl] at hi
  have HI := Lib.hid hi
  clear hi
  clear hk
  go_enter Try.func31, Try.ntmps31
  go_wp2_with (first | (go_at_call 49; (with_reducible refine (HI.out _).mono ?_); rintro e w' ⟨rfl, ⟨nd, rfl⟩⟩; (try first | exact ⟨rfl, _, World.drewN_drewN _ _ _⟩ | exact ⟨rfl, _, Eq.trans (World.drewN_drewN _ _ _) (congrArg (World.drewN _) (Nat.add_assoc _ _ _))⟩)))
  go_ret2
  exact ⟨rfl, Drew.below (by repeat (first | exact Drew.refl _ | apply Drew.step | apply Drew.step1))⟩
theorem rap_n (x k v : Nat) (w : World) (hx : x < 4294967296) (hv : v < 4294967296) (hk : 7 < k) : Calls Try.prog 31 #[.int .u32 (x : Int), .int .u8 (k : Int), .int .u32 (v : Int)] w fun e w' => e = .returned (.tuple #[.int .u32 0, .int .i64 2]) ∧ Below w.heap.size w w' := by
  have q4 : ((k : Int) == 4) = false := by rw [beq_eq_false_iff_ne]; omega
  have q5 : ((k : Int) == 5) = false := by rw [beq_eq_false_iff_ne]; omega
  have q6 : ((k : Int) == 6) = false := by rw [beq_eq_false_iff_ne]; omega
  have qg : (7 : Int) < (k : Int) := by omega
  clear hk
  go_enter Try.func31, Try.ntmps31
  go_wp2_with fail
  go_ret2
  exact ⟨rfl, Below.refl _ _⟩
theorem run_w4 (x k : Nat) (w : World) (hx : x < 4294967296) (hk : k = 4) : Calls Try.prog 35 #[.int .u32 (x : Int), .int .u8 (k : Int)] w fun e w' => e = .returned (.tuple #[.int .u32 0, .int .i64 0]) ∧ Below w.heap.size w w' := by
  have q4 : ((k : Int) == 4) = true := by rw [hk]; rfl
  have q5 : ((k : Int) == 5) = false := by rw [hk]; rfl
  have q6 : ((k : Int) == 6) = false := by rw [hk]; rfl
  have qg : (k : Int) ≤ 7 := by omega
  have hi := fun W => incode_c k W
  rw [show codeK k = false from by rw [hk]; rfl] at hi
  have HI := Lib.hid hi
  clear hi
  clear hk
  go_enter Try.func35, Try.ntmps35
  go_wp2_with (first | (go_at_call 49; (with_reducible refine (HI.out _).mono ?_); rintro e w' ⟨rfl, ⟨nd, rfl⟩⟩; (try first | exact ⟨rfl, _, World.drewN_drewN _ _ _⟩ | exact ⟨rfl, _, Eq.trans (World.drewN_drewN _ _ _) (congrArg (World.drewN _) (Nat.add_assoc _ _ _))⟩)))
  go_ret2
  exact ⟨rfl, Drew.below (by repeat (first | exact Drew.refl _ | apply Drew.step | apply Drew.step1))⟩
theorem run_w5 (x k : Nat) (w : World) (hx : x < 4294967296) (hk : k = 5) : Calls Try.prog 35 #[.int .u32 (x : Int), .int .u8 (k : Int)] w fun e w' => e = .returned (.tuple #[.int .u32 0, .int .i64 0]) ∧ Below w.heap.size w w' := by
  have q4 : ((k : Int) == 4) = false := by rw [hk]; rfl
  have q5 : ((k : Int) == 5) = true := by rw [hk]; rfl
  have q6 : ((k : Int) == 6) = false := by rw [hk]; rfl
  have qg : (k : Int) ≤ 7 := by omega
  have hi := fun W => incode_c k W
  rw [show codeK k = false from by rw [hk]; rfl] at hi
  have HI := Lib.hid hi
  clear hi
  clear hk
  go_enter Try.func35, Try.ntmps35
  go_wp2_with (first | (go_at_call 49; (with_reducible refine (HI.out _).mono ?_); rintro e w' ⟨rfl, ⟨nd, rfl⟩⟩; (try first | exact ⟨rfl, _, World.drewN_drewN _ _ _⟩ | exact ⟨rfl, _, Eq.trans (World.drewN_drewN _ _ _) (congrArg (World.drewN _) (Nat.add_assoc _ _ _))⟩)))
  go_ret2
  exact ⟨rfl, Drew.below (by repeat (first | exact Drew.refl _ | apply Drew.step | apply Drew.step1))⟩
theorem run_w6 (x k : Nat) (w : World) (hx : x < 4294967296) (hk : k = 6) : Calls Try.prog 35 #[.int .u32 (x : Int), .int .u8 (k : Int)] w fun e w' => e = .returned (.tuple #[.int .u32 0, .int .i64 0]) ∧ Below w.heap.size w w' := by
  have q4 : ((k : Int) == 4) = false := by rw [hk]; rfl
  have q5 : ((k : Int) == 5) = false := by rw [hk]; rfl
  have q6 : ((k : Int) == 6) = true := by rw [hk]; rfl
  have qg : (k : Int) ≤ 7 := by omega
  have hi := fun W => incode_c k W
  rw [show codeK k = false from by rw [hk]; rfl] at hi
  have HI := Lib.hid hi
  clear hi
  clear hk
  go_enter Try.func35, Try.ntmps35
  go_wp2_with (first | (go_at_call 49; (with_reducible refine (HI.out _).mono ?_); rintro e w' ⟨rfl, ⟨nd, rfl⟩⟩; (try first | exact ⟨rfl, _, World.drewN_drewN _ _ _⟩ | exact ⟨rfl, _, Eq.trans (World.drewN_drewN _ _ _) (congrArg (World.drewN _) (Nat.add_assoc _ _ _))⟩)))
  go_ret2
  exact ⟨rfl, Drew.below (by repeat (first | exact Drew.refl _ | apply Drew.step | apply Drew.step1))⟩
theorem run_n (x k : Nat) (w : World) (hx : x < 4294967296) (hk : 7 < k) : Calls Try.prog 35 #[.int .u32 (x : Int), .int .u8 (k : Int)] w fun e w' => e = .returned (.tuple #[.int .u32 0, .int .i64 2]) ∧ Below w.heap.size w w' := by
  have q4 : ((k : Int) == 4) = false := by rw [beq_eq_false_iff_ne]; omega
  have q5 : ((k : Int) == 5) = false := by rw [beq_eq_false_iff_ne]; omega
  have q6 : ((k : Int) == 6) = false := by rw [beq_eq_false_iff_ne]; omega
  have qg : (7 : Int) < (k : Int) := by omega
  clear hk
  go_enter Try.func35, Try.ntmps35
  go_wp2_with fail
  go_ret2
  exact ⟨rfl, Below.refl _ _⟩
theorem rap_c1 (x k v : Nat) (w : World) (hx : x < 4294967296) (hv : v < 4294967296) (hk : codeK k = true) (h : ¬ okD x) : Calls Try.prog 31 #[.int .u32 (x : Int), .int .u8 (k : Int), .int .u32 (v : Int)] w fun e w' => e = .returned (.tuple #[.int .u32 0, .int .i64 10]) ∧ Below w.heap.size w w' := by
  obtain ⟨q4, q5, q6, qg, _, hre⟩ := code_facts hk
  have hi0 := fun W => incode_c k W
  rw [hk] at hi0
  have HI := Lib.hid hi0
  have HO := Lib.hid (fun W => op_c k W)
  clear hi0
  have H1 := Lib.hid (fun W => rdec_no (x := x) W hx h)
  clear h hk hre
  generalize opOf k = z at HO
  go_enter Try.func31, Try.ntmps31
  go_wp2_with (first | (go_at_call 49; (with_reducible refine (HI.out _).mono ?_); rintro e w' ⟨rfl, ⟨nd, rfl⟩⟩; (try first | exact ⟨rfl, _, World.drewN_drewN _ _ _⟩ | exact ⟨rfl, _, Eq.trans (World.drewN_drewN _ _ _) (congrArg (World.drewN _) (Nat.add_assoc _ _ _))⟩)))
  refine (H1.out _).mono ?_
  rintro e w1 ⟨rfl, hb1⟩
  have hbw : Below w.heap.size w w1 := (below_then (below_drewN (Below.refl _ _) _) hb1)
  (go_wp2_with (first | (go_at_call 49; (with_reducible refine (HI.out _).mono ?_); rintro e w' ⟨rfl, ⟨nd, rfl⟩⟩; (try first | exact ⟨rfl, _, World.drewN_drewN _ _ _⟩ | exact ⟨rfl, _, Eq.trans (World.drewN_drewN _ _ _) (congrArg (World.drewN _) (Nat.add_assoc _ _ _))⟩)) | (go_at_call 50; (with_reducible refine (HO.out _).mono ?_); rintro e w' ⟨rfl, ⟨nd, rfl⟩⟩; (try first | exact ⟨rfl, _, World.drewN_drewN _ _ _⟩ | exact ⟨rfl, _, Eq.trans (World.drewN_drewN _ _ _) (congrArg (World.drewN _) (Nat.add_assoc _ _ _))⟩)))); repeat (go_quiet (first | (go_at_call 49; (with_reducible refine (HI.out _).mono ?_); rintro e w' ⟨rfl, ⟨nd, rfl⟩⟩; (try first | exact ⟨rfl, _, World.drewN_drewN _ _ _⟩ | exact ⟨rfl, _, Eq.trans (World.drewN_drewN _ _ _) (congrArg (World.drewN _) (Nat.add_assoc _ _ _))⟩)) | (go_at_call 50; (with_reducible refine (HO.out _).mono ?_); rintro e w' ⟨rfl, ⟨nd, rfl⟩⟩; (try first | exact ⟨rfl, _, World.drewN_drewN _ _ _⟩ | exact ⟨rfl, _, Eq.trans (World.drewN_drewN _ _ _) (congrArg (World.drewN _) (Nat.add_assoc _ _ _))⟩))); try go_wp2_with (first | (go_at_call 49; (with_reducible refine (HI.out _).mono ?_); rintro e w' ⟨rfl, ⟨nd, rfl⟩⟩; (try first | exact ⟨rfl, _, World.drewN_drewN _ _ _⟩ | exact ⟨rfl, _, Eq.trans (World.drewN_drewN _ _ _) (congrArg (World.drewN _) (Nat.add_assoc _ _ _))⟩)) | (go_at_call 50; (with_reducible refine (HO.out _).mono ?_); rintro e w' ⟨rfl, ⟨nd, rfl⟩⟩; (try first | exact ⟨rfl, _, World.drewN_drewN _ _ _⟩ | exact ⟨rfl, _, Eq.trans (World.drewN_drewN _ _ _) (congrArg (World.drewN _) (Nat.add_assoc _ _ _))⟩))))
  go_ret2
  have hsz := hbw.size
  refine ⟨rfl, ?_⟩
  repeat (first | (with_reducible exact hbw) | (with_reducible refine Below.alloc ?_ ?_ _; rotate_left 1; first | exact hbw.size | (simp; omega)) | (with_reducible refine Below.setCell ?_ ?_ _; rotate_left 1; first | exact hbw.size | (simp; omega)) | (with_reducible apply below_drewN))
theorem rap_c2 (x k v : Nat) (w : World) (hx : x < 4294967296) (hv : v < 4294967296) (hk : codeK k = true) (h : okD x) (ho : dOp x ≠ opOf k) : Calls Try.prog 31 #[.int .u32 (x : Int), .int .u8 (k : Int), .int .u32 (v : Int)] w fun e w' => e = .returned (.tuple #[.int .u32 0, .int .i64 10]) ∧ Below w.heap.size w w' := by
  obtain ⟨q4, q5, q6, qg, _, hre⟩ := code_facts hk
  have hi0 := fun W => incode_c k W
  rw [hk] at hi0
  have HI := Lib.hid hi0
  have HO := Lib.hid (fun W => op_c k W)
  clear hi0
  have H1 := Lib.hid (fun W => rdec_ok (x := x) W hx h)
  have hq : (((dOp x : Nat) : Int) != ((opOf k : Nat) : Int)) = true := by rw [bne_iff_ne]; omega
  generalize dI x = i at H1
  clear h hk hre ho
  generalize opOf k = z at HO hq
  generalize dOp x = o at H1 hq
  generalize dD x = d at H1
  generalize dA x = a at H1
  generalize dB x = b at H1
  go_enter Try.func31, Try.ntmps31
  go_wp2_with (first | (go_at_call 49; (with_reducible refine (HI.out _).mono ?_); rintro e w' ⟨rfl, ⟨nd, rfl⟩⟩; (try first | exact ⟨rfl, _, World.drewN_drewN _ _ _⟩ | exact ⟨rfl, _, Eq.trans (World.drewN_drewN _ _ _) (congrArg (World.drewN _) (Nat.add_assoc _ _ _))⟩)))
  refine (H1.out _).mono ?_
  rintro e w1 ⟨rfl, hb1⟩
  have hbw : Below w.heap.size w w1 := (below_then (below_drewN (Below.refl _ _) _) hb1)
  (go_wp2_with (first | (go_at_call 49; (with_reducible refine (HI.out _).mono ?_); rintro e w' ⟨rfl, ⟨nd, rfl⟩⟩; (try first | exact ⟨rfl, _, World.drewN_drewN _ _ _⟩ | exact ⟨rfl, _, Eq.trans (World.drewN_drewN _ _ _) (congrArg (World.drewN _) (Nat.add_assoc _ _ _))⟩)) | (go_at_call 50; (with_reducible refine (HO.out _).mono ?_); rintro e w' ⟨rfl, ⟨nd, rfl⟩⟩; (try first | exact ⟨rfl, _, World.drewN_drewN _ _ _⟩ | exact ⟨rfl, _, Eq.trans (World.drewN_drewN _ _ _) (congrArg (World.drewN _) (Nat.add_assoc _ _ _))⟩)))); repeat (go_quiet (first | (go_at_call 49; (with_reducible refine (HI.out _).mono ?_); rintro e w' ⟨rfl, ⟨nd, rfl⟩⟩; (try first | exact ⟨rfl, _, World.drewN_drewN _ _ _⟩ | exact ⟨rfl, _, Eq.trans (World.drewN_drewN _ _ _) (congrArg (World.drewN _) (Nat.add_assoc _ _ _))⟩)) | (go_at_call 50; (with_reducible refine (HO.out _).mono ?_); rintro e w' ⟨rfl, ⟨nd, rfl⟩⟩; (try first | exact ⟨rfl, _, World.drewN_drewN _ _ _⟩ | exact ⟨rfl, _, Eq.trans (World.drewN_drewN _ _ _) (congrArg (World.drewN _) (Nat.add_assoc _ _ _))⟩))); try go_wp2_with (first | (go_at_call 49; (with_reducible refine (HI.out _).mono ?_); rintro e w' ⟨rfl, ⟨nd, rfl⟩⟩; (try first | exact ⟨rfl, _, World.drewN_drewN _ _ _⟩ | exact ⟨rfl, _, Eq.trans (World.drewN_drewN _ _ _) (congrArg (World.drewN _) (Nat.add_assoc _ _ _))⟩)) | (go_at_call 50; (with_reducible refine (HO.out _).mono ?_); rintro e w' ⟨rfl, ⟨nd, rfl⟩⟩; (try first | exact ⟨rfl, _, World.drewN_drewN _ _ _⟩ | exact ⟨rfl, _, Eq.trans (World.drewN_drewN _ _ _) (congrArg (World.drewN _) (Nat.add_assoc _ _ _))⟩))))
  go_ret2
  have hsz := hbw.size
  refine ⟨rfl, ?_⟩
  repeat (first | (with_reducible exact hbw) | (with_reducible refine Below.alloc ?_ ?_ _; rotate_left 1; first | exact hbw.size | (simp; omega)) | (with_reducible refine Below.setCell ?_ ?_ _; rotate_left 1; first | exact hbw.size | (simp; omega)) | (with_reducible apply below_drewN))
theorem rap_c (x k v : Nat) (w : World) (hx : x < 4294967296) (hv : v < 4294967296) (hk : codeK k = true) (h : ¬ bl x k) : Calls Try.prog 31 #[.int .u32 (x : Int), .int .u8 (k : Int), .int .u32 (v : Int)] w fun e w' => e = .returned (.tuple #[.int .u32 0, .int .i64 10]) ∧ Below w.heap.size w w' := by
  by_cases h1 : okD x
  · exact rap_c2 x k v w hx hv hk h1 (fun e => h ⟨h1, e⟩)
  · exact rap_c1 x k v w hx hv hk h1
theorem rap_d (x k v : Nat) (w : World) (hx : x < 4294967296) (hv : v < 4294967296) (hk : codeK k = true) (h : bl x k) (hi : dI x ≠ 0) : Calls Try.prog 31 #[.int .u32 (x : Int), .int .u8 (k : Int), .int .u32 (v : Int)] w fun e w' => e = .returned (.tuple #[.int .u32 0, .int .i64 10]) ∧ Below w.heap.size w w' := by
  obtain ⟨q4, q5, q6, qg, _, hre⟩ := code_facts hk
  have hi0 := fun W => incode_c k W
  rw [hk] at hi0
  have HI := Lib.hid hi0
  have HO := Lib.hid (fun W => op_c k W)
  clear hi0
  have H1 := Lib.hid (fun W => rdec_ok (x := x) W hx h.1)
  have hq : (((dOp x : Nat) : Int) != ((opOf k : Nat) : Int)) = false := by rw [h.2, bne_self_eq_false]
  have hj : (dI x != 0) = true := by rw [bne_iff_ne]; exact hi
  generalize dI x = i at H1 hi hj
  clear h hk hre
  generalize opOf k = z at HO hq
  generalize dOp x = o at H1 hq
  generalize dD x = d at H1
  generalize dA x = a at H1
  generalize dB x = b at H1
  go_enter Try.func31, Try.ntmps31
  go_wp2_with (first | (go_at_call 49; (with_reducible refine (HI.out _).mono ?_); rintro e w' ⟨rfl, ⟨nd, rfl⟩⟩; (try first | exact ⟨rfl, _, World.drewN_drewN _ _ _⟩ | exact ⟨rfl, _, Eq.trans (World.drewN_drewN _ _ _) (congrArg (World.drewN _) (Nat.add_assoc _ _ _))⟩)))
  refine (H1.out _).mono ?_
  rintro e w1 ⟨rfl, hb1⟩
  have hbw : Below w.heap.size w w1 := (below_then (below_drewN (Below.refl _ _) _) hb1)
  (go_wp2_with (first | (go_at_call 49; (with_reducible refine (HI.out _).mono ?_); rintro e w' ⟨rfl, ⟨nd, rfl⟩⟩; (try first | exact ⟨rfl, _, World.drewN_drewN _ _ _⟩ | exact ⟨rfl, _, Eq.trans (World.drewN_drewN _ _ _) (congrArg (World.drewN _) (Nat.add_assoc _ _ _))⟩)) | (go_at_call 50; (with_reducible refine (HO.out _).mono ?_); rintro e w' ⟨rfl, ⟨nd, rfl⟩⟩; (try first | exact ⟨rfl, _, World.drewN_drewN _ _ _⟩ | exact ⟨rfl, _, Eq.trans (World.drewN_drewN _ _ _) (congrArg (World.drewN _) (Nat.add_assoc _ _ _))⟩)))); repeat (go_quiet (first | (go_at_call 49; (with_reducible refine (HI.out _).mono ?_); rintro e w' ⟨rfl, ⟨nd, rfl⟩⟩; (try first | exact ⟨rfl, _, World.drewN_drewN _ _ _⟩ | exact ⟨rfl, _, Eq.trans (World.drewN_drewN _ _ _) (congrArg (World.drewN _) (Nat.add_assoc _ _ _))⟩)) | (go_at_call 50; (with_reducible refine (HO.out _).mono ?_); rintro e w' ⟨rfl, ⟨nd, rfl⟩⟩; (try first | exact ⟨rfl, _, World.drewN_drewN _ _ _⟩ | exact ⟨rfl, _, Eq.trans (World.drewN_drewN _ _ _) (congrArg (World.drewN _) (Nat.add_assoc _ _ _))⟩))); try go_wp2_with (first | (go_at_call 49; (with_reducible refine (HI.out _).mono ?_); rintro e w' ⟨rfl, ⟨nd, rfl⟩⟩; (try first | exact ⟨rfl, _, World.drewN_drewN _ _ _⟩ | exact ⟨rfl, _, Eq.trans (World.drewN_drewN _ _ _) (congrArg (World.drewN _) (Nat.add_assoc _ _ _))⟩)) | (go_at_call 50; (with_reducible refine (HO.out _).mono ?_); rintro e w' ⟨rfl, ⟨nd, rfl⟩⟩; (try first | exact ⟨rfl, _, World.drewN_drewN _ _ _⟩ | exact ⟨rfl, _, Eq.trans (World.drewN_drewN _ _ _) (congrArg (World.drewN _) (Nat.add_assoc _ _ _))⟩))))
  go_ret2
  have hsz := hbw.size
  refine ⟨rfl, ?_⟩
  repeat (first | (with_reducible exact hbw) | (with_reducible refine Below.alloc ?_ ?_ _; rotate_left 1; first | exact hbw.size | (simp; omega)) | (with_reducible refine Below.setCell ?_ ?_ _; rotate_left 1; first | exact hbw.size | (simp; omega)) | (with_reducible apply below_drewN))
theorem run_c1 (x k : Nat) (w : World) (hx : x < 4294967296) (hk : codeK k = true) (h : ¬ okD x) : Calls Try.prog 35 #[.int .u32 (x : Int), .int .u8 (k : Int)] w fun e w' => e = .returned (.tuple #[.int .u32 0, .int .i64 10]) ∧ Below w.heap.size w w' := by
  obtain ⟨q4, q5, q6, qg, _, hre⟩ := code_facts hk
  have hi0 := fun W => incode_c k W
  rw [hk] at hi0
  have HI := Lib.hid hi0
  have HO := Lib.hid (fun W => op_c k W)
  clear hi0
  have H1 := Lib.hid (fun W => rdec_no (x := x) W hx h)
  clear h hk hre
  generalize opOf k = z at HO
  go_enter Try.func35, Try.ntmps35
  go_wp2_with (first | (go_at_call 49; (with_reducible refine (HI.out _).mono ?_); rintro e w' ⟨rfl, ⟨nd, rfl⟩⟩; (try first | exact ⟨rfl, _, World.drewN_drewN _ _ _⟩ | exact ⟨rfl, _, Eq.trans (World.drewN_drewN _ _ _) (congrArg (World.drewN _) (Nat.add_assoc _ _ _))⟩)))
  refine (H1.out _).mono ?_
  rintro e w1 ⟨rfl, hb1⟩
  have hbw : Below w.heap.size w w1 := (below_then (below_drewN (Below.refl _ _) _) hb1)
  (go_wp2_with (first | (go_at_call 49; (with_reducible refine (HI.out _).mono ?_); rintro e w' ⟨rfl, ⟨nd, rfl⟩⟩; (try first | exact ⟨rfl, _, World.drewN_drewN _ _ _⟩ | exact ⟨rfl, _, Eq.trans (World.drewN_drewN _ _ _) (congrArg (World.drewN _) (Nat.add_assoc _ _ _))⟩)) | (go_at_call 50; (with_reducible refine (HO.out _).mono ?_); rintro e w' ⟨rfl, ⟨nd, rfl⟩⟩; (try first | exact ⟨rfl, _, World.drewN_drewN _ _ _⟩ | exact ⟨rfl, _, Eq.trans (World.drewN_drewN _ _ _) (congrArg (World.drewN _) (Nat.add_assoc _ _ _))⟩)))); repeat (go_quiet (first | (go_at_call 49; (with_reducible refine (HI.out _).mono ?_); rintro e w' ⟨rfl, ⟨nd, rfl⟩⟩; (try first | exact ⟨rfl, _, World.drewN_drewN _ _ _⟩ | exact ⟨rfl, _, Eq.trans (World.drewN_drewN _ _ _) (congrArg (World.drewN _) (Nat.add_assoc _ _ _))⟩)) | (go_at_call 50; (with_reducible refine (HO.out _).mono ?_); rintro e w' ⟨rfl, ⟨nd, rfl⟩⟩; (try first | exact ⟨rfl, _, World.drewN_drewN _ _ _⟩ | exact ⟨rfl, _, Eq.trans (World.drewN_drewN _ _ _) (congrArg (World.drewN _) (Nat.add_assoc _ _ _))⟩))); try go_wp2_with (first | (go_at_call 49; (with_reducible refine (HI.out _).mono ?_); rintro e w' ⟨rfl, ⟨nd, rfl⟩⟩; (try first | exact ⟨rfl, _, World.drewN_drewN _ _ _⟩ | exact ⟨rfl, _, Eq.trans (World.drewN_drewN _ _ _) (congrArg (World.drewN _) (Nat.add_assoc _ _ _))⟩)) | (go_at_call 50; (with_reducible refine (HO.out _).mono ?_); rintro e w' ⟨rfl, ⟨nd, rfl⟩⟩; (try first | exact ⟨rfl, _, World.drewN_drewN _ _ _⟩ | exact ⟨rfl, _, Eq.trans (World.drewN_drewN _ _ _) (congrArg (World.drewN _) (Nat.add_assoc _ _ _))⟩))))
  go_ret2
  have hsz := hbw.size
  refine ⟨rfl, ?_⟩
  repeat (first | (with_reducible exact hbw) | (with_reducible refine Below.alloc ?_ ?_ _; rotate_left 1; first | exact hbw.size | (simp; omega)) | (with_reducible refine Below.setCell ?_ ?_ _; rotate_left 1; first | exact hbw.size | (simp; omega)) | (with_reducible apply below_drewN))
theorem run_c2 (x k : Nat) (w : World) (hx : x < 4294967296) (hk : codeK k = true) (h : okD x) (ho : dOp x ≠ opOf k) : Calls Try.prog 35 #[.int .u32 (x : Int), .int .u8 (k : Int)] w fun e w' => e = .returned (.tuple #[.int .u32 0, .int .i64 10]) ∧ Below w.heap.size w w' := by
  obtain ⟨q4, q5, q6, qg, _, hre⟩ := code_facts hk
  have hi0 := fun W => incode_c k W
  rw [hk] at hi0
  have HI := Lib.hid hi0
  have HO := Lib.hid (fun W => op_c k W)
  clear hi0
  have H1 := Lib.hid (fun W => rdec_ok (x := x) W hx h)
  have hq : (((dOp x : Nat) : Int) != ((opOf k : Nat) : Int)) = true := by rw [bne_iff_ne]; omega
  generalize dI x = i at H1
  clear h hk hre ho
  generalize opOf k = z at HO hq
  generalize dOp x = o at H1 hq
  generalize dD x = d at H1
  generalize dA x = a at H1
  generalize dB x = b at H1
  go_enter Try.func35, Try.ntmps35
  go_wp2_with (first | (go_at_call 49; (with_reducible refine (HI.out _).mono ?_); rintro e w' ⟨rfl, ⟨nd, rfl⟩⟩; (try first | exact ⟨rfl, _, World.drewN_drewN _ _ _⟩ | exact ⟨rfl, _, Eq.trans (World.drewN_drewN _ _ _) (congrArg (World.drewN _) (Nat.add_assoc _ _ _))⟩)))
  refine (H1.out _).mono ?_
  rintro e w1 ⟨rfl, hb1⟩
  have hbw : Below w.heap.size w w1 := (below_then (below_drewN (Below.refl _ _) _) hb1)
  (go_wp2_with (first | (go_at_call 49; (with_reducible refine (HI.out _).mono ?_); rintro e w' ⟨rfl, ⟨nd, rfl⟩⟩; (try first | exact ⟨rfl, _, World.drewN_drewN _ _ _⟩ | exact ⟨rfl, _, Eq.trans (World.drewN_drewN _ _ _) (congrArg (World.drewN _) (Nat.add_assoc _ _ _))⟩)) | (go_at_call 50; (with_reducible refine (HO.out _).mono ?_); rintro e w' ⟨rfl, ⟨nd, rfl⟩⟩; (try first | exact ⟨rfl, _, World.drewN_drewN _ _ _⟩ | exact ⟨rfl, _, Eq.trans (World.drewN_drewN _ _ _) (congrArg (World.drewN _) (Nat.add_assoc _ _ _))⟩)))); repeat (go_quiet (first | (go_at_call 49; (with_reducible refine (HI.out _).mono ?_); rintro e w' ⟨rfl, ⟨nd, rfl⟩⟩; (try first | exact ⟨rfl, _, World.drewN_drewN _ _ _⟩ | exact ⟨rfl, _, Eq.trans (World.drewN_drewN _ _ _) (congrArg (World.drewN _) (Nat.add_assoc _ _ _))⟩)) | (go_at_call 50; (with_reducible refine (HO.out _).mono ?_); rintro e w' ⟨rfl, ⟨nd, rfl⟩⟩; (try first | exact ⟨rfl, _, World.drewN_drewN _ _ _⟩ | exact ⟨rfl, _, Eq.trans (World.drewN_drewN _ _ _) (congrArg (World.drewN _) (Nat.add_assoc _ _ _))⟩))); try go_wp2_with (first | (go_at_call 49; (with_reducible refine (HI.out _).mono ?_); rintro e w' ⟨rfl, ⟨nd, rfl⟩⟩; (try first | exact ⟨rfl, _, World.drewN_drewN _ _ _⟩ | exact ⟨rfl, _, Eq.trans (World.drewN_drewN _ _ _) (congrArg (World.drewN _) (Nat.add_assoc _ _ _))⟩)) | (go_at_call 50; (with_reducible refine (HO.out _).mono ?_); rintro e w' ⟨rfl, ⟨nd, rfl⟩⟩; (try first | exact ⟨rfl, _, World.drewN_drewN _ _ _⟩ | exact ⟨rfl, _, Eq.trans (World.drewN_drewN _ _ _) (congrArg (World.drewN _) (Nat.add_assoc _ _ _))⟩))))
  go_ret2
  have hsz := hbw.size
  refine ⟨rfl, ?_⟩
  repeat (first | (with_reducible exact hbw) | (with_reducible refine Below.alloc ?_ ?_ _; rotate_left 1; first | exact hbw.size | (simp; omega)) | (with_reducible refine Below.setCell ?_ ?_ _; rotate_left 1; first | exact hbw.size | (simp; omega)) | (with_reducible apply below_drewN))
theorem run_c (x k : Nat) (w : World) (hx : x < 4294967296) (hk : codeK k = true) (h : ¬ bl x k) : Calls Try.prog 35 #[.int .u32 (x : Int), .int .u8 (k : Int)] w fun e w' => e = .returned (.tuple #[.int .u32 0, .int .i64 10]) ∧ Below w.heap.size w w' := by
  by_cases h1 : okD x
  · exact run_c2 x k w hx hk h1 (fun e => h ⟨h1, e⟩)
  · exact run_c1 x k w hx hk h1
theorem run_d (x k : Nat) (w : World) (hx : x < 4294967296) (hk : codeK k = true) (h : bl x k) (hi : dI x < 0) : Calls Try.prog 35 #[.int .u32 (x : Int), .int .u8 (k : Int)] w fun e w' => e = .returned (.tuple #[.int .u32 0, .int .i64 10]) ∧ Below w.heap.size w w' := by
  obtain ⟨q4, q5, q6, qg, _, hre⟩ := code_facts hk
  have hi0 := fun W => incode_c k W
  rw [hk] at hi0
  have HI := Lib.hid hi0
  have HO := Lib.hid (fun W => op_c k W)
  clear hi0
  have H1 := Lib.hid (fun W => rdec_ok (x := x) W hx h.1)
  have hq : (((dOp x : Nat) : Int) != ((opOf k : Nat) : Int)) = false := by rw [h.2, bne_self_eq_false]
  generalize dI x = i at H1 hi 
  clear h hk hre
  generalize opOf k = z at HO hq
  generalize dOp x = o at H1 hq
  generalize dD x = d at H1
  generalize dA x = a at H1
  generalize dB x = b at H1
  go_enter Try.func35, Try.ntmps35
  go_wp2_with (first | (go_at_call 49; (with_reducible refine (HI.out _).mono ?_); rintro e w' ⟨rfl, ⟨nd, rfl⟩⟩; (try first | exact ⟨rfl, _, World.drewN_drewN _ _ _⟩ | exact ⟨rfl, _, Eq.trans (World.drewN_drewN _ _ _) (congrArg (World.drewN _) (Nat.add_assoc _ _ _))⟩)))
  refine (H1.out _).mono ?_
  rintro e w1 ⟨rfl, hb1⟩
  have hbw : Below w.heap.size w w1 := (below_then (below_drewN (Below.refl _ _) _) hb1)
  (go_wp2_with (first | (go_at_call 49; (with_reducible refine (HI.out _).mono ?_); rintro e w' ⟨rfl, ⟨nd, rfl⟩⟩; (try first | exact ⟨rfl, _, World.drewN_drewN _ _ _⟩ | exact ⟨rfl, _, Eq.trans (World.drewN_drewN _ _ _) (congrArg (World.drewN _) (Nat.add_assoc _ _ _))⟩)) | (go_at_call 50; (with_reducible refine (HO.out _).mono ?_); rintro e w' ⟨rfl, ⟨nd, rfl⟩⟩; (try first | exact ⟨rfl, _, World.drewN_drewN _ _ _⟩ | exact ⟨rfl, _, Eq.trans (World.drewN_drewN _ _ _) (congrArg (World.drewN _) (Nat.add_assoc _ _ _))⟩)))); repeat (go_quiet (first | (go_at_call 49; (with_reducible refine (HI.out _).mono ?_); rintro e w' ⟨rfl, ⟨nd, rfl⟩⟩; (try first | exact ⟨rfl, _, World.drewN_drewN _ _ _⟩ | exact ⟨rfl, _, Eq.trans (World.drewN_drewN _ _ _) (congrArg (World.drewN _) (Nat.add_assoc _ _ _))⟩)) | (go_at_call 50; (with_reducible refine (HO.out _).mono ?_); rintro e w' ⟨rfl, ⟨nd, rfl⟩⟩; (try first | exact ⟨rfl, _, World.drewN_drewN _ _ _⟩ | exact ⟨rfl, _, Eq.trans (World.drewN_drewN _ _ _) (congrArg (World.drewN _) (Nat.add_assoc _ _ _))⟩))); try go_wp2_with (first | (go_at_call 49; (with_reducible refine (HI.out _).mono ?_); rintro e w' ⟨rfl, ⟨nd, rfl⟩⟩; (try first | exact ⟨rfl, _, World.drewN_drewN _ _ _⟩ | exact ⟨rfl, _, Eq.trans (World.drewN_drewN _ _ _) (congrArg (World.drewN _) (Nat.add_assoc _ _ _))⟩)) | (go_at_call 50; (with_reducible refine (HO.out _).mono ?_); rintro e w' ⟨rfl, ⟨nd, rfl⟩⟩; (try first | exact ⟨rfl, _, World.drewN_drewN _ _ _⟩ | exact ⟨rfl, _, Eq.trans (World.drewN_drewN _ _ _) (congrArg (World.drewN _) (Nat.add_assoc _ _ _))⟩))))
  go_ret2
  have hsz := hbw.size
  refine ⟨rfl, ?_⟩
  repeat (first | (with_reducible exact hbw) | (with_reducible refine Below.alloc ?_ ?_ _; rotate_left 1; first | exact hbw.size | (simp; omega)) | (with_reducible refine Below.setCell ?_ ?_ _; rotate_left 1; first | exact hbw.size | (simp; omega)) | (with_reducible apply below_drewN))
theorem rap_e (x k v : Nat) (w : World) (hx : x < 4294967296) (hv : v < 4294967296) (hk : codeK k = true) (h : bl x k) (hi : dI x = 0) (h2 : 1048576 ≤ v) : Calls Try.prog 31 #[.int .u32 (x : Int), .int .u8 (k : Int), .int .u32 (v : Int)] w fun e w' => e = .returned (.tuple #[.int .u32 0, .int .i64 30]) ∧ Below w.heap.size w w' := by
  obtain ⟨q4, q5, q6, qg, _, hre⟩ := code_facts hk
  have hi0 := fun W => incode_c k W
  rw [hk] at hi0
  have HI := Lib.hid hi0
  have HO := Lib.hid (fun W => op_c k W)
  clear hi0
  have hr := fun W => rreach_c k W
  rw [hre] at hr
  have HR := Lib.hid hr
  clear hr
  have h1 := fun W => rdec_ok (x := x) W hx h.1
  rw [hi] at h1
  have H1 := Lib.hid h1
  have hq : (((dOp x : Nat) : Int) != ((opOf k : Nat) : Int)) = false := by rw [h.2, bne_self_eq_false]
  have hg : (1048575 : Int) < (v : Int) := by omega
  clear h hk hre hi h1
  generalize opOf k = z at HO hq
  generalize dOp x = o at H1 hq
  generalize dD x = d at H1
  generalize dA x = a at H1
  generalize dB x = b at H1
  go_enter Try.func31, Try.ntmps31
  go_wp2_with (first | (go_at_call 49; (with_reducible refine (HI.out _).mono ?_); rintro e w' ⟨rfl, ⟨nd, rfl⟩⟩; (try first | exact ⟨rfl, _, World.drewN_drewN _ _ _⟩ | exact ⟨rfl, _, Eq.trans (World.drewN_drewN _ _ _) (congrArg (World.drewN _) (Nat.add_assoc _ _ _))⟩)))
  refine (H1.out _).mono ?_
  rintro e w1 ⟨rfl, hb1⟩
  have hbw : Below w.heap.size w w1 := (below_then (below_drewN (Below.refl _ _) _) hb1)
  (go_wp2_with (first | (go_at_call 49; (with_reducible refine (HI.out _).mono ?_); rintro e w' ⟨rfl, ⟨nd, rfl⟩⟩; (try first | exact ⟨rfl, _, World.drewN_drewN _ _ _⟩ | exact ⟨rfl, _, Eq.trans (World.drewN_drewN _ _ _) (congrArg (World.drewN _) (Nat.add_assoc _ _ _))⟩)) | (go_at_call 50; (with_reducible refine (HO.out _).mono ?_); rintro e w' ⟨rfl, ⟨nd, rfl⟩⟩; (try first | exact ⟨rfl, _, World.drewN_drewN _ _ _⟩ | exact ⟨rfl, _, Eq.trans (World.drewN_drewN _ _ _) (congrArg (World.drewN _) (Nat.add_assoc _ _ _))⟩)) | (go_at_call 33; (with_reducible refine (HR.out _).mono ?_); rintro e w' ⟨rfl, ⟨nd, rfl⟩⟩; (try first | exact ⟨rfl, _, World.drewN_drewN _ _ _⟩ | exact ⟨rfl, _, Eq.trans (World.drewN_drewN _ _ _) (congrArg (World.drewN _) (Nat.add_assoc _ _ _))⟩)))); repeat (go_quiet (first | (go_at_call 49; (with_reducible refine (HI.out _).mono ?_); rintro e w' ⟨rfl, ⟨nd, rfl⟩⟩; (try first | exact ⟨rfl, _, World.drewN_drewN _ _ _⟩ | exact ⟨rfl, _, Eq.trans (World.drewN_drewN _ _ _) (congrArg (World.drewN _) (Nat.add_assoc _ _ _))⟩)) | (go_at_call 50; (with_reducible refine (HO.out _).mono ?_); rintro e w' ⟨rfl, ⟨nd, rfl⟩⟩; (try first | exact ⟨rfl, _, World.drewN_drewN _ _ _⟩ | exact ⟨rfl, _, Eq.trans (World.drewN_drewN _ _ _) (congrArg (World.drewN _) (Nat.add_assoc _ _ _))⟩)) | (go_at_call 33; (with_reducible refine (HR.out _).mono ?_); rintro e w' ⟨rfl, ⟨nd, rfl⟩⟩; (try first | exact ⟨rfl, _, World.drewN_drewN _ _ _⟩ | exact ⟨rfl, _, Eq.trans (World.drewN_drewN _ _ _) (congrArg (World.drewN _) (Nat.add_assoc _ _ _))⟩))); try go_wp2_with (first | (go_at_call 49; (with_reducible refine (HI.out _).mono ?_); rintro e w' ⟨rfl, ⟨nd, rfl⟩⟩; (try first | exact ⟨rfl, _, World.drewN_drewN _ _ _⟩ | exact ⟨rfl, _, Eq.trans (World.drewN_drewN _ _ _) (congrArg (World.drewN _) (Nat.add_assoc _ _ _))⟩)) | (go_at_call 50; (with_reducible refine (HO.out _).mono ?_); rintro e w' ⟨rfl, ⟨nd, rfl⟩⟩; (try first | exact ⟨rfl, _, World.drewN_drewN _ _ _⟩ | exact ⟨rfl, _, Eq.trans (World.drewN_drewN _ _ _) (congrArg (World.drewN _) (Nat.add_assoc _ _ _))⟩)) | (go_at_call 33; (with_reducible refine (HR.out _).mono ?_); rintro e w' ⟨rfl, ⟨nd, rfl⟩⟩; (try first | exact ⟨rfl, _, World.drewN_drewN _ _ _⟩ | exact ⟨rfl, _, Eq.trans (World.drewN_drewN _ _ _) (congrArg (World.drewN _) (Nat.add_assoc _ _ _))⟩))))
  go_ret2
  have hsz := hbw.size
  refine ⟨rfl, ?_⟩
  repeat (first | (with_reducible exact hbw) | (with_reducible refine Below.alloc ?_ ?_ _; rotate_left 1; first | exact hbw.size | (simp; omega)) | (with_reducible refine Below.setCell ?_ ?_ _; rotate_left 1; first | exact hbw.size | (simp; omega)) | (with_reducible apply below_drewN))
set_option maxRecDepth 100000 in
theorem rap_f (x k v : Nat) (w : World) (hx : x < 4294967296) (hv : v < 4294967296) (hk : codeK k = true) (h : bl x k) (hi : dI x = 0) (h2 : v < 1048576) : Calls Try.prog 31 #[.int .u32 (x : Int), .int .u8 (k : Int), .int .u32 (v : Int)] w fun e w' => e = .returned (.tuple #[.int .u32 ((x + v : Nat) : Int), .int .i64 0]) ∧ Below w.heap.size w w' := by
  obtain ⟨q4, q5, q6, qg, _, hre⟩ := code_facts hk
  have hi0 := fun W => incode_c k W
  rw [hk] at hi0
  have HI := Lib.hid hi0
  have HO := Lib.hid (fun W => op_c k W)
  clear hi0
  have hr := fun W => rreach_c k W
  rw [hre] at hr
  have HR := Lib.hid hr
  clear hr
  have h1 := fun W => rdec_ok (x := x) W hx h.1
  rw [hi] at h1
  have H1 := Lib.hid h1
  have h3 := fun W => rencode_ok (dOp x) (dD x) (dA x) (dB x) (v : Int) W (by omega) (by omega) (chk_set h v h2)
  rw [enc_set h hi v h2] at h3
  obtain ⟨y, hy⟩ : ∃ y : Nat, y = x + v := ⟨_, rfl⟩
  rw [← hy] at h3 ⊢
  clear hy
  have H3 := Lib.hid h3
  have hq : (((dOp x : Nat) : Int) != ((opOf k : Nat) : Int)) = false := by rw [h.2, bne_self_eq_false]
  have hg : (v : Int) ≤ (1048575 : Int) := by omega
  clear h hk hre hi h1 h3
  generalize opOf k = z at HO hq
  generalize dOp x = o at H1 hq H3
  generalize dD x = d at H1 H3
  generalize dA x = a at H1 H3
  generalize dB x = b at H1 H3
  go_enter Try.func31, Try.ntmps31
  go_wp2_with (first | (go_at_call 49; (with_reducible refine (HI.out _).mono ?_); rintro e w' ⟨rfl, ⟨nd, rfl⟩⟩; (try first | exact ⟨rfl, _, World.drewN_drewN _ _ _⟩ | exact ⟨rfl, _, Eq.trans (World.drewN_drewN _ _ _) (congrArg (World.drewN _) (Nat.add_assoc _ _ _))⟩)))
  refine (H1.out _).mono ?_
  rintro e w1 ⟨rfl, hb1⟩
  have hbw : Below w.heap.size w w1 := (below_then (below_drewN (Below.refl _ _) _) hb1)
  (go_wp2_with (first | (go_at_call 49; (with_reducible refine (HI.out _).mono ?_); rintro e w' ⟨rfl, ⟨nd, rfl⟩⟩; (try first | exact ⟨rfl, _, World.drewN_drewN _ _ _⟩ | exact ⟨rfl, _, Eq.trans (World.drewN_drewN _ _ _) (congrArg (World.drewN _) (Nat.add_assoc _ _ _))⟩)) | (go_at_call 50; (with_reducible refine (HO.out _).mono ?_); rintro e w' ⟨rfl, ⟨nd, rfl⟩⟩; (try first | exact ⟨rfl, _, World.drewN_drewN _ _ _⟩ | exact ⟨rfl, _, Eq.trans (World.drewN_drewN _ _ _) (congrArg (World.drewN _) (Nat.add_assoc _ _ _))⟩)) | (go_at_call 33; (with_reducible refine (HR.out _).mono ?_); rintro e w' ⟨rfl, ⟨nd, rfl⟩⟩; (try first | exact ⟨rfl, _, World.drewN_drewN _ _ _⟩ | exact ⟨rfl, _, Eq.trans (World.drewN_drewN _ _ _) (congrArg (World.drewN _) (Nat.add_assoc _ _ _))⟩)))); repeat (go_quiet (first | (go_at_call 49; (with_reducible refine (HI.out _).mono ?_); rintro e w' ⟨rfl, ⟨nd, rfl⟩⟩; (try first | exact ⟨rfl, _, World.drewN_drewN _ _ _⟩ | exact ⟨rfl, _, Eq.trans (World.drewN_drewN _ _ _) (congrArg (World.drewN _) (Nat.add_assoc _ _ _))⟩)) | (go_at_call 50; (with_reducible refine (HO.out _).mono ?_); rintro e w' ⟨rfl, ⟨nd, rfl⟩⟩; (try first | exact ⟨rfl, _, World.drewN_drewN _ _ _⟩ | exact ⟨rfl, _, Eq.trans (World.drewN_drewN _ _ _) (congrArg (World.drewN _) (Nat.add_assoc _ _ _))⟩)) | (go_at_call 33; (with_reducible refine (HR.out _).mono ?_); rintro e w' ⟨rfl, ⟨nd, rfl⟩⟩; (try first | exact ⟨rfl, _, World.drewN_drewN _ _ _⟩ | exact ⟨rfl, _, Eq.trans (World.drewN_drewN _ _ _) (congrArg (World.drewN _) (Nat.add_assoc _ _ _))⟩))); try go_wp2_with (first | (go_at_call 49; (with_reducible refine (HI.out _).mono ?_); rintro e w' ⟨rfl, ⟨nd, rfl⟩⟩; (try first | exact ⟨rfl, _, World.drewN_drewN _ _ _⟩ | exact ⟨rfl, _, Eq.trans (World.drewN_drewN _ _ _) (congrArg (World.drewN _) (Nat.add_assoc _ _ _))⟩)) | (go_at_call 50; (with_reducible refine (HO.out _).mono ?_); rintro e w' ⟨rfl, ⟨nd, rfl⟩⟩; (try first | exact ⟨rfl, _, World.drewN_drewN _ _ _⟩ | exact ⟨rfl, _, Eq.trans (World.drewN_drewN _ _ _) (congrArg (World.drewN _) (Nat.add_assoc _ _ _))⟩)) | (go_at_call 33; (with_reducible refine (HR.out _).mono ?_); rintro e w' ⟨rfl, ⟨nd, rfl⟩⟩; (try first | exact ⟨rfl, _, World.drewN_drewN _ _ _⟩ | exact ⟨rfl, _, Eq.trans (World.drewN_drewN _ _ _) (congrArg (World.drewN _) (Nat.add_assoc _ _ _))⟩))))
  refine (H3.out _).mono ?_
  rintro e w2 ⟨rfl, hb2⟩
  go_wp2_with fail
  go_ret2
  have hsz := hbw.size
  refine ⟨rfl, below_then ?_ hb2⟩
  repeat (first | (with_reducible exact hbw) | (with_reducible refine Below.alloc ?_ ?_ _; rotate_left 1; first | exact hbw.size | (simp; omega)) | (with_reducible refine Below.setCell ?_ ?_ _; rotate_left 1; first | exact hbw.size | (simp; omega)) | (with_reducible apply below_drewN))
theorem run_f (x k : Nat) (w : World) (hx : x < 4294967296) (hk : codeK k = true) (h : bl x k) (hi : 0 ≤ dI x) : Calls Try.prog 35 #[.int .u32 (x : Int), .int .u8 (k : Int)] w fun e w' => e = .returned (.tuple #[.int .u32 ((encN (dOp x) (dD x) (dA x) (dB x) 0 : Nat) : Int), .int .i64 0]) ∧ Below w.heap.size w w' := by
  obtain ⟨q4, q5, q6, qg, _, hre⟩ := code_facts hk
  have hi0 := fun W => incode_c k W
  rw [hk] at hi0
  have HI := Lib.hid hi0
  have HO := Lib.hid (fun W => op_c k W)
  clear hi0
  have H1 := Lib.hid (fun W => rdec_ok (x := x) W hx h.1)
  have H3 := Lib.hid (fun W => rencode_ok (dOp x) (dD x) (dA x) (dB x) 0 W (by decide) (by decide) (chk_set h 0 (by decide)))
  have hq : (((dOp x : Nat) : Int) != ((opOf k : Nat) : Int)) = false := by rw [h.2, bne_self_eq_false]
  generalize encN (dOp x) (dD x) (dA x) (dB x) 0 = y at H3 ⊢
  generalize dI x = i at H1 hi
  clear h hk hre
  generalize opOf k = z at HO hq
  generalize dOp x = o at H1 hq H3
  generalize dD x = d at H1 H3
  generalize dA x = a at H1 H3
  generalize dB x = b at H1 H3
  go_enter Try.func35, Try.ntmps35
  go_wp2_with (first | (go_at_call 49; (with_reducible refine (HI.out _).mono ?_); rintro e w' ⟨rfl, ⟨nd, rfl⟩⟩; (try first | exact ⟨rfl, _, World.drewN_drewN _ _ _⟩ | exact ⟨rfl, _, Eq.trans (World.drewN_drewN _ _ _) (congrArg (World.drewN _) (Nat.add_assoc _ _ _))⟩)))
  refine (H1.out _).mono ?_
  rintro e w1 ⟨rfl, hb1⟩
  have hbw : Below w.heap.size w w1 := (below_then (below_drewN (Below.refl _ _) _) hb1)
  (go_wp2_with (first | (go_at_call 49; (with_reducible refine (HI.out _).mono ?_); rintro e w' ⟨rfl, ⟨nd, rfl⟩⟩; (try first | exact ⟨rfl, _, World.drewN_drewN _ _ _⟩ | exact ⟨rfl, _, Eq.trans (World.drewN_drewN _ _ _) (congrArg (World.drewN _) (Nat.add_assoc _ _ _))⟩)) | (go_at_call 50; (with_reducible refine (HO.out _).mono ?_); rintro e w' ⟨rfl, ⟨nd, rfl⟩⟩; (try first | exact ⟨rfl, _, World.drewN_drewN _ _ _⟩ | exact ⟨rfl, _, Eq.trans (World.drewN_drewN _ _ _) (congrArg (World.drewN _) (Nat.add_assoc _ _ _))⟩)))); repeat (go_quiet (first | (go_at_call 49; (with_reducible refine (HI.out _).mono ?_); rintro e w' ⟨rfl, ⟨nd, rfl⟩⟩; (try first | exact ⟨rfl, _, World.drewN_drewN _ _ _⟩ | exact ⟨rfl, _, Eq.trans (World.drewN_drewN _ _ _) (congrArg (World.drewN _) (Nat.add_assoc _ _ _))⟩)) | (go_at_call 50; (with_reducible refine (HO.out _).mono ?_); rintro e w' ⟨rfl, ⟨nd, rfl⟩⟩; (try first | exact ⟨rfl, _, World.drewN_drewN _ _ _⟩ | exact ⟨rfl, _, Eq.trans (World.drewN_drewN _ _ _) (congrArg (World.drewN _) (Nat.add_assoc _ _ _))⟩))); try go_wp2_with (first | (go_at_call 49; (with_reducible refine (HI.out _).mono ?_); rintro e w' ⟨rfl, ⟨nd, rfl⟩⟩; (try first | exact ⟨rfl, _, World.drewN_drewN _ _ _⟩ | exact ⟨rfl, _, Eq.trans (World.drewN_drewN _ _ _) (congrArg (World.drewN _) (Nat.add_assoc _ _ _))⟩)) | (go_at_call 50; (with_reducible refine (HO.out _).mono ?_); rintro e w' ⟨rfl, ⟨nd, rfl⟩⟩; (try first | exact ⟨rfl, _, World.drewN_drewN _ _ _⟩ | exact ⟨rfl, _, Eq.trans (World.drewN_drewN _ _ _) (congrArg (World.drewN _) (Nat.add_assoc _ _ _))⟩))))
  refine (H3.out _).mono ?_
  rintro e w2 ⟨rfl, hb2⟩
  go_wp2_with fail
  go_ret2
  have hsz := hbw.size
  refine ⟨rfl, below_then ?_ hb2⟩
  repeat (first | (with_reducible exact hbw) | (with_reducible refine Below.alloc ?_ ?_ _; rotate_left 1; first | exact hbw.size | (simp; omega)) | (with_reducible refine Below.setCell ?_ ?_ _; rotate_left 1; first | exact hbw.size | (simp; omega)) | (with_reducible apply below_drewN))
theorem rapply_c (x k v : Nat) (w : World) (hx : x < 4294967296) (hv : v < 4294967296) :
    Calls Try.prog 31 #[.int .u32 (x : Int), .int .u8 (k : Int), .int .u32 (v : Int)] w fun e w' => e = .returned (.tuple #[.int .u32 ((apX x k v : Nat) : Int), .int .i64 (apE x k v)]) ∧ Below w.heap.size w w' := by
  cases hw : wordK k with
  | true =>
    rcases word_facts hw with e | e | e
    ·
      rw [show apX x k v = v from by unfold apX; simp [hw], show apE x k v = 0 from by unfold apE; simp [hw]]
      exact rap_w4 x k v w hx hv e
    ·
      rw [show apX x k v = v from by unfold apX; simp [hw], show apE x k v = 0 from by unfold apE; simp [hw]]
      exact rap_w5 x k v w hx hv e
    ·
      rw [show apX x k v = v from by unfold apX; simp [hw], show apE x k v = 0 from by unfold apE; simp [hw]]
      exact rap_w6 x k v w hx hv e
  | false =>
    cases hk : codeK k with
    | false =>
      rw [show apX x k v = 0 from by unfold apX; simp [hw, hk], show apE x k v = 2 from by unfold apE; simp [hw, hk]]
      exact rap_n x k v w hx hv (none_facts hw hk)
    | true =>
      by_cases h : bl x k
      · by_cases hi : dI x = 0
        · by_cases h2 : v < 1048576
          ·
            rw [show apX x k v = x + v from by unfold apX; simp [hw, hk, h, hi, h2, Nat.not_le.2 h2], show apE x k v = 0 from by unfold apE; simp [hw, hk, h, hi, h2, Nat.not_le.2 h2]]
            exact rap_f x k v w hx hv hk h hi h2
          ·
            rw [show apX x k v = 0 from by unfold apX; simp [hw, hk, h, hi, h2, Nat.not_lt.1 h2], show apE x k v = 30 from by unfold apE; simp [hw, hk, h, hi, h2, Nat.not_lt.1 h2]]
            exact rap_e x k v w hx hv hk h hi (Nat.not_lt.1 h2)
        ·
          rw [show apX x k v = 0 from by unfold apX; simp [hw, hk, h, hi], show apE x k v = 10 from by unfold apE; simp [hw, hk, h, hi]]
          exact rap_d x k v w hx hv hk h hi
      ·
        rw [show apX x k v = 0 from by unfold apX; simp [hw, hk, h], show apE x k v = 10 from by unfold apE; simp [hw, hk, h]]
        exact rap_c x k v w hx hv hk h
theorem rundo_c (x k : Nat) (w : World) (hx : x < 4294967296) :
    Calls Try.prog 35 #[.int .u32 (x : Int), .int .u8 (k : Int)] w fun e w' => e = .returned (.tuple #[.int .u32 ((unX x k : Nat) : Int), .int .i64 (unE x k)]) ∧ Below w.heap.size w w' := by
  cases hw : wordK k with
  | true =>
    rcases word_facts hw with e | e | e
    ·
      rw [show unX x k = 0 from by unfold unX; simp [hw], show unE x k = 0 from by unfold unE; simp [hw]]
      exact run_w4 x k w hx e
    ·
      rw [show unX x k = 0 from by unfold unX; simp [hw], show unE x k = 0 from by unfold unE; simp [hw]]
      exact run_w5 x k w hx e
    ·
      rw [show unX x k = 0 from by unfold unX; simp [hw], show unE x k = 0 from by unfold unE; simp [hw]]
      exact run_w6 x k w hx e
  | false =>
    cases hk : codeK k with
    | false =>
      rw [show unX x k = 0 from by unfold unX; simp [hw, hk], show unE x k = 2 from by unfold unE; simp [hw, hk]]
      exact run_n x k w hx (none_facts hw hk)
    | true =>
      by_cases h : bl x k
      · by_cases hi : 0 ≤ dI x
        ·
          rw [show unX x k = encN (dOp x) (dD x) (dA x) (dB x) 0 from by unfold unX; simp [hw, hk, h, hi], show unE x k = 0 from by unfold unE; simp [hw, hk, h, hi]]
          exact run_f x k w hx hk h hi
        ·
          rw [show unX x k = 0 from by unfold unX; simp [hw, hk, h, hi], show unE x k = 10 from by unfold unE; simp [hw, hk, h, hi]]
          exact run_d x k w hx hk h (by omega)
      ·
        rw [show unX x k = 0 from by unfold unX; simp [hw, hk, h], show unE x k = 10 from by unfold unE; simp [hw, hk, h]]
        exact run_c x k w hx hk h
end Go.Proofs.Ytgnminoiddnheaa.R4
