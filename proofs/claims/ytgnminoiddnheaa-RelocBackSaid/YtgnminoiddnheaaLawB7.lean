/- The walk of RelocBack, out of contracts. Conditions: the bounds of the kinds. -/
import Derived.Test.YtgnminoiddnheaaLawB6
namespace Go.Proofs.Ytgnminoiddnheaa.B7
set_option linter.unusedVariables false
open Go.RowKit Go.Proofs.Ytgnminoiddnheaa.WM Go.Proofs.Ytgnminoiddnheaa.IM Go.Proofs.Ytgnminoiddnheaa.W1 Go.Proofs.Ytgnminoiddnheaa.I1 Go.Proofs.Ytgnminoiddnheaa.I2 Go.Proofs.Ytgnminoiddnheaa.I6 Go.Proofs.Ytgnminoiddnheaa.I7 Go.Proofs.Ytgnminoiddnheaa.I8 Go.Proofs.Ytgnminoiddnheaa.I9 Go.Proofs.Ytgnminoiddnheaa.R2 Go.Proofs.Ytgnminoiddnheaa.R1 Go.Proofs.Ytgnminoiddnheaa.R3 Go.Proofs.Ytgnminoiddnheaa.R4 Go.Proofs.Ytgnminoiddnheaa.B4 Go.Proofs.Ytgnminoiddnheaa.B6
theorem back_n (x k v : Nat) (w : World) (hx : x < 4294967296) (hv : v < 4294967296) (hk : 7 < k) : Calls Try.prog 15 #[.int .u32 (x : Int), .int .u8 (k : Int), .int .u32 (v : Int)] w fun e w' => e = .returned (.bool true) ∧ Below w.heap.size w w' := by
  have H1 := Lib.hid (fun W => ap_n x k v W hx hv hk)
  have H5 := Lib.hid (fun W => reach_c k W)
  have qg : (7 : Int) < (k : Int) := by omega
  clear hk
  go_enter Try.func15, Try.ntmps15
  go_wp2_with fail
  refine (H1.out _).mono ?_
  rintro e w1 ⟨rfl, hb1⟩
  (go_wp2_with (first | (go_at_call 32; (with_reducible refine (H5.out _).mono ?_); rintro e w' ⟨rfl, ⟨nd, rfl⟩⟩; (try first | exact ⟨rfl, _, World.drewN_drewN _ _ _⟩ | exact ⟨rfl, _, Eq.trans (World.drewN_drewN _ _ _) (congrArg (World.drewN _) (Nat.add_assoc _ _ _))⟩)) | (go_at_call 29; (with_reducible refine (Go.Proofs.Ytgnminoiddnheaa.B4.awake_c _).mono ?_); rintro e w' ⟨rfl, hb⟩))); repeat (go_quiet (first | (go_at_call 32; (with_reducible refine (H5.out _).mono ?_); rintro e w' ⟨rfl, ⟨nd, rfl⟩⟩; (try first | exact ⟨rfl, _, World.drewN_drewN _ _ _⟩ | exact ⟨rfl, _, Eq.trans (World.drewN_drewN _ _ _) (congrArg (World.drewN _) (Nat.add_assoc _ _ _))⟩)) | (go_at_call 29; (with_reducible refine (Go.Proofs.Ytgnminoiddnheaa.B4.awake_c _).mono ?_); rintro e w' ⟨rfl, hb⟩)); try go_wp2_with (first | (go_at_call 32; (with_reducible refine (H5.out _).mono ?_); rintro e w' ⟨rfl, ⟨nd, rfl⟩⟩; (try first | exact ⟨rfl, _, World.drewN_drewN _ _ _⟩ | exact ⟨rfl, _, Eq.trans (World.drewN_drewN _ _ _) (congrArg (World.drewN _) (Nat.add_assoc _ _ _))⟩)) | (go_at_call 29; (with_reducible refine (Go.Proofs.Ytgnminoiddnheaa.B4.awake_c _).mono ?_); rintro e w' ⟨rfl, hb⟩)))
  go_ret
  exact ⟨by first | rfl | exact ret_bool (by simp; omega), below_then hb1 hb⟩
theorem back_10 (x k v : Nat) (w : World) (hx : x < 4294967296) (hv : v < 4294967296) (hk : codeK k = true) (h : ¬ (bl x k ∧ dI x = 0)) : Calls Try.prog 15 #[.int .u32 (x : Int), .int .u8 (k : Int), .int .u32 (v : Int)] w fun e w' => e = .returned (.bool true) ∧ Below w.heap.size w w' := by
  obtain ⟨q4, q5, q6, qg, _, hre⟩ := code_facts hk
  have H5 := Lib.hid (fun W => reach_c k W)
  have H1 := Lib.hid (fun W => show Calls Try.prog 30 #[.int .u32 (x : Int), .int .u8 (k : Int), .int .u32 (v : Int)] W (fun e w' => e = .returned (.tuple #[.int .u32 0, .int .i64 10]) ∧ Below W.heap.size W w') from by
    by_cases hb : bl x k
    · exact ap_d x k v W hx hv hk hb (fun e => h ⟨hb, e⟩)
    · exact ap_c x k v W hx hv hk hb)
  clear h hk hre
  go_enter Try.func15, Try.ntmps15
  go_wp2_with fail
  refine (H1.out _).mono ?_
  rintro e w1 ⟨rfl, hb1⟩
  (go_wp2_with (first | (go_at_call 32; (with_reducible refine (H5.out _).mono ?_); rintro e w' ⟨rfl, ⟨nd, rfl⟩⟩; (try first | exact ⟨rfl, _, World.drewN_drewN _ _ _⟩ | exact ⟨rfl, _, Eq.trans (World.drewN_drewN _ _ _) (congrArg (World.drewN _) (Nat.add_assoc _ _ _))⟩)) | (go_at_call 29; (with_reducible refine (Go.Proofs.Ytgnminoiddnheaa.B4.awake_c _).mono ?_); rintro e w' ⟨rfl, hb⟩))); repeat (go_quiet (first | (go_at_call 32; (with_reducible refine (H5.out _).mono ?_); rintro e w' ⟨rfl, ⟨nd, rfl⟩⟩; (try first | exact ⟨rfl, _, World.drewN_drewN _ _ _⟩ | exact ⟨rfl, _, Eq.trans (World.drewN_drewN _ _ _) (congrArg (World.drewN _) (Nat.add_assoc _ _ _))⟩)) | (go_at_call 29; (with_reducible refine (Go.Proofs.Ytgnminoiddnheaa.B4.awake_c _).mono ?_); rintro e w' ⟨rfl, hb⟩)); try go_wp2_with (first | (go_at_call 32; (with_reducible refine (H5.out _).mono ?_); rintro e w' ⟨rfl, ⟨nd, rfl⟩⟩; (try first | exact ⟨rfl, _, World.drewN_drewN _ _ _⟩ | exact ⟨rfl, _, Eq.trans (World.drewN_drewN _ _ _) (congrArg (World.drewN _) (Nat.add_assoc _ _ _))⟩)) | (go_at_call 29; (with_reducible refine (Go.Proofs.Ytgnminoiddnheaa.B4.awake_c _).mono ?_); rintro e w' ⟨rfl, hb⟩)))
  go_ret
  exact ⟨by first | rfl | exact ret_bool (by simp; omega), below_then hb1 hb⟩
theorem back_30 (x k v : Nat) (w : World) (hx : x < 4294967296) (hv : v < 4294967296) (hk : codeK k = true) (h : bl x k) (hi : dI x = 0) (h2 : 1048576 ≤ v) : Calls Try.prog 15 #[.int .u32 (x : Int), .int .u8 (k : Int), .int .u32 (v : Int)] w fun e w' => e = .returned (.bool true) ∧ Below w.heap.size w w' := by
  obtain ⟨q4, q5, q6, qg, _, hre⟩ := code_facts hk
  have h5 := fun W => reach_c k W
  rw [hre] at h5
  have H5 := Lib.hid h5
  have H1 := Lib.hid (fun W => ap_e x k v W hx hv hk h hi h2)
  have hr1 : (1048575 : Int) < (v : Int) := by omega
  clear h hk hre hi h5
  go_enter Try.func15, Try.ntmps15
  go_wp2_with fail
  refine (H1.out _).mono ?_
  rintro e w1 ⟨rfl, hb1⟩
  (go_wp2_with (first | (go_at_call 32; (with_reducible refine (H5.out _).mono ?_); rintro e w' ⟨rfl, ⟨nd, rfl⟩⟩; (try first | exact ⟨rfl, _, World.drewN_drewN _ _ _⟩ | exact ⟨rfl, _, Eq.trans (World.drewN_drewN _ _ _) (congrArg (World.drewN _) (Nat.add_assoc _ _ _))⟩)) | (go_at_call 29; (with_reducible refine (Go.Proofs.Ytgnminoiddnheaa.B4.awake_c _).mono ?_); rintro e w' ⟨rfl, hb⟩))); repeat (go_quiet (first | (go_at_call 32; (with_reducible refine (H5.out _).mono ?_); rintro e w' ⟨rfl, ⟨nd, rfl⟩⟩; (try first | exact ⟨rfl, _, World.drewN_drewN _ _ _⟩ | exact ⟨rfl, _, Eq.trans (World.drewN_drewN _ _ _) (congrArg (World.drewN _) (Nat.add_assoc _ _ _))⟩)) | (go_at_call 29; (with_reducible refine (Go.Proofs.Ytgnminoiddnheaa.B4.awake_c _).mono ?_); rintro e w' ⟨rfl, hb⟩)); try go_wp2_with (first | (go_at_call 32; (with_reducible refine (H5.out _).mono ?_); rintro e w' ⟨rfl, ⟨nd, rfl⟩⟩; (try first | exact ⟨rfl, _, World.drewN_drewN _ _ _⟩ | exact ⟨rfl, _, Eq.trans (World.drewN_drewN _ _ _) (congrArg (World.drewN _) (Nat.add_assoc _ _ _))⟩)) | (go_at_call 29; (with_reducible refine (Go.Proofs.Ytgnminoiddnheaa.B4.awake_c _).mono ?_); rintro e w' ⟨rfl, hb⟩)))
  go_ret
  exact ⟨by first | rfl | exact ret_bool (by simp; omega), below_then hb1 (below_then (below_drewN (Below.refl _ _) _) hb)⟩
theorem back_w4 (x k v : Nat) (w : World) (hx : x < 4294967296) (hv : v < 4294967296) (hk : k = 4) : Calls Try.prog 15 #[.int .u32 (x : Int), .int .u8 (k : Int), .int .u32 (v : Int)] w fun e w' => e = .returned (.bool true) ∧ Below w.heap.size w w' := by
  have H1 := Lib.hid (fun W => ap_w4 x k v W hx hv hk)
  have H2 := Lib.hid (fun W => un_w4 v k W hv hk)
  have H3 := Lib.hid (fun W => Go.Proofs.Ytgnminoiddnheaa.B1.decode_c v W hv)
  have q0 : ((k : Int) == 0) = false := by rw [hk]; rfl
  have q1 : ((k : Int) == 1) = false := by rw [hk]; rfl
  have q2 : ((k : Int) == 2) = false := by rw [hk]; rfl
  have q3 : ((k : Int) == 3) = false := by rw [hk]; rfl
  have q4 : ((k : Int) == 4) = true := by rw [hk]; rfl
  have q5 : ((k : Int) == 5) = false := by rw [hk]; rfl
  have q6 : ((k : Int) == 6) = false := by rw [hk]; rfl
  have q7 : ((k : Int) == 7) = false := by rw [hk]; rfl
  have qg : (k : Int) ≤ 7 := by omega
  clear hk
  generalize Go.Proofs.Ytgnminoiddnheaa.B1.zo v = g0 at H3
  generalize Go.Proofs.Ytgnminoiddnheaa.B1.zd v = g1 at H3
  generalize Go.Proofs.Ytgnminoiddnheaa.B1.za v = g2 at H3
  generalize Go.Proofs.Ytgnminoiddnheaa.B1.zb v = g3 at H3
  generalize Go.Proofs.Ytgnminoiddnheaa.B1.zi v = g4 at H3
  generalize Go.Proofs.Ytgnminoiddnheaa.B1.zc v = g5 at H3
  go_enter Try.func15, Try.ntmps15
  go_wp2_with fail
  refine (H1.out _).mono ?_
  rintro e w1 ⟨rfl, hb1⟩
  go_wp2_with fail
  refine (H2.out _).mono ?_
  rintro e w2 ⟨rfl, hb2⟩
  go_wp2_with fail
  refine (H3.out _).mono ?_
  rintro e w3 ⟨rfl, hb3⟩
  go_wp2_with fail
  refine (Go.Proofs.Ytgnminoiddnheaa.B4.awake_c _).mono ?_
  rintro e w4 ⟨rfl, hb4⟩
  go_wp2_with fail
  go_ret
  exact ⟨rfl, below_then (below_then (below_then hb1 hb2) hb3) (boxed hb4)⟩
theorem back_w5 (x k v : Nat) (w : World) (hx : x < 4294967296) (hv : v < 4294967296) (hk : k = 5) : Calls Try.prog 15 #[.int .u32 (x : Int), .int .u8 (k : Int), .int .u32 (v : Int)] w fun e w' => e = .returned (.bool true) ∧ Below w.heap.size w w' := by
  have H1 := Lib.hid (fun W => ap_w5 x k v W hx hv hk)
  have H2 := Lib.hid (fun W => un_w5 v k W hv hk)
  have H3 := Lib.hid (fun W => Go.Proofs.Ytgnminoiddnheaa.B1.decode_c v W hv)
  have q0 : ((k : Int) == 0) = false := by rw [hk]; rfl
  have q1 : ((k : Int) == 1) = false := by rw [hk]; rfl
  have q2 : ((k : Int) == 2) = false := by rw [hk]; rfl
  have q3 : ((k : Int) == 3) = false := by rw [hk]; rfl
  have q4 : ((k : Int) == 4) = false := by rw [hk]; rfl
  have q5 : ((k : Int) == 5) = true := by rw [hk]; rfl
  have q6 : ((k : Int) == 6) = false := by rw [hk]; rfl
  have q7 : ((k : Int) == 7) = false := by rw [hk]; rfl
  have qg : (k : Int) ≤ 7 := by omega
  clear hk
  generalize Go.Proofs.Ytgnminoiddnheaa.B1.zo v = g0 at H3
  generalize Go.Proofs.Ytgnminoiddnheaa.B1.zd v = g1 at H3
  generalize Go.Proofs.Ytgnminoiddnheaa.B1.za v = g2 at H3
  generalize Go.Proofs.Ytgnminoiddnheaa.B1.zb v = g3 at H3
  generalize Go.Proofs.Ytgnminoiddnheaa.B1.zi v = g4 at H3
  generalize Go.Proofs.Ytgnminoiddnheaa.B1.zc v = g5 at H3
  go_enter Try.func15, Try.ntmps15
  go_wp2_with fail
  refine (H1.out _).mono ?_
  rintro e w1 ⟨rfl, hb1⟩
  go_wp2_with fail
  refine (H2.out _).mono ?_
  rintro e w2 ⟨rfl, hb2⟩
  go_wp2_with fail
  refine (H3.out _).mono ?_
  rintro e w3 ⟨rfl, hb3⟩
  go_wp2_with fail
  refine (Go.Proofs.Ytgnminoiddnheaa.B4.awake_c _).mono ?_
  rintro e w4 ⟨rfl, hb4⟩
  go_wp2_with fail
  go_ret
  exact ⟨rfl, below_then (below_then (below_then hb1 hb2) hb3) (boxed hb4)⟩
theorem back_w6 (x k v : Nat) (w : World) (hx : x < 4294967296) (hv : v < 4294967296) (hk : k = 6) : Calls Try.prog 15 #[.int .u32 (x : Int), .int .u8 (k : Int), .int .u32 (v : Int)] w fun e w' => e = .returned (.bool true) ∧ Below w.heap.size w w' := by
  have H1 := Lib.hid (fun W => ap_w6 x k v W hx hv hk)
  have H2 := Lib.hid (fun W => un_w6 v k W hv hk)
  have H3 := Lib.hid (fun W => Go.Proofs.Ytgnminoiddnheaa.B1.decode_c v W hv)
  have q0 : ((k : Int) == 0) = false := by rw [hk]; rfl
  have q1 : ((k : Int) == 1) = false := by rw [hk]; rfl
  have q2 : ((k : Int) == 2) = false := by rw [hk]; rfl
  have q3 : ((k : Int) == 3) = false := by rw [hk]; rfl
  have q4 : ((k : Int) == 4) = false := by rw [hk]; rfl
  have q5 : ((k : Int) == 5) = false := by rw [hk]; rfl
  have q6 : ((k : Int) == 6) = true := by rw [hk]; rfl
  have q7 : ((k : Int) == 7) = false := by rw [hk]; rfl
  have qg : (k : Int) ≤ 7 := by omega
  clear hk
  generalize Go.Proofs.Ytgnminoiddnheaa.B1.zo v = g0 at H3
  generalize Go.Proofs.Ytgnminoiddnheaa.B1.zd v = g1 at H3
  generalize Go.Proofs.Ytgnminoiddnheaa.B1.za v = g2 at H3
  generalize Go.Proofs.Ytgnminoiddnheaa.B1.zb v = g3 at H3
  generalize Go.Proofs.Ytgnminoiddnheaa.B1.zi v = g4 at H3
  generalize Go.Proofs.Ytgnminoiddnheaa.B1.zc v = g5 at H3
  go_enter Try.func15, Try.ntmps15
  go_wp2_with fail
  refine (H1.out _).mono ?_
  rintro e w1 ⟨rfl, hb1⟩
  go_wp2_with fail
  refine (H2.out _).mono ?_
  rintro e w2 ⟨rfl, hb2⟩
  go_wp2_with fail
  refine (H3.out _).mono ?_
  rintro e w3 ⟨rfl, hb3⟩
  go_wp2_with fail
  refine (Go.Proofs.Ytgnminoiddnheaa.B4.awake_c _).mono ?_
  rintro e w4 ⟨rfl, hb4⟩
  go_wp2_with fail
  go_ret
  exact ⟨rfl, below_then (below_then (below_then hb1 hb2) hb3) (boxed hb4)⟩
theorem back_c0 (x k v : Nat) (w : World) (hx : x < 4294967296) (hv : v < 4294967296) (hk : k = 0) (h : bl x k) (hi : dI x = 0) (h2 : v < 1048576) : Calls Try.prog 15 #[.int .u32 (x : Int), .int .u8 (k : Int), .int .u32 (v : Int)] w fun e w' => e = .returned (.bool true) ∧ Below w.heap.size w w' := by
  have hc : codeK k = true := by rw [hk]; rfl
  have ho : dOp x = 17 := by rw [h.2, hk]; rfl
  have H1 := Lib.hid (fun W => ap_f x k v W hx hv hc h hi h2)
  have H2 := Lib.hid (fun W => put_undo (k := k) W hc h hi h2)
  have h3 := fun W => put_dec (k := k) W h hi h2
  rw [ho] at h3
  have H3 := Lib.hid h3
  have hch := chk_set h v h2
  rw [ho] at hch
  have hvm : (v : Int) % 4294967296 = (v : Int) := by omega
  obtain ⟨y, hy⟩ : ∃ y : Nat, y = x + v := ⟨_, rfl⟩
  rw [← hy] at H1 H2 H3
  clear hy h hc hi h3 ho
  have q0 : ((k : Int) == 0) = true := by rw [hk]; rfl
  have q1 : ((k : Int) == 1) = false := by rw [hk]; rfl
  have q2 : ((k : Int) == 2) = false := by rw [hk]; rfl
  have q3 : ((k : Int) == 3) = false := by rw [hk]; rfl
  have q4 : ((k : Int) == 4) = false := by rw [hk]; rfl
  have q5 : ((k : Int) == 5) = false := by rw [hk]; rfl
  have q6 : ((k : Int) == 6) = false := by rw [hk]; rfl
  have q7 : ((k : Int) == 7) = false := by rw [hk]; rfl
  have qg : (k : Int) ≤ 7 := by omega
  clear hk
  generalize dD x = d at H3 hch
  generalize dA x = a at H3 hch
  generalize dB x = b at H3 hch
  have h4 := fun W => target 0 17 d a b (v : Int) W (by omega) (by omega)
  have ht : tgtB 17 d a b (v : Int) = true := by unfold tgtB; exact decide_eq_true ⟨hch, .inr (.inr (.inr rfl))⟩
  rw [tgt_call ht rfl, ht, hvm] at h4
  have H4 := Lib.hid h4
  clear h4 ht hch
  go_enter Try.func15, Try.ntmps15
  go_wp2_with fail
  refine (H1.out _).mono ?_
  rintro e w1 ⟨rfl, hb1⟩
  go_wp2_with fail
  refine (H2.out _).mono ?_
  rintro e w2 ⟨rfl, hb2⟩
  go_wp2_with fail
  refine (H3.out _).mono ?_
  rintro e w3 ⟨rfl, hb3⟩
  go_wp2_with fail
  refine (H4.out _).mono ?_
  rintro e w5 ⟨rfl, hb5⟩
  go_wp2_with fail
  refine (Go.Proofs.Ytgnminoiddnheaa.B4.awake_c _).mono ?_
  rintro e w4 ⟨rfl, hb4⟩
  go_wp2_with fail
  go_ret
  exact ⟨rfl, below_then (below_then (below_then hb1 hb2) hb3) (boxed (below_then hb5 hb4))⟩
theorem back_c1 (x k v : Nat) (w : World) (hx : x < 4294967296) (hv : v < 4294967296) (hk : k = 1) (h : bl x k) (hi : dI x = 0) (h2 : v < 1048576) : Calls Try.prog 15 #[.int .u32 (x : Int), .int .u8 (k : Int), .int .u32 (v : Int)] w fun e w' => e = .returned (.bool true) ∧ Below w.heap.size w w' := by
  have hc : codeK k = true := by rw [hk]; rfl
  have ho : dOp x = 2 := by rw [h.2, hk]; rfl
  have H1 := Lib.hid (fun W => ap_f x k v W hx hv hc h hi h2)
  have H2 := Lib.hid (fun W => put_undo (k := k) W hc h hi h2)
  have h3 := fun W => put_dec (k := k) W h hi h2
  rw [ho] at h3
  have H3 := Lib.hid h3
  have hch := chk_set h v h2
  rw [ho] at hch
  have hvm : (v : Int) % 4294967296 = (v : Int) := by omega
  obtain ⟨y, hy⟩ : ∃ y : Nat, y = x + v := ⟨_, rfl⟩
  rw [← hy] at H1 H2 H3
  clear hy h hc hi h3 ho
  have q0 : ((k : Int) == 0) = false := by rw [hk]; rfl
  have q1 : ((k : Int) == 1) = true := by rw [hk]; rfl
  have q2 : ((k : Int) == 2) = false := by rw [hk]; rfl
  have q3 : ((k : Int) == 3) = false := by rw [hk]; rfl
  have q4 : ((k : Int) == 4) = false := by rw [hk]; rfl
  have q5 : ((k : Int) == 5) = false := by rw [hk]; rfl
  have q6 : ((k : Int) == 6) = false := by rw [hk]; rfl
  have q7 : ((k : Int) == 7) = false := by rw [hk]; rfl
  have qg : (k : Int) ≤ 7 := by omega
  clear hk
  generalize dD x = d at H3 hch
  generalize dA x = a at H3 hch
  generalize dB x = b at H3 hch
  clear hch
  go_enter Try.func15, Try.ntmps15
  go_wp2_with fail
  refine (H1.out _).mono ?_
  rintro e w1 ⟨rfl, hb1⟩
  go_wp2_with fail
  refine (H2.out _).mono ?_
  rintro e w2 ⟨rfl, hb2⟩
  go_wp2_with fail
  refine (H3.out _).mono ?_
  rintro e w3 ⟨rfl, hb3⟩
  go_wp2_with fail
  refine (Go.Proofs.Ytgnminoiddnheaa.B4.awake_c _).mono ?_
  rintro e w4 ⟨rfl, hb4⟩
  go_wp2_with fail
  go_ret
  exact ⟨rfl, below_then (below_then (below_then hb1 hb2) hb3) (boxed hb4)⟩
theorem back_c2 (x k v : Nat) (w : World) (hx : x < 4294967296) (hv : v < 4294967296) (hk : k = 2) (h : bl x k) (hi : dI x = 0) (h2 : v < 1048576) : Calls Try.prog 15 #[.int .u32 (x : Int), .int .u8 (k : Int), .int .u32 (v : Int)] w fun e w' => e = .returned (.bool true) ∧ Below w.heap.size w w' := by
  have hc : codeK k = true := by rw [hk]; rfl
  have ho : dOp x = 2 := by rw [h.2, hk]; rfl
  have H1 := Lib.hid (fun W => ap_f x k v W hx hv hc h hi h2)
  have H2 := Lib.hid (fun W => put_undo (k := k) W hc h hi h2)
  have h3 := fun W => put_dec (k := k) W h hi h2
  rw [ho] at h3
  have H3 := Lib.hid h3
  have hch := chk_set h v h2
  rw [ho] at hch
  have hvm : (v : Int) % 4294967296 = (v : Int) := by omega
  obtain ⟨y, hy⟩ : ∃ y : Nat, y = x + v := ⟨_, rfl⟩
  rw [← hy] at H1 H2 H3
  clear hy h hc hi h3 ho
  have q0 : ((k : Int) == 0) = false := by rw [hk]; rfl
  have q1 : ((k : Int) == 1) = false := by rw [hk]; rfl
  have q2 : ((k : Int) == 2) = true := by rw [hk]; rfl
  have q3 : ((k : Int) == 3) = false := by rw [hk]; rfl
  have q4 : ((k : Int) == 4) = false := by rw [hk]; rfl
  have q5 : ((k : Int) == 5) = false := by rw [hk]; rfl
  have q6 : ((k : Int) == 6) = false := by rw [hk]; rfl
  have q7 : ((k : Int) == 7) = false := by rw [hk]; rfl
  have qg : (k : Int) ≤ 7 := by omega
  clear hk
  generalize dD x = d at H3 hch
  generalize dA x = a at H3 hch
  generalize dB x = b at H3 hch
  clear hch
  go_enter Try.func15, Try.ntmps15
  go_wp2_with fail
  refine (H1.out _).mono ?_
  rintro e w1 ⟨rfl, hb1⟩
  go_wp2_with fail
  refine (H2.out _).mono ?_
  rintro e w2 ⟨rfl, hb2⟩
  go_wp2_with fail
  refine (H3.out _).mono ?_
  rintro e w3 ⟨rfl, hb3⟩
  go_wp2_with fail
  refine (Go.Proofs.Ytgnminoiddnheaa.B4.awake_c _).mono ?_
  rintro e w4 ⟨rfl, hb4⟩
  go_wp2_with fail
  go_ret
  exact ⟨rfl, below_then (below_then (below_then hb1 hb2) hb3) (boxed hb4)⟩
theorem back_c3 (x k v : Nat) (w : World) (hx : x < 4294967296) (hv : v < 4294967296) (hk : k = 3) (h : bl x k) (hi : dI x = 0) (h2 : v < 1048576) : Calls Try.prog 15 #[.int .u32 (x : Int), .int .u8 (k : Int), .int .u32 (v : Int)] w fun e w' => e = .returned (.bool true) ∧ Below w.heap.size w w' := by
  have hc : codeK k = true := by rw [hk]; rfl
  have ho : dOp x = 2 := by rw [h.2, hk]; rfl
  have H1 := Lib.hid (fun W => ap_f x k v W hx hv hc h hi h2)
  have H2 := Lib.hid (fun W => put_undo (k := k) W hc h hi h2)
  have h3 := fun W => put_dec (k := k) W h hi h2
  rw [ho] at h3
  have H3 := Lib.hid h3
  have hch := chk_set h v h2
  rw [ho] at hch
  have hvm : (v : Int) % 4294967296 = (v : Int) := by omega
  obtain ⟨y, hy⟩ : ∃ y : Nat, y = x + v := ⟨_, rfl⟩
  rw [← hy] at H1 H2 H3
  clear hy h hc hi h3 ho
  have q0 : ((k : Int) == 0) = false := by rw [hk]; rfl
  have q1 : ((k : Int) == 1) = false := by rw [hk]; rfl
  have q2 : ((k : Int) == 2) = false := by rw [hk]; rfl
  have q3 : ((k : Int) == 3) = true := by rw [hk]; rfl
  have q4 : ((k : Int) == 4) = false := by rw [hk]; rfl
  have q5 : ((k : Int) == 5) = false := by rw [hk]; rfl
  have q6 : ((k : Int) == 6) = false := by rw [hk]; rfl
  have q7 : ((k : Int) == 7) = false := by rw [hk]; rfl
  have qg : (k : Int) ≤ 7 := by omega
  clear hk
  generalize dD x = d at H3 hch
  generalize dA x = a at H3 hch
  generalize dB x = b at H3 hch
  clear hch
  go_enter Try.func15, Try.ntmps15
  go_wp2_with fail
  refine (H1.out _).mono ?_
  rintro e w1 ⟨rfl, hb1⟩
  go_wp2_with fail
  refine (H2.out _).mono ?_
  rintro e w2 ⟨rfl, hb2⟩
  go_wp2_with fail
  refine (H3.out _).mono ?_
  rintro e w3 ⟨rfl, hb3⟩
  go_wp2_with fail
  refine (Go.Proofs.Ytgnminoiddnheaa.B4.awake_c _).mono ?_
  rintro e w4 ⟨rfl, hb4⟩
  go_wp2_with fail
  go_ret
  exact ⟨rfl, below_then (below_then (below_then hb1 hb2) hb3) (boxed hb4)⟩
theorem back_c7 (x k v : Nat) (w : World) (hx : x < 4294967296) (hv : v < 4294967296) (hk : k = 7) (h : bl x k) (hi : dI x = 0) (h2 : v < 1048576) : Calls Try.prog 15 #[.int .u32 (x : Int), .int .u8 (k : Int), .int .u32 (v : Int)] w fun e w' => e = .returned (.bool true) ∧ Below w.heap.size w w' := by
  have hc : codeK k = true := by rw [hk]; rfl
  have ho : dOp x = 17 := by rw [h.2, hk]; rfl
  have H1 := Lib.hid (fun W => ap_f x k v W hx hv hc h hi h2)
  have H2 := Lib.hid (fun W => put_undo (k := k) W hc h hi h2)
  have h3 := fun W => put_dec (k := k) W h hi h2
  rw [ho] at h3
  have H3 := Lib.hid h3
  have hch := chk_set h v h2
  rw [ho] at hch
  have hvm : (v : Int) % 4294967296 = (v : Int) := by omega
  obtain ⟨y, hy⟩ : ∃ y : Nat, y = x + v := ⟨_, rfl⟩
  rw [← hy] at H1 H2 H3
  clear hy h hc hi h3 ho
  have q0 : ((k : Int) == 0) = false := by rw [hk]; rfl
  have q1 : ((k : Int) == 1) = false := by rw [hk]; rfl
  have q2 : ((k : Int) == 2) = false := by rw [hk]; rfl
  have q3 : ((k : Int) == 3) = false := by rw [hk]; rfl
  have q4 : ((k : Int) == 4) = false := by rw [hk]; rfl
  have q5 : ((k : Int) == 5) = false := by rw [hk]; rfl
  have q6 : ((k : Int) == 6) = false := by rw [hk]; rfl
  have q7 : ((k : Int) == 7) = true := by rw [hk]; rfl
  have qg : (k : Int) ≤ 7 := by omega
  clear hk
  generalize dD x = d at H3 hch
  generalize dA x = a at H3 hch
  generalize dB x = b at H3 hch
  have h4 := fun W => target 0 17 d a b (v : Int) W (by omega) (by omega)
  have ht : tgtB 17 d a b (v : Int) = true := by unfold tgtB; exact decide_eq_true ⟨hch, .inr (.inr (.inr rfl))⟩
  rw [tgt_call ht rfl, ht, hvm] at h4
  have H4 := Lib.hid h4
  clear h4 ht hch
  go_enter Try.func15, Try.ntmps15
  go_wp2_with fail
  refine (H1.out _).mono ?_
  rintro e w1 ⟨rfl, hb1⟩
  go_wp2_with fail
  refine (H2.out _).mono ?_
  rintro e w2 ⟨rfl, hb2⟩
  go_wp2_with fail
  refine (H3.out _).mono ?_
  rintro e w3 ⟨rfl, hb3⟩
  go_wp2_with fail
  refine (H4.out _).mono ?_
  rintro e w5 ⟨rfl, hb5⟩
  go_wp2_with fail
  refine (Go.Proofs.Ytgnminoiddnheaa.B4.awake_c _).mono ?_
  rintro e w4 ⟨rfl, hb4⟩
  go_wp2_with fail
  go_ret
  exact ⟨rfl, below_then (below_then (below_then hb1 hb2) hb3) (boxed (below_then hb5 hb4))⟩
theorem law_back (x k v : Nat) (w : World) (hx : x < 4294967296) (hv : v < 4294967296) (hkl : k < 256) : Calls Try.prog 15 #[.int .u32 (x : Int), .int .u8 (k : Int), .int .u32 (v : Int)] w fun e w' => e = .returned (.bool true) ∧ Below w.heap.size w w' := by
  by_cases h7 : 7 < k
  · exact back_n x k v w hx hv h7
  cases hw : wordK k with
  | true =>
    rcases word_facts hw with e | e | e
    · exact back_w4 x k v w hx hv e
    · exact back_w5 x k v w hx hv e
    · exact back_w6 x k v w hx hv e
  | false =>
    cases hk : codeK k with
    | false => exact absurd (none_facts hw hk) h7
    | true =>
      by_cases h : bl x k ∧ dI x = 0
      · by_cases h2 : v < 1048576
        · rcases kinds k with e | e | e | e | e | e | e | e | e
          · exact back_c0 x k v w hx hv e h.1 h.2 h2
          · exact back_c1 x k v w hx hv e h.1 h.2 h2
          · exact back_c2 x k v w hx hv e h.1 h.2 h2
          · exact back_c3 x k v w hx hv e h.1 h.2 h2
          · subst e; cases hk
          · subst e; cases hk
          · subst e; cases hk
          · exact back_c7 x k v w hx hv e h.1 h.2 h2
          · exact absurd e h7
        · exact back_30 x k v w hx hv hk h.1 h.2 (Nat.not_lt.1 h2)
      · exact back_10 x k v w hx hv hk h
end Go.Proofs.Ytgnminoiddnheaa.B7
