/- The walk of RelocKeeps, out of contracts. Conditions: the bounds of the kinds. -/
import Derived.Test.YtgnminoiddnheaaLawB4
namespace Go.Proofs.Ytgnminoiddnheaa.B6
set_option linter.unusedVariables false
open Go.RowKit Go.Proofs.Ytgnminoiddnheaa.WM Go.Proofs.Ytgnminoiddnheaa.IM Go.Proofs.Ytgnminoiddnheaa.W1 Go.Proofs.Ytgnminoiddnheaa.I1 Go.Proofs.Ytgnminoiddnheaa.I2 Go.Proofs.Ytgnminoiddnheaa.I6 Go.Proofs.Ytgnminoiddnheaa.I7 Go.Proofs.Ytgnminoiddnheaa.I8 Go.Proofs.Ytgnminoiddnheaa.I9 Go.Proofs.Ytgnminoiddnheaa.R2 Go.Proofs.Ytgnminoiddnheaa.R1 Go.Proofs.Ytgnminoiddnheaa.R3 Go.Proofs.Ytgnminoiddnheaa.R4 Go.Proofs.Ytgnminoiddnheaa.B4
/-- The word with the number. -/
theorem put_parts {x k v : Nat} (h : bl x k) (hi : dI x = 0) (h2 : v < 1048576) : bl (x + v) k ∧ dOp (x + v) = dOp x ∧ dD (x + v) = dD x ∧ dA (x + v) = dA x ∧ dB (x + v) = dB x ∧ dI (x + v) = (v : Int) ∧ x + v < 4294967296 ∧ encN (dOp x) (dD x) (dA x) (dB x) 0 = x := by
  have hc := chk_set h v h2
  have e := enc_set h hi v h2
  have hm := chk_may hc
  obtain ⟨e0, e1, e2, e3, e4⟩ := dec_enc hm
  have ok := ok_enc hm
  have hl := encN_lt hm
  rw [e] at e0 e1 e2 e3 e4 ok hl
  have ez := enc_set h hi 0 (by decide)
  exact ⟨⟨ok, by rw [e0]; exact h.2⟩, e0, e1, e2, e3, e4, hl, ez⟩
theorem put_dec {x k v : Nat} (w : World) (h : bl x k) (hi : dI x = 0) (h2 : v < 1048576) : Calls Try.prog 23 #[.int .u32 ((x + v : Nat) : Int)] w fun e w' => e = .returned (.tuple #[ins (dOp x) (dD x) (dA x) (dB x) (v : Int), .int .i64 0]) ∧ Below w.heap.size w w' := by
  obtain ⟨hb, e0, e1, e2, e3, e4, hl, _⟩ := put_parts h hi h2
  have g := Go.Proofs.Ytgnminoiddnheaa.B1.dec_ok (x := x + v) w hl hb.1
  rwa [e0, e1, e2, e3, e4] at g
theorem put_undo {x k v : Nat} (w : World) (hk : codeK k = true) (h : bl x k) (hi : dI x = 0) (h2 : v < 1048576) : Calls Try.prog 34 #[.int .u32 ((x + v : Nat) : Int), .int .u8 (k : Int)] w fun e w' => e = .returned (.tuple #[.int .u32 (x : Int), .int .i64 0]) ∧ Below w.heap.size w w' := by
  obtain ⟨hb, e0, e1, e2, e3, e4, hl, ez⟩ := put_parts h hi h2
  have g := un_f (x + v) k w hl hk hb (by rw [e4]; omega)
  rwa [e0, e1, e2, e3, ez] at g
theorem keeps_a (x k v : Nat) (w : World) (hx : x < 4294967296) (hv : v < 4294967296) (h : apE x k v ≠ 0) : Calls Try.prog 13 #[.int .u32 (x : Int), .int .u8 (k : Int), .int .u32 (v : Int)] w fun e w' => e = .returned (.bool true) ∧ Below w.heap.size w w' := by
  have H1 := Lib.hid (fun W => apply_c x k v W hx hv)
  generalize apX x k v = y at H1
  generalize apE x k v = c at H1 h
  have hq : (c != 0) = true := by rw [bne_iff_ne]; exact h
  clear h
  go_enter Try.func13, Try.ntmps13
  go_wp2_with fail
  refine (H1.out _).mono ?_
  rintro e w1 ⟨rfl, hb1⟩
  go_wp2_with fail
  refine (Go.Proofs.Ytgnminoiddnheaa.B4.awake_c _).mono ?_
  rintro e w2 ⟨rfl, hb2⟩
  go_wp2_with fail
  go_ret
  exact ⟨rfl, below_then hb1 hb2⟩
theorem keeps_w4 (x k v : Nat) (w : World) (hx : x < 4294967296) (hv : v < 4294967296) (hk : k = 4) : Calls Try.prog 13 #[.int .u32 (x : Int), .int .u8 (k : Int), .int .u32 (v : Int)] w fun e w' => e = .returned (.bool true) ∧ Below w.heap.size w w' := by
  have H1 := Lib.hid (fun W => ap_w4 x k v W hx hv hk)
  have q0 : ((k : Int) == 0) = false := by rw [hk]; rfl
  have q1 : ((k : Int) == 1) = false := by rw [hk]; rfl
  have q2 : ((k : Int) == 2) = false := by rw [hk]; rfl
  have q3 : ((k : Int) == 3) = false := by rw [hk]; rfl
  have q4 : ((k : Int) == 4) = true := by rw [hk]; rfl
  have q5 : ((k : Int) == 5) = false := by rw [hk]; rfl
  have q6 : ((k : Int) == 6) = false := by rw [hk]; rfl
  have q7 : ((k : Int) == 7) = false := by rw [hk]; rfl
  have qg : (k : Int) ≤ 7 := by omega
  clear hk
  go_enter Try.func13, Try.ntmps13
  go_wp2_with fail
  refine (H1.out _).mono ?_
  rintro e w1 ⟨rfl, hb1⟩
  go_wp2_with fail
  refine (Go.Proofs.Ytgnminoiddnheaa.B4.awake_c _).mono ?_
  rintro e w2 ⟨rfl, hb2⟩
  go_wp2_with fail
  go_ret
  exact ⟨rfl, below_then hb1 hb2⟩
theorem keeps_w5 (x k v : Nat) (w : World) (hx : x < 4294967296) (hv : v < 4294967296) (hk : k = 5) : Calls Try.prog 13 #[.int .u32 (x : Int), .int .u8 (k : Int), .int .u32 (v : Int)] w fun e w' => e = .returned (.bool true) ∧ Below w.heap.size w w' := by
  have H1 := Lib.hid (fun W => ap_w5 x k v W hx hv hk)
  have q0 : ((k : Int) == 0) = false := by rw [hk]; rfl
  have q1 : ((k : Int) == 1) = false := by rw [hk]; rfl
  have q2 : ((k : Int) == 2) = false := by rw [hk]; rfl
  have q3 : ((k : Int) == 3) = false := by rw [hk]; rfl
  have q4 : ((k : Int) == 4) = false := by rw [hk]; rfl
  have q5 : ((k : Int) == 5) = true := by rw [hk]; rfl
  have q6 : ((k : Int) == 6) = false := by rw [hk]; rfl
  have q7 : ((k : Int) == 7) = false := by rw [hk]; rfl
  have qg : (k : Int) ≤ 7 := by omega
  clear hk
  go_enter Try.func13, Try.ntmps13
  go_wp2_with fail
  refine (H1.out _).mono ?_
  rintro e w1 ⟨rfl, hb1⟩
  go_wp2_with fail
  refine (Go.Proofs.Ytgnminoiddnheaa.B4.awake_c _).mono ?_
  rintro e w2 ⟨rfl, hb2⟩
  go_wp2_with fail
  go_ret
  exact ⟨rfl, below_then hb1 hb2⟩
theorem keeps_w6 (x k v : Nat) (w : World) (hx : x < 4294967296) (hv : v < 4294967296) (hk : k = 6) : Calls Try.prog 13 #[.int .u32 (x : Int), .int .u8 (k : Int), .int .u32 (v : Int)] w fun e w' => e = .returned (.bool true) ∧ Below w.heap.size w w' := by
  have H1 := Lib.hid (fun W => ap_w6 x k v W hx hv hk)
  have q0 : ((k : Int) == 0) = false := by rw [hk]; rfl
  have q1 : ((k : Int) == 1) = false := by rw [hk]; rfl
  have q2 : ((k : Int) == 2) = false := by rw [hk]; rfl
  have q3 : ((k : Int) == 3) = false := by rw [hk]; rfl
  have q4 : ((k : Int) == 4) = false := by rw [hk]; rfl
  have q5 : ((k : Int) == 5) = false := by rw [hk]; rfl
  have q6 : ((k : Int) == 6) = true := by rw [hk]; rfl
  have q7 : ((k : Int) == 7) = false := by rw [hk]; rfl
  have qg : (k : Int) ≤ 7 := by omega
  clear hk
  go_enter Try.func13, Try.ntmps13
  go_wp2_with fail
  refine (H1.out _).mono ?_
  rintro e w1 ⟨rfl, hb1⟩
  go_wp2_with fail
  refine (Go.Proofs.Ytgnminoiddnheaa.B4.awake_c _).mono ?_
  rintro e w2 ⟨rfl, hb2⟩
  go_wp2_with fail
  go_ret
  exact ⟨rfl, below_then hb1 hb2⟩
theorem keeps_c (x k v : Nat) (w : World) (hx : x < 4294967296) (hv : v < 4294967296) (hk : codeK k = true) (h : bl x k) (hi : dI x = 0) (h2 : v < 1048576) : Calls Try.prog 13 #[.int .u32 (x : Int), .int .u8 (k : Int), .int .u32 (v : Int)] w fun e w' => e = .returned (.bool true) ∧ Below w.heap.size w w' := by
  obtain ⟨q4, q5, q6, qg, _, hre⟩ := code_facts hk
  have H1 := Lib.hid (fun W => ap_f x k v W hx hv hk h hi h2)
  have h3 := fun W => Go.Proofs.Ytgnminoiddnheaa.B1.dec_ok (x := x) W hx h.1
  rw [hi] at h3
  have H3 := Lib.hid h3
  have H4 := Lib.hid (fun W => put_dec (k := k) W h hi h2)
  have h5 := fun W => reach_c k W
  rw [hre] at h5
  have H5 := Lib.hid h5
  have hr1 : (v : Int) ≤ 1048575 := by omega
  obtain ⟨y, hy⟩ : ∃ y : Nat, y = x + v := ⟨_, rfl⟩
  rw [← hy] at H1 H4
  clear hy h hk hre hi h3 h5
  generalize dOp x = o at H3 H4
  generalize dD x = d at H3 H4
  generalize dA x = a at H3 H4
  generalize dB x = b at H3 H4
  go_enter Try.func13, Try.ntmps13
  go_wp2_with fail
  refine (H1.out _).mono ?_
  rintro e w1 ⟨rfl, hb1⟩
  go_wp2_with fail
  refine (H3.out _).mono ?_
  rintro e w2 ⟨rfl, hb2⟩
  have kI := Blk.new w2 24 #[.int .u8 (o : Int), .int .u8 (d : Int), .int .u8 (a : Int), .int .u8 (b : Int), .int .i32 0]
  go_wp2_with fail
  refine (H4.out _).mono ?_
  rintro e w3 ⟨rfl, hb3⟩
  have kI := (kI.kept hb3).alloc (.cells #[.int .u8 (o : Int), .int .u8 (d : Int), .int .u8 (a : Int), .int .u8 (b : Int), .int .i32 (v : Int)] 24)
  obtain ⟨c0, c1, c2, c3, c4⟩ := kI.five
  (go_wp2_with (first | (go_at_call 32; (with_reducible refine (H5.out _).mono ?_); rintro e w' ⟨rfl, ⟨nd, rfl⟩⟩; (try first | exact ⟨rfl, _, World.drewN_drewN _ _ _⟩ | exact ⟨rfl, _, Eq.trans (World.drewN_drewN _ _ _) (congrArg (World.drewN _) (Nat.add_assoc _ _ _))⟩)) | (go_at_call 29; (with_reducible refine (Go.Proofs.Ytgnminoiddnheaa.B4.awake_c _).mono ?_); rintro e w' ⟨rfl, hb⟩))); repeat (go_quiet (first | (go_at_call 32; (with_reducible refine (H5.out _).mono ?_); rintro e w' ⟨rfl, ⟨nd, rfl⟩⟩; (try first | exact ⟨rfl, _, World.drewN_drewN _ _ _⟩ | exact ⟨rfl, _, Eq.trans (World.drewN_drewN _ _ _) (congrArg (World.drewN _) (Nat.add_assoc _ _ _))⟩)) | (go_at_call 29; (with_reducible refine (Go.Proofs.Ytgnminoiddnheaa.B4.awake_c _).mono ?_); rintro e w' ⟨rfl, hb⟩)); try go_wp2_with (first | (go_at_call 32; (with_reducible refine (H5.out _).mono ?_); rintro e w' ⟨rfl, ⟨nd, rfl⟩⟩; (try first | exact ⟨rfl, _, World.drewN_drewN _ _ _⟩ | exact ⟨rfl, _, Eq.trans (World.drewN_drewN _ _ _) (congrArg (World.drewN _) (Nat.add_assoc _ _ _))⟩)) | (go_at_call 29; (with_reducible refine (Go.Proofs.Ytgnminoiddnheaa.B4.awake_c _).mono ?_); rintro e w' ⟨rfl, hb⟩)))
  go_ret
  have hs3 := hb3.size
  refine ⟨rfl, below_then (below_then hb1 hb2) (boxed (below_then hb3 ?_))⟩
  exact boxed (below_then (below_drewN (Below.refl _ _) _) hb)
theorem law_keeps (x k v : Nat) (w : World) (hx : x < 4294967296) (hv : v < 4294967296) : Calls Try.prog 13 #[.int .u32 (x : Int), .int .u8 (k : Int), .int .u32 (v : Int)] w fun e w' => e = .returned (.bool true) ∧ Below w.heap.size w w' := by
  by_cases h : apE x k v = 0
  · cases hw : wordK k with
    | true =>
      rcases word_facts hw with e | e | e
      · exact keeps_w4 x k v w hx hv e
      · exact keeps_w5 x k v w hx hv e
      · exact keeps_w6 x k v w hx hv e
    | false =>
      cases hk : codeK k with
      | false => exfalso; revert h; unfold apE; simp [hw, hk]
      | true =>
        by_cases hb : bl x k ∧ dI x = 0
        · by_cases h2 : v < 1048576
          · exact keeps_c x k v w hx hv hk hb.1 hb.2 h2
          · exfalso; revert h; unfold apE; simp [hw, hk, hb, Nat.not_lt.1 h2]
        · exfalso; revert h; unfold apE; simp only [hw, hk, hb]; simp
  · exact keeps_a x k v w hx hv h
end Go.Proofs.Ytgnminoiddnheaa.B6
