/- Contracts of reloc.Apply and reloc.Undo. Conditions: the bounds of the kinds. -/
import Derived.Test.YtgnminoiddnheaaRel1
namespace Go.Proofs.Ytgnminoiddnheaa.R3
set_option linter.unusedVariables false
open Go.RowKit Go.Proofs.Ytgnminoiddnheaa.WM Go.Proofs.Ytgnminoiddnheaa.IM Go.Proofs.Ytgnminoiddnheaa.W1 Go.Proofs.Ytgnminoiddnheaa.I1 Go.Proofs.Ytgnminoiddnheaa.I2 Go.Proofs.Ytgnminoiddnheaa.I6 Go.Proofs.Ytgnminoiddnheaa.I7 Go.Proofs.Ytgnminoiddnheaa.I8 Go.Proofs.Ytgnminoiddnheaa.I9 Go.Proofs.Ytgnminoiddnheaa.B1 Go.Proofs.Ytgnminoiddnheaa.R2 Go.Proofs.Ytgnminoiddnheaa.R1
instance (x : Nat) : Decidable (okD x) := by unfold okD; exact inferInstance
def bl (x k : Nat) : Prop := okD x ∧ dOp x = opOf k
instance (x k : Nat) : Decidable (bl x k) := by unfold bl; exact inferInstance
def apX (x k v : Nat) : Nat := if wordK k = true then v else if codeK k = false then 0 else if bl x k ∧ dI x = 0 ∧ v < 1048576 then x + v else 0
def apE (x k v : Nat) : Int := if wordK k = true then 0 else if codeK k = false then 2 else if ¬ (bl x k ∧ dI x = 0) then 10 else if 1048576 ≤ v then 30 else 0
def unX (x k : Nat) : Nat := if wordK k = true then 0 else if codeK k = false then 0 else if bl x k ∧ 0 ≤ dI x then encN (dOp x) (dD x) (dA x) (dB x) 0 else 0
def unE (x k : Nat) : Int := if wordK k = true then 0 else if codeK k = false then 2 else if bl x k ∧ 0 ≤ dI x then 0 else 10
theorem opOf_or (k : Nat) : opOf k = 2 ∨ opOf k = 17 := by unfold opOf; split <;> simp
/-- Any number that is not too great may stand there. -/
theorem chk_set {x k : Nat} (h : bl x k) (v : Nat) (hv : v < 1048576) : chk (dOp x) (dD x) (dA x) (dB x) (v : Int) = 0 := by
  obtain ⟨hk, ho⟩ := h
  have hm := (okD_may hk).good
  have h2 : dOp x = 2 ∨ dOp x = 17 := by rw [ho]; exact opOf_or k
  refine may_chk ⟨⟨hm.ho, hm.hd, hm.ha, hm.hb, .inl ?_⟩, ?_, fun _ => by omega, fun e => by omega⟩
  · rcases h2 with e | e <;> rw [e] <;> rfl
  · unfold fitsB; simp; omega
theorem enc_set {x k : Nat} (h : bl x k) (hi : dI x = 0) (v : Nat) (hv : v < 1048576) : encN (dOp x) (dD x) (dA x) (dB x) (v : Int) = x + v := by
  have e := h.1.2
  rw [hi] at e
  unfold encN at e ⊢
  omega
theorem code_facts {k : Nat} (h : codeK k = true) : ((k : Int) == 4) = false ∧ ((k : Int) == 5) = false ∧ ((k : Int) == 6) = false ∧ (k : Int) ≤ 7 ∧ wordK k = false ∧ reachV k = 1048575 := by
  rcases kinds k with e | e | e | e | e | e | e | e | e
  case inr.inr.inr.inr.inr.inr.inr.inr => rw [(big_no e).2.1] at h; cases h
  all_goals subst e; revert h; decide
theorem word_facts {k : Nat} (h : wordK k = true) : k = 4 ∨ k = 5 ∨ k = 6 := by
  rcases kinds k with e | e | e | e | e | e | e | e | e
  case inr.inr.inr.inr.inr.inr.inr.inr => rw [(big_no e).1] at h; cases h
  all_goals subst e; revert h; decide
theorem none_facts {k : Nat} (h : wordK k = false) (h' : codeK k = false) : 7 < k := by
  rcases kinds k with e | e | e | e | e | e | e | e | e
  case inr.inr.inr.inr.inr.inr.inr.inr => exact e
  all_goals subst e; revert h h'; decide
theorem blank_bad (x k : Nat) (w : World) (hx : x < 4294967296) (h : ¬ bl x k) :
    Calls Try.prog 48 #[.int .u32 (x : Int), .int .u8 (k : Int)] w fun e w' => e = .returned (.tuple #[.agg #[.int .u8 0, .int .u8 0, .int .u8 0, .int .u8 0, .int .i32 0], .int .i32 0, .int .i64 10]) ∧ Below w.heap.size w w' := by
  by_cases hk : okD x
  · exact blank_bad2 x k w hx hk (fun e => h ⟨hk, e⟩)
  · exact blank_bad1 x k w hx hk
theorem fits_lo (v : Nat) (h : v < 1048576) (w : World) : Calls Try.prog 37 #[.int .i64 (v : Int), .int .i64 21] w fun e w' => e = .returned (.bool true) ∧ Drew w w' := fits_at w (by unfold fitsB; simp; omega)
theorem fits_hi (v : Nat) (h : 1048576 ≤ v) (w : World) : Calls Try.prog 37 #[.int .i64 (v : Int), .int .i64 21] w fun e w' => e = .returned (.bool false) ∧ Drew w w' := fits_at w (by unfold fitsB; simp; omega)
theorem ap_w4 (x k v : Nat) (w : World) (hx : x < 4294967296) (hv : v < 4294967296) (hk : k = 4) : Calls Try.prog 30 #[.int .u32 (x : Int), .int .u8 (k : Int), .int .u32 (v : Int)] w fun e w' => e = .returned (.tuple #[.int .u32 (v : Int), .int .i64 0]) ∧ Below w.heap.size w w' := by
  have q4 : ((k : Int) == 4) = true := by rw [hk]; rfl
  have q5 : ((k : Int) == 5) = false := by rw [hk]; rfl
  have q6 : ((k : Int) == 6) = false := by rw [hk]; rfl
  have qg : (k : Int) ≤ 7 := by omega
  clear hk
  go_enter Try.func30, Try.ntmps30
  go_wp2_with fail
  go_ret2
  exact ⟨rfl, Drew.below (by repeat (first | exact Drew.refl _ | apply Drew.step | apply Drew.step1))⟩
theorem ap_w5 (x k v : Nat) (w : World) (hx : x < 4294967296) (hv : v < 4294967296) (hk : k = 5) : Calls Try.prog 30 #[.int .u32 (x : Int), .int .u8 (k : Int), .int .u32 (v : Int)] w fun e w' => e = .returned (.tuple #[.int .u32 (v : Int), .int .i64 0]) ∧ Below w.heap.size w w' := by
  have q4 : ((k : Int) == 4) = false := by rw [hk]; rfl
  have q5 : ((k : Int) == 5) = true := by rw [hk]; rfl
  have q6 : ((k : Int) == 6) = false := by rw [hk]; rfl
  have qg : (k : Int) ≤ 7 := by omega
  clear hk
  go_enter Try.func30, Try.ntmps30
  go_wp2_with fail
  go_ret2
  exact ⟨rfl, Drew.below (by repeat (first | exact Drew.refl _ | apply Drew.step | apply Drew.step1))⟩
theorem ap_w6 (x k v : Nat) (w : World) (hx : x < 4294967296) (hv : v < 4294967296) (hk : k = 6) : Calls Try.prog 30 #[.int .u32 (x : Int), .int .u8 (k : Int), .int .u32 (v : Int)] w fun e w' => e = .returned (.tuple #[.int .u32 (v : Int), .int .i64 0]) ∧ Below w.heap.size w w' := by
  have q4 : ((k : Int) == 4) = false := by rw [hk]; rfl
  have q5 : ((k : Int) == 5) = false := by rw [hk]; rfl
  have q6 : ((k : Int) == 6) = true := by rw [hk]; rfl
  have qg : (k : Int) ≤ 7 := by omega
  clear hk
  go_enter Try.func30, Try.ntmps30
  go_wp2_with fail
  go_ret2
  exact ⟨rfl, Drew.below (by repeat (first | exact Drew.refl _ | apply Drew.step | apply Drew.step1))⟩
theorem ap_n (x k v : Nat) (w : World) (hx : x < 4294967296) (hv : v < 4294967296) (hk : 7 < k) : Calls Try.prog 30 #[.int .u32 (x : Int), .int .u8 (k : Int), .int .u32 (v : Int)] w fun e w' => e = .returned (.tuple #[.int .u32 0, .int .i64 2]) ∧ Below w.heap.size w w' := by
  have q4 : ((k : Int) == 4) = false := by rw [beq_eq_false_iff_ne]; omega
  have q5 : ((k : Int) == 5) = false := by rw [beq_eq_false_iff_ne]; omega
  have q6 : ((k : Int) == 6) = false := by rw [beq_eq_false_iff_ne]; omega
  have qg : (7 : Int) < (k : Int) := by omega
  clear hk
  go_enter Try.func30, Try.ntmps30
  go_wp2_with fail
  go_ret2
  exact ⟨rfl, Below.refl _ _⟩
theorem ap_c (x k v : Nat) (w : World) (hx : x < 4294967296) (hv : v < 4294967296) (hk : codeK k = true) (h : ¬ bl x k) : Calls Try.prog 30 #[.int .u32 (x : Int), .int .u8 (k : Int), .int .u32 (v : Int)] w fun e w' => e = .returned (.tuple #[.int .u32 0, .int .i64 10]) ∧ Below w.heap.size w w' := by
  obtain ⟨q4, q5, q6, qg, _, hre⟩ := code_facts hk
  have H1 := Lib.hid (fun W => blank_bad x k W hx h)
  clear h hk hre
  go_enter Try.func30, Try.ntmps30
  go_wp2_with fail
  refine (H1.out _).mono ?_
  rintro e w1 ⟨rfl, hb1⟩
  go_wp2_with fail
  go_ret2
  exact ⟨rfl, hb1.alloc hb1.size _⟩
theorem ap_d (x k v : Nat) (w : World) (hx : x < 4294967296) (hv : v < 4294967296) (hk : codeK k = true) (h : bl x k) (hi : dI x ≠ 0) : Calls Try.prog 30 #[.int .u32 (x : Int), .int .u8 (k : Int), .int .u32 (v : Int)] w fun e w' => e = .returned (.tuple #[.int .u32 0, .int .i64 10]) ∧ Below w.heap.size w w' := by
  obtain ⟨q4, q5, q6, qg, _, hre⟩ := code_facts hk
  have H1 := Lib.hid (fun W => blank_ok x k W hx h.1 h.2)
  have hq : (dI x != 0) = true := by rw [bne_iff_ne]; exact hi
  generalize dI x = i at H1 hq
  clear h hk hre hi
  generalize dOp x = o at H1
  generalize dD x = d at H1
  generalize dA x = a at H1
  generalize dB x = b at H1
  go_enter Try.func30, Try.ntmps30
  go_wp2_with fail
  refine (H1.out _).mono ?_
  rintro e w1 ⟨rfl, hb1⟩
  go_wp2_with fail
  go_ret2
  exact ⟨rfl, hb1.alloc hb1.size _⟩
theorem ap_e (x k v : Nat) (w : World) (hx : x < 4294967296) (hv : v < 4294967296) (hk : codeK k = true) (h : bl x k) (hi : dI x = 0) (h2 : 1048576 ≤ v) : Calls Try.prog 30 #[.int .u32 (x : Int), .int .u8 (k : Int), .int .u32 (v : Int)] w fun e w' => e = .returned (.tuple #[.int .u32 0, .int .i64 30]) ∧ Below w.heap.size w w' := by
  obtain ⟨q4, q5, q6, qg, _, hre⟩ := code_facts hk
  have h1 := fun W => blank_ok x k W hx h.1 h.2
  rw [hi] at h1
  have H1 := Lib.hid h1
  have HF := Lib.hid (fits_hi v h2)
  clear h hk hre hi h1 h2
  generalize dOp x = o at H1
  generalize dD x = d at H1
  generalize dA x = a at H1
  generalize dB x = b at H1
  go_enter Try.func30, Try.ntmps30
  go_wp2_with fail
  refine (H1.out _).mono ?_
  rintro e w1 ⟨rfl, hb1⟩
  go_wp2_with (first | (go_at_call 37; (with_reducible refine (HF.out _).mono ?_); rintro e w' ⟨rfl, ⟨nd, rfl⟩⟩; (try first | exact ⟨rfl, _, World.drewN_drewN _ _ _⟩ | exact ⟨rfl, _, Eq.trans (World.drewN_drewN _ _ _) (congrArg (World.drewN _) (Nat.add_assoc _ _ _))⟩)))
  go_ret2
  have hsz := hb1.size
  refine ⟨rfl, ?_⟩
  repeat (first | (with_reducible exact hb1) | (with_reducible refine Below.alloc ?_ ?_ _; rotate_left 1; first | exact hb1.size | (simp; omega)) | (with_reducible refine Below.setCell ?_ ?_ _; rotate_left 1; first | exact hb1.size | (simp; omega)) | (with_reducible apply below_drewN))
set_option maxRecDepth 100000 in
theorem ap_f (x k v : Nat) (w : World) (hx : x < 4294967296) (hv : v < 4294967296) (hk : codeK k = true) (h : bl x k) (hi : dI x = 0) (h2 : v < 1048576) : Calls Try.prog 30 #[.int .u32 (x : Int), .int .u8 (k : Int), .int .u32 (v : Int)] w fun e w' => e = .returned (.tuple #[.int .u32 ((x + v : Nat) : Int), .int .i64 0]) ∧ Below w.heap.size w w' := by
  obtain ⟨q4, q5, q6, qg, _, hre⟩ := code_facts hk
  have h1 := fun W => blank_ok x k W hx h.1 h.2
  rw [hi] at h1
  have H1 := Lib.hid h1
  have HF := Lib.hid (fits_lo v h2)
  have h3 := fun W => encode_ok (dOp x) (dD x) (dA x) (dB x) (v : Int) W (by omega) (by omega) (chk_set h v h2)
  rw [enc_set h hi v h2] at h3
  obtain ⟨y, hy⟩ : ∃ y : Nat, y = x + v := ⟨_, rfl⟩
  rw [← hy] at h3 ⊢
  clear hy
  have H3 := Lib.hid h3
  clear h hk hre hi h1 h3
  generalize dOp x = o at H1 H3
  generalize dD x = d at H1 H3
  generalize dA x = a at H1 H3
  generalize dB x = b at H1 H3
  go_enter Try.func30, Try.ntmps30
  go_wp2_with fail
  refine (H1.out _).mono ?_
  rintro e w1 ⟨rfl, hb1⟩
  have kI := Blk.new w1 24 #[.int .u8 (o : Int), .int .u8 (d : Int), .int .u8 (a : Int), .int .u8 (b : Int), .int .i32 0]
  go_wp2_with (first | (go_at_call 37; (with_reducible refine (HF.out _).mono ?_); rintro e w' ⟨rfl, ⟨nd, rfl⟩⟩; (try first | exact ⟨rfl, _, World.drewN_drewN _ _ _⟩ | exact ⟨rfl, _, Eq.trans (World.drewN_drewN _ _ _) (congrArg (World.drewN _) (Nat.add_assoc _ _ _))⟩)))
  refine (H3.out _).mono ?_
  rintro e w2 ⟨rfl, hb2⟩
  go_wp2_with fail
  go_ret2
  have hsz := hb1.size
  refine ⟨rfl, below_then ?_ hb2⟩
  repeat (first | (with_reducible exact hb1) | (with_reducible refine Below.alloc ?_ ?_ _; rotate_left 1; first | exact hb1.size | (simp; omega)) | (with_reducible refine Below.setCell ?_ ?_ _; rotate_left 1; first | exact hb1.size | (simp; omega)) | (with_reducible apply below_drewN))
theorem un_w4 (x k : Nat) (w : World) (hx : x < 4294967296) (hk : k = 4) : Calls Try.prog 34 #[.int .u32 (x : Int), .int .u8 (k : Int)] w fun e w' => e = .returned (.tuple #[.int .u32 0, .int .i64 0]) ∧ Below w.heap.size w w' := by
  have q4 : ((k : Int) == 4) = true := by rw [hk]; rfl
  have q5 : ((k : Int) == 5) = false := by rw [hk]; rfl
  have q6 : ((k : Int) == 6) = false := by rw [hk]; rfl
  have qg : (k : Int) ≤ 7 := by omega
  clear hk
  go_enter Try.func34, Try.ntmps34
  go_wp2_with fail
  go_ret2
  exact ⟨rfl, Drew.below (by repeat (first | exact Drew.refl _ | apply Drew.step | apply Drew.step1))⟩
theorem un_w5 (x k : Nat) (w : World) (hx : x < 4294967296) (hk : k = 5) : Calls Try.prog 34 #[.int .u32 (x : Int), .int .u8 (k : Int)] w fun e w' => e = .returned (.tuple #[.int .u32 0, .int .i64 0]) ∧ Below w.heap.size w w' := by
  have q4 : ((k : Int) == 4) = false := by rw [hk]; rfl
  have q5 : ((k : Int) == 5) = true := by rw [hk]; rfl
  have q6 : ((k : Int) == 6) = false := by rw [hk]; rfl
  have qg : (k : Int) ≤ 7 := by omega
  clear hk
  go_enter Try.func34, Try.ntmps34
  go_wp2_with fail
  go_ret2
  exact ⟨rfl, Drew.below (by repeat (first | exact Drew.refl _ | apply Drew.step | apply Drew.step1))⟩
theorem un_w6 (x k : Nat) (w : World) (hx : x < 4294967296) (hk : k = 6) : Calls Try.prog 34 #[.int .u32 (x : Int), .int .u8 (k : Int)] w fun e w' => e = .returned (.tuple #[.int .u32 0, .int .i64 0]) ∧ Below w.heap.size w w' := by
  have q4 : ((k : Int) == 4) = false := by rw [hk]; rfl
  have q5 : ((k : Int) == 5) = false := by rw [hk]; rfl
  have q6 : ((k : Int) == 6) = true := by rw [hk]; rfl
  have qg : (k : Int) ≤ 7 := by omega
  clear hk
  go_enter Try.func34, Try.ntmps34
  go_wp2_with fail
  go_ret2
  exact ⟨rfl, Drew.below (by repeat (first | exact Drew.refl _ | apply Drew.step | apply Drew.step1))⟩
theorem un_n (x k : Nat) (w : World) (hx : x < 4294967296) (hk : 7 < k) : Calls Try.prog 34 #[.int .u32 (x : Int), .int .u8 (k : Int)] w fun e w' => e = .returned (.tuple #[.int .u32 0, .int .i64 2]) ∧ Below w.heap.size w w' := by
  have q4 : ((k : Int) == 4) = false := by rw [beq_eq_false_iff_ne]; omega
  have q5 : ((k : Int) == 5) = false := by rw [beq_eq_false_iff_ne]; omega
  have q6 : ((k : Int) == 6) = false := by rw [beq_eq_false_iff_ne]; omega
  have qg : (7 : Int) < (k : Int) := by omega
  clear hk
  go_enter Try.func34, Try.ntmps34
  go_wp2_with fail
  go_ret2
  exact ⟨rfl, Below.refl _ _⟩
theorem un_c (x k : Nat) (w : World) (hx : x < 4294967296) (hk : codeK k = true) (h : ¬ bl x k) : Calls Try.prog 34 #[.int .u32 (x : Int), .int .u8 (k : Int)] w fun e w' => e = .returned (.tuple #[.int .u32 0, .int .i64 10]) ∧ Below w.heap.size w w' := by
  obtain ⟨q4, q5, q6, qg, _, hre⟩ := code_facts hk
  have H1 := Lib.hid (fun W => blank_bad x k W hx h)
  clear h hk hre
  go_enter Try.func34, Try.ntmps34
  go_wp2_with fail
  refine (H1.out _).mono ?_
  rintro e w1 ⟨rfl, hb1⟩
  go_wp2_with fail
  go_ret2
  exact ⟨rfl, hb1.alloc hb1.size _⟩
theorem un_d (x k : Nat) (w : World) (hx : x < 4294967296) (hk : codeK k = true) (h : bl x k) (hi : dI x < 0) : Calls Try.prog 34 #[.int .u32 (x : Int), .int .u8 (k : Int)] w fun e w' => e = .returned (.tuple #[.int .u32 0, .int .i64 10]) ∧ Below w.heap.size w w' := by
  obtain ⟨q4, q5, q6, qg, _, hre⟩ := code_facts hk
  have H1 := Lib.hid (fun W => blank_ok x k W hx h.1 h.2)
  generalize dI x = i at H1 hi
  clear h hk hre
  generalize dOp x = o at H1
  generalize dD x = d at H1
  generalize dA x = a at H1
  generalize dB x = b at H1
  go_enter Try.func34, Try.ntmps34
  go_wp2_with fail
  refine (H1.out _).mono ?_
  rintro e w1 ⟨rfl, hb1⟩
  go_wp2_with fail
  go_ret2
  exact ⟨rfl, hb1.alloc hb1.size _⟩
theorem un_f (x k : Nat) (w : World) (hx : x < 4294967296) (hk : codeK k = true) (h : bl x k) (hi : 0 ≤ dI x) : Calls Try.prog 34 #[.int .u32 (x : Int), .int .u8 (k : Int)] w fun e w' => e = .returned (.tuple #[.int .u32 ((encN (dOp x) (dD x) (dA x) (dB x) 0 : Nat) : Int), .int .i64 0]) ∧ Below w.heap.size w w' := by
  obtain ⟨q4, q5, q6, qg, _, hre⟩ := code_facts hk
  have H1 := Lib.hid (fun W => blank_ok x k W hx h.1 h.2)
  have H3 := Lib.hid (fun W => encode_ok (dOp x) (dD x) (dA x) (dB x) 0 W (by decide) (by decide) (chk_set h 0 (by decide)))
  generalize encN (dOp x) (dD x) (dA x) (dB x) 0 = y at H3 ⊢
  generalize dI x = i at H1 hi
  clear h hk hre
  generalize dOp x = o at H1 H3
  generalize dD x = d at H1 H3
  generalize dA x = a at H1 H3
  generalize dB x = b at H1 H3
  go_enter Try.func34, Try.ntmps34
  go_wp2_with fail
  refine (H1.out _).mono ?_
  rintro e w1 ⟨rfl, hb1⟩
  go_wp2_with fail
  refine (H3.out _).mono ?_
  rintro e w2 ⟨rfl, hb2⟩
  go_wp2_with fail
  go_ret2
  exact ⟨rfl, below_then (hb1.alloc hb1.size _) hb2⟩
theorem apply_c (x k v : Nat) (w : World) (hx : x < 4294967296) (hv : v < 4294967296) :
    Calls Try.prog 30 #[.int .u32 (x : Int), .int .u8 (k : Int), .int .u32 (v : Int)] w fun e w' => e = .returned (.tuple #[.int .u32 ((apX x k v : Nat) : Int), .int .i64 (apE x k v)]) ∧ Below w.heap.size w w' := by
  cases hw : wordK k with
  | true =>
    rcases word_facts hw with e | e | e
    ·
      rw [show apX x k v = v from by unfold apX; simp [hw], show apE x k v = 0 from by unfold apE; simp [hw]]
      exact ap_w4 x k v w hx hv e
    ·
      rw [show apX x k v = v from by unfold apX; simp [hw], show apE x k v = 0 from by unfold apE; simp [hw]]
      exact ap_w5 x k v w hx hv e
    ·
      rw [show apX x k v = v from by unfold apX; simp [hw], show apE x k v = 0 from by unfold apE; simp [hw]]
      exact ap_w6 x k v w hx hv e
  | false =>
    cases hk : codeK k with
    | false =>
      rw [show apX x k v = 0 from by unfold apX; simp [hw, hk], show apE x k v = 2 from by unfold apE; simp [hw, hk]]
      exact ap_n x k v w hx hv (none_facts hw hk)
    | true =>
      by_cases h : bl x k
      · by_cases hi : dI x = 0
        · by_cases h2 : v < 1048576
          ·
            rw [show apX x k v = x + v from by unfold apX; simp [hw, hk, h, hi, h2, Nat.not_le.2 h2], show apE x k v = 0 from by unfold apE; simp [hw, hk, h, hi, h2, Nat.not_le.2 h2]]
            exact ap_f x k v w hx hv hk h hi h2
          ·
            rw [show apX x k v = 0 from by unfold apX; simp [hw, hk, h, hi, h2, Nat.not_lt.1 h2], show apE x k v = 30 from by unfold apE; simp [hw, hk, h, hi, h2, Nat.not_lt.1 h2]]
            exact ap_e x k v w hx hv hk h hi (Nat.not_lt.1 h2)
        ·
          rw [show apX x k v = 0 from by unfold apX; simp [hw, hk, h, hi], show apE x k v = 10 from by unfold apE; simp [hw, hk, h, hi]]
          exact ap_d x k v w hx hv hk h hi
      ·
        rw [show apX x k v = 0 from by unfold apX; simp [hw, hk, h], show apE x k v = 10 from by unfold apE; simp [hw, hk, h]]
        exact ap_c x k v w hx hv hk h
theorem undo_c (x k : Nat) (w : World) (hx : x < 4294967296) :
    Calls Try.prog 34 #[.int .u32 (x : Int), .int .u8 (k : Int)] w fun e w' => e = .returned (.tuple #[.int .u32 ((unX x k : Nat) : Int), .int .i64 (unE x k)]) ∧ Below w.heap.size w w' := by
  cases hw : wordK k with
  | true =>
    rcases word_facts hw with e | e | e
    ·
      rw [show unX x k = 0 from by unfold unX; simp [hw], show unE x k = 0 from by unfold unE; simp [hw]]
      exact un_w4 x k w hx e
    ·
      rw [show unX x k = 0 from by unfold unX; simp [hw], show unE x k = 0 from by unfold unE; simp [hw]]
      exact un_w5 x k w hx e
    ·
      rw [show unX x k = 0 from by unfold unX; simp [hw], show unE x k = 0 from by unfold unE; simp [hw]]
      exact un_w6 x k w hx e
  | false =>
    cases hk : codeK k with
    | false =>
      rw [show unX x k = 0 from by unfold unX; simp [hw, hk], show unE x k = 2 from by unfold unE; simp [hw, hk]]
      exact un_n x k w hx (none_facts hw hk)
    | true =>
      by_cases h : bl x k
      · by_cases hi : 0 ≤ dI x
        ·
          rw [show unX x k = encN (dOp x) (dD x) (dA x) (dB x) 0 from by unfold unX; simp [hw, hk, h, hi], show unE x k = 0 from by unfold unE; simp [hw, hk, h, hi]]
          exact un_f x k w hx hk h hi
        ·
          rw [show unX x k = 0 from by unfold unX; simp [hw, hk, h, hi], show unE x k = 10 from by unfold unE; simp [hw, hk, h, hi]]
          exact un_d x k w hx hk h (by omega)
      ·
        rw [show unX x k = 0 from by unfold unX; simp [hw, hk, h], show unE x k = 10 from by unfold unE; simp [hw, hk, h]]
        exact un_c x k w hx hk h
end Go.Proofs.Ytgnminoiddnheaa.R3
