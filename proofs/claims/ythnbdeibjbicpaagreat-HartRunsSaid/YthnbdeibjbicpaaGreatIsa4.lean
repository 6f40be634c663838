/- The reference's Check, case by case. Conditions: the bounds of the fields' kinds. -/
import Derived.Test.YthnbdeibjbicpaaGreatKIsaA
set_option linter.unusedSimpArgs false
namespace Go.Proofs.YthnbdeibjbicpaaGreat.I4
set_option linter.unusedVariables false
open Go.RowKit Go.Proofs.YthnbdeibjbicpaaGreat.WM Go.Proofs.YthnbdeibjbicpaaGreat.IM Go.Proofs.YthnbdeibjbicpaaGreat.W1 Go.Proofs.YthnbdeibjbicpaaGreat.I1
theorem u_jm {op : Nat} (c : op = 14 ∨ op = 17 ∨ op = 21) : ud op = false ∧ ua op = false ∧ ub op = false ∧ ui op = true := by simp [ud, ua, ub, ui, three]; omega
theorem rcheck_jm_d (op d a b : Nat) (imm : Int) (w : World) (hm : -2147483648 ≤ imm) (hM : imm ≤ 2147483647) (ho : op ≤ 21) (h1 : d ≤ 7) (h2 : a ≤ 7) (h3 : b ≤ 7) (c : op = 14 ∨ op = 17 ∨ op = 21)  (hr : d ≠ 0) :
    Calls Tryz.prog 88 #[.agg #[.int .u8 (op : Int), .int .u8 (d : Int), .int .u8 (a : Int), .int .u8 (b : Int), .int .i32 imm]] w fun e w' => e = .returned (.int .i64 (chk op d a b imm)) ∧ Below w.heap.size w w' := by
  have HC := Lib.hid (chk_10 (op := op) (d := d) (a := a) (b := b) (imm := imm) (.inr (.inl (regB_none hr (u_jm c).1))))
  obtain ⟨u0, u1, u2, u3⟩ := u_jm c
  have f_d : ((d : Int) != 0) = true := by rw [bne_iff_ne]; omega
  clear c hr
  go_enter Tryz.func88, Tryz.ntmps88
  go_wp2_with (first | (go_at_call 85; (with_reducible refine (ruses_c op _).mono ?_); rintro e w' ⟨rfl, rfl⟩))
  go_ret
  exact ⟨by rw [HC.out]; rfl, by repeat (first | exact Below.refl _ _ | refine Below.alloc ?_ (by simp <;> omega) _ | apply below_drewN)⟩
theorem rcheck_jm_a (op d a b : Nat) (imm : Int) (w : World) (hm : -2147483648 ≤ imm) (hM : imm ≤ 2147483647) (ho : op ≤ 21) (h1 : d ≤ 7) (h2 : a ≤ 7) (h3 : b ≤ 7) (c : op = 14 ∨ op = 17 ∨ op = 21) (zd : d = 0) (hr : a ≠ 0) :
    Calls Tryz.prog 88 #[.agg #[.int .u8 (op : Int), .int .u8 (d : Int), .int .u8 (a : Int), .int .u8 (b : Int), .int .i32 imm]] w fun e w' => e = .returned (.int .i64 (chk op d a b imm)) ∧ Below w.heap.size w w' := by
  have HC := Lib.hid (chk_10 (op := op) (d := d) (a := a) (b := b) (imm := imm) (.inr (.inr (.inl (regB_none hr (u_jm c).2.1)))))
  obtain ⟨u0, u1, u2, u3⟩ := u_jm c
  have f_d : ((d : Int) != 0) = false := by rw [zd]; rfl
  have f_a : ((a : Int) != 0) = true := by rw [bne_iff_ne]; omega
  clear c hr zd
  go_enter Tryz.func88, Tryz.ntmps88
  go_wp2_with (first | (go_at_call 85; (with_reducible refine (ruses_c op _).mono ?_); rintro e w' ⟨rfl, rfl⟩))
  go_ret
  exact ⟨by rw [HC.out]; rfl, by repeat (first | exact Below.refl _ _ | refine Below.alloc ?_ (by simp <;> omega) _ | apply below_drewN)⟩
theorem rcheck_jm_b (op d a b : Nat) (imm : Int) (w : World) (hm : -2147483648 ≤ imm) (hM : imm ≤ 2147483647) (ho : op ≤ 21) (h1 : d ≤ 7) (h2 : a ≤ 7) (h3 : b ≤ 7) (c : op = 14 ∨ op = 17 ∨ op = 21) (zd : d = 0) (za : a = 0) (hr : b ≠ 0) :
    Calls Tryz.prog 88 #[.agg #[.int .u8 (op : Int), .int .u8 (d : Int), .int .u8 (a : Int), .int .u8 (b : Int), .int .i32 imm]] w fun e w' => e = .returned (.int .i64 (chk op d a b imm)) ∧ Below w.heap.size w w' := by
  have HC := Lib.hid (chk_10 (op := op) (d := d) (a := a) (b := b) (imm := imm) (.inr (.inr (.inr (.inl (regB_none hr (u_jm c).2.2.1))))))
  obtain ⟨u0, u1, u2, u3⟩ := u_jm c
  have f_d : ((d : Int) != 0) = false := by rw [zd]; rfl
  have f_a : ((a : Int) != 0) = false := by rw [za]; rfl
  have f_b : ((b : Int) != 0) = true := by rw [bne_iff_ne]; omega
  clear c hr zd za
  go_enter Tryz.func88, Tryz.ntmps88
  go_wp2_with (first | (go_at_call 85; (with_reducible refine (ruses_c op _).mono ?_); rintro e w' ⟨rfl, rfl⟩))
  go_ret
  exact ⟨by rw [HC.out]; rfl, by repeat (first | exact Below.refl _ _ | refine Below.alloc ?_ (by simp <;> omega) _ | apply below_drewN)⟩
theorem rcheck_jm_f (op d a b : Nat) (imm : Int) (w : World) (hm : -2147483648 ≤ imm) (hM : imm ≤ 2147483647) (ho : op ≤ 21) (h1 : d ≤ 7) (h2 : a ≤ 7) (h3 : b ≤ 7) (c : op = 14 ∨ op = 17 ∨ op = 21) (zd : d = 0) (za : a = 0) (zb : b = 0) (hf : fitsB imm 21 = false) :
    Calls Tryz.prog 88 #[.agg #[.int .u8 (op : Int), .int .u8 (d : Int), .int .u8 (a : Int), .int .u8 (b : Int), .int .i32 imm]] w fun e w' => e = .returned (.int .i64 (chk op d a b imm)) ∧ Below w.heap.size w w' := by
  have HC := Lib.hid (chk_11a ⟨ho, regB_zero zd, regB_zero za, regB_zero zb, .inl (u_jm c).2.2.2⟩ hf)
  obtain ⟨u0, u1, u2, u3⟩ := u_jm c
  have f_d : ((d : Int) != 0) = false := by rw [zd]; rfl
  have f_a : ((a : Int) != 0) = false := by rw [za]; rfl
  have f_b : ((b : Int) != 0) = false := by rw [zb]; rfl
  have HF := Lib.hid hf; clear hf
  clear c zd za zb
  go_enter Tryz.func88, Tryz.ntmps88
  go_wp2_with (first | (go_at_call 85; (with_reducible refine (ruses_c op _).mono ?_); rintro e w' ⟨rfl, rfl⟩) | (go_at_call 108; (with_reducible refine (rfits_at _ HF.out).mono ?_); rintro e w' ⟨rfl, ⟨nd, rfl⟩⟩; (try first | exact ⟨rfl, _, World.drewN_drewN _ _ _⟩ | exact ⟨rfl, _, Eq.trans (World.drewN_drewN _ _ _) (congrArg (World.drewN _) (Nat.add_assoc _ _ _))⟩)))
  go_ret
  exact ⟨by rw [HC.out]; rfl, by repeat (first | exact Below.refl _ _ | refine Below.alloc ?_ (by simp <;> omega) _ | apply below_drewN)⟩
theorem rcheck_jm_1 (op d a b : Nat) (imm : Int) (w : World) (hm : -2147483648 ≤ imm) (hM : imm ≤ 2147483647) (ho : op ≤ 21) (h1 : d ≤ 7) (h2 : a ≤ 7) (h3 : b ≤ 7) (c : op = 14 ∨ op = 17 ∨ op = 21) (zd : d = 0) (za : a = 0) (zb : b = 0) (hf : fitsB imm 21 = true) (e : op = 14) :
    Calls Tryz.prog 88 #[.agg #[.int .u8 (op : Int), .int .u8 (d : Int), .int .u8 (a : Int), .int .u8 (b : Int), .int .i32 imm]] w fun e w' => e = .returned (.int .i64 (chk op d a b imm)) ∧ Below w.heap.size w w' := by
  have HC := Lib.hid (chk_0 ⟨ho, regB_zero zd, regB_zero za, regB_zero zb, .inl (u_jm c).2.2.2⟩ hf (fun h => by omega) (fun h => by omega))
  obtain ⟨u0, u1, u2, u3⟩ := u_jm c
  have f_d : ((d : Int) != 0) = false := by rw [zd]; rfl
  have f_a : ((a : Int) != 0) = false := by rw [za]; rfl
  have f_b : ((b : Int) != 0) = false := by rw [zb]; rfl
  have q17 : ((op : Int) == 17) = false := by first | (rw [e]; rfl) | (rw [beq_eq_false_iff_ne]; omega)
  have q21 : ((op : Int) == 21) = false := by first | (rw [e]; rfl) | (rw [beq_eq_false_iff_ne]; omega)
  have HF := Lib.hid hf; clear hf
  clear c zd za zb
  clear e
  go_enter Tryz.func88, Tryz.ntmps88
  go_wp2_with (first | (go_at_call 85; (with_reducible refine (ruses_c op _).mono ?_); rintro e w' ⟨rfl, rfl⟩) | (go_at_call 108; (with_reducible refine (rfits_at _ HF.out).mono ?_); rintro e w' ⟨rfl, ⟨nd, rfl⟩⟩; (try first | exact ⟨rfl, _, World.drewN_drewN _ _ _⟩ | exact ⟨rfl, _, Eq.trans (World.drewN_drewN _ _ _) (congrArg (World.drewN _) (Nat.add_assoc _ _ _))⟩)))
  go_ret
  exact ⟨by rw [HC.out]; rfl, by repeat (first | exact Below.refl _ _ | refine Below.alloc ?_ (by simp <;> omega) _ | apply below_drewN)⟩
theorem rcheck_jm_2 (op d a b : Nat) (imm : Int) (w : World) (hm : -2147483648 ≤ imm) (hM : imm ≤ 2147483647) (ho : op ≤ 21) (h1 : d ≤ 7) (h2 : a ≤ 7) (h3 : b ≤ 7) (c : op = 14 ∨ op = 17 ∨ op = 21) (zd : d = 0) (za : a = 0) (zb : b = 0) (hf : fitsB imm 21 = true) (e : op = 17) (hi : imm < 0) :
    Calls Tryz.prog 88 #[.agg #[.int .u8 (op : Int), .int .u8 (d : Int), .int .u8 (a : Int), .int .u8 (b : Int), .int .i32 imm]] w fun e w' => e = .returned (.int .i64 (chk op d a b imm)) ∧ Below w.heap.size w w' := by
  have HC := Lib.hid (chk_11b ⟨ho, regB_zero zd, regB_zero za, regB_zero zb, .inl (u_jm c).2.2.2⟩ hf e hi)
  obtain ⟨u0, u1, u2, u3⟩ := u_jm c
  have f_d : ((d : Int) != 0) = false := by rw [zd]; rfl
  have f_a : ((a : Int) != 0) = false := by rw [za]; rfl
  have f_b : ((b : Int) != 0) = false := by rw [zb]; rfl
  have q17 : ((op : Int) == 17) = true := by first | (rw [e]; rfl) | (rw [beq_eq_false_iff_ne]; omega)
  have q21 : ((op : Int) == 21) = false := by first | (rw [e]; rfl) | (rw [beq_eq_false_iff_ne]; omega)
  have HF := Lib.hid hf; clear hf
  clear c zd za zb
  clear e
  go_enter Tryz.func88, Tryz.ntmps88
  go_wp2_with (first | (go_at_call 85; (with_reducible refine (ruses_c op _).mono ?_); rintro e w' ⟨rfl, rfl⟩) | (go_at_call 108; (with_reducible refine (rfits_at _ HF.out).mono ?_); rintro e w' ⟨rfl, ⟨nd, rfl⟩⟩; (try first | exact ⟨rfl, _, World.drewN_drewN _ _ _⟩ | exact ⟨rfl, _, Eq.trans (World.drewN_drewN _ _ _) (congrArg (World.drewN _) (Nat.add_assoc _ _ _))⟩)))
  go_ret
  exact ⟨by rw [HC.out]; rfl, by repeat (first | exact Below.refl _ _ | refine Below.alloc ?_ (by simp <;> omega) _ | apply below_drewN)⟩
theorem rcheck_jm_3 (op d a b : Nat) (imm : Int) (w : World) (hm : -2147483648 ≤ imm) (hM : imm ≤ 2147483647) (ho : op ≤ 21) (h1 : d ≤ 7) (h2 : a ≤ 7) (h3 : b ≤ 7) (c : op = 14 ∨ op = 17 ∨ op = 21) (zd : d = 0) (za : a = 0) (zb : b = 0) (hf : fitsB imm 21 = true) (e : op = 17) (hi : 0 ≤ imm) :
    Calls Tryz.prog 88 #[.agg #[.int .u8 (op : Int), .int .u8 (d : Int), .int .u8 (a : Int), .int .u8 (b : Int), .int .i32 imm]] w fun e w' => e = .returned (.int .i64 (chk op d a b imm)) ∧ Below w.heap.size w w' := by
  have HC := Lib.hid (chk_0 ⟨ho, regB_zero zd, regB_zero za, regB_zero zb, .inl (u_jm c).2.2.2⟩ hf (fun _ => hi) (fun h => by omega))
  obtain ⟨u0, u1, u2, u3⟩ := u_jm c
  have f_d : ((d : Int) != 0) = false := by rw [zd]; rfl
  have f_a : ((a : Int) != 0) = false := by rw [za]; rfl
  have f_b : ((b : Int) != 0) = false := by rw [zb]; rfl
  have q17 : ((op : Int) == 17) = true := by first | (rw [e]; rfl) | (rw [beq_eq_false_iff_ne]; omega)
  have q21 : ((op : Int) == 21) = false := by first | (rw [e]; rfl) | (rw [beq_eq_false_iff_ne]; omega)
  have HF := Lib.hid hf; clear hf
  clear c zd za zb
  clear e
  go_enter Tryz.func88, Tryz.ntmps88
  go_wp2_with (first | (go_at_call 85; (with_reducible refine (ruses_c op _).mono ?_); rintro e w' ⟨rfl, rfl⟩) | (go_at_call 108; (with_reducible refine (rfits_at _ HF.out).mono ?_); rintro e w' ⟨rfl, ⟨nd, rfl⟩⟩; (try first | exact ⟨rfl, _, World.drewN_drewN _ _ _⟩ | exact ⟨rfl, _, Eq.trans (World.drewN_drewN _ _ _) (congrArg (World.drewN _) (Nat.add_assoc _ _ _))⟩)))
  go_ret
  exact ⟨by rw [HC.out]; rfl, by repeat (first | exact Below.refl _ _ | refine Below.alloc ?_ (by simp <;> omega) _ | apply below_drewN)⟩
theorem rcheck_jm_4 (op d a b : Nat) (imm : Int) (w : World) (hm : -2147483648 ≤ imm) (hM : imm ≤ 2147483647) (ho : op ≤ 21) (h1 : d ≤ 7) (h2 : a ≤ 7) (h3 : b ≤ 7) (c : op = 14 ∨ op = 17 ∨ op = 21) (zd : d = 0) (za : a = 0) (zb : b = 0) (hf : fitsB imm 21 = true) (e : op = 21) (hi : imm < 0) :
    Calls Tryz.prog 88 #[.agg #[.int .u8 (op : Int), .int .u8 (d : Int), .int .u8 (a : Int), .int .u8 (b : Int), .int .i32 imm]] w fun e w' => e = .returned (.int .i64 (chk op d a b imm)) ∧ Below w.heap.size w w' := by
  have HC := Lib.hid (chk_11c ⟨ho, regB_zero zd, regB_zero za, regB_zero zb, .inl (u_jm c).2.2.2⟩ hf e (.inl hi))
  obtain ⟨u0, u1, u2, u3⟩ := u_jm c
  have f_d : ((d : Int) != 0) = false := by rw [zd]; rfl
  have f_a : ((a : Int) != 0) = false := by rw [za]; rfl
  have f_b : ((b : Int) != 0) = false := by rw [zb]; rfl
  have q17 : ((op : Int) == 17) = false := by first | (rw [e]; rfl) | (rw [beq_eq_false_iff_ne]; omega)
  have q21 : ((op : Int) == 21) = true := by first | (rw [e]; rfl) | (rw [beq_eq_false_iff_ne]; omega)
  have HF := Lib.hid hf; clear hf
  clear c zd za zb
  clear e
  go_enter Tryz.func88, Tryz.ntmps88
  go_wp2_with (first | (go_at_call 85; (with_reducible refine (ruses_c op _).mono ?_); rintro e w' ⟨rfl, rfl⟩) | (go_at_call 108; (with_reducible refine (rfits_at _ HF.out).mono ?_); rintro e w' ⟨rfl, ⟨nd, rfl⟩⟩; (try first | exact ⟨rfl, _, World.drewN_drewN _ _ _⟩ | exact ⟨rfl, _, Eq.trans (World.drewN_drewN _ _ _) (congrArg (World.drewN _) (Nat.add_assoc _ _ _))⟩)))
  go_ret
  exact ⟨by rw [HC.out]; rfl, by repeat (first | exact Below.refl _ _ | refine Below.alloc ?_ (by simp <;> omega) _ | apply below_drewN)⟩
theorem rcheck_jm_5 (op d a b : Nat) (imm : Int) (w : World) (hm : -2147483648 ≤ imm) (hM : imm ≤ 2147483647) (ho : op ≤ 21) (h1 : d ≤ 7) (h2 : a ≤ 7) (h3 : b ≤ 7) (c : op = 14 ∨ op = 17 ∨ op = 21) (zd : d = 0) (za : a = 0) (zb : b = 0) (hf : fitsB imm 21 = true) (e : op = 21) (hi : 63 < imm) :
    Calls Tryz.prog 88 #[.agg #[.int .u8 (op : Int), .int .u8 (d : Int), .int .u8 (a : Int), .int .u8 (b : Int), .int .i32 imm]] w fun e w' => e = .returned (.int .i64 (chk op d a b imm)) ∧ Below w.heap.size w w' := by
  have HC := Lib.hid (chk_11c ⟨ho, regB_zero zd, regB_zero za, regB_zero zb, .inl (u_jm c).2.2.2⟩ hf e (.inr hi))
  obtain ⟨u0, u1, u2, u3⟩ := u_jm c
  have f_d : ((d : Int) != 0) = false := by rw [zd]; rfl
  have f_a : ((a : Int) != 0) = false := by rw [za]; rfl
  have f_b : ((b : Int) != 0) = false := by rw [zb]; rfl
  have q17 : ((op : Int) == 17) = false := by first | (rw [e]; rfl) | (rw [beq_eq_false_iff_ne]; omega)
  have q21 : ((op : Int) == 21) = true := by first | (rw [e]; rfl) | (rw [beq_eq_false_iff_ne]; omega)
  have HF := Lib.hid hf; clear hf
  clear c zd za zb
  clear e
  go_enter Tryz.func88, Tryz.ntmps88
  go_wp2_with (first | (go_at_call 85; (with_reducible refine (ruses_c op _).mono ?_); rintro e w' ⟨rfl, rfl⟩) | (go_at_call 108; (with_reducible refine (rfits_at _ HF.out).mono ?_); rintro e w' ⟨rfl, ⟨nd, rfl⟩⟩; (try first | exact ⟨rfl, _, World.drewN_drewN _ _ _⟩ | exact ⟨rfl, _, Eq.trans (World.drewN_drewN _ _ _) (congrArg (World.drewN _) (Nat.add_assoc _ _ _))⟩)))
  go_ret
  exact ⟨by rw [HC.out]; rfl, by repeat (first | exact Below.refl _ _ | refine Below.alloc ?_ (by simp <;> omega) _ | apply below_drewN)⟩
theorem rcheck_jm_6 (op d a b : Nat) (imm : Int) (w : World) (hm : -2147483648 ≤ imm) (hM : imm ≤ 2147483647) (ho : op ≤ 21) (h1 : d ≤ 7) (h2 : a ≤ 7) (h3 : b ≤ 7) (c : op = 14 ∨ op = 17 ∨ op = 21) (zd : d = 0) (za : a = 0) (zb : b = 0) (hf : fitsB imm 21 = true) (e : op = 21) (hi : 0 ≤ imm) (hj : imm ≤ 63) :
    Calls Tryz.prog 88 #[.agg #[.int .u8 (op : Int), .int .u8 (d : Int), .int .u8 (a : Int), .int .u8 (b : Int), .int .i32 imm]] w fun e w' => e = .returned (.int .i64 (chk op d a b imm)) ∧ Below w.heap.size w w' := by
  have HC := Lib.hid (chk_0 ⟨ho, regB_zero zd, regB_zero za, regB_zero zb, .inl (u_jm c).2.2.2⟩ hf (fun h => by omega) (fun _ => ⟨hi, hj⟩))
  obtain ⟨u0, u1, u2, u3⟩ := u_jm c
  have f_d : ((d : Int) != 0) = false := by rw [zd]; rfl
  have f_a : ((a : Int) != 0) = false := by rw [za]; rfl
  have f_b : ((b : Int) != 0) = false := by rw [zb]; rfl
  have q17 : ((op : Int) == 17) = false := by first | (rw [e]; rfl) | (rw [beq_eq_false_iff_ne]; omega)
  have q21 : ((op : Int) == 21) = true := by first | (rw [e]; rfl) | (rw [beq_eq_false_iff_ne]; omega)
  have HF := Lib.hid hf; clear hf
  clear c zd za zb
  clear e
  go_enter Tryz.func88, Tryz.ntmps88
  go_wp2_with (first | (go_at_call 85; (with_reducible refine (ruses_c op _).mono ?_); rintro e w' ⟨rfl, rfl⟩) | (go_at_call 108; (with_reducible refine (rfits_at _ HF.out).mono ?_); rintro e w' ⟨rfl, ⟨nd, rfl⟩⟩; (try first | exact ⟨rfl, _, World.drewN_drewN _ _ _⟩ | exact ⟨rfl, _, Eq.trans (World.drewN_drewN _ _ _) (congrArg (World.drewN _) (Nat.add_assoc _ _ _))⟩)))
  go_ret
  exact ⟨by rw [HC.out]; rfl, by repeat (first | exact Below.refl _ _ | refine Below.alloc ?_ (by simp <;> omega) _ | apply below_drewN)⟩
theorem rcheck_jm (op d a b : Nat) (imm : Int) (w : World) (hm : -2147483648 ≤ imm) (hM : imm ≤ 2147483647) (ho : op ≤ 21) (h1 : d ≤ 7) (h2 : a ≤ 7) (h3 : b ≤ 7) (c : op = 14 ∨ op = 17 ∨ op = 21) :
    Calls Tryz.prog 88 #[.agg #[.int .u8 (op : Int), .int .u8 (d : Int), .int .u8 (a : Int), .int .u8 (b : Int), .int .i32 imm]] w fun e w' => e = .returned (.int .i64 (chk op d a b imm)) ∧ Below w.heap.size w w' := by
  by_cases zd : d = 0
  case neg => exact rcheck_jm_d op d a b imm w hm hM ho h1 h2 h3 c zd
  by_cases za : a = 0
  case neg => exact rcheck_jm_a op d a b imm w hm hM ho h1 h2 h3 c zd za
  by_cases zb : b = 0
  case neg => exact rcheck_jm_b op d a b imm w hm hM ho h1 h2 h3 c zd za zb
  cases hf : fitsB imm 21 with
  | false => exact rcheck_jm_f op d a b imm w hm hM ho h1 h2 h3 c zd za zb hf
  | true =>
    by_cases e : op = 14
    · exact rcheck_jm_1 op d a b imm w hm hM ho h1 h2 h3 c zd za zb hf e
    · by_cases e : op = 17
      · by_cases hi : imm < 0
        · exact rcheck_jm_2 op d a b imm w hm hM ho h1 h2 h3 c zd za zb hf e hi
        · exact rcheck_jm_3 op d a b imm w hm hM ho h1 h2 h3 c zd za zb hf e (by omega)
      · have e : op = 21 := by omega
        by_cases hi : imm < 0
        · exact rcheck_jm_4 op d a b imm w hm hM ho h1 h2 h3 c zd za zb hf e hi
        · by_cases hj : 63 < imm
          · exact rcheck_jm_5 op d a b imm w hm hM ho h1 h2 h3 c zd za zb hf e hj
          · exact rcheck_jm_6 op d a b imm w hm hM ho h1 h2 h3 c zd za zb hf e (by omega) (by omega)
end Go.Proofs.YthnbdeibjbicpaaGreat.I4
