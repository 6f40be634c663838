/- The reference's Check, case by case. Conditions: the bounds of the fields' kinds. -/
import Derived.Test.YthnbdeibjbicpaaGreatKIsaA
set_option linter.unusedSimpArgs false
namespace Go.Proofs.YthnbdeibjbicpaaGreat.I5
set_option linter.unusedVariables false
open Go.RowKit Go.Proofs.YthnbdeibjbicpaaGreat.WM Go.Proofs.YthnbdeibjbicpaaGreat.IM Go.Proofs.YthnbdeibjbicpaaGreat.W1 Go.Proofs.YthnbdeibjbicpaaGreat.I1
theorem u_jr {op : Nat} (c : op = 19) : ud op = false ∧ ua op = true ∧ ub op = false ∧ ui op = false := by simp [ud, ua, ub, ui, three]; omega
theorem rcheck_jr_d (op d a b : Nat) (imm : Int) (w : World) (hm : -2147483648 ≤ imm) (hM : imm ≤ 2147483647) (ho : op ≤ 21) (h1 : d ≤ 7) (h2 : a ≤ 7) (h3 : b ≤ 7) (c : op = 19)  (hr : d ≠ 0) :
    Calls Tryz.prog 88 #[.agg #[.int .u8 (op : Int), .int .u8 (d : Int), .int .u8 (a : Int), .int .u8 (b : Int), .int .i32 imm]] w fun e w' => e = .returned (.int .i64 (chk op d a b imm)) ∧ Below w.heap.size w w' := by
  have HC := Lib.hid (chk_10 (op := op) (d := d) (a := a) (b := b) (imm := imm) (.inr (.inl (regB_none hr (u_jr c).1))))
  obtain ⟨u0, u1, u2, u3⟩ := u_jr c
  have f_d : ((d : Int) != 0) = true := by rw [bne_iff_ne]; omega
  clear c hr
  go_enter Tryz.func88, Tryz.ntmps88
  go_wp2_with (first | (go_at_call 85; (with_reducible refine (ruses_c op _).mono ?_); rintro e w' ⟨rfl, rfl⟩))
  go_ret
  exact ⟨by rw [HC.out]; rfl, by repeat (first | exact Below.refl _ _ | refine Below.alloc ?_ (by simp <;> omega) _ | apply below_drewN)⟩
theorem rcheck_jr_b (op d a b : Nat) (imm : Int) (w : World) (hm : -2147483648 ≤ imm) (hM : imm ≤ 2147483647) (ho : op ≤ 21) (h1 : d ≤ 7) (h2 : a ≤ 7) (h3 : b ≤ 7) (c : op = 19) (zd : d = 0) (hr : b ≠ 0) :
    Calls Tryz.prog 88 #[.agg #[.int .u8 (op : Int), .int .u8 (d : Int), .int .u8 (a : Int), .int .u8 (b : Int), .int .i32 imm]] w fun e w' => e = .returned (.int .i64 (chk op d a b imm)) ∧ Below w.heap.size w w' := by
  have HC := Lib.hid (chk_10 (op := op) (d := d) (a := a) (b := b) (imm := imm) (.inr (.inr (.inr (.inl (regB_none hr (u_jr c).2.2.1))))))
  obtain ⟨u0, u1, u2, u3⟩ := u_jr c
  have f_d : ((d : Int) != 0) = false := by rw [zd]; rfl
  have f_b : ((b : Int) != 0) = true := by rw [bne_iff_ne]; omega
  clear c hr zd
  go_enter Tryz.func88, Tryz.ntmps88
  go_wp2_with (first | (go_at_call 85; (with_reducible refine (ruses_c op _).mono ?_); rintro e w' ⟨rfl, rfl⟩))
  go_ret
  exact ⟨by rw [HC.out]; rfl, by repeat (first | exact Below.refl _ _ | refine Below.alloc ?_ (by simp <;> omega) _ | apply below_drewN)⟩
theorem rcheck_jr_i (op d a b : Nat) (imm : Int) (w : World) (hm : -2147483648 ≤ imm) (hM : imm ≤ 2147483647) (ho : op ≤ 21) (h1 : d ≤ 7) (h2 : a ≤ 7) (h3 : b ≤ 7) (c : op = 19) (zd : d = 0) (zb : b = 0) (hr : imm ≠ 0) :
    Calls Tryz.prog 88 #[.agg #[.int .u8 (op : Int), .int .u8 (d : Int), .int .u8 (a : Int), .int .u8 (b : Int), .int .i32 imm]] w fun e w' => e = .returned (.int .i64 (chk op d a b imm)) ∧ Below w.heap.size w w' := by
  have HC := Lib.hid (chk_10 (op := op) (d := d) (a := a) (b := b) (imm := imm) (.inr (.inr (.inr (.inr ⟨(u_jr c).2.2.2, hr⟩)))))
  obtain ⟨u0, u1, u2, u3⟩ := u_jr c
  have f_d : ((d : Int) != 0) = false := by rw [zd]; rfl
  have f_b : ((b : Int) != 0) = false := by rw [zb]; rfl
  have f_i : (imm != 0) = true := by rw [bne_iff_ne]; exact hr
  clear c hr zd zb
  go_enter Tryz.func88, Tryz.ntmps88
  go_wp2_with (first | (go_at_call 85; (with_reducible refine (ruses_c op _).mono ?_); rintro e w' ⟨rfl, rfl⟩))
  go_ret
  exact ⟨by rw [HC.out]; rfl, by repeat (first | exact Below.refl _ _ | refine Below.alloc ?_ (by simp <;> omega) _ | apply below_drewN)⟩
theorem rcheck_jr_ok (op d a b : Nat) (imm : Int) (w : World) (hm : -2147483648 ≤ imm) (hM : imm ≤ 2147483647) (ho : op ≤ 21) (h1 : d ≤ 7) (h2 : a ≤ 7) (h3 : b ≤ 7) (c : op = 19) (zd : d = 0) (zb : b = 0) (zi : imm = 0)  :
    Calls Tryz.prog 88 #[.agg #[.int .u8 (op : Int), .int .u8 (d : Int), .int .u8 (a : Int), .int .u8 (b : Int), .int .i32 imm]] w fun e w' => e = .returned (.int .i64 (chk op d a b imm)) ∧ Below w.heap.size w w' := by
  have HC := Lib.hid (chk_0 ⟨ho, regB_zero zd, regB_ok h2 (u_jr c).2.1, regB_zero zb, .inr zi⟩ (by rw [zi]; decide) (fun h => by omega) (fun h => by omega))
  obtain ⟨u0, u1, u2, u3⟩ := u_jr c
  have f_d : ((d : Int) != 0) = false := by rw [zd]; rfl
  have f_b : ((b : Int) != 0) = false := by rw [zb]; rfl
  have f_i : (imm != 0) = false := by rw [zi]; rfl
  have hf : fitsB imm 21 = true := by rw [zi]; decide
  have q17 : ((op : Int) == 17) = false := by first | (rw [e]; rfl) | (rw [beq_eq_false_iff_ne]; omega)
  have q21 : ((op : Int) == 21) = false := by first | (rw [e]; rfl) | (rw [beq_eq_false_iff_ne]; omega)
  have HF := Lib.hid hf; clear hf
  clear c zd zb
  clear hm hM
  subst zi
  go_enter Tryz.func88, Tryz.ntmps88
  go_wp2_with (first | (go_at_call 85; (with_reducible refine (ruses_c op _).mono ?_); rintro e w' ⟨rfl, rfl⟩) | (go_at_call 108; (with_reducible refine (rfits_at _ HF.out).mono ?_); rintro e w' ⟨rfl, ⟨nd, rfl⟩⟩; (try first | exact ⟨rfl, _, World.drewN_drewN _ _ _⟩ | exact ⟨rfl, _, Eq.trans (World.drewN_drewN _ _ _) (congrArg (World.drewN _) (Nat.add_assoc _ _ _))⟩)))
  go_ret
  exact ⟨by rw [HC.out]; rfl, by repeat (first | exact Below.refl _ _ | refine Below.alloc ?_ (by simp <;> omega) _ | apply below_drewN)⟩
theorem rcheck_jr (op d a b : Nat) (imm : Int) (w : World) (hm : -2147483648 ≤ imm) (hM : imm ≤ 2147483647) (ho : op ≤ 21) (h1 : d ≤ 7) (h2 : a ≤ 7) (h3 : b ≤ 7) (c : op = 19) :
    Calls Tryz.prog 88 #[.agg #[.int .u8 (op : Int), .int .u8 (d : Int), .int .u8 (a : Int), .int .u8 (b : Int), .int .i32 imm]] w fun e w' => e = .returned (.int .i64 (chk op d a b imm)) ∧ Below w.heap.size w w' := by
  by_cases zd : d = 0
  case neg => exact rcheck_jr_d op d a b imm w hm hM ho h1 h2 h3 c zd
  by_cases zb : b = 0
  case neg => exact rcheck_jr_b op d a b imm w hm hM ho h1 h2 h3 c zd zb
  by_cases zi : imm = 0
  case neg => exact rcheck_jr_i op d a b imm w hm hM ho h1 h2 h3 c zd zb zi
  exact rcheck_jr_ok op d a b imm w hm hM ho h1 h2 h3 c zd zb zi
theorem u_no {op : Nat} (c : op = 0 ∨ op = 1 ∨ op = 18 ∨ op = 20) : ud op = false ∧ ua op = false ∧ ub op = false ∧ ui op = false := by simp [ud, ua, ub, ui, three]; omega
theorem rcheck_no_d (op d a b : Nat) (imm : Int) (w : World) (hm : -2147483648 ≤ imm) (hM : imm ≤ 2147483647) (ho : op ≤ 21) (h1 : d ≤ 7) (h2 : a ≤ 7) (h3 : b ≤ 7) (c : op = 0 ∨ op = 1 ∨ op = 18 ∨ op = 20)  (hr : d ≠ 0) :
    Calls Tryz.prog 88 #[.agg #[.int .u8 (op : Int), .int .u8 (d : Int), .int .u8 (a : Int), .int .u8 (b : Int), .int .i32 imm]] w fun e w' => e = .returned (.int .i64 (chk op d a b imm)) ∧ Below w.heap.size w w' := by
  have HC := Lib.hid (chk_10 (op := op) (d := d) (a := a) (b := b) (imm := imm) (.inr (.inl (regB_none hr (u_no c).1))))
  obtain ⟨u0, u1, u2, u3⟩ := u_no c
  have f_d : ((d : Int) != 0) = true := by rw [bne_iff_ne]; omega
  clear c hr
  go_enter Tryz.func88, Tryz.ntmps88
  go_wp2_with (first | (go_at_call 85; (with_reducible refine (ruses_c op _).mono ?_); rintro e w' ⟨rfl, rfl⟩))
  go_ret
  exact ⟨by rw [HC.out]; rfl, by repeat (first | exact Below.refl _ _ | refine Below.alloc ?_ (by simp <;> omega) _ | apply below_drewN)⟩
theorem rcheck_no_a (op d a b : Nat) (imm : Int) (w : World) (hm : -2147483648 ≤ imm) (hM : imm ≤ 2147483647) (ho : op ≤ 21) (h1 : d ≤ 7) (h2 : a ≤ 7) (h3 : b ≤ 7) (c : op = 0 ∨ op = 1 ∨ op = 18 ∨ op = 20) (zd : d = 0) (hr : a ≠ 0) :
    Calls Tryz.prog 88 #[.agg #[.int .u8 (op : Int), .int .u8 (d : Int), .int .u8 (a : Int), .int .u8 (b : Int), .int .i32 imm]] w fun e w' => e = .returned (.int .i64 (chk op d a b imm)) ∧ Below w.heap.size w w' := by
  have HC := Lib.hid (chk_10 (op := op) (d := d) (a := a) (b := b) (imm := imm) (.inr (.inr (.inl (regB_none hr (u_no c).2.1)))))
  obtain ⟨u0, u1, u2, u3⟩ := u_no c
  have f_d : ((d : Int) != 0) = false := by rw [zd]; rfl
  have f_a : ((a : Int) != 0) = true := by rw [bne_iff_ne]; omega
  clear c hr zd
  go_enter Tryz.func88, Tryz.ntmps88
  go_wp2_with (first | (go_at_call 85; (with_reducible refine (ruses_c op _).mono ?_); rintro e w' ⟨rfl, rfl⟩))
  go_ret
  exact ⟨by rw [HC.out]; rfl, by repeat (first | exact Below.refl _ _ | refine Below.alloc ?_ (by simp <;> omega) _ | apply below_drewN)⟩
theorem rcheck_no_b (op d a b : Nat) (imm : Int) (w : World) (hm : -2147483648 ≤ imm) (hM : imm ≤ 2147483647) (ho : op ≤ 21) (h1 : d ≤ 7) (h2 : a ≤ 7) (h3 : b ≤ 7) (c : op = 0 ∨ op = 1 ∨ op = 18 ∨ op = 20) (zd : d = 0) (za : a = 0) (hr : b ≠ 0) :
    Calls Tryz.prog 88 #[.agg #[.int .u8 (op : Int), .int .u8 (d : Int), .int .u8 (a : Int), .int .u8 (b : Int), .int .i32 imm]] w fun e w' => e = .returned (.int .i64 (chk op d a b imm)) ∧ Below w.heap.size w w' := by
  have HC := Lib.hid (chk_10 (op := op) (d := d) (a := a) (b := b) (imm := imm) (.inr (.inr (.inr (.inl (regB_none hr (u_no c).2.2.1))))))
  obtain ⟨u0, u1, u2, u3⟩ := u_no c
  have f_d : ((d : Int) != 0) = false := by rw [zd]; rfl
  have f_a : ((a : Int) != 0) = false := by rw [za]; rfl
  have f_b : ((b : Int) != 0) = true := by rw [bne_iff_ne]; omega
  clear c hr zd za
  go_enter Tryz.func88, Tryz.ntmps88
  go_wp2_with (first | (go_at_call 85; (with_reducible refine (ruses_c op _).mono ?_); rintro e w' ⟨rfl, rfl⟩))
  go_ret
  exact ⟨by rw [HC.out]; rfl, by repeat (first | exact Below.refl _ _ | refine Below.alloc ?_ (by simp <;> omega) _ | apply below_drewN)⟩
theorem rcheck_no_i (op d a b : Nat) (imm : Int) (w : World) (hm : -2147483648 ≤ imm) (hM : imm ≤ 2147483647) (ho : op ≤ 21) (h1 : d ≤ 7) (h2 : a ≤ 7) (h3 : b ≤ 7) (c : op = 0 ∨ op = 1 ∨ op = 18 ∨ op = 20) (zd : d = 0) (za : a = 0) (zb : b = 0) (hr : imm ≠ 0) :
    Calls Tryz.prog 88 #[.agg #[.int .u8 (op : Int), .int .u8 (d : Int), .int .u8 (a : Int), .int .u8 (b : Int), .int .i32 imm]] w fun e w' => e = .returned (.int .i64 (chk op d a b imm)) ∧ Below w.heap.size w w' := by
  have HC := Lib.hid (chk_10 (op := op) (d := d) (a := a) (b := b) (imm := imm) (.inr (.inr (.inr (.inr ⟨(u_no c).2.2.2, hr⟩)))))
  obtain ⟨u0, u1, u2, u3⟩ := u_no c
  have f_d : ((d : Int) != 0) = false := by rw [zd]; rfl
  have f_a : ((a : Int) != 0) = false := by rw [za]; rfl
  have f_b : ((b : Int) != 0) = false := by rw [zb]; rfl
  have f_i : (imm != 0) = true := by rw [bne_iff_ne]; exact hr
  clear c hr zd za zb
  go_enter Tryz.func88, Tryz.ntmps88
  go_wp2_with (first | (go_at_call 85; (with_reducible refine (ruses_c op _).mono ?_); rintro e w' ⟨rfl, rfl⟩))
  go_ret
  exact ⟨by rw [HC.out]; rfl, by repeat (first | exact Below.refl _ _ | refine Below.alloc ?_ (by simp <;> omega) _ | apply below_drewN)⟩
theorem rcheck_no_ok (op d a b : Nat) (imm : Int) (w : World) (hm : -2147483648 ≤ imm) (hM : imm ≤ 2147483647) (ho : op ≤ 21) (h1 : d ≤ 7) (h2 : a ≤ 7) (h3 : b ≤ 7) (c : op = 0 ∨ op = 1 ∨ op = 18 ∨ op = 20) (zd : d = 0) (za : a = 0) (zb : b = 0) (zi : imm = 0)  :
    Calls Tryz.prog 88 #[.agg #[.int .u8 (op : Int), .int .u8 (d : Int), .int .u8 (a : Int), .int .u8 (b : Int), .int .i32 imm]] w fun e w' => e = .returned (.int .i64 (chk op d a b imm)) ∧ Below w.heap.size w w' := by
  have HC := Lib.hid (chk_0 ⟨ho, regB_zero zd, regB_zero za, regB_zero zb, .inr zi⟩ (by rw [zi]; decide) (fun h => by omega) (fun h => by omega))
  obtain ⟨u0, u1, u2, u3⟩ := u_no c
  have f_d : ((d : Int) != 0) = false := by rw [zd]; rfl
  have f_a : ((a : Int) != 0) = false := by rw [za]; rfl
  have f_b : ((b : Int) != 0) = false := by rw [zb]; rfl
  have f_i : (imm != 0) = false := by rw [zi]; rfl
  have hf : fitsB imm 21 = true := by rw [zi]; decide
  have q17 : ((op : Int) == 17) = false := by first | (rw [e]; rfl) | (rw [beq_eq_false_iff_ne]; omega)
  have q21 : ((op : Int) == 21) = false := by first | (rw [e]; rfl) | (rw [beq_eq_false_iff_ne]; omega)
  have HF := Lib.hid hf; clear hf
  clear c zd za zb
  clear hm hM
  subst zi
  go_enter Tryz.func88, Tryz.ntmps88
  go_wp2_with (first | (go_at_call 85; (with_reducible refine (ruses_c op _).mono ?_); rintro e w' ⟨rfl, rfl⟩) | (go_at_call 108; (with_reducible refine (rfits_at _ HF.out).mono ?_); rintro e w' ⟨rfl, ⟨nd, rfl⟩⟩; (try first | exact ⟨rfl, _, World.drewN_drewN _ _ _⟩ | exact ⟨rfl, _, Eq.trans (World.drewN_drewN _ _ _) (congrArg (World.drewN _) (Nat.add_assoc _ _ _))⟩)))
  go_ret
  exact ⟨by rw [HC.out]; rfl, by repeat (first | exact Below.refl _ _ | refine Below.alloc ?_ (by simp <;> omega) _ | apply below_drewN)⟩
theorem rcheck_no (op d a b : Nat) (imm : Int) (w : World) (hm : -2147483648 ≤ imm) (hM : imm ≤ 2147483647) (ho : op ≤ 21) (h1 : d ≤ 7) (h2 : a ≤ 7) (h3 : b ≤ 7) (c : op = 0 ∨ op = 1 ∨ op = 18 ∨ op = 20) :
    Calls Tryz.prog 88 #[.agg #[.int .u8 (op : Int), .int .u8 (d : Int), .int .u8 (a : Int), .int .u8 (b : Int), .int .i32 imm]] w fun e w' => e = .returned (.int .i64 (chk op d a b imm)) ∧ Below w.heap.size w w' := by
  by_cases zd : d = 0
  case neg => exact rcheck_no_d op d a b imm w hm hM ho h1 h2 h3 c zd
  by_cases za : a = 0
  case neg => exact rcheck_no_a op d a b imm w hm hM ho h1 h2 h3 c zd za
  by_cases zb : b = 0
  case neg => exact rcheck_no_b op d a b imm w hm hM ho h1 h2 h3 c zd za zb
  by_cases zi : imm = 0
  case neg => exact rcheck_no_i op d a b imm w hm hM ho h1 h2 h3 c zd za zb zi
  exact rcheck_no_ok op d a b imm w hm hM ho h1 h2 h3 c zd za zb zi
end Go.Proofs.YthnbdeibjbicpaaGreat.I5
