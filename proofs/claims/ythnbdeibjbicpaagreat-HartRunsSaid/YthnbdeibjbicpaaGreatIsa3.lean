/- The reference's Check, case by case. Conditions: the bounds of the fields' kinds. -/
import Derived.Test.YthnbdeibjbicpaaGreatKIsaA
set_option linter.unusedSimpArgs false
namespace Go.Proofs.YthnbdeibjbicpaaGreat.I3
set_option linter.unusedVariables false
open Go.RowKit Go.Proofs.YthnbdeibjbicpaaGreat.WM Go.Proofs.YthnbdeibjbicpaaGreat.IM Go.Proofs.YthnbdeibjbicpaaGreat.W1 Go.Proofs.YthnbdeibjbicpaaGreat.I1
theorem rcheck_1 (op d a b : Nat) (imm : Int) (w : World) (hm : -2147483648 ≤ imm) (hM : imm ≤ 2147483647) (h : 21 < op) :
    Calls Tryz.prog 88 #[.agg #[.int .u8 (op : Int), .int .u8 (d : Int), .int .u8 (a : Int), .int .u8 (b : Int), .int .i32 imm]] w fun e w' => e = .returned (.int .i64 (chk op d a b imm)) ∧ Below w.heap.size w w' := by
  have HC := Lib.hid (chk_10 (op := op) (d := d) (a := a) (b := b) (imm := imm) (.inl h))
  go_enter Tryz.func88, Tryz.ntmps88
  go_wp2_with (first | (go_at_call 85; (with_reducible refine (ruses_c op _).mono ?_); rintro e w' ⟨rfl, rfl⟩))
  go_ret
  exact ⟨by rw [HC.out]; rfl, by repeat (first | exact Below.refl _ _ | refine Below.alloc ?_ (by simp <;> omega) _ | apply below_drewN)⟩
theorem rcheck_2 (op d a b : Nat) (imm : Int) (w : World) (hm : -2147483648 ≤ imm) (hM : imm ≤ 2147483647) (ho : op ≤ 21) (h : 7 < d) :
    Calls Tryz.prog 88 #[.agg #[.int .u8 (op : Int), .int .u8 (d : Int), .int .u8 (a : Int), .int .u8 (b : Int), .int .i32 imm]] w fun e w' => e = .returned (.int .i64 (chk op d a b imm)) ∧ Below w.heap.size w w' := by
  have HC := Lib.hid (chk_10 (op := op) (d := d) (a := a) (b := b) (imm := imm) (.inr (.inl (regB_big h))))
  go_enter Tryz.func88, Tryz.ntmps88
  go_wp2_with (first | (go_at_call 85; (with_reducible refine (ruses_c op _).mono ?_); rintro e w' ⟨rfl, rfl⟩))
  go_ret
  exact ⟨by rw [HC.out]; rfl, by repeat (first | exact Below.refl _ _ | refine Below.alloc ?_ (by simp <;> omega) _ | apply below_drewN)⟩
theorem rcheck_3 (op d a b : Nat) (imm : Int) (w : World) (hm : -2147483648 ≤ imm) (hM : imm ≤ 2147483647) (ho : op ≤ 21) (h1 : d ≤ 7) (h : 7 < a) :
    Calls Tryz.prog 88 #[.agg #[.int .u8 (op : Int), .int .u8 (d : Int), .int .u8 (a : Int), .int .u8 (b : Int), .int .i32 imm]] w fun e w' => e = .returned (.int .i64 (chk op d a b imm)) ∧ Below w.heap.size w w' := by
  have HC := Lib.hid (chk_10 (op := op) (d := d) (a := a) (b := b) (imm := imm) (.inr (.inr (.inl (regB_big h)))))
  go_enter Tryz.func88, Tryz.ntmps88
  go_wp2_with (first | (go_at_call 85; (with_reducible refine (ruses_c op _).mono ?_); rintro e w' ⟨rfl, rfl⟩))
  go_ret
  exact ⟨by rw [HC.out]; rfl, by repeat (first | exact Below.refl _ _ | refine Below.alloc ?_ (by simp <;> omega) _ | apply below_drewN)⟩
theorem rcheck_4 (op d a b : Nat) (imm : Int) (w : World) (hm : -2147483648 ≤ imm) (hM : imm ≤ 2147483647) (ho : op ≤ 21) (h1 : d ≤ 7) (h2 : a ≤ 7) (h : 7 < b) :
    Calls Tryz.prog 88 #[.agg #[.int .u8 (op : Int), .int .u8 (d : Int), .int .u8 (a : Int), .int .u8 (b : Int), .int .i32 imm]] w fun e w' => e = .returned (.int .i64 (chk op d a b imm)) ∧ Below w.heap.size w w' := by
  have HC := Lib.hid (chk_10 (op := op) (d := d) (a := a) (b := b) (imm := imm) (.inr (.inr (.inr (.inl (regB_big h))))))
  go_enter Tryz.func88, Tryz.ntmps88
  go_wp2_with (first | (go_at_call 85; (with_reducible refine (ruses_c op _).mono ?_); rintro e w' ⟨rfl, rfl⟩))
  go_ret
  exact ⟨by rw [HC.out]; rfl, by repeat (first | exact Below.refl _ _ | refine Below.alloc ?_ (by simp <;> omega) _ | apply below_drewN)⟩
theorem u_th {op : Nat} (c : 3 ≤ op ∧ op ≤ 10) : ud op = true ∧ ua op = true ∧ ub op = true ∧ ui op = false := by simp [ud, ua, ub, ui, three]; omega
theorem rcheck_th_i (op d a b : Nat) (imm : Int) (w : World) (hm : -2147483648 ≤ imm) (hM : imm ≤ 2147483647) (ho : op ≤ 21) (h1 : d ≤ 7) (h2 : a ≤ 7) (h3 : b ≤ 7) (c : 3 ≤ op ∧ op ≤ 10)  (hr : imm ≠ 0) :
    Calls Tryz.prog 88 #[.agg #[.int .u8 (op : Int), .int .u8 (d : Int), .int .u8 (a : Int), .int .u8 (b : Int), .int .i32 imm]] w fun e w' => e = .returned (.int .i64 (chk op d a b imm)) ∧ Below w.heap.size w w' := by
  have HC := Lib.hid (chk_10 (op := op) (d := d) (a := a) (b := b) (imm := imm) (.inr (.inr (.inr (.inr ⟨(u_th c).2.2.2, hr⟩)))))
  obtain ⟨u0, u1, u2, u3⟩ := u_th c
  have f_i : (imm != 0) = true := by rw [bne_iff_ne]; exact hr
  clear c hr
  go_enter Tryz.func88, Tryz.ntmps88
  go_wp2_with (first | (go_at_call 85; (with_reducible refine (ruses_c op _).mono ?_); rintro e w' ⟨rfl, rfl⟩))
  go_ret
  exact ⟨by rw [HC.out]; rfl, by repeat (first | exact Below.refl _ _ | refine Below.alloc ?_ (by simp <;> omega) _ | apply below_drewN)⟩
theorem rcheck_th_ok (op d a b : Nat) (imm : Int) (w : World) (hm : -2147483648 ≤ imm) (hM : imm ≤ 2147483647) (ho : op ≤ 21) (h1 : d ≤ 7) (h2 : a ≤ 7) (h3 : b ≤ 7) (c : 3 ≤ op ∧ op ≤ 10) (zi : imm = 0)  :
    Calls Tryz.prog 88 #[.agg #[.int .u8 (op : Int), .int .u8 (d : Int), .int .u8 (a : Int), .int .u8 (b : Int), .int .i32 imm]] w fun e w' => e = .returned (.int .i64 (chk op d a b imm)) ∧ Below w.heap.size w w' := by
  have HC := Lib.hid (chk_0 ⟨ho, regB_ok h1 (u_th c).1, regB_ok h2 (u_th c).2.1, regB_ok h3 (u_th c).2.2.1, .inr zi⟩ (by rw [zi]; decide) (fun h => by omega) (fun h => by omega))
  obtain ⟨u0, u1, u2, u3⟩ := u_th c
  have f_i : (imm != 0) = false := by rw [zi]; rfl
  have hf : fitsB imm 21 = true := by rw [zi]; decide
  have q17 : ((op : Int) == 17) = false := by first | (rw [e]; rfl) | (rw [beq_eq_false_iff_ne]; omega)
  have q21 : ((op : Int) == 21) = false := by first | (rw [e]; rfl) | (rw [beq_eq_false_iff_ne]; omega)
  have HF := Lib.hid hf; clear hf
  clear c
  clear hm hM
  subst zi
  go_enter Tryz.func88, Tryz.ntmps88
  go_wp2_with (first | (go_at_call 85; (with_reducible refine (ruses_c op _).mono ?_); rintro e w' ⟨rfl, rfl⟩) | (go_at_call 108; (with_reducible refine (rfits_at _ HF.out).mono ?_); rintro e w' ⟨rfl, ⟨nd, rfl⟩⟩; (try first | exact ⟨rfl, _, World.drewN_drewN _ _ _⟩ | exact ⟨rfl, _, Eq.trans (World.drewN_drewN _ _ _) (congrArg (World.drewN _) (Nat.add_assoc _ _ _))⟩)))
  go_ret
  exact ⟨by rw [HC.out]; rfl, by repeat (first | exact Below.refl _ _ | refine Below.alloc ?_ (by simp <;> omega) _ | apply below_drewN)⟩
theorem rcheck_th (op d a b : Nat) (imm : Int) (w : World) (hm : -2147483648 ≤ imm) (hM : imm ≤ 2147483647) (ho : op ≤ 21) (h1 : d ≤ 7) (h2 : a ≤ 7) (h3 : b ≤ 7) (c : 3 ≤ op ∧ op ≤ 10) :
    Calls Tryz.prog 88 #[.agg #[.int .u8 (op : Int), .int .u8 (d : Int), .int .u8 (a : Int), .int .u8 (b : Int), .int .i32 imm]] w fun e w' => e = .returned (.int .i64 (chk op d a b imm)) ∧ Below w.heap.size w w' := by
  by_cases zi : imm = 0
  case neg => exact rcheck_th_i op d a b imm w hm hM ho h1 h2 h3 c zi
  exact rcheck_th_ok op d a b imm w hm hM ho h1 h2 h3 c zi
theorem u_li {op : Nat} (c : op = 2) : ud op = true ∧ ua op = false ∧ ub op = false ∧ ui op = true := by simp [ud, ua, ub, ui, three]; omega
theorem rcheck_li_a (op d a b : Nat) (imm : Int) (w : World) (hm : -2147483648 ≤ imm) (hM : imm ≤ 2147483647) (ho : op ≤ 21) (h1 : d ≤ 7) (h2 : a ≤ 7) (h3 : b ≤ 7) (c : op = 2)  (hr : a ≠ 0) :
    Calls Tryz.prog 88 #[.agg #[.int .u8 (op : Int), .int .u8 (d : Int), .int .u8 (a : Int), .int .u8 (b : Int), .int .i32 imm]] w fun e w' => e = .returned (.int .i64 (chk op d a b imm)) ∧ Below w.heap.size w w' := by
  have HC := Lib.hid (chk_10 (op := op) (d := d) (a := a) (b := b) (imm := imm) (.inr (.inr (.inl (regB_none hr (u_li c).2.1)))))
  obtain ⟨u0, u1, u2, u3⟩ := u_li c
  have f_a : ((a : Int) != 0) = true := by rw [bne_iff_ne]; omega
  clear c hr
  go_enter Tryz.func88, Tryz.ntmps88
  go_wp2_with (first | (go_at_call 85; (with_reducible refine (ruses_c op _).mono ?_); rintro e w' ⟨rfl, rfl⟩))
  go_ret
  exact ⟨by rw [HC.out]; rfl, by repeat (first | exact Below.refl _ _ | refine Below.alloc ?_ (by simp <;> omega) _ | apply below_drewN)⟩
theorem rcheck_li_b (op d a b : Nat) (imm : Int) (w : World) (hm : -2147483648 ≤ imm) (hM : imm ≤ 2147483647) (ho : op ≤ 21) (h1 : d ≤ 7) (h2 : a ≤ 7) (h3 : b ≤ 7) (c : op = 2) (za : a = 0) (hr : b ≠ 0) :
    Calls Tryz.prog 88 #[.agg #[.int .u8 (op : Int), .int .u8 (d : Int), .int .u8 (a : Int), .int .u8 (b : Int), .int .i32 imm]] w fun e w' => e = .returned (.int .i64 (chk op d a b imm)) ∧ Below w.heap.size w w' := by
  have HC := Lib.hid (chk_10 (op := op) (d := d) (a := a) (b := b) (imm := imm) (.inr (.inr (.inr (.inl (regB_none hr (u_li c).2.2.1))))))
  obtain ⟨u0, u1, u2, u3⟩ := u_li c
  have f_a : ((a : Int) != 0) = false := by rw [za]; rfl
  have f_b : ((b : Int) != 0) = true := by rw [bne_iff_ne]; omega
  clear c hr za
  go_enter Tryz.func88, Tryz.ntmps88
  go_wp2_with (first | (go_at_call 85; (with_reducible refine (ruses_c op _).mono ?_); rintro e w' ⟨rfl, rfl⟩))
  go_ret
  exact ⟨by rw [HC.out]; rfl, by repeat (first | exact Below.refl _ _ | refine Below.alloc ?_ (by simp <;> omega) _ | apply below_drewN)⟩
theorem rcheck_li_f (op d a b : Nat) (imm : Int) (w : World) (hm : -2147483648 ≤ imm) (hM : imm ≤ 2147483647) (ho : op ≤ 21) (h1 : d ≤ 7) (h2 : a ≤ 7) (h3 : b ≤ 7) (c : op = 2) (za : a = 0) (zb : b = 0) (hf : fitsB imm 21 = false) :
    Calls Tryz.prog 88 #[.agg #[.int .u8 (op : Int), .int .u8 (d : Int), .int .u8 (a : Int), .int .u8 (b : Int), .int .i32 imm]] w fun e w' => e = .returned (.int .i64 (chk op d a b imm)) ∧ Below w.heap.size w w' := by
  have HC := Lib.hid (chk_11a ⟨ho, regB_ok h1 (u_li c).1, regB_zero za, regB_zero zb, .inl (u_li c).2.2.2⟩ hf)
  obtain ⟨u0, u1, u2, u3⟩ := u_li c
  have f_a : ((a : Int) != 0) = false := by rw [za]; rfl
  have f_b : ((b : Int) != 0) = false := by rw [zb]; rfl
  have HF := Lib.hid hf; clear hf
  clear c za zb
  go_enter Tryz.func88, Tryz.ntmps88
  go_wp2_with (first | (go_at_call 85; (with_reducible refine (ruses_c op _).mono ?_); rintro e w' ⟨rfl, rfl⟩) | (go_at_call 108; (with_reducible refine (rfits_at _ HF.out).mono ?_); rintro e w' ⟨rfl, ⟨nd, rfl⟩⟩; (try first | exact ⟨rfl, _, World.drewN_drewN _ _ _⟩ | exact ⟨rfl, _, Eq.trans (World.drewN_drewN _ _ _) (congrArg (World.drewN _) (Nat.add_assoc _ _ _))⟩)))
  go_ret
  exact ⟨by rw [HC.out]; rfl, by repeat (first | exact Below.refl _ _ | refine Below.alloc ?_ (by simp <;> omega) _ | apply below_drewN)⟩
theorem rcheck_li_ok (op d a b : Nat) (imm : Int) (w : World) (hm : -2147483648 ≤ imm) (hM : imm ≤ 2147483647) (ho : op ≤ 21) (h1 : d ≤ 7) (h2 : a ≤ 7) (h3 : b ≤ 7) (c : op = 2) (za : a = 0) (zb : b = 0) (hf : fitsB imm 21 = true) :
    Calls Tryz.prog 88 #[.agg #[.int .u8 (op : Int), .int .u8 (d : Int), .int .u8 (a : Int), .int .u8 (b : Int), .int .i32 imm]] w fun e w' => e = .returned (.int .i64 (chk op d a b imm)) ∧ Below w.heap.size w w' := by
  have HC := Lib.hid (chk_0 ⟨ho, regB_ok h1 (u_li c).1, regB_zero za, regB_zero zb, .inl (u_li c).2.2.2⟩ hf (fun h => by omega) (fun h => by omega))
  obtain ⟨u0, u1, u2, u3⟩ := u_li c
  have f_a : ((a : Int) != 0) = false := by rw [za]; rfl
  have f_b : ((b : Int) != 0) = false := by rw [zb]; rfl
  have q17 : ((op : Int) == 17) = false := by first | (rw [e]; rfl) | (rw [beq_eq_false_iff_ne]; omega)
  have q21 : ((op : Int) == 21) = false := by first | (rw [e]; rfl) | (rw [beq_eq_false_iff_ne]; omega)
  have HF := Lib.hid hf; clear hf
  clear c za zb
  go_enter Tryz.func88, Tryz.ntmps88
  go_wp2_with (first | (go_at_call 85; (with_reducible refine (ruses_c op _).mono ?_); rintro e w' ⟨rfl, rfl⟩) | (go_at_call 108; (with_reducible refine (rfits_at _ HF.out).mono ?_); rintro e w' ⟨rfl, ⟨nd, rfl⟩⟩; (try first | exact ⟨rfl, _, World.drewN_drewN _ _ _⟩ | exact ⟨rfl, _, Eq.trans (World.drewN_drewN _ _ _) (congrArg (World.drewN _) (Nat.add_assoc _ _ _))⟩)))
  go_ret
  exact ⟨by rw [HC.out]; rfl, by repeat (first | exact Below.refl _ _ | refine Below.alloc ?_ (by simp <;> omega) _ | apply below_drewN)⟩
theorem rcheck_li (op d a b : Nat) (imm : Int) (w : World) (hm : -2147483648 ≤ imm) (hM : imm ≤ 2147483647) (ho : op ≤ 21) (h1 : d ≤ 7) (h2 : a ≤ 7) (h3 : b ≤ 7) (c : op = 2) :
    Calls Tryz.prog 88 #[.agg #[.int .u8 (op : Int), .int .u8 (d : Int), .int .u8 (a : Int), .int .u8 (b : Int), .int .i32 imm]] w fun e w' => e = .returned (.int .i64 (chk op d a b imm)) ∧ Below w.heap.size w w' := by
  by_cases za : a = 0
  case neg => exact rcheck_li_a op d a b imm w hm hM ho h1 h2 h3 c za
  by_cases zb : b = 0
  case neg => exact rcheck_li_b op d a b imm w hm hM ho h1 h2 h3 c za zb
  cases hf : fitsB imm 21 with
  | false => exact rcheck_li_f op d a b imm w hm hM ho h1 h2 h3 c za zb hf
  | true => exact rcheck_li_ok op d a b imm w hm hM ho h1 h2 h3 c za zb hf
theorem u_ad {op : Nat} (c : op = 11 ∨ op = 12 ∨ op = 13 ∨ op = 15 ∨ op = 16) : ud op = true ∧ ua op = true ∧ ub op = false ∧ ui op = true := by simp [ud, ua, ub, ui, three]; omega
theorem rcheck_ad_b (op d a b : Nat) (imm : Int) (w : World) (hm : -2147483648 ≤ imm) (hM : imm ≤ 2147483647) (ho : op ≤ 21) (h1 : d ≤ 7) (h2 : a ≤ 7) (h3 : b ≤ 7) (c : op = 11 ∨ op = 12 ∨ op = 13 ∨ op = 15 ∨ op = 16)  (hr : b ≠ 0) :
    Calls Tryz.prog 88 #[.agg #[.int .u8 (op : Int), .int .u8 (d : Int), .int .u8 (a : Int), .int .u8 (b : Int), .int .i32 imm]] w fun e w' => e = .returned (.int .i64 (chk op d a b imm)) ∧ Below w.heap.size w w' := by
  have HC := Lib.hid (chk_10 (op := op) (d := d) (a := a) (b := b) (imm := imm) (.inr (.inr (.inr (.inl (regB_none hr (u_ad c).2.2.1))))))
  obtain ⟨u0, u1, u2, u3⟩ := u_ad c
  have f_b : ((b : Int) != 0) = true := by rw [bne_iff_ne]; omega
  clear c hr
  go_enter Tryz.func88, Tryz.ntmps88
  go_wp2_with (first | (go_at_call 85; (with_reducible refine (ruses_c op _).mono ?_); rintro e w' ⟨rfl, rfl⟩))
  go_ret
  exact ⟨by rw [HC.out]; rfl, by repeat (first | exact Below.refl _ _ | refine Below.alloc ?_ (by simp <;> omega) _ | apply below_drewN)⟩
theorem rcheck_ad_f (op d a b : Nat) (imm : Int) (w : World) (hm : -2147483648 ≤ imm) (hM : imm ≤ 2147483647) (ho : op ≤ 21) (h1 : d ≤ 7) (h2 : a ≤ 7) (h3 : b ≤ 7) (c : op = 11 ∨ op = 12 ∨ op = 13 ∨ op = 15 ∨ op = 16) (zb : b = 0) (hf : fitsB imm 21 = false) :
    Calls Tryz.prog 88 #[.agg #[.int .u8 (op : Int), .int .u8 (d : Int), .int .u8 (a : Int), .int .u8 (b : Int), .int .i32 imm]] w fun e w' => e = .returned (.int .i64 (chk op d a b imm)) ∧ Below w.heap.size w w' := by
  have HC := Lib.hid (chk_11a ⟨ho, regB_ok h1 (u_ad c).1, regB_ok h2 (u_ad c).2.1, regB_zero zb, .inl (u_ad c).2.2.2⟩ hf)
  obtain ⟨u0, u1, u2, u3⟩ := u_ad c
  have f_b : ((b : Int) != 0) = false := by rw [zb]; rfl
  have HF := Lib.hid hf; clear hf
  clear c zb
  go_enter Tryz.func88, Tryz.ntmps88
  go_wp2_with (first | (go_at_call 85; (with_reducible refine (ruses_c op _).mono ?_); rintro e w' ⟨rfl, rfl⟩) | (go_at_call 108; (with_reducible refine (rfits_at _ HF.out).mono ?_); rintro e w' ⟨rfl, ⟨nd, rfl⟩⟩; (try first | exact ⟨rfl, _, World.drewN_drewN _ _ _⟩ | exact ⟨rfl, _, Eq.trans (World.drewN_drewN _ _ _) (congrArg (World.drewN _) (Nat.add_assoc _ _ _))⟩)))
  go_ret
  exact ⟨by rw [HC.out]; rfl, by repeat (first | exact Below.refl _ _ | refine Below.alloc ?_ (by simp <;> omega) _ | apply below_drewN)⟩
theorem rcheck_ad_ok (op d a b : Nat) (imm : Int) (w : World) (hm : -2147483648 ≤ imm) (hM : imm ≤ 2147483647) (ho : op ≤ 21) (h1 : d ≤ 7) (h2 : a ≤ 7) (h3 : b ≤ 7) (c : op = 11 ∨ op = 12 ∨ op = 13 ∨ op = 15 ∨ op = 16) (zb : b = 0) (hf : fitsB imm 21 = true) :
    Calls Tryz.prog 88 #[.agg #[.int .u8 (op : Int), .int .u8 (d : Int), .int .u8 (a : Int), .int .u8 (b : Int), .int .i32 imm]] w fun e w' => e = .returned (.int .i64 (chk op d a b imm)) ∧ Below w.heap.size w w' := by
  have HC := Lib.hid (chk_0 ⟨ho, regB_ok h1 (u_ad c).1, regB_ok h2 (u_ad c).2.1, regB_zero zb, .inl (u_ad c).2.2.2⟩ hf (fun h => by omega) (fun h => by omega))
  obtain ⟨u0, u1, u2, u3⟩ := u_ad c
  have f_b : ((b : Int) != 0) = false := by rw [zb]; rfl
  have q17 : ((op : Int) == 17) = false := by first | (rw [e]; rfl) | (rw [beq_eq_false_iff_ne]; omega)
  have q21 : ((op : Int) == 21) = false := by first | (rw [e]; rfl) | (rw [beq_eq_false_iff_ne]; omega)
  have HF := Lib.hid hf; clear hf
  clear c zb
  go_enter Tryz.func88, Tryz.ntmps88
  go_wp2_with (first | (go_at_call 85; (with_reducible refine (ruses_c op _).mono ?_); rintro e w' ⟨rfl, rfl⟩) | (go_at_call 108; (with_reducible refine (rfits_at _ HF.out).mono ?_); rintro e w' ⟨rfl, ⟨nd, rfl⟩⟩; (try first | exact ⟨rfl, _, World.drewN_drewN _ _ _⟩ | exact ⟨rfl, _, Eq.trans (World.drewN_drewN _ _ _) (congrArg (World.drewN _) (Nat.add_assoc _ _ _))⟩)))
  go_ret
  exact ⟨by rw [HC.out]; rfl, by repeat (first | exact Below.refl _ _ | refine Below.alloc ?_ (by simp <;> omega) _ | apply below_drewN)⟩
theorem rcheck_ad (op d a b : Nat) (imm : Int) (w : World) (hm : -2147483648 ≤ imm) (hM : imm ≤ 2147483647) (ho : op ≤ 21) (h1 : d ≤ 7) (h2 : a ≤ 7) (h3 : b ≤ 7) (c : op = 11 ∨ op = 12 ∨ op = 13 ∨ op = 15 ∨ op = 16) :
    Calls Tryz.prog 88 #[.agg #[.int .u8 (op : Int), .int .u8 (d : Int), .int .u8 (a : Int), .int .u8 (b : Int), .int .i32 imm]] w fun e w' => e = .returned (.int .i64 (chk op d a b imm)) ∧ Below w.heap.size w w' := by
  by_cases zb : b = 0
  case neg => exact rcheck_ad_b op d a b imm w hm hM ho h1 h2 h3 c zb
  cases hf : fitsB imm 21 with
  | false => exact rcheck_ad_f op d a b imm w hm hM ho h1 h2 h3 c zb hf
  | true => exact rcheck_ad_ok op d a b imm w hm hM ho h1 h2 h3 c zb hf
end Go.Proofs.YthnbdeibjbicpaaGreat.I3
