/- Contracts of isa.Check and of the reference's, case by case. Conditions: the bounds of the fields' kinds. -/
import Derived.Test.YthnbdeibjbicpaaGreatKIsaA
set_option linter.unusedSimpArgs false
namespace Go.Proofs.YthnbdeibjbicpaaGreat.I2
set_option linter.unusedVariables false
open Go.RowKit Go.Proofs.YthnbdeibjbicpaaGreat.WM Go.Proofs.YthnbdeibjbicpaaGreat.IM Go.Proofs.YthnbdeibjbicpaaGreat.W1 Go.Proofs.YthnbdeibjbicpaaGreat.I1

theorem check_1 (op d a b : Nat) (imm : Int) (w : World) (hm : -2147483648 ≤ imm) (hM : imm ≤ 2147483647) (h : 21 < op) :
    Calls Tryz.prog 99 #[.agg #[.int .u8 (op : Int), .int .u8 (d : Int), .int .u8 (a : Int), .int .u8 (b : Int), .int .i32 imm]] w fun e w' => e = .returned (.int .i64 (chk op d a b imm)) ∧ Below w.heap.size w w' := by
  have HC := Lib.hid (chk_10 (op := op) (d := d) (a := a) (b := b) (imm := imm) (.inl h))
  go_enter Tryz.func99, Tryz.ntmps99
  go_wp2_with (first | (go_at_call 75; (with_reducible refine (uses_c op _).mono ?_); rintro e w' ⟨rfl, ⟨nd, rfl⟩⟩; (try first | exact ⟨rfl, _, World.drewN_drewN _ _ _⟩ | exact ⟨rfl, _, Eq.trans (World.drewN_drewN _ _ _) (congrArg (World.drewN _) (Nat.add_assoc _ _ _))⟩)))
  go_ret
  exact ⟨by rw [HC.out]; rfl, by repeat (first | exact Below.refl _ _ | exact (Below.refl _ _).alloc (Nat.le_refl _) _ | apply below_drewN)⟩
theorem check_2 (op d a b : Nat) (imm : Int) (w : World) (hm : -2147483648 ≤ imm) (hM : imm ≤ 2147483647) (ho : op ≤ 21) (hd : regB d (ud op) = false) :
    Calls Tryz.prog 99 #[.agg #[.int .u8 (op : Int), .int .u8 (d : Int), .int .u8 (a : Int), .int .u8 (b : Int), .int .i32 imm]] w fun e w' => e = .returned (.int .i64 (chk op d a b imm)) ∧ Below w.heap.size w w' := by
  have HC := Lib.hid (chk_10 (op := op) (d := d) (a := a) (b := b) (imm := imm) (.inr (.inl hd)))
  have HD := Lib.hid hd; clear hd
  go_enter Tryz.func99, Tryz.ntmps99
  go_wp2_with (first | (go_at_call 75; (with_reducible refine (uses_c op _).mono ?_); rintro e w' ⟨rfl, ⟨nd, rfl⟩⟩; (try first | exact ⟨rfl, _, World.drewN_drewN _ _ _⟩ | exact ⟨rfl, _, Eq.trans (World.drewN_drewN _ _ _) (congrArg (World.drewN _) (Nat.add_assoc _ _ _))⟩)) | (go_at_call 109; (with_reducible refine (reg_at _ HD.out).mono ?_); rintro e w' ⟨rfl, ⟨nd, rfl⟩⟩; (try first | exact ⟨rfl, _, World.drewN_drewN _ _ _⟩ | exact ⟨rfl, _, Eq.trans (World.drewN_drewN _ _ _) (congrArg (World.drewN _) (Nat.add_assoc _ _ _))⟩)))
  go_ret
  exact ⟨by rw [HC.out]; rfl, by repeat (first | exact Below.refl _ _ | exact (Below.refl _ _).alloc (Nat.le_refl _) _ | apply below_drewN)⟩
theorem check_3 (op d a b : Nat) (imm : Int) (w : World) (hm : -2147483648 ≤ imm) (hM : imm ≤ 2147483647) (ho : op ≤ 21) (hd : regB d (ud op) = true) (ha : regB a (ua op) = false) :
    Calls Tryz.prog 99 #[.agg #[.int .u8 (op : Int), .int .u8 (d : Int), .int .u8 (a : Int), .int .u8 (b : Int), .int .i32 imm]] w fun e w' => e = .returned (.int .i64 (chk op d a b imm)) ∧ Below w.heap.size w w' := by
  have HC := Lib.hid (chk_10 (op := op) (d := d) (a := a) (b := b) (imm := imm) (.inr (.inr (.inl ha))))
  have HD := Lib.hid hd; clear hd
  have HA := Lib.hid ha; clear ha
  go_enter Tryz.func99, Tryz.ntmps99
  go_wp2_with (first | (go_at_call 75; (with_reducible refine (uses_c op _).mono ?_); rintro e w' ⟨rfl, ⟨nd, rfl⟩⟩; (try first | exact ⟨rfl, _, World.drewN_drewN _ _ _⟩ | exact ⟨rfl, _, Eq.trans (World.drewN_drewN _ _ _) (congrArg (World.drewN _) (Nat.add_assoc _ _ _))⟩)) | (go_at_call 109; (with_reducible refine (reg_at _ HD.out).mono ?_); rintro e w' ⟨rfl, ⟨nd, rfl⟩⟩; (try first | exact ⟨rfl, _, World.drewN_drewN _ _ _⟩ | exact ⟨rfl, _, Eq.trans (World.drewN_drewN _ _ _) (congrArg (World.drewN _) (Nat.add_assoc _ _ _))⟩)) | (go_at_call 109; (with_reducible refine (reg_at _ HA.out).mono ?_); rintro e w' ⟨rfl, ⟨nd, rfl⟩⟩; (try first | exact ⟨rfl, _, World.drewN_drewN _ _ _⟩ | exact ⟨rfl, _, Eq.trans (World.drewN_drewN _ _ _) (congrArg (World.drewN _) (Nat.add_assoc _ _ _))⟩)))
  go_ret
  exact ⟨by rw [HC.out]; rfl, by repeat (first | exact Below.refl _ _ | exact (Below.refl _ _).alloc (Nat.le_refl _) _ | apply below_drewN)⟩
theorem check_4 (op d a b : Nat) (imm : Int) (w : World) (hm : -2147483648 ≤ imm) (hM : imm ≤ 2147483647) (ho : op ≤ 21) (hd : regB d (ud op) = true) (ha : regB a (ua op) = true) (hb : regB b (ub op) = false) :
    Calls Tryz.prog 99 #[.agg #[.int .u8 (op : Int), .int .u8 (d : Int), .int .u8 (a : Int), .int .u8 (b : Int), .int .i32 imm]] w fun e w' => e = .returned (.int .i64 (chk op d a b imm)) ∧ Below w.heap.size w w' := by
  have HC := Lib.hid (chk_10 (op := op) (d := d) (a := a) (b := b) (imm := imm) (.inr (.inr (.inr (.inl hb)))))
  have HD := Lib.hid hd; clear hd
  have HA := Lib.hid ha; clear ha
  have HB := Lib.hid hb; clear hb
  go_enter Tryz.func99, Tryz.ntmps99
  go_wp2_with (first | (go_at_call 75; (with_reducible refine (uses_c op _).mono ?_); rintro e w' ⟨rfl, ⟨nd, rfl⟩⟩; (try first | exact ⟨rfl, _, World.drewN_drewN _ _ _⟩ | exact ⟨rfl, _, Eq.trans (World.drewN_drewN _ _ _) (congrArg (World.drewN _) (Nat.add_assoc _ _ _))⟩)) | (go_at_call 109; (with_reducible refine (reg_at _ HD.out).mono ?_); rintro e w' ⟨rfl, ⟨nd, rfl⟩⟩; (try first | exact ⟨rfl, _, World.drewN_drewN _ _ _⟩ | exact ⟨rfl, _, Eq.trans (World.drewN_drewN _ _ _) (congrArg (World.drewN _) (Nat.add_assoc _ _ _))⟩)) | (go_at_call 109; (with_reducible refine (reg_at _ HA.out).mono ?_); rintro e w' ⟨rfl, ⟨nd, rfl⟩⟩; (try first | exact ⟨rfl, _, World.drewN_drewN _ _ _⟩ | exact ⟨rfl, _, Eq.trans (World.drewN_drewN _ _ _) (congrArg (World.drewN _) (Nat.add_assoc _ _ _))⟩)) | (go_at_call 109; (with_reducible refine (reg_at _ HB.out).mono ?_); rintro e w' ⟨rfl, ⟨nd, rfl⟩⟩; (try first | exact ⟨rfl, _, World.drewN_drewN _ _ _⟩ | exact ⟨rfl, _, Eq.trans (World.drewN_drewN _ _ _) (congrArg (World.drewN _) (Nat.add_assoc _ _ _))⟩)))
  go_ret
  exact ⟨by rw [HC.out]; rfl, by repeat (first | exact Below.refl _ _ | exact (Below.refl _ _).alloc (Nat.le_refl _) _ | apply below_drewN)⟩
theorem check_5 (op d a b : Nat) (imm : Int) (w : World) (hm : -2147483648 ≤ imm) (hM : imm ≤ 2147483647) (ho : op ≤ 21) (hd : regB d (ud op) = true) (ha : regB a (ua op) = true) (hb : regB b (ub op) = true) (hu : ui op = false) (hi : imm ≠ 0) :
    Calls Tryz.prog 99 #[.agg #[.int .u8 (op : Int), .int .u8 (d : Int), .int .u8 (a : Int), .int .u8 (b : Int), .int .i32 imm]] w fun e w' => e = .returned (.int .i64 (chk op d a b imm)) ∧ Below w.heap.size w w' := by
  have HC := Lib.hid (chk_10 (op := op) (d := d) (a := a) (b := b) (imm := imm) (.inr (.inr (.inr (.inr ⟨hu, hi⟩)))))
  have HD := Lib.hid hd; clear hd
  have HA := Lib.hid ha; clear ha
  have HB := Lib.hid hb; clear hb
  have hi2 : (imm != 0) = true := by rw [bne_iff_ne]; exact hi
  clear hi
  go_enter Tryz.func99, Tryz.ntmps99
  go_wp2_with (first | (go_at_call 75; (with_reducible refine (uses_c op _).mono ?_); rintro e w' ⟨rfl, ⟨nd, rfl⟩⟩; (try first | exact ⟨rfl, _, World.drewN_drewN _ _ _⟩ | exact ⟨rfl, _, Eq.trans (World.drewN_drewN _ _ _) (congrArg (World.drewN _) (Nat.add_assoc _ _ _))⟩)) | (go_at_call 109; (with_reducible refine (reg_at _ HD.out).mono ?_); rintro e w' ⟨rfl, ⟨nd, rfl⟩⟩; (try first | exact ⟨rfl, _, World.drewN_drewN _ _ _⟩ | exact ⟨rfl, _, Eq.trans (World.drewN_drewN _ _ _) (congrArg (World.drewN _) (Nat.add_assoc _ _ _))⟩)) | (go_at_call 109; (with_reducible refine (reg_at _ HA.out).mono ?_); rintro e w' ⟨rfl, ⟨nd, rfl⟩⟩; (try first | exact ⟨rfl, _, World.drewN_drewN _ _ _⟩ | exact ⟨rfl, _, Eq.trans (World.drewN_drewN _ _ _) (congrArg (World.drewN _) (Nat.add_assoc _ _ _))⟩)) | (go_at_call 109; (with_reducible refine (reg_at _ HB.out).mono ?_); rintro e w' ⟨rfl, ⟨nd, rfl⟩⟩; (try first | exact ⟨rfl, _, World.drewN_drewN _ _ _⟩ | exact ⟨rfl, _, Eq.trans (World.drewN_drewN _ _ _) (congrArg (World.drewN _) (Nat.add_assoc _ _ _))⟩)))
  go_ret
  exact ⟨by rw [HC.out]; rfl, by repeat (first | exact Below.refl _ _ | exact (Below.refl _ _).alloc (Nat.le_refl _) _ | apply below_drewN)⟩
theorem check_6t (op d a b : Nat) (imm : Int) (w : World) (hm : -2147483648 ≤ imm) (hM : imm ≤ 2147483647) (ho : op ≤ 21) (hd : regB d (ud op) = true) (ha : regB a (ua op) = true) (hb : regB b (ub op) = true) (hu : ui op = true) (hf : fitsB imm 21 = false) :
    Calls Tryz.prog 99 #[.agg #[.int .u8 (op : Int), .int .u8 (d : Int), .int .u8 (a : Int), .int .u8 (b : Int), .int .i32 imm]] w fun e w' => e = .returned (.int .i64 (chk op d a b imm)) ∧ Below w.heap.size w w' := by
  have HC := Lib.hid (chk_11a ⟨ho, hd, ha, hb, .inl hu⟩ hf)
  have HD := Lib.hid hd; clear hd
  have HA := Lib.hid ha; clear ha
  have HB := Lib.hid hb; clear hb
  have HF := Lib.hid hf; clear hf
  go_enter Tryz.func99, Tryz.ntmps99
  go_wp2_with (first | (go_at_call 75; (with_reducible refine (uses_c op _).mono ?_); rintro e w' ⟨rfl, ⟨nd, rfl⟩⟩; (try first | exact ⟨rfl, _, World.drewN_drewN _ _ _⟩ | exact ⟨rfl, _, Eq.trans (World.drewN_drewN _ _ _) (congrArg (World.drewN _) (Nat.add_assoc _ _ _))⟩)) | (go_at_call 109; (with_reducible refine (reg_at _ HD.out).mono ?_); rintro e w' ⟨rfl, ⟨nd, rfl⟩⟩; (try first | exact ⟨rfl, _, World.drewN_drewN _ _ _⟩ | exact ⟨rfl, _, Eq.trans (World.drewN_drewN _ _ _) (congrArg (World.drewN _) (Nat.add_assoc _ _ _))⟩)) | (go_at_call 109; (with_reducible refine (reg_at _ HA.out).mono ?_); rintro e w' ⟨rfl, ⟨nd, rfl⟩⟩; (try first | exact ⟨rfl, _, World.drewN_drewN _ _ _⟩ | exact ⟨rfl, _, Eq.trans (World.drewN_drewN _ _ _) (congrArg (World.drewN _) (Nat.add_assoc _ _ _))⟩)) | (go_at_call 109; (with_reducible refine (reg_at _ HB.out).mono ?_); rintro e w' ⟨rfl, ⟨nd, rfl⟩⟩; (try first | exact ⟨rfl, _, World.drewN_drewN _ _ _⟩ | exact ⟨rfl, _, Eq.trans (World.drewN_drewN _ _ _) (congrArg (World.drewN _) (Nat.add_assoc _ _ _))⟩)) | (go_at_call 110; (with_reducible refine (fits_at _ HF.out).mono ?_); rintro e w' ⟨rfl, ⟨nd, rfl⟩⟩; (try first | exact ⟨rfl, _, World.drewN_drewN _ _ _⟩ | exact ⟨rfl, _, Eq.trans (World.drewN_drewN _ _ _) (congrArg (World.drewN _) (Nat.add_assoc _ _ _))⟩)))
  go_ret
  exact ⟨by rw [HC.out]; rfl, by repeat (first | exact Below.refl _ _ | exact (Below.refl _ _).alloc (Nat.le_refl _) _ | apply below_drewN)⟩
theorem check_7t (op d a b : Nat) (imm : Int) (w : World) (hm : -2147483648 ≤ imm) (hM : imm ≤ 2147483647) (ho : op ≤ 21) (hd : regB d (ud op) = true) (ha : regB a (ua op) = true) (hb : regB b (ub op) = true) (hu : ui op = true) (hf : fitsB imm 21 = true) (hc : op = 17) (hi : imm < 0) :
    Calls Tryz.prog 99 #[.agg #[.int .u8 (op : Int), .int .u8 (d : Int), .int .u8 (a : Int), .int .u8 (b : Int), .int .i32 imm]] w fun e w' => e = .returned (.int .i64 (chk op d a b imm)) ∧ Below w.heap.size w w' := by
  have HC := Lib.hid (chk_11b ⟨ho, hd, ha, hb, .inl hu⟩ hf hc hi)
  have HD := Lib.hid hd; clear hd
  have HA := Lib.hid ha; clear ha
  have HB := Lib.hid hb; clear hb
  have HF := Lib.hid hf; clear hf
  have q17 : ((op : Int) == 17) = true := by rw [hc]; rfl
  have q21 : ((op : Int) == 21) = false := by rw [hc]; rfl
  clear hc
  go_enter Tryz.func99, Tryz.ntmps99
  go_wp2_with (first | (go_at_call 75; (with_reducible refine (uses_c op _).mono ?_); rintro e w' ⟨rfl, ⟨nd, rfl⟩⟩; (try first | exact ⟨rfl, _, World.drewN_drewN _ _ _⟩ | exact ⟨rfl, _, Eq.trans (World.drewN_drewN _ _ _) (congrArg (World.drewN _) (Nat.add_assoc _ _ _))⟩)) | (go_at_call 109; (with_reducible refine (reg_at _ HD.out).mono ?_); rintro e w' ⟨rfl, ⟨nd, rfl⟩⟩; (try first | exact ⟨rfl, _, World.drewN_drewN _ _ _⟩ | exact ⟨rfl, _, Eq.trans (World.drewN_drewN _ _ _) (congrArg (World.drewN _) (Nat.add_assoc _ _ _))⟩)) | (go_at_call 109; (with_reducible refine (reg_at _ HA.out).mono ?_); rintro e w' ⟨rfl, ⟨nd, rfl⟩⟩; (try first | exact ⟨rfl, _, World.drewN_drewN _ _ _⟩ | exact ⟨rfl, _, Eq.trans (World.drewN_drewN _ _ _) (congrArg (World.drewN _) (Nat.add_assoc _ _ _))⟩)) | (go_at_call 109; (with_reducible refine (reg_at _ HB.out).mono ?_); rintro e w' ⟨rfl, ⟨nd, rfl⟩⟩; (try first | exact ⟨rfl, _, World.drewN_drewN _ _ _⟩ | exact ⟨rfl, _, Eq.trans (World.drewN_drewN _ _ _) (congrArg (World.drewN _) (Nat.add_assoc _ _ _))⟩)) | (go_at_call 110; (with_reducible refine (fits_at _ HF.out).mono ?_); rintro e w' ⟨rfl, ⟨nd, rfl⟩⟩; (try first | exact ⟨rfl, _, World.drewN_drewN _ _ _⟩ | exact ⟨rfl, _, Eq.trans (World.drewN_drewN _ _ _) (congrArg (World.drewN _) (Nat.add_assoc _ _ _))⟩)))
  go_ret
  exact ⟨by rw [HC.out]; rfl, by repeat (first | exact Below.refl _ _ | exact (Below.refl _ _).alloc (Nat.le_refl _) _ | apply below_drewN)⟩
theorem check_8t (op d a b : Nat) (imm : Int) (w : World) (hm : -2147483648 ≤ imm) (hM : imm ≤ 2147483647) (ho : op ≤ 21) (hd : regB d (ud op) = true) (ha : regB a (ua op) = true) (hb : regB b (ub op) = true) (hu : ui op = true) (hf : fitsB imm 21 = true) (hc : op = 21) (hi : imm < 0) :
    Calls Tryz.prog 99 #[.agg #[.int .u8 (op : Int), .int .u8 (d : Int), .int .u8 (a : Int), .int .u8 (b : Int), .int .i32 imm]] w fun e w' => e = .returned (.int .i64 (chk op d a b imm)) ∧ Below w.heap.size w w' := by
  have HC := Lib.hid (chk_11c ⟨ho, hd, ha, hb, .inl hu⟩ hf hc (.inl hi))
  have HD := Lib.hid hd; clear hd
  have HA := Lib.hid ha; clear ha
  have HB := Lib.hid hb; clear hb
  have HF := Lib.hid hf; clear hf
  have q17 : ((op : Int) == 17) = false := by rw [hc]; rfl
  have q21 : ((op : Int) == 21) = true := by rw [hc]; rfl
  clear hc
  go_enter Tryz.func99, Tryz.ntmps99
  go_wp2_with (first | (go_at_call 75; (with_reducible refine (uses_c op _).mono ?_); rintro e w' ⟨rfl, ⟨nd, rfl⟩⟩; (try first | exact ⟨rfl, _, World.drewN_drewN _ _ _⟩ | exact ⟨rfl, _, Eq.trans (World.drewN_drewN _ _ _) (congrArg (World.drewN _) (Nat.add_assoc _ _ _))⟩)) | (go_at_call 109; (with_reducible refine (reg_at _ HD.out).mono ?_); rintro e w' ⟨rfl, ⟨nd, rfl⟩⟩; (try first | exact ⟨rfl, _, World.drewN_drewN _ _ _⟩ | exact ⟨rfl, _, Eq.trans (World.drewN_drewN _ _ _) (congrArg (World.drewN _) (Nat.add_assoc _ _ _))⟩)) | (go_at_call 109; (with_reducible refine (reg_at _ HA.out).mono ?_); rintro e w' ⟨rfl, ⟨nd, rfl⟩⟩; (try first | exact ⟨rfl, _, World.drewN_drewN _ _ _⟩ | exact ⟨rfl, _, Eq.trans (World.drewN_drewN _ _ _) (congrArg (World.drewN _) (Nat.add_assoc _ _ _))⟩)) | (go_at_call 109; (with_reducible refine (reg_at _ HB.out).mono ?_); rintro e w' ⟨rfl, ⟨nd, rfl⟩⟩; (try first | exact ⟨rfl, _, World.drewN_drewN _ _ _⟩ | exact ⟨rfl, _, Eq.trans (World.drewN_drewN _ _ _) (congrArg (World.drewN _) (Nat.add_assoc _ _ _))⟩)) | (go_at_call 110; (with_reducible refine (fits_at _ HF.out).mono ?_); rintro e w' ⟨rfl, ⟨nd, rfl⟩⟩; (try first | exact ⟨rfl, _, World.drewN_drewN _ _ _⟩ | exact ⟨rfl, _, Eq.trans (World.drewN_drewN _ _ _) (congrArg (World.drewN _) (Nat.add_assoc _ _ _))⟩)))
  go_ret
  exact ⟨by rw [HC.out]; rfl, by repeat (first | exact Below.refl _ _ | exact (Below.refl _ _).alloc (Nat.le_refl _) _ | apply below_drewN)⟩
theorem check_9t (op d a b : Nat) (imm : Int) (w : World) (hm : -2147483648 ≤ imm) (hM : imm ≤ 2147483647) (ho : op ≤ 21) (hd : regB d (ud op) = true) (ha : regB a (ua op) = true) (hb : regB b (ub op) = true) (hu : ui op = true) (hf : fitsB imm 21 = true) (hc : op = 21) (hi : 63 < imm) :
    Calls Tryz.prog 99 #[.agg #[.int .u8 (op : Int), .int .u8 (d : Int), .int .u8 (a : Int), .int .u8 (b : Int), .int .i32 imm]] w fun e w' => e = .returned (.int .i64 (chk op d a b imm)) ∧ Below w.heap.size w w' := by
  have HC := Lib.hid (chk_11c ⟨ho, hd, ha, hb, .inl hu⟩ hf hc (.inr hi))
  have HD := Lib.hid hd; clear hd
  have HA := Lib.hid ha; clear ha
  have HB := Lib.hid hb; clear hb
  have HF := Lib.hid hf; clear hf
  have q17 : ((op : Int) == 17) = false := by rw [hc]; rfl
  have q21 : ((op : Int) == 21) = true := by rw [hc]; rfl
  clear hc
  have hi0 : 0 ≤ imm := by omega
  go_enter Tryz.func99, Tryz.ntmps99
  go_wp2_with (first | (go_at_call 75; (with_reducible refine (uses_c op _).mono ?_); rintro e w' ⟨rfl, ⟨nd, rfl⟩⟩; (try first | exact ⟨rfl, _, World.drewN_drewN _ _ _⟩ | exact ⟨rfl, _, Eq.trans (World.drewN_drewN _ _ _) (congrArg (World.drewN _) (Nat.add_assoc _ _ _))⟩)) | (go_at_call 109; (with_reducible refine (reg_at _ HD.out).mono ?_); rintro e w' ⟨rfl, ⟨nd, rfl⟩⟩; (try first | exact ⟨rfl, _, World.drewN_drewN _ _ _⟩ | exact ⟨rfl, _, Eq.trans (World.drewN_drewN _ _ _) (congrArg (World.drewN _) (Nat.add_assoc _ _ _))⟩)) | (go_at_call 109; (with_reducible refine (reg_at _ HA.out).mono ?_); rintro e w' ⟨rfl, ⟨nd, rfl⟩⟩; (try first | exact ⟨rfl, _, World.drewN_drewN _ _ _⟩ | exact ⟨rfl, _, Eq.trans (World.drewN_drewN _ _ _) (congrArg (World.drewN _) (Nat.add_assoc _ _ _))⟩)) | (go_at_call 109; (with_reducible refine (reg_at _ HB.out).mono ?_); rintro e w' ⟨rfl, ⟨nd, rfl⟩⟩; (try first | exact ⟨rfl, _, World.drewN_drewN _ _ _⟩ | exact ⟨rfl, _, Eq.trans (World.drewN_drewN _ _ _) (congrArg (World.drewN _) (Nat.add_assoc _ _ _))⟩)) | (go_at_call 110; (with_reducible refine (fits_at _ HF.out).mono ?_); rintro e w' ⟨rfl, ⟨nd, rfl⟩⟩; (try first | exact ⟨rfl, _, World.drewN_drewN _ _ _⟩ | exact ⟨rfl, _, Eq.trans (World.drewN_drewN _ _ _) (congrArg (World.drewN _) (Nat.add_assoc _ _ _))⟩)))
  go_ret
  exact ⟨by rw [HC.out]; rfl, by repeat (first | exact Below.refl _ _ | exact (Below.refl _ _).alloc (Nat.le_refl _) _ | apply below_drewN)⟩
theorem check_at (op d a b : Nat) (imm : Int) (w : World) (hm : -2147483648 ≤ imm) (hM : imm ≤ 2147483647) (ho : op ≤ 21) (hd : regB d (ud op) = true) (ha : regB a (ua op) = true) (hb : regB b (ub op) = true) (hu : ui op = true) (hf : fitsB imm 21 = true) (hc : op = 17) (hi : 0 ≤ imm) :
    Calls Tryz.prog 99 #[.agg #[.int .u8 (op : Int), .int .u8 (d : Int), .int .u8 (a : Int), .int .u8 (b : Int), .int .i32 imm]] w fun e w' => e = .returned (.int .i64 (chk op d a b imm)) ∧ Below w.heap.size w w' := by
  have HC := Lib.hid (chk_0 ⟨ho, hd, ha, hb, .inl hu⟩ hf (fun _ => hi) (fun h => by omega))
  have HD := Lib.hid hd; clear hd
  have HA := Lib.hid ha; clear ha
  have HB := Lib.hid hb; clear hb
  have HF := Lib.hid hf; clear hf
  have q17 : ((op : Int) == 17) = true := by rw [hc]; rfl
  have q21 : ((op : Int) == 21) = false := by rw [hc]; rfl
  clear hc
  go_enter Tryz.func99, Tryz.ntmps99
  go_wp2_with (first | (go_at_call 75; (with_reducible refine (uses_c op _).mono ?_); rintro e w' ⟨rfl, ⟨nd, rfl⟩⟩; (try first | exact ⟨rfl, _, World.drewN_drewN _ _ _⟩ | exact ⟨rfl, _, Eq.trans (World.drewN_drewN _ _ _) (congrArg (World.drewN _) (Nat.add_assoc _ _ _))⟩)) | (go_at_call 109; (with_reducible refine (reg_at _ HD.out).mono ?_); rintro e w' ⟨rfl, ⟨nd, rfl⟩⟩; (try first | exact ⟨rfl, _, World.drewN_drewN _ _ _⟩ | exact ⟨rfl, _, Eq.trans (World.drewN_drewN _ _ _) (congrArg (World.drewN _) (Nat.add_assoc _ _ _))⟩)) | (go_at_call 109; (with_reducible refine (reg_at _ HA.out).mono ?_); rintro e w' ⟨rfl, ⟨nd, rfl⟩⟩; (try first | exact ⟨rfl, _, World.drewN_drewN _ _ _⟩ | exact ⟨rfl, _, Eq.trans (World.drewN_drewN _ _ _) (congrArg (World.drewN _) (Nat.add_assoc _ _ _))⟩)) | (go_at_call 109; (with_reducible refine (reg_at _ HB.out).mono ?_); rintro e w' ⟨rfl, ⟨nd, rfl⟩⟩; (try first | exact ⟨rfl, _, World.drewN_drewN _ _ _⟩ | exact ⟨rfl, _, Eq.trans (World.drewN_drewN _ _ _) (congrArg (World.drewN _) (Nat.add_assoc _ _ _))⟩)) | (go_at_call 110; (with_reducible refine (fits_at _ HF.out).mono ?_); rintro e w' ⟨rfl, ⟨nd, rfl⟩⟩; (try first | exact ⟨rfl, _, World.drewN_drewN _ _ _⟩ | exact ⟨rfl, _, Eq.trans (World.drewN_drewN _ _ _) (congrArg (World.drewN _) (Nat.add_assoc _ _ _))⟩)))
  go_ret
  exact ⟨by rw [HC.out]; rfl, by repeat (first | exact Below.refl _ _ | exact (Below.refl _ _).alloc (Nat.le_refl _) _ | apply below_drewN)⟩
theorem check_bt (op d a b : Nat) (imm : Int) (w : World) (hm : -2147483648 ≤ imm) (hM : imm ≤ 2147483647) (ho : op ≤ 21) (hd : regB d (ud op) = true) (ha : regB a (ua op) = true) (hb : regB b (ub op) = true) (hu : ui op = true) (hf : fitsB imm 21 = true) (hc : op = 21) (hi : 0 ≤ imm) (hj : imm ≤ 63) :
    Calls Tryz.prog 99 #[.agg #[.int .u8 (op : Int), .int .u8 (d : Int), .int .u8 (a : Int), .int .u8 (b : Int), .int .i32 imm]] w fun e w' => e = .returned (.int .i64 (chk op d a b imm)) ∧ Below w.heap.size w w' := by
  have HC := Lib.hid (chk_0 ⟨ho, hd, ha, hb, .inl hu⟩ hf (fun h => by omega) (fun _ => ⟨hi, hj⟩))
  have HD := Lib.hid hd; clear hd
  have HA := Lib.hid ha; clear ha
  have HB := Lib.hid hb; clear hb
  have HF := Lib.hid hf; clear hf
  have q17 : ((op : Int) == 17) = false := by rw [hc]; rfl
  have q21 : ((op : Int) == 21) = true := by rw [hc]; rfl
  clear hc
  go_enter Tryz.func99, Tryz.ntmps99
  go_wp2_with (first | (go_at_call 75; (with_reducible refine (uses_c op _).mono ?_); rintro e w' ⟨rfl, ⟨nd, rfl⟩⟩; (try first | exact ⟨rfl, _, World.drewN_drewN _ _ _⟩ | exact ⟨rfl, _, Eq.trans (World.drewN_drewN _ _ _) (congrArg (World.drewN _) (Nat.add_assoc _ _ _))⟩)) | (go_at_call 109; (with_reducible refine (reg_at _ HD.out).mono ?_); rintro e w' ⟨rfl, ⟨nd, rfl⟩⟩; (try first | exact ⟨rfl, _, World.drewN_drewN _ _ _⟩ | exact ⟨rfl, _, Eq.trans (World.drewN_drewN _ _ _) (congrArg (World.drewN _) (Nat.add_assoc _ _ _))⟩)) | (go_at_call 109; (with_reducible refine (reg_at _ HA.out).mono ?_); rintro e w' ⟨rfl, ⟨nd, rfl⟩⟩; (try first | exact ⟨rfl, _, World.drewN_drewN _ _ _⟩ | exact ⟨rfl, _, Eq.trans (World.drewN_drewN _ _ _) (congrArg (World.drewN _) (Nat.add_assoc _ _ _))⟩)) | (go_at_call 109; (with_reducible refine (reg_at _ HB.out).mono ?_); rintro e w' ⟨rfl, ⟨nd, rfl⟩⟩; (try first | exact ⟨rfl, _, World.drewN_drewN _ _ _⟩ | exact ⟨rfl, _, Eq.trans (World.drewN_drewN _ _ _) (congrArg (World.drewN _) (Nat.add_assoc _ _ _))⟩)) | (go_at_call 110; (with_reducible refine (fits_at _ HF.out).mono ?_); rintro e w' ⟨rfl, ⟨nd, rfl⟩⟩; (try first | exact ⟨rfl, _, World.drewN_drewN _ _ _⟩ | exact ⟨rfl, _, Eq.trans (World.drewN_drewN _ _ _) (congrArg (World.drewN _) (Nat.add_assoc _ _ _))⟩)))
  go_ret
  exact ⟨by rw [HC.out]; rfl, by repeat (first | exact Below.refl _ _ | exact (Below.refl _ _).alloc (Nat.le_refl _) _ | apply below_drewN)⟩
theorem check_ct (op d a b : Nat) (imm : Int) (w : World) (hm : -2147483648 ≤ imm) (hM : imm ≤ 2147483647) (ho : op ≤ 21) (hd : regB d (ud op) = true) (ha : regB a (ua op) = true) (hb : regB b (ub op) = true) (hu : ui op = true) (hf : fitsB imm 21 = true) (h17 : op ≠ 17) (h21 : op ≠ 21) :
    Calls Tryz.prog 99 #[.agg #[.int .u8 (op : Int), .int .u8 (d : Int), .int .u8 (a : Int), .int .u8 (b : Int), .int .i32 imm]] w fun e w' => e = .returned (.int .i64 (chk op d a b imm)) ∧ Below w.heap.size w w' := by
  have HC := Lib.hid (chk_0 ⟨ho, hd, ha, hb, .inl hu⟩ hf (fun h => absurd h h17) (fun h => absurd h h21))
  have HD := Lib.hid hd; clear hd
  have HA := Lib.hid ha; clear ha
  have HB := Lib.hid hb; clear hb
  have HF := Lib.hid hf; clear hf
  have q17 : ((op : Int) == 17) = false := by rw [beq_eq_false_iff_ne]; omega
  have q21 : ((op : Int) == 21) = false := by rw [beq_eq_false_iff_ne]; omega
  clear h17 h21
  go_enter Tryz.func99, Tryz.ntmps99
  go_wp2_with (first | (go_at_call 75; (with_reducible refine (uses_c op _).mono ?_); rintro e w' ⟨rfl, ⟨nd, rfl⟩⟩; (try first | exact ⟨rfl, _, World.drewN_drewN _ _ _⟩ | exact ⟨rfl, _, Eq.trans (World.drewN_drewN _ _ _) (congrArg (World.drewN _) (Nat.add_assoc _ _ _))⟩)) | (go_at_call 109; (with_reducible refine (reg_at _ HD.out).mono ?_); rintro e w' ⟨rfl, ⟨nd, rfl⟩⟩; (try first | exact ⟨rfl, _, World.drewN_drewN _ _ _⟩ | exact ⟨rfl, _, Eq.trans (World.drewN_drewN _ _ _) (congrArg (World.drewN _) (Nat.add_assoc _ _ _))⟩)) | (go_at_call 109; (with_reducible refine (reg_at _ HA.out).mono ?_); rintro e w' ⟨rfl, ⟨nd, rfl⟩⟩; (try first | exact ⟨rfl, _, World.drewN_drewN _ _ _⟩ | exact ⟨rfl, _, Eq.trans (World.drewN_drewN _ _ _) (congrArg (World.drewN _) (Nat.add_assoc _ _ _))⟩)) | (go_at_call 109; (with_reducible refine (reg_at _ HB.out).mono ?_); rintro e w' ⟨rfl, ⟨nd, rfl⟩⟩; (try first | exact ⟨rfl, _, World.drewN_drewN _ _ _⟩ | exact ⟨rfl, _, Eq.trans (World.drewN_drewN _ _ _) (congrArg (World.drewN _) (Nat.add_assoc _ _ _))⟩)) | (go_at_call 110; (with_reducible refine (fits_at _ HF.out).mono ?_); rintro e w' ⟨rfl, ⟨nd, rfl⟩⟩; (try first | exact ⟨rfl, _, World.drewN_drewN _ _ _⟩ | exact ⟨rfl, _, Eq.trans (World.drewN_drewN _ _ _) (congrArg (World.drewN _) (Nat.add_assoc _ _ _))⟩)))
  go_ret
  exact ⟨by rw [HC.out]; rfl, by repeat (first | exact Below.refl _ _ | exact (Below.refl _ _).alloc (Nat.le_refl _) _ | apply below_drewN)⟩
theorem check_dz (op d a b : Nat) (imm : Int) (w : World) (hm : -2147483648 ≤ imm) (hM : imm ≤ 2147483647) (ho : op ≤ 21) (hd : regB d (ud op) = true) (ha : regB a (ua op) = true) (hb : regB b (ub op) = true) (hu : ui op = false) (hi : imm = 0) (h17 : op ≠ 17) (h21 : op ≠ 21) :
    Calls Tryz.prog 99 #[.agg #[.int .u8 (op : Int), .int .u8 (d : Int), .int .u8 (a : Int), .int .u8 (b : Int), .int .i32 imm]] w fun e w' => e = .returned (.int .i64 (chk op d a b imm)) ∧ Below w.heap.size w w' := by
  have HC := Lib.hid (chk_0 ⟨ho, hd, ha, hb, .inr hi⟩ (by rw [hi]; decide) (fun h => absurd h h17) (fun h => absurd h h21))
  have hf : fitsB imm 21 = true := by rw [hi]; decide
  have HD := Lib.hid hd; clear hd
  have HA := Lib.hid ha; clear ha
  have HB := Lib.hid hb; clear hb
  have HF := Lib.hid hf; clear hf
  clear hm hM
  subst hi
  have q17 : ((op : Int) == 17) = false := by rw [beq_eq_false_iff_ne]; omega
  have q21 : ((op : Int) == 21) = false := by rw [beq_eq_false_iff_ne]; omega
  clear h17 h21
  go_enter Tryz.func99, Tryz.ntmps99
  go_wp2_with (first | (go_at_call 75; (with_reducible refine (uses_c op _).mono ?_); rintro e w' ⟨rfl, ⟨nd, rfl⟩⟩; (try first | exact ⟨rfl, _, World.drewN_drewN _ _ _⟩ | exact ⟨rfl, _, Eq.trans (World.drewN_drewN _ _ _) (congrArg (World.drewN _) (Nat.add_assoc _ _ _))⟩)) | (go_at_call 109; (with_reducible refine (reg_at _ HD.out).mono ?_); rintro e w' ⟨rfl, ⟨nd, rfl⟩⟩; (try first | exact ⟨rfl, _, World.drewN_drewN _ _ _⟩ | exact ⟨rfl, _, Eq.trans (World.drewN_drewN _ _ _) (congrArg (World.drewN _) (Nat.add_assoc _ _ _))⟩)) | (go_at_call 109; (with_reducible refine (reg_at _ HA.out).mono ?_); rintro e w' ⟨rfl, ⟨nd, rfl⟩⟩; (try first | exact ⟨rfl, _, World.drewN_drewN _ _ _⟩ | exact ⟨rfl, _, Eq.trans (World.drewN_drewN _ _ _) (congrArg (World.drewN _) (Nat.add_assoc _ _ _))⟩)) | (go_at_call 109; (with_reducible refine (reg_at _ HB.out).mono ?_); rintro e w' ⟨rfl, ⟨nd, rfl⟩⟩; (try first | exact ⟨rfl, _, World.drewN_drewN _ _ _⟩ | exact ⟨rfl, _, Eq.trans (World.drewN_drewN _ _ _) (congrArg (World.drewN _) (Nat.add_assoc _ _ _))⟩)) | (go_at_call 110; (with_reducible refine (fits_at _ HF.out).mono ?_); rintro e w' ⟨rfl, ⟨nd, rfl⟩⟩; (try first | exact ⟨rfl, _, World.drewN_drewN _ _ _⟩ | exact ⟨rfl, _, Eq.trans (World.drewN_drewN _ _ _) (congrArg (World.drewN _) (Nat.add_assoc _ _ _))⟩)))
  go_ret
  exact ⟨by rw [HC.out]; rfl, by repeat (first | exact Below.refl _ _ | exact (Below.refl _ _).alloc (Nat.le_refl _) _ | apply below_drewN)⟩
theorem check_c (op d a b : Nat) (imm : Int) (w : World) (hm : -2147483648 ≤ imm) (hM : imm ≤ 2147483647) :
    Calls Tryz.prog 99 #[.agg #[.int .u8 (op : Int), .int .u8 (d : Int), .int .u8 (a : Int), .int .u8 (b : Int), .int .i32 imm]] w fun e w' => e = .returned (.int .i64 (chk op d a b imm)) ∧ Below w.heap.size w w' := by
  by_cases ho : 21 < op
  · exact check_1 op d a b imm w hm hM ho
  have ho : op ≤ 21 := by omega
  cases hd : regB d (ud op) with
  | false => exact check_2 op d a b imm w hm hM ho hd
  | true =>
    cases ha : regB a (ua op) with
    | false => exact check_3 op d a b imm w hm hM ho hd ha
    | true =>
      cases hb : regB b (ub op) with
      | false => exact check_4 op d a b imm w hm hM ho hd ha hb
      | true =>
        cases hu : ui op with
        | false =>
          by_cases hi : imm = 0
          · exact check_dz op d a b imm w hm hM ho hd ha hb hu hi (fun h => by subst h; revert hu; decide) (fun h => by subst h; revert hu; decide)
          · exact check_5 op d a b imm w hm hM ho hd ha hb hu hi
        | true =>
          cases hf : fitsB imm 21 with
          | false => exact check_6t op d a b imm w hm hM ho hd ha hb hu hf
          | true =>
            by_cases h17 : op = 17
            · by_cases hi : imm < 0
              · exact check_7t op d a b imm w hm hM ho hd ha hb hu hf h17 hi
              · exact check_at op d a b imm w hm hM ho hd ha hb hu hf h17 (by omega)
            · by_cases h21 : op = 21
              · by_cases hi : imm < 0
                · exact check_8t op d a b imm w hm hM ho hd ha hb hu hf h21 hi
                · by_cases hj : 63 < imm
                  · exact check_9t op d a b imm w hm hM ho hd ha hb hu hf h21 hj
                  · exact check_bt op d a b imm w hm hM ho hd ha hb hu hf h21 (by omega) (by omega)
              · exact check_ct op d a b imm w hm hM ho hd ha hb hu hf h17 h21
end Go.Proofs.YthnbdeibjbicpaaGreat.I2
