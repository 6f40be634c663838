/- Contracts of isa.Target and of the reference's. Conditions: the bounds of the kinds. -/
import Derived.Test.YthnbdeibjbicpaaIsa6
set_option linter.unusedSimpArgs false
namespace Go.Proofs.Ythnbdeibjbicpaa.I9
set_option linter.unusedVariables false
open Go.RowKit Go.Proofs.Ythnbdeibjbicpaa.WM Go.Proofs.Ythnbdeibjbicpaa.IM Go.Proofs.Ythnbdeibjbicpaa.W1 Go.Proofs.Ythnbdeibjbicpaa.I1 Go.Proofs.Ythnbdeibjbicpaa.I2 Go.Proofs.Ythnbdeibjbicpaa.I6
/-- Does it go anywhere? -/
def tgtB (op d a b : Nat) (imm : Int) : Bool := decide (chk op d a b imm = 0 ∧ (op = 14 ∨ op = 15 ∨ op = 16 ∨ op = 17))
/-- Where. -/
def tgt (at_ : Nat) (op d a b : Nat) (imm : Int) : Int := if tgtB op d a b imm = true then (if op = 17 then imm % 4294967296 else (((at_ : Int) + 1) % 4294967296 + imm % 4294967296) % 4294967296) else 0
theorem tgt_no {at_ op d a b : Nat} {imm : Int} (h : tgtB op d a b imm = false) : tgt at_ op d a b imm = 0 := by unfold tgt; rw [h]; rfl
theorem tgt_call {at_ op d a b : Nat} {imm : Int} (h : tgtB op d a b imm = true) (e : op = 17) : tgt at_ op d a b imm = imm % 4294967296 := by unfold tgt; rw [if_pos h, if_pos e]
theorem tgt_jump {at_ op d a b : Nat} {imm : Int} (h : tgtB op d a b imm = true) (e : op ≠ 17) : tgt at_ op d a b imm = (((at_ : Int) + 1) % 4294967296 + imm % 4294967296) % 4294967296 := by unfold tgt; rw [if_pos h, if_neg e]
theorem target_0 (x op d a b : Nat) (imm : Int) (w : World) (hm : -2147483648 ≤ imm) (hM : imm ≤ 2147483647) (h : chk op d a b imm ≠ 0) :
    Calls Try.prog 77 #[.int .u32 (x : Int), .agg #[.int .u8 (op : Int), .int .u8 (d : Int), .int .u8 (a : Int), .int .u8 (b : Int), .int .i32 imm]] w fun e w' => e = .returned (.tuple #[.int .u32 (tgt x op d a b imm), .bool (tgtB op d a b imm)]) ∧ Below w.heap.size w w' := by
  have ht : tgtB op d a b imm = false := by unfold tgtB; exact decide_eq_false (by omega)
  have HT1 := Lib.hid (tgt_no (at_ := x) ht)
  have HT2 := Lib.hid ht
  clear ht
  obtain ⟨c, hc⟩ : ∃ c, c = chk op d a b imm := ⟨_, rfl⟩
  have hq : (c != 0) = true := by rw [bne_iff_ne, hc]; exact h
  have hchk := fun W => check_c op d a b imm W hm hM
  rw [← hc] at hchk; clear h hc
  have HCK := Lib.hid hchk
  clear hchk
  go_enter Try.func77, Try.ntmps77
  go_wp2_with fail
  refine (HCK.out _).mono ?_
  rintro e w1 ⟨rfl, hb⟩
  obtain ⟨c0, c1, c2, c3, c4⟩ := box5 hb
  go_wp2_with fail
  go_ret2
  exact ⟨by rw [HT1.out, HT2.out]; rfl, boxed hb⟩
theorem target_1 (x op d a b : Nat) (imm : Int) (w : World) (hm : -2147483648 ≤ imm) (hM : imm ≤ 2147483647) (h : chk op d a b imm = 0) (e : op = 14) :
    Calls Try.prog 77 #[.int .u32 (x : Int), .agg #[.int .u8 (op : Int), .int .u8 (d : Int), .int .u8 (a : Int), .int .u8 (b : Int), .int .i32 imm]] w fun e w' => e = .returned (.tuple #[.int .u32 (tgt x op d a b imm), .bool (tgtB op d a b imm)]) ∧ Below w.heap.size w w' := by
  have ht : tgtB op d a b imm = true := by unfold tgtB; exact decide_eq_true (by omega)
  have HT1 := Lib.hid (tgt_jump (at_ := x) ht (by omega))
  have HT2 := Lib.hid ht
  clear ht
  have q14 : ((op : Int) == 14) = true := by rw [e]; rfl
  have q15 : ((op : Int) == 15) = false := by rw [e]; rfl
  have q16 : ((op : Int) == 16) = false := by rw [e]; rfl
  have q17 : ((op : Int) == 17) = false := by rw [e]; rfl
  clear e
  have hchk := fun W => check_c op d a b imm W hm hM
  rw [h] at hchk; clear h
  have HCK := Lib.hid hchk
  clear hchk
  go_enter Try.func77, Try.ntmps77
  go_wp2_with fail
  refine (HCK.out _).mono ?_
  rintro e w1 ⟨rfl, hb⟩
  obtain ⟨c0, c1, c2, c3, c4⟩ := box5 hb
  go_wp2_with fail
  go_ret2
  exact ⟨by rw [HT1.out, HT2.out]; rfl, boxed hb⟩
theorem target_2 (x op d a b : Nat) (imm : Int) (w : World) (hm : -2147483648 ≤ imm) (hM : imm ≤ 2147483647) (h : chk op d a b imm = 0) (e : op = 15) :
    Calls Try.prog 77 #[.int .u32 (x : Int), .agg #[.int .u8 (op : Int), .int .u8 (d : Int), .int .u8 (a : Int), .int .u8 (b : Int), .int .i32 imm]] w fun e w' => e = .returned (.tuple #[.int .u32 (tgt x op d a b imm), .bool (tgtB op d a b imm)]) ∧ Below w.heap.size w w' := by
  have ht : tgtB op d a b imm = true := by unfold tgtB; exact decide_eq_true (by omega)
  have HT1 := Lib.hid (tgt_jump (at_ := x) ht (by omega))
  have HT2 := Lib.hid ht
  clear ht
  have q14 : ((op : Int) == 14) = false := by rw [e]; rfl
  have q15 : ((op : Int) == 15) = true := by rw [e]; rfl
  have q16 : ((op : Int) == 16) = false := by rw [e]; rfl
  have q17 : ((op : Int) == 17) = false := by rw [e]; rfl
  clear e
  have hchk := fun W => check_c op d a b imm W hm hM
  rw [h] at hchk; clear h
  have HCK := Lib.hid hchk
  clear hchk
  go_enter Try.func77, Try.ntmps77
  go_wp2_with fail
  refine (HCK.out _).mono ?_
  rintro e w1 ⟨rfl, hb⟩
  obtain ⟨c0, c1, c2, c3, c4⟩ := box5 hb
  go_wp2_with fail
  go_ret2
  exact ⟨by rw [HT1.out, HT2.out]; rfl, boxed hb⟩
theorem target_3 (x op d a b : Nat) (imm : Int) (w : World) (hm : -2147483648 ≤ imm) (hM : imm ≤ 2147483647) (h : chk op d a b imm = 0) (e : op = 16) :
    Calls Try.prog 77 #[.int .u32 (x : Int), .agg #[.int .u8 (op : Int), .int .u8 (d : Int), .int .u8 (a : Int), .int .u8 (b : Int), .int .i32 imm]] w fun e w' => e = .returned (.tuple #[.int .u32 (tgt x op d a b imm), .bool (tgtB op d a b imm)]) ∧ Below w.heap.size w w' := by
  have ht : tgtB op d a b imm = true := by unfold tgtB; exact decide_eq_true (by omega)
  have HT1 := Lib.hid (tgt_jump (at_ := x) ht (by omega))
  have HT2 := Lib.hid ht
  clear ht
  have q14 : ((op : Int) == 14) = false := by rw [e]; rfl
  have q15 : ((op : Int) == 15) = false := by rw [e]; rfl
  have q16 : ((op : Int) == 16) = true := by rw [e]; rfl
  have q17 : ((op : Int) == 17) = false := by rw [e]; rfl
  clear e
  have hchk := fun W => check_c op d a b imm W hm hM
  rw [h] at hchk; clear h
  have HCK := Lib.hid hchk
  clear hchk
  go_enter Try.func77, Try.ntmps77
  go_wp2_with fail
  refine (HCK.out _).mono ?_
  rintro e w1 ⟨rfl, hb⟩
  obtain ⟨c0, c1, c2, c3, c4⟩ := box5 hb
  go_wp2_with fail
  go_ret2
  exact ⟨by rw [HT1.out, HT2.out]; rfl, boxed hb⟩
theorem target_4 (x op d a b : Nat) (imm : Int) (w : World) (hm : -2147483648 ≤ imm) (hM : imm ≤ 2147483647) (h : chk op d a b imm = 0) (e : op = 17) :
    Calls Try.prog 77 #[.int .u32 (x : Int), .agg #[.int .u8 (op : Int), .int .u8 (d : Int), .int .u8 (a : Int), .int .u8 (b : Int), .int .i32 imm]] w fun e w' => e = .returned (.tuple #[.int .u32 (tgt x op d a b imm), .bool (tgtB op d a b imm)]) ∧ Below w.heap.size w w' := by
  have ht : tgtB op d a b imm = true := by unfold tgtB; exact decide_eq_true (by omega)
  have HT1 := Lib.hid (tgt_call (at_ := x) ht e)
  have HT2 := Lib.hid ht
  clear ht
  have q14 : ((op : Int) == 14) = false := by rw [e]; rfl
  have q15 : ((op : Int) == 15) = false := by rw [e]; rfl
  have q16 : ((op : Int) == 16) = false := by rw [e]; rfl
  have q17 : ((op : Int) == 17) = true := by rw [e]; rfl
  clear e
  have hchk := fun W => check_c op d a b imm W hm hM
  rw [h] at hchk; clear h
  have HCK := Lib.hid hchk
  clear hchk
  go_enter Try.func77, Try.ntmps77
  go_wp2_with fail
  refine (HCK.out _).mono ?_
  rintro e w1 ⟨rfl, hb⟩
  obtain ⟨c0, c1, c2, c3, c4⟩ := box5 hb
  go_wp2_with fail
  go_ret2
  exact ⟨by rw [HT1.out, HT2.out]; rfl, boxed hb⟩
theorem target_5 (x op d a b : Nat) (imm : Int) (w : World) (hm : -2147483648 ≤ imm) (hM : imm ≤ 2147483647) (h : chk op d a b imm = 0) (e : op ≠ 14 ∧ op ≠ 15 ∧ op ≠ 16 ∧ op ≠ 17) :
    Calls Try.prog 77 #[.int .u32 (x : Int), .agg #[.int .u8 (op : Int), .int .u8 (d : Int), .int .u8 (a : Int), .int .u8 (b : Int), .int .i32 imm]] w fun e w' => e = .returned (.tuple #[.int .u32 (tgt x op d a b imm), .bool (tgtB op d a b imm)]) ∧ Below w.heap.size w w' := by
  have ht : tgtB op d a b imm = false := by unfold tgtB; exact decide_eq_false (by omega)
  have HT1 := Lib.hid (tgt_no (at_ := x) ht)
  have HT2 := Lib.hid ht
  clear ht
  have q14 : ((op : Int) == 14) = false := by rw [beq_eq_false_iff_ne]; omega
  have q15 : ((op : Int) == 15) = false := by rw [beq_eq_false_iff_ne]; omega
  have q16 : ((op : Int) == 16) = false := by rw [beq_eq_false_iff_ne]; omega
  have q17 : ((op : Int) == 17) = false := by rw [beq_eq_false_iff_ne]; omega
  clear e
  have hchk := fun W => check_c op d a b imm W hm hM
  rw [h] at hchk; clear h
  have HCK := Lib.hid hchk
  clear hchk
  go_enter Try.func77, Try.ntmps77
  go_wp2_with fail
  refine (HCK.out _).mono ?_
  rintro e w1 ⟨rfl, hb⟩
  obtain ⟨c0, c1, c2, c3, c4⟩ := box5 hb
  go_wp2_with fail
  go_ret2
  exact ⟨by rw [HT1.out, HT2.out]; rfl, boxed hb⟩
theorem target (x op d a b : Nat) (imm : Int) (w : World) (hm : -2147483648 ≤ imm) (hM : imm ≤ 2147483647)  :
    Calls Try.prog 77 #[.int .u32 (x : Int), .agg #[.int .u8 (op : Int), .int .u8 (d : Int), .int .u8 (a : Int), .int .u8 (b : Int), .int .i32 imm]] w fun e w' => e = .returned (.tuple #[.int .u32 (tgt x op d a b imm), .bool (tgtB op d a b imm)]) ∧ Below w.heap.size w w' := by
  by_cases h : chk op d a b imm = 0
  · by_cases e4 : op = 14
    · exact target_1 x op d a b imm w hm hM h e4
    · by_cases e5 : op = 15
      · exact target_2 x op d a b imm w hm hM h e5
      · by_cases e6 : op = 16
        · exact target_3 x op d a b imm w hm hM h e6
        · by_cases e7 : op = 17
          · exact target_4 x op d a b imm w hm hM h e7
          · exact target_5 x op d a b imm w hm hM h ⟨e4, e5, e6, e7⟩
  · exact target_0 x op d a b imm w hm hM h
end Go.Proofs.Ythnbdeibjbicpaa.I9
