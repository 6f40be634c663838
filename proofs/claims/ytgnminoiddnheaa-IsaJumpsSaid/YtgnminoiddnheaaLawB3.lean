/- The walk of IsaJumps, out of contracts. Conditions: the bounds of the fields' kinds. -/
import Derived.Test.YtgnminoiddnheaaLawB1
namespace Go.Proofs.Ytgnminoiddnheaa.B1
set_option linter.unusedVariables false
open Go.RowKit Go.Proofs.Ytgnminoiddnheaa.WM Go.Proofs.Ytgnminoiddnheaa.IM Go.Proofs.Ytgnminoiddnheaa.W1 Go.Proofs.Ytgnminoiddnheaa.I1 Go.Proofs.Ytgnminoiddnheaa.I2 Go.Proofs.Ytgnminoiddnheaa.I6 Go.Proofs.Ytgnminoiddnheaa.I7 Go.Proofs.Ytgnminoiddnheaa.I8 Go.Proofs.Ytgnminoiddnheaa.I9
theorem law_jumps0 (op d a b : Nat) (imm : Int) (x y : Nat) (w : World) (hm : -2147483648 ≤ imm) (hM : imm ≤ 2147483647) (ht : tgtB op d a b imm = false) :
    Calls Try.prog 9 #[ins op d a b imm, .int .u32 (x : Int), .int .u32 (y : Int)] w fun e w' => e = .returned (.bool true) ∧ Below w.heap.size w w' := by
  have h1 := fun W => target x op d a b imm W hm hM
  have h2 := fun W => target y op d a b imm W hm hM
  rw [tgt_no ht, ht] at h1 h2
  clear ht
  have H1 := Lib.hid h1
  have H2 := Lib.hid h2
  clear h1 h2
  go_enter Try.func9, Try.ntmps9
  go_wp2_with fail
  have kR := Blk.new w 24 #[.int .u8 (op : Int), .int .u8 (d : Int), .int .u8 (a : Int), .int .u8 (b : Int), .int .i32 imm]
  refine (H1.out _).mono ?_
  rintro e w1 ⟨rfl, hb1⟩
  have kR := kR.kept hb1
  obtain ⟨c0, c1, c2, c3, c4⟩ := kR.five
  go_wp2_with fail
  refine (H2.out _).mono ?_
  rintro e w2 ⟨rfl, hb2⟩
  go_wp2_with fail
  refine (awake_c _).mono ?_
  rintro e w3 ⟨rfl, hb3⟩
  go_wp2_with fail
  go_ret
  exact ⟨rfl, boxed (below_then (below_then hb1 hb2) hb3)⟩
theorem law_jumps1 (op d a b : Nat) (imm : Int) (x y : Nat) (w : World) (hm : -2147483648 ≤ imm) (hM : imm ≤ 2147483647) (ht : tgtB op d a b imm = true) (e : op = 17) :
    Calls Try.prog 9 #[ins op d a b imm, .int .u32 (x : Int), .int .u32 (y : Int)] w fun e w' => e = .returned (.bool true) ∧ Below w.heap.size w w' := by
  have h1 := fun W => target x op d a b imm W hm hM
  have h2 := fun W => target y op d a b imm W hm hM
  rw [tgt_call ht e, ht] at h1 h2
  have q : ((op : Int) == 17) = true := by rw [e]; rfl
  clear ht e
  have H1 := Lib.hid h1
  have H2 := Lib.hid h2
  clear h1 h2
  go_enter Try.func9, Try.ntmps9
  go_wp2_with fail
  have kR := Blk.new w 24 #[.int .u8 (op : Int), .int .u8 (d : Int), .int .u8 (a : Int), .int .u8 (b : Int), .int .i32 imm]
  refine (H1.out _).mono ?_
  rintro e w1 ⟨rfl, hb1⟩
  have kR := kR.kept hb1
  obtain ⟨c0, c1, c2, c3, c4⟩ := kR.five
  go_wp2_with fail
  refine (H2.out _).mono ?_
  rintro e w2 ⟨rfl, hb2⟩
  have kR := kR.kept hb2
  obtain ⟨c0, c1, c2, c3, c4⟩ := kR.five
  go_wp2_with fail
  refine (awake_c _).mono ?_
  rintro e w3 ⟨rfl, hb3⟩
  go_wp2_with fail
  go_ret
  exact ⟨rfl, boxed (below_then (below_then hb1 hb2) hb3)⟩
theorem law_jumps2 (op d a b : Nat) (imm : Int) (x y : Nat) (w : World) (hm : -2147483648 ≤ imm) (hM : imm ≤ 2147483647) (ht : tgtB op d a b imm = true) (e : op ≠ 17) :
    Calls Try.prog 9 #[ins op d a b imm, .int .u32 (x : Int), .int .u32 (y : Int)] w fun e w' => e = .returned (.bool true) ∧ Below w.heap.size w w' := by
  have h1 := fun W => target x op d a b imm W hm hM
  have h2 := fun W => target y op d a b imm W hm hM
  rw [tgt_jump ht e, ht] at h1 h2
  have q : ((op : Int) == 17) = false := by rw [beq_eq_false_iff_ne]; omega
  have q' : ((op : Int) != 17) = true := by rw [bne_iff_ne]; omega
  clear ht e
  obtain ⟨t1, ht1⟩ : ∃ t1 : Int, t1 = (((x : Int) + 1) % 4294967296 + imm % 4294967296) % 4294967296 := ⟨_, rfl⟩
  obtain ⟨t2, ht2⟩ : ∃ t2 : Int, t2 = (((y : Int) + 1) % 4294967296 + imm % 4294967296) % 4294967296 := ⟨_, rfl⟩
  rw [← ht1] at h1
  rw [← ht2] at h2
  have r1 : ((t1 - t2) % 4294967296 == ((x : Int) - (y : Int)) % 4294967296) = true := by rw [beq_iff_eq]; omega
  have r2 : ((t1 - (x : Int)) % 4294967296 == (1 + imm % 4294967296) % 4294967296) = true := by rw [beq_iff_eq]; omega
  have r3 : ((t1 - (x : Int)) % 4294967296 == (1 + imm) % 4294967296) = true := by rw [beq_iff_eq]; omega
  clear ht1 ht2
  have H1 := Lib.hid h1
  have H2 := Lib.hid h2
  clear h1 h2
  go_enter Try.func9, Try.ntmps9
  go_wp2_with fail
  have kR := Blk.new w 24 #[.int .u8 (op : Int), .int .u8 (d : Int), .int .u8 (a : Int), .int .u8 (b : Int), .int .i32 imm]
  refine (H1.out _).mono ?_
  rintro e w1 ⟨rfl, hb1⟩
  have kR := kR.kept hb1
  obtain ⟨c0, c1, c2, c3, c4⟩ := kR.five
  go_wp2_with fail
  refine (H2.out _).mono ?_
  rintro e w2 ⟨rfl, hb2⟩
  have kR := kR.kept hb2
  obtain ⟨c0, c1, c2, c3, c4⟩ := kR.five
  go_wp2_with fail
  refine (awake_c _).mono ?_
  rintro e w3 ⟨rfl, hb3⟩
  go_wp2_with fail
  go_ret
  exact ⟨rfl, boxed (below_then (below_then hb1 hb2) hb3)⟩
theorem law_jumps (op d a b : Nat) (imm : Int) (x y : Nat) (w : World) (hm : -2147483648 ≤ imm) (hM : imm ≤ 2147483647) :
    Calls Try.prog 9 #[ins op d a b imm, .int .u32 (x : Int), .int .u32 (y : Int)] w fun e w' => e = .returned (.bool true) ∧ Below w.heap.size w w' := by
  cases ht : tgtB op d a b imm with
  | false => exact law_jumps0 op d a b imm x y w hm hM ht
  | true =>
    by_cases e : op = 17
    · exact law_jumps1 op d a b imm x y w hm hM ht e
    · exact law_jumps2 op d a b imm x y w hm hM ht e
end Go.Proofs.Ytgnminoiddnheaa.B1
