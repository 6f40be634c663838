/- The walk of RelocValues, out of contracts. Conditions: the bounds of the kinds. -/
import Derived.Test.YtgnminoiddnheaaLawB4
import Derived.Test.YtgnminoiddnheaaRel5
namespace Go.Proofs.Ytgnminoiddnheaa.B8
set_option linter.unusedVariables false
open Go.RowKit Go.Proofs.Ytgnminoiddnheaa.WM Go.Proofs.Ytgnminoiddnheaa.IM Go.Proofs.Ytgnminoiddnheaa.I6 Go.Proofs.Ytgnminoiddnheaa.I7 Go.Proofs.Ytgnminoiddnheaa.W1 Go.Proofs.Ytgnminoiddnheaa.R2 Go.Proofs.Ytgnminoiddnheaa.R5
theorem values_gen (k t n pc pd : Nat) (sv : Value) (y c : Int) (w : World)
    (h1 : ∀ W, Below w.heap.size w W → Calls Try.prog 27 #[.agg #[.int .u8 (k : Int), .int .u16 (t : Int), .int .u16 (n : Int)], .agg #[.int .u32 (pc : Int), .int .u32 (pd : Int)], sv] W fun e w' => e = .returned (.tuple #[.int .u32 y, .int .i64 c]) ∧ Below W.heap.size W w')
    (h2 : ∀ W, Below w.heap.size w W → Calls Try.prog 28 #[.agg #[.int .u8 (k : Int), .int .u16 (t : Int), .int .u16 (n : Int)], .agg #[.int .u32 (pc : Int), .int .u32 (pd : Int)], sv] W fun e w' => e = .returned (.tuple #[.int .u32 y, .int .i64 c]) ∧ Below W.heap.size W w') :
    Calls Try.prog 10 #[.agg #[.int .u8 (k : Int), .int .u16 (t : Int), .int .u16 (n : Int)], .agg #[.int .u32 (pc : Int), .int .u32 (pd : Int)], sv] w fun e w' => e = .returned (.bool true) ∧ Below w.heap.size w w' := by
  have H1 := Lib.hid h1
  have H2 := Lib.hid h2
  clear h1 h2
  have hw0 := two_allocs w (.cells #[.int .u8 (k : Int), .int .u16 (t : Int), .int .u16 (n : Int)] 53) (.cells #[.int .u32 (pc : Int), .int .u32 (pd : Int)] 55)
  go_enter Try.func10, Try.ntmps10
  go_wp2_with fail
  have kA := (Blk.new w 53 #[.int .u8 (k : Int), .int .u16 (t : Int), .int .u16 (n : Int)]).alloc (.cells #[.int .u32 (pc : Int), .int .u32 (pd : Int)] 55)
  have kB := Blk.new (w.alloc (.cells #[.int .u8 (k : Int), .int .u16 (t : Int), .int .u16 (n : Int)] 53)) 55 #[.int .u32 (pc : Int), .int .u32 (pd : Int)]
  rw [World.size_alloc] at kB
  refine (H1.out _ hw0).mono ?_
  rintro e w1 ⟨rfl, hb1⟩
  have kA := kA.kept hb1
  have kB := kB.kept hb1
  have c0 := kA.cell 0
  have c1 := kA.cell 1
  have c2 := kA.cell 2
  have d0 := kB.cell 0
  have d1 := kB.cell 1
  have hw1 := below_then hw0 hb1
  go_wp2_with fail
  refine (H2.out _ hw1).mono ?_
  rintro e w2 ⟨rfl, hb2⟩
  go_wp2_with fail
  refine (Go.Proofs.Ytgnminoiddnheaa.B4.awake_c _).mono ?_
  rintro e w3 ⟨rfl, hb3⟩
  go_wp2_with fail
  go_ret
  exact ⟨rfl, below_then (below_then hw1 hb2) hb3⟩
theorem law_values_nil (k t n pc pd : Nat) (w : World) (hn : n < 65536) (hpc : pc < 4294967296) (hpd : pd < 4294967296) : Calls Try.prog 10 #[.agg #[.int .u8 (k : Int), .int .u16 (t : Int), .int .u16 (n : Int)], .agg #[.int .u32 (pc : Int), .int .u32 (pd : Int)], .slice none 0 0] w fun e w' => e = .returned (.bool true) ∧ Below w.heap.size w w' := by
  rcases kinds k with e | e | e | e | e | e | e | e | e
  · exact values_gen k t n pc pd (.slice none 0 0) _ _ w (fun W hb => vnil_0 k t n pc pd  W hn hpc hpd e) (fun W hb => rvnil_0 k t n pc pd  W hn hpc hpd e)
  · exact values_gen k t n pc pd (.slice none 0 0) _ _ w (fun W hb => vnil_1 k t n pc pd  W hn hpc hpd e) (fun W hb => rvnil_1 k t n pc pd  W hn hpc hpd e)
  · exact values_gen k t n pc pd (.slice none 0 0) _ _ w (fun W hb => vadd_2 k t n pc pd (.slice none 0 0) W hn hpc hpd e) (fun W hb => rvadd_2 k t n pc pd (.slice none 0 0) W hn hpc hpd e)
  · exact values_gen k t n pc pd (.slice none 0 0) _ _ w (fun W hb => vadd_3 k t n pc pd (.slice none 0 0) W hn hpc hpd e) (fun W hb => rvadd_3 k t n pc pd (.slice none 0 0) W hn hpc hpd e)
  · exact values_gen k t n pc pd (.slice none 0 0) _ _ w (fun W hb => vnil_4 k t n pc pd  W hn hpc hpd e) (fun W hb => rvnil_4 k t n pc pd  W hn hpc hpd e)
  · exact values_gen k t n pc pd (.slice none 0 0) _ _ w (fun W hb => vadd_5 k t n pc pd (.slice none 0 0) W hn hpc hpd e) (fun W hb => rvadd_5 k t n pc pd (.slice none 0 0) W hn hpc hpd e)
  · exact values_gen k t n pc pd (.slice none 0 0) _ _ w (fun W hb => vadd_6 k t n pc pd (.slice none 0 0) W hn hpc hpd e) (fun W hb => rvadd_6 k t n pc pd (.slice none 0 0) W hn hpc hpd e)
  · exact values_gen k t n pc pd (.slice none 0 0) _ _ w (fun W hb => vadd_7 k t n pc pd (.slice none 0 0) W hn hpc hpd e) (fun W hb => rvadd_7 k t n pc pd (.slice none 0 0) W hn hpc hpd e)
  · exact values_gen k t n pc pd (.slice none 0 0) _ _ w (fun W hb => vbig_8 k t n pc pd (.slice none 0 0) W hn hpc hpd e) (fun W hb => rvbig_8 k t n pc pd (.slice none 0 0) W hn hpc hpd e)
theorem law_values_some (k t n pc pd : Nat) (a : Addr) (len cap : Nat) (w : World) (hn : n < 65536) (hpc : pc < 4294967296) (hpd : pd < 4294967296) (hs : n < len → ∃ z, w.cell? (a.add n) = some (.int .u32 z)) : Calls Try.prog 10 #[.agg #[.int .u8 (k : Int), .int .u16 (t : Int), .int .u16 (n : Int)], .agg #[.int .u32 (pc : Int), .int .u32 (pd : Int)], .slice (some a) len cap] w fun e w' => e = .returned (.bool true) ∧ Below w.heap.size w w' := by
  rcases kinds k with e | e | e | e | e | e | e | e | e
  · by_cases hl : n < len
    · obtain ⟨z, hc⟩ := hs hl
      exact values_gen k t n pc pd (.slice (some a) len cap) _ _ w (fun W hb => vin_0 k t n pc pd a len cap z W hn hpc hpd e hl (kept_cell hb hc)) (fun W hb => rvin_0 k t n pc pd a len cap z W hn hpc hpd e hl (kept_cell hb hc))
    · exact values_gen k t n pc pd (.slice (some a) len cap) _ _ w (fun W hb => vout_0 k t n pc pd a len cap W hn hpc hpd e (Nat.not_lt.1 hl)) (fun W hb => rvout_0 k t n pc pd a len cap W hn hpc hpd e (Nat.not_lt.1 hl))
  · by_cases hl : n < len
    · obtain ⟨z, hc⟩ := hs hl
      exact values_gen k t n pc pd (.slice (some a) len cap) _ _ w (fun W hb => vin_1 k t n pc pd a len cap z W hn hpc hpd e hl (kept_cell hb hc)) (fun W hb => rvin_1 k t n pc pd a len cap z W hn hpc hpd e hl (kept_cell hb hc))
    · exact values_gen k t n pc pd (.slice (some a) len cap) _ _ w (fun W hb => vout_1 k t n pc pd a len cap W hn hpc hpd e (Nat.not_lt.1 hl)) (fun W hb => rvout_1 k t n pc pd a len cap W hn hpc hpd e (Nat.not_lt.1 hl))
  · exact values_gen k t n pc pd (.slice (some a) len cap) _ _ w (fun W hb => vadd_2 k t n pc pd (.slice (some a) len cap) W hn hpc hpd e) (fun W hb => rvadd_2 k t n pc pd (.slice (some a) len cap) W hn hpc hpd e)
  · exact values_gen k t n pc pd (.slice (some a) len cap) _ _ w (fun W hb => vadd_3 k t n pc pd (.slice (some a) len cap) W hn hpc hpd e) (fun W hb => rvadd_3 k t n pc pd (.slice (some a) len cap) W hn hpc hpd e)
  · by_cases hl : n < len
    · obtain ⟨z, hc⟩ := hs hl
      exact values_gen k t n pc pd (.slice (some a) len cap) _ _ w (fun W hb => vin_4 k t n pc pd a len cap z W hn hpc hpd e hl (kept_cell hb hc)) (fun W hb => rvin_4 k t n pc pd a len cap z W hn hpc hpd e hl (kept_cell hb hc))
    · exact values_gen k t n pc pd (.slice (some a) len cap) _ _ w (fun W hb => vout_4 k t n pc pd a len cap W hn hpc hpd e (Nat.not_lt.1 hl)) (fun W hb => rvout_4 k t n pc pd a len cap W hn hpc hpd e (Nat.not_lt.1 hl))
  · exact values_gen k t n pc pd (.slice (some a) len cap) _ _ w (fun W hb => vadd_5 k t n pc pd (.slice (some a) len cap) W hn hpc hpd e) (fun W hb => rvadd_5 k t n pc pd (.slice (some a) len cap) W hn hpc hpd e)
  · exact values_gen k t n pc pd (.slice (some a) len cap) _ _ w (fun W hb => vadd_6 k t n pc pd (.slice (some a) len cap) W hn hpc hpd e) (fun W hb => rvadd_6 k t n pc pd (.slice (some a) len cap) W hn hpc hpd e)
  · exact values_gen k t n pc pd (.slice (some a) len cap) _ _ w (fun W hb => vadd_7 k t n pc pd (.slice (some a) len cap) W hn hpc hpd e) (fun W hb => rvadd_7 k t n pc pd (.slice (some a) len cap) W hn hpc hpd e)
  · exact values_gen k t n pc pd (.slice (some a) len cap) _ _ w (fun W hb => vbig_8 k t n pc pd (.slice (some a) len cap) W hn hpc hpd e) (fun W hb => rvbig_8 k t n pc pd (.slice (some a) len cap) W hn hpc hpd e)
/-- Whatever row of words comes in. -/
theorem law_values (k t n pc pd : Nat) (sv : Value) (w : World) (hn : n < 65536) (hpc : pc < 4294967296) (hpd : pd < 4294967296) (hs : sv = .slice none 0 0 ∨ ∃ (a : Addr) (len cap : Nat), sv = .slice (some a) len cap ∧ ∀ n, n < len → ∃ z : Int, w.cell? (a.add n) = some (.int .u32 z)) : Calls Try.prog 10 #[.agg #[.int .u8 (k : Int), .int .u16 (t : Int), .int .u16 (n : Int)], .agg #[.int .u32 (pc : Int), .int .u32 (pd : Int)], sv] w fun e w' => e = .returned (.bool true) ∧ Below w.heap.size w w' := by
  rcases hs with rfl | ⟨a, len, cap, rfl, hc⟩
  · exact law_values_nil k t n pc pd w hn hpc hpd
  · exact law_values_some k t n pc pd a len cap w hn hpc hpd (hc n)
end Go.Proofs.Ytgnminoiddnheaa.B8
