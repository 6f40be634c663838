/- Contracts of reloc.Reach and of what the reference tells of a kind. Conditions: none. -/
import Derived.Test.YtgnminoiddnheaaWalk1
namespace Go.Proofs.Ytgnminoiddnheaa.R2
set_option linter.unusedVariables false
open Go.RowKit Go.Proofs.Ytgnminoiddnheaa.WM Go.Proofs.Ytgnminoiddnheaa.W1
def wordK (k : Nat) : Bool := k == 4 || k == 5 || k == 6
def codeK (k : Nat) : Bool := k == 0 || k == 1 || k == 2 || k == 3 || k == 7
def impK (k : Nat) : Bool := k == 0 || k == 1 || k == 4
def isCall (k : Nat) : Bool := k == 0 || k == 7
def opOf (k : Nat) : Nat := if isCall k = true then 17 else 2
def reachV (k : Nat) : Nat := if wordK k = true then 4294967295 else if codeK k = true then 1048575 else 0
theorem kinds (k : Nat) : k = 0 ∨ k = 1 ∨ k = 2 ∨ k = 3 ∨ k = 4 ∨ k = 5 ∨ k = 6 ∨ k = 7 ∨ 7 < k := by omega
theorem big_no {k : Nat} (h : 7 < k) : wordK k = false ∧ codeK k = false ∧ impK k = false ∧ isCall k = false := by
  unfold wordK codeK impK isCall
  have e : ∀ j, j ≤ 7 → (k == j) = false := fun j hj => by rw [beq_eq_false_iff_ne]; omega
  rw [e 0 (by omega), e 1 (by omega), e 2 (by omega), e 3 (by omega), e 4 (by omega), e 5 (by omega), e 6 (by omega), e 7 (by omega)]
  decide
theorem reach_c_0 (k : Nat) (w : World) (hk : k = 0) : Calls Try.prog 32 #[.int .u8 (k : Int)] w fun e w' => e = .returned (.int .u32 ((reachV k : Nat) : Int)) ∧ Drew w w' := by
  have HC := Lib.hid (show reachV k = reachV 0 from by rw [hk])
  have q0 : ((k : Int) == 0) = true := by rw [hk]; rfl
  have q1 : ((k : Int) == 1) = false := by rw [hk]; rfl
  have q2 : ((k : Int) == 2) = false := by rw [hk]; rfl
  have q3 : ((k : Int) == 3) = false := by rw [hk]; rfl
  have q4 : ((k : Int) == 4) = false := by rw [hk]; rfl
  have q5 : ((k : Int) == 5) = false := by rw [hk]; rfl
  have q6 : ((k : Int) == 6) = false := by rw [hk]; rfl
  have q7 : ((k : Int) == 7) = false := by rw [hk]; rfl
  have qg : (k : Int) ≤ 7 := by omega
  clear hk
  go_enter Try.func32, Try.ntmps32
  go_wp2_with fail
  go_ret
  exact ⟨by rw [HC.out]; rfl, by repeat (first | exact Drew.refl _ | apply Drew.step | apply Drew.step1)⟩
theorem reach_c_1 (k : Nat) (w : World) (hk : k = 1) : Calls Try.prog 32 #[.int .u8 (k : Int)] w fun e w' => e = .returned (.int .u32 ((reachV k : Nat) : Int)) ∧ Drew w w' := by
  have HC := Lib.hid (show reachV k = reachV 1 from by rw [hk])
  have q0 : ((k : Int) == 0) = false := by rw [hk]; rfl
  have q1 : ((k : Int) == 1) = true := by rw [hk]; rfl
  have q2 : ((k : Int) == 2) = false := by rw [hk]; rfl
  have q3 : ((k : Int) == 3) = false := by rw [hk]; rfl
  have q4 : ((k : Int) == 4) = false := by rw [hk]; rfl
  have q5 : ((k : Int) == 5) = false := by rw [hk]; rfl
  have q6 : ((k : Int) == 6) = false := by rw [hk]; rfl
  have q7 : ((k : Int) == 7) = false := by rw [hk]; rfl
  have qg : (k : Int) ≤ 7 := by omega
  clear hk
  go_enter Try.func32, Try.ntmps32
  go_wp2_with fail
  go_ret
  exact ⟨by rw [HC.out]; rfl, by repeat (first | exact Drew.refl _ | apply Drew.step | apply Drew.step1)⟩
theorem reach_c_2 (k : Nat) (w : World) (hk : k = 2) : Calls Try.prog 32 #[.int .u8 (k : Int)] w fun e w' => e = .returned (.int .u32 ((reachV k : Nat) : Int)) ∧ Drew w w' := by
  have HC := Lib.hid (show reachV k = reachV 2 from by rw [hk])
  have q0 : ((k : Int) == 0) = false := by rw [hk]; rfl
  have q1 : ((k : Int) == 1) = false := by rw [hk]; rfl
  have q2 : ((k : Int) == 2) = true := by rw [hk]; rfl
  have q3 : ((k : Int) == 3) = false := by rw [hk]; rfl
  have q4 : ((k : Int) == 4) = false := by rw [hk]; rfl
  have q5 : ((k : Int) == 5) = false := by rw [hk]; rfl
  have q6 : ((k : Int) == 6) = false := by rw [hk]; rfl
  have q7 : ((k : Int) == 7) = false := by rw [hk]; rfl
  have qg : (k : Int) ≤ 7 := by omega
  clear hk
  go_enter Try.func32, Try.ntmps32
  go_wp2_with fail
  go_ret
  exact ⟨by rw [HC.out]; rfl, by repeat (first | exact Drew.refl _ | apply Drew.step | apply Drew.step1)⟩
theorem reach_c_3 (k : Nat) (w : World) (hk : k = 3) : Calls Try.prog 32 #[.int .u8 (k : Int)] w fun e w' => e = .returned (.int .u32 ((reachV k : Nat) : Int)) ∧ Drew w w' := by
  have HC := Lib.hid (show reachV k = reachV 3 from by rw [hk])
  have q0 : ((k : Int) == 0) = false := by rw [hk]; rfl
  have q1 : ((k : Int) == 1) = false := by rw [hk]; rfl
  have q2 : ((k : Int) == 2) = false := by rw [hk]; rfl
  have q3 : ((k : Int) == 3) = true := by rw [hk]; rfl
  have q4 : ((k : Int) == 4) = false := by rw [hk]; rfl
  have q5 : ((k : Int) == 5) = false := by rw [hk]; rfl
  have q6 : ((k : Int) == 6) = false := by rw [hk]; rfl
  have q7 : ((k : Int) == 7) = false := by rw [hk]; rfl
  have qg : (k : Int) ≤ 7 := by omega
  clear hk
  go_enter Try.func32, Try.ntmps32
  go_wp2_with fail
  go_ret
  exact ⟨by rw [HC.out]; rfl, by repeat (first | exact Drew.refl _ | apply Drew.step | apply Drew.step1)⟩
theorem reach_c_4 (k : Nat) (w : World) (hk : k = 4) : Calls Try.prog 32 #[.int .u8 (k : Int)] w fun e w' => e = .returned (.int .u32 ((reachV k : Nat) : Int)) ∧ Drew w w' := by
  have HC := Lib.hid (show reachV k = reachV 4 from by rw [hk])
  have q0 : ((k : Int) == 0) = false := by rw [hk]; rfl
  have q1 : ((k : Int) == 1) = false := by rw [hk]; rfl
  have q2 : ((k : Int) == 2) = false := by rw [hk]; rfl
  have q3 : ((k : Int) == 3) = false := by rw [hk]; rfl
  have q4 : ((k : Int) == 4) = true := by rw [hk]; rfl
  have q5 : ((k : Int) == 5) = false := by rw [hk]; rfl
  have q6 : ((k : Int) == 6) = false := by rw [hk]; rfl
  have q7 : ((k : Int) == 7) = false := by rw [hk]; rfl
  have qg : (k : Int) ≤ 7 := by omega
  clear hk
  go_enter Try.func32, Try.ntmps32
  go_wp2_with fail
  go_ret
  exact ⟨by rw [HC.out]; rfl, by repeat (first | exact Drew.refl _ | apply Drew.step | apply Drew.step1)⟩
theorem reach_c_5 (k : Nat) (w : World) (hk : k = 5) : Calls Try.prog 32 #[.int .u8 (k : Int)] w fun e w' => e = .returned (.int .u32 ((reachV k : Nat) : Int)) ∧ Drew w w' := by
  have HC := Lib.hid (show reachV k = reachV 5 from by rw [hk])
  have q0 : ((k : Int) == 0) = false := by rw [hk]; rfl
  have q1 : ((k : Int) == 1) = false := by rw [hk]; rfl
  have q2 : ((k : Int) == 2) = false := by rw [hk]; rfl
  have q3 : ((k : Int) == 3) = false := by rw [hk]; rfl
  have q4 : ((k : Int) == 4) = false := by rw [hk]; rfl
  have q5 : ((k : Int) == 5) = true := by rw [hk]; rfl
  have q6 : ((k : Int) == 6) = false := by rw [hk]; rfl
  have q7 : ((k : Int) == 7) = false := by rw [hk]; rfl
  have qg : (k : Int) ≤ 7 := by omega
  clear hk
  go_enter Try.func32, Try.ntmps32
  go_wp2_with fail
  go_ret
  exact ⟨by rw [HC.out]; rfl, by repeat (first | exact Drew.refl _ | apply Drew.step | apply Drew.step1)⟩
theorem reach_c_6 (k : Nat) (w : World) (hk : k = 6) : Calls Try.prog 32 #[.int .u8 (k : Int)] w fun e w' => e = .returned (.int .u32 ((reachV k : Nat) : Int)) ∧ Drew w w' := by
  have HC := Lib.hid (show reachV k = reachV 6 from by rw [hk])
  have q0 : ((k : Int) == 0) = false := by rw [hk]; rfl
  have q1 : ((k : Int) == 1) = false := by rw [hk]; rfl
  have q2 : ((k : Int) == 2) = false := by rw [hk]; rfl
  have q3 : ((k : Int) == 3) = false := by rw [hk]; rfl
  have q4 : ((k : Int) == 4) = false := by rw [hk]; rfl
  have q5 : ((k : Int) == 5) = false := by rw [hk]; rfl
  have q6 : ((k : Int) == 6) = true := by rw [hk]; rfl
  have q7 : ((k : Int) == 7) = false := by rw [hk]; rfl
  have qg : (k : Int) ≤ 7 := by omega
  clear hk
  go_enter Try.func32, Try.ntmps32
  go_wp2_with fail
  go_ret
  exact ⟨by rw [HC.out]; rfl, by repeat (first | exact Drew.refl _ | apply Drew.step | apply Drew.step1)⟩
theorem reach_c_7 (k : Nat) (w : World) (hk : k = 7) : Calls Try.prog 32 #[.int .u8 (k : Int)] w fun e w' => e = .returned (.int .u32 ((reachV k : Nat) : Int)) ∧ Drew w w' := by
  have HC := Lib.hid (show reachV k = reachV 7 from by rw [hk])
  have q0 : ((k : Int) == 0) = false := by rw [hk]; rfl
  have q1 : ((k : Int) == 1) = false := by rw [hk]; rfl
  have q2 : ((k : Int) == 2) = false := by rw [hk]; rfl
  have q3 : ((k : Int) == 3) = false := by rw [hk]; rfl
  have q4 : ((k : Int) == 4) = false := by rw [hk]; rfl
  have q5 : ((k : Int) == 5) = false := by rw [hk]; rfl
  have q6 : ((k : Int) == 6) = false := by rw [hk]; rfl
  have q7 : ((k : Int) == 7) = true := by rw [hk]; rfl
  have qg : (k : Int) ≤ 7 := by omega
  clear hk
  go_enter Try.func32, Try.ntmps32
  go_wp2_with fail
  go_ret
  exact ⟨by rw [HC.out]; rfl, by repeat (first | exact Drew.refl _ | apply Drew.step | apply Drew.step1)⟩
theorem reach_c_8 (k : Nat) (w : World) (hk : 7 < k) : Calls Try.prog 32 #[.int .u8 (k : Int)] w fun e w' => e = .returned (.int .u32 ((reachV k : Nat) : Int)) ∧ Drew w w' := by
  have HC := Lib.hid (show reachV k = 0 from by obtain ⟨h1, h2, h3, h4⟩ := big_no hk; unfold reachV; rw [h1, h2]; rfl)
  have q0 : ((k : Int) == 0) = false := by rw [beq_eq_false_iff_ne]; omega
  have q1 : ((k : Int) == 1) = false := by rw [beq_eq_false_iff_ne]; omega
  have q2 : ((k : Int) == 2) = false := by rw [beq_eq_false_iff_ne]; omega
  have q3 : ((k : Int) == 3) = false := by rw [beq_eq_false_iff_ne]; omega
  have q4 : ((k : Int) == 4) = false := by rw [beq_eq_false_iff_ne]; omega
  have q5 : ((k : Int) == 5) = false := by rw [beq_eq_false_iff_ne]; omega
  have q6 : ((k : Int) == 6) = false := by rw [beq_eq_false_iff_ne]; omega
  have q7 : ((k : Int) == 7) = false := by rw [beq_eq_false_iff_ne]; omega
  have qg : (7 : Int) < (k : Int) := by omega
  clear hk
  go_enter Try.func32, Try.ntmps32
  go_wp2_with fail
  go_ret
  exact ⟨by rw [HC.out]; rfl, by repeat (first | exact Drew.refl _ | apply Drew.step | apply Drew.step1)⟩
theorem reach_c (k : Nat) (w : World) : Calls Try.prog 32 #[.int .u8 (k : Int)] w fun e w' => e = .returned (.int .u32 ((reachV k : Nat) : Int)) ∧ Drew w w' := by
  rcases kinds k with h | h | h | h | h | h | h | h | h
  · exact reach_c_0 k w h
  · exact reach_c_1 k w h
  · exact reach_c_2 k w h
  · exact reach_c_3 k w h
  · exact reach_c_4 k w h
  · exact reach_c_5 k w h
  · exact reach_c_6 k w h
  · exact reach_c_7 k w h
  · exact reach_c_8 k w h
theorem incode_c_0 (k : Nat) (w : World) (hk : k = 0) : Calls Try.prog 49 #[.int .u8 (k : Int)] w fun e w' => e = .returned (.bool (codeK k)) ∧ Drew w w' := by
  have HC := Lib.hid (show codeK k = codeK 0 from by rw [hk])
  have q0 : ((k : Int) == 0) = true := by rw [hk]; rfl
  have q1 : ((k : Int) == 1) = false := by rw [hk]; rfl
  have q2 : ((k : Int) == 2) = false := by rw [hk]; rfl
  have q3 : ((k : Int) == 3) = false := by rw [hk]; rfl
  have q4 : ((k : Int) == 4) = false := by rw [hk]; rfl
  have q5 : ((k : Int) == 5) = false := by rw [hk]; rfl
  have q6 : ((k : Int) == 6) = false := by rw [hk]; rfl
  have q7 : ((k : Int) == 7) = false := by rw [hk]; rfl
  have qg : (k : Int) ≤ 7 := by omega
  clear hk
  go_enter Try.func49, Try.ntmps49
  go_wp2_with fail
  go_ret
  exact ⟨by rw [HC.out]; rfl, by repeat (first | exact Drew.refl _ | apply Drew.step | apply Drew.step1)⟩
theorem incode_c_1 (k : Nat) (w : World) (hk : k = 1) : Calls Try.prog 49 #[.int .u8 (k : Int)] w fun e w' => e = .returned (.bool (codeK k)) ∧ Drew w w' := by
  have HC := Lib.hid (show codeK k = codeK 1 from by rw [hk])
  have q0 : ((k : Int) == 0) = false := by rw [hk]; rfl
  have q1 : ((k : Int) == 1) = true := by rw [hk]; rfl
  have q2 : ((k : Int) == 2) = false := by rw [hk]; rfl
  have q3 : ((k : Int) == 3) = false := by rw [hk]; rfl
  have q4 : ((k : Int) == 4) = false := by rw [hk]; rfl
  have q5 : ((k : Int) == 5) = false := by rw [hk]; rfl
  have q6 : ((k : Int) == 6) = false := by rw [hk]; rfl
  have q7 : ((k : Int) == 7) = false := by rw [hk]; rfl
  have qg : (k : Int) ≤ 7 := by omega
  clear hk
  go_enter Try.func49, Try.ntmps49
  go_wp2_with fail
  go_ret
  exact ⟨by rw [HC.out]; rfl, by repeat (first | exact Drew.refl _ | apply Drew.step | apply Drew.step1)⟩
theorem incode_c_2 (k : Nat) (w : World) (hk : k = 2) : Calls Try.prog 49 #[.int .u8 (k : Int)] w fun e w' => e = .returned (.bool (codeK k)) ∧ Drew w w' := by
  have HC := Lib.hid (show codeK k = codeK 2 from by rw [hk])
  have q0 : ((k : Int) == 0) = false := by rw [hk]; rfl
  have q1 : ((k : Int) == 1) = false := by rw [hk]; rfl
  have q2 : ((k : Int) == 2) = true := by rw [hk]; rfl
  have q3 : ((k : Int) == 3) = false := by rw [hk]; rfl
  have q4 : ((k : Int) == 4) = false := by rw [hk]; rfl
  have q5 : ((k : Int) == 5) = false := by rw [hk]; rfl
  have q6 : ((k : Int) == 6) = false := by rw [hk]; rfl
  have q7 : ((k : Int) == 7) = false := by rw [hk]; rfl
  have qg : (k : Int) ≤ 7 := by omega
  clear hk
  go_enter Try.func49, Try.ntmps49
  go_wp2_with fail
  go_ret
  exact ⟨by rw [HC.out]; rfl, by repeat (first | exact Drew.refl _ | apply Drew.step | apply Drew.step1)⟩
theorem incode_c_3 (k : Nat) (w : World) (hk : k = 3) : Calls Try.prog 49 #[.int .u8 (k : Int)] w fun e w' => e = .returned (.bool (codeK k)) ∧ Drew w w' := by
  have HC := Lib.hid (show codeK k = codeK 3 from by rw [hk])
  have q0 : ((k : Int) == 0) = false := by rw [hk]; rfl
  have q1 : ((k : Int) == 1) = false := by rw [hk]; rfl
  have q2 : ((k : Int) == 2) = false := by rw [hk]; rfl
  have q3 : ((k : Int) == 3) = true := by rw [hk]; rfl
  have q4 : ((k : Int) == 4) = false := by rw [hk]; rfl
  have q5 : ((k : Int) == 5) = false := by rw [hk]; rfl
  have q6 : ((k : Int) == 6) = false := by rw [hk]; rfl
  have q7 : ((k : Int) == 7) = false := by rw [hk]; rfl
  have qg : (k : Int) ≤ 7 := by omega
  clear hk
  go_enter Try.func49, Try.ntmps49
  go_wp2_with fail
  go_ret
  exact ⟨by rw [HC.out]; rfl, by repeat (first | exact Drew.refl _ | apply Drew.step | apply Drew.step1)⟩
theorem incode_c_4 (k : Nat) (w : World) (hk : k = 4) : Calls Try.prog 49 #[.int .u8 (k : Int)] w fun e w' => e = .returned (.bool (codeK k)) ∧ Drew w w' := by
  have HC := Lib.hid (show codeK k = codeK 4 from by rw [hk])
  have q0 : ((k : Int) == 0) = false := by rw [hk]; rfl
  have q1 : ((k : Int) == 1) = false := by rw [hk]; rfl
  have q2 : ((k : Int) == 2) = false := by rw [hk]; rfl
  have q3 : ((k : Int) == 3) = false := by rw [hk]; rfl
  have q4 : ((k : Int) == 4) = true := by rw [hk]; rfl
  have q5 : ((k : Int) == 5) = false := by rw [hk]; rfl
  have q6 : ((k : Int) == 6) = false := by rw [hk]; rfl
  have q7 : ((k : Int) == 7) = false := by rw [hk]; rfl
  have qg : (k : Int) ≤ 7 := by omega
  clear hk
  go_enter Try.func49, Try.ntmps49
  go_wp2_with fail
  go_ret
  exact ⟨by rw [HC.out]; rfl, by repeat (first | exact Drew.refl _ | apply Drew.step | apply Drew.step1)⟩
theorem incode_c_5 (k : Nat) (w : World) (hk : k = 5) : Calls Try.prog 49 #[.int .u8 (k : Int)] w fun e w' => e = .returned (.bool (codeK k)) ∧ Drew w w' := by
  have HC := Lib.hid (show codeK k = codeK 5 from by rw [hk])
  have q0 : ((k : Int) == 0) = false := by rw [hk]; rfl
  have q1 : ((k : Int) == 1) = false := by rw [hk]; rfl
  have q2 : ((k : Int) == 2) = false := by rw [hk]; rfl
  have q3 : ((k : Int) == 3) = false := by rw [hk]; rfl
  have q4 : ((k : Int) == 4) = false := by rw [hk]; rfl
  have q5 : ((k : Int) == 5) = true := by rw [hk]; rfl
  have q6 : ((k : Int) == 6) = false := by rw [hk]; rfl
  have q7 : ((k : Int) == 7) = false := by rw [hk]; rfl
  have qg : (k : Int) ≤ 7 := by omega
  clear hk
  go_enter Try.func49, Try.ntmps49
  go_wp2_with fail
  go_ret
  exact ⟨by rw [HC.out]; rfl, by repeat (first | exact Drew.refl _ | apply Drew.step | apply Drew.step1)⟩
theorem incode_c_6 (k : Nat) (w : World) (hk : k = 6) : Calls Try.prog 49 #[.int .u8 (k : Int)] w fun e w' => e = .returned (.bool (codeK k)) ∧ Drew w w' := by
  have HC := Lib.hid (show codeK k = codeK 6 from by rw [hk])
  have q0 : ((k : Int) == 0) = false := by rw [hk]; rfl
  have q1 : ((k : Int) == 1) = false := by rw [hk]; rfl
  have q2 : ((k : Int) == 2) = false := by rw [hk]; rfl
  have q3 : ((k : Int) == 3) = false := by rw [hk]; rfl
  have q4 : ((k : Int) == 4) = false := by rw [hk]; rfl
  have q5 : ((k : Int) == 5) = false := by rw [hk]; rfl
  have q6 : ((k : Int) == 6) = true := by rw [hk]; rfl
  have q7 : ((k : Int) == 7) = false := by rw [hk]; rfl
  have qg : (k : Int) ≤ 7 := by omega
  clear hk
  go_enter Try.func49, Try.ntmps49
  go_wp2_with fail
  go_ret
  exact ⟨by rw [HC.out]; rfl, by repeat (first | exact Drew.refl _ | apply Drew.step | apply Drew.step1)⟩
theorem incode_c_7 (k : Nat) (w : World) (hk : k = 7) : Calls Try.prog 49 #[.int .u8 (k : Int)] w fun e w' => e = .returned (.bool (codeK k)) ∧ Drew w w' := by
  have HC := Lib.hid (show codeK k = codeK 7 from by rw [hk])
  have q0 : ((k : Int) == 0) = false := by rw [hk]; rfl
  have q1 : ((k : Int) == 1) = false := by rw [hk]; rfl
  have q2 : ((k : Int) == 2) = false := by rw [hk]; rfl
  have q3 : ((k : Int) == 3) = false := by rw [hk]; rfl
  have q4 : ((k : Int) == 4) = false := by rw [hk]; rfl
  have q5 : ((k : Int) == 5) = false := by rw [hk]; rfl
  have q6 : ((k : Int) == 6) = false := by rw [hk]; rfl
  have q7 : ((k : Int) == 7) = true := by rw [hk]; rfl
  have qg : (k : Int) ≤ 7 := by omega
  clear hk
  go_enter Try.func49, Try.ntmps49
  go_wp2_with fail
  go_ret
  exact ⟨by rw [HC.out]; rfl, by repeat (first | exact Drew.refl _ | apply Drew.step | apply Drew.step1)⟩
theorem incode_c_8 (k : Nat) (w : World) (hk : 7 < k) : Calls Try.prog 49 #[.int .u8 (k : Int)] w fun e w' => e = .returned (.bool (codeK k)) ∧ Drew w w' := by
  have HC := Lib.hid (show codeK k = false from by obtain ⟨h1, h2, h3, h4⟩ := big_no hk; assumption)
  have q0 : ((k : Int) == 0) = false := by rw [beq_eq_false_iff_ne]; omega
  have q1 : ((k : Int) == 1) = false := by rw [beq_eq_false_iff_ne]; omega
  have q2 : ((k : Int) == 2) = false := by rw [beq_eq_false_iff_ne]; omega
  have q3 : ((k : Int) == 3) = false := by rw [beq_eq_false_iff_ne]; omega
  have q4 : ((k : Int) == 4) = false := by rw [beq_eq_false_iff_ne]; omega
  have q5 : ((k : Int) == 5) = false := by rw [beq_eq_false_iff_ne]; omega
  have q6 : ((k : Int) == 6) = false := by rw [beq_eq_false_iff_ne]; omega
  have q7 : ((k : Int) == 7) = false := by rw [beq_eq_false_iff_ne]; omega
  have qg : (7 : Int) < (k : Int) := by omega
  clear hk
  go_enter Try.func49, Try.ntmps49
  go_wp2_with fail
  go_ret
  exact ⟨by rw [HC.out]; rfl, by repeat (first | exact Drew.refl _ | apply Drew.step | apply Drew.step1)⟩
theorem incode_c (k : Nat) (w : World) : Calls Try.prog 49 #[.int .u8 (k : Int)] w fun e w' => e = .returned (.bool (codeK k)) ∧ Drew w w' := by
  rcases kinds k with h | h | h | h | h | h | h | h | h
  · exact incode_c_0 k w h
  · exact incode_c_1 k w h
  · exact incode_c_2 k w h
  · exact incode_c_3 k w h
  · exact incode_c_4 k w h
  · exact incode_c_5 k w h
  · exact incode_c_6 k w h
  · exact incode_c_7 k w h
  · exact incode_c_8 k w h
theorem op_c_0 (k : Nat) (w : World) (hk : k = 0) : Calls Try.prog 50 #[.int .u8 (k : Int)] w fun e w' => e = .returned (.int .u8 ((opOf k : Nat) : Int)) ∧ Drew w w' := by
  have HC := Lib.hid (show opOf k = opOf 0 from by rw [hk])
  have q0 : ((k : Int) == 0) = true := by rw [hk]; rfl
  have q1 : ((k : Int) == 1) = false := by rw [hk]; rfl
  have q2 : ((k : Int) == 2) = false := by rw [hk]; rfl
  have q3 : ((k : Int) == 3) = false := by rw [hk]; rfl
  have q4 : ((k : Int) == 4) = false := by rw [hk]; rfl
  have q5 : ((k : Int) == 5) = false := by rw [hk]; rfl
  have q6 : ((k : Int) == 6) = false := by rw [hk]; rfl
  have q7 : ((k : Int) == 7) = false := by rw [hk]; rfl
  have qg : (k : Int) ≤ 7 := by omega
  clear hk
  go_enter Try.func50, Try.ntmps50
  go_wp2_with fail
  go_ret
  exact ⟨by rw [HC.out]; rfl, by repeat (first | exact Drew.refl _ | apply Drew.step | apply Drew.step1)⟩
theorem op_c_1 (k : Nat) (w : World) (hk : k = 1) : Calls Try.prog 50 #[.int .u8 (k : Int)] w fun e w' => e = .returned (.int .u8 ((opOf k : Nat) : Int)) ∧ Drew w w' := by
  have HC := Lib.hid (show opOf k = opOf 1 from by rw [hk])
  have q0 : ((k : Int) == 0) = false := by rw [hk]; rfl
  have q1 : ((k : Int) == 1) = true := by rw [hk]; rfl
  have q2 : ((k : Int) == 2) = false := by rw [hk]; rfl
  have q3 : ((k : Int) == 3) = false := by rw [hk]; rfl
  have q4 : ((k : Int) == 4) = false := by rw [hk]; rfl
  have q5 : ((k : Int) == 5) = false := by rw [hk]; rfl
  have q6 : ((k : Int) == 6) = false := by rw [hk]; rfl
  have q7 : ((k : Int) == 7) = false := by rw [hk]; rfl
  have qg : (k : Int) ≤ 7 := by omega
  clear hk
  go_enter Try.func50, Try.ntmps50
  go_wp2_with fail
  go_ret
  exact ⟨by rw [HC.out]; rfl, by repeat (first | exact Drew.refl _ | apply Drew.step | apply Drew.step1)⟩
theorem op_c_2 (k : Nat) (w : World) (hk : k = 2) : Calls Try.prog 50 #[.int .u8 (k : Int)] w fun e w' => e = .returned (.int .u8 ((opOf k : Nat) : Int)) ∧ Drew w w' := by
  have HC := Lib.hid (show opOf k = opOf 2 from by rw [hk])
  have q0 : ((k : Int) == 0) = false := by rw [hk]; rfl
  have q1 : ((k : Int) == 1) = false := by rw [hk]; rfl
  have q2 : ((k : Int) == 2) = true := by rw [hk]; rfl
  have q3 : ((k : Int) == 3) = false := by rw [hk]; rfl
  have q4 : ((k : Int) == 4) = false := by rw [hk]; rfl
  have q5 : ((k : Int) == 5) = false := by rw [hk]; rfl
  have q6 : ((k : Int) == 6) = false := by rw [hk]; rfl
  have q7 : ((k : Int) == 7) = false := by rw [hk]; rfl
  have qg : (k : Int) ≤ 7 := by omega
  clear hk
  go_enter Try.func50, Try.ntmps50
  go_wp2_with fail
  go_ret
  exact ⟨by rw [HC.out]; rfl, by repeat (first | exact Drew.refl _ | apply Drew.step | apply Drew.step1)⟩
theorem op_c_3 (k : Nat) (w : World) (hk : k = 3) : Calls Try.prog 50 #[.int .u8 (k : Int)] w fun e w' => e = .returned (.int .u8 ((opOf k : Nat) : Int)) ∧ Drew w w' := by
  have HC := Lib.hid (show opOf k = opOf 3 from by rw [hk])
  have q0 : ((k : Int) == 0) = false := by rw [hk]; rfl
  have q1 : ((k : Int) == 1) = false := by rw [hk]; rfl
  have q2 : ((k : Int) == 2) = false := by rw [hk]; rfl
  have q3 : ((k : Int) == 3) = true := by rw [hk]; rfl
  have q4 : ((k : Int) == 4) = false := by rw [hk]; rfl
  have q5 : ((k : Int) == 5) = false := by rw [hk]; rfl
  have q6 : ((k : Int) == 6) = false := by rw [hk]; rfl
  have q7 : ((k : Int) == 7) = false := by rw [hk]; rfl
  have qg : (k : Int) ≤ 7 := by omega
  clear hk
  go_enter Try.func50, Try.ntmps50
  go_wp2_with fail
  go_ret
  exact ⟨by rw [HC.out]; rfl, by repeat (first | exact Drew.refl _ | apply Drew.step | apply Drew.step1)⟩
theorem op_c_4 (k : Nat) (w : World) (hk : k = 4) : Calls Try.prog 50 #[.int .u8 (k : Int)] w fun e w' => e = .returned (.int .u8 ((opOf k : Nat) : Int)) ∧ Drew w w' := by
  have HC := Lib.hid (show opOf k = opOf 4 from by rw [hk])
  have q0 : ((k : Int) == 0) = false := by rw [hk]; rfl
  have q1 : ((k : Int) == 1) = false := by rw [hk]; rfl
  have q2 : ((k : Int) == 2) = false := by rw [hk]; rfl
  have q3 : ((k : Int) == 3) = false := by rw [hk]; rfl
  have q4 : ((k : Int) == 4) = true := by rw [hk]; rfl
  have q5 : ((k : Int) == 5) = false := by rw [hk]; rfl
  have q6 : ((k : Int) == 6) = false := by rw [hk]; rfl
  have q7 : ((k : Int) == 7) = false := by rw [hk]; rfl
  have qg : (k : Int) ≤ 7 := by omega
  clear hk
  go_enter Try.func50, Try.ntmps50
  go_wp2_with fail
  go_ret
  exact ⟨by rw [HC.out]; rfl, by repeat (first | exact Drew.refl _ | apply Drew.step | apply Drew.step1)⟩
theorem op_c_5 (k : Nat) (w : World) (hk : k = 5) : Calls Try.prog 50 #[.int .u8 (k : Int)] w fun e w' => e = .returned (.int .u8 ((opOf k : Nat) : Int)) ∧ Drew w w' := by
  have HC := Lib.hid (show opOf k = opOf 5 from by rw [hk])
  have q0 : ((k : Int) == 0) = false := by rw [hk]; rfl
  have q1 : ((k : Int) == 1) = false := by rw [hk]; rfl
  have q2 : ((k : Int) == 2) = false := by rw [hk]; rfl
  have q3 : ((k : Int) == 3) = false := by rw [hk]; rfl
  have q4 : ((k : Int) == 4) = false := by rw [hk]; rfl
  have q5 : ((k : Int) == 5) = true := by rw [hk]; rfl
  have q6 : ((k : Int) == 6) = false := by rw [hk]; rfl
  have q7 : ((k : Int) == 7) = false := by rw [hk]; rfl
  have qg : (k : Int) ≤ 7 := by omega
  clear hk
  go_enter Try.func50, Try.ntmps50
  go_wp2_with fail
  go_ret
  exact ⟨by rw [HC.out]; rfl, by repeat (first | exact Drew.refl _ | apply Drew.step | apply Drew.step1)⟩
theorem op_c_6 (k : Nat) (w : World) (hk : k = 6) : Calls Try.prog 50 #[.int .u8 (k : Int)] w fun e w' => e = .returned (.int .u8 ((opOf k : Nat) : Int)) ∧ Drew w w' := by
  have HC := Lib.hid (show opOf k = opOf 6 from by rw [hk])
  have q0 : ((k : Int) == 0) = false := by rw [hk]; rfl
  have q1 : ((k : Int) == 1) = false := by rw [hk]; rfl
  have q2 : ((k : Int) == 2) = false := by rw [hk]; rfl
  have q3 : ((k : Int) == 3) = false := by rw [hk]; rfl
  have q4 : ((k : Int) == 4) = false := by rw [hk]; rfl
  have q5 : ((k : Int) == 5) = false := by rw [hk]; rfl
  have q6 : ((k : Int) == 6) = true := by rw [hk]; rfl
  have q7 : ((k : Int) == 7) = false := by rw [hk]; rfl
  have qg : (k : Int) ≤ 7 := by omega
  clear hk
  go_enter Try.func50, Try.ntmps50
  go_wp2_with fail
  go_ret
  exact ⟨by rw [HC.out]; rfl, by repeat (first | exact Drew.refl _ | apply Drew.step | apply Drew.step1)⟩
theorem op_c_7 (k : Nat) (w : World) (hk : k = 7) : Calls Try.prog 50 #[.int .u8 (k : Int)] w fun e w' => e = .returned (.int .u8 ((opOf k : Nat) : Int)) ∧ Drew w w' := by
  have HC := Lib.hid (show opOf k = opOf 7 from by rw [hk])
  have q0 : ((k : Int) == 0) = false := by rw [hk]; rfl
  have q1 : ((k : Int) == 1) = false := by rw [hk]; rfl
  have q2 : ((k : Int) == 2) = false := by rw [hk]; rfl
  have q3 : ((k : Int) == 3) = false := by rw [hk]; rfl
  have q4 : ((k : Int) == 4) = false := by rw [hk]; rfl
  have q5 : ((k : Int) == 5) = false := by rw [hk]; rfl
  have q6 : ((k : Int) == 6) = false := by rw [hk]; rfl
  have q7 : ((k : Int) == 7) = true := by rw [hk]; rfl
  have qg : (k : Int) ≤ 7 := by omega
  clear hk
  go_enter Try.func50, Try.ntmps50
  go_wp2_with fail
  go_ret
  exact ⟨by rw [HC.out]; rfl, by repeat (first | exact Drew.refl _ | apply Drew.step | apply Drew.step1)⟩
theorem op_c_8 (k : Nat) (w : World) (hk : 7 < k) : Calls Try.prog 50 #[.int .u8 (k : Int)] w fun e w' => e = .returned (.int .u8 ((opOf k : Nat) : Int)) ∧ Drew w w' := by
  have HC := Lib.hid (show opOf k = 2 from by obtain ⟨h1, h2, h3, h4⟩ := big_no hk; unfold opOf; rw [h4]; rfl)
  have q0 : ((k : Int) == 0) = false := by rw [beq_eq_false_iff_ne]; omega
  have q1 : ((k : Int) == 1) = false := by rw [beq_eq_false_iff_ne]; omega
  have q2 : ((k : Int) == 2) = false := by rw [beq_eq_false_iff_ne]; omega
  have q3 : ((k : Int) == 3) = false := by rw [beq_eq_false_iff_ne]; omega
  have q4 : ((k : Int) == 4) = false := by rw [beq_eq_false_iff_ne]; omega
  have q5 : ((k : Int) == 5) = false := by rw [beq_eq_false_iff_ne]; omega
  have q6 : ((k : Int) == 6) = false := by rw [beq_eq_false_iff_ne]; omega
  have q7 : ((k : Int) == 7) = false := by rw [beq_eq_false_iff_ne]; omega
  have qg : (7 : Int) < (k : Int) := by omega
  clear hk
  go_enter Try.func50, Try.ntmps50
  go_wp2_with fail
  go_ret
  exact ⟨by rw [HC.out]; rfl, by repeat (first | exact Drew.refl _ | apply Drew.step | apply Drew.step1)⟩
theorem op_c (k : Nat) (w : World) : Calls Try.prog 50 #[.int .u8 (k : Int)] w fun e w' => e = .returned (.int .u8 ((opOf k : Nat) : Int)) ∧ Drew w w' := by
  rcases kinds k with h | h | h | h | h | h | h | h | h
  · exact op_c_0 k w h
  · exact op_c_1 k w h
  · exact op_c_2 k w h
  · exact op_c_3 k w h
  · exact op_c_4 k w h
  · exact op_c_5 k w h
  · exact op_c_6 k w h
  · exact op_c_7 k w h
  · exact op_c_8 k w h
theorem import_c_0 (k : Nat) (w : World) (hk : k = 0) : Calls Try.prog 47 #[.int .u8 (k : Int)] w fun e w' => e = .returned (.bool (impK k)) ∧ Drew w w' := by
  have HC := Lib.hid (show impK k = impK 0 from by rw [hk])
  have q0 : ((k : Int) == 0) = true := by rw [hk]; rfl
  have q1 : ((k : Int) == 1) = false := by rw [hk]; rfl
  have q2 : ((k : Int) == 2) = false := by rw [hk]; rfl
  have q3 : ((k : Int) == 3) = false := by rw [hk]; rfl
  have q4 : ((k : Int) == 4) = false := by rw [hk]; rfl
  have q5 : ((k : Int) == 5) = false := by rw [hk]; rfl
  have q6 : ((k : Int) == 6) = false := by rw [hk]; rfl
  have q7 : ((k : Int) == 7) = false := by rw [hk]; rfl
  have qg : (k : Int) ≤ 7 := by omega
  clear hk
  go_enter Try.func47, Try.ntmps47
  go_wp2_with fail
  go_ret
  exact ⟨by rw [HC.out]; rfl, by repeat (first | exact Drew.refl _ | apply Drew.step | apply Drew.step1)⟩
theorem import_c_1 (k : Nat) (w : World) (hk : k = 1) : Calls Try.prog 47 #[.int .u8 (k : Int)] w fun e w' => e = .returned (.bool (impK k)) ∧ Drew w w' := by
  have HC := Lib.hid (show impK k = impK 1 from by rw [hk])
  have q0 : ((k : Int) == 0) = false := by rw [hk]; rfl
  have q1 : ((k : Int) == 1) = true := by rw [hk]; rfl
  have q2 : ((k : Int) == 2) = false := by rw [hk]; rfl
  have q3 : ((k : Int) == 3) = false := by rw [hk]; rfl
  have q4 : ((k : Int) == 4) = false := by rw [hk]; rfl
  have q5 : ((k : Int) == 5) = false := by rw [hk]; rfl
  have q6 : ((k : Int) == 6) = false := by rw [hk]; rfl
  have q7 : ((k : Int) == 7) = false := by rw [hk]; rfl
  have qg : (k : Int) ≤ 7 := by omega
  clear hk
  go_enter Try.func47, Try.ntmps47
  go_wp2_with fail
  go_ret
  exact ⟨by rw [HC.out]; rfl, by repeat (first | exact Drew.refl _ | apply Drew.step | apply Drew.step1)⟩
theorem import_c_2 (k : Nat) (w : World) (hk : k = 2) : Calls Try.prog 47 #[.int .u8 (k : Int)] w fun e w' => e = .returned (.bool (impK k)) ∧ Drew w w' := by
  have HC := Lib.hid (show impK k = impK 2 from by rw [hk])
  have q0 : ((k : Int) == 0) = false := by rw [hk]; rfl
  have q1 : ((k : Int) == 1) = false := by rw [hk]; rfl
  have q2 : ((k : Int) == 2) = true := by rw [hk]; rfl
  have q3 : ((k : Int) == 3) = false := by rw [hk]; rfl
  have q4 : ((k : Int) == 4) = false := by rw [hk]; rfl
  have q5 : ((k : Int) == 5) = false := by rw [hk]; rfl
  have q6 : ((k : Int) == 6) = false := by rw [hk]; rfl
  have q7 : ((k : Int) == 7) = false := by rw [hk]; rfl
  have qg : (k : Int) ≤ 7 := by omega
  clear hk
  go_enter Try.func47, Try.ntmps47
  go_wp2_with fail
  go_ret
  exact ⟨by rw [HC.out]; rfl, by repeat (first | exact Drew.refl _ | apply Drew.step | apply Drew.step1)⟩
theorem import_c_3 (k : Nat) (w : World) (hk : k = 3) : Calls Try.prog 47 #[.int .u8 (k : Int)] w fun e w' => e = .returned (.bool (impK k)) ∧ Drew w w' := by
  have HC := Lib.hid (show impK k = impK 3 from by rw [hk])
  have q0 : ((k : Int) == 0) = false := by rw [hk]; rfl
  have q1 : ((k : Int) == 1) = false := by rw [hk]; rfl
  have q2 : ((k : Int) == 2) = false := by rw [hk]; rfl
  have q3 : ((k : Int) == 3) = true := by rw [hk]; rfl
  have q4 : ((k : Int) == 4) = false := by rw [hk]; rfl
  have q5 : ((k : Int) == 5) = false := by rw [hk]; rfl
  have q6 : ((k : Int) == 6) = false := by rw [hk]; rfl
  have q7 : ((k : Int) == 7) = false := by rw [hk]; rfl
  have qg : (k : Int) ≤ 7 := by omega
  clear hk
  go_enter Try.func47, Try.ntmps47
  go_wp2_with fail
  go_ret
  exact ⟨by rw [HC.out]; rfl, by repeat (first | exact Drew.refl _ | apply Drew.step | apply Drew.step1)⟩
theorem import_c_4 (k : Nat) (w : World) (hk : k = 4) : Calls Try.prog 47 #[.int .u8 (k : Int)] w fun e w' => e = .returned (.bool (impK k)) ∧ Drew w w' := by
  have HC := Lib.hid (show impK k = impK 4 from by rw [hk])
  have q0 : ((k : Int) == 0) = false := by rw [hk]; rfl
  have q1 : ((k : Int) == 1) = false := by rw [hk]; rfl
  have q2 : ((k : Int) == 2) = false := by rw [hk]; rfl
  have q3 : ((k : Int) == 3) = false := by rw [hk]; rfl
  have q4 : ((k : Int) == 4) = true := by rw [hk]; rfl
  have q5 : ((k : Int) == 5) = false := by rw [hk]; rfl
  have q6 : ((k : Int) == 6) = false := by rw [hk]; rfl
  have q7 : ((k : Int) == 7) = false := by rw [hk]; rfl
  have qg : (k : Int) ≤ 7 := by omega
  clear hk
  go_enter Try.func47, Try.ntmps47
  go_wp2_with fail
  go_ret
  exact ⟨by rw [HC.out]; rfl, by repeat (first | exact Drew.refl _ | apply Drew.step | apply Drew.step1)⟩
theorem import_c_5 (k : Nat) (w : World) (hk : k = 5) : Calls Try.prog 47 #[.int .u8 (k : Int)] w fun e w' => e = .returned (.bool (impK k)) ∧ Drew w w' := by
  have HC := Lib.hid (show impK k = impK 5 from by rw [hk])
  have q0 : ((k : Int) == 0) = false := by rw [hk]; rfl
  have q1 : ((k : Int) == 1) = false := by rw [hk]; rfl
  have q2 : ((k : Int) == 2) = false := by rw [hk]; rfl
  have q3 : ((k : Int) == 3) = false := by rw [hk]; rfl
  have q4 : ((k : Int) == 4) = false := by rw [hk]; rfl
  have q5 : ((k : Int) == 5) = true := by rw [hk]; rfl
  have q6 : ((k : Int) == 6) = false := by rw [hk]; rfl
  have q7 : ((k : Int) == 7) = false := by rw [hk]; rfl
  have qg : (k : Int) ≤ 7 := by omega
  clear hk
  go_enter Try.func47, Try.ntmps47
  go_wp2_with fail
  go_ret
  exact ⟨by rw [HC.out]; rfl, by repeat (first | exact Drew.refl _ | apply Drew.step | apply Drew.step1)⟩
theorem import_c_6 (k : Nat) (w : World) (hk : k = 6) : Calls Try.prog 47 #[.int .u8 (k : Int)] w fun e w' => e = .returned (.bool (impK k)) ∧ Drew w w' := by
  have HC := Lib.hid (show impK k = impK 6 from by rw [hk])
  have q0 : ((k : Int) == 0) = false := by rw [hk]; rfl
  have q1 : ((k : Int) == 1) = false := by rw [hk]; rfl
  have q2 : ((k : Int) == 2) = false := by rw [hk]; rfl
  have q3 : ((k : Int) == 3) = false := by rw [hk]; rfl
  have q4 : ((k : Int) == 4) = false := by rw [hk]; rfl
  have q5 : ((k : Int) == 5) = false := by rw [hk]; rfl
  have q6 : ((k : Int) == 6) = true := by rw [hk]; rfl
  have q7 : ((k : Int) == 7) = false := by rw [hk]; rfl
  have qg : (k : Int) ≤ 7 := by omega
  clear hk
  go_enter Try.func47, Try.ntmps47
  go_wp2_with fail
  go_ret
  exact ⟨by rw [HC.out]; rfl, by repeat (first | exact Drew.refl _ | apply Drew.step | apply Drew.step1)⟩
theorem import_c_7 (k : Nat) (w : World) (hk : k = 7) : Calls Try.prog 47 #[.int .u8 (k : Int)] w fun e w' => e = .returned (.bool (impK k)) ∧ Drew w w' := by
  have HC := Lib.hid (show impK k = impK 7 from by rw [hk])
  have q0 : ((k : Int) == 0) = false := by rw [hk]; rfl
  have q1 : ((k : Int) == 1) = false := by rw [hk]; rfl
  have q2 : ((k : Int) == 2) = false := by rw [hk]; rfl
  have q3 : ((k : Int) == 3) = false := by rw [hk]; rfl
  have q4 : ((k : Int) == 4) = false := by rw [hk]; rfl
  have q5 : ((k : Int) == 5) = false := by rw [hk]; rfl
  have q6 : ((k : Int) == 6) = false := by rw [hk]; rfl
  have q7 : ((k : Int) == 7) = true := by rw [hk]; rfl
  have qg : (k : Int) ≤ 7 := by omega
  clear hk
  go_enter Try.func47, Try.ntmps47
  go_wp2_with fail
  go_ret
  exact ⟨by rw [HC.out]; rfl, by repeat (first | exact Drew.refl _ | apply Drew.step | apply Drew.step1)⟩
theorem import_c_8 (k : Nat) (w : World) (hk : 7 < k) : Calls Try.prog 47 #[.int .u8 (k : Int)] w fun e w' => e = .returned (.bool (impK k)) ∧ Drew w w' := by
  have HC := Lib.hid (show impK k = false from by obtain ⟨h1, h2, h3, h4⟩ := big_no hk; assumption)
  have q0 : ((k : Int) == 0) = false := by rw [beq_eq_false_iff_ne]; omega
  have q1 : ((k : Int) == 1) = false := by rw [beq_eq_false_iff_ne]; omega
  have q2 : ((k : Int) == 2) = false := by rw [beq_eq_false_iff_ne]; omega
  have q3 : ((k : Int) == 3) = false := by rw [beq_eq_false_iff_ne]; omega
  have q4 : ((k : Int) == 4) = false := by rw [beq_eq_false_iff_ne]; omega
  have q5 : ((k : Int) == 5) = false := by rw [beq_eq_false_iff_ne]; omega
  have q6 : ((k : Int) == 6) = false := by rw [beq_eq_false_iff_ne]; omega
  have q7 : ((k : Int) == 7) = false := by rw [beq_eq_false_iff_ne]; omega
  have qg : (7 : Int) < (k : Int) := by omega
  clear hk
  go_enter Try.func47, Try.ntmps47
  go_wp2_with fail
  go_ret
  exact ⟨by rw [HC.out]; rfl, by repeat (first | exact Drew.refl _ | apply Drew.step | apply Drew.step1)⟩
theorem import_c (k : Nat) (w : World) : Calls Try.prog 47 #[.int .u8 (k : Int)] w fun e w' => e = .returned (.bool (impK k)) ∧ Drew w w' := by
  rcases kinds k with h | h | h | h | h | h | h | h | h
  · exact import_c_0 k w h
  · exact import_c_1 k w h
  · exact import_c_2 k w h
  · exact import_c_3 k w h
  · exact import_c_4 k w h
  · exact import_c_5 k w h
  · exact import_c_6 k w h
  · exact import_c_7 k w h
  · exact import_c_8 k w h
theorem rreach_0 (k : Nat) (w : World) (hk : k = 0) : Calls Try.prog 33 #[.int .u8 (k : Int)] w fun e w' => e = .returned (.int .u32 ((reachV k : Nat) : Int)) ∧ Drew w w' := by
  have HC := Lib.hid (show reachV k = reachV 0 from by rw [hk])
  have hi := fun W => incode_c k W
  rw [show codeK k = true from by rw [hk]; rfl] at hi
  have HI := Lib.hid hi
  clear hi
  have qg : (k : Int) ≤ 7 := by omega
  clear hk
  go_enter Try.func33, Try.ntmps33
  go_wp2_with (first | (go_at_call 49; (with_reducible refine (HI.out _).mono ?_); rintro e w' ⟨rfl, ⟨nd, rfl⟩⟩; (try first | exact ⟨rfl, _, World.drewN_drewN _ _ _⟩ | exact ⟨rfl, _, Eq.trans (World.drewN_drewN _ _ _) (congrArg (World.drewN _) (Nat.add_assoc _ _ _))⟩)))
  go_ret
  exact ⟨by rw [HC.out]; rfl, by repeat (first | exact Drew.refl _ | apply Drew.step | apply Drew.step1)⟩
theorem rreach_1 (k : Nat) (w : World) (hk : k = 1) : Calls Try.prog 33 #[.int .u8 (k : Int)] w fun e w' => e = .returned (.int .u32 ((reachV k : Nat) : Int)) ∧ Drew w w' := by
  have HC := Lib.hid (show reachV k = reachV 1 from by rw [hk])
  have hi := fun W => incode_c k W
  rw [show codeK k = true from by rw [hk]; rfl] at hi
  have HI := Lib.hid hi
  clear hi
  have qg : (k : Int) ≤ 7 := by omega
  clear hk
  go_enter Try.func33, Try.ntmps33
  go_wp2_with (first | (go_at_call 49; (with_reducible refine (HI.out _).mono ?_); rintro e w' ⟨rfl, ⟨nd, rfl⟩⟩; (try first | exact ⟨rfl, _, World.drewN_drewN _ _ _⟩ | exact ⟨rfl, _, Eq.trans (World.drewN_drewN _ _ _) (congrArg (World.drewN _) (Nat.add_assoc _ _ _))⟩)))
  go_ret
  exact ⟨by rw [HC.out]; rfl, by repeat (first | exact Drew.refl _ | apply Drew.step | apply Drew.step1)⟩
theorem rreach_2 (k : Nat) (w : World) (hk : k = 2) : Calls Try.prog 33 #[.int .u8 (k : Int)] w fun e w' => e = .returned (.int .u32 ((reachV k : Nat) : Int)) ∧ Drew w w' := by
  have HC := Lib.hid (show reachV k = reachV 2 from by rw [hk])
  have hi := fun W => incode_c k W
  rw [show codeK k = true from by rw [hk]; rfl] at hi
  have HI := Lib.hid hi
  clear hi
  have qg : (k : Int) ≤ 7 := by omega
  clear hk
  go_enter Try.func33, Try.ntmps33
  go_wp2_with (first | (go_at_call 49; (with_reducible refine (HI.out _).mono ?_); rintro e w' ⟨rfl, ⟨nd, rfl⟩⟩; (try first | exact ⟨rfl, _, World.drewN_drewN _ _ _⟩ | exact ⟨rfl, _, Eq.trans (World.drewN_drewN _ _ _) (congrArg (World.drewN _) (Nat.add_assoc _ _ _))⟩)))
  go_ret
  exact ⟨by rw [HC.out]; rfl, by repeat (first | exact Drew.refl _ | apply Drew.step | apply Drew.step1)⟩
theorem rreach_3 (k : Nat) (w : World) (hk : k = 3) : Calls Try.prog 33 #[.int .u8 (k : Int)] w fun e w' => e = .returned (.int .u32 ((reachV k : Nat) : Int)) ∧ Drew w w' := by
  have HC := Lib.hid (show reachV k = reachV 3 from by rw [hk])
  have hi := fun W => incode_c k W
  rw [show codeK k = true from by rw [hk]; rfl] at hi
  have HI := Lib.hid hi
  clear hi
  have qg : (k : Int) ≤ 7 := by omega
  clear hk
  go_enter Try.func33, Try.ntmps33
  go_wp2_with (first | (go_at_call 49; (with_reducible refine (HI.out _).mono ?_); rintro e w' ⟨rfl, ⟨nd, rfl⟩⟩; (try first | exact ⟨rfl, _, World.drewN_drewN _ _ _⟩ | exact ⟨rfl, _, Eq.trans (World.drewN_drewN _ _ _) (congrArg (World.drewN _) (Nat.add_assoc _ _ _))⟩)))
  go_ret
  exact ⟨by rw [HC.out]; rfl, by repeat (first | exact Drew.refl _ | apply Drew.step | apply Drew.step1)⟩
theorem rreach_4 (k : Nat) (w : World) (hk : k = 4) : Calls Try.prog 33 #[.int .u8 (k : Int)] w fun e w' => e = .returned (.int .u32 ((reachV k : Nat) : Int)) ∧ Drew w w' := by
  have HC := Lib.hid (show reachV k = reachV 4 from by rw [hk])
  have hi := fun W => incode_c k W
  rw [show codeK k = false from by rw [hk]; rfl] at hi
  have HI := Lib.hid hi
  clear hi
  have qg : (k : Int) ≤ 7 := by omega
  clear hk
  go_enter Try.func33, Try.ntmps33
  go_wp2_with (first | (go_at_call 49; (with_reducible refine (HI.out _).mono ?_); rintro e w' ⟨rfl, ⟨nd, rfl⟩⟩; (try first | exact ⟨rfl, _, World.drewN_drewN _ _ _⟩ | exact ⟨rfl, _, Eq.trans (World.drewN_drewN _ _ _) (congrArg (World.drewN _) (Nat.add_assoc _ _ _))⟩)))
  go_ret
  exact ⟨by rw [HC.out]; rfl, by repeat (first | exact Drew.refl _ | apply Drew.step | apply Drew.step1)⟩
theorem rreach_5 (k : Nat) (w : World) (hk : k = 5) : Calls Try.prog 33 #[.int .u8 (k : Int)] w fun e w' => e = .returned (.int .u32 ((reachV k : Nat) : Int)) ∧ Drew w w' := by
  have HC := Lib.hid (show reachV k = reachV 5 from by rw [hk])
  have hi := fun W => incode_c k W
  rw [show codeK k = false from by rw [hk]; rfl] at hi
  have HI := Lib.hid hi
  clear hi
  have qg : (k : Int) ≤ 7 := by omega
  clear hk
  go_enter Try.func33, Try.ntmps33
  go_wp2_with (first | (go_at_call 49; (with_reducible refine (HI.out _).mono ?_); rintro e w' ⟨rfl, ⟨nd, rfl⟩⟩; (try first | exact ⟨rfl, _, World.drewN_drewN _ _ _⟩ | exact ⟨rfl, _, Eq.trans (World.drewN_drewN _ _ _) (congrArg (World.drewN _) (Nat.add_assoc _ _ _))⟩)))
  go_ret
  exact ⟨by rw [HC.out]; rfl, by repeat (first | exact Drew.refl _ | apply Drew.step | apply Drew.step1)⟩
theorem rreach_6 (k : Nat) (w : World) (hk : k = 6) : Calls Try.prog 33 #[.int .u8 (k : Int)] w fun e w' => e = .returned (.int .u32 ((reachV k : Nat) : Int)) ∧ Drew w w' := by
  have HC := Lib.hid (show reachV k = reachV 6 from by rw [hk])
  have hi := fun W => incode_c k W
  rw [show codeK k = false from by rw [hk]; rfl] at hi
  have HI := Lib.hid hi
  clear hi
  have qg : (k : Int) ≤ 7 := by omega
  clear hk
  go_enter Try.func33, Try.ntmps33
  go_wp2_with (first | (go_at_call 49; (with_reducible refine (HI.out _).mono ?_); rintro e w' ⟨rfl, ⟨nd, rfl⟩⟩; (try first | exact ⟨rfl, _, World.drewN_drewN _ _ _⟩ | exact ⟨rfl, _, Eq.trans (World.drewN_drewN _ _ _) (congrArg (World.drewN _) (Nat.add_assoc _ _ _))⟩)))
  go_ret
  exact ⟨by rw [HC.out]; rfl, by repeat (first | exact Drew.refl _ | apply Drew.step | apply Drew.step1)⟩
theorem rreach_7 (k : Nat) (w : World) (hk : k = 7) : Calls Try.prog 33 #[.int .u8 (k : Int)] w fun e w' => e = .returned (.int .u32 ((reachV k : Nat) : Int)) ∧ Drew w w' := by
  have HC := Lib.hid (show reachV k = reachV 7 from by rw [hk])
  have hi := fun W => incode_c k W
  rw [show codeK k = true from by rw [hk]; rfl] at hi
  have HI := Lib.hid hi
  clear hi
  have qg : (k : Int) ≤ 7 := by omega
  clear hk
  go_enter Try.func33, Try.ntmps33
  go_wp2_with (first | (go_at_call 49; (with_reducible refine (HI.out _).mono ?_); rintro e w' ⟨rfl, ⟨nd, rfl⟩⟩; (try first | exact ⟨rfl, _, World.drewN_drewN _ _ _⟩ | exact ⟨rfl, _, Eq.trans (World.drewN_drewN _ _ _) (congrArg (World.drewN _) (Nat.add_assoc _ _ _))⟩)))
  go_ret
  exact ⟨by rw [HC.out]; rfl, by repeat (first | exact Drew.refl _ | apply Drew.step | apply Drew.step1)⟩
theorem rreach_8 (k : Nat) (w : World) (hk : 7 < k) : Calls Try.prog 33 #[.int .u8 (k : Int)] w fun e w' => e = .returned (.int .u32 ((reachV k : Nat) : Int)) ∧ Drew w w' := by
  have HC := Lib.hid (show reachV k = 0 from by obtain ⟨h1, h2, h3, h4⟩ := big_no hk; unfold reachV; rw [h1, h2]; rfl)
  have hi := fun W => incode_c k W
  rw [(big_no hk).2.1] at hi
  have HI := Lib.hid hi
  clear hi
  have qg : (7 : Int) < (k : Int) := by omega
  clear hk
  go_enter Try.func33, Try.ntmps33
  go_wp2_with (first | (go_at_call 49; (with_reducible refine (HI.out _).mono ?_); rintro e w' ⟨rfl, ⟨nd, rfl⟩⟩; (try first | exact ⟨rfl, _, World.drewN_drewN _ _ _⟩ | exact ⟨rfl, _, Eq.trans (World.drewN_drewN _ _ _) (congrArg (World.drewN _) (Nat.add_assoc _ _ _))⟩)))
  go_ret
  exact ⟨by rw [HC.out]; rfl, by repeat (first | exact Drew.refl _ | apply Drew.step | apply Drew.step1)⟩
theorem rreach_c (k : Nat) (w : World) : Calls Try.prog 33 #[.int .u8 (k : Int)] w fun e w' => e = .returned (.int .u32 ((reachV k : Nat) : Int)) ∧ Drew w w' := by
  rcases kinds k with h | h | h | h | h | h | h | h | h
  · exact rreach_0 k w h
  · exact rreach_1 k w h
  · exact rreach_2 k w h
  · exact rreach_3 k w h
  · exact rreach_4 k w h
  · exact rreach_5 k w h
  · exact rreach_6 k w h
  · exact rreach_7 k w h
  · exact rreach_8 k w h
end Go.Proofs.Ytgnminoiddnheaa.R2
