/- Instructions as plain numbers: which parts are used, whether one may be, its word, what a word is. No Go in sight. -/
import Derived.Test.YthnbdeibjbicpaaMath
set_option linter.unusedVariables false
set_option linter.unusedSimpArgs false
namespace Go.Proofs.Ythnbdeibjbicpaa.IM
open Go.RowKit Go.Proofs.Ythnbdeibjbicpaa.WM
def three (op : Nat) : Bool := decide (3 ≤ op ∧ op ≤ 10)
def ud (op : Nat) : Bool := three op || op == 2 || op == 11 || op == 12 || op == 13 || op == 15 || op == 16
def ua (op : Nat) : Bool := three op || op == 11 || op == 12 || op == 13 || op == 15 || op == 16 || op == 19
def ub (op : Nat) : Bool := three op
def ui (op : Nat) : Bool := op == 2 || op == 11 || op == 12 || op == 13 || op == 14 || op == 15 || op == 16 || op == 17 || op == 21
/-- May a register stand there? -/
def regB (r : Nat) (u : Bool) : Bool := r == 0 || u && decide (r < 8)
/-- Check's answer. -/
def chk (op d a b : Nat) (imm : Int) : Int :=
  if 21 < op ∨ regB d (ud op) = false ∨ regB a (ua op) = false ∨ regB b (ub op) = false ∨ (ui op = false ∧ imm ≠ 0) then 10
  else if fitsB imm 21 = false then 11
  else if op = 17 ∧ imm < 0 then 11
  else if op = 21 ∧ (imm < 0 ∨ 63 < imm) then 11
  else 0
theorem chk_10 {op d a b : Nat} {imm : Int} (h : 21 < op ∨ regB d (ud op) = false ∨ regB a (ua op) = false ∨ regB b (ub op) = false ∨ (ui op = false ∧ imm ≠ 0)) : chk op d a b imm = 10 := by
  unfold chk; rw [if_pos h]
structure Good (op d a b : Nat) (imm : Int) : Prop where
  ho : op ≤ 21
  hd : regB d (ud op) = true
  ha : regB a (ua op) = true
  hb : regB b (ub op) = true
  hi : ui op = true ∨ imm = 0
theorem Good.not {op d a b : Nat} {imm : Int} (h : Good op d a b imm) : ¬ (21 < op ∨ regB d (ud op) = false ∨ regB a (ua op) = false ∨ regB b (ub op) = false ∨ (ui op = false ∧ imm ≠ 0)) := by
  obtain ⟨h1, h2, h3, h4, h5⟩ := h
  rw [h2, h3, h4]
  rcases h5 with h5 | h5
  · rw [h5]; simp; omega
  · simp [h5]; omega
theorem chk_11a {op d a b : Nat} {imm : Int} (h : Good op d a b imm) (hf : fitsB imm 21 = false) : chk op d a b imm = 11 := by
  unfold chk; rw [if_neg h.not, if_pos hf]
theorem chk_11b {op d a b : Nat} {imm : Int} (h : Good op d a b imm) (hf : fitsB imm 21 = true) (hc : op = 17) (hi : imm < 0) : chk op d a b imm = 11 := by
  unfold chk; rw [if_neg h.not, if_neg (by rw [hf]; decide), if_pos ⟨hc, hi⟩]
theorem chk_11c {op d a b : Nat} {imm : Int} (h : Good op d a b imm) (hf : fitsB imm 21 = true) (hc : op = 21) (hi : imm < 0 ∨ 63 < imm) : chk op d a b imm = 11 := by
  unfold chk; rw [if_neg h.not, if_neg (by rw [hf]; decide), if_neg (by omega), if_pos ⟨hc, hi⟩]
theorem chk_0 {op d a b : Nat} {imm : Int} (h : Good op d a b imm) (hf : fitsB imm 21 = true) (hc : op = 17 → 0 ≤ imm) (he : op = 21 → 0 ≤ imm ∧ imm ≤ 63) : chk op d a b imm = 0 := by
  unfold chk; rw [if_neg h.not, if_neg (by rw [hf]; decide), if_neg (by omega), if_neg (by omega)]
theorem regB_big {r : Nat} {u : Bool} (h : 7 < r) : regB r u = false := by
  unfold regB
  rw [show (r == 0) = false from by rw [beq_eq_false_iff_ne]; omega, show decide (r < 8) = false from decide_eq_false (by omega)]
  simp
theorem regB_none {r : Nat} {u : Bool} (h : r ≠ 0) (hu : u = false) : regB r u = false := by
  unfold regB
  rw [show (r == 0) = false from by rw [beq_eq_false_iff_ne]; omega, hu]
  simp
theorem regB_ok {r : Nat} {u : Bool} (h : r ≤ 7) (hu : u = true) : regB r u = true := by
  unfold regB
  rw [hu, show decide (r < 8) = true from decide_eq_true (by omega)]
  simp
theorem regB_zero {r : Nat} {u : Bool} (h : r = 0) : regB r u = true := by subst h; rfl
end Go.Proofs.Ythnbdeibjbicpaa.IM
