/- The word of an instruction, and what a word is. No Go in sight. -/
import Derived.Test.YthnbdeibjbicpaaIsaM
set_option linter.unusedSimpArgs false
namespace Go.Proofs.Ythnbdeibjbicpaa.IM
set_option linter.unusedVariables false
open Go.RowKit Go.Proofs.Ythnbdeibjbicpaa.WM
/-! ### The word of an instruction -/
theorem regB_le {r : Nat} {u : Bool} (h : regB r u = true) : r ≤ 7 := by
  unfold regB at h
  simp only [Bool.or_eq_true, beq_iff_eq, Bool.and_eq_true, decide_eq_true_eq] at h
  omega
theorem regB_u {r : Nat} {u : Bool} (h : regB r u = true) (hu : u = false) : r = 0 := by
  subst hu
  simpa [regB] using h
/-- What an instruction that may be is like. -/
structure May (op d a b : Nat) (imm : Int) : Prop where
  good : Good op d a b imm
  fits : fitsB imm 21 = true
  call : op = 17 → 0 ≤ imm
  enter : op = 21 → 0 ≤ imm ∧ imm ≤ 63
theorem chk_may {op d a b : Nat} {imm : Int} (h : chk op d a b imm = 0) : May op d a b imm := by
  unfold chk at h
  split at h
  · omega
  · rename_i h1
    split at h
    · omega
    · rename_i h2
      split at h
      · omega
      · rename_i h3
        split at h
        · omega
        · rename_i h4
          have hb : ∀ x : Bool, ¬ x = false → x = true := by decide
          refine ⟨⟨by omega, hb _ (fun e => h1 (.inr (.inl e))), hb _ (fun e => h1 (.inr (.inr (.inl e)))), hb _ (fun e => h1 (.inr (.inr (.inr (.inl e))))), ?_⟩, hb _ h2, by omega, by omega⟩
          by_cases e : imm = 0
          · exact .inr e
          · exact .inl (hb _ (fun e2 => h1 (.inr (.inr (.inr (.inr ⟨e2, e⟩))))))
theorem may_chk {op d a b : Nat} {imm : Int} (h : May op d a b imm) : chk op d a b imm = 0 := chk_0 h.good h.fits h.call h.enter
theorem ub_ui (op : Nat) (h : ub op = true) : ui op = false ∧ ud op = true ∧ ua op = true := by
  simp [ub, three] at h
  simp [ui, ud, ua, three]
  omega
theorem May.b_or {op d a b : Nat} {imm : Int} (h : May op d a b imm) : (ub op = true ∧ imm = 0) ∨ (ub op = false ∧ b = 0) := by
  cases hu : ub op with
  | false => exact .inr ⟨rfl, regB_u h.good.hb hu⟩
  | true =>
    refine .inl ⟨rfl, ?_⟩
    rcases h.good.hi with e | e
    · rw [(ub_ui op hu).1] at e; cases e
    · exact e
theorem May.range {op d a b : Nat} {imm : Int} (h : May op d a b imm) : -1048576 ≤ imm ∧ imm < 1048576 := by
  have := h.fits
  unfold fitsB at this
  simpa using this
/-- The word of an instruction that may be. -/
def encN (op d a b : Nat) (imm : Int) : Nat := op * 134217728 + d * 16777216 + a * 2097152 + (imm % 2097152).toNat + b
/-- The low part. -/
def low (b : Nat) (imm : Int) : Nat := (imm % 2097152).toNat + b
theorem low_lt {op d a b : Nat} {imm : Int} (h : May op d a b imm) : low b imm < 2097152 := by
  unfold low
  have := regB_le h.good.hb
  rcases h.b_or with ⟨_, e⟩ | ⟨_, e⟩
  · rw [e]; simp; omega
  · omega
theorem low_or {op d a b : Nat} {imm : Int} (h : May op d a b imm) : Go.bits .or .u32 (((imm % 4294967296).toNat % 2 ^ min 21 32 : Nat) : Int) (b : Int) = ((low b imm : Nat) : Int) := by
  have hb := regB_le h.good.hb
  have e21 : (2 : Nat) ^ min 21 32 = 2097152 := rfl
  rw [e21]
  have e1 : (imm % 4294967296).toNat % 2097152 = (imm % 2097152).toNat := by omega
  rw [e1, u32_or_nat _ _ (by omega) (by omega)]
  unfold low
  rcases h.b_or with ⟨_, e⟩ | ⟨_, e⟩
  · rw [e]; simp
  · rw [e]; simp
theorem put27 (x v : Nat) (hx : x < 2097152) (hv : v < 32) : put x 27 5 v = v * 134217728 + x := by unfold put; simp only [Nat.reduceAdd, Nat.reducePow]; omega
theorem put24 (x o v : Nat) (hx : x < 2097152) (ho : o < 32) (hv : v < 8) : put (o * 134217728 + x) 24 3 v = o * 134217728 + v * 16777216 + x := by unfold put; simp only [Nat.reduceAdd, Nat.reducePow]; omega
theorem put21 (x o d v : Nat) (hx : x < 2097152) (ho : o < 32) (hd : d < 8) (hv : v < 8) : put (o * 134217728 + d * 16777216 + x) 21 3 v = o * 134217728 + d * 16777216 + v * 2097152 + x := by unfold put; simp only [Nat.reduceAdd, Nat.reducePow]; omega
theorem put0 (o d a v : Nat) (ho : o < 32) (hd : d < 8) (ha : a < 8) (hv : v < 2097152) : put (o * 134217728 + d * 16777216 + a * 2097152) 0 21 v = o * 134217728 + d * 16777216 + a * 2097152 + v := by unfold put; simp only [Nat.reduceAdd, Nat.reducePow]; omega
theorem encN_low (op d a b : Nat) (imm : Int) : encN op d a b imm = op * 134217728 + d * 16777216 + a * 2097152 + low b imm := by unfold encN low; omega
theorem encN_lt {op d a b : Nat} {imm : Int} (h : May op d a b imm) : encN op d a b imm < 4294967296 := by
  have h1 := h.good.ho
  have h2 := regB_le h.good.hd
  have h3 := regB_le h.good.ha
  have h4 := low_lt h
  rw [encN_low]; omega
/-! ### What a word is -/
def dOp (x : Nat) : Nat := x / 134217728
def dD (x : Nat) : Nat := x / 16777216 % 8
def dA (x : Nat) : Nat := x / 2097152 % 8
def dB (x : Nat) : Nat := if ub (dOp x) = true then x % 8 else 0
def dI (x : Nat) : Int := if ub (dOp x) = true then 0 else sgn x 21
/-- Is it the word of one? -/
def okD (x : Nat) : Prop := chk (dOp x) (dD x) (dA x) (dB x) (dI x) = 0 ∧ encN (dOp x) (dD x) (dA x) (dB x) (dI x) = x
theorem sgn21 (x : Nat) : sgn x 21 = if x % 2097152 < 1048576 then ((x % 2097152 : Nat) : Int) else ((x % 2097152 : Nat) : Int) - 2097152 := rfl
theorem dec_enc {op d a b : Nat} {imm : Int} (h : May op d a b imm) : dOp (encN op d a b imm) = op ∧ dD (encN op d a b imm) = d ∧ dA (encN op d a b imm) = a ∧ dB (encN op d a b imm) = b ∧ dI (encN op d a b imm) = imm := by
  have h1 := h.good.ho
  have h2 := regB_le h.good.hd
  have h3 := regB_le h.good.ha
  have h4 := low_lt h
  have h5 := regB_le h.good.hb
  have h6 := h.range
  have e0 : dOp (encN op d a b imm) = op := by unfold dOp; rw [encN_low]; omega
  refine ⟨e0, ?_, ?_, ?_, ?_⟩
  · unfold dD; rw [encN_low]; omega
  · unfold dA; rw [encN_low]; omega
  · unfold dB
    rw [e0]
    rcases h.b_or with ⟨hu, e⟩ | ⟨hu, e⟩
    · rw [if_pos hu, encN_low]; unfold low; rw [e]; simp; omega
    · rw [hu, if_neg (by decide), e]
  · unfold dI
    rw [e0]
    rcases h.b_or with ⟨hu, e⟩ | ⟨hu, e⟩
    · rw [if_pos hu, e]
    · rw [hu, if_neg (by decide), sgn21, encN_low]; unfold low; rw [e]
      split <;> omega
theorem ok_enc {op d a b : Nat} {imm : Int} (h : May op d a b imm) : okD (encN op d a b imm) := by
  obtain ⟨e0, e1, e2, e3, e4⟩ := dec_enc h
  unfold okD
  rw [e0, e1, e2, e3, e4]
  exact ⟨may_chk h, rfl⟩
theorem okD_may {x : Nat} (h : okD x) : May (dOp x) (dD x) (dA x) (dB x) (dI x) := chk_may h.1
end Go.Proofs.Ythnbdeibjbicpaa.IM
