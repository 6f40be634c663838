/- What the land of law09 tells harts that fetch, plainly. No program in sight. No condition. -/
import Derived.Test.YthnbdeibjbicpaaKLand
set_option linter.unusedSimpArgs false
namespace Go.Proofs.Ythnbdeibjbicpaa.PM
set_option linter.unusedVariables false
theorem putM_in (L : List Nat) (x v : Nat) (h0 : 80 ≤ x) (h1 : x < 176) (hl : L.length = 128) : (putM tS L x v).1 = L.set (x - 80) v := by
  unfold putM
  have hi : inB L x = true := by unfold inB; simp; omega
  have hp : (getP tS (pageOf x)).s = 1 := by
    obtain ⟨q, hq⟩ : ∃ q, (x - 80) / 16 = q := ⟨_, rfl⟩
    have e : pageOf x = (q : Int) := by unfold pageOf; rw [if_neg (by omega), hq]
    rw [e]
    have hq6 : q < 6 := by omega
    match q, hq6 with
    | 0, _ => rfl
    | 1, _ => rfl
    | 2, _ => rfl
    | 3, _ => rfl
    | 4, _ => rfl
    | 5, _ => rfl
  rw [if_pos hi, if_pos hp]
theorem puts_at (f : Nat → Nat) (a n : Nat) (L : List Nat) (h0 : 80 ≤ a) (h1 : a + n ≤ 176) (hl : L.length = 128) (j : Nat) (hj : j < 128) :
    (putsM f a n L)[j]! = if a - 80 ≤ j ∧ j < a - 80 + n then f (j - (a - 80)) else L[j]! := by
  induction n with
  | zero => rw [if_neg (by omega)]; rfl
  | succ n ih =>
    unfold putsM
    rw [putM_in _ _ _ (by omega) (by omega) (by rw [putsM_length]; exact hl), nat_set _ _ _ _ (by rw [putsM_length]; omega)]
    by_cases e : j = a + n - 80
    · rw [if_pos e, if_pos (by omega)]
      congr 1
      omega
    · rw [if_neg e, ih (by omega)]
      by_cases q : a - 80 ≤ j ∧ j < a - 80 + n
      · rw [if_pos q, if_pos (by omega)]
      · rw [if_neg q, if_neg (by omega)]
theorem land_code (C D : List Nat) (i : Nat) (h : i < C.length) (h64 : i < 64) : (landL C D)[i]! = C[i]! := by
  unfold landL
  rw [puts_at _ _ _ _ (by omega) (by omega) (by rw [putsM_length]; simp) i (by omega), if_neg (by omega), puts_at _ _ _ _ (by omega) (by omega) (by simp) i (by omega), if_pos (by omega)]
  rfl
theorem fetch_land (C D : List Nat) (g i ep : Nat) (h : i < C.length) (h64 : i < 64) : fetchM (landG g) (landT false) (landL C D) (80 + i) ep = (C[i]!, 1, true) := by
  have hp : getP (landT false) (pageOf (80 + i)) = pC := by
    obtain ⟨q, hq⟩ : ∃ q, i / 16 = q := ⟨_, rfl⟩
    have e : pageOf (80 + i) = (q : Int) := by
      unfold pageOf
      rw [if_neg (by omega), show 80 + i - 80 = i by omega, hq]
    rw [e]
    have hq4 : q < 4 := by omega
    match q, hq4 with
    | 0, _ => rfl
    | 1, _ => rfl
    | 2, _ => rfl
    | 3, _ => rfl
  have hk : peekM (landG g) (landL C D) (80 + i) = C[i]! := by
    unfold peekM
    rw [if_neg (by omega), if_neg (by omega), if_pos (by rw [landL_length]; omega), show 80 + i - 80 = i by omega]
    exact land_code C D i h h64
  unfold fetchM
  rw [if_neg (by omega), hp, hk]
  rfl
/-- Code that may write a page is none. -/
theorem land_wr (r : Bool) (i : Int) (h : (getP (landT r) i).wr = true) : (getP (landT r) i).x = false := by
  unfold getP at h ⊢
  split
  · rename_i q
    rw [if_pos q] at h
    rw [landT_length] at q
    obtain ⟨n, rfl⟩ : ∃ n : Nat, i = (n : Int) := ⟨i.toNat, by omega⟩
    have hn : n < 8 := by omega
    rw [Int.toNat_natCast] at h ⊢
    cases r
    · match n, hn with
      | 0, _ => cases h
      | 1, _ => cases h
      | 2, _ => cases h
      | 3, _ => cases h
      | 4, _ => rfl
      | 5, _ => rfl
      | 6, _ => cases h
      | 7, _ => cases h
    · match n, hn with
      | 0, _ => cases h
      | 1, _ => cases h
      | 2, _ => cases h
      | 3, _ => cases h
      | 4, _ => rfl
      | 5, _ => rfl
      | 6, _ => cases h
      | 7, _ => cases h
  · rfl
end Go.Proofs.Ythnbdeibjbicpaa.PM
