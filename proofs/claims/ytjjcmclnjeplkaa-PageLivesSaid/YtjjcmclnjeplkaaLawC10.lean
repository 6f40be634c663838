/- An owner's pages from Stage to Release, plainly. No condition. -/
import Derived.Test.YtjjcmclnjeplkaaLawC6
namespace Go.Proofs.Ytjjcmclnjeplkaa.PM
set_option linter.unusedVariables false
/-- How many of the first j stand in a stretch. -/
theorem cnt_in (sl : Page → Bool) (T : List Page) (a k : Nat) (H : ∀ i, i < T.length → sl T[i]! = (decide (a ≤ i) && decide (i < a + k))) (j : Nat) (hj : j ≤ T.length) : (T.take j).countP sl = min (j - a) k := by
  induction j with
  | zero => simp
  | succ j ih =>
    have hlt : j < T.length := by omega
    have h := H j hlt
    cases hs : sl T[j]! with
    | true =>
      rw [count_hit sl T j hlt hs, ih (by omega)]
      rw [hs] at h
      have h := h.symm
      simp only [Bool.and_eq_true, decide_eq_true_eq] at h
      omega
    | false =>
      rw [count_miss sl T j hlt hs, ih (by omega)]
      rw [hs] at h
      have h := h.symm
      simp only [Bool.and_eq_false_iff, decide_eq_false_iff_not] at h
      omega
theorem cnt_all (sl : Page → Bool) (T : List Page) (a k : Nat) (H : ∀ i, i < T.length → sl T[i]! = (decide (a ≤ i) && decide (i < a + k))) (h : a + k ≤ T.length) : T.countP sl = k := by
  have := cnt_in sl T a k H T.length (Nat.le_refl _)
  rw [List.take_length] at this
  omega
theorem cnt_none (sl : Page → Bool) (T : List Page) (H : ∀ i, i < T.length → sl T[i]! = false) : T.countP sl = 0 := by
  rw [List.countP_eq_zero]
  intro p hp
  obtain ⟨i, hi, rfl⟩ := List.getElem_of_mem hp
  have := H i hi
  have e : T[i]! = T[i] := by simp [hi]
  rw [e] at this
  simp [this]
/-- Of an owner who has no pages there is none to publish or to retire. -/
theorem none_of (T : List Page) (ow : Nat) (H : ∀ i, i < T.length → T[i]!.ow ≠ ow) (ep : Nat) : pubM T ow 0 = (T, 8) ∧ retM T ow ep = (T, 8) := by
  have h : ∀ inp, T.countP (sel ow inp) = 0 := fun inp => cnt_none _ _ (fun i hi => by
    unfold sel
    have : (T[i]!.ow == ow) = false := by simpa using H i hi
    rw [this]; rfl)
  exact ⟨by unfold pubM; rw [if_pos (h _)], by unfold retM; rw [if_pos (h _)]⟩
/-- A page that another has, or none. -/
def Far5 (p : Page) : Prop := p.ow ≠ 5
theorem lives (T1 : List Page) (a k ep : Nat) (h1 : ∀ i, i < T1.length → T1[i]! = if i = 0 then stg 9 else nz) (ha : 1 ≤ a) (hk : 1 ≤ k) (hak : a + k ≤ T1.length) :
    ∃ T3 T4 T5, pubM (fillN 5 T1 a k) 5 ((k / 2 : Nat) : Int) = (T3, 0) ∧ retM T3 5 ep = (T4, 0) ∧ pubM T4 5 0 = (T4, 8) ∧ relM T4 5 = (T5, 0) ∧
      (∀ i, i < T1.length → (a ≤ i ∧ i < a + k → T4[i]!.s = 3 ∧ T4[i]!.ep = ep ∧ T4[i]!.x = decide (i < a + k / 2)) ∧ (¬ (a ≤ i ∧ i < a + k) → T4[i]!.ow ≠ 5)) ∧
      (∀ i, i < T1.length → (T5[i]!.s == 0) = (i != 0)) ∧ T4.length = T1.length ∧ T5.length = T1.length := by
  have f1 : ∀ i, i < T1.length → T1[i]!.ow ≠ 5 := fun i hi => by
    rw [h1 i hi]; split <;> decide
  have sF : ∀ inp p, p.ow ≠ 5 → sel 5 inp p = false := fun inp p hp => by
    unfold sel
    have : (p.ow == 5) = false := by simpa using hp
    rw [this]; rfl
  -- staged
  have L2 := fillN_length 5 T1 a k
  have E2 : ∀ i, i < T1.length → (fillN 5 T1 a k)[i]! = if a ≤ i ∧ i < a + k then stg 5 else T1[i]! := fun i hi => fillN_at 5 T1 a k i hi
  generalize fillN 5 T1 a k = T2 at L2 E2
  have S2 : ∀ i, i < T2.length → sel 5 (isS 1) T2[i]! = (decide (a ≤ i) && decide (i < a + k)) := fun i hi => by
    rw [E2 i (by omega)]
    by_cases h : a ≤ i ∧ i < a + k
    · rw [if_pos h]; simp [h.1, h.2, sel, stg, isS]
    · rw [if_neg h, sF _ _ (f1 i (by omega))]
      rcases Nat.lt_or_ge i a with q | q
      · have : ¬ a ≤ i := by omega
        simp [this]
      · have : ¬ i < a + k := by omega
        simp [this]
  have C2 := cnt_all _ T2 a k S2 (by omega)
  -- published
  have P2 : pubM T2 5 ((k / 2 : Nat) : Int) = (go (sel 5 (isS 1)) (pubF ((k / 2 : Nat) : Int)) 0 T2, 0) := by
    unfold pubM
    rw [C2, if_neg (by omega), if_neg (by omega)]
  have L3 := go_length (sel 5 (isS 1)) (pubF ((k / 2 : Nat) : Int)) 0 T2
  have E3 : ∀ i, i < T1.length → (go (sel 5 (isS 1)) (pubF ((k / 2 : Nat) : Int)) 0 T2)[i]! = if a ≤ i ∧ i < a + k then ⟨2, decide (i < a + k / 2), decide (a + k / 2 ≤ i), 5, 0⟩ else T1[i]! := fun i hi => by
    rw [go_at _ _ _ _ _ (by omega), S2 i (by omega), E2 i hi]
    by_cases h : a ≤ i ∧ i < a + k
    · rw [if_pos h, if_pos h, if_pos (by simp [h.1, h.2]), cnt_in _ T2 a k S2 i (by omega)]
      unfold pubF stg
      have e1 : decide (((0 + min (i - a) k : Nat) : Int) < ((k / 2 : Nat) : Int)) = decide (i < a + k / 2) := by
        rw [decide_eq_decide]; omega
      have e2 : decide (((k / 2 : Nat) : Int) ≤ ((0 + min (i - a) k : Nat) : Int)) = decide (a + k / 2 ≤ i) := by
        rw [decide_eq_decide]; omega
      rw [e1, e2]
    · rw [if_neg h, if_neg h, if_neg (by
        simp only [Bool.and_eq_true, decide_eq_true_eq]; exact h)]
  generalize go (sel 5 (isS 1)) (pubF ((k / 2 : Nat) : Int)) 0 T2 = T3 at P2 L3 E3
  -- retired
  have S3 : ∀ i, i < T3.length → sel 5 (isS 2) T3[i]! = (decide (a ≤ i) && decide (i < a + k)) := fun i hi => by
    rw [E3 i (by omega)]
    by_cases h : a ≤ i ∧ i < a + k
    · rw [if_pos h]; simp [h.1, h.2, sel, isS]
    · rw [if_neg h, sF _ _ (f1 i (by omega))]
      rcases Nat.lt_or_ge i a with q | q
      · have : ¬ a ≤ i := by omega
        simp [this]
      · have : ¬ i < a + k := by omega
        simp [this]
  have C3 := cnt_all _ T3 a k S3 (by omega)
  have P3 : retM T3 5 ep = (go (sel 5 (isS 2)) (retF ep) 0 T3, 0) := by
    unfold retM
    rw [C3, if_neg (by omega)]
  have L4 := go_length (sel 5 (isS 2)) (retF ep) 0 T3
  have E4 : ∀ i, i < T1.length → (go (sel 5 (isS 2)) (retF ep) 0 T3)[i]! = if a ≤ i ∧ i < a + k then ⟨3, decide (i < a + k / 2), decide (a + k / 2 ≤ i), 5, ep⟩ else T1[i]! := fun i hi => by
    rw [go_at _ _ _ _ _ (by omega), S3 i (by omega), E3 i hi]
    by_cases h : a ≤ i ∧ i < a + k
    · rw [if_pos h, if_pos h, if_pos (by simp [h.1, h.2])]
      rfl
    · rw [if_neg h, if_neg h, if_neg (by
        simp only [Bool.and_eq_true, decide_eq_true_eq]; exact h)]
  generalize go (sel 5 (isS 2)) (retF ep) 0 T3 = T4 at P3 L4 E4
  -- none is staged
  have C4 : T4.countP (sel 5 (isS 1)) = 0 := cnt_none _ _ (fun i hi => by
    rw [E4 i (by omega)]
    by_cases h : a ≤ i ∧ i < a + k
    · rw [if_pos h]; rfl
    · rw [if_neg h, sF _ _ (f1 i (by omega))])
  have P4 : pubM T4 5 0 = (T4, 8) := by unfold pubM; rw [if_pos C4]
  -- released
  have S4 : ∀ i, i < T4.length → sel 5 isI T4[i]! = (decide (a ≤ i) && decide (i < a + k)) := fun i hi => by
    rw [E4 i (by omega)]
    by_cases h : a ≤ i ∧ i < a + k
    · rw [if_pos h]; simp [h.1, h.2, sel, isI]
    · rw [if_neg h, sF _ _ (f1 i (by omega))]
      rcases Nat.lt_or_ge i a with q | q
      · have : ¬ a ≤ i := by omega
        simp [this]
      · have : ¬ i < a + k := by omega
        simp [this]
  have C5 := cnt_all _ T4 a k S4 (by omega)
  have P5 : relM T4 5 = (go (sel 5 isI) relF 0 T4, 0) := by
    unfold relM
    rw [C5, if_neg (by omega)]
  have L5 := go_length (sel 5 isI) relF 0 T4
  have E5 : ∀ i, i < T1.length → (go (sel 5 isI) relF 0 T4)[i]! = if a ≤ i ∧ i < a + k then nz else T1[i]! := fun i hi => by
    rw [go_at _ _ _ _ _ (by omega), S4 i (by omega), E4 i hi]
    by_cases h : a ≤ i ∧ i < a + k
    · rw [if_pos h, if_pos h, if_pos (by simp [h.1, h.2])]
      rfl
    · rw [if_neg h, if_neg h, if_neg (by
        simp only [Bool.and_eq_true, decide_eq_true_eq]; exact h)]
  refine ⟨T3, T4, _, P2, P3, P4, P5, fun i hi => ⟨fun h => ?_, fun h => ?_⟩, fun i hi => ?_, by omega, by omega⟩
  · rw [E4 i hi, if_pos h]; exact ⟨rfl, rfl, rfl⟩
  · rw [E4 i hi, if_neg h]; exact f1 i hi
  · rw [E5 i hi]
    by_cases h : a ≤ i ∧ i < a + k
    · rw [if_pos h]
      have : i ≠ 0 := by omega
      simp [nz, this]
    · rw [if_neg h, h1 i hi]
      by_cases h0 : i = 0
      · subst h0; rfl
      · rw [if_neg h0]; simp [nz, h0]
/-- The first page, if there is one, for owner 9. -/
theorem first9 (m : Nat) : ∃ T1, stageM (List.replicate m nz) 0 1 9 = (T1, if m = 0 then 11 else 0) ∧ T1.length = m ∧ ∀ i, i < m → T1[i]! = if i = 0 then stg 9 else nz := by
  have hz : ∀ i, i < m → (List.replicate m nz)[i]! = nz := fun i hi => by simp [hi]
  by_cases h0 : m = 0
  · subst h0
    exact ⟨[], rfl, rfl, fun i hi => absurd hi (Nat.not_lt_zero _)⟩
  · refine ⟨fillN 9 (List.replicate m nz) 0 1, ?_, by rw [fillN_length]; simp, fun i hi => ?_⟩
    · unfold stageM
      rw [if_neg (by omega), if_neg (by simp; omega), if_neg h0, if_neg]
      · rfl
      · rw [Bool.not_eq_true, Bool.or_eq_false_iff]
        constructor
        · rw [List.any_eq_false]
          intro p hp
          rw [List.eq_of_mem_replicate hp]
          decide
        · rw [List.any_eq_false]
          intro p hp
          have := List.mem_of_mem_take hp
          have := List.mem_of_mem_drop this
          rw [List.eq_of_mem_replicate this]
          decide
    · rw [fillN_at _ _ _ _ _ (by simpa using hi), hz i hi]
      by_cases h : i = 0
      · rw [if_pos (by omega), if_pos h]
      · rw [if_neg (by omega), if_neg h]
/-- What the second Stage answers. -/
theorem second5 (T1 : List Page) (a k : Nat) (h1 : ∀ i, i < T1.length → T1[i]! = if i = 0 then stg 9 else nz) (hk : 1 ≤ k) :
    ((stageM T1 (a : Int) (k : Int) 5).2 ≠ 0 ∧ (stageM T1 (a : Int) (k : Int) 5).1 = T1) ∨ (stageM T1 (a : Int) (k : Int) 5 = (fillN 5 T1 a k, 0) ∧ 1 ≤ a ∧ a + k ≤ T1.length) := by
  unfold stageM
  rw [if_neg (by omega)]
  split
  · exact Or.inl ⟨(by decide : ¬ (11 : Nat) = 0), rfl⟩
  · split
    · exact Or.inl ⟨(by decide : ¬ (9 : Nat) = 0), rfl⟩
    · rename_i h2 h3
      right
      simp only [Bool.or_eq_true, not_or, Bool.not_eq_true, Int.toNat_natCast] at h3
      refine ⟨rfl, ?_, by omega⟩
      rcases Nat.eq_zero_or_pos a with h | h
      · exfalso
        subst h
        have := any_mid h3.2 (j := 0) (by omega) (by omega) (by omega)
        rw [h1 0 (by omega), if_pos rfl] at this
        exact absurd this (by decide)
      · exact h
end Go.Proofs.Ytjjcmclnjeplkaa.PM
