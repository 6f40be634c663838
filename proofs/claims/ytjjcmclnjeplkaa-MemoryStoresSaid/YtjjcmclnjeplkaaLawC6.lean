/- What stays true of pages, whatever is called. Plain. No condition. -/
import Derived.Test.YtjjcmclnjeplkaaLawC3
set_option linter.unusedSimpArgs false
namespace Go.Proofs.Ytjjcmclnjeplkaa.PM
set_option linter.unusedVariables false
/-- No page may be run and written. -/
def NoXW (T : List Page) : Prop := ∀ p ∈ T, ¬ (p.x = true ∧ p.wr = true)
theorem noxw_new (n : Nat) : NoXW (List.replicate n nz) := by
  intro p hp
  rw [List.eq_of_mem_replicate hp]
  rintro ⟨h, _⟩
  cases h
theorem noxw_step (T : List Page) (a : Act) (h : NoXW T) : NoXW (stepM T a).1 := by
  unfold stepM
  split
  · unfold stageM
    split
    · exact h
    · split
      · exact h
      · split
        · exact h
        · intro p hp
          rcases fillN_mem _ _ _ _ _ hp with hp | rfl
          · exact h p hp
          · rintro ⟨h, _⟩; cases h
  · split
    · unfold pubM
      split
      · exact h
      · split
        · exact h
        · intro p hp
          rcases go_mem _ _ _ _ _ hp with hp | ⟨n, q, hq, rfl⟩
          · exact h p hp
          · unfold pubF
            rintro ⟨h1, h2⟩
            simp only [decide_eq_true_eq] at h1 h2
            omega
    · split
      · unfold retM
        split
        · exact h
        · intro p hp
          rcases go_mem _ _ _ _ _ hp with hp | ⟨n, q, hq, rfl⟩
          · exact h p hp
          · exact h q hq
      · unfold relM
        split
        · exact h
        · intro p hp
          rcases go_mem _ _ _ _ _ hp with hp | ⟨n, q, hq, rfl⟩
          · exact h p hp
          · rintro ⟨h, _⟩; cases h
/-- What is done with each page, by its place. -/
theorem go_at (sl : Page → Bool) (f : Nat → Page → Page) (k : Nat) (T : List Page) (j : Nat) (hj : j < T.length) :
    (go sl f k T)[j]! = if sl T[j]! then f (k + (T.take j).countP sl) T[j]! else T[j]! := by
  induction T generalizing k j with
  | nil => simp at hj
  | cons y T ih =>
    unfold go
    cases j with
    | zero => cases hy : sl y <;> simp [hy]
    | succ j =>
      have hj' : j < T.length := by simpa using hj
      cases hy : sl y with
      | true =>
        have := ih (k + 1) j hj'
        simp only [if_true]
        rw [show (f k y :: go sl f (k + 1) T)[j + 1]! = (go sl f (k + 1) T)[j]! from by simp, this]
        rw [show (y :: T)[j + 1]! = T[j]! from by simp]
        simp [List.take_succ_cons, List.countP_cons, hy, Nat.add_assoc, Nat.add_comm 1]
      | false =>
        have := ih k j hj'
        simp only [Bool.false_eq_true, if_false]
        rw [show (y :: go sl f k T)[j + 1]! = (go sl f k T)[j]! from by simp, this]
        rw [show (y :: T)[j + 1]! = T[j]! from by simp]
        simp [List.take_succ_cons, List.countP_cons, hy]
theorem fillN_at (ow : Nat) (T : List Page) (f k j : Nat) (hj : j < T.length) : (fillN ow T f k)[j]! = if f ≤ j ∧ j < f + k then stg ow else T[j]! := by
  induction k with
  | zero => rw [if_neg (by omega)]; rfl
  | succ k ih =>
    unfold fillN
    rw [set_bang _ _ _ _ (by rw [fillN_length]; exact hj), ih]
    by_cases e : j = f + k
    · rw [if_pos e, if_pos (by omega)]
    · rw [if_neg e]
      by_cases h : f ≤ j ∧ j < f + k
      · rw [if_pos h, if_pos (by omega)]
      · rw [if_neg h, if_neg (by omega)]
/-- The pages of an owner stand one behind the other, all in one state; those that run stand ahead. -/
def Runs (T : List Page) : Prop := ∀ i k, i < k → k < T.length → T[i]!.s ≠ 0 → T[k]!.s ≠ 0 → T[i]!.ow = T[k]!.ow →
  T[k]!.s = T[i]!.s ∧ T[k]!.ep = T[i]!.ep ∧ (T[k]!.x = true → T[i]!.x = true) ∧ T[i + 1]!.s ≠ 0 ∧ T[i + 1]!.ow = T[i]!.ow
theorem runs_new (n : Nat) : Runs (List.replicate n nz) := by
  intro i k hik hk h1 h2 h3
  exfalso; apply h1
  have : i < n := by simp at hk; omega
  simp [List.getElem!_eq_getElem?_getD, this, nz]
theorem any_mem {T : List Page} {p : Page → Bool} (h : T.any p = false) {j : Nat} (hj : j < T.length) : p T[j]! = false := by
  rw [List.any_eq_false] at h
  have := h T[j]! (by simp [hj])
  simpa using this
theorem any_mid {T : List Page} {p : Page → Bool} {f m : Nat} (h : ((T.drop f).take m).any p = false) {j : Nat} (hj : j < T.length) (h1 : f ≤ j) (h2 : j < f + m) : p T[j]! = false := by
  rw [List.any_eq_false] at h
  have := h T[j]! (by
    rw [List.mem_take_iff_getElem]
    refine ⟨j - f, by simp; omega, ?_⟩
    simp only [List.getElem_drop]
    have e : f + (j - f) = j := by omega
    simp [hj, e])
  simpa using this
theorem runs_stage (T : List Page) (fr n : Int) (ow : Nat) (h : Runs T) : Runs (stageM T fr n ow).1 := by
  unfold stageM
  split
  · exact h
  · split
    · exact h
    · split
      · exact h
      · rename_i h1 h2 h3
        simp only [Bool.or_eq_true, not_or, Bool.not_eq_true] at h3
        obtain ⟨hm, ht⟩ := h3
        obtain ⟨f, rfl⟩ : ∃ f : Nat, fr = (f : Int) := ⟨fr.toNat, by omega⟩
        obtain ⟨m, rfl⟩ : ∃ m : Nat, n = (m : Int) := ⟨n.toNat, by omega⟩
        simp only [Int.toNat_natCast] at hm ht ⊢
        intro i k hik hk
        rw [fillN_length] at hk
        have free : ∀ j, j < T.length → f ≤ j → j < f + m → T[j]!.s = 0 := fun j hj a b => by
          have := any_mid ht hj a b
          unfold takenB at this
          simpa using this
        have other : ∀ j, j < T.length → T[j]!.s ≠ 0 → T[j]!.ow ≠ ow := fun j hj a b => by
          have := any_mem hm hj
          unfold mineB at this
          generalize T[j]! = y at this a b
          have h2 : (y.s != 0) = true := by simpa using a
          rw [h2, b] at this
          simp at this
        rw [fillN_at _ _ _ _ _ (by omega : i < T.length), fillN_at _ _ _ _ _ hk, fillN_at _ _ _ _ _ (by omega : i + 1 < T.length)]
        by_cases hi : f ≤ i ∧ i < f + m
        · rw [if_pos hi]
          by_cases hk2 : f ≤ k ∧ k < f + m
          · rw [if_pos hk2, if_pos (by omega)]
            intro _ _ _
            exact ⟨rfl, rfl, fun h => h, (by decide : ¬ (1 : Nat) = 0), rfl⟩
          · rw [if_neg hk2]
            intro _ h2 h3
            exact absurd h3.symm (other k hk h2)
        · rw [if_neg hi]
          by_cases hk2 : f ≤ k ∧ k < f + m
          · rw [if_pos hk2]
            intro h1 _ h3
            exact absurd h3 (other i (by omega) h1)
          · rw [if_neg hk2]
            intro h1 h2 h3
            obtain ⟨a, b, c, d, e⟩ := h i k hik hk h1 h2 h3
            have hn : ¬ (f ≤ i + 1 ∧ i + 1 < f + m) := fun hh => d (free _ (by omega) hh.1 hh.2)
            rw [if_neg hn]
            exact ⟨a, b, c, d, e⟩
theorem count_le (sl : Page → Bool) (T : List Page) (i k : Nat) (h : i ≤ k) : (T.take i).countP sl ≤ (T.take k).countP sl := by
  have e : T.take i = (T.take k).take i := by rw [List.take_take]; congr 1; omega
  rw [e]
  exact (List.take_sublist _ _).countP_le
/-- All pages of an owner in one state are turned alike. -/
theorem runs_go (T : List Page) (ow : Nat) (inp : Nat → Bool) (f : Nat → Page → Page) (h : Runs T) (hs : ∀ n p, (f n p).s ≠ 0 → (f n p).ow = p.ow)
    (hall : ∀ n m p q, (f n p).s = (f m q).s) (hne : ∀ n p, (f n p).s = 0 ∨ ((f n p).s ≠ 0))
    (hep : ∀ n m p q, p.ep = q.ep → (f n p).ep = (f m q).ep) (hx : ∀ n m p q, n ≤ m → (q.x = true → p.x = true) → (f m q).x = true → (f n p).x = true) : Runs (go (sel ow inp) f 0 T) := by
  intro i k hik hk
  rw [go_length] at hk
  rw [go_at _ _ _ _ _ (by omega : i < T.length), go_at _ _ _ _ _ hk, go_at _ _ _ _ _ (by omega : i + 1 < T.length)]
  have selD : ∀ p, sel ow inp p = true ↔ p.ow = ow ∧ p.s ≠ 0 ∧ inp p.s = true := by
    intro p; unfold sel; simp
  cases hi : sel ow inp T[i]! with
  | true =>
    obtain ⟨a1, a2, a3⟩ := (selD _).1 hi
    cases hk2 : sel ow inp T[k]! with
    | true =>
      obtain ⟨b1, b2, b3⟩ := (selD _).1 hk2
      obtain ⟨r1, r2, r3, r4, r5⟩ := h i k hik hk a2 b2 (by rw [a1, b1])
      simp only [if_true]
      intro h1 h2 h3
      have hn : sel ow inp T[i + 1]! = true := by
        rw [selD]
        refine ⟨by rw [r5, a1], r4, ?_⟩
        by_cases e : i + 1 = k
        · rw [e]; exact b3
        · obtain ⟨q1, _⟩ := h i (i + 1) (by omega) (by omega) a2 r4 r5.symm
          rw [q1]; exact a3
      rw [hn]
      simp only [if_true]
      refine ⟨hall _ _ _ _, hep _ _ _ _ r2, hx _ _ _ _ (by have := count_le (sel ow inp) T i k (by omega); omega) r3, ?_, ?_⟩
      · rw [hall _ (0 + (T.take i).countP (sel ow inp)) _ T[i]!]; exact h1
      · have hs1 : (f (0 + (T.take (i + 1)).countP (sel ow inp)) T[i + 1]!).s ≠ 0 := by rw [hall _ (0 + (T.take i).countP (sel ow inp)) _ T[i]!]; exact h1
        rw [hs _ _ hs1, hs _ _ h1, r5]
    | false =>
      simp only [if_true, Bool.false_eq_true, if_false]
      intro h1 h2 h3
      exfalso
      have e : T[i]!.ow = T[k]!.ow := by rw [← hs _ _ h1]; exact h3
      obtain ⟨r1, _⟩ := h i k hik hk a2 h2 e
      have : sel ow inp T[k]! = true := (selD _).2 ⟨by rw [← e, a1], h2, by rw [r1]; exact a3⟩
      rw [this] at hk2; cases hk2
  | false =>
    cases hk2 : sel ow inp T[k]! with
    | true =>
      obtain ⟨b1, b2, b3⟩ := (selD _).1 hk2
      simp only [if_true, Bool.false_eq_true, if_false]
      intro h1 h2 h3
      exfalso
      have e : T[i]!.ow = T[k]!.ow := by rw [h3]; exact hs _ _ h2
      obtain ⟨r1, _⟩ := h i k hik hk h1 b2 e
      have : sel ow inp T[i]! = true := (selD _).2 ⟨by rw [e, b1], h1, by rw [← r1]; exact b3⟩
      rw [this] at hi; cases hi
    | false =>
      simp only [Bool.false_eq_true, if_false]
      intro h1 h2 h3
      obtain ⟨r1, r2, r3, r4, r5⟩ := h i k hik hk h1 h2 h3
      have hn : sel ow inp T[i + 1]! = false := by
        cases hq : sel ow inp T[i + 1]! with
        | false => rfl
        | true =>
          exfalso
          obtain ⟨c1, c2, c3⟩ := (selD _).1 hq
          obtain ⟨q1, _⟩ := h i (i + 1) (by omega) (by omega) h1 r4 r5.symm
          have : sel ow inp T[i]! = true := (selD _).2 ⟨by rw [← r5, c1], h1, by rw [← q1]; exact c3⟩
          rw [this] at hi; cases hi
      rw [hn]
      simp only [Bool.false_eq_true, if_false]
      exact ⟨r1, r2, r3, r4, r5⟩
theorem runs_step (T : List Page) (a : Act) (h : Runs T) : Runs (stepM T a).1 := by
  unfold stepM
  split
  · exact runs_stage _ _ _ _ h
  · split
    · unfold pubM
      split
      · exact h
      · split
        · exact h
        · refine runs_go _ _ _ _ h (fun _ _ _ => rfl) (fun _ _ _ _ => rfl) (fun _ _ => Or.inr (by decide : ¬ (2 : Nat) = 0)) (fun _ _ p q e => e) ?_
          intro n m p q hnm _ hx
          unfold pubF at hx ⊢
          simp only [decide_eq_true_eq] at hx ⊢
          omega
    · split
      · unfold retM
        split
        · exact h
        · exact runs_go _ _ _ _ h (fun _ _ _ => rfl) (fun _ _ _ _ => rfl) (fun _ _ => Or.inr (by decide : ¬ (3 : Nat) = 0)) (fun _ _ p q e => rfl) (fun _ _ p q _ hx h => hx h)
      · unfold relM
        split
        · exact h
        · exact runs_go _ _ _ _ h (fun _ _ h => absurd rfl h) (fun _ _ _ _ => rfl) (fun _ _ => Or.inl rfl) (fun _ _ p q e => rfl) (fun _ _ p q _ hx h => by cases h)
end Go.Proofs.Ytjjcmclnjeplkaa.PM
