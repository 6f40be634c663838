/- Pages as plain lists: what the calls of a table make of them. No program in sight. No condition. -/
import Derived.Test.YthnbdeibjbicpaaBase
set_option linter.unusedSimpArgs false
namespace Go.Proofs.Ythnbdeibjbicpaa.PM
set_option linter.unusedVariables false
structure Page where
  s : Nat
  x : Bool
  wr : Bool
  ow : Nat
  ep : Nat
/-- The free page. -/
def nz : Page := ⟨0, false, false, 0, 0⟩
instance : Inhabited Page := ⟨nz⟩
theorem default_nz : (default : Page) = nz := rfl
/-- A page's five cells. -/
def Page.c (p : Page) : List Value := [.int .u8 (p.s : Int), .bool p.x, .bool p.wr, .int .u16 (p.ow : Int), .int .u64 (p.ep : Int)]
/-- A page as one value. -/
def Page.v (p : Page) : Value := .agg #[.int .u8 (p.s : Int), .bool p.x, .bool p.wr, .int .u16 (p.ow : Int), .int .u64 (p.ep : Int)]
def flat (T : List Page) : List Value := T.flatMap Page.c
theorem flat_length (T : List Page) : (flat T).length = T.length * 5 := by
  induction T with
  | nil => rfl
  | cons p T ih => simp [flat, Page.c] at ih ⊢; omega
theorem flat_at (T : List Page) (i : Nat) (hi : i < T.length) (j : Nat) (hj : j < 5) : (flat T)[i * 5 + j]? = T[i]!.c[j]? := by
  induction T generalizing i with
  | nil => simp at hi
  | cons p T ih =>
    have hc : p.c.length = 5 := rfl
    cases i with
    | zero =>
      show (p.c ++ flat T)[0 * 5 + j]? = _
      rw [List.getElem?_append_left (by omega)]
      simp
    | succ i =>
      show (p.c ++ flat T)[(i + 1) * 5 + j]? = _
      rw [List.getElem?_append_right (by omega)]
      have e : (i + 1) * 5 + j - p.c.length = i * 5 + j := by omega
      rw [e, ih i (by simpa using hi)]
      simp
/-- A page of a table. -/
def getP (T : List Page) (i : Int) : Page := if 0 ≤ i ∧ i < (T.length : Int) then T[i.toNat]! else nz
/-- Is a page an owner's, and in some state? -/
def sel (ow : Nat) (inp : Nat → Bool) (p : Page) : Bool := p.ow == ow && (p.s != 0 && inp p.s)
/-- Something is done with the pages of some kind, one behind the other. -/
def go (sl : Page → Bool) (f : Nat → Page → Page) : Nat → List Page → List Page
  | _, [] => []
  | k, p :: T => if sl p then f k p :: go sl f (k + 1) T else p :: go sl f k T
section
variable (sl : Page → Bool) (f : Nat → Page → Page)
theorem go_length (k : Nat) (T : List Page) : (go sl f k T).length = T.length := by
  induction T generalizing k with
  | nil => rfl
  | cons p T ih => unfold go; split <;> simp [ih]
theorem go_append (k : Nat) (A B : List Page) : go sl f k (A ++ B) = go sl f k A ++ go sl f (k + A.countP sl) B := by
  induction A generalizing k with
  | nil => simp [go]
  | cons p A ih =>
    cases h : sl p with
    | true => simp [go, h, ih, Nat.add_assoc, Nat.add_comm 1]
    | false => simp [go, h, ih]
/-- The table in the midst of the work. -/
def mid (T : List Page) (i : Nat) : List Page := go sl f 0 (T.take i) ++ T.drop i
theorem mid_zero (T : List Page) : mid sl f T 0 = T := by simp [mid, go]
theorem mid_full (T : List Page) : mid sl f T T.length = go sl f 0 T := by simp [mid]
theorem mid_length (T : List Page) (i : Nat) : (mid sl f T i).length = T.length := by simp [mid, go_length]; omega
theorem mid_at (T : List Page) (i : Nat) (hi : i < T.length) : (mid sl f T i)[i]! = T[i]! := by
  have h : (go sl f 0 (T.take i)).length = i := by simp [go_length]; omega
  simp only [mid, List.getElem!_eq_getElem?_getD]
  rw [List.getElem?_append_right (by omega), h]
  simp
theorem take_succ_eq (T : List Page) (i : Nat) (hi : i < T.length) : T.take (i + 1) = T.take i ++ [T[i]!] := by
  rw [List.take_add_one, List.getElem?_eq_getElem hi]
  simp [hi]
theorem drop_eq_bang (T : List Page) (i : Nat) (hi : i < T.length) : T.drop i = T[i]! :: T.drop (i + 1) := by
  rw [List.drop_eq_getElem_cons hi]; simp [hi]
theorem mid_hit (T : List Page) (i : Nat) (hi : i < T.length) (h : sl T[i]! = true) : mid sl f T (i + 1) = (mid sl f T i).set i (f ((T.take i).countP sl) T[i]!) := by
  have hl : (go sl f 0 (T.take i)).length = i := by simp [go_length]; omega
  unfold mid
  rw [List.set_append_right _ _ (by omega), hl, take_succ_eq T i hi, go_append, Nat.sub_self, drop_eq_bang T i hi, Nat.zero_add]
  generalize T[i]! = y at h ⊢
  simp [go, h]
theorem mid_miss (T : List Page) (i : Nat) (hi : i < T.length) (h : sl T[i]! = false) : mid sl f T (i + 1) = mid sl f T i := by
  unfold mid
  rw [take_succ_eq T i hi, go_append, Nat.zero_add, drop_eq_bang T i hi]
  generalize T[i]! = y at h ⊢
  simp [go, h]
theorem count_hit (T : List Page) (i : Nat) (hi : i < T.length) (h : sl T[i]! = true) : (T.take (i + 1)).countP sl = (T.take i).countP sl + 1 := by
  rw [take_succ_eq T i hi, List.countP_append]; generalize T[i]! = y at h ⊢; simp [h]
theorem count_miss (T : List Page) (i : Nat) (hi : i < T.length) (h : sl T[i]! = false) : (T.take (i + 1)).countP sl = (T.take i).countP sl := by
  rw [take_succ_eq T i hi, List.countP_append]; generalize T[i]! = y at h ⊢; simp [h]
/-- The numbers of the pages of some kind. -/
def idx : Nat → List Page → List Nat
  | _, [] => []
  | o, p :: T => if sl p then o :: idx (o + 1) T else idx (o + 1) T
theorem idx_length (o : Nat) (T : List Page) : (idx sl o T).length = T.countP sl := by
  induction T generalizing o with
  | nil => rfl
  | cons p T ih => cases h : sl p <;> simp [idx, h, ih, List.countP_cons]
theorem idx_append (o : Nat) (A B : List Page) : idx sl o (A ++ B) = idx sl o A ++ idx sl (o + A.length) B := by
  induction A generalizing o with
  | nil => simp [idx]
  | cons p A ih => cases h : sl p <;> simp [idx, h, ih, Nat.add_assoc, Nat.add_comm 1]
theorem idx_hit (T : List Page) (i : Nat) (hi : i < T.length) (h : sl T[i]! = true) : idx sl 0 (T.take (i + 1)) = idx sl 0 (T.take i) ++ [i] := by
  rw [take_succ_eq T i hi, idx_append]; generalize T[i]! = y at h ⊢; simp [idx, h]; omega
theorem idx_miss (T : List Page) (i : Nat) (hi : i < T.length) (h : sl T[i]! = false) : idx sl 0 (T.take (i + 1)) = idx sl 0 (T.take i) := by
  rw [take_succ_eq T i hi, idx_append]; generalize T[i]! = y at h ⊢; simp [idx, h]
/-- Done with the first m of them alone. -/
def goN (m : Nat) : Nat → List Page → List Page := go sl (fun k p => if k < m then f k p else p)
theorem goN_length (m k : Nat) (T : List Page) : (goN sl f m k T).length = T.length := go_length _ _ _ _
theorem goN_low (m k : Nat) (hm : m ≤ k) (T : List Page) : goN sl f m k T = T := by
  unfold goN
  induction T generalizing k with
  | nil => rfl
  | cons p T ih =>
    unfold go
    rw [if_neg (show ¬ k < m by omega), ih k hm, ih (k + 1) (by omega)]
    simp
theorem goN_high (m k : Nat) (T : List Page) (hm : k + T.countP sl ≤ m) : goN sl f m k T = go sl f k T := by
  unfold goN
  induction T generalizing k with
  | nil => rfl
  | cons p T ih =>
    unfold go
    cases h : sl p with
    | true =>
      simp [List.countP_cons, h] at hm
      rw [if_pos (show k < m by omega), ih (k + 1) (by omega)]
      simp
    | false =>
      simp [List.countP_cons, h] at hm
      simp [ih k hm]
theorem goN_step (r : Nat) (k o : Nat) (T : List Page) (hk : k ≤ r) (hr : r < k + T.countP sl) :
    ∃ j, (idx sl o T)[r - k]? = some (o + j) ∧ j < T.length ∧ sl T[j]! = true ∧ (goN sl f r k T)[j]! = T[j]! ∧ goN sl f (r + 1) k T = (goN sl f r k T).set j (f r T[j]!) := by
  induction T generalizing k o with
  | nil => simp at hr; omega
  | cons p T ih =>
    cases h : sl p with
    | true =>
      by_cases e : r = k
      · subst e
        refine ⟨0, by simp [idx, h], by simp, by simpa using h, ?_, ?_⟩
        · simp [goN, go, h]
        · show go sl _ _ _ = (go sl _ _ _).set 0 _
          simp only [go, h, if_true, List.set_cons_zero, Nat.lt_irrefl, if_false]
          have h1 := goN_low sl f (r + 1) (r + 1) (Nat.le_refl _) T
          have h2 := goN_low sl f r (r + 1) (by omega) T
          unfold goN at h1 h2
          rw [h1, h2, if_pos (by omega)]
          rfl
      · simp [List.countP_cons, h] at hr
        obtain ⟨j, h1, h2, h2b, h3, h4⟩ := ih (k + 1) (o + 1) (by omega) (by omega)
        refine ⟨j + 1, ?_, by simpa using h2, by simpa using h2b, ?_, ?_⟩
        · simp only [idx, h, if_true]
          rw [show r - k = (r - (k + 1)) + 1 by omega, List.getElem?_cons_succ, h1]
          congr 1; omega
        · simpa [goN, go, h] using h3
        · unfold goN at h4 ⊢
          simp only [go, h, if_true, List.set_cons_succ]
          rw [h4, if_pos (by omega), if_pos (by omega)]
          simp
    | false =>
      simp [List.countP_cons, h] at hr
      obtain ⟨j, h1, h2, h2b, h3, h4⟩ := ih k (o + 1) hk hr
      refine ⟨j + 1, ?_, by simpa using h2, by simpa using h2b, ?_, ?_⟩
      · simp only [idx, h]
        simp only [Bool.false_eq_true, if_false]
        rw [h1]; congr 1; omega
      · simpa [goN, go, h] using h3
      · unfold goN at h4 ⊢
        simp only [go, h, Bool.false_eq_true, if_false, List.set_cons_succ]
        rw [h4]
        simp
/-- The next of them. -/
theorem goN_next (T : List Page) (r : Nat) (hr : r < T.countP sl) :
    ∃ j, (idx sl 0 T)[r]? = some j ∧ j < T.length ∧ sl T[j]! = true ∧ (goN sl f r 0 T)[j]! = T[j]! ∧ goN sl f (r + 1) 0 T = (goN sl f r 0 T).set j (f r T[j]!) := by
  obtain ⟨j, h⟩ := goN_step sl f r 0 0 T (Nat.zero_le _) (by omega)
  refine ⟨j, by simpa using h.1, h.2⟩
end
end Go.Proofs.Ythnbdeibjbicpaa.PM
