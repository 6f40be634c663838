/- Contracts of page.Reads, Runs, Writes and of the reference's. Conditions: none. -/
import Derived.Test.YthnbdeibjbicpaaGreatKBase
import Derived.Laws.StructEq
set_option linter.unusedSimpArgs false
namespace Go.Proofs.YthnbdeibjbicpaaGreat.P1
set_option linter.unusedVariables false
open Go.RowKit
abbrev pg (s : Nat) (x wr : Bool) (ow ep : Nat) : Value := .agg #[.int .u8 (s : Int), .bool x, .bool wr, .int .u16 (ow : Int), .int .u64 (ep : Int)]
/-- The cells of a box of five stay behind a call that only makes memory. -/
theorem box5 {w w' : World} {v0 v1 v2 v3 v4 : Value} {t : Nat} (hb : Below (w.alloc (.cells #[v0, v1, v2, v3, v4] t)).heap.size (w.alloc (.cells #[v0, v1, v2, v3, v4] t)) w') :
    w'.cell? ⟨w.heap.size, 0, none⟩ = some v0 ∧ w'.cell? ⟨w.heap.size, 1, none⟩ = some v1 ∧ w'.cell? ⟨w.heap.size, 2, none⟩ = some v2 ∧ w'.cell? ⟨w.heap.size, 3, none⟩ = some v3 ∧ w'.cell? ⟨w.heap.size, 4, none⟩ = some v4 := ((Blk.new w t #[v0, v1, v2, v3, v4]).kept hb).five
def eqP (s : Int) (x wr : Bool) (ow ep : Int) (s' : Int) (x' wr' : Bool) (ow' ep' : Int) : Bool := s == s' && (x == x' && (wr == wr' && (ow == ow' && ep == ep')))
theorem eqPg (w : World) (s : Int) (x wr : Bool) (ow ep : Int) (s' : Int) (x' wr' : Bool) (ow' ep' : Int) : (Op.equalIn 10000 109 (.agg #[.int .u8 s, .bool x, .bool wr, .int .u16 ow, .int .u64 ep]) (.agg #[.int .u8 s', .bool x', .bool wr', .int .u16 ow', .int .u64 ep'])).run Tryz.prog w = .ok (eqP s x wr ow ep s' x' wr' ow' ep') w := by
  unfold eqP
  cases h0 : (s == s') <;> cases h1 : (x == x') <;> cases h2 : (wr == wr') <;> cases h3 : (ow == ow') <;> cases h4 : (ep == ep') <;> simp [Op.eqFields, go_sem, *]
/-- May it be seen? -/
def see (s e ep : Nat) : Bool := s == 2 || (s == 3 && decide (e < ep))
theorem see_eq (s e ep : Nat) : see s e ep = (((s : Int) == 2) || (((s : Int) == 3) && decide (e < ep))) := by
  unfold see
  have h1 : ((s : Int) == 2) = (s == 2) := by rw [Bool.eq_iff_iff]; simp; omega
  have h2 : ((s : Int) == 3) = (s == 3) := by rw [Bool.eq_iff_iff]; simp; omega
  rw [h1, h2]
set_option maxHeartbeats 4000000 in
theorem reads_c (s : Nat) (x wr : Bool) (ow ep e : Nat) (w : World) :
    Calls Tryz.prog 96 #[pg s x wr ow ep, .int .u64 (e : Int)] w fun r w' => r = .returned (.bool (see s e ep)) ∧ Below w.heap.size w w' := by
  rw [see_eq]
  have hz : eqP s x wr ow ep 0 false false 0 0 = true → ((s : Int) == 2) = false ∧ ((s : Int) == 3) = false := by
    intro h
    unfold eqP at h
    simp only [Bool.and_eq_true, beq_iff_eq] at h
    obtain ⟨h, _⟩ := h
    rw [h]; decide
  have HE := fun W => eqPg W s x wr ow ep 0 false false 0 0
  generalize eqP s x wr ow ep 0 false false 0 0 = t at hz HE
  cases q2 : ((s : Int) == 2) <;> cases q3 : ((s : Int) == 3) <;> cases ql : decide (e < ep) <;> cases t
  all_goals first
    | (exfalso; rw [q2, q3] at hz; simp at hz; done)
    | (clear hz
       go_enter Tryz.func96, Tryz.ntmps96
       go_wp2_with fail
       go_ret
       exact ⟨rfl, (Below.refl _ _).alloc (Nat.le_refl _) _⟩)
set_option maxHeartbeats 4000000 in
theorem seen_c (s : Nat) (x wr : Bool) (ow ep e : Nat) (w : World) :
    Calls Tryz.prog 103 #[pg s x wr ow ep, .int .u64 (e : Int)] w fun r w' => r = .returned (.bool (see s e ep)) ∧ Below w.heap.size w w' := by
  rw [see_eq]
  cases q2 : ((s : Int) == 2) <;> cases q3 : ((s : Int) == 3) <;> cases ql : decide (e < ep)
  all_goals
    go_enter Tryz.func103, Tryz.ntmps103
    go_wp2_with fail
    go_ret
    exact ⟨rfl, (Below.refl _ _).alloc (Nat.le_refl _) _⟩
theorem rreads_c (s : Nat) (x wr : Bool) (ow ep e : Nat) (w : World) :
    Calls Tryz.prog 89 #[pg s x wr ow ep, .int .u64 (e : Int)] w fun r w' => r = .returned (.bool (see s e ep)) ∧ Below w.heap.size w w' := by
  have H1 := Lib.hid (fun W => seen_c s x wr ow ep e W)
  generalize see s e ep = b at H1 ⊢
  go_enter Tryz.func89, Tryz.ntmps89
  go_wp2_with fail
  refine (H1.out _).mono ?_
  rintro e w1 ⟨rfl, hb1⟩
  go_wp2_with fail
  go_ret
  exact ⟨rfl, ((Below.refl _ _).alloc (Nat.le_refl _) _).trans (hb1.mono (by simp))⟩
theorem runs_c (s : Nat) (x wr : Bool) (ow ep e : Nat) (w : World) :
    Calls Tryz.prog 73 #[pg s x wr ow ep, .int .u64 (e : Int)] w fun r w' => r = .returned (.bool (x && see s e ep)) ∧ Below w.heap.size w w' := by
  have H1 := Lib.hid (fun W => reads_c s x wr ow ep e W)
  generalize see s e ep = b at H1 ⊢
  cases x with
  | true =>
    go_enter Tryz.func73, Tryz.ntmps73
    go_wp2_with fail
    refine (H1.out _).mono ?_
    rintro e w1 ⟨rfl, hb1⟩
    go_wp2_with fail
    go_ret
    exact ⟨rfl, ((Below.refl _ _).alloc (Nat.le_refl _) _).trans (hb1.mono (by simp))⟩
  | false =>
    go_enter Tryz.func73, Tryz.ntmps73
    go_wp2_with fail
    go_ret
    exact ⟨rfl, (Below.refl _ _).alloc (Nat.le_refl _) _⟩
theorem rruns_c (s : Nat) (x wr : Bool) (ow ep e : Nat) (w : World) :
    Calls Tryz.prog 83 #[pg s x wr ow ep, .int .u64 (e : Int)] w fun r w' => r = .returned (.bool (x && see s e ep)) ∧ Below w.heap.size w w' := by
  have H1 := Lib.hid (fun W => seen_c s x wr ow ep e W)
  generalize see s e ep = b at H1 ⊢
  cases b <;> cases x
  all_goals
    go_enter Tryz.func83, Tryz.ntmps83
    go_wp2_with fail
    refine (H1.out _).mono ?_
    rintro e w1 ⟨rfl, hb1⟩
    obtain ⟨c0, c1, c2, c3, c4⟩ := box5 hb1
    go_wp2_with fail
    go_ret
    exact ⟨rfl, ((Below.refl _ _).alloc (Nat.le_refl _) _).trans (hb1.mono (by simp))⟩
theorem writes_c (s : Nat) (x wr : Bool) (ow ep e o : Nat) (w : World) :
    Calls Tryz.prog 102 #[pg s x wr ow ep, .int .u64 (e : Int), .int .u16 (o : Int)] w fun r w' => r = .returned (.bool (wr && ((o : Int) != 0) && ((ow : Int) == (o : Int)) && see s e ep)) ∧ Below w.heap.size w w' := by
  have H1 := Lib.hid (fun W => reads_c s x wr ow ep e W)
  generalize see s e ep = b at H1 ⊢
  cases hz : ((o : Int) != 0) <;> cases ho : ((ow : Int) == (o : Int)) <;> cases wr
  case true.true.true =>
    go_enter Tryz.func102, Tryz.ntmps102
    go_wp2_with fail
    refine (H1.out _).mono ?_
    rintro e w1 ⟨rfl, hb1⟩
    go_wp2_with fail
    go_ret
    exact ⟨rfl, ((Below.refl _ _).alloc (Nat.le_refl _) _).trans (hb1.mono (by simp))⟩
  all_goals
    go_enter Tryz.func102, Tryz.ntmps102
    go_wp2_with fail
    go_ret
    exact ⟨rfl, (Below.refl _ _).alloc (Nat.le_refl _) _⟩
theorem rwrites_c (s : Nat) (x wr : Bool) (ow ep e o : Nat) (w : World) :
    Calls Tryz.prog 90 #[pg s x wr ow ep, .int .u64 (e : Int), .int .u16 (o : Int)] w fun r w' => r = .returned (.bool (wr && ((o : Int) != 0) && ((ow : Int) == (o : Int)) && see s e ep)) ∧ Below w.heap.size w w' := by
  have H1 := Lib.hid (fun W => seen_c s x wr ow ep e W)
  generalize see s e ep = b at H1 ⊢
  cases hz : ((o : Int) != 0) <;> cases ho : ((ow : Int) == (o : Int)) <;> cases wr <;> cases b
  all_goals
    go_enter Tryz.func90, Tryz.ntmps90
    go_wp2_with fail
    refine (H1.out _).mono ?_
    rintro e w1 ⟨rfl, hb1⟩
    obtain ⟨c0, c1, c2, c3, c4⟩ := box5 hb1
    go_wp2_with fail
    go_ret
    exact ⟨rfl, ((Below.refl _ _).alloc (Nat.le_refl _) _).trans (hb1.mono (by simp))⟩
end Go.Proofs.YthnbdeibjbicpaaGreat.P1
