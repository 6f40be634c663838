/- Registers compared; the contract of hart's Same. Conditions: the stacks' cells. -/
import Derived.Test.YthnbdeibjbicpaaGreatKHartC
import Derived.Laws.StructEq
import Derived.ChangeKeysEq
namespace Go.Proofs.YthnbdeibjbicpaaGreat.PM
set_option linter.unusedVariables false
set_option linter.unusedSimpArgs false
open Go.RowKit
def eqR (x y : Nat → Nat) : Bool := (x 0 == y 0) && (x 1 == y 1) && (x 2 == y 2) && (x 3 == y 3) && (x 4 == y 4) && (x 5 == y 5) && (x 6 == y 6) && (x 7 == y 7)
theorem eq8 (w : World) (x y : Nat → Nat) : (Op.equalIn 10000 26 (.agg #[.int .u32 (x 0 : Int), .int .u32 (x 1 : Int), .int .u32 (x 2 : Int), .int .u32 (x 3 : Int), .int .u32 (x 4 : Int), .int .u32 (x 5 : Int), .int .u32 (x 6 : Int), .int .u32 (x 7 : Int)]) (.agg #[.int .u32 (y 0 : Int), .int .u32 (y 1 : Int), .int .u32 (y 2 : Int), .int .u32 (y 3 : Int), .int .u32 (y 4 : Int), .int .u32 (y 5 : Int), .int .u32 (y 6 : Int), .int .u32 (y 7 : Int)])).run Tryz.prog w = .ok (eqR x y) w := by
  obtain ⟨i, hi⟩ : ∃ i, Tryz.prog.info? 23 = some i := Option.isSome_iff_exists.1 (by kernel_rfl)
  have hc : Tryz.prog.cellsOf 23 = 1 := by kernel_rfl
  have ni : ∀ k : Nat, x k ≠ y k → ¬ (x k : Int) = (y k : Int) := fun k h e => h (by omega)
  rw [show (10000 : Nat) = 9999 + 1 from rfl, run_equalIn_array w 9999 _ _ Tryz.underlying26 hi, hc]
  by_cases h0 : x 0 = y 0
  rotate_left
  · rw [show eqR x y = false from by simp [eqR, h0]]
    have n0 := ni 0 h0
    simp [Op.eqItems, List.range, List.range.loop, go_sem, Tryz.underlying23, n0, h0]
  by_cases h1 : x 1 = y 1
  rotate_left
  · rw [show eqR x y = false from by simp [eqR, h1]]
    have n1 := ni 1 h1
    simp [Op.eqItems, List.range, List.range.loop, go_sem, Tryz.underlying23, h0, n1, h1]
  by_cases h2 : x 2 = y 2
  rotate_left
  · rw [show eqR x y = false from by simp [eqR, h2]]
    have n2 := ni 2 h2
    simp [Op.eqItems, List.range, List.range.loop, go_sem, Tryz.underlying23, h0, h1, n2, h2]
  by_cases h3 : x 3 = y 3
  rotate_left
  · rw [show eqR x y = false from by simp [eqR, h3]]
    have n3 := ni 3 h3
    simp [Op.eqItems, List.range, List.range.loop, go_sem, Tryz.underlying23, h0, h1, h2, n3, h3]
  by_cases h4 : x 4 = y 4
  rotate_left
  · rw [show eqR x y = false from by simp [eqR, h4]]
    have n4 := ni 4 h4
    simp [Op.eqItems, List.range, List.range.loop, go_sem, Tryz.underlying23, h0, h1, h2, h3, n4, h4]
  by_cases h5 : x 5 = y 5
  rotate_left
  · rw [show eqR x y = false from by simp [eqR, h5]]
    have n5 := ni 5 h5
    simp [Op.eqItems, List.range, List.range.loop, go_sem, Tryz.underlying23, h0, h1, h2, h3, h4, n5, h5]
  by_cases h6 : x 6 = y 6
  rotate_left
  · rw [show eqR x y = false from by simp [eqR, h6]]
    have n6 := ni 6 h6
    simp [Op.eqItems, List.range, List.range.loop, go_sem, Tryz.underlying23, h0, h1, h2, h3, h4, h5, n6, h6]
  by_cases h7 : x 7 = y 7
  rotate_left
  · rw [show eqR x y = false from by simp [eqR, h7]]
    have n7 := ni 7 h7
    simp [Op.eqItems, List.range, List.range.loop, go_sem, Tryz.underlying23, h0, h1, h2, h3, h4, h5, h6, n7, h7]
  rw [show eqR x y = true from by simp [eqR, h0, h1, h2, h3, h4, h5, h6, h7]]
  simp [Op.eqItems, List.range, List.range.loop, go_sem, Tryz.underlying23, h0, h1, h2, h3, h4, h5, h6, h7]
/-- Are two harts one? -/
def sameH (p1 : Nat) (R1 : Nat → Nat) (S1 : List Nat) (y1 e1 m1 : Nat) (p2 : Nat) (R2 : Nat → Nat) (S2 : List Nat) (y2 e2 m2 : Nat) : Bool :=
  ((p1 : Int) == (p2 : Int)) && eqR R1 R2 && ((y1 : Int) == (y2 : Int)) && ((e1 : Int) == (e2 : Int)) && ((m1 : Int) == (m2 : Int)) && decide (S1 = S2)
set_option maxRecDepth 100000 in
set_option maxHeartbeats 8000000 in
theorem same_h (w : World) (p1 : Nat) (R1 : Nat → Nat) (S1 : List Nat) (y1 e1 m1 : Nat) (p2 : Nat) (R2 : Nat → Nat) (S2 : List Nat) (y2 e2 m2 : Nat) (s1 s2 : Option Addr) (c1 c2 : Nat) (h1 : Stk w s1 S1) (h2 : Stk w s2 S2) (hn : S1.length < 35184372088832) :
    Calls Tryz.prog 51 #[hv p1 R1 (.slice s1 S1.length c1) y1 e1 m1, hv p2 R2 (.slice s2 S2.length c2) y2 e2 m2] w fun e w' => e = .returned (.bool (sameH p1 R1 S1 y1 e1 m1 p2 R2 S2 y2 e2 m2)) ∧ Below w.heap.size w w' := by
  have HE := fun W => eq8 W R1 R2
  have EC : Hid (∀ A B, Calls Tryz.prog 91 #[.slice s1 S1.length c1, .slice s2 S2.length c2] ((w.alloc A).alloc B) fun e w' => e = .returned (.bool (decide (S1 = S2))) ∧ Below ((w.alloc A).alloc B).heap.size ((w.alloc A).alloc B) w') := Lib.hid fun A B =>
    equal_c _ s1 c1 S1 s2 c2 S2 ((h1.kept ((Below.refl _ w).alloc (Nat.le_refl _) _)).kept ((Below.refl _ _).alloc (Nat.le_refl _) _)) ((h2.kept ((Below.refl _ w).alloc (Nat.le_refl _) _)).kept ((Below.refl _ _).alloc (Nat.le_refl _) _)) hn
  have B2 : Hid (∀ A B, Below w.heap.size w ((w.alloc A).alloc B)) := Lib.hid fun A B => ((Below.refl _ w).alloc (Nat.le_refl _) _).alloc (by simp) _
  unfold sameH hv
  clear h1 h2
  generalize decide (S1 = S2) = q6 at EC ⊢
  generalize eqR R1 R2 = q2 at HE ⊢
  cases k1 : ((p1 : Int) == (p2 : Int))
  · skip
    go_enter Tryz.func51, Tryz.ntmps51
    go_wp2_with fail
    go_ret
    exact ⟨rfl, B2.out _ _⟩
  cases q2
  · go_enter Tryz.func51, Tryz.ntmps51
    go_wp2_with fail
    go_ret
    exact ⟨rfl, B2.out _ _⟩
  cases k3 : ((y1 : Int) == (y2 : Int))
  · skip
    go_enter Tryz.func51, Tryz.ntmps51
    go_wp2_with fail
    go_ret
    exact ⟨rfl, B2.out _ _⟩
  cases k4 : ((e1 : Int) == (e2 : Int))
  · skip
    go_enter Tryz.func51, Tryz.ntmps51
    go_wp2_with fail
    go_ret
    exact ⟨rfl, B2.out _ _⟩
  cases k5 : ((m1 : Int) == (m2 : Int))
  · skip
    go_enter Tryz.func51, Tryz.ntmps51
    go_wp2_with fail
    go_ret
    exact ⟨rfl, B2.out _ _⟩
  go_enter Tryz.func51, Tryz.ntmps51
  go_wp2_with fail
  refine (EC.out _ _).mono ?_
  rintro e w1 ⟨rfl, hb⟩
  have F := Lib.hid ((B2.out _ _).trans (hb.mono (B2.out _ _).size))
  clear hb
  go_wp2_with fail
  go_ret
  exact ⟨rfl, F.out⟩
end Go.Proofs.YthnbdeibjbicpaaGreat.PM
