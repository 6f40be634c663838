/- Words on stacks and harts for law09. No condition. -/
import Derived.Test.YthnbdeibjbicpaaGreatHartG
import Derived.Test.YthnbdeibjbicpaaGreatLawD1
namespace Go.Proofs.YthnbdeibjbicpaaGreat.PM
set_option linter.unusedVariables false
set_option linter.unusedSimpArgs false
open Go.RowKit
theorem Own.stk {w : World} {base : Nat} {src : Option Addr} {cap : Nat} {S : List Nat} (o : Own w base (.slice src S.length cap) S) : Stk w src S := fun i hi => by
  obtain ⟨g, c, e, _⟩ := o.form_pos (by omega)
  injection e with e1 e2 e3
  subst e1 e3
  exact ⟨g, 0, rfl, (o.lt g rfl).2, by rw [Nat.zero_add]; exact o.cell i hi⟩
/-- The block of a stack of the call's own; where it has none, one that is not there. -/
theorem Own.seat {w : World} {base : Nat} {src : Option Addr} {cap : Nat} {S : List Nat} (o : Own w base (.slice src S.length cap) S) (hb : base ≤ w.heap.size) :
    ∃ g, base ≤ g ∧ (0 < S.length → src = some ⟨g, 0, none⟩ ∧ S.length ≤ cap ∧ g < w.heap.size ∧ Wds w g S) ∧ (S.length = 0 → g = w.heap.size) := by
  rcases Nat.eq_zero_or_pos S.length with h0 | hp
  · exact ⟨w.heap.size, hb, fun h => by omega, fun _ => rfl⟩
  · obtain ⟨g, c, e, _⟩ := o.form_pos hp
    obtain ⟨g2, c2, e2, hbg, hw, hc⟩ := Wds.own4 o (by rw [e]; intro q; injection q with q; cases q)
    injection e2 with q1 q2 q3
    subst q1 q3
    exact ⟨g2, hbg, fun _ => ⟨rfl, hc, hw.lt, hw⟩, fun h => by omega⟩
theorem Stk.below {w w' : World} {B : Nat} {src : Option Addr} {S : List Nat} (h : Stk w src S) (hb : Below w.heap.size w w') : Stk w' src S := h.kept hb
theorem Stk.upd {w w' : World} {g : Nat} {src : Option Addr} {S : List Nat} (h : Stk w src S) (u : Upd g w w') (hne : ∀ b q, src = some ⟨b, q, none⟩ → b ≠ g) : Stk w' src S := fun i hi => by
  obtain ⟨b, q, e, hl, hc⟩ := h i hi
  exact ⟨b, q, e, Nat.lt_of_lt_of_le hl u.size, (u.cell (p := ⟨b, q + i, none⟩) hl (hne b q e)).trans hc⟩
theorem Stk.nil {w : World} {src : Option Addr} : Stk w src [] := fun i hi => by cases hi
theorem eqR_refl (R : Nat → Nat) : eqR R R = true := by unfold eqR; simp
theorem sameH_refl (p : Nat) (R : Nat → Nat) (S : List Nat) (y e m : Nat) : sameH p R S y e m p R S y e m = true := by
  unfold sameH
  rw [eqR_refl]
  simp
theorem Wds.bump {w : World} {g : Nat} {S : List Nat} {n : Nat} (h : Wds w g S) (hl : S.length = n) {i : Nat} (hi : i < n) (x : Nat) : ∃ S' : List Nat, S'.length = n ∧ Wds (w.setCell ⟨g, i, none⟩ (.int .u32 (x : Int))) g S' := by
  subst hl
  exact ⟨S.set i x, by simp, h.set hi x⟩
end Go.Proofs.YthnbdeibjbicpaaGreat.PM
