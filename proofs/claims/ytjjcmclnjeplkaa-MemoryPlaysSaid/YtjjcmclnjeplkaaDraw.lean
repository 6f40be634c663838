/- Steps by hand through a region that draws its order, of which some operations are not wanted. -/
import Derived.Test.YtjjcmclnjeplkaaBlk
import Derived.Deep.RegionHeld3
set_option linter.unusedVariables false
set_option linter.unusedSimpArgs false
namespace Go.Proofs.Ytjjcmclnjeplkaa
section
variable {P : Program} {ops : Array Oper} {Q : Exit → Act → World → Prop} {md : Region.Mode} {S : World → Prop}
/-- An operation that is wanted and yields v in every world that meets S. -/
theorem takeY {i : Nat} {oi : Oper} {v : Value} {d : Option Tmp} {fuel : Nat} {listed l' : Array Bool} {a : Act} {w : World} (hi : ops[i]? = some oi) (hd : (ops[i]?).map (·.dst) = some d)
    (hs : Region.noSelect ops = true) (hf : Region.free md ops listed i = true) (hr : (Region.ready md ops listed).contains i = true)
    (hl : listed.setIfInBounds i true = l')
    (hQ : ∀ c a w, Q (.panic c) (a.put d v) w → Q (.panic c) a w) (hw : (ops[i]?).map (fun o => Region.wanted o (yielded ops a.tmps)) = some true)
    (hy : ∀ w, S w → (execOp a.eval oi).run P w = .ok (.value v) w) (hS : S w)
    (h : wpAnyH P md ops Q S fuel l' (a.put d v) w) : wpAnyH P md ops Q S (fuel + 1) listed a w := by
  rw [hi] at hd hw
  simp only [Option.map_some, Option.some.injEq] at hd hw
  subst hd; subst hl
  exact wpAnyH_take hi hs hf hr hQ (Or.inl ⟨hw, hy⟩) hS h
/-- An operation that is not wanted. -/
theorem takeU {i : Nat} {oi : Oper} {d : Option Tmp} {fuel : Nat} {listed l' : Array Bool} {a : Act} {w : World} (hi : ops[i]? = some oi) (hd : (ops[i]?).map (·.dst) = some d)
    (hs : Region.noSelect ops = true) (hf : Region.free md ops listed i = true) (hr : (Region.ready md ops listed).contains i = true)
    (hl : listed.setIfInBounds i true = l')
    (hQ : ∀ c a w, Q (.panic c) (a.put d undef) w → Q (.panic c) a w) (hw : (ops[i]?).map (fun o => Region.wanted o (yielded ops a.tmps)) = some false) (hS : S w)
    (h : wpAnyH P md ops Q S fuel l' (a.put d undef) w) : wpAnyH P md ops Q S (fuel + 1) listed a w := by
  rw [hi] at hd hw
  simp only [Option.map_some, Option.some.injEq] at hd hw
  subst hd; subst hl
  exact wpAnyH_take hi hs hf hr hQ (Or.inr ⟨hw, rfl⟩) hS h
end
end Go.Proofs.Ytjjcmclnjeplkaa
