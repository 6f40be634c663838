/- How long the stack of a hart that comes in may be. No condition. -/
import Derived.Test.YthnbdeibjbicpaaOpenH
import Derived.SizedLaws
set_option linter.unusedVariables false
set_option linter.unusedSimpArgs false
namespace Go.Proofs.Ythnbdeibjbicpaa.Frame
theorem hart_len {H : Type} {ts : List TypeId} {ds : List (DataW H)} (h : (DataW.weightsEach Try.prog ts ds).all (· ≤ reachBytes) = true) {j : Nat} {d : DataW H} {S : List Nat} (ht : ts[j]? = some 28) (hd : ds[j]? = some d)
    (hw : S.length = 0 ∨ ∃ n ∈ DataW.weights Try.prog 28 d, 4 * S.length ≤ n) : S.length < 35184372088832 := by
  rcases hw with e | ⟨n, hn, hl⟩
  · omega
  · have h1 := List.all_eq_true.1 h _ (DataW.weights_mem_each ht hd n hn)
    have h2 := reachBytes_lt
    simp only [decide_eq_true_eq] at h1
    omega
end Go.Proofs.Ythnbdeibjbicpaa.Frame
