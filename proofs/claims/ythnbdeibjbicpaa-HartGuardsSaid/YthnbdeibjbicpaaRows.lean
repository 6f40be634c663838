/-
  No cell of these rows narrows 'for every input' (looked for: loops, veiled, ifaces, maps, wideKeys, modest, calm, conditions, laid).
  DERIVED. THE GIVEN ROWS OF THIS SEAT. 6 by the template 'for every input the law returns true; each argument reads behind the call as it read before'; 0 by the template 'total and deterministic' (their statements: YthnbdeibjbicpaaTotals.lean).
  GIVEN WITH THE SEED: the statements are not yours to turn. If you find one false, say at which input.
  Laid BY PROGRAM, IN A SANDBOX (cutbox-rows.mjs): the forced cells as the released guide's own fill.sh prints them over the translation 3af3be54368d889d… (all of the seat's roots in one cut). By AI agents, Wed Nov 11 2026. No macro, syntax, notation, axiom, sorry.
-/
import Derived.Test.YthnbdeibjbicpaaChecked
import GoSem.Claim
import GoSem.ClaimJoined
import GoSem.ClaimMapViews
import Derived.JoinedTies
import Derived.KernelRfl
namespace Go.Proofs.Ythnbdeibjbicpaa
/- THE CELL 'sum', in the pinned program and in every row, IS THE sha256 OF THE DUMP (.gsa) THAT YthnbdeibjbicpaaProg.lean LOADS. Nothing in Lean hashes anything: it is a label: what it is worth is what the hold of that sum in a sandbox is worth. -/
noncomputable def Try.pinned : Pinned := { name := "ythnbdeibjbicpaa", sum := "3af3be54368d889db82e0cc3f13b767a8788ea96879c38d606df8f25072de057", checked := Try.checked }
namespace Rows
def none {H : Type} : Left H := { results := [], args := [] }

/-- 'budwoodlaw09.HartSames': WHATEVER THE INPUT: true; the input reads as it did. -/
def hartSamesSpec : ChangeSpec := { name := "hartSames", fn := fun _ => fun
  | [d1, d2, d3] => { results := [.lit (.bool true)], args := [d1, d2, d3] }
  | _ => none }
def hartSamesRow : OpenClaim := { program := "ythnbdeibjbicpaa", sum := "3af3be54368d889db82e0cc3f13b767a8788ea96879c38d606df8f25072de057", func := "budwood/budwoodlaw09.HartSames", spec := "hartSames", unfollowed := true, recurses := true, apart := false }
def HartSamesSaid : Prop := hartSamesRow.holds Try.pinned (OpenSpec.ofChange hartSamesSpec)

/-- ITS FALSE NEIGHBOUR: 'it returns false'. Refute it at one input. -/
def hartSamesWrong : ChangeSpec := { name := "hartSames", fn := fun _ => fun
  | [d1, d2, d3] => { results := [.lit (.bool false)], args := [d1, d2, d3] }
  | _ => none }
def HartSamesWrongFalsely : Prop := hartSamesRow.holds Try.pinned (OpenSpec.ofChange hartSamesWrong)

/-- 'budwoodlaw09.HartSums': WHATEVER THE INPUT: true; the input reads as it did. -/
def hartSumsSpec : ChangeSpec := { name := "hartSums", fn := fun _ => fun
  | [d1, d2, d3] => { results := [.lit (.bool true)], args := [d1, d2, d3] }
  | _ => none }
def hartSumsRow : OpenClaim := { program := "ythnbdeibjbicpaa", sum := "3af3be54368d889db82e0cc3f13b767a8788ea96879c38d606df8f25072de057", func := "budwood/budwoodlaw09.HartSums", spec := "hartSums", unfollowed := true, recurses := true, apart := false }
def HartSumsSaid : Prop := hartSumsRow.holds Try.pinned (OpenSpec.ofChange hartSumsSpec)

/-- ITS FALSE NEIGHBOUR: 'it returns false'. Refute it at one input. -/
def hartSumsWrong : ChangeSpec := { name := "hartSums", fn := fun _ => fun
  | [d1, d2, d3] => { results := [.lit (.bool false)], args := [d1, d2, d3] }
  | _ => none }
def HartSumsWrongFalsely : Prop := hartSumsRow.holds Try.pinned (OpenSpec.ofChange hartSumsWrong)

/-- 'budwoodlaw09.HartCalls': WHATEVER THE INPUT: true; the input reads as it did. -/
def hartCallsSpec : ChangeSpec := { name := "hartCalls", fn := fun _ => fun
  | [d1, d2] => { results := [.lit (.bool true)], args := [d1, d2] }
  | _ => none }
def hartCallsRow : OpenClaim := { program := "ythnbdeibjbicpaa", sum := "3af3be54368d889db82e0cc3f13b767a8788ea96879c38d606df8f25072de057", func := "budwood/budwoodlaw09.HartCalls", spec := "hartCalls", unfollowed := true, recurses := true, apart := false }
def HartCallsSaid : Prop := hartCallsRow.holds Try.pinned (OpenSpec.ofChange hartCallsSpec)

/-- ITS FALSE NEIGHBOUR: 'it returns false'. Refute it at one input. -/
def hartCallsWrong : ChangeSpec := { name := "hartCalls", fn := fun _ => fun
  | [d1, d2] => { results := [.lit (.bool false)], args := [d1, d2] }
  | _ => none }
def HartCallsWrongFalsely : Prop := hartCallsRow.holds Try.pinned (OpenSpec.ofChange hartCallsWrong)

/-- 'budwoodlaw09.HartBranches': WHATEVER THE INPUT: true; the input reads as it did. -/
def hartBranchesSpec : ChangeSpec := { name := "hartBranches", fn := fun _ => fun
  | [d1, d2, d3] => { results := [.lit (.bool true)], args := [d1, d2, d3] }
  | _ => none }
def hartBranchesRow : OpenClaim := { program := "ythnbdeibjbicpaa", sum := "3af3be54368d889db82e0cc3f13b767a8788ea96879c38d606df8f25072de057", func := "budwood/budwoodlaw09.HartBranches", spec := "hartBranches", unfollowed := true, recurses := true, apart := false }
def HartBranchesSaid : Prop := hartBranchesRow.holds Try.pinned (OpenSpec.ofChange hartBranchesSpec)

/-- ITS FALSE NEIGHBOUR: 'it returns false'. Refute it at one input. -/
def hartBranchesWrong : ChangeSpec := { name := "hartBranches", fn := fun _ => fun
  | [d1, d2, d3] => { results := [.lit (.bool false)], args := [d1, d2, d3] }
  | _ => none }
def HartBranchesWrongFalsely : Prop := hartBranchesRow.holds Try.pinned (OpenSpec.ofChange hartBranchesWrong)

/-- 'budwoodlaw09.HartStill': WHATEVER THE INPUT: true; the input reads as it did. -/
def hartStillSpec : ChangeSpec := { name := "hartStill", fn := fun _ => fun
  | [d1, d2, d3] => { results := [.lit (.bool true)], args := [d1, d2, d3] }
  | _ => none }
def hartStillRow : OpenClaim := { program := "ythnbdeibjbicpaa", sum := "3af3be54368d889db82e0cc3f13b767a8788ea96879c38d606df8f25072de057", func := "budwood/budwoodlaw09.HartStill", spec := "hartStill", unfollowed := true, recurses := true, apart := false }
def HartStillSaid : Prop := hartStillRow.holds Try.pinned (OpenSpec.ofChange hartStillSpec)

/-- ITS FALSE NEIGHBOUR: 'it returns false'. Refute it at one input. -/
def hartStillWrong : ChangeSpec := { name := "hartStill", fn := fun _ => fun
  | [d1, d2, d3] => { results := [.lit (.bool false)], args := [d1, d2, d3] }
  | _ => none }
def HartStillWrongFalsely : Prop := hartStillRow.holds Try.pinned (OpenSpec.ofChange hartStillWrong)

/-- 'budwoodlaw09.HartGuards': WHATEVER THE INPUT: true; the input reads as it did. -/
def hartGuardsSpec : ChangeSpec := { name := "hartGuards", fn := fun _ => fun
  | [d1, d2, d3] => { results := [.lit (.bool true)], args := [d1, d2, d3] }
  | _ => none }
def hartGuardsRow : OpenClaim := { program := "ythnbdeibjbicpaa", sum := "3af3be54368d889db82e0cc3f13b767a8788ea96879c38d606df8f25072de057", func := "budwood/budwoodlaw09.HartGuards", spec := "hartGuards", unfollowed := true, recurses := true, apart := false }
def HartGuardsSaid : Prop := hartGuardsRow.holds Try.pinned (OpenSpec.ofChange hartGuardsSpec)

/-- ITS FALSE NEIGHBOUR: 'it returns false'. Refute it at one input. -/
def hartGuardsWrong : ChangeSpec := { name := "hartGuards", fn := fun _ => fun
  | [d1, d2, d3] => { results := [.lit (.bool false)], args := [d1, d2, d3] }
  | _ => none }
def HartGuardsWrongFalsely : Prop := hartGuardsRow.holds Try.pinned (OpenSpec.ofChange hartGuardsWrong)

/- THE SECOND FORM. 'bulk': how many values and letters a reading holds, each counted each time it is reached (what is shared counts as often as it is met; a slice's spare places count too). A statement '..UptoSaid' is the law's where the arguments, and the package variables that the reading takes, are together of bulk at most 1048576: NARROWER than '..Said'. Prove '..Said' where nothing that the law and all that it calls make is longer than what came in: it says more and counts as full. Else prove '..UptoSaid'. A law counts once. -/
mutual
def uptoBulk {H : Type} : DataW H → Nat
  | .lit (.string bytes) => bytes.length + 1
  | .lit _ => 1
  | .nil => 1
  | .ptr d => uptoBulk d + 1
  | .slice elems spare => uptoBulkAll elems + uptoBulkAll spare + 1
  | .agg parts => uptoBulkAll parts + 1
  | .iface _ d => uptoBulk d + 1
  | .map entries => uptoBulkEntries entries + 1
  | .held _ => 1
def uptoBulkAll {H : Type} : List (DataW H) → Nat
  | [] => 0
  | d :: r => uptoBulk d + uptoBulkAll r
def uptoBulkEntries {H : Type} : List (Lit × DataW H) → Nat
  | [] => 0
  | x :: r => uptoBulkEntry x + uptoBulkEntries r
def uptoBulkEntry {H : Type} : Lit × DataW H → Nat
  | (.string bytes, d) => bytes.length + uptoBulk d + 1
  | (_, d) => uptoBulk d + 1
 end
def uptoSmall : (H : Type) → List (DataW H) → Bool := fun _ ds => decide (uptoBulkAll ds ≤ 1048576)
def OpenSpec.upto (s : _root_.Go.ChangeSpec) : _root_.Go.OpenSpec := { _root_.Go.OpenSpec.ofChange s with cond := some uptoSmall }

/-- 'budwoodlaw09.HartSames', WHERE WHAT IT READS IS OF BULK AT MOST 1048576: true; the input reads as it did. -/
def hartSamesUptoRow : OpenClaim := { program := "ythnbdeibjbicpaa", sum := "3af3be54368d889db82e0cc3f13b767a8788ea96879c38d606df8f25072de057", func := "budwood/budwoodlaw09.HartSames", spec := "hartSames", unfollowed := true, recurses := true, apart := false, narrowed := true }
def HartSamesUptoSaid : Prop := hartSamesUptoRow.holds Try.pinned (OpenSpec.upto hartSamesSpec)

/-- 'budwoodlaw09.HartSums', WHERE WHAT IT READS IS OF BULK AT MOST 1048576: true; the input reads as it did. -/
def hartSumsUptoRow : OpenClaim := { program := "ythnbdeibjbicpaa", sum := "3af3be54368d889db82e0cc3f13b767a8788ea96879c38d606df8f25072de057", func := "budwood/budwoodlaw09.HartSums", spec := "hartSums", unfollowed := true, recurses := true, apart := false, narrowed := true }
def HartSumsUptoSaid : Prop := hartSumsUptoRow.holds Try.pinned (OpenSpec.upto hartSumsSpec)

/-- 'budwoodlaw09.HartCalls', WHERE WHAT IT READS IS OF BULK AT MOST 1048576: true; the input reads as it did. -/
def hartCallsUptoRow : OpenClaim := { program := "ythnbdeibjbicpaa", sum := "3af3be54368d889db82e0cc3f13b767a8788ea96879c38d606df8f25072de057", func := "budwood/budwoodlaw09.HartCalls", spec := "hartCalls", unfollowed := true, recurses := true, apart := false, narrowed := true }
def HartCallsUptoSaid : Prop := hartCallsUptoRow.holds Try.pinned (OpenSpec.upto hartCallsSpec)

/-- 'budwoodlaw09.HartBranches', WHERE WHAT IT READS IS OF BULK AT MOST 1048576: true; the input reads as it did. -/
def hartBranchesUptoRow : OpenClaim := { program := "ythnbdeibjbicpaa", sum := "3af3be54368d889db82e0cc3f13b767a8788ea96879c38d606df8f25072de057", func := "budwood/budwoodlaw09.HartBranches", spec := "hartBranches", unfollowed := true, recurses := true, apart := false, narrowed := true }
def HartBranchesUptoSaid : Prop := hartBranchesUptoRow.holds Try.pinned (OpenSpec.upto hartBranchesSpec)

/-- 'budwoodlaw09.HartStill', WHERE WHAT IT READS IS OF BULK AT MOST 1048576: true; the input reads as it did. -/
def hartStillUptoRow : OpenClaim := { program := "ythnbdeibjbicpaa", sum := "3af3be54368d889db82e0cc3f13b767a8788ea96879c38d606df8f25072de057", func := "budwood/budwoodlaw09.HartStill", spec := "hartStill", unfollowed := true, recurses := true, apart := false, narrowed := true }
def HartStillUptoSaid : Prop := hartStillUptoRow.holds Try.pinned (OpenSpec.upto hartStillSpec)

/-- 'budwoodlaw09.HartGuards', WHERE WHAT IT READS IS OF BULK AT MOST 1048576: true; the input reads as it did. -/
def hartGuardsUptoRow : OpenClaim := { program := "ythnbdeibjbicpaa", sum := "3af3be54368d889db82e0cc3f13b767a8788ea96879c38d606df8f25072de057", func := "budwood/budwoodlaw09.HartGuards", spec := "hartGuards", unfollowed := true, recurses := true, apart := false, narrowed := true }
def HartGuardsUptoSaid : Prop := hartGuardsUptoRow.holds Try.pinned (OpenSpec.upto hartGuardsSpec)

end Rows
end Go.Proofs.Ythnbdeibjbicpaa
