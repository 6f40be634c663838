/-
  No cell of these rows narrows 'for every input' (looked for: loops, veiled, ifaces, maps, wideKeys, modest, calm, conditions, laid).
  DERIVED. THE GIVEN ROWS OF THIS SEAT. 13 by the template 'for every input the law returns true; each argument reads behind the call as it read before'; 0 by the template 'total and deterministic' (their statements: YtgnminoiddnheaaTotals.lean).
  GIVEN WITH THE SEED: the statements are not yours to turn. If you find one false, say at which input.
  Laid BY PROGRAM, IN A SANDBOX (cutbox-rows.mjs): the forced cells as the released guide's own fill.sh prints them over the translation b61fa76a7f669146… (all of the seat's roots in one cut). By AI agents, Wed Nov 11 2026. No macro, syntax, notation, axiom, sorry.
-/
import Derived.Test.YtgnminoiddnheaaChecked
import GoSem.Claim
import GoSem.ClaimJoined
import GoSem.ClaimMapViews
import Derived.JoinedTies
import Derived.KernelRfl
namespace Go.Proofs.Ytgnminoiddnheaa
/- THE CELL 'sum', in the pinned program and in every row, IS THE sha256 OF THE DUMP (.gsa) THAT YtgnminoiddnheaaProg.lean LOADS. Nothing in Lean hashes anything: it is a label: what it is worth is what the hold of that sum in a sandbox is worth. -/
noncomputable def Try.pinned : Pinned := { name := "ytgnminoiddnheaa", sum := "b61fa76a7f669146427b776b25fd798036587b2d4dc1b83c413c8cbab66e094a", checked := Try.checked }
namespace Rows
def none {H : Type} : Left H := { results := [], args := [] }

/-- 'budwoodlaw04.IsaUses': WHATEVER THE INPUT: true; the input reads as it did. -/
def isaUsesSpec : ChangeSpec := { name := "isaUses", fn := fun _ => fun
  | [d] => { results := [.lit (.bool true)], args := [d] }
  | _ => none }
def isaUsesRow : OpenClaim := { program := "ytgnminoiddnheaa", sum := "b61fa76a7f669146427b776b25fd798036587b2d4dc1b83c413c8cbab66e094a", func := "budwood/budwoodlaw04.IsaUses", spec := "isaUses", unfollowed := true, recurses := true, apart := false }
def IsaUsesSaid : Prop := isaUsesRow.holds Try.pinned (OpenSpec.ofChange isaUsesSpec)

/-- ITS FALSE NEIGHBOUR: 'it returns false'. Refute it at one input. -/
def isaUsesWrong : ChangeSpec := { name := "isaUses", fn := fun _ => fun
  | [d] => { results := [.lit (.bool false)], args := [d] }
  | _ => none }
def IsaUsesWrongFalsely : Prop := isaUsesRow.holds Try.pinned (OpenSpec.ofChange isaUsesWrong)

/-- 'budwoodlaw04.IsaEncodes': WHATEVER THE INPUT: true; the input reads as it did. -/
def isaEncodesSpec : ChangeSpec := { name := "isaEncodes", fn := fun _ => fun
  | [d] => { results := [.lit (.bool true)], args := [d] }
  | _ => none }
def isaEncodesRow : OpenClaim := { program := "ytgnminoiddnheaa", sum := "b61fa76a7f669146427b776b25fd798036587b2d4dc1b83c413c8cbab66e094a", func := "budwood/budwoodlaw04.IsaEncodes", spec := "isaEncodes", unfollowed := true, recurses := true, apart := false }
def IsaEncodesSaid : Prop := isaEncodesRow.holds Try.pinned (OpenSpec.ofChange isaEncodesSpec)

/-- ITS FALSE NEIGHBOUR: 'it returns false'. Refute it at one input. -/
def isaEncodesWrong : ChangeSpec := { name := "isaEncodes", fn := fun _ => fun
  | [d] => { results := [.lit (.bool false)], args := [d] }
  | _ => none }
def IsaEncodesWrongFalsely : Prop := isaEncodesRow.holds Try.pinned (OpenSpec.ofChange isaEncodesWrong)

/-- 'budwoodlaw04.IsaDecodes': WHATEVER THE INPUT: true; the input reads as it did. -/
def isaDecodesSpec : ChangeSpec := { name := "isaDecodes", fn := fun _ => fun
  | [d] => { results := [.lit (.bool true)], args := [d] }
  | _ => none }
def isaDecodesRow : OpenClaim := { program := "ytgnminoiddnheaa", sum := "b61fa76a7f669146427b776b25fd798036587b2d4dc1b83c413c8cbab66e094a", func := "budwood/budwoodlaw04.IsaDecodes", spec := "isaDecodes", unfollowed := true, recurses := true, apart := false }
def IsaDecodesSaid : Prop := isaDecodesRow.holds Try.pinned (OpenSpec.ofChange isaDecodesSpec)

/-- ITS FALSE NEIGHBOUR: 'it returns false'. Refute it at one input. -/
def isaDecodesWrong : ChangeSpec := { name := "isaDecodes", fn := fun _ => fun
  | [d] => { results := [.lit (.bool false)], args := [d] }
  | _ => none }
def IsaDecodesWrongFalsely : Prop := isaDecodesRow.holds Try.pinned (OpenSpec.ofChange isaDecodesWrong)

/-- 'budwoodlaw04.IsaBack': WHATEVER THE INPUT: true; the input reads as it did. -/
def isaBackSpec : ChangeSpec := { name := "isaBack", fn := fun _ => fun
  | [d1, d2] => { results := [.lit (.bool true)], args := [d1, d2] }
  | _ => none }
def isaBackRow : OpenClaim := { program := "ytgnminoiddnheaa", sum := "b61fa76a7f669146427b776b25fd798036587b2d4dc1b83c413c8cbab66e094a", func := "budwood/budwoodlaw04.IsaBack", spec := "isaBack", unfollowed := true, recurses := true, apart := false }
def IsaBackSaid : Prop := isaBackRow.holds Try.pinned (OpenSpec.ofChange isaBackSpec)

/-- ITS FALSE NEIGHBOUR: 'it returns false'. Refute it at one input. -/
def isaBackWrong : ChangeSpec := { name := "isaBack", fn := fun _ => fun
  | [d1, d2] => { results := [.lit (.bool false)], args := [d1, d2] }
  | _ => none }
def IsaBackWrongFalsely : Prop := isaBackRow.holds Try.pinned (OpenSpec.ofChange isaBackWrong)

/-- 'budwoodlaw04.IsaApart': WHATEVER THE INPUT: true; the input reads as it did. -/
def isaApartSpec : ChangeSpec := { name := "isaApart", fn := fun _ => fun
  | [d1, d2] => { results := [.lit (.bool true)], args := [d1, d2] }
  | _ => none }
def isaApartRow : OpenClaim := { program := "ytgnminoiddnheaa", sum := "b61fa76a7f669146427b776b25fd798036587b2d4dc1b83c413c8cbab66e094a", func := "budwood/budwoodlaw04.IsaApart", spec := "isaApart", unfollowed := true, recurses := true, apart := false }
def IsaApartSaid : Prop := isaApartRow.holds Try.pinned (OpenSpec.ofChange isaApartSpec)

/-- ITS FALSE NEIGHBOUR: 'it returns false'. Refute it at one input. -/
def isaApartWrong : ChangeSpec := { name := "isaApart", fn := fun _ => fun
  | [d1, d2] => { results := [.lit (.bool false)], args := [d1, d2] }
  | _ => none }
def IsaApartWrongFalsely : Prop := isaApartRow.holds Try.pinned (OpenSpec.ofChange isaApartWrong)

/-- 'budwoodlaw04.IsaTargets': WHATEVER THE INPUT: true; the input reads as it did. -/
def isaTargetsSpec : ChangeSpec := { name := "isaTargets", fn := fun _ => fun
  | [d1, d2] => { results := [.lit (.bool true)], args := [d1, d2] }
  | _ => none }
def isaTargetsRow : OpenClaim := { program := "ytgnminoiddnheaa", sum := "b61fa76a7f669146427b776b25fd798036587b2d4dc1b83c413c8cbab66e094a", func := "budwood/budwoodlaw04.IsaTargets", spec := "isaTargets", unfollowed := true, recurses := true, apart := false }
def IsaTargetsSaid : Prop := isaTargetsRow.holds Try.pinned (OpenSpec.ofChange isaTargetsSpec)

/-- ITS FALSE NEIGHBOUR: 'it returns false'. Refute it at one input. -/
def isaTargetsWrong : ChangeSpec := { name := "isaTargets", fn := fun _ => fun
  | [d1, d2] => { results := [.lit (.bool false)], args := [d1, d2] }
  | _ => none }
def IsaTargetsWrongFalsely : Prop := isaTargetsRow.holds Try.pinned (OpenSpec.ofChange isaTargetsWrong)

/-- 'budwoodlaw04.IsaJumps': WHATEVER THE INPUT: true; the input reads as it did. -/
def isaJumpsSpec : ChangeSpec := { name := "isaJumps", fn := fun _ => fun
  | [d1, d2, d3] => { results := [.lit (.bool true)], args := [d1, d2, d3] }
  | _ => none }
def isaJumpsRow : OpenClaim := { program := "ytgnminoiddnheaa", sum := "b61fa76a7f669146427b776b25fd798036587b2d4dc1b83c413c8cbab66e094a", func := "budwood/budwoodlaw04.IsaJumps", spec := "isaJumps", unfollowed := true, recurses := true, apart := false }
def IsaJumpsSaid : Prop := isaJumpsRow.holds Try.pinned (OpenSpec.ofChange isaJumpsSpec)

/-- ITS FALSE NEIGHBOUR: 'it returns false'. Refute it at one input. -/
def isaJumpsWrong : ChangeSpec := { name := "isaJumps", fn := fun _ => fun
  | [d1, d2, d3] => { results := [.lit (.bool false)], args := [d1, d2, d3] }
  | _ => none }
def IsaJumpsWrongFalsely : Prop := isaJumpsRow.holds Try.pinned (OpenSpec.ofChange isaJumpsWrong)

/-- 'budwoodlaw15.RelocValues': WHATEVER THE INPUT: true; the input reads as it did. -/
def relocValuesSpec : ChangeSpec := { name := "relocValues", fn := fun _ => fun
  | [d1, d2, d3] => { results := [.lit (.bool true)], args := [d1, d2, d3] }
  | _ => none }
def relocValuesRow : OpenClaim := { program := "ytgnminoiddnheaa", sum := "b61fa76a7f669146427b776b25fd798036587b2d4dc1b83c413c8cbab66e094a", func := "budwood/budwoodlaw15.RelocValues", spec := "relocValues", unfollowed := true, recurses := true, apart := false }
def RelocValuesSaid : Prop := relocValuesRow.holds Try.pinned (OpenSpec.ofChange relocValuesSpec)

/-- ITS FALSE NEIGHBOUR: 'it returns false'. Refute it at one input. -/
def relocValuesWrong : ChangeSpec := { name := "relocValues", fn := fun _ => fun
  | [d1, d2, d3] => { results := [.lit (.bool false)], args := [d1, d2, d3] }
  | _ => none }
def RelocValuesWrongFalsely : Prop := relocValuesRow.holds Try.pinned (OpenSpec.ofChange relocValuesWrong)

/-- 'budwoodlaw15.RelocApplies': WHATEVER THE INPUT: true; the input reads as it did. -/
def relocAppliesSpec : ChangeSpec := { name := "relocApplies", fn := fun _ => fun
  | [d1, d2, d3] => { results := [.lit (.bool true)], args := [d1, d2, d3] }
  | _ => none }
def relocAppliesRow : OpenClaim := { program := "ytgnminoiddnheaa", sum := "b61fa76a7f669146427b776b25fd798036587b2d4dc1b83c413c8cbab66e094a", func := "budwood/budwoodlaw15.RelocApplies", spec := "relocApplies", unfollowed := true, recurses := true, apart := false }
def RelocAppliesSaid : Prop := relocAppliesRow.holds Try.pinned (OpenSpec.ofChange relocAppliesSpec)

/-- ITS FALSE NEIGHBOUR: 'it returns false'. Refute it at one input. -/
def relocAppliesWrong : ChangeSpec := { name := "relocApplies", fn := fun _ => fun
  | [d1, d2, d3] => { results := [.lit (.bool false)], args := [d1, d2, d3] }
  | _ => none }
def RelocAppliesWrongFalsely : Prop := relocAppliesRow.holds Try.pinned (OpenSpec.ofChange relocAppliesWrong)

/-- 'budwoodlaw15.RelocReach': WHATEVER THE INPUT: true; the input reads as it did. -/
def relocReachSpec : ChangeSpec := { name := "relocReach", fn := fun _ => fun
  | [d1, d2, d3] => { results := [.lit (.bool true)], args := [d1, d2, d3] }
  | _ => none }
def relocReachRow : OpenClaim := { program := "ytgnminoiddnheaa", sum := "b61fa76a7f669146427b776b25fd798036587b2d4dc1b83c413c8cbab66e094a", func := "budwood/budwoodlaw15.RelocReach", spec := "relocReach", unfollowed := true, recurses := true, apart := false }
def RelocReachSaid : Prop := relocReachRow.holds Try.pinned (OpenSpec.ofChange relocReachSpec)

/-- ITS FALSE NEIGHBOUR: 'it returns false'. Refute it at one input. -/
def relocReachWrong : ChangeSpec := { name := "relocReach", fn := fun _ => fun
  | [d1, d2, d3] => { results := [.lit (.bool false)], args := [d1, d2, d3] }
  | _ => none }
def RelocReachWrongFalsely : Prop := relocReachRow.holds Try.pinned (OpenSpec.ofChange relocReachWrong)

/-- 'budwoodlaw15.RelocKeeps': WHATEVER THE INPUT: true; the input reads as it did. -/
def relocKeepsSpec : ChangeSpec := { name := "relocKeeps", fn := fun _ => fun
  | [d1, d2, d3] => { results := [.lit (.bool true)], args := [d1, d2, d3] }
  | _ => none }
def relocKeepsRow : OpenClaim := { program := "ytgnminoiddnheaa", sum := "b61fa76a7f669146427b776b25fd798036587b2d4dc1b83c413c8cbab66e094a", func := "budwood/budwoodlaw15.RelocKeeps", spec := "relocKeeps", unfollowed := true, recurses := true, apart := false }
def RelocKeepsSaid : Prop := relocKeepsRow.holds Try.pinned (OpenSpec.ofChange relocKeepsSpec)

/-- ITS FALSE NEIGHBOUR: 'it returns false'. Refute it at one input. -/
def relocKeepsWrong : ChangeSpec := { name := "relocKeeps", fn := fun _ => fun
  | [d1, d2, d3] => { results := [.lit (.bool false)], args := [d1, d2, d3] }
  | _ => none }
def RelocKeepsWrongFalsely : Prop := relocKeepsRow.holds Try.pinned (OpenSpec.ofChange relocKeepsWrong)

/-- 'budwoodlaw15.RelocUndoes': WHATEVER THE INPUT: true; the input reads as it did. -/
def relocUndoesSpec : ChangeSpec := { name := "relocUndoes", fn := fun _ => fun
  | [d1, d2] => { results := [.lit (.bool true)], args := [d1, d2] }
  | _ => none }
def relocUndoesRow : OpenClaim := { program := "ytgnminoiddnheaa", sum := "b61fa76a7f669146427b776b25fd798036587b2d4dc1b83c413c8cbab66e094a", func := "budwood/budwoodlaw15.RelocUndoes", spec := "relocUndoes", unfollowed := true, recurses := true, apart := false }
def RelocUndoesSaid : Prop := relocUndoesRow.holds Try.pinned (OpenSpec.ofChange relocUndoesSpec)

/-- ITS FALSE NEIGHBOUR: 'it returns false'. Refute it at one input. -/
def relocUndoesWrong : ChangeSpec := { name := "relocUndoes", fn := fun _ => fun
  | [d1, d2] => { results := [.lit (.bool false)], args := [d1, d2] }
  | _ => none }
def RelocUndoesWrongFalsely : Prop := relocUndoesRow.holds Try.pinned (OpenSpec.ofChange relocUndoesWrong)

/-- 'budwoodlaw15.RelocBack': WHATEVER THE INPUT: true; the input reads as it did. -/
def relocBackSpec : ChangeSpec := { name := "relocBack", fn := fun _ => fun
  | [d1, d2, d3] => { results := [.lit (.bool true)], args := [d1, d2, d3] }
  | _ => none }
def relocBackRow : OpenClaim := { program := "ytgnminoiddnheaa", sum := "b61fa76a7f669146427b776b25fd798036587b2d4dc1b83c413c8cbab66e094a", func := "budwood/budwoodlaw15.RelocBack", spec := "relocBack", unfollowed := true, recurses := true, apart := false }
def RelocBackSaid : Prop := relocBackRow.holds Try.pinned (OpenSpec.ofChange relocBackSpec)

/-- ITS FALSE NEIGHBOUR: 'it returns false'. Refute it at one input. -/
def relocBackWrong : ChangeSpec := { name := "relocBack", fn := fun _ => fun
  | [d1, d2, d3] => { results := [.lit (.bool false)], args := [d1, d2, d3] }
  | _ => none }
def RelocBackWrongFalsely : Prop := relocBackRow.holds Try.pinned (OpenSpec.ofChange relocBackWrong)

/- THE SECOND FORM. 'bulk': how many values and letters a reading holds, each counted each time it is reached (what is shared counts as often as it is met; a slice's spare places count too). A statement '..UptoSaid' is the law's where the arguments, and the package variables that the reading takes, are together of bulk at most 1048576: NARROWER than '..Said'. Prove '..Said' where nothing that the law and all that it calls make is longer than what came in: it says more and counts as full. Else prove '..UptoSaid'. A law counts once. -/
mutual
def uptoBulk {H : Type} : DataW H → Nat
  | .lit (.string bytes) => bytes.length + 1
  | .lit _ => 1
  | .nil => 1
  | .ptr d => uptoBulk d + 1
  | .slice elems spare => uptoBulkAll elems + uptoBulkAll spare + 1
  | .agg parts => uptoBulkAll parts + 1
  | .iface _ d => uptoBulk d + 1
  | .map entries => uptoBulkEntries entries + 1
  | .held _ => 1
def uptoBulkAll {H : Type} : List (DataW H) → Nat
  | [] => 0
  | d :: r => uptoBulk d + uptoBulkAll r
def uptoBulkEntries {H : Type} : List (Lit × DataW H) → Nat
  | [] => 0
  | x :: r => uptoBulkEntry x + uptoBulkEntries r
def uptoBulkEntry {H : Type} : Lit × DataW H → Nat
  | (.string bytes, d) => bytes.length + uptoBulk d + 1
  | (_, d) => uptoBulk d + 1
 end
def uptoSmall : (H : Type) → List (DataW H) → Bool := fun _ ds => decide (uptoBulkAll ds ≤ 1048576)
def OpenSpec.upto (s : _root_.Go.ChangeSpec) : _root_.Go.OpenSpec := { _root_.Go.OpenSpec.ofChange s with cond := some uptoSmall }

/-- 'budwoodlaw04.IsaUses', WHERE WHAT IT READS IS OF BULK AT MOST 1048576: true; the input reads as it did. -/
def isaUsesUptoRow : OpenClaim := { program := "ytgnminoiddnheaa", sum := "b61fa76a7f669146427b776b25fd798036587b2d4dc1b83c413c8cbab66e094a", func := "budwood/budwoodlaw04.IsaUses", spec := "isaUses", unfollowed := true, recurses := true, apart := false, narrowed := true }
def IsaUsesUptoSaid : Prop := isaUsesUptoRow.holds Try.pinned (OpenSpec.upto isaUsesSpec)

/-- 'budwoodlaw04.IsaEncodes', WHERE WHAT IT READS IS OF BULK AT MOST 1048576: true; the input reads as it did. -/
def isaEncodesUptoRow : OpenClaim := { program := "ytgnminoiddnheaa", sum := "b61fa76a7f669146427b776b25fd798036587b2d4dc1b83c413c8cbab66e094a", func := "budwood/budwoodlaw04.IsaEncodes", spec := "isaEncodes", unfollowed := true, recurses := true, apart := false, narrowed := true }
def IsaEncodesUptoSaid : Prop := isaEncodesUptoRow.holds Try.pinned (OpenSpec.upto isaEncodesSpec)

/-- 'budwoodlaw04.IsaDecodes', WHERE WHAT IT READS IS OF BULK AT MOST 1048576: true; the input reads as it did. -/
def isaDecodesUptoRow : OpenClaim := { program := "ytgnminoiddnheaa", sum := "b61fa76a7f669146427b776b25fd798036587b2d4dc1b83c413c8cbab66e094a", func := "budwood/budwoodlaw04.IsaDecodes", spec := "isaDecodes", unfollowed := true, recurses := true, apart := false, narrowed := true }
def IsaDecodesUptoSaid : Prop := isaDecodesUptoRow.holds Try.pinned (OpenSpec.upto isaDecodesSpec)

/-- 'budwoodlaw04.IsaBack', WHERE WHAT IT READS IS OF BULK AT MOST 1048576: true; the input reads as it did. -/
def isaBackUptoRow : OpenClaim := { program := "ytgnminoiddnheaa", sum := "b61fa76a7f669146427b776b25fd798036587b2d4dc1b83c413c8cbab66e094a", func := "budwood/budwoodlaw04.IsaBack", spec := "isaBack", unfollowed := true, recurses := true, apart := false, narrowed := true }
def IsaBackUptoSaid : Prop := isaBackUptoRow.holds Try.pinned (OpenSpec.upto isaBackSpec)

/-- 'budwoodlaw04.IsaApart', WHERE WHAT IT READS IS OF BULK AT MOST 1048576: true; the input reads as it did. -/
def isaApartUptoRow : OpenClaim := { program := "ytgnminoiddnheaa", sum := "b61fa76a7f669146427b776b25fd798036587b2d4dc1b83c413c8cbab66e094a", func := "budwood/budwoodlaw04.IsaApart", spec := "isaApart", unfollowed := true, recurses := true, apart := false, narrowed := true }
def IsaApartUptoSaid : Prop := isaApartUptoRow.holds Try.pinned (OpenSpec.upto isaApartSpec)

/-- 'budwoodlaw04.IsaTargets', WHERE WHAT IT READS IS OF BULK AT MOST 1048576: true; the input reads as it did. -/
def isaTargetsUptoRow : OpenClaim := { program := "ytgnminoiddnheaa", sum := "b61fa76a7f669146427b776b25fd798036587b2d4dc1b83c413c8cbab66e094a", func := "budwood/budwoodlaw04.IsaTargets", spec := "isaTargets", unfollowed := true, recurses := true, apart := false, narrowed := true }
def IsaTargetsUptoSaid : Prop := isaTargetsUptoRow.holds Try.pinned (OpenSpec.upto isaTargetsSpec)

/-- 'budwoodlaw04.IsaJumps', WHERE WHAT IT READS IS OF BULK AT MOST 1048576: true; the input reads as it did. -/
def isaJumpsUptoRow : OpenClaim := { program := "ytgnminoiddnheaa", sum := "b61fa76a7f669146427b776b25fd798036587b2d4dc1b83c413c8cbab66e094a", func := "budwood/budwoodlaw04.IsaJumps", spec := "isaJumps", unfollowed := true, recurses := true, apart := false, narrowed := true }
def IsaJumpsUptoSaid : Prop := isaJumpsUptoRow.holds Try.pinned (OpenSpec.upto isaJumpsSpec)

/-- 'budwoodlaw15.RelocValues', WHERE WHAT IT READS IS OF BULK AT MOST 1048576: true; the input reads as it did. -/
def relocValuesUptoRow : OpenClaim := { program := "ytgnminoiddnheaa", sum := "b61fa76a7f669146427b776b25fd798036587b2d4dc1b83c413c8cbab66e094a", func := "budwood/budwoodlaw15.RelocValues", spec := "relocValues", unfollowed := true, recurses := true, apart := false, narrowed := true }
def RelocValuesUptoSaid : Prop := relocValuesUptoRow.holds Try.pinned (OpenSpec.upto relocValuesSpec)

/-- 'budwoodlaw15.RelocApplies', WHERE WHAT IT READS IS OF BULK AT MOST 1048576: true; the input reads as it did. -/
def relocAppliesUptoRow : OpenClaim := { program := "ytgnminoiddnheaa", sum := "b61fa76a7f669146427b776b25fd798036587b2d4dc1b83c413c8cbab66e094a", func := "budwood/budwoodlaw15.RelocApplies", spec := "relocApplies", unfollowed := true, recurses := true, apart := false, narrowed := true }
def RelocAppliesUptoSaid : Prop := relocAppliesUptoRow.holds Try.pinned (OpenSpec.upto relocAppliesSpec)

/-- 'budwoodlaw15.RelocReach', WHERE WHAT IT READS IS OF BULK AT MOST 1048576: true; the input reads as it did. -/
def relocReachUptoRow : OpenClaim := { program := "ytgnminoiddnheaa", sum := "b61fa76a7f669146427b776b25fd798036587b2d4dc1b83c413c8cbab66e094a", func := "budwood/budwoodlaw15.RelocReach", spec := "relocReach", unfollowed := true, recurses := true, apart := false, narrowed := true }
def RelocReachUptoSaid : Prop := relocReachUptoRow.holds Try.pinned (OpenSpec.upto relocReachSpec)

/-- 'budwoodlaw15.RelocKeeps', WHERE WHAT IT READS IS OF BULK AT MOST 1048576: true; the input reads as it did. -/
def relocKeepsUptoRow : OpenClaim := { program := "ytgnminoiddnheaa", sum := "b61fa76a7f669146427b776b25fd798036587b2d4dc1b83c413c8cbab66e094a", func := "budwood/budwoodlaw15.RelocKeeps", spec := "relocKeeps", unfollowed := true, recurses := true, apart := false, narrowed := true }
def RelocKeepsUptoSaid : Prop := relocKeepsUptoRow.holds Try.pinned (OpenSpec.upto relocKeepsSpec)

/-- 'budwoodlaw15.RelocUndoes', WHERE WHAT IT READS IS OF BULK AT MOST 1048576: true; the input reads as it did. -/
def relocUndoesUptoRow : OpenClaim := { program := "ytgnminoiddnheaa", sum := "b61fa76a7f669146427b776b25fd798036587b2d4dc1b83c413c8cbab66e094a", func := "budwood/budwoodlaw15.RelocUndoes", spec := "relocUndoes", unfollowed := true, recurses := true, apart := false, narrowed := true }
def RelocUndoesUptoSaid : Prop := relocUndoesUptoRow.holds Try.pinned (OpenSpec.upto relocUndoesSpec)

/-- 'budwoodlaw15.RelocBack', WHERE WHAT IT READS IS OF BULK AT MOST 1048576: true; the input reads as it did. -/
def relocBackUptoRow : OpenClaim := { program := "ytgnminoiddnheaa", sum := "b61fa76a7f669146427b776b25fd798036587b2d4dc1b83c413c8cbab66e094a", func := "budwood/budwoodlaw15.RelocBack", spec := "relocBack", unfollowed := true, recurses := true, apart := false, narrowed := true }
def RelocBackUptoSaid : Prop := relocBackUptoRow.holds Try.pinned (OpenSpec.upto relocBackSpec)

end Rows
end Go.Proofs.Ytgnminoiddnheaa
