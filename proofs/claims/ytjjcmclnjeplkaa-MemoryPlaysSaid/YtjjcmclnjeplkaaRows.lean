/-
  No cell of these rows narrows 'for every input' (looked for: loops, veiled, ifaces, maps, wideKeys, modest, calm, conditions, laid).
  DERIVED. THE GIVEN ROWS OF THIS SEAT. 12 by the template 'for every input the law returns true; each argument reads behind the call as it read before'; 0 by the template 'total and deterministic' (their statements: YtjjcmclnjeplkaaTotals.lean).
  GIVEN WITH THE SEED: the statements are not yours to turn. If you find one false, say at which input.
  Laid BY PROGRAM, IN A SANDBOX (cutbox-rows.mjs): the forced cells as the released guide's own fill.sh prints them over the translation 686d1923cf1cc5e4… (all of the seat's roots in one cut). By AI agents, Wed Nov 11 2026. No macro, syntax, notation, axiom, sorry.
-/
import Derived.Test.YtjjcmclnjeplkaaChecked
import GoSem.Claim
import GoSem.ClaimJoined
import GoSem.ClaimMapViews
import Derived.JoinedTies
import Derived.KernelRfl
namespace Go.Proofs.Ytjjcmclnjeplkaa
/- THE CELL 'sum', in the pinned program and in every row, IS THE sha256 OF THE DUMP (.gsa) THAT YtjjcmclnjeplkaaProg.lean LOADS. Nothing in Lean hashes anything: it is a label: what it is worth is what the hold of that sum in a sandbox is worth. -/
noncomputable def Try.pinned : Pinned := { name := "ytjjcmclnjeplkaa", sum := "686d1923cf1cc5e4b18a53d1c1add68bfcb760eef428481947991db17b71e85a", checked := Try.checked }
namespace Rows
def none {H : Type} : Left H := { results := [], args := [] }

/-- 'budwoodlaw06.PageCans': WHATEVER THE INPUT: true; the input reads as it did. -/
def pageCansSpec : ChangeSpec := { name := "pageCans", fn := fun _ => fun
  | [d1, d2, d3] => { results := [.lit (.bool true)], args := [d1, d2, d3] }
  | _ => none }
def pageCansRow : OpenClaim := { program := "ytjjcmclnjeplkaa", sum := "686d1923cf1cc5e4b18a53d1c1add68bfcb760eef428481947991db17b71e85a", func := "budwood/budwoodlaw06.PageCans", spec := "pageCans", unfollowed := true, recurses := true, apart := false }
def PageCansSaid : Prop := pageCansRow.holds Try.pinned (OpenSpec.ofChange pageCansSpec)

/-- ITS FALSE NEIGHBOUR: 'it returns false'. Refute it at one input. -/
def pageCansWrong : ChangeSpec := { name := "pageCans", fn := fun _ => fun
  | [d1, d2, d3] => { results := [.lit (.bool false)], args := [d1, d2, d3] }
  | _ => none }
def PageCansWrongFalsely : Prop := pageCansRow.holds Try.pinned (OpenSpec.ofChange pageCansWrong)

/-- 'budwoodlaw06.PageLives': WHATEVER THE INPUT: true; the input reads as it did. -/
def pageLivesSpec : ChangeSpec := { name := "pageLives", fn := fun _ => fun
  | [d1, d2] => { results := [.lit (.bool true)], args := [d1, d2] }
  | _ => none }
def pageLivesRow : OpenClaim := { program := "ytjjcmclnjeplkaa", sum := "686d1923cf1cc5e4b18a53d1c1add68bfcb760eef428481947991db17b71e85a", func := "budwood/budwoodlaw06.PageLives", spec := "pageLives", unfollowed := true, recurses := true, apart := false }
def PageLivesSaid : Prop := pageLivesRow.holds Try.pinned (OpenSpec.ofChange pageLivesSpec)

/-- ITS FALSE NEIGHBOUR: 'it returns false'. Refute it at one input. -/
def pageLivesWrong : ChangeSpec := { name := "pageLives", fn := fun _ => fun
  | [d1, d2] => { results := [.lit (.bool false)], args := [d1, d2] }
  | _ => none }
def PageLivesWrongFalsely : Prop := pageLivesRow.holds Try.pinned (OpenSpec.ofChange pageLivesWrong)

/-- 'budwoodlaw06.PageRuns': WHATEVER THE INPUT: true; the input reads as it did. -/
def pageRunsSpec : ChangeSpec := { name := "pageRuns", fn := fun _ => fun
  | [d1, d2] => { results := [.lit (.bool true)], args := [d1, d2] }
  | _ => none }
def pageRunsRow : OpenClaim := { program := "ytjjcmclnjeplkaa", sum := "686d1923cf1cc5e4b18a53d1c1add68bfcb760eef428481947991db17b71e85a", func := "budwood/budwoodlaw06.PageRuns", spec := "pageRuns", unfollowed := true, recurses := true, apart := false }
def PageRunsSaid : Prop := pageRunsRow.holds Try.pinned (OpenSpec.ofChange pageRunsSpec)

/-- ITS FALSE NEIGHBOUR: 'it returns false'. Refute it at one input. -/
def pageRunsWrong : ChangeSpec := { name := "pageRuns", fn := fun _ => fun
  | [d1, d2] => { results := [.lit (.bool false)], args := [d1, d2] }
  | _ => none }
def PageRunsWrongFalsely : Prop := pageRunsRow.holds Try.pinned (OpenSpec.ofChange pageRunsWrong)

/-- 'budwoodlaw06.PageHides': WHATEVER THE INPUT: true; the input reads as it did. -/
def pageHidesSpec : ChangeSpec := { name := "pageHides", fn := fun _ => fun
  | [d1, d2, d3] => { results := [.lit (.bool true)], args := [d1, d2, d3] }
  | _ => none }
def pageHidesRow : OpenClaim := { program := "ytjjcmclnjeplkaa", sum := "686d1923cf1cc5e4b18a53d1c1add68bfcb760eef428481947991db17b71e85a", func := "budwood/budwoodlaw06.PageHides", spec := "pageHides", unfollowed := true, recurses := true, apart := false }
def PageHidesSaid : Prop := pageHidesRow.holds Try.pinned (OpenSpec.ofChange pageHidesSpec)

/-- ITS FALSE NEIGHBOUR: 'it returns false'. Refute it at one input. -/
def pageHidesWrong : ChangeSpec := { name := "pageHides", fn := fun _ => fun
  | [d1, d2, d3] => { results := [.lit (.bool false)], args := [d1, d2, d3] }
  | _ => none }
def PageHidesWrongFalsely : Prop := pageHidesRow.holds Try.pinned (OpenSpec.ofChange pageHidesWrong)

/-- 'budwoodlaw06.PagePlays': WHATEVER THE INPUT: true; the input reads as it did. -/
def pagePlaysSpec : ChangeSpec := { name := "pagePlays", fn := fun _ => fun
  | [d1, d2] => { results := [.lit (.bool true)], args := [d1, d2] }
  | _ => none }
def pagePlaysRow : OpenClaim := { program := "ytjjcmclnjeplkaa", sum := "686d1923cf1cc5e4b18a53d1c1add68bfcb760eef428481947991db17b71e85a", func := "budwood/budwoodlaw06.PagePlays", spec := "pagePlays", unfollowed := true, recurses := true, apart := false }
def PagePlaysSaid : Prop := pagePlaysRow.holds Try.pinned (OpenSpec.ofChange pagePlaysSpec)

/-- ITS FALSE NEIGHBOUR: 'it returns false'. Refute it at one input. -/
def pagePlaysWrong : ChangeSpec := { name := "pagePlays", fn := fun _ => fun
  | [d1, d2] => { results := [.lit (.bool false)], args := [d1, d2] }
  | _ => none }
def PagePlaysWrongFalsely : Prop := pagePlaysRow.holds Try.pinned (OpenSpec.ofChange pagePlaysWrong)

/-- 'budwoodlaw06.PageForks': WHATEVER THE INPUT: true; the input reads as it did. -/
def pageForksSpec : ChangeSpec := { name := "pageForks", fn := fun _ => fun
  | [d1, d2, d3] => { results := [.lit (.bool true)], args := [d1, d2, d3] }
  | _ => none }
def pageForksRow : OpenClaim := { program := "ytjjcmclnjeplkaa", sum := "686d1923cf1cc5e4b18a53d1c1add68bfcb760eef428481947991db17b71e85a", func := "budwood/budwoodlaw06.PageForks", spec := "pageForks", unfollowed := true, recurses := true, apart := false }
def PageForksSaid : Prop := pageForksRow.holds Try.pinned (OpenSpec.ofChange pageForksSpec)

/-- ITS FALSE NEIGHBOUR: 'it returns false'. Refute it at one input. -/
def pageForksWrong : ChangeSpec := { name := "pageForks", fn := fun _ => fun
  | [d1, d2, d3] => { results := [.lit (.bool false)], args := [d1, d2, d3] }
  | _ => none }
def PageForksWrongFalsely : Prop := pageForksRow.holds Try.pinned (OpenSpec.ofChange pageForksWrong)

/-- 'budwoodlaw08.MemoryPages': WHATEVER THE INPUT: true; the input reads as it did. -/
def memoryPagesSpec : ChangeSpec := { name := "memoryPages", fn := fun _ => fun
  | [d1, d2] => { results := [.lit (.bool true)], args := [d1, d2] }
  | _ => none }
def memoryPagesRow : OpenClaim := { program := "ytjjcmclnjeplkaa", sum := "686d1923cf1cc5e4b18a53d1c1add68bfcb760eef428481947991db17b71e85a", func := "budwood/budwoodlaw08.MemoryPages", spec := "memoryPages", unfollowed := true, recurses := true, apart := false }
def MemoryPagesSaid : Prop := memoryPagesRow.holds Try.pinned (OpenSpec.ofChange memoryPagesSpec)

/-- ITS FALSE NEIGHBOUR: 'it returns false'. Refute it at one input. -/
def memoryPagesWrong : ChangeSpec := { name := "memoryPages", fn := fun _ => fun
  | [d1, d2] => { results := [.lit (.bool false)], args := [d1, d2] }
  | _ => none }
def MemoryPagesWrongFalsely : Prop := memoryPagesRow.holds Try.pinned (OpenSpec.ofChange memoryPagesWrong)

/-- 'budwoodlaw08.MemoryBack': WHATEVER THE INPUT: true; the input reads as it did. -/
def memoryBackSpec : ChangeSpec := { name := "memoryBack", fn := fun _ => fun
  | [d1, d2, d3] => { results := [.lit (.bool true)], args := [d1, d2, d3] }
  | _ => none }
def memoryBackRow : OpenClaim := { program := "ytjjcmclnjeplkaa", sum := "686d1923cf1cc5e4b18a53d1c1add68bfcb760eef428481947991db17b71e85a", func := "budwood/budwoodlaw08.MemoryBack", spec := "memoryBack", unfollowed := true, recurses := true, apart := false }
def MemoryBackSaid : Prop := memoryBackRow.holds Try.pinned (OpenSpec.ofChange memoryBackSpec)

/-- ITS FALSE NEIGHBOUR: 'it returns false'. Refute it at one input. -/
def memoryBackWrong : ChangeSpec := { name := "memoryBack", fn := fun _ => fun
  | [d1, d2, d3] => { results := [.lit (.bool false)], args := [d1, d2, d3] }
  | _ => none }
def MemoryBackWrongFalsely : Prop := memoryBackRow.holds Try.pinned (OpenSpec.ofChange memoryBackWrong)

/-- 'budwoodlaw08.MemorySlots': WHATEVER THE INPUT: true; the input reads as it did. -/
def memorySlotsSpec : ChangeSpec := { name := "memorySlots", fn := fun _ => fun
  | [d1, d2, d3] => { results := [.lit (.bool true)], args := [d1, d2, d3] }
  | _ => none }
def memorySlotsRow : OpenClaim := { program := "ytjjcmclnjeplkaa", sum := "686d1923cf1cc5e4b18a53d1c1add68bfcb760eef428481947991db17b71e85a", func := "budwood/budwoodlaw08.MemorySlots", spec := "memorySlots", unfollowed := true, recurses := true, apart := false }
def MemorySlotsSaid : Prop := memorySlotsRow.holds Try.pinned (OpenSpec.ofChange memorySlotsSpec)

/-- ITS FALSE NEIGHBOUR: 'it returns false'. Refute it at one input. -/
def memorySlotsWrong : ChangeSpec := { name := "memorySlots", fn := fun _ => fun
  | [d1, d2, d3] => { results := [.lit (.bool false)], args := [d1, d2, d3] }
  | _ => none }
def MemorySlotsWrongFalsely : Prop := memorySlotsRow.holds Try.pinned (OpenSpec.ofChange memorySlotsWrong)

/-- 'budwoodlaw08.MemoryStores': WHATEVER THE INPUT: true; the input reads as it did. -/
def memoryStoresSpec : ChangeSpec := { name := "memoryStores", fn := fun _ => fun
  | [d1, d2] => { results := [.lit (.bool true)], args := [d1, d2] }
  | _ => none }
def memoryStoresRow : OpenClaim := { program := "ytjjcmclnjeplkaa", sum := "686d1923cf1cc5e4b18a53d1c1add68bfcb760eef428481947991db17b71e85a", func := "budwood/budwoodlaw08.MemoryStores", spec := "memoryStores", unfollowed := true, recurses := true, apart := false }
def MemoryStoresSaid : Prop := memoryStoresRow.holds Try.pinned (OpenSpec.ofChange memoryStoresSpec)

/-- ITS FALSE NEIGHBOUR: 'it returns false'. Refute it at one input. -/
def memoryStoresWrong : ChangeSpec := { name := "memoryStores", fn := fun _ => fun
  | [d1, d2] => { results := [.lit (.bool false)], args := [d1, d2] }
  | _ => none }
def MemoryStoresWrongFalsely : Prop := memoryStoresRow.holds Try.pinned (OpenSpec.ofChange memoryStoresWrong)

/-- 'budwoodlaw08.MemoryPlays': WHATEVER THE INPUT: true; the input reads as it did. -/
def memoryPlaysSpec : ChangeSpec := { name := "memoryPlays", fn := fun _ => fun
  | [d1, d2] => { results := [.lit (.bool true)], args := [d1, d2] }
  | _ => none }
def memoryPlaysRow : OpenClaim := { program := "ytjjcmclnjeplkaa", sum := "686d1923cf1cc5e4b18a53d1c1add68bfcb760eef428481947991db17b71e85a", func := "budwood/budwoodlaw08.MemoryPlays", spec := "memoryPlays", unfollowed := true, recurses := true, apart := false }
def MemoryPlaysSaid : Prop := memoryPlaysRow.holds Try.pinned (OpenSpec.ofChange memoryPlaysSpec)

/-- ITS FALSE NEIGHBOUR: 'it returns false'. Refute it at one input. -/
def memoryPlaysWrong : ChangeSpec := { name := "memoryPlays", fn := fun _ => fun
  | [d1, d2] => { results := [.lit (.bool false)], args := [d1, d2] }
  | _ => none }
def MemoryPlaysWrongFalsely : Prop := memoryPlaysRow.holds Try.pinned (OpenSpec.ofChange memoryPlaysWrong)

/-- 'budwoodlaw08.MemoryForks': WHATEVER THE INPUT: true; the input reads as it did. -/
def memoryForksSpec : ChangeSpec := { name := "memoryForks", fn := fun _ => fun
  | [d1, d2, d3] => { results := [.lit (.bool true)], args := [d1, d2, d3] }
  | _ => none }
def memoryForksRow : OpenClaim := { program := "ytjjcmclnjeplkaa", sum := "686d1923cf1cc5e4b18a53d1c1add68bfcb760eef428481947991db17b71e85a", func := "budwood/budwoodlaw08.MemoryForks", spec := "memoryForks", unfollowed := true, recurses := true, apart := false }
def MemoryForksSaid : Prop := memoryForksRow.holds Try.pinned (OpenSpec.ofChange memoryForksSpec)

/-- ITS FALSE NEIGHBOUR: 'it returns false'. Refute it at one input. -/
def memoryForksWrong : ChangeSpec := { name := "memoryForks", fn := fun _ => fun
  | [d1, d2, d3] => { results := [.lit (.bool false)], args := [d1, d2, d3] }
  | _ => none }
def MemoryForksWrongFalsely : Prop := memoryForksRow.holds Try.pinned (OpenSpec.ofChange memoryForksWrong)

/- THE SECOND FORM. 'bulk': how many values and letters a reading holds, each counted each time it is reached (what is shared counts as often as it is met; a slice's spare places count too). A statement '..UptoSaid' is the law's where the arguments, and the package variables that the reading takes, are together of bulk at most 1048576: NARROWER than '..Said'. Prove '..Said' where nothing that the law and all that it calls make is longer than what came in: it says more and counts as full. Else prove '..UptoSaid'. A law counts once. -/
mutual
def uptoBulk {H : Type} : DataW H → Nat
  | .lit (.string bytes) => bytes.length + 1
  | .lit _ => 1
  | .nil => 1
  | .ptr d => uptoBulk d + 1
  | .slice elems spare => uptoBulkAll elems + uptoBulkAll spare + 1
  | .agg parts => uptoBulkAll parts + 1
  | .iface _ d => uptoBulk d + 1
  | .map entries => uptoBulkEntries entries + 1
  | .held _ => 1
def uptoBulkAll {H : Type} : List (DataW H) → Nat
  | [] => 0
  | d :: r => uptoBulk d + uptoBulkAll r
def uptoBulkEntries {H : Type} : List (Lit × DataW H) → Nat
  | [] => 0
  | x :: r => uptoBulkEntry x + uptoBulkEntries r
def uptoBulkEntry {H : Type} : Lit × DataW H → Nat
  | (.string bytes, d) => bytes.length + uptoBulk d + 1
  | (_, d) => uptoBulk d + 1
 end
def uptoSmall : (H : Type) → List (DataW H) → Bool := fun _ ds => decide (uptoBulkAll ds ≤ 1048576)
def OpenSpec.upto (s : _root_.Go.ChangeSpec) : _root_.Go.OpenSpec := { _root_.Go.OpenSpec.ofChange s with cond := some uptoSmall }

/-- 'budwoodlaw06.PageCans', WHERE WHAT IT READS IS OF BULK AT MOST 1048576: true; the input reads as it did. -/
def pageCansUptoRow : OpenClaim := { program := "ytjjcmclnjeplkaa", sum := "686d1923cf1cc5e4b18a53d1c1add68bfcb760eef428481947991db17b71e85a", func := "budwood/budwoodlaw06.PageCans", spec := "pageCans", unfollowed := true, recurses := true, apart := false, narrowed := true }
def PageCansUptoSaid : Prop := pageCansUptoRow.holds Try.pinned (OpenSpec.upto pageCansSpec)

/-- 'budwoodlaw06.PageLives', WHERE WHAT IT READS IS OF BULK AT MOST 1048576: true; the input reads as it did. -/
def pageLivesUptoRow : OpenClaim := { program := "ytjjcmclnjeplkaa", sum := "686d1923cf1cc5e4b18a53d1c1add68bfcb760eef428481947991db17b71e85a", func := "budwood/budwoodlaw06.PageLives", spec := "pageLives", unfollowed := true, recurses := true, apart := false, narrowed := true }
def PageLivesUptoSaid : Prop := pageLivesUptoRow.holds Try.pinned (OpenSpec.upto pageLivesSpec)

/-- 'budwoodlaw06.PageRuns', WHERE WHAT IT READS IS OF BULK AT MOST 1048576: true; the input reads as it did. -/
def pageRunsUptoRow : OpenClaim := { program := "ytjjcmclnjeplkaa", sum := "686d1923cf1cc5e4b18a53d1c1add68bfcb760eef428481947991db17b71e85a", func := "budwood/budwoodlaw06.PageRuns", spec := "pageRuns", unfollowed := true, recurses := true, apart := false, narrowed := true }
def PageRunsUptoSaid : Prop := pageRunsUptoRow.holds Try.pinned (OpenSpec.upto pageRunsSpec)

/-- 'budwoodlaw06.PageHides', WHERE WHAT IT READS IS OF BULK AT MOST 1048576: true; the input reads as it did. -/
def pageHidesUptoRow : OpenClaim := { program := "ytjjcmclnjeplkaa", sum := "686d1923cf1cc5e4b18a53d1c1add68bfcb760eef428481947991db17b71e85a", func := "budwood/budwoodlaw06.PageHides", spec := "pageHides", unfollowed := true, recurses := true, apart := false, narrowed := true }
def PageHidesUptoSaid : Prop := pageHidesUptoRow.holds Try.pinned (OpenSpec.upto pageHidesSpec)

/-- 'budwoodlaw06.PagePlays', WHERE WHAT IT READS IS OF BULK AT MOST 1048576: true; the input reads as it did. -/
def pagePlaysUptoRow : OpenClaim := { program := "ytjjcmclnjeplkaa", sum := "686d1923cf1cc5e4b18a53d1c1add68bfcb760eef428481947991db17b71e85a", func := "budwood/budwoodlaw06.PagePlays", spec := "pagePlays", unfollowed := true, recurses := true, apart := false, narrowed := true }
def PagePlaysUptoSaid : Prop := pagePlaysUptoRow.holds Try.pinned (OpenSpec.upto pagePlaysSpec)

/-- 'budwoodlaw06.PageForks', WHERE WHAT IT READS IS OF BULK AT MOST 1048576: true; the input reads as it did. -/
def pageForksUptoRow : OpenClaim := { program := "ytjjcmclnjeplkaa", sum := "686d1923cf1cc5e4b18a53d1c1add68bfcb760eef428481947991db17b71e85a", func := "budwood/budwoodlaw06.PageForks", spec := "pageForks", unfollowed := true, recurses := true, apart := false, narrowed := true }
def PageForksUptoSaid : Prop := pageForksUptoRow.holds Try.pinned (OpenSpec.upto pageForksSpec)

/-- 'budwoodlaw08.MemoryPages', WHERE WHAT IT READS IS OF BULK AT MOST 1048576: true; the input reads as it did. -/
def memoryPagesUptoRow : OpenClaim := { program := "ytjjcmclnjeplkaa", sum := "686d1923cf1cc5e4b18a53d1c1add68bfcb760eef428481947991db17b71e85a", func := "budwood/budwoodlaw08.MemoryPages", spec := "memoryPages", unfollowed := true, recurses := true, apart := false, narrowed := true }
def MemoryPagesUptoSaid : Prop := memoryPagesUptoRow.holds Try.pinned (OpenSpec.upto memoryPagesSpec)

/-- 'budwoodlaw08.MemoryBack', WHERE WHAT IT READS IS OF BULK AT MOST 1048576: true; the input reads as it did. -/
def memoryBackUptoRow : OpenClaim := { program := "ytjjcmclnjeplkaa", sum := "686d1923cf1cc5e4b18a53d1c1add68bfcb760eef428481947991db17b71e85a", func := "budwood/budwoodlaw08.MemoryBack", spec := "memoryBack", unfollowed := true, recurses := true, apart := false, narrowed := true }
def MemoryBackUptoSaid : Prop := memoryBackUptoRow.holds Try.pinned (OpenSpec.upto memoryBackSpec)

/-- 'budwoodlaw08.MemorySlots', WHERE WHAT IT READS IS OF BULK AT MOST 1048576: true; the input reads as it did. -/
def memorySlotsUptoRow : OpenClaim := { program := "ytjjcmclnjeplkaa", sum := "686d1923cf1cc5e4b18a53d1c1add68bfcb760eef428481947991db17b71e85a", func := "budwood/budwoodlaw08.MemorySlots", spec := "memorySlots", unfollowed := true, recurses := true, apart := false, narrowed := true }
def MemorySlotsUptoSaid : Prop := memorySlotsUptoRow.holds Try.pinned (OpenSpec.upto memorySlotsSpec)

/-- 'budwoodlaw08.MemoryStores', WHERE WHAT IT READS IS OF BULK AT MOST 1048576: true; the input reads as it did. -/
def memoryStoresUptoRow : OpenClaim := { program := "ytjjcmclnjeplkaa", sum := "686d1923cf1cc5e4b18a53d1c1add68bfcb760eef428481947991db17b71e85a", func := "budwood/budwoodlaw08.MemoryStores", spec := "memoryStores", unfollowed := true, recurses := true, apart := false, narrowed := true }
def MemoryStoresUptoSaid : Prop := memoryStoresUptoRow.holds Try.pinned (OpenSpec.upto memoryStoresSpec)

/-- 'budwoodlaw08.MemoryPlays', WHERE WHAT IT READS IS OF BULK AT MOST 1048576: true; the input reads as it did. -/
def memoryPlaysUptoRow : OpenClaim := { program := "ytjjcmclnjeplkaa", sum := "686d1923cf1cc5e4b18a53d1c1add68bfcb760eef428481947991db17b71e85a", func := "budwood/budwoodlaw08.MemoryPlays", spec := "memoryPlays", unfollowed := true, recurses := true, apart := false, narrowed := true }
def MemoryPlaysUptoSaid : Prop := memoryPlaysUptoRow.holds Try.pinned (OpenSpec.upto memoryPlaysSpec)

/-- 'budwoodlaw08.MemoryForks', WHERE WHAT IT READS IS OF BULK AT MOST 1048576: true; the input reads as it did. -/
def memoryForksUptoRow : OpenClaim := { program := "ytjjcmclnjeplkaa", sum := "686d1923cf1cc5e4b18a53d1c1add68bfcb760eef428481947991db17b71e85a", func := "budwood/budwoodlaw08.MemoryForks", spec := "memoryForks", unfollowed := true, recurses := true, apart := false, narrowed := true }
def MemoryForksUptoSaid : Prop := memoryForksUptoRow.holds Try.pinned (OpenSpec.upto memoryForksSpec)

end Rows
end Go.Proofs.Ytjjcmclnjeplkaa
