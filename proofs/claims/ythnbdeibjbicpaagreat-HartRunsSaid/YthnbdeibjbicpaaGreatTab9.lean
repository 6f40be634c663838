/- Contracts of Used and Fork. Conditions: the table's cells. -/
import Derived.Test.YthnbdeibjbicpaaGreatKTabC
import Derived.Deep.OwnRows
set_option linter.unusedSimpArgs false
namespace Go.Proofs.YthnbdeibjbicpaaGreat.PM
set_option linter.unusedVariables false
open Go.RowKit
def usedB (p : Page) : Bool := p.s != 0
def Forked (w : World) (T : List Page) (e : Ending) (w' : World) : Prop := ∃ g h c, e = .returned (.pointer (some ⟨g, 0, none⟩)) ∧ w.heap.size ≤ g ∧ w.heap.size ≤ h ∧ Tab w' g h c T ∧ Below w.heap.size w w'
end Go.Proofs.YthnbdeibjbicpaaGreat.PM
