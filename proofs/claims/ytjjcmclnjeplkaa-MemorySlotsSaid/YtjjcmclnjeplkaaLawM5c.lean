/- The calls on a memory, plainly, and law08's pages. Conditions: the memories' cells. -/
import Derived.Test.YtjjcmclnjeplkaaLawM5a
import Derived.Test.YtjjcmclnjeplkaaLawM5b
namespace Go.Proofs.Ytjjcmclnjeplkaa.PM
set_option linter.unusedVariables false
set_option linter.unusedSimpArgs false
open Go.RowKit
theorem pages8_c (w : World) (M g h c d cd b cb e ce : Nat) (G : Nat → Nat) (T : List Page) (L : List Nat) (m : Mem w M g h c d cd G T L) (r : RM w b e T L) (sp : Sep8 M h d b e) (ok : OkT T) (a : Act8) (hk : 4 ≤ a.k % 8) :
    Calls Try.prog 82 #[.pointer (some ⟨M, 0, none⟩), rm G b cb T e ce L, act8v a] w fun en w' => DoP8 w M g h c d cd b e (G, pagesM T a, L) en w' := by
  by_cases k0 : a.k % 8 = 4
  · exact pages8_0 w M g h c d cd b cb e ce G T L m r sp ok a k0
  by_cases k1 : a.k % 8 = 5
  · exact pages8_1 w M g h c d cd b cb e ce G T L m r sp ok a k1
  by_cases k2 : a.k % 8 = 6
  · exact pages8_2 w M g h c d cd b cb e ce G T L m r sp ok a k2
  exact pages8_3 w M g h c d cd b cb e ce G T L m r sp ok a (by omega)
end Go.Proofs.Ytjjcmclnjeplkaa.PM
