/- Small words for the walks of this seat: a world that has only been drawn upon; shifts as the walk spells them. No condition. -/
import Derived.Test.YthnbdeibjbicpaaProg
import Derived.WalkKit
import Derived.KernelRfl
import Derived.WalkLawsBesides
import Derived.WalkSpells
import Derived.Deep.QuietTactic
import Derived.BigQuiet
import Derived.OpenShut
import Derived.Deep.Draws
import Derived.Lib.Hide
import Derived.LoopTactic
import Derived.WalkSmall
import Derived.Deep.LoopGhost
import Derived.Deep.RegionHeld3
import Derived.Laws.BytesArg
set_option linter.unusedVariables false
set_option linter.unusedSimpArgs false
namespace Go.Proofs.Ythnbdeibjbicpaa
open Go.RowKit
/-- The world is the old one, some orders having been drawn. -/
structure Drew (w w' : World) : Prop where mk :: (out : ∃ n, w' = w.drewN n)
theorem Drew.refl (w : World) : Drew w w := ⟨⟨0, rfl⟩⟩
theorem Drew.step {w w' : World} (h : Drew w w') (n : Nat) : Drew w (w'.drewN n) := by
  obtain ⟨m, rfl⟩ := h.out
  exact ⟨⟨m + n, by rw [World.drewN_drewN]⟩⟩
theorem Drew.step1 {w w' : World} (h : Drew w w') : Drew w w'.drew := h.step 1
theorem ret_int {k : IntKind} {a b : Int} (h : a = b) : Ending.returned (.int k a) = .returned (.int k b) := by rw [h]
theorem ret_bool {a b : Bool} (h : a = b) : Ending.returned (.bool a) = .returned (.bool b) := by rw [h]
theorem Drew.below {w w' : World} (h : Drew w w') : Below w.heap.size w w' := by
  obtain ⟨n, rfl⟩ := h.out
  exact below_drewN (Below.refl _ _) n
theorem Drew.then_ {w w1 w2 : World} (h : Drew w w1) (hb : Below w1.heap.size w1 w2) : Below w.heap.size w w2 := by
  obtain ⟨n, rfl⟩ := h.out
  exact (below_drewN (Below.refl _ _) n).trans hb
theorem below_then {w w1 w2 : World} (h : Below w.heap.size w w1) (hb : Below w1.heap.size w1 w2) : Below w.heap.size w w2 := h.trans (hb.mono h.size)
/-- Two cells of a box stay behind a call that only makes memory. -/
theorem keep_box {w w' : World} {u v : Value} {t N : Nat} (hb : Below ((w.alloc (.cells #[u, v] t)).drewN N).heap.size ((w.alloc (.cells #[u, v] t)).drewN N) w') :
    w'.cell? ⟨w.heap.size, 0, none⟩ = some u ∧ w'.cell? ⟨w.heap.size, 1, none⟩ = some v := by
  have h1 : ((w.alloc (.cells #[u, v] t)).drewN N).cell? ⟨w.heap.size, 0, none⟩ = some u := by simp [World.cell?_alloc_at]
  have h2 : ((w.alloc (.cells #[u, v] t)).drewN N).cell? ⟨w.heap.size, 1, none⟩ = some v := by simp [World.cell?_alloc_at]
  exact ⟨(hb.cell (World.block_lt_of_cell? _ _ h1)).trans h1, (hb.cell (World.block_lt_of_cell? _ _ h2)).trans h2⟩
theorem add_row (g j : Nat) : (⟨g, 0, none⟩ : Addr).add j = ⟨g, j, none⟩ := by unfold Addr.add; split <;> simp_all
/-- A row of bytes of the call's own, as a string. -/
theorem own_text {P : Program} {w : World} {base n : Nat} {e' src dst e : TypeId} {v : Value} {xs : List Int} (hs : P.underlying src = some (.slice e)) (he : P.underlying e = some (.int .u8)) (hd : P.underlying dst = some .string)
    (h : w.ownsRow base e' 1 v n (xs.map (Value.int .u8))) : (convert src dst v).run P w = .ok (.string (strOfNums xs)) w := by
  have hl : xs.length = n := by have := h.1; simp at this; exact this
  rcases h.2 with ⟨rfl, rfl⟩ | ⟨g, cap, cur, rfl, _⟩
  · obtain rfl : xs = [] := List.eq_nil_of_length_eq_zero hl
    exact run_convert_bytes_nil w src e hs he 0 0 dst hd
  · refine run_convert_bytes_arg w src e hs he g 0 n cap xs hl (fun i hi => ?_) dst hd
    have hc := h.cells (g := g) rfl i (.int .u8 (xs.getD i 0)) (by simp [List.getElem?_eq_getElem (show i < xs.length by omega), List.getD_eq_getElem?_getD])
    rw [add_row] at hc
    rw [Nat.zero_add]
    exact hc
end Go.Proofs.Ythnbdeibjbicpaa
