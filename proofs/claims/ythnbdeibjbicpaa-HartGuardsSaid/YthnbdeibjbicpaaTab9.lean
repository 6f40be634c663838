/- Contracts of Used and Fork. Conditions: the table's cells. -/
import Derived.Test.YthnbdeibjbicpaaKTabC
import Derived.Deep.OwnRows
set_option linter.unusedSimpArgs false
namespace Go.Proofs.Ythnbdeibjbicpaa.PM
set_option linter.unusedVariables false
open Go.RowKit
def usedB (p : Page) : Bool := p.s != 0
theorem usedB_eq (p : Page) : usedB p = ((p.s : Int) != 0) := by unfold usedB; rw [Bool.eq_iff_iff]; simp
theorem info_bool : (Try.prog.info? 4).map (fun i => (i.zero, i.size, i.bytes)) = some (some (.bool false), 1, 1) := by kernel_rfl
def Forked (w : World) (T : List Page) (e : Ending) (w' : World) : Prop := ∃ g h c, e = .returned (.pointer (some ⟨g, 0, none⟩)) ∧ w.heap.size ≤ g ∧ w.heap.size ≤ h ∧ Tab w' g h c T ∧ Below w.heap.size w w'
theorem fork_c (w : World) (g h c : Nat) (T : List Page) (t : Tab w g h c T) :
    Calls Try.prog 49 #[.pointer (some ⟨g, 0, none⟩)] w fun e w' => Forked w T e w' := by
  have r0 := t.row
  have few := t.few
  have C := Lib.hid (clone_c h c T w t.pgs few)
  clear t
  go_enter Try.func49, Try.ntmps49
  go_wp2_with fail
  refine C.out.mono ?_
  rintro e w1 ⟨h', c', rfl, hh, hp, hc, hb⟩
  have F : Hid (Forked w T (.returned (.pointer (some ⟨w1.heap.size, 0, none⟩))) (w1.alloc (.cells #[.slice (some ⟨h', 0, none⟩) T.length c'] 100))) :=
    Lib.hid ⟨_, h', c', rfl, hb.size, hh, ⟨by simp, by simp, by have := hp.lt; omega, hp.alloc _, few, hc⟩, hb.alloc hb.size _⟩
  clear hp hb hc hh
  go_wp2_with fail
  go_ret
  exact F.out
theorem fork_nil (w : World) : Calls Try.prog 49 #[.pointer none] w fun e w' => e = .returned (.pointer none) ∧ Below w.heap.size w w' := by
  go_enter Try.func49, Try.ntmps49
  go_wp2_with fail
  go_ret
  exact ⟨rfl, Below.refl _ _⟩
theorem get_nil (w : World) (i : Int) : Calls Try.prog 23 #[.pointer none, .int .i64 i] w fun e w' => e = .returned nz.v ∧ Below w.heap.size w w' := by
  by_cases h0 : i < 0
  · go_enter Try.func23, Try.ntmps23
    go_wp2_with fail
    refine bodyPost_ret (v := .agg #[.int .u8 0, .bool false, .bool false, .int .u16 0, .int .u64 0]) (by simp [results, Try.results23, go_sem, *]) rfl ?_
    exact ⟨rfl, (Below.refl _ _).alloc (Nat.le_refl _) _⟩
  · go_enter Try.func23, Try.ntmps23
    go_wp2_with (go_at_call 52; (with_reducible refine (len_nil_c _).mono ?_); rintro e w' ⟨rfl, rfl⟩)
    refine bodyPost_ret (v := .agg #[.int .u8 0, .bool false, .bool false, .int .u16 0, .int .u64 0]) (by simp [results, Try.results23, go_sem, *]) rfl ?_
    exact ⟨rfl, (Below.refl _ _).alloc (Nat.le_refl _) _⟩
end Go.Proofs.Ythnbdeibjbicpaa.PM
