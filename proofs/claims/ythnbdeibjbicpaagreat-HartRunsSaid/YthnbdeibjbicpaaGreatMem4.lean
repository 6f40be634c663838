/- The kit's contract of slices.Clone, at words; contracts of memory's Fork, and of what a memory that is not there answers. Conditions: the memory's cells. -/
import Derived.Test.YthnbdeibjbicpaaGreatMem3
import Derived.Test.YthnbdeibjbicpaaGreatTab9
set_option linter.unusedSimpArgs false
namespace Go.Proofs.YthnbdeibjbicpaaGreat.PM
set_option linter.unusedVariables false
open Go.Shelf Go.RowKit Go.Lib
def renW : Ren := ⟨fun | 41 => 71 | n => n, fun | 4 => 4 | 22 => 22 | 23 => 23 | n => n, fun n => n⟩
theorem laysW : SlLaysE0.n41 Tryz.prog renW where
  mixed := by kernel_rfl
  f41 := ⟨"slices.Clone[[]uint32,uint32]", by decide, Tryz.func71.trans (congrArg some (by kernel_rfl))⟩
  t4 := Tryz.underlying4
  a4 := Tryz.isAgg4
  z4 := Tryz.sizeOf4
  v4 := Tryz.zeroValue4
  t22 := Tryz.underlying22
  a22 := Tryz.isAgg22
  z22 := Tryz.sizeOf22
  v22 := Tryz.zeroValue22
/-- What a row of the call's own holds, as words. -/
theorem Wds.own4 {w : World} {base : Nat} {e : TypeId} {v : Value} {L : List Nat} (ho : w.ownsRow base e 1 v L.length (L.map fun (x : Nat) => Value.int .u32 (x : Int))) (hv : v ≠ .slice none 0 0) : ∃ h c, v = .slice (some ⟨h, 0, none⟩) L.length c ∧ base ≤ h ∧ Wds w h L ∧ L.length ≤ c := by
  obtain ⟨hl, ⟨rfl, _⟩ | ⟨g, cap, cur, rfl, hg, hb, hn, hm, hs, hx⟩⟩ := ho
  · exact absurd rfl hv
  refine ⟨g, cap, rfl, hg, ⟨Blk.lt hb, fun j hj => ?_, fun o => Blk.frozen hb o⟩, hn⟩
  rw [Blk.cell hb j]
  have h1 : (L.map fun (x : Nat) => Value.int .u32 (x : Int))[j]? = some (.int .u32 ((L[j]! : Nat) : Int)) := by
    rw [List.getElem?_map, List.getElem!_eq_getElem?_getD, List.getElem?_eq_getElem hj]
    rfl
  rw [← hx, List.getElem?_take] at h1
  split at h1
  · rw [← h1]; simp
  · cases h1
def MForked (w : World) (G : Nat → Nat) (T : List Page) (L : List Nat) (e : Ending) (w' : World) : Prop := ∃ M g h c d cd, e = .returned (.pointer (some ⟨M, 0, none⟩)) ∧ w.heap.size ≤ M ∧ w.heap.size ≤ g ∧ w.heap.size ≤ h ∧ w.heap.size ≤ d ∧ Mem w' M g h c d cd G T L ∧ Below w.heap.size w w'
end Go.Proofs.YthnbdeibjbicpaaGreat.PM
