/- Contracts of budwoodref09's Copy, all; Same. Conditions: the cells. -/
import Derived.Test.YthnbdeibjbicpaaHartR1
namespace Go.Proofs.Ythnbdeibjbicpaa.PM
set_option linter.unusedVariables false
set_option linter.unusedSimpArgs false
open Go.RowKit Go.Shelf Go.Lib
set_option maxRecDepth 100000 in
set_option maxHeartbeats 8000000 in
theorem rcopy_none (w : World) (pc : Nat) (R : Nat → Nat) (cap why ep home : Nat) :
    Calls Try.prog 14 #[hv pc R (.slice none 0 cap) why ep home] w fun e w' => Copied9 w pc R why ep home [] e w' := by
  unfold hv
  have F : Hid (∀ cs1 cs2, Copied9 w pc R why ep home [] (.returned (hv pc R (.slice (some ⟨w.heap.size + 2, 0, none⟩) 0 0) why ep home)) (((w.alloc (.cells cs1 28)).alloc (.cells cs2 28)).alloc (.cells #[] 22))) := Lib.hid fun cs1 cs2 => by
    have hm := World.ownsRow_made (base := w.heap.size) (e := 22) (size := 1) ((w.alloc (.cells cs1 28)).alloc (.cells cs2 28)) #[] 0 (by simp; omega) (Nat.zero_le _) (by simp)
    refine ⟨_, rfl, ?_, (((Below.refl _ w).alloc (Nat.le_refl _) _).alloc (by simp) _).alloc (by simp; omega) _⟩
    unfold Own
    simpa [u32s] using hm
  go_enter Try.func14, Try.ntmps14
  go_wp2_with fail
  unfold hv at F
  refine bodyPost_ret (v := .agg #[.int .u32 (pc : Int), .int .u32 (R 0 : Int), .int .u32 (R 1 : Int), .int .u32 (R 2 : Int), .int .u32 (R 3 : Int), .int .u32 (R 4 : Int), .int .u32 (R 5 : Int), .int .u32 (R 6 : Int), .int .u32 (R 7 : Int), (.slice (some ⟨w.heap.size + 2, 0, none⟩) 0 0), .int .u8 (why : Int), .int .u64 (ep : Int), .int .u32 (home : Int)]) (by simp [results, Try.results14, go_sem, *]) rfl ?_
  exact F.out _ _
theorem rcopy_c (w : World) (pc : Nat) (R : Nat → Nat) (src : Option Addr) (cap why ep home : Nat) (S : List Nat) (h : Stk w src S) (hn : S.length < 35184372088832) :
    Calls Try.prog 14 #[hv pc R (.slice src S.length cap) why ep home] w fun e w' => Copied9 w pc R why ep home S e w' := by
  cases src with
  | some a => exact rcopy_some w pc R a cap why ep home S h hn
  | none =>
    have h0 : S.length = 0 := by
      rcases Nat.eq_zero_or_pos S.length with q | q
      · exact q
      · obtain ⟨_, _, e, _⟩ := h 0 q; cases e
    obtain rfl : S = [] := List.eq_nil_of_length_eq_zero h0
    exact rcopy_none w pc R cap why ep home
end Go.Proofs.Ythnbdeibjbicpaa.PM
