/- Contract of the reference's memory: SetGate. Conditions: none. -/
import Derived.Test.YtjjcmclnjeplkaaRef9
set_option linter.unusedSimpArgs false
namespace Go.Proofs.Ytjjcmclnjeplkaa.PM
set_option linter.unusedVariables false
open Go.RowKit
def RGate (w : World) (v : Value) (e : Ending) (w' : World) : Prop := e = .returned v ∧ Below w.heap.size w w'
set_option maxRecDepth 100000 in
set_option maxHeartbeats 8000000 in
theorem rsetgate_c (w : World) (G : Nat → Nat) (b cb d cd : Nat) (T : List Page) (L : List Nat) (i : Int) (v : Nat) :
    Calls Try.prog 81 #[rm G b cb T d cd L, .int .i64 i, .int .u32 (v : Int)] w fun e w' => RGate w (.tuple #[rm (setM G i v).1 b cb T d cd L, .int .i64 ((setM G i v).2 : Int)]) e w' := by
  have FF : ∀ (A Z : Array Value) (t : TypeId) (x : Value), Hid (RGate w x (.returned x) ((w.alloc (.cells A t)).alloc (.cells Z t))) := fun A Z t x => Lib.hid ⟨rfl, ((Below.refl _ w).alloc (Nat.le_refl _) _).alloc (by simp) _⟩
  unfold setM
  by_cases h0 : i < 0
  · rw [if_neg (by omega)]
    unfold rm
    go_enter Try.func81, Try.ntmps81
    go_wp2_with fail
    refine bodyPost_ret (v := .tuple #[.agg #[.int .u32 (G 0 : Int), .int .u32 (G 1 : Int), .int .u32 (G 2 : Int), .int .u32 (G 3 : Int), .int .u32 (G 4 : Int), .int .u32 (G 5 : Int), .int .u32 (G 6 : Int), .int .u32 (G 7 : Int), .slice (some ⟨b, 0, none⟩) T.length cb, .slice (some ⟨d, 0, none⟩) L.length cd], .int .i64 2]) (by simp [results, Try.results81, go_sem, *]) rfl ?_
    exact (FF _ _ _ _).out
  by_cases h1 : 8 ≤ i
  · rw [if_neg (by omega)]
    unfold rm
    go_enter Try.func81, Try.ntmps81
    go_wp2_with fail
    refine bodyPost_ret (v := .tuple #[.agg #[.int .u32 (G 0 : Int), .int .u32 (G 1 : Int), .int .u32 (G 2 : Int), .int .u32 (G 3 : Int), .int .u32 (G 4 : Int), .int .u32 (G 5 : Int), .int .u32 (G 6 : Int), .int .u32 (G 7 : Int), .slice (some ⟨b, 0, none⟩) T.length cb, .slice (some ⟨d, 0, none⟩) L.length cd], .int .i64 2]) (by simp [results, Try.results81, go_sem, *]) rfl ?_
    exact (FF _ _ _ _).out
  obtain ⟨y, rfl⟩ : ∃ y : Nat, i = (y : Int) := ⟨i.toNat, by omega⟩
  have hy8 : y < 8 := by omega
  rw [if_pos (by omega), Int.toNat_natCast]
  clear h0 h1
  match y, hy8 with
  | 0, _ =>
    show Calls Try.prog 81 #[.agg #[.int .u32 (G 0 : Int), .int .u32 (G 1 : Int), .int .u32 (G 2 : Int), .int .u32 (G 3 : Int), .int .u32 (G 4 : Int), .int .u32 (G 5 : Int), .int .u32 (G 6 : Int), .int .u32 (G 7 : Int), .slice (some ⟨b, 0, none⟩) T.length cb, .slice (some ⟨d, 0, none⟩) L.length cd], .int .i64 0, .int .u32 (v : Int)] w fun e w' => RGate w (.tuple #[.agg #[.int .u32 (v : Int), .int .u32 (G 1 : Int), .int .u32 (G 2 : Int), .int .u32 (G 3 : Int), .int .u32 (G 4 : Int), .int .u32 (G 5 : Int), .int .u32 (G 6 : Int), .int .u32 (G 7 : Int), .slice (some ⟨b, 0, none⟩) T.length cb, .slice (some ⟨d, 0, none⟩) L.length cd], .int .i64 0]) e w'
    go_enter Try.func81, Try.ntmps81
    go_wp2_with fail
    refine bodyPost_ret (v := .tuple #[.agg #[.int .u32 (v : Int), .int .u32 (G 1 : Int), .int .u32 (G 2 : Int), .int .u32 (G 3 : Int), .int .u32 (G 4 : Int), .int .u32 (G 5 : Int), .int .u32 (G 6 : Int), .int .u32 (G 7 : Int), .slice (some ⟨b, 0, none⟩) T.length cb, .slice (some ⟨d, 0, none⟩) L.length cd], .int .i64 0]) (by simp [results, Try.results81, go_sem, *]) rfl ?_
    exact (FF _ _ _ _).out
  | 1, _ =>
    show Calls Try.prog 81 #[.agg #[.int .u32 (G 0 : Int), .int .u32 (G 1 : Int), .int .u32 (G 2 : Int), .int .u32 (G 3 : Int), .int .u32 (G 4 : Int), .int .u32 (G 5 : Int), .int .u32 (G 6 : Int), .int .u32 (G 7 : Int), .slice (some ⟨b, 0, none⟩) T.length cb, .slice (some ⟨d, 0, none⟩) L.length cd], .int .i64 1, .int .u32 (v : Int)] w fun e w' => RGate w (.tuple #[.agg #[.int .u32 (G 0 : Int), .int .u32 (v : Int), .int .u32 (G 2 : Int), .int .u32 (G 3 : Int), .int .u32 (G 4 : Int), .int .u32 (G 5 : Int), .int .u32 (G 6 : Int), .int .u32 (G 7 : Int), .slice (some ⟨b, 0, none⟩) T.length cb, .slice (some ⟨d, 0, none⟩) L.length cd], .int .i64 0]) e w'
    go_enter Try.func81, Try.ntmps81
    go_wp2_with fail
    refine bodyPost_ret (v := .tuple #[.agg #[.int .u32 (G 0 : Int), .int .u32 (v : Int), .int .u32 (G 2 : Int), .int .u32 (G 3 : Int), .int .u32 (G 4 : Int), .int .u32 (G 5 : Int), .int .u32 (G 6 : Int), .int .u32 (G 7 : Int), .slice (some ⟨b, 0, none⟩) T.length cb, .slice (some ⟨d, 0, none⟩) L.length cd], .int .i64 0]) (by simp [results, Try.results81, go_sem, *]) rfl ?_
    exact (FF _ _ _ _).out
  | 2, _ =>
    show Calls Try.prog 81 #[.agg #[.int .u32 (G 0 : Int), .int .u32 (G 1 : Int), .int .u32 (G 2 : Int), .int .u32 (G 3 : Int), .int .u32 (G 4 : Int), .int .u32 (G 5 : Int), .int .u32 (G 6 : Int), .int .u32 (G 7 : Int), .slice (some ⟨b, 0, none⟩) T.length cb, .slice (some ⟨d, 0, none⟩) L.length cd], .int .i64 2, .int .u32 (v : Int)] w fun e w' => RGate w (.tuple #[.agg #[.int .u32 (G 0 : Int), .int .u32 (G 1 : Int), .int .u32 (v : Int), .int .u32 (G 3 : Int), .int .u32 (G 4 : Int), .int .u32 (G 5 : Int), .int .u32 (G 6 : Int), .int .u32 (G 7 : Int), .slice (some ⟨b, 0, none⟩) T.length cb, .slice (some ⟨d, 0, none⟩) L.length cd], .int .i64 0]) e w'
    go_enter Try.func81, Try.ntmps81
    go_wp2_with fail
    refine bodyPost_ret (v := .tuple #[.agg #[.int .u32 (G 0 : Int), .int .u32 (G 1 : Int), .int .u32 (v : Int), .int .u32 (G 3 : Int), .int .u32 (G 4 : Int), .int .u32 (G 5 : Int), .int .u32 (G 6 : Int), .int .u32 (G 7 : Int), .slice (some ⟨b, 0, none⟩) T.length cb, .slice (some ⟨d, 0, none⟩) L.length cd], .int .i64 0]) (by simp [results, Try.results81, go_sem, *]) rfl ?_
    exact (FF _ _ _ _).out
  | 3, _ =>
    show Calls Try.prog 81 #[.agg #[.int .u32 (G 0 : Int), .int .u32 (G 1 : Int), .int .u32 (G 2 : Int), .int .u32 (G 3 : Int), .int .u32 (G 4 : Int), .int .u32 (G 5 : Int), .int .u32 (G 6 : Int), .int .u32 (G 7 : Int), .slice (some ⟨b, 0, none⟩) T.length cb, .slice (some ⟨d, 0, none⟩) L.length cd], .int .i64 3, .int .u32 (v : Int)] w fun e w' => RGate w (.tuple #[.agg #[.int .u32 (G 0 : Int), .int .u32 (G 1 : Int), .int .u32 (G 2 : Int), .int .u32 (v : Int), .int .u32 (G 4 : Int), .int .u32 (G 5 : Int), .int .u32 (G 6 : Int), .int .u32 (G 7 : Int), .slice (some ⟨b, 0, none⟩) T.length cb, .slice (some ⟨d, 0, none⟩) L.length cd], .int .i64 0]) e w'
    go_enter Try.func81, Try.ntmps81
    go_wp2_with fail
    refine bodyPost_ret (v := .tuple #[.agg #[.int .u32 (G 0 : Int), .int .u32 (G 1 : Int), .int .u32 (G 2 : Int), .int .u32 (v : Int), .int .u32 (G 4 : Int), .int .u32 (G 5 : Int), .int .u32 (G 6 : Int), .int .u32 (G 7 : Int), .slice (some ⟨b, 0, none⟩) T.length cb, .slice (some ⟨d, 0, none⟩) L.length cd], .int .i64 0]) (by simp [results, Try.results81, go_sem, *]) rfl ?_
    exact (FF _ _ _ _).out
  | 4, _ =>
    show Calls Try.prog 81 #[.agg #[.int .u32 (G 0 : Int), .int .u32 (G 1 : Int), .int .u32 (G 2 : Int), .int .u32 (G 3 : Int), .int .u32 (G 4 : Int), .int .u32 (G 5 : Int), .int .u32 (G 6 : Int), .int .u32 (G 7 : Int), .slice (some ⟨b, 0, none⟩) T.length cb, .slice (some ⟨d, 0, none⟩) L.length cd], .int .i64 4, .int .u32 (v : Int)] w fun e w' => RGate w (.tuple #[.agg #[.int .u32 (G 0 : Int), .int .u32 (G 1 : Int), .int .u32 (G 2 : Int), .int .u32 (G 3 : Int), .int .u32 (v : Int), .int .u32 (G 5 : Int), .int .u32 (G 6 : Int), .int .u32 (G 7 : Int), .slice (some ⟨b, 0, none⟩) T.length cb, .slice (some ⟨d, 0, none⟩) L.length cd], .int .i64 0]) e w'
    go_enter Try.func81, Try.ntmps81
    go_wp2_with fail
    refine bodyPost_ret (v := .tuple #[.agg #[.int .u32 (G 0 : Int), .int .u32 (G 1 : Int), .int .u32 (G 2 : Int), .int .u32 (G 3 : Int), .int .u32 (v : Int), .int .u32 (G 5 : Int), .int .u32 (G 6 : Int), .int .u32 (G 7 : Int), .slice (some ⟨b, 0, none⟩) T.length cb, .slice (some ⟨d, 0, none⟩) L.length cd], .int .i64 0]) (by simp [results, Try.results81, go_sem, *]) rfl ?_
    exact (FF _ _ _ _).out
  | 5, _ =>
    show Calls Try.prog 81 #[.agg #[.int .u32 (G 0 : Int), .int .u32 (G 1 : Int), .int .u32 (G 2 : Int), .int .u32 (G 3 : Int), .int .u32 (G 4 : Int), .int .u32 (G 5 : Int), .int .u32 (G 6 : Int), .int .u32 (G 7 : Int), .slice (some ⟨b, 0, none⟩) T.length cb, .slice (some ⟨d, 0, none⟩) L.length cd], .int .i64 5, .int .u32 (v : Int)] w fun e w' => RGate w (.tuple #[.agg #[.int .u32 (G 0 : Int), .int .u32 (G 1 : Int), .int .u32 (G 2 : Int), .int .u32 (G 3 : Int), .int .u32 (G 4 : Int), .int .u32 (v : Int), .int .u32 (G 6 : Int), .int .u32 (G 7 : Int), .slice (some ⟨b, 0, none⟩) T.length cb, .slice (some ⟨d, 0, none⟩) L.length cd], .int .i64 0]) e w'
    go_enter Try.func81, Try.ntmps81
    go_wp2_with fail
    refine bodyPost_ret (v := .tuple #[.agg #[.int .u32 (G 0 : Int), .int .u32 (G 1 : Int), .int .u32 (G 2 : Int), .int .u32 (G 3 : Int), .int .u32 (G 4 : Int), .int .u32 (v : Int), .int .u32 (G 6 : Int), .int .u32 (G 7 : Int), .slice (some ⟨b, 0, none⟩) T.length cb, .slice (some ⟨d, 0, none⟩) L.length cd], .int .i64 0]) (by simp [results, Try.results81, go_sem, *]) rfl ?_
    exact (FF _ _ _ _).out
  | 6, _ =>
    show Calls Try.prog 81 #[.agg #[.int .u32 (G 0 : Int), .int .u32 (G 1 : Int), .int .u32 (G 2 : Int), .int .u32 (G 3 : Int), .int .u32 (G 4 : Int), .int .u32 (G 5 : Int), .int .u32 (G 6 : Int), .int .u32 (G 7 : Int), .slice (some ⟨b, 0, none⟩) T.length cb, .slice (some ⟨d, 0, none⟩) L.length cd], .int .i64 6, .int .u32 (v : Int)] w fun e w' => RGate w (.tuple #[.agg #[.int .u32 (G 0 : Int), .int .u32 (G 1 : Int), .int .u32 (G 2 : Int), .int .u32 (G 3 : Int), .int .u32 (G 4 : Int), .int .u32 (G 5 : Int), .int .u32 (v : Int), .int .u32 (G 7 : Int), .slice (some ⟨b, 0, none⟩) T.length cb, .slice (some ⟨d, 0, none⟩) L.length cd], .int .i64 0]) e w'
    go_enter Try.func81, Try.ntmps81
    go_wp2_with fail
    refine bodyPost_ret (v := .tuple #[.agg #[.int .u32 (G 0 : Int), .int .u32 (G 1 : Int), .int .u32 (G 2 : Int), .int .u32 (G 3 : Int), .int .u32 (G 4 : Int), .int .u32 (G 5 : Int), .int .u32 (v : Int), .int .u32 (G 7 : Int), .slice (some ⟨b, 0, none⟩) T.length cb, .slice (some ⟨d, 0, none⟩) L.length cd], .int .i64 0]) (by simp [results, Try.results81, go_sem, *]) rfl ?_
    exact (FF _ _ _ _).out
  | 7, _ =>
    show Calls Try.prog 81 #[.agg #[.int .u32 (G 0 : Int), .int .u32 (G 1 : Int), .int .u32 (G 2 : Int), .int .u32 (G 3 : Int), .int .u32 (G 4 : Int), .int .u32 (G 5 : Int), .int .u32 (G 6 : Int), .int .u32 (G 7 : Int), .slice (some ⟨b, 0, none⟩) T.length cb, .slice (some ⟨d, 0, none⟩) L.length cd], .int .i64 7, .int .u32 (v : Int)] w fun e w' => RGate w (.tuple #[.agg #[.int .u32 (G 0 : Int), .int .u32 (G 1 : Int), .int .u32 (G 2 : Int), .int .u32 (G 3 : Int), .int .u32 (G 4 : Int), .int .u32 (G 5 : Int), .int .u32 (G 6 : Int), .int .u32 (v : Int), .slice (some ⟨b, 0, none⟩) T.length cb, .slice (some ⟨d, 0, none⟩) L.length cd], .int .i64 0]) e w'
    go_enter Try.func81, Try.ntmps81
    go_wp2_with fail
    refine bodyPost_ret (v := .tuple #[.agg #[.int .u32 (G 0 : Int), .int .u32 (G 1 : Int), .int .u32 (G 2 : Int), .int .u32 (G 3 : Int), .int .u32 (G 4 : Int), .int .u32 (G 5 : Int), .int .u32 (G 6 : Int), .int .u32 (v : Int), .slice (some ⟨b, 0, none⟩) T.length cb, .slice (some ⟨d, 0, none⟩) L.length cd], .int .i64 0]) (by simp [results, Try.results81, go_sem, *]) rfl ?_
    exact (FF _ _ _ _).out
end Go.Proofs.Ytjjcmclnjeplkaa.PM
