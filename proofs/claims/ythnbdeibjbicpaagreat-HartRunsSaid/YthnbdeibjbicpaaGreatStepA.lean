/- Contracts of budwoodref09's r, put, still, next, safe, reckon. Conditions: the values' bounds. -/
import Derived.Test.YthnbdeibjbicpaaGreatHartE
import Derived.Test.YthnbdeibjbicpaaGreatKHartR
import Derived.Test.YthnbdeibjbicpaaGreatKRefB
namespace Go.Proofs.YthnbdeibjbicpaaGreat.PM
set_option linter.unusedVariables false
set_option linter.unusedSimpArgs false
open Go.RowKit
theorem bel1 (w : World) (a : Obj) : Below w.heap.size w (w.alloc a) := (Below.refl _ w).alloc (Nat.le_refl _) _
theorem bel2 (w : World) (a b : Obj) : Below w.heap.size w ((w.alloc a).alloc b) := ((Below.refl _ w).alloc (Nat.le_refl _) _).alloc (by simp) _
theorem bel3 (w : World) (a b c : Obj) : Below w.heap.size w (((w.alloc a).alloc b).alloc c) := (((Below.refl _ w).alloc (Nat.le_refl _) _).alloc (by simp) _).alloc (by simp; omega) _
set_option maxRecDepth 100000 in
set_option maxHeartbeats 4000000 in
theorem rr_c (w : World) (pc : Nat) (R : Nat → Nat) (src : Option Addr) (n cap why ep home : Nat) (i : Nat) (hi : i < 8) :
    Calls Tryz.prog 37 #[hv pc R (.slice src n cap) why ep home, .int .u8 (i : Int)] w fun e w' => e = .returned (.int .u32 (getR R i : Int)) ∧ Below w.heap.size w w' := by
  unfold hv
  match i, hi with
  | 0, _ =>
    show Calls Tryz.prog 37 #[.agg #[.int .u32 (pc : Int), .int .u32 (R 0 : Int), .int .u32 (R 1 : Int), .int .u32 (R 2 : Int), .int .u32 (R 3 : Int), .int .u32 (R 4 : Int), .int .u32 (R 5 : Int), .int .u32 (R 6 : Int), .int .u32 (R 7 : Int), (.slice src n cap), .int .u8 (why : Int), .int .u64 (ep : Int), .int .u32 (home : Int)], .int .u8 0] w fun e w' => e = .returned (.int .u32 0) ∧ Below w.heap.size w w'
    go_enter Tryz.func37, Tryz.ntmps37
    go_wp2_with fail
    go_ret
    exact ⟨rfl, bel1 w _⟩
  | 1, _ =>
    show Calls Tryz.prog 37 #[.agg #[.int .u32 (pc : Int), .int .u32 (R 0 : Int), .int .u32 (R 1 : Int), .int .u32 (R 2 : Int), .int .u32 (R 3 : Int), .int .u32 (R 4 : Int), .int .u32 (R 5 : Int), .int .u32 (R 6 : Int), .int .u32 (R 7 : Int), (.slice src n cap), .int .u8 (why : Int), .int .u64 (ep : Int), .int .u32 (home : Int)], .int .u8 1] w fun e w' => e = .returned (.int .u32 (R 1 : Int)) ∧ Below w.heap.size w w'
    go_enter Tryz.func37, Tryz.ntmps37
    go_wp2_with fail
    go_ret
    exact ⟨rfl, bel1 w _⟩
  | 2, _ =>
    show Calls Tryz.prog 37 #[.agg #[.int .u32 (pc : Int), .int .u32 (R 0 : Int), .int .u32 (R 1 : Int), .int .u32 (R 2 : Int), .int .u32 (R 3 : Int), .int .u32 (R 4 : Int), .int .u32 (R 5 : Int), .int .u32 (R 6 : Int), .int .u32 (R 7 : Int), (.slice src n cap), .int .u8 (why : Int), .int .u64 (ep : Int), .int .u32 (home : Int)], .int .u8 2] w fun e w' => e = .returned (.int .u32 (R 2 : Int)) ∧ Below w.heap.size w w'
    go_enter Tryz.func37, Tryz.ntmps37
    go_wp2_with fail
    go_ret
    exact ⟨rfl, bel1 w _⟩
  | 3, _ =>
    show Calls Tryz.prog 37 #[.agg #[.int .u32 (pc : Int), .int .u32 (R 0 : Int), .int .u32 (R 1 : Int), .int .u32 (R 2 : Int), .int .u32 (R 3 : Int), .int .u32 (R 4 : Int), .int .u32 (R 5 : Int), .int .u32 (R 6 : Int), .int .u32 (R 7 : Int), (.slice src n cap), .int .u8 (why : Int), .int .u64 (ep : Int), .int .u32 (home : Int)], .int .u8 3] w fun e w' => e = .returned (.int .u32 (R 3 : Int)) ∧ Below w.heap.size w w'
    go_enter Tryz.func37, Tryz.ntmps37
    go_wp2_with fail
    go_ret
    exact ⟨rfl, bel1 w _⟩
  | 4, _ =>
    show Calls Tryz.prog 37 #[.agg #[.int .u32 (pc : Int), .int .u32 (R 0 : Int), .int .u32 (R 1 : Int), .int .u32 (R 2 : Int), .int .u32 (R 3 : Int), .int .u32 (R 4 : Int), .int .u32 (R 5 : Int), .int .u32 (R 6 : Int), .int .u32 (R 7 : Int), (.slice src n cap), .int .u8 (why : Int), .int .u64 (ep : Int), .int .u32 (home : Int)], .int .u8 4] w fun e w' => e = .returned (.int .u32 (R 4 : Int)) ∧ Below w.heap.size w w'
    go_enter Tryz.func37, Tryz.ntmps37
    go_wp2_with fail
    go_ret
    exact ⟨rfl, bel1 w _⟩
  | 5, _ =>
    show Calls Tryz.prog 37 #[.agg #[.int .u32 (pc : Int), .int .u32 (R 0 : Int), .int .u32 (R 1 : Int), .int .u32 (R 2 : Int), .int .u32 (R 3 : Int), .int .u32 (R 4 : Int), .int .u32 (R 5 : Int), .int .u32 (R 6 : Int), .int .u32 (R 7 : Int), (.slice src n cap), .int .u8 (why : Int), .int .u64 (ep : Int), .int .u32 (home : Int)], .int .u8 5] w fun e w' => e = .returned (.int .u32 (R 5 : Int)) ∧ Below w.heap.size w w'
    go_enter Tryz.func37, Tryz.ntmps37
    go_wp2_with fail
    go_ret
    exact ⟨rfl, bel1 w _⟩
  | 6, _ =>
    show Calls Tryz.prog 37 #[.agg #[.int .u32 (pc : Int), .int .u32 (R 0 : Int), .int .u32 (R 1 : Int), .int .u32 (R 2 : Int), .int .u32 (R 3 : Int), .int .u32 (R 4 : Int), .int .u32 (R 5 : Int), .int .u32 (R 6 : Int), .int .u32 (R 7 : Int), (.slice src n cap), .int .u8 (why : Int), .int .u64 (ep : Int), .int .u32 (home : Int)], .int .u8 6] w fun e w' => e = .returned (.int .u32 (R 6 : Int)) ∧ Below w.heap.size w w'
    go_enter Tryz.func37, Tryz.ntmps37
    go_wp2_with fail
    go_ret
    exact ⟨rfl, bel1 w _⟩
  | 7, _ =>
    show Calls Tryz.prog 37 #[.agg #[.int .u32 (pc : Int), .int .u32 (R 0 : Int), .int .u32 (R 1 : Int), .int .u32 (R 2 : Int), .int .u32 (R 3 : Int), .int .u32 (R 4 : Int), .int .u32 (R 5 : Int), .int .u32 (R 6 : Int), .int .u32 (R 7 : Int), (.slice src n cap), .int .u8 (why : Int), .int .u64 (ep : Int), .int .u32 (home : Int)], .int .u8 7] w fun e w' => e = .returned (.int .u32 (R 7 : Int)) ∧ Below w.heap.size w w'
    go_enter Tryz.func37, Tryz.ntmps37
    go_wp2_with fail
    go_ret
    exact ⟨rfl, bel1 w _⟩
set_option maxRecDepth 100000 in
set_option maxHeartbeats 4000000 in
theorem rputr_c (w : World) (pc : Nat) (R : Nat → Nat) (src : Option Addr) (n cap why ep home : Nat) (i v : Nat) (hi : i < 8) :
    Calls Tryz.prog 40 #[hv pc R (.slice src n cap) why ep home, .int .u8 (i : Int), .int .u32 (v : Int)] w fun e w' => e = .returned (hv pc (setR R i v) (.slice src n cap) why ep home) ∧ Below w.heap.size w w' := by
  match i, hi with
  | 0, _ =>
    show Calls Tryz.prog 40 #[.agg #[.int .u32 (pc : Int), .int .u32 (R 0 : Int), .int .u32 (R 1 : Int), .int .u32 (R 2 : Int), .int .u32 (R 3 : Int), .int .u32 (R 4 : Int), .int .u32 (R 5 : Int), .int .u32 (R 6 : Int), .int .u32 (R 7 : Int), (.slice src n cap), .int .u8 (why : Int), .int .u64 (ep : Int), .int .u32 (home : Int)], .int .u8 0, .int .u32 (v : Int)] w fun e w' => e = .returned (.agg #[.int .u32 (pc : Int), .int .u32 (R 0 : Int), .int .u32 (R 1 : Int), .int .u32 (R 2 : Int), .int .u32 (R 3 : Int), .int .u32 (R 4 : Int), .int .u32 (R 5 : Int), .int .u32 (R 6 : Int), .int .u32 (R 7 : Int), (.slice src n cap), .int .u8 (why : Int), .int .u64 (ep : Int), .int .u32 (home : Int)]) ∧ Below w.heap.size w w'
    go_enter Tryz.func40, Tryz.ntmps40
    go_wp2_with fail
    refine bodyPost_ret (v := .agg #[.int .u32 (pc : Int), .int .u32 (R 0 : Int), .int .u32 (R 1 : Int), .int .u32 (R 2 : Int), .int .u32 (R 3 : Int), .int .u32 (R 4 : Int), .int .u32 (R 5 : Int), .int .u32 (R 6 : Int), .int .u32 (R 7 : Int), (.slice src n cap), .int .u8 (why : Int), .int .u64 (ep : Int), .int .u32 (home : Int)]) (by simp [results, Tryz.results40, go_sem, *]) rfl ?_
    exact ⟨rfl, bel2 w _ _⟩
  | 1, _ =>
    show Calls Tryz.prog 40 #[.agg #[.int .u32 (pc : Int), .int .u32 (R 0 : Int), .int .u32 (R 1 : Int), .int .u32 (R 2 : Int), .int .u32 (R 3 : Int), .int .u32 (R 4 : Int), .int .u32 (R 5 : Int), .int .u32 (R 6 : Int), .int .u32 (R 7 : Int), (.slice src n cap), .int .u8 (why : Int), .int .u64 (ep : Int), .int .u32 (home : Int)], .int .u8 1, .int .u32 (v : Int)] w fun e w' => e = .returned (.agg #[.int .u32 (pc : Int), .int .u32 (R 0 : Int), .int .u32 (v : Int), .int .u32 (R 2 : Int), .int .u32 (R 3 : Int), .int .u32 (R 4 : Int), .int .u32 (R 5 : Int), .int .u32 (R 6 : Int), .int .u32 (R 7 : Int), (.slice src n cap), .int .u8 (why : Int), .int .u64 (ep : Int), .int .u32 (home : Int)]) ∧ Below w.heap.size w w'
    go_enter Tryz.func40, Tryz.ntmps40
    go_wp2_with fail
    refine bodyPost_ret (v := .agg #[.int .u32 (pc : Int), .int .u32 (R 0 : Int), .int .u32 (v : Int), .int .u32 (R 2 : Int), .int .u32 (R 3 : Int), .int .u32 (R 4 : Int), .int .u32 (R 5 : Int), .int .u32 (R 6 : Int), .int .u32 (R 7 : Int), (.slice src n cap), .int .u8 (why : Int), .int .u64 (ep : Int), .int .u32 (home : Int)]) (by simp [results, Tryz.results40, go_sem, *]) rfl ?_
    exact ⟨rfl, bel2 w _ _⟩
  | 2, _ =>
    show Calls Tryz.prog 40 #[.agg #[.int .u32 (pc : Int), .int .u32 (R 0 : Int), .int .u32 (R 1 : Int), .int .u32 (R 2 : Int), .int .u32 (R 3 : Int), .int .u32 (R 4 : Int), .int .u32 (R 5 : Int), .int .u32 (R 6 : Int), .int .u32 (R 7 : Int), (.slice src n cap), .int .u8 (why : Int), .int .u64 (ep : Int), .int .u32 (home : Int)], .int .u8 2, .int .u32 (v : Int)] w fun e w' => e = .returned (.agg #[.int .u32 (pc : Int), .int .u32 (R 0 : Int), .int .u32 (R 1 : Int), .int .u32 (v : Int), .int .u32 (R 3 : Int), .int .u32 (R 4 : Int), .int .u32 (R 5 : Int), .int .u32 (R 6 : Int), .int .u32 (R 7 : Int), (.slice src n cap), .int .u8 (why : Int), .int .u64 (ep : Int), .int .u32 (home : Int)]) ∧ Below w.heap.size w w'
    go_enter Tryz.func40, Tryz.ntmps40
    go_wp2_with fail
    refine bodyPost_ret (v := .agg #[.int .u32 (pc : Int), .int .u32 (R 0 : Int), .int .u32 (R 1 : Int), .int .u32 (v : Int), .int .u32 (R 3 : Int), .int .u32 (R 4 : Int), .int .u32 (R 5 : Int), .int .u32 (R 6 : Int), .int .u32 (R 7 : Int), (.slice src n cap), .int .u8 (why : Int), .int .u64 (ep : Int), .int .u32 (home : Int)]) (by simp [results, Tryz.results40, go_sem, *]) rfl ?_
    exact ⟨rfl, bel2 w _ _⟩
  | 3, _ =>
    show Calls Tryz.prog 40 #[.agg #[.int .u32 (pc : Int), .int .u32 (R 0 : Int), .int .u32 (R 1 : Int), .int .u32 (R 2 : Int), .int .u32 (R 3 : Int), .int .u32 (R 4 : Int), .int .u32 (R 5 : Int), .int .u32 (R 6 : Int), .int .u32 (R 7 : Int), (.slice src n cap), .int .u8 (why : Int), .int .u64 (ep : Int), .int .u32 (home : Int)], .int .u8 3, .int .u32 (v : Int)] w fun e w' => e = .returned (.agg #[.int .u32 (pc : Int), .int .u32 (R 0 : Int), .int .u32 (R 1 : Int), .int .u32 (R 2 : Int), .int .u32 (v : Int), .int .u32 (R 4 : Int), .int .u32 (R 5 : Int), .int .u32 (R 6 : Int), .int .u32 (R 7 : Int), (.slice src n cap), .int .u8 (why : Int), .int .u64 (ep : Int), .int .u32 (home : Int)]) ∧ Below w.heap.size w w'
    go_enter Tryz.func40, Tryz.ntmps40
    go_wp2_with fail
    refine bodyPost_ret (v := .agg #[.int .u32 (pc : Int), .int .u32 (R 0 : Int), .int .u32 (R 1 : Int), .int .u32 (R 2 : Int), .int .u32 (v : Int), .int .u32 (R 4 : Int), .int .u32 (R 5 : Int), .int .u32 (R 6 : Int), .int .u32 (R 7 : Int), (.slice src n cap), .int .u8 (why : Int), .int .u64 (ep : Int), .int .u32 (home : Int)]) (by simp [results, Tryz.results40, go_sem, *]) rfl ?_
    exact ⟨rfl, bel2 w _ _⟩
  | 4, _ =>
    show Calls Tryz.prog 40 #[.agg #[.int .u32 (pc : Int), .int .u32 (R 0 : Int), .int .u32 (R 1 : Int), .int .u32 (R 2 : Int), .int .u32 (R 3 : Int), .int .u32 (R 4 : Int), .int .u32 (R 5 : Int), .int .u32 (R 6 : Int), .int .u32 (R 7 : Int), (.slice src n cap), .int .u8 (why : Int), .int .u64 (ep : Int), .int .u32 (home : Int)], .int .u8 4, .int .u32 (v : Int)] w fun e w' => e = .returned (.agg #[.int .u32 (pc : Int), .int .u32 (R 0 : Int), .int .u32 (R 1 : Int), .int .u32 (R 2 : Int), .int .u32 (R 3 : Int), .int .u32 (v : Int), .int .u32 (R 5 : Int), .int .u32 (R 6 : Int), .int .u32 (R 7 : Int), (.slice src n cap), .int .u8 (why : Int), .int .u64 (ep : Int), .int .u32 (home : Int)]) ∧ Below w.heap.size w w'
    go_enter Tryz.func40, Tryz.ntmps40
    go_wp2_with fail
    refine bodyPost_ret (v := .agg #[.int .u32 (pc : Int), .int .u32 (R 0 : Int), .int .u32 (R 1 : Int), .int .u32 (R 2 : Int), .int .u32 (R 3 : Int), .int .u32 (v : Int), .int .u32 (R 5 : Int), .int .u32 (R 6 : Int), .int .u32 (R 7 : Int), (.slice src n cap), .int .u8 (why : Int), .int .u64 (ep : Int), .int .u32 (home : Int)]) (by simp [results, Tryz.results40, go_sem, *]) rfl ?_
    exact ⟨rfl, bel2 w _ _⟩
  | 5, _ =>
    show Calls Tryz.prog 40 #[.agg #[.int .u32 (pc : Int), .int .u32 (R 0 : Int), .int .u32 (R 1 : Int), .int .u32 (R 2 : Int), .int .u32 (R 3 : Int), .int .u32 (R 4 : Int), .int .u32 (R 5 : Int), .int .u32 (R 6 : Int), .int .u32 (R 7 : Int), (.slice src n cap), .int .u8 (why : Int), .int .u64 (ep : Int), .int .u32 (home : Int)], .int .u8 5, .int .u32 (v : Int)] w fun e w' => e = .returned (.agg #[.int .u32 (pc : Int), .int .u32 (R 0 : Int), .int .u32 (R 1 : Int), .int .u32 (R 2 : Int), .int .u32 (R 3 : Int), .int .u32 (R 4 : Int), .int .u32 (v : Int), .int .u32 (R 6 : Int), .int .u32 (R 7 : Int), (.slice src n cap), .int .u8 (why : Int), .int .u64 (ep : Int), .int .u32 (home : Int)]) ∧ Below w.heap.size w w'
    go_enter Tryz.func40, Tryz.ntmps40
    go_wp2_with fail
    refine bodyPost_ret (v := .agg #[.int .u32 (pc : Int), .int .u32 (R 0 : Int), .int .u32 (R 1 : Int), .int .u32 (R 2 : Int), .int .u32 (R 3 : Int), .int .u32 (R 4 : Int), .int .u32 (v : Int), .int .u32 (R 6 : Int), .int .u32 (R 7 : Int), (.slice src n cap), .int .u8 (why : Int), .int .u64 (ep : Int), .int .u32 (home : Int)]) (by simp [results, Tryz.results40, go_sem, *]) rfl ?_
    exact ⟨rfl, bel2 w _ _⟩
  | 6, _ =>
    show Calls Tryz.prog 40 #[.agg #[.int .u32 (pc : Int), .int .u32 (R 0 : Int), .int .u32 (R 1 : Int), .int .u32 (R 2 : Int), .int .u32 (R 3 : Int), .int .u32 (R 4 : Int), .int .u32 (R 5 : Int), .int .u32 (R 6 : Int), .int .u32 (R 7 : Int), (.slice src n cap), .int .u8 (why : Int), .int .u64 (ep : Int), .int .u32 (home : Int)], .int .u8 6, .int .u32 (v : Int)] w fun e w' => e = .returned (.agg #[.int .u32 (pc : Int), .int .u32 (R 0 : Int), .int .u32 (R 1 : Int), .int .u32 (R 2 : Int), .int .u32 (R 3 : Int), .int .u32 (R 4 : Int), .int .u32 (R 5 : Int), .int .u32 (v : Int), .int .u32 (R 7 : Int), (.slice src n cap), .int .u8 (why : Int), .int .u64 (ep : Int), .int .u32 (home : Int)]) ∧ Below w.heap.size w w'
    go_enter Tryz.func40, Tryz.ntmps40
    go_wp2_with fail
    refine bodyPost_ret (v := .agg #[.int .u32 (pc : Int), .int .u32 (R 0 : Int), .int .u32 (R 1 : Int), .int .u32 (R 2 : Int), .int .u32 (R 3 : Int), .int .u32 (R 4 : Int), .int .u32 (R 5 : Int), .int .u32 (v : Int), .int .u32 (R 7 : Int), (.slice src n cap), .int .u8 (why : Int), .int .u64 (ep : Int), .int .u32 (home : Int)]) (by simp [results, Tryz.results40, go_sem, *]) rfl ?_
    exact ⟨rfl, bel2 w _ _⟩
  | 7, _ =>
    show Calls Tryz.prog 40 #[.agg #[.int .u32 (pc : Int), .int .u32 (R 0 : Int), .int .u32 (R 1 : Int), .int .u32 (R 2 : Int), .int .u32 (R 3 : Int), .int .u32 (R 4 : Int), .int .u32 (R 5 : Int), .int .u32 (R 6 : Int), .int .u32 (R 7 : Int), (.slice src n cap), .int .u8 (why : Int), .int .u64 (ep : Int), .int .u32 (home : Int)], .int .u8 7, .int .u32 (v : Int)] w fun e w' => e = .returned (.agg #[.int .u32 (pc : Int), .int .u32 (R 0 : Int), .int .u32 (R 1 : Int), .int .u32 (R 2 : Int), .int .u32 (R 3 : Int), .int .u32 (R 4 : Int), .int .u32 (R 5 : Int), .int .u32 (R 6 : Int), .int .u32 (v : Int), (.slice src n cap), .int .u8 (why : Int), .int .u64 (ep : Int), .int .u32 (home : Int)]) ∧ Below w.heap.size w w'
    go_enter Tryz.func40, Tryz.ntmps40
    go_wp2_with fail
    refine bodyPost_ret (v := .agg #[.int .u32 (pc : Int), .int .u32 (R 0 : Int), .int .u32 (R 1 : Int), .int .u32 (R 2 : Int), .int .u32 (R 3 : Int), .int .u32 (R 4 : Int), .int .u32 (R 5 : Int), .int .u32 (R 6 : Int), .int .u32 (v : Int), (.slice src n cap), .int .u8 (why : Int), .int .u64 (ep : Int), .int .u32 (home : Int)]) (by simp [results, Tryz.results40, go_sem, *]) rfl ?_
    exact ⟨rfl, bel2 w _ _⟩
set_option maxRecDepth 100000 in
set_option maxHeartbeats 4000000 in
theorem rstill_c (w : World) (pc : Nat) (R : Nat → Nat) (src : Option Addr) (n cap why ep home : Nat) (y : Nat) :
    Calls Tryz.prog 35 #[.agg #[.int .u32 (pc : Int), .int .u32 (R 0 : Int), .int .u32 (R 1 : Int), .int .u32 (R 2 : Int), .int .u32 (R 3 : Int), .int .u32 (R 4 : Int), .int .u32 (R 5 : Int), .int .u32 (R 6 : Int), .int .u32 (R 7 : Int), (.slice src n cap), .int .u8 (why : Int), .int .u64 (ep : Int), .int .u32 (home : Int)], .int .u8 (y : Int)] w fun e w' => e = .returned (.agg #[.int .u32 (pc : Int), .int .u32 (R 0 : Int), .int .u32 (R 1 : Int), .int .u32 (R 2 : Int), .int .u32 (R 3 : Int), .int .u32 (R 4 : Int), .int .u32 (R 5 : Int), .int .u32 (R 6 : Int), .int .u32 (R 7 : Int), (.slice src n cap), .int .u8 (y : Int), .int .u64 (ep : Int), .int .u32 (home : Int)]) ∧ Below w.heap.size w w' := by
  go_enter Tryz.func35, Tryz.ntmps35
  go_wp2_with fail
  refine bodyPost_ret (v := .agg #[.int .u32 (pc : Int), .int .u32 (R 0 : Int), .int .u32 (R 1 : Int), .int .u32 (R 2 : Int), .int .u32 (R 3 : Int), .int .u32 (R 4 : Int), .int .u32 (R 5 : Int), .int .u32 (R 6 : Int), .int .u32 (R 7 : Int), (.slice src n cap), .int .u8 (y : Int), .int .u64 (ep : Int), .int .u32 (home : Int)]) (by simp [results, Tryz.results35, go_sem, *]) rfl ?_
  exact ⟨rfl, bel2 w _ _⟩
set_option maxRecDepth 100000 in
set_option maxHeartbeats 4000000 in
theorem rnext_c (w : World) (pc : Nat) (R : Nat → Nat) (src : Option Addr) (n cap why ep home : Nat) :
    Calls Tryz.prog 39 #[.agg #[.int .u32 (pc : Int), .int .u32 (R 0 : Int), .int .u32 (R 1 : Int), .int .u32 (R 2 : Int), .int .u32 (R 3 : Int), .int .u32 (R 4 : Int), .int .u32 (R 5 : Int), .int .u32 (R 6 : Int), .int .u32 (R 7 : Int), (.slice src n cap), .int .u8 (why : Int), .int .u64 (ep : Int), .int .u32 (home : Int)]] w fun e w' => e = .returned (.agg #[.int .u32 ((inc pc) : Int), .int .u32 (R 0 : Int), .int .u32 (R 1 : Int), .int .u32 (R 2 : Int), .int .u32 (R 3 : Int), .int .u32 (R 4 : Int), .int .u32 (R 5 : Int), .int .u32 (R 6 : Int), .int .u32 (R 7 : Int), (.slice src n cap), .int .u8 (why : Int), .int .u64 (ep : Int), .int .u32 (home : Int)]) ∧ Below w.heap.size w w' := by
  have hwx := wrap_inc pc
  go_enter Tryz.func39, Tryz.ntmps39
  go_wp2_with fail
  refine bodyPost_ret (v := .agg #[.int .u32 ((inc pc) : Int), .int .u32 (R 0 : Int), .int .u32 (R 1 : Int), .int .u32 (R 2 : Int), .int .u32 (R 3 : Int), .int .u32 (R 4 : Int), .int .u32 (R 5 : Int), .int .u32 (R 6 : Int), .int .u32 (R 7 : Int), (.slice src n cap), .int .u8 (why : Int), .int .u64 (ep : Int), .int .u32 (home : Int)]) (by simp [results, Tryz.results39, go_sem, *]) rfl ?_
  exact ⟨rfl, bel2 w _ _⟩
set_option maxRecDepth 100000 in
set_option maxHeartbeats 4000000 in
theorem rsafe_empty (w : World) (pc : Nat) (R : Nat → Nat) (src : Option Addr) (cap why ep home epoch y : Nat) :
    Calls Tryz.prog 43 #[.agg #[.int .u32 (pc : Int), .int .u32 (R 0 : Int), .int .u32 (R 1 : Int), .int .u32 (R 2 : Int), .int .u32 (R 3 : Int), .int .u32 (R 4 : Int), .int .u32 (R 5 : Int), .int .u32 (R 6 : Int), .int .u32 (R 7 : Int), (.slice src 0 cap), .int .u8 (why : Int), .int .u64 (ep : Int), .int .u32 (home : Int)], .int .u64 (epoch : Int), .int .u8 (y : Int)] w fun e w' => e = .returned (.tuple #[.agg #[.int .u32 (home : Int), .int .u32 (R 0 : Int), .int .u32 (R 1 : Int), .int .u32 (R 2 : Int), .int .u32 (R 3 : Int), .int .u32 (R 4 : Int), .int .u32 (R 5 : Int), .int .u32 (R 6 : Int), .int .u32 (R 7 : Int), (.slice src 0 cap), .int .u8 (why : Int), .int .u64 (epoch : Int), .int .u32 (home : Int)], .agg #[.bool true, .bool false, .int .u32 0, .int .u32 0]]) ∧ Below w.heap.size w w' := by
  go_enter Tryz.func43, Tryz.ntmps43
  go_wp2_with fail
  refine bodyPost_ret (v := .tuple #[.agg #[.int .u32 (home : Int), .int .u32 (R 0 : Int), .int .u32 (R 1 : Int), .int .u32 (R 2 : Int), .int .u32 (R 3 : Int), .int .u32 (R 4 : Int), .int .u32 (R 5 : Int), .int .u32 (R 6 : Int), .int .u32 (R 7 : Int), (.slice src 0 cap), .int .u8 (why : Int), .int .u64 (epoch : Int), .int .u32 (home : Int)], .agg #[.bool true, .bool false, .int .u32 0, .int .u32 0]]) (by simp [results, Tryz.results43, go_sem, *]) rfl ?_
  exact ⟨rfl, bel3 w _ _ _⟩
set_option maxRecDepth 100000 in
set_option maxHeartbeats 4000000 in
theorem rsafe_full (w : World) (pc : Nat) (R : Nat → Nat) (src : Option Addr) (n cap why ep home : Nat) (epoch y : Nat) (hn : 0 < n) (hm : n < 35184372088832) :
    Calls Tryz.prog 43 #[.agg #[.int .u32 (pc : Int), .int .u32 (R 0 : Int), .int .u32 (R 1 : Int), .int .u32 (R 2 : Int), .int .u32 (R 3 : Int), .int .u32 (R 4 : Int), .int .u32 (R 5 : Int), .int .u32 (R 6 : Int), .int .u32 (R 7 : Int), (.slice src n cap), .int .u8 (why : Int), .int .u64 (ep : Int), .int .u32 (home : Int)], .int .u64 (epoch : Int), .int .u8 (y : Int)] w fun e w' => e = .returned (.tuple #[.agg #[.int .u32 (pc : Int), .int .u32 (R 0 : Int), .int .u32 (R 1 : Int), .int .u32 (R 2 : Int), .int .u32 (R 3 : Int), .int .u32 (R 4 : Int), .int .u32 (R 5 : Int), .int .u32 (R 6 : Int), .int .u32 (R 7 : Int), (.slice src n cap), .int .u8 (y : Int), .int .u64 (ep : Int), .int .u32 (home : Int)], .agg #[.bool false, .bool false, .int .u32 0, .int .u32 0]]) ∧ Below w.heap.size w w' := by
  have hz : (0 : Int) < (n : Int) := by omega
  have SC := Lib.hid (fun W => rstill_c W pc R src n cap why ep home y)
  generalize hW : ((w.alloc (.cells #[.int .u32 (pc : Int), .int .u32 (R 0 : Int), .int .u32 (R 1 : Int), .int .u32 (R 2 : Int), .int .u32 (R 3 : Int), .int .u32 (R 4 : Int), .int .u32 (R 5 : Int), .int .u32 (R 6 : Int), .int .u32 (R 7 : Int), (.slice src n cap), .int .u8 (why : Int), .int .u64 (ep : Int), .int .u32 (home : Int)] 30)).alloc (.cells #[.int .u32 0, .int .u32 0, .int .u32 0, .int .u32 0, .int .u32 0, .int .u32 0, .int .u32 0, .int .u32 0, .int .u32 0, .slice none 0 0, .int .u8 0, .int .u64 0, .int .u32 0] 30)).alloc (.cells #[.bool false, .bool false, .int .u32 0, .int .u32 0] 44) = W0
  have K6 : Hid (Blk W0 (w.heap.size + 1) 30 #[.int .u32 0, .int .u32 0, .int .u32 0, .int .u32 0, .int .u32 0, .int .u32 0, .int .u32 0, .int .u32 0, .int .u32 0, .slice none 0 0, .int .u8 0, .int .u64 0, .int .u32 0]) := Lib.hid (by
    have k := Blk.new (w.alloc (.cells #[.int .u32 (pc : Int), .int .u32 (R 0 : Int), .int .u32 (R 1 : Int), .int .u32 (R 2 : Int), .int .u32 (R 3 : Int), .int .u32 (R 4 : Int), .int .u32 (R 5 : Int), .int .u32 (R 6 : Int), .int .u32 (R 7 : Int), (.slice src n cap), .int .u8 (why : Int), .int .u64 (ep : Int), .int .u32 (home : Int)] 30)) 30 #[.int .u32 0, .int .u32 0, .int .u32 0, .int .u32 0, .int .u32 0, .int .u32 0, .int .u32 0, .int .u32 0, .int .u32 0, .slice none 0 0, .int .u8 0, .int .u64 0, .int .u32 0]
    have e : (w.alloc (.cells #[.int .u32 (pc : Int), .int .u32 (R 0 : Int), .int .u32 (R 1 : Int), .int .u32 (R 2 : Int), .int .u32 (R 3 : Int), .int .u32 (R 4 : Int), .int .u32 (R 5 : Int), .int .u32 (R 6 : Int), .int .u32 (R 7 : Int), (.slice src n cap), .int .u8 (why : Int), .int .u64 (ep : Int), .int .u32 (home : Int)] 30)).heap.size = w.heap.size + 1 := by simp
    rw [e] at k
    exact hW ▸ k.alloc _)
  have K7 : Hid (Blk W0 (w.heap.size + 1 + 1) 44 #[.bool false, .bool false, .int .u32 0, .int .u32 0]) := Lib.hid (by
    have k := Blk.new ((w.alloc (.cells #[.int .u32 (pc : Int), .int .u32 (R 0 : Int), .int .u32 (R 1 : Int), .int .u32 (R 2 : Int), .int .u32 (R 3 : Int), .int .u32 (R 4 : Int), .int .u32 (R 5 : Int), .int .u32 (R 6 : Int), .int .u32 (R 7 : Int), (.slice src n cap), .int .u8 (why : Int), .int .u64 (ep : Int), .int .u32 (home : Int)] 30)).alloc (.cells #[.int .u32 0, .int .u32 0, .int .u32 0, .int .u32 0, .int .u32 0, .int .u32 0, .int .u32 0, .int .u32 0, .int .u32 0, .slice none 0 0, .int .u8 0, .int .u64 0, .int .u32 0] 30)) 44 #[.bool false, .bool false, .int .u32 0, .int .u32 0]
    have e : ((w.alloc (.cells #[.int .u32 (pc : Int), .int .u32 (R 0 : Int), .int .u32 (R 1 : Int), .int .u32 (R 2 : Int), .int .u32 (R 3 : Int), .int .u32 (R 4 : Int), .int .u32 (R 5 : Int), .int .u32 (R 6 : Int), .int .u32 (R 7 : Int), (.slice src n cap), .int .u8 (why : Int), .int .u64 (ep : Int), .int .u32 (home : Int)] 30)).alloc (.cells #[.int .u32 0, .int .u32 0, .int .u32 0, .int .u32 0, .int .u32 0, .int .u32 0, .int .u32 0, .int .u32 0, .int .u32 0, .slice none 0 0, .int .u8 0, .int .u64 0, .int .u32 0] 30)).heap.size = w.heap.size + 1 + 1 := by simp
    rw [e] at k
    exact hW ▸ k)
  have B0 : Hid (Below w.heap.size w W0) := Lib.hid (hW ▸ bel3 w _ _ _)
  have KW := Lib.hid hW
  clear hW
  go_enter Tryz.func43, Tryz.ntmps43
  go_wp2_with fail
  (try rw [KW.out])
  refine (SC.out _).mono ?_
  rintro e w1 ⟨rfl, hb⟩
  have k6 := K6.out.kept hb
  have k7 := K7.out.kept hb
  have B1 : Hid (∀ v1 v2, Below w.heap.size w ((w1.setCells (w.heap.size + 1) 0 v1).setCells (w.heap.size + 1 + 1) 0 v2)) := Lib.hid fun v1 v2 =>
    below_setCells (by omega) v2 0 _ (below_setCells (by omega) v1 0 _ (B0.out.trans (hb.mono B0.out.size)))
  obtain ⟨z0, fz0, z1, fz1, z2, fz2, z3, fz3, z4, fz4, z5, fz5, z6, fz6, z7, fz7, z8, fz8, z9, fz9, z10, fz10, z11, fz11, z12, fz12⟩ := blkf13 k6
  obtain ⟨y0, fy0, y1, fy1, y2, fy2, y3, fy3⟩ := blkf4 k7
  clear hb k6 k7
  go_wp2_with fail
  refine bodyPost_ret (v := .tuple #[.agg #[.int .u32 (pc : Int), .int .u32 (R 0 : Int), .int .u32 (R 1 : Int), .int .u32 (R 2 : Int), .int .u32 (R 3 : Int), .int .u32 (R 4 : Int), .int .u32 (R 5 : Int), .int .u32 (R 6 : Int), .int .u32 (R 7 : Int), (.slice src n cap), .int .u8 (y : Int), .int .u64 (ep : Int), .int .u32 (home : Int)], .agg #[.bool false, .bool false, .int .u32 0, .int .u32 0]]) (by simp [results, Tryz.results43, go_sem, *]) rfl ?_
  exact ⟨rfl, B1.out [.int .u32 (pc : Int), .int .u32 (R 0 : Int), .int .u32 (R 1 : Int), .int .u32 (R 2 : Int), .int .u32 (R 3 : Int), .int .u32 (R 4 : Int), .int .u32 (R 5 : Int), .int .u32 (R 6 : Int), .int .u32 (R 7 : Int), (.slice src n cap), .int .u8 (y : Int), .int .u64 (ep : Int), .int .u32 (home : Int)] [.bool false, .bool false, .int .u32 0, .int .u32 0]⟩
set_option maxRecDepth 100000 in
set_option maxHeartbeats 4000000 in
theorem rreck_c (w : World) (op a b : Nat) (h1 : 3 ≤ op) (h2 : op ≤ 10) (ha : a < 4294967296) (hb : b < 4294967296) :
    Calls Tryz.prog 45 #[.int .u8 (op : Int), .int .u32 (a : Int), .int .u32 (b : Int)] w fun e w' => e = .returned (.int .u32 ((reck op a b : Nat) : Int)) ∧ w' = w := by
  have h31 := and31 b hb
  have htm : Int.tmod (b : Int) 32 = ((b % 32 : Nat) : Int) := by rw [Int.tmod_eq_emod_of_nonneg (by omega)]; omega
  have hk : ((b % 32 : Nat) : Int) ≤ 32 := by omega
  have hk0 : 0 ≤ ((b % 32 : Nat) : Int) := by omega
  match op, h1, h2 with
  | 3, _, _ =>
    show Calls Tryz.prog 45 #[.int .u8 3, .int .u32 (a : Int), .int .u32 (b : Int)] w fun e w' => e = .returned (.int .u32 ((reck 3 a b : Nat) : Int)) ∧ w' = w
    rw [reck_3]
    go_enter Tryz.func45, Tryz.ntmps45
    go_wp2_with fail
    go_ret
    exact ⟨ret_int (by omega), rfl⟩
  | 4, _, _ =>
    show Calls Tryz.prog 45 #[.int .u8 4, .int .u32 (a : Int), .int .u32 (b : Int)] w fun e w' => e = .returned (.int .u32 ((reck 4 a b : Nat) : Int)) ∧ w' = w
    rw [reck_4]
    go_enter Tryz.func45, Tryz.ntmps45
    go_wp2_with fail
    go_ret
    exact ⟨ret_int (by omega), rfl⟩
  | 5, _, _ =>
    show Calls Tryz.prog 45 #[.int .u8 5, .int .u32 (a : Int), .int .u32 (b : Int)] w fun e w' => e = .returned (.int .u32 ((reck 5 a b : Nat) : Int)) ∧ w' = w
    rw [reck_5]
    go_enter Tryz.func45, Tryz.ntmps45
    go_wp2_with fail
    go_ret
    exact ⟨ret_int (bits_cast _ _ _).symm, rfl⟩
  | 6, _, _ =>
    show Calls Tryz.prog 45 #[.int .u8 6, .int .u32 (a : Int), .int .u32 (b : Int)] w fun e w' => e = .returned (.int .u32 ((reck 6 a b : Nat) : Int)) ∧ w' = w
    rw [reck_6]
    go_enter Tryz.func45, Tryz.ntmps45
    go_wp2_with fail
    go_ret
    exact ⟨ret_int (bits_cast _ _ _).symm, rfl⟩
  | 7, _, _ =>
    show Calls Tryz.prog 45 #[.int .u8 7, .int .u32 (a : Int), .int .u32 (b : Int)] w fun e w' => e = .returned (.int .u32 ((reck 7 a b : Nat) : Int)) ∧ w' = w
    rw [reck_7]
    go_enter Tryz.func45, Tryz.ntmps45
    go_wp2_with fail
    go_ret
    exact ⟨ret_int (bits_cast _ _ _).symm, rfl⟩
  | 8, _, _ =>
    show Calls Tryz.prog 45 #[.int .u8 8, .int .u32 (a : Int), .int .u32 (b : Int)] w fun e w' => e = .returned (.int .u32 ((reck 8 a b : Nat) : Int)) ∧ w' = w
    rw [reck_8, shl_cast]
    generalize b % 32 = k at h31 htm hk hk0 ⊢
    go_enter Tryz.func45, Tryz.ntmps45
    go_wp2_with fail
    go_ret
    exact ⟨ret_int (by simp), rfl⟩
  | 9, _, _ =>
    show Calls Tryz.prog 45 #[.int .u8 9, .int .u32 (a : Int), .int .u32 (b : Int)] w fun e w' => e = .returned (.int .u32 ((reck 9 a b : Nat) : Int)) ∧ w' = w
    rw [reck_9, shr_cast]
    generalize b % 32 = k at h31 htm hk hk0 ⊢
    go_enter Tryz.func45, Tryz.ntmps45
    go_wp2_with fail
    go_ret
    exact ⟨ret_int (by simp), rfl⟩
  | 10, _, _ =>
    show Calls Tryz.prog 45 #[.int .u8 10, .int .u32 (a : Int), .int .u32 (b : Int)] w fun e w' => e = .returned (.int .u32 ((reck 10 a b : Nat) : Int)) ∧ w' = w
    by_cases hl : wrap32 (a : Int) < wrap32 (b : Int)
    · rw [reck_10, if_pos hl]
      go_enter Tryz.func45, Tryz.ntmps45
      go_wp2_with fail
      go_ret
      exact ⟨rfl, rfl⟩
    · rw [reck_10, if_neg hl]
      go_enter Tryz.func45, Tryz.ntmps45
      go_wp2_with fail
      go_ret
      exact ⟨rfl, rfl⟩
end Go.Proofs.YthnbdeibjbicpaaGreat.PM
