/- A step under way as cells; contracts of hart's reg, set, pass, reckon. Conditions: the cells. -/
import Derived.Test.YthnbdeibjbicpaaGreatMem4
import Derived.Test.YthnbdeibjbicpaaGreatKIsaB
import Derived.Deep.RegionWith
namespace Go.Proofs.YthnbdeibjbicpaaGreat.PM
set_option linter.unusedVariables false
set_option linter.unusedSimpArgs false
open Go.RowKit
abbrev hv (pc : Nat) (R : Nat → Nat) (s : Value) (why ep home : Nat) : Value := .agg #[.int .u32 (pc : Int), .int .u32 (R 0 : Int), .int .u32 (R 1 : Int), .int .u32 (R 2 : Int), .int .u32 (R 3 : Int), .int .u32 (R 4 : Int), .int .u32 (R 5 : Int), .int .u32 (R 6 : Int), .int .u32 (R 7 : Int), s, .int .u8 (why : Int), .int .u64 (ep : Int), .int .u32 (home : Int)]
/-- A step under way: twenty cells. -/
abbrev RunB (w : World) (B : Nat) (pc : Nat) (R : Nat → Nat) (s : Value) (why ep home : Nat) (mp : Value) (epoch ow : Nat) (nS nT : Bool) (nA nW : Nat) : Prop := Blk w B 73 #[.int .u32 (pc : Int), .int .u32 (R 0 : Int), .int .u32 (R 1 : Int), .int .u32 (R 2 : Int), .int .u32 (R 3 : Int), .int .u32 (R 4 : Int), .int .u32 (R 5 : Int), .int .u32 (R 6 : Int), .int .u32 (R 7 : Int), s, .int .u8 (why : Int), .int .u64 (ep : Int), .int .u32 (home : Int), mp, .int .u64 (epoch : Int), .int .u16 (ow : Int), .bool nS, .bool nT, .int .u32 (nA : Int), .int .u32 (nW : Int)]
def inc (x : Nat) : Nat := (x + 1) % 4294967296
theorem wrap_inc (x : Nat) : IntKind.u32.wrap ((x : Int) + 1) = ((inc x : Nat) : Int) := by
  unfold inc IntKind.wrap
  simp [IntKind.bits, IntKind.signed]
def getR (R : Nat → Nat) (i : Nat) : Nat := if i = 0 then 0 else R i
def setR (R : Nat → Nat) (i v : Nat) : Nat → Nat := if i = 0 then R else fun j => if j = i then v else R j
set_option maxRecDepth 100000 in
set_option maxHeartbeats 4000000 in
theorem reg_c (w : World) (B pc : Nat) (R : Nat → Nat) (s : Value) (why ep home : Nat) (mp : Value) (epoch ow : Nat) (nS nT : Bool) (nA nW : Nat) (K : RunB w B pc R s why ep home mp epoch ow nS nT nA nW) (i : Nat) (hi : i < 8) :
    Calls Tryz.prog 30 #[.pointer (some ⟨B, 0, none⟩), .int .u8 (i : Int)] w fun e w' => e = .returned (.int .u32 (getR R i : Int)) ∧ w' = w := by
  unfold RunB at K
  have t1 : w.cell? ⟨B, 1, none⟩ = some (.int .u32 (R 0 : Int)) := K.cell 1
  have t2 : w.cell? ⟨B, 2, none⟩ = some (.int .u32 (R 1 : Int)) := K.cell 2
  have t3 : w.cell? ⟨B, 3, none⟩ = some (.int .u32 (R 2 : Int)) := K.cell 3
  have t4 : w.cell? ⟨B, 4, none⟩ = some (.int .u32 (R 3 : Int)) := K.cell 4
  have t5 : w.cell? ⟨B, 5, none⟩ = some (.int .u32 (R 4 : Int)) := K.cell 5
  have t6 : w.cell? ⟨B, 6, none⟩ = some (.int .u32 (R 5 : Int)) := K.cell 6
  have t7 : w.cell? ⟨B, 7, none⟩ = some (.int .u32 (R 6 : Int)) := K.cell 7
  have t8 : w.cell? ⟨B, 8, none⟩ = some (.int .u32 (R 7 : Int)) := K.cell 8
  clear K
  match i, hi with
  | 0, _ =>
    show Calls Tryz.prog 30 #[.pointer (some ⟨B, 0, none⟩), .int .u8 0] w fun e w' => e = .returned (.int .u32 0) ∧ w' = w
    go_enter Tryz.func30, Tryz.ntmps30
    go_wp2_with fail
    go_ret
    exact ⟨rfl, rfl⟩
  | 1, _ =>
    show Calls Tryz.prog 30 #[.pointer (some ⟨B, 0, none⟩), .int .u8 1] w fun e w' => e = .returned (.int .u32 (R 1 : Int)) ∧ w' = w
    go_enter Tryz.func30, Tryz.ntmps30
    go_wp2_with fail
    go_ret
    exact ⟨rfl, rfl⟩
  | 2, _ =>
    show Calls Tryz.prog 30 #[.pointer (some ⟨B, 0, none⟩), .int .u8 2] w fun e w' => e = .returned (.int .u32 (R 2 : Int)) ∧ w' = w
    go_enter Tryz.func30, Tryz.ntmps30
    go_wp2_with fail
    go_ret
    exact ⟨rfl, rfl⟩
  | 3, _ =>
    show Calls Tryz.prog 30 #[.pointer (some ⟨B, 0, none⟩), .int .u8 3] w fun e w' => e = .returned (.int .u32 (R 3 : Int)) ∧ w' = w
    go_enter Tryz.func30, Tryz.ntmps30
    go_wp2_with fail
    go_ret
    exact ⟨rfl, rfl⟩
  | 4, _ =>
    show Calls Tryz.prog 30 #[.pointer (some ⟨B, 0, none⟩), .int .u8 4] w fun e w' => e = .returned (.int .u32 (R 4 : Int)) ∧ w' = w
    go_enter Tryz.func30, Tryz.ntmps30
    go_wp2_with fail
    go_ret
    exact ⟨rfl, rfl⟩
  | 5, _ =>
    show Calls Tryz.prog 30 #[.pointer (some ⟨B, 0, none⟩), .int .u8 5] w fun e w' => e = .returned (.int .u32 (R 5 : Int)) ∧ w' = w
    go_enter Tryz.func30, Tryz.ntmps30
    go_wp2_with fail
    go_ret
    exact ⟨rfl, rfl⟩
  | 6, _ =>
    show Calls Tryz.prog 30 #[.pointer (some ⟨B, 0, none⟩), .int .u8 6] w fun e w' => e = .returned (.int .u32 (R 6 : Int)) ∧ w' = w
    go_enter Tryz.func30, Tryz.ntmps30
    go_wp2_with fail
    go_ret
    exact ⟨rfl, rfl⟩
  | 7, _ =>
    show Calls Tryz.prog 30 #[.pointer (some ⟨B, 0, none⟩), .int .u8 7] w fun e w' => e = .returned (.int .u32 (R 7 : Int)) ∧ w' = w
    go_enter Tryz.func30, Tryz.ntmps30
    go_wp2_with fail
    go_ret
    exact ⟨rfl, rfl⟩
def SetP (w : World) (B pc : Nat) (R : Nat → Nat) (s : Value) (why ep home : Nat) (mp : Value) (epoch ow : Nat) (nS nT : Bool) (nA nW : Nat) (i v : Nat) (e : Ending) (w' : World) : Prop := e = .returned (.tuple #[]) ∧ RunB w' B (inc pc) (setR R i v) s why ep home mp epoch ow nS nT nA nW ∧ Upd B w w'
set_option maxRecDepth 100000 in
set_option maxHeartbeats 4000000 in
theorem set_c (w : World) (B pc : Nat) (R : Nat → Nat) (s : Value) (why ep home : Nat) (mp : Value) (epoch ow : Nat) (nS nT : Bool) (nA nW : Nat) (K : RunB w B pc R s why ep home mp epoch ow nS nT nA nW) (i v : Nat) (hi : i < 8) :
    Calls Tryz.prog 28 #[.pointer (some ⟨B, 0, none⟩), .int .u8 (i : Int), .int .u32 (v : Int)] w fun e w' => SetP w B pc R s why ep home mp epoch ow nS nT nA nW i v e w' := by
  unfold RunB at K
  have hw := wrap_inc pc
  have HK := Lib.hid K
  have t0 : w.cell? ⟨B, 0, none⟩ = some (.int .u32 (pc : Int)) := K.cell 0
  have ft0 : w.frozen? ⟨B, 0, none⟩ = false := K.frozen 0
  have t1 : w.cell? ⟨B, 1, none⟩ = some (.int .u32 (R 0 : Int)) := K.cell 1
  have ft1 : w.frozen? ⟨B, 1, none⟩ = false := K.frozen 1
  have t2 : w.cell? ⟨B, 2, none⟩ = some (.int .u32 (R 1 : Int)) := K.cell 2
  have ft2 : w.frozen? ⟨B, 2, none⟩ = false := K.frozen 2
  have t3 : w.cell? ⟨B, 3, none⟩ = some (.int .u32 (R 2 : Int)) := K.cell 3
  have ft3 : w.frozen? ⟨B, 3, none⟩ = false := K.frozen 3
  have t4 : w.cell? ⟨B, 4, none⟩ = some (.int .u32 (R 3 : Int)) := K.cell 4
  have ft4 : w.frozen? ⟨B, 4, none⟩ = false := K.frozen 4
  have t5 : w.cell? ⟨B, 5, none⟩ = some (.int .u32 (R 4 : Int)) := K.cell 5
  have ft5 : w.frozen? ⟨B, 5, none⟩ = false := K.frozen 5
  have t6 : w.cell? ⟨B, 6, none⟩ = some (.int .u32 (R 5 : Int)) := K.cell 6
  have ft6 : w.frozen? ⟨B, 6, none⟩ = false := K.frozen 6
  have t7 : w.cell? ⟨B, 7, none⟩ = some (.int .u32 (R 6 : Int)) := K.cell 7
  have ft7 : w.frozen? ⟨B, 7, none⟩ = false := K.frozen 7
  have t8 : w.cell? ⟨B, 8, none⟩ = some (.int .u32 (R 7 : Int)) := K.cell 8
  have ft8 : w.frozen? ⟨B, 8, none⟩ = false := K.frozen 8
  clear K
  match i, hi with
  | 0, _ =>
    have F : Hid (SetP w B pc R s why ep home mp epoch ow nS nT nA nW 0 v (.returned (.tuple #[])) (w.setCell ⟨B, 0, none⟩ (.int .u32 (inc pc : Int)))) := Lib.hid ⟨rfl, by
      have k := Blk.set_ (HK.out) 0 (.int .u32 (inc pc : Int))
      unfold RunB setR
      simpa using k, (Upd.refl B w).setCell 0 _⟩
    generalize SetP w B pc R s why ep home mp epoch ow nS nT nA nW 0 v = Q at F
    show Calls Tryz.prog 28 #[.pointer (some ⟨B, 0, none⟩), .int .u8 0, .int .u32 (v : Int)] w fun e w' => Q e w'
    go_enter Tryz.func28, Tryz.ntmps28
    go_wp2_with fail
    refine bodyPost_ret (v := .tuple #[]) (by simp [results, Tryz.results28, go_sem, *]) rfl ?_
    exact F.out
  | 1, _ =>
    have F : Hid (SetP w B pc R s why ep home mp epoch ow nS nT nA nW 1 v (.returned (.tuple #[])) ((w.setCell ⟨B, 2, none⟩ (.int .u32 (v : Int))).setCell ⟨B, 0, none⟩ (.int .u32 (inc pc : Int)))) := Lib.hid ⟨rfl, by
      have k := Blk.set_ (HK.out.set_ 2 (.int .u32 (v : Int))) 0 (.int .u32 (inc pc : Int))
      unfold RunB setR
      simpa using k, ((Upd.refl B w).setCell 2 _).setCell 0 _⟩
    generalize SetP w B pc R s why ep home mp epoch ow nS nT nA nW 1 v = Q at F
    show Calls Tryz.prog 28 #[.pointer (some ⟨B, 0, none⟩), .int .u8 1, .int .u32 (v : Int)] w fun e w' => Q e w'
    go_enter Tryz.func28, Tryz.ntmps28
    go_wp2_with fail
    refine bodyPost_ret (v := .tuple #[]) (by simp [results, Tryz.results28, go_sem, *]) rfl ?_
    exact F.out
  | 2, _ =>
    have F : Hid (SetP w B pc R s why ep home mp epoch ow nS nT nA nW 2 v (.returned (.tuple #[])) ((w.setCell ⟨B, 3, none⟩ (.int .u32 (v : Int))).setCell ⟨B, 0, none⟩ (.int .u32 (inc pc : Int)))) := Lib.hid ⟨rfl, by
      have k := Blk.set_ (HK.out.set_ 3 (.int .u32 (v : Int))) 0 (.int .u32 (inc pc : Int))
      unfold RunB setR
      simpa using k, ((Upd.refl B w).setCell 3 _).setCell 0 _⟩
    generalize SetP w B pc R s why ep home mp epoch ow nS nT nA nW 2 v = Q at F
    show Calls Tryz.prog 28 #[.pointer (some ⟨B, 0, none⟩), .int .u8 2, .int .u32 (v : Int)] w fun e w' => Q e w'
    go_enter Tryz.func28, Tryz.ntmps28
    go_wp2_with fail
    refine bodyPost_ret (v := .tuple #[]) (by simp [results, Tryz.results28, go_sem, *]) rfl ?_
    exact F.out
  | 3, _ =>
    have F : Hid (SetP w B pc R s why ep home mp epoch ow nS nT nA nW 3 v (.returned (.tuple #[])) ((w.setCell ⟨B, 4, none⟩ (.int .u32 (v : Int))).setCell ⟨B, 0, none⟩ (.int .u32 (inc pc : Int)))) := Lib.hid ⟨rfl, by
      have k := Blk.set_ (HK.out.set_ 4 (.int .u32 (v : Int))) 0 (.int .u32 (inc pc : Int))
      unfold RunB setR
      simpa using k, ((Upd.refl B w).setCell 4 _).setCell 0 _⟩
    generalize SetP w B pc R s why ep home mp epoch ow nS nT nA nW 3 v = Q at F
    show Calls Tryz.prog 28 #[.pointer (some ⟨B, 0, none⟩), .int .u8 3, .int .u32 (v : Int)] w fun e w' => Q e w'
    go_enter Tryz.func28, Tryz.ntmps28
    go_wp2_with fail
    refine bodyPost_ret (v := .tuple #[]) (by simp [results, Tryz.results28, go_sem, *]) rfl ?_
    exact F.out
  | 4, _ =>
    have F : Hid (SetP w B pc R s why ep home mp epoch ow nS nT nA nW 4 v (.returned (.tuple #[])) ((w.setCell ⟨B, 5, none⟩ (.int .u32 (v : Int))).setCell ⟨B, 0, none⟩ (.int .u32 (inc pc : Int)))) := Lib.hid ⟨rfl, by
      have k := Blk.set_ (HK.out.set_ 5 (.int .u32 (v : Int))) 0 (.int .u32 (inc pc : Int))
      unfold RunB setR
      simpa using k, ((Upd.refl B w).setCell 5 _).setCell 0 _⟩
    generalize SetP w B pc R s why ep home mp epoch ow nS nT nA nW 4 v = Q at F
    show Calls Tryz.prog 28 #[.pointer (some ⟨B, 0, none⟩), .int .u8 4, .int .u32 (v : Int)] w fun e w' => Q e w'
    go_enter Tryz.func28, Tryz.ntmps28
    go_wp2_with fail
    refine bodyPost_ret (v := .tuple #[]) (by simp [results, Tryz.results28, go_sem, *]) rfl ?_
    exact F.out
  | 5, _ =>
    have F : Hid (SetP w B pc R s why ep home mp epoch ow nS nT nA nW 5 v (.returned (.tuple #[])) ((w.setCell ⟨B, 6, none⟩ (.int .u32 (v : Int))).setCell ⟨B, 0, none⟩ (.int .u32 (inc pc : Int)))) := Lib.hid ⟨rfl, by
      have k := Blk.set_ (HK.out.set_ 6 (.int .u32 (v : Int))) 0 (.int .u32 (inc pc : Int))
      unfold RunB setR
      simpa using k, ((Upd.refl B w).setCell 6 _).setCell 0 _⟩
    generalize SetP w B pc R s why ep home mp epoch ow nS nT nA nW 5 v = Q at F
    show Calls Tryz.prog 28 #[.pointer (some ⟨B, 0, none⟩), .int .u8 5, .int .u32 (v : Int)] w fun e w' => Q e w'
    go_enter Tryz.func28, Tryz.ntmps28
    go_wp2_with fail
    refine bodyPost_ret (v := .tuple #[]) (by simp [results, Tryz.results28, go_sem, *]) rfl ?_
    exact F.out
  | 6, _ =>
    have F : Hid (SetP w B pc R s why ep home mp epoch ow nS nT nA nW 6 v (.returned (.tuple #[])) ((w.setCell ⟨B, 7, none⟩ (.int .u32 (v : Int))).setCell ⟨B, 0, none⟩ (.int .u32 (inc pc : Int)))) := Lib.hid ⟨rfl, by
      have k := Blk.set_ (HK.out.set_ 7 (.int .u32 (v : Int))) 0 (.int .u32 (inc pc : Int))
      unfold RunB setR
      simpa using k, ((Upd.refl B w).setCell 7 _).setCell 0 _⟩
    generalize SetP w B pc R s why ep home mp epoch ow nS nT nA nW 6 v = Q at F
    show Calls Tryz.prog 28 #[.pointer (some ⟨B, 0, none⟩), .int .u8 6, .int .u32 (v : Int)] w fun e w' => Q e w'
    go_enter Tryz.func28, Tryz.ntmps28
    go_wp2_with fail
    refine bodyPost_ret (v := .tuple #[]) (by simp [results, Tryz.results28, go_sem, *]) rfl ?_
    exact F.out
  | 7, _ =>
    have F : Hid (SetP w B pc R s why ep home mp epoch ow nS nT nA nW 7 v (.returned (.tuple #[])) ((w.setCell ⟨B, 8, none⟩ (.int .u32 (v : Int))).setCell ⟨B, 0, none⟩ (.int .u32 (inc pc : Int)))) := Lib.hid ⟨rfl, by
      have k := Blk.set_ (HK.out.set_ 8 (.int .u32 (v : Int))) 0 (.int .u32 (inc pc : Int))
      unfold RunB setR
      simpa using k, ((Upd.refl B w).setCell 8 _).setCell 0 _⟩
    generalize SetP w B pc R s why ep home mp epoch ow nS nT nA nW 7 v = Q at F
    show Calls Tryz.prog 28 #[.pointer (some ⟨B, 0, none⟩), .int .u8 7, .int .u32 (v : Int)] w fun e w' => Q e w'
    go_enter Tryz.func28, Tryz.ntmps28
    go_wp2_with fail
    refine bodyPost_ret (v := .tuple #[]) (by simp [results, Tryz.results28, go_sem, *]) rfl ?_
    exact F.out
end Go.Proofs.YthnbdeibjbicpaaGreat.PM

/- Contracts of hart's pass, reckon, plain. Conditions: the cells. -/
namespace Go.Proofs.YthnbdeibjbicpaaGreat.PM
set_option linter.unusedVariables false
set_option linter.unusedSimpArgs false
open Go.RowKit
/-- The step under way has become another. -/
def RunP (w : World) (B pc : Nat) (R : Nat → Nat) (s : Value) (why ep home : Nat) (mp : Value) (epoch ow : Nat) (nS nT : Bool) (nA nW : Nat) (e : Ending) (w' : World) : Prop := e = .returned (.tuple #[]) ∧ RunB w' B pc R s why ep home mp epoch ow nS nT nA nW ∧ Upd B w w'
set_option maxRecDepth 100000 in
set_option maxHeartbeats 4000000 in
theorem pass_full (w : World) (B pc : Nat) (R : Nat → Nat) (s : Value) (why ep home : Nat) (mp : Value) (epoch ow : Nat) (nS nT : Bool) (nA nW : Nat) (src : Option Addr) (n cap : Nat) (hs : s = .slice src n cap) (K : RunB w B pc R s why ep home mp epoch ow nS nT nA nW) (y : Nat) (hn : 0 < n) :
    Calls Tryz.prog 81 #[.pointer (some ⟨B, 0, none⟩), .int .u8 (y : Int)] w fun e w' => RunP w B pc R s y ep home mp epoch ow nS nT nA nW e w' := by
  unfold RunB at K
  have F : Hid (RunP w B pc R s y ep home mp epoch ow nS nT nA nW (.returned (.tuple #[])) (w.setCell ⟨B, 10, none⟩ (.int .u8 (y : Int)))) := Lib.hid ⟨rfl, by
    have k := Blk.set_ K 10 (.int .u8 (y : Int))
    unfold RunB
    simpa using k, (Upd.refl B w).setCell 10 _⟩
  generalize RunP w B pc R s y ep home mp epoch ow nS nT nA nW = Q at F
  have t9 : w.cell? ⟨B, 9, none⟩ = some (s) := K.cell 9
  have ft9 : w.frozen? ⟨B, 9, none⟩ = false := K.frozen 9
  have t10 : w.cell? ⟨B, 10, none⟩ = some (.int .u8 (why : Int)) := K.cell 10
  have ft10 : w.frozen? ⟨B, 10, none⟩ = false := K.frozen 10
  clear K
  subst hs
  have hnz : (0 : Int) < (n : Int) := by omega
  go_enter Tryz.func81, Tryz.ntmps81
  go_wp2_with fail
  refine bodyPost_ret (v := .tuple #[]) (by simp [results, Tryz.results81, go_sem, *]) rfl ?_
  exact F.out
set_option maxRecDepth 100000 in
set_option maxHeartbeats 4000000 in
theorem pass_empty (w : World) (B pc : Nat) (R : Nat → Nat) (s : Value) (why ep home : Nat) (mp : Value) (epoch ow : Nat) (nS nT : Bool) (nA nW : Nat) (src : Option Addr) (cap : Nat) (hs : s = .slice src 0 cap) (K : RunB w B pc R s why ep home mp epoch ow nS nT nA nW) (y : Nat) :
    Calls Tryz.prog 81 #[.pointer (some ⟨B, 0, none⟩), .int .u8 (y : Int)] w fun e w' => RunP w B home R s why epoch home mp epoch ow true nT nA nW e w' := by
  unfold RunB at K
  have HK := Lib.hid K
  have t0 : w.cell? ⟨B, 0, none⟩ = some (.int .u32 (pc : Int)) := K.cell 0
  have ft0 : w.frozen? ⟨B, 0, none⟩ = false := K.frozen 0
  have t9 : w.cell? ⟨B, 9, none⟩ = some (s) := K.cell 9
  have ft9 : w.frozen? ⟨B, 9, none⟩ = false := K.frozen 9
  have t10 : w.cell? ⟨B, 10, none⟩ = some (.int .u8 (why : Int)) := K.cell 10
  have ft10 : w.frozen? ⟨B, 10, none⟩ = false := K.frozen 10
  have t11 : w.cell? ⟨B, 11, none⟩ = some (.int .u64 (ep : Int)) := K.cell 11
  have ft11 : w.frozen? ⟨B, 11, none⟩ = false := K.frozen 11
  have t12 : w.cell? ⟨B, 12, none⟩ = some (.int .u32 (home : Int)) := K.cell 12
  have ft12 : w.frozen? ⟨B, 12, none⟩ = false := K.frozen 12
  have t14 : w.cell? ⟨B, 14, none⟩ = some (.int .u64 (epoch : Int)) := K.cell 14
  have ft14 : w.frozen? ⟨B, 14, none⟩ = false := K.frozen 14
  have t16 : w.cell? ⟨B, 16, none⟩ = some (.bool nS) := K.cell 16
  have ft16 : w.frozen? ⟨B, 16, none⟩ = false := K.frozen 16
  clear K
  have F : Hid (∀ n : Nat, RunP w B home R s why epoch home mp epoch ow true nT nA nW (.returned (.tuple #[])) ((((w.drewN n).setCell ⟨B, 11, none⟩ (.int .u64 (epoch : Int))).setCell ⟨B, 0, none⟩ (.int .u32 (home : Int))).setCell ⟨B, 16, none⟩ (.bool true))) := Lib.hid fun n => ⟨rfl, by
    have k := Blk.set_ (Blk.set_ (Blk.set_ (HK.out.drewN n) 11 (.int .u64 (epoch : Int))) 0 (.int .u32 (home : Int))) 16 (.bool true)
    unfold RunB
    simpa using k, ((((Upd.refl B w).drewN n).setCell 11 _).setCell 0 _).setCell 16 _⟩
  generalize RunP w B home R s why epoch home mp epoch ow true nT nA nW = Q at F
  subst hs
  go_enter Tryz.func81, Tryz.ntmps81
  go_wp2_with fail
  go_region_with (fail)
  all_goals
    go_wp2_with fail
    refine bodyPost_ret (v := .tuple #[]) (by simp [results, Tryz.results81, go_sem, *]) rfl ?_
    exact F.out _
/-- What the operations on two numbers make. -/
def reck (op a b : Nat) : Nat :=
  if op = 3 then (a + b) % 4294967296
  else if op = 4 then (a + (4294967296 - b)) % 4294967296
  else if op = 5 then (Go.bits .and .u32 (a : Int) (b : Int)).toNat
  else if op = 6 then (Go.bits .or .u32 (a : Int) (b : Int)).toNat
  else if op = 7 then (Go.bits .xor .u32 (a : Int) (b : Int)).toNat
  else if op = 8 then a * 2 ^ (b % 32) % 4294967296
  else if op = 9 then a / 2 ^ (b % 32)
  else if wrap32 (a : Int) < wrap32 (b : Int) then 1 else 0
theorem bits_nonneg (o : BinOp) (a b : Int) : 0 ≤ Go.bits o .u32 a b := by
  unfold Go.bits
  have := fun x => (IntKind.wrap_u32 x)
  first
    | (rw [IntKind.wrap_u32]; omega)
    | (split <;> first | (rw [IntKind.wrap_u32]; omega) | omega)
theorem bits_cast (o : BinOp) (a b : Int) : ((Go.bits o .u32 a b).toNat : Int) = Go.bits o .u32 a b := Int.toNat_of_nonneg (bits_nonneg o a b)
theorem shl_cast (a k : Nat) : ((a * 2 ^ k % 4294967296 : Nat) : Int) = (a : Int) * 2 ^ k % 4294967296 := by simp
theorem shr_cast (a k : Nat) : ((a / 2 ^ k : Nat) : Int) = (a : Int) / 2 ^ k := by simp
theorem reck_3 (a b : Nat) : reck 3 a b = (a + b) % 4294967296 := by simp [reck]
theorem reck_4 (a b : Nat) : reck 4 a b = (a + (4294967296 - b)) % 4294967296 := by simp [reck]
theorem reck_5 (a b : Nat) : reck 5 a b = (Go.bits .and .u32 (a : Int) (b : Int)).toNat := by simp [reck]
theorem reck_6 (a b : Nat) : reck 6 a b = (Go.bits .or .u32 (a : Int) (b : Int)).toNat := by simp [reck]
theorem reck_7 (a b : Nat) : reck 7 a b = (Go.bits .xor .u32 (a : Int) (b : Int)).toNat := by simp [reck]
theorem reck_8 (a b : Nat) : reck 8 a b = a * 2 ^ (b % 32) % 4294967296 := by simp [reck]
theorem reck_9 (a b : Nat) : reck 9 a b = a / 2 ^ (b % 32) := by simp [reck]
theorem reck_10 (a b : Nat) : reck 10 a b = if wrap32 (a : Int) < wrap32 (b : Int) then 1 else 0 := by simp [reck]
theorem and31 (b : Nat) (hb : b < 4294967296) : Go.bits .and .u32 (b : Int) 31 = ((b % 32 : Nat) : Int) := by
  have h := u32_and_nat b 31 hb (by omega)
  have e : b &&& 31 = b % 32 := Nat.and_two_pow_sub_one_eq_mod b 5
  rw [e] at h
  exact h
set_option maxRecDepth 100000 in
set_option maxHeartbeats 4000000 in
theorem reckon_c (w : World) (op a b : Nat) (h1 : 3 ≤ op) (h2 : op ≤ 10) (ha : a < 4294967296) (hb : b < 4294967296) :
    Calls Tryz.prog 29 #[.int .u8 (op : Int), .int .u32 (a : Int), .int .u32 (b : Int)] w fun e w' => e = .returned (.int .u32 ((reck op a b : Nat) : Int)) ∧ w' = w := by
  have h31 := and31 b hb
  have htm : Int.tmod (b : Int) 32 = ((b % 32 : Nat) : Int) := by rw [Int.tmod_eq_emod_of_nonneg (by omega)]; omega
  have hk : ((b % 32 : Nat) : Int) ≤ 32 := by omega
  have hk0 : 0 ≤ ((b % 32 : Nat) : Int) := by omega
  match op, h1, h2 with
  | 3, _, _ =>
    show Calls Tryz.prog 29 #[.int .u8 3, .int .u32 (a : Int), .int .u32 (b : Int)] w fun e w' => e = .returned (.int .u32 ((reck 3 a b : Nat) : Int)) ∧ w' = w
    rw [reck_3]
    go_enter Tryz.func29, Tryz.ntmps29
    go_wp2_with fail
    go_ret
    exact ⟨ret_int (by omega), rfl⟩
  | 4, _, _ =>
    show Calls Tryz.prog 29 #[.int .u8 4, .int .u32 (a : Int), .int .u32 (b : Int)] w fun e w' => e = .returned (.int .u32 ((reck 4 a b : Nat) : Int)) ∧ w' = w
    rw [reck_4]
    go_enter Tryz.func29, Tryz.ntmps29
    go_wp2_with fail
    go_ret
    exact ⟨ret_int (by omega), rfl⟩
  | 5, _, _ =>
    show Calls Tryz.prog 29 #[.int .u8 5, .int .u32 (a : Int), .int .u32 (b : Int)] w fun e w' => e = .returned (.int .u32 ((reck 5 a b : Nat) : Int)) ∧ w' = w
    rw [reck_5]
    go_enter Tryz.func29, Tryz.ntmps29
    go_wp2_with fail
    go_ret
    exact ⟨ret_int (bits_cast _ _ _).symm, rfl⟩
  | 6, _, _ =>
    show Calls Tryz.prog 29 #[.int .u8 6, .int .u32 (a : Int), .int .u32 (b : Int)] w fun e w' => e = .returned (.int .u32 ((reck 6 a b : Nat) : Int)) ∧ w' = w
    rw [reck_6]
    go_enter Tryz.func29, Tryz.ntmps29
    go_wp2_with fail
    go_ret
    exact ⟨ret_int (bits_cast _ _ _).symm, rfl⟩
  | 7, _, _ =>
    show Calls Tryz.prog 29 #[.int .u8 7, .int .u32 (a : Int), .int .u32 (b : Int)] w fun e w' => e = .returned (.int .u32 ((reck 7 a b : Nat) : Int)) ∧ w' = w
    rw [reck_7]
    go_enter Tryz.func29, Tryz.ntmps29
    go_wp2_with fail
    go_ret
    exact ⟨ret_int (bits_cast _ _ _).symm, rfl⟩
  | 8, _, _ =>
    show Calls Tryz.prog 29 #[.int .u8 8, .int .u32 (a : Int), .int .u32 (b : Int)] w fun e w' => e = .returned (.int .u32 ((reck 8 a b : Nat) : Int)) ∧ w' = w
    rw [reck_8, shl_cast]
    generalize b % 32 = k at h31 htm hk hk0 ⊢
    go_enter Tryz.func29, Tryz.ntmps29
    go_wp2_with fail
    go_ret
    exact ⟨ret_int (by simp), rfl⟩
  | 9, _, _ =>
    show Calls Tryz.prog 29 #[.int .u8 9, .int .u32 (a : Int), .int .u32 (b : Int)] w fun e w' => e = .returned (.int .u32 ((reck 9 a b : Nat) : Int)) ∧ w' = w
    rw [reck_9, shr_cast]
    generalize b % 32 = k at h31 htm hk hk0 ⊢
    go_enter Tryz.func29, Tryz.ntmps29
    go_wp2_with fail
    go_ret
    exact ⟨ret_int (by simp), rfl⟩
  | 10, _, _ =>
    show Calls Tryz.prog 29 #[.int .u8 10, .int .u32 (a : Int), .int .u32 (b : Int)] w fun e w' => e = .returned (.int .u32 ((reck 10 a b : Nat) : Int)) ∧ w' = w
    by_cases hl : wrap32 (a : Int) < wrap32 (b : Int)
    · rw [reck_10, if_pos hl]
      go_enter Tryz.func29, Tryz.ntmps29
      go_wp2_with fail
      go_ret
      exact ⟨rfl, rfl⟩
    · rw [reck_10, if_neg hl]
      go_enter Tryz.func29, Tryz.ntmps29
      go_wp2_with fail
      go_ret
      exact ⟨rfl, rfl⟩
end Go.Proofs.YthnbdeibjbicpaaGreat.PM

/- Contracts of hart's plain. Conditions: the cells. -/
namespace Go.Proofs.YthnbdeibjbicpaaGreat.PM
set_option linter.unusedVariables false
set_option linter.unusedSimpArgs false
open Go.RowKit
set_option maxRecDepth 100000 in
set_option maxHeartbeats 4000000 in
theorem plain_0 (w : World) (B pc : Nat) (R : Nat → Nat) (s : Value) (why ep home : Nat) (mp : Value) (epoch ow : Nat) (nS nT : Bool) (nA nW : Nat) (K : RunB w B pc R s why ep home mp epoch ow nS nT nA nW) (d a b : Nat) (imm : Int) (u : Nat) (hd : d < 8) (ha : a < 8) (hu : imm % 4294967296 = (u : Int)) :
    Calls Tryz.prog 33 #[.pointer (some ⟨B, 0, none⟩), .agg #[.int .u8 0, .int .u8 (d : Int), .int .u8 (a : Int), .int .u8 (b : Int), .int .i32 imm]] w fun e w' => RunP w B pc R s 1 ep home mp epoch ow nS nT nA nW e w' := by
  unfold RunB at K
  have hB : B < w.heap.size := K.lt
  have hw := wrap_inc pc
  have hwu : IntKind.u32.wrap imm = (u : Int) := by rw [IntKind.wrap_u32]; exact hu
  have F : Hid (∀ A t, RunP w B pc R s 1 ep home mp epoch ow nS nT nA nW (.returned (.tuple #[])) ((w.setCell ⟨B, 10, none⟩ (.int .u8 1)).alloc (.cells A t))) := Lib.hid fun A t => ⟨rfl, by
    have k := Blk.alloc (Blk.set_ K 10 (.int .u8 1)) (.cells A t)
    unfold RunB
    simpa using k, ((Upd.refl B w).setCell 10 _).alloc _⟩
  have t0 : w.cell? ⟨B, 0, none⟩ = some (.int .u32 (pc : Int)) := K.cell 0
  have ft0 : w.frozen? ⟨B, 0, none⟩ = false := K.frozen 0
  have t10 : w.cell? ⟨B, 10, none⟩ = some (.int .u8 (why : Int)) := K.cell 10
  have ft10 : w.frozen? ⟨B, 10, none⟩ = false := K.frozen 10
  clear K
  generalize RunP w B pc R s 1 ep home mp epoch ow nS nT nA nW = Q at F
  go_enter Tryz.func33, Tryz.ntmps33
  go_wp2_with fail
  refine bodyPost_ret (v := .tuple #[]) (by simp [results, Tryz.results33, go_sem, *]) rfl ?_
  exact F.out _ _
set_option maxRecDepth 100000 in
set_option maxHeartbeats 4000000 in
theorem plain_1 (w : World) (B pc : Nat) (R : Nat → Nat) (s : Value) (why ep home : Nat) (mp : Value) (epoch ow : Nat) (nS nT : Bool) (nA nW : Nat) (K : RunB w B pc R s why ep home mp epoch ow nS nT nA nW) (d a b : Nat) (imm : Int) (u : Nat) (hd : d < 8) (ha : a < 8) (hu : imm % 4294967296 = (u : Int)) :
    Calls Tryz.prog 33 #[.pointer (some ⟨B, 0, none⟩), .agg #[.int .u8 1, .int .u8 (d : Int), .int .u8 (a : Int), .int .u8 (b : Int), .int .i32 imm]] w fun e w' => RunP w B (inc pc) R s why ep home mp epoch ow nS nT nA nW e w' := by
  unfold RunB at K
  have hB : B < w.heap.size := K.lt
  have hw := wrap_inc pc
  have hwu : IntKind.u32.wrap imm = (u : Int) := by rw [IntKind.wrap_u32]; exact hu
  have F : Hid (∀ A t, RunP w B (inc pc) R s why ep home mp epoch ow nS nT nA nW (.returned (.tuple #[])) ((w.setCell ⟨B, 0, none⟩ (.int .u32 (inc pc : Int))).alloc (.cells A t))) := Lib.hid fun A t => ⟨rfl, by
    have k := Blk.alloc (Blk.set_ K 0 (.int .u32 (inc pc : Int))) (.cells A t)
    unfold RunB
    simpa using k, ((Upd.refl B w).setCell 0 _).alloc _⟩
  have t0 : w.cell? ⟨B, 0, none⟩ = some (.int .u32 (pc : Int)) := K.cell 0
  have ft0 : w.frozen? ⟨B, 0, none⟩ = false := K.frozen 0
  have t10 : w.cell? ⟨B, 10, none⟩ = some (.int .u8 (why : Int)) := K.cell 10
  have ft10 : w.frozen? ⟨B, 10, none⟩ = false := K.frozen 10
  clear K
  generalize RunP w B (inc pc) R s why ep home mp epoch ow nS nT nA nW = Q at F
  go_enter Tryz.func33, Tryz.ntmps33
  go_wp2_with fail
  refine bodyPost_ret (v := .tuple #[]) (by simp [results, Tryz.results33, go_sem, *]) rfl ?_
  exact F.out _ _
set_option maxRecDepth 100000 in
set_option maxHeartbeats 4000000 in
theorem plain_2 (w : World) (B pc : Nat) (R : Nat → Nat) (s : Value) (why ep home : Nat) (mp : Value) (epoch ow : Nat) (nS nT : Bool) (nA nW : Nat) (K : RunB w B pc R s why ep home mp epoch ow nS nT nA nW) (d a b : Nat) (imm : Int) (u : Nat) (hd : d < 8) (ha : a < 8) (hu : imm % 4294967296 = (u : Int)) :
    Calls Tryz.prog 33 #[.pointer (some ⟨B, 0, none⟩), .agg #[.int .u8 2, .int .u8 (d : Int), .int .u8 (a : Int), .int .u8 (b : Int), .int .i32 imm]] w fun e w' => RunP w B (inc pc) (setR R d u) s why ep home mp epoch ow nS nT nA nW e w' := by
  unfold RunB at K
  have hB : B < w.heap.size := K.lt
  have hw := wrap_inc pc
  have hwu : IntKind.u32.wrap imm = (u : Int) := by rw [IntKind.wrap_u32]; exact hu
  have SC := Lib.hid (set_c (w.alloc (.cells #[.int .u8 2, .int .u8 (d : Int), .int .u8 (a : Int), .int .u8 (b : Int), .int .i32 imm] 78)) B pc R s why ep home mp epoch ow nS nT nA nW (Blk.alloc K _) d u hd)
  clear K
  go_enter Tryz.func33, Tryz.ntmps33
  go_wp2_with fail
  refine SC.out.mono ?_
  rintro e w1 ⟨rfl, k1, u1⟩
  have F : Hid (RunP w B (inc pc) (setR R d u) s why ep home mp epoch ow nS nT nA nW (.returned (.tuple #[])) w1) := Lib.hid ⟨rfl, k1, ((Upd.refl B w).alloc _).trans u1⟩
  clear k1 u1 SC
  go_wp2_with fail
  refine bodyPost_ret (v := .tuple #[]) (by simp [results, Tryz.results33, go_sem, *]) rfl ?_
  exact F.out
set_option maxRecDepth 100000 in
set_option maxHeartbeats 4000000 in
theorem plain_11 (w : World) (B pc : Nat) (R : Nat → Nat) (s : Value) (why ep home : Nat) (mp : Value) (epoch ow : Nat) (nS nT : Bool) (nA nW : Nat) (K : RunB w B pc R s why ep home mp epoch ow nS nT nA nW) (d a b : Nat) (imm : Int) (u : Nat) (hd : d < 8) (ha : a < 8) (hu : imm % 4294967296 = (u : Int)) :
    Calls Tryz.prog 33 #[.pointer (some ⟨B, 0, none⟩), .agg #[.int .u8 11, .int .u8 (d : Int), .int .u8 (a : Int), .int .u8 (b : Int), .int .i32 imm]] w fun e w' => RunP w B (inc pc) (setR R d ((getR R a + u) % 4294967296)) s why ep home mp epoch ow nS nT nA nW e w' := by
  unfold RunB at K
  have hB : B < w.heap.size := K.lt
  have hw := wrap_inc pc
  have hwu : IntKind.u32.wrap imm = (u : Int) := by rw [IntKind.wrap_u32]; exact hu
  have SC := Lib.hid (fun W (k : RunB W B pc R s why ep home mp epoch ow nS nT nA nW) => set_c W B pc R s why ep home mp epoch ow nS nT nA nW k d ((getR R a + u) % 4294967296) hd)
  have RC := Lib.hid (fun W (k : RunB W B pc R s why ep home mp epoch ow nS nT nA nW) => reg_c W B pc R s why ep home mp epoch ow nS nT nA nW k a ha)
  have hsum : ((getR R a : Int) + (u : Int)) % 4294967296 = (((getR R a + u) % 4294967296 : Nat) : Int) := by omega
  have hsw : IntKind.u32.wrap ((getR R a : Int) + (u : Int)) = (((getR R a + u) % 4294967296 : Nat) : Int) := by rw [IntKind.wrap_u32]; exact hsum
  generalize (getR R a + u) % 4294967296 = y at SC hsum hsw ⊢
  generalize getR R a = x at RC hsum hsw
  have K0 : Hid (RunB (w.alloc (.cells #[.int .u8 11, .int .u8 (d : Int), .int .u8 (a : Int), .int .u8 (b : Int), .int .i32 imm] 78)) B pc R s why ep home mp epoch ow nS nT nA nW) := Lib.hid (Blk.alloc K _)
  have I0 := Lib.hid (Blk.new w 78 #[.int .u8 11, .int .u8 (d : Int), .int .u8 (a : Int), .int .u8 (b : Int), .int .i32 imm])
  generalize hW : w.alloc (.cells #[.int .u8 11, .int .u8 (d : Int), .int .u8 (a : Int), .int .u8 (b : Int), .int .i32 imm] 78) = W at K0 I0
  have UW : Hid (Upd B w W) := Lib.hid (hW ▸ (Upd.refl B w).alloc _)
  have KW := Lib.hid hW
  clear hW K
  have TX : Hid (W.drew.cell? ⟨w.heap.size, 1, none⟩ = some (.int .u8 (d : Int)) ∧ W.drew.cell? ⟨w.heap.size, 2, none⟩ = some (.int .u8 (a : Int)) ∧ W.drew.cell? ⟨w.heap.size, 4, none⟩ = some (.int .i32 imm)) := Lib.hid ⟨I0.out.cell 1, I0.out.cell 2, I0.out.cell 4⟩
  have TU : Hid (∀ w1, Upd B W.drew w1 → w1.cell? ⟨w.heap.size, 1, none⟩ = some (.int .u8 (d : Int)) ∧ w1.cell? ⟨w.heap.size, 2, none⟩ = some (.int .u8 (a : Int)) ∧ w1.cell? ⟨w.heap.size, 4, none⟩ = some (.int .i32 imm)) := Lib.hid fun w1 u1 => by
    have k := u1.blk (I0.out.drewN 1) (by omega)
    exact ⟨k.cell 1, k.cell 2, k.cell 4⟩
  have p0 : W.cell? ⟨w.heap.size, 0, none⟩ = some (.int .u8 11) := I0.out.cell 0
  go_enter Tryz.func33, Tryz.ntmps33
  go_wp2_with fail
  (try rw [KW.out])
  go_region_held3 (fun w' => w'.cell? ⟨w.heap.size, 1, none⟩ = some (.int .u8 (d : Int)) ∧ w'.cell? ⟨w.heap.size, 2, none⟩ = some (.int .u8 (a : Int)) ∧ w'.cell? ⟨w.heap.size, 4, none⟩ = some (.int .i32 imm)) (first | exact TX.out | exact TU.out _ u1 | go_keep) ((first
    | (go_at_call 30; (with_reducible refine (RC.out _ ?_).mono ?_); (first | exact Blk.drewN K0.out 1); rintro e w1 ⟨rfl, rfl⟩)
    | (go_at_call 28; (with_reducible refine (SC.out _ ?_).mono ?_); (first | exact Blk.drewN K0.out 1); rintro e w1 ⟨rfl, k1, u1⟩)))
  have F : Hid (RunP w B (inc pc) (setR R d y) s why ep home mp epoch ow nS nT nA nW (.returned (.tuple #[])) w1) := Lib.hid ⟨rfl, k1, (UW.out.trans ((Upd.refl B W).drewN 1)).trans u1⟩
  clear k1 u1 SC RC TX TU K0 I0 KW UW p0
  go_wp2_with fail
  refine bodyPost_ret (v := .tuple #[]) (by simp [results, Tryz.results33, go_sem, *]) rfl ?_
  exact F.out
end Go.Proofs.YthnbdeibjbicpaaGreat.PM
