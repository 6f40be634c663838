/- A step under way as cells; contracts of hart's reg, set, pass, reckon. Conditions: the cells. -/
import Derived.Test.YthnbdeibjbicpaaMem4
import Derived.Test.YthnbdeibjbicpaaIsa9
import Derived.Deep.RegionWith
namespace Go.Proofs.Ythnbdeibjbicpaa.PM
set_option linter.unusedVariables false
set_option linter.unusedSimpArgs false
open Go.RowKit
abbrev hv (pc : Nat) (R : Nat → Nat) (s : Value) (why ep home : Nat) : Value := .agg #[.int .u32 (pc : Int), .int .u32 (R 0 : Int), .int .u32 (R 1 : Int), .int .u32 (R 2 : Int), .int .u32 (R 3 : Int), .int .u32 (R 4 : Int), .int .u32 (R 5 : Int), .int .u32 (R 6 : Int), .int .u32 (R 7 : Int), s, .int .u8 (why : Int), .int .u64 (ep : Int), .int .u32 (home : Int)]
/-- A step under way: twenty cells. -/
abbrev RunB (w : World) (B : Nat) (pc : Nat) (R : Nat → Nat) (s : Value) (why ep home : Nat) (mp : Value) (epoch ow : Nat) (nS nT : Bool) (nA nW : Nat) : Prop := Blk w B 83 #[.int .u32 (pc : Int), .int .u32 (R 0 : Int), .int .u32 (R 1 : Int), .int .u32 (R 2 : Int), .int .u32 (R 3 : Int), .int .u32 (R 4 : Int), .int .u32 (R 5 : Int), .int .u32 (R 6 : Int), .int .u32 (R 7 : Int), s, .int .u8 (why : Int), .int .u64 (ep : Int), .int .u32 (home : Int), mp, .int .u64 (epoch : Int), .int .u16 (ow : Int), .bool nS, .bool nT, .int .u32 (nA : Int), .int .u32 (nW : Int)]
def inc (x : Nat) : Nat := (x + 1) % 4294967296
theorem wrap_inc (x : Nat) : IntKind.u32.wrap ((x : Int) + 1) = ((inc x : Nat) : Int) := by
  unfold inc IntKind.wrap
  simp [IntKind.bits, IntKind.signed]
def getR (R : Nat → Nat) (i : Nat) : Nat := if i = 0 then 0 else R i
def setR (R : Nat → Nat) (i v : Nat) : Nat → Nat := if i = 0 then R else fun j => if j = i then v else R j
theorem cell1 {w : World} {g : Nat} {t : TypeId} {cs : Array Value} (h : Blk w g t cs) (i : Nat) (v : Value) (e : cs[i]? = some v) : w.cell? ⟨g, i, none⟩ = some v := (h.cell i).trans e
set_option maxRecDepth 100000 in
set_option maxHeartbeats 4000000 in
theorem reg_c (w : World) (B pc : Nat) (R : Nat → Nat) (s : Value) (why ep home : Nat) (mp : Value) (epoch ow : Nat) (nS nT : Bool) (nA nW : Nat) (K : RunB w B pc R s why ep home mp epoch ow nS nT nA nW) (i : Nat) (hi : i < 8) :
    Calls Try.prog 43 #[.pointer (some ⟨B, 0, none⟩), .int .u8 (i : Int)] w fun e w' => e = .returned (.int .u32 (getR R i : Int)) ∧ w' = w := by
  unfold RunB at K
  have t1 : w.cell? ⟨B, 1, none⟩ = some (.int .u32 (R 0 : Int)) := K.cell 1
  have t2 : w.cell? ⟨B, 2, none⟩ = some (.int .u32 (R 1 : Int)) := K.cell 2
  have t3 : w.cell? ⟨B, 3, none⟩ = some (.int .u32 (R 2 : Int)) := K.cell 3
  have t4 : w.cell? ⟨B, 4, none⟩ = some (.int .u32 (R 3 : Int)) := K.cell 4
  have t5 : w.cell? ⟨B, 5, none⟩ = some (.int .u32 (R 4 : Int)) := K.cell 5
  have t6 : w.cell? ⟨B, 6, none⟩ = some (.int .u32 (R 5 : Int)) := K.cell 6
  have t7 : w.cell? ⟨B, 7, none⟩ = some (.int .u32 (R 6 : Int)) := K.cell 7
  have t8 : w.cell? ⟨B, 8, none⟩ = some (.int .u32 (R 7 : Int)) := K.cell 8
  clear K
  match i, hi with
  | 0, _ =>
    show Calls Try.prog 43 #[.pointer (some ⟨B, 0, none⟩), .int .u8 0] w fun e w' => e = .returned (.int .u32 0) ∧ w' = w
    go_enter Try.func43, Try.ntmps43
    go_wp2_with fail
    go_ret
    exact ⟨rfl, rfl⟩
  | 1, _ =>
    show Calls Try.prog 43 #[.pointer (some ⟨B, 0, none⟩), .int .u8 1] w fun e w' => e = .returned (.int .u32 (R 1 : Int)) ∧ w' = w
    go_enter Try.func43, Try.ntmps43
    go_wp2_with fail
    go_ret
    exact ⟨rfl, rfl⟩
  | 2, _ =>
    show Calls Try.prog 43 #[.pointer (some ⟨B, 0, none⟩), .int .u8 2] w fun e w' => e = .returned (.int .u32 (R 2 : Int)) ∧ w' = w
    go_enter Try.func43, Try.ntmps43
    go_wp2_with fail
    go_ret
    exact ⟨rfl, rfl⟩
  | 3, _ =>
    show Calls Try.prog 43 #[.pointer (some ⟨B, 0, none⟩), .int .u8 3] w fun e w' => e = .returned (.int .u32 (R 3 : Int)) ∧ w' = w
    go_enter Try.func43, Try.ntmps43
    go_wp2_with fail
    go_ret
    exact ⟨rfl, rfl⟩
  | 4, _ =>
    show Calls Try.prog 43 #[.pointer (some ⟨B, 0, none⟩), .int .u8 4] w fun e w' => e = .returned (.int .u32 (R 4 : Int)) ∧ w' = w
    go_enter Try.func43, Try.ntmps43
    go_wp2_with fail
    go_ret
    exact ⟨rfl, rfl⟩
  | 5, _ =>
    show Calls Try.prog 43 #[.pointer (some ⟨B, 0, none⟩), .int .u8 5] w fun e w' => e = .returned (.int .u32 (R 5 : Int)) ∧ w' = w
    go_enter Try.func43, Try.ntmps43
    go_wp2_with fail
    go_ret
    exact ⟨rfl, rfl⟩
  | 6, _ =>
    show Calls Try.prog 43 #[.pointer (some ⟨B, 0, none⟩), .int .u8 6] w fun e w' => e = .returned (.int .u32 (R 6 : Int)) ∧ w' = w
    go_enter Try.func43, Try.ntmps43
    go_wp2_with fail
    go_ret
    exact ⟨rfl, rfl⟩
  | 7, _ =>
    show Calls Try.prog 43 #[.pointer (some ⟨B, 0, none⟩), .int .u8 7] w fun e w' => e = .returned (.int .u32 (R 7 : Int)) ∧ w' = w
    go_enter Try.func43, Try.ntmps43
    go_wp2_with fail
    go_ret
    exact ⟨rfl, rfl⟩
def SetP (w : World) (B pc : Nat) (R : Nat → Nat) (s : Value) (why ep home : Nat) (mp : Value) (epoch ow : Nat) (nS nT : Bool) (nA nW : Nat) (i v : Nat) (e : Ending) (w' : World) : Prop := e = .returned (.tuple #[]) ∧ RunB w' B (inc pc) (setR R i v) s why ep home mp epoch ow nS nT nA nW ∧ Upd B w w'
set_option maxRecDepth 100000 in
set_option maxHeartbeats 4000000 in
theorem set_c (w : World) (B pc : Nat) (R : Nat → Nat) (s : Value) (why ep home : Nat) (mp : Value) (epoch ow : Nat) (nS nT : Bool) (nA nW : Nat) (K : RunB w B pc R s why ep home mp epoch ow nS nT nA nW) (i v : Nat) (hi : i < 8) :
    Calls Try.prog 41 #[.pointer (some ⟨B, 0, none⟩), .int .u8 (i : Int), .int .u32 (v : Int)] w fun e w' => SetP w B pc R s why ep home mp epoch ow nS nT nA nW i v e w' := by
  unfold RunB at K
  have hw := wrap_inc pc
  have HK := Lib.hid K
  have t0 : w.cell? ⟨B, 0, none⟩ = some (.int .u32 (pc : Int)) := K.cell 0
  have ft0 : w.frozen? ⟨B, 0, none⟩ = false := K.frozen 0
  have t1 : w.cell? ⟨B, 1, none⟩ = some (.int .u32 (R 0 : Int)) := K.cell 1
  have ft1 : w.frozen? ⟨B, 1, none⟩ = false := K.frozen 1
  have t2 : w.cell? ⟨B, 2, none⟩ = some (.int .u32 (R 1 : Int)) := K.cell 2
  have ft2 : w.frozen? ⟨B, 2, none⟩ = false := K.frozen 2
  have t3 : w.cell? ⟨B, 3, none⟩ = some (.int .u32 (R 2 : Int)) := K.cell 3
  have ft3 : w.frozen? ⟨B, 3, none⟩ = false := K.frozen 3
  have t4 : w.cell? ⟨B, 4, none⟩ = some (.int .u32 (R 3 : Int)) := K.cell 4
  have ft4 : w.frozen? ⟨B, 4, none⟩ = false := K.frozen 4
  have t5 : w.cell? ⟨B, 5, none⟩ = some (.int .u32 (R 4 : Int)) := K.cell 5
  have ft5 : w.frozen? ⟨B, 5, none⟩ = false := K.frozen 5
  have t6 : w.cell? ⟨B, 6, none⟩ = some (.int .u32 (R 5 : Int)) := K.cell 6
  have ft6 : w.frozen? ⟨B, 6, none⟩ = false := K.frozen 6
  have t7 : w.cell? ⟨B, 7, none⟩ = some (.int .u32 (R 6 : Int)) := K.cell 7
  have ft7 : w.frozen? ⟨B, 7, none⟩ = false := K.frozen 7
  have t8 : w.cell? ⟨B, 8, none⟩ = some (.int .u32 (R 7 : Int)) := K.cell 8
  have ft8 : w.frozen? ⟨B, 8, none⟩ = false := K.frozen 8
  clear K
  match i, hi with
  | 0, _ =>
    have F : Hid (SetP w B pc R s why ep home mp epoch ow nS nT nA nW 0 v (.returned (.tuple #[])) (w.setCell ⟨B, 0, none⟩ (.int .u32 (inc pc : Int)))) := Lib.hid ⟨rfl, by
      have k := Blk.set_ (HK.out) 0 (.int .u32 (inc pc : Int))
      unfold RunB setR
      simpa using k, (Upd.refl B w).setCell 0 _⟩
    generalize SetP w B pc R s why ep home mp epoch ow nS nT nA nW 0 v = Q at F
    show Calls Try.prog 41 #[.pointer (some ⟨B, 0, none⟩), .int .u8 0, .int .u32 (v : Int)] w fun e w' => Q e w'
    go_enter Try.func41, Try.ntmps41
    go_wp2_with fail
    refine bodyPost_ret (v := .tuple #[]) (by simp [results, Try.results41, go_sem, *]) rfl ?_
    exact F.out
  | 1, _ =>
    have F : Hid (SetP w B pc R s why ep home mp epoch ow nS nT nA nW 1 v (.returned (.tuple #[])) ((w.setCell ⟨B, 2, none⟩ (.int .u32 (v : Int))).setCell ⟨B, 0, none⟩ (.int .u32 (inc pc : Int)))) := Lib.hid ⟨rfl, by
      have k := Blk.set_ (HK.out.set_ 2 (.int .u32 (v : Int))) 0 (.int .u32 (inc pc : Int))
      unfold RunB setR
      simpa using k, ((Upd.refl B w).setCell 2 _).setCell 0 _⟩
    generalize SetP w B pc R s why ep home mp epoch ow nS nT nA nW 1 v = Q at F
    show Calls Try.prog 41 #[.pointer (some ⟨B, 0, none⟩), .int .u8 1, .int .u32 (v : Int)] w fun e w' => Q e w'
    go_enter Try.func41, Try.ntmps41
    go_wp2_with fail
    refine bodyPost_ret (v := .tuple #[]) (by simp [results, Try.results41, go_sem, *]) rfl ?_
    exact F.out
  | 2, _ =>
    have F : Hid (SetP w B pc R s why ep home mp epoch ow nS nT nA nW 2 v (.returned (.tuple #[])) ((w.setCell ⟨B, 3, none⟩ (.int .u32 (v : Int))).setCell ⟨B, 0, none⟩ (.int .u32 (inc pc : Int)))) := Lib.hid ⟨rfl, by
      have k := Blk.set_ (HK.out.set_ 3 (.int .u32 (v : Int))) 0 (.int .u32 (inc pc : Int))
      unfold RunB setR
      simpa using k, ((Upd.refl B w).setCell 3 _).setCell 0 _⟩
    generalize SetP w B pc R s why ep home mp epoch ow nS nT nA nW 2 v = Q at F
    show Calls Try.prog 41 #[.pointer (some ⟨B, 0, none⟩), .int .u8 2, .int .u32 (v : Int)] w fun e w' => Q e w'
    go_enter Try.func41, Try.ntmps41
    go_wp2_with fail
    refine bodyPost_ret (v := .tuple #[]) (by simp [results, Try.results41, go_sem, *]) rfl ?_
    exact F.out
  | 3, _ =>
    have F : Hid (SetP w B pc R s why ep home mp epoch ow nS nT nA nW 3 v (.returned (.tuple #[])) ((w.setCell ⟨B, 4, none⟩ (.int .u32 (v : Int))).setCell ⟨B, 0, none⟩ (.int .u32 (inc pc : Int)))) := Lib.hid ⟨rfl, by
      have k := Blk.set_ (HK.out.set_ 4 (.int .u32 (v : Int))) 0 (.int .u32 (inc pc : Int))
      unfold RunB setR
      simpa using k, ((Upd.refl B w).setCell 4 _).setCell 0 _⟩
    generalize SetP w B pc R s why ep home mp epoch ow nS nT nA nW 3 v = Q at F
    show Calls Try.prog 41 #[.pointer (some ⟨B, 0, none⟩), .int .u8 3, .int .u32 (v : Int)] w fun e w' => Q e w'
    go_enter Try.func41, Try.ntmps41
    go_wp2_with fail
    refine bodyPost_ret (v := .tuple #[]) (by simp [results, Try.results41, go_sem, *]) rfl ?_
    exact F.out
  | 4, _ =>
    have F : Hid (SetP w B pc R s why ep home mp epoch ow nS nT nA nW 4 v (.returned (.tuple #[])) ((w.setCell ⟨B, 5, none⟩ (.int .u32 (v : Int))).setCell ⟨B, 0, none⟩ (.int .u32 (inc pc : Int)))) := Lib.hid ⟨rfl, by
      have k := Blk.set_ (HK.out.set_ 5 (.int .u32 (v : Int))) 0 (.int .u32 (inc pc : Int))
      unfold RunB setR
      simpa using k, ((Upd.refl B w).setCell 5 _).setCell 0 _⟩
    generalize SetP w B pc R s why ep home mp epoch ow nS nT nA nW 4 v = Q at F
    show Calls Try.prog 41 #[.pointer (some ⟨B, 0, none⟩), .int .u8 4, .int .u32 (v : Int)] w fun e w' => Q e w'
    go_enter Try.func41, Try.ntmps41
    go_wp2_with fail
    refine bodyPost_ret (v := .tuple #[]) (by simp [results, Try.results41, go_sem, *]) rfl ?_
    exact F.out
  | 5, _ =>
    have F : Hid (SetP w B pc R s why ep home mp epoch ow nS nT nA nW 5 v (.returned (.tuple #[])) ((w.setCell ⟨B, 6, none⟩ (.int .u32 (v : Int))).setCell ⟨B, 0, none⟩ (.int .u32 (inc pc : Int)))) := Lib.hid ⟨rfl, by
      have k := Blk.set_ (HK.out.set_ 6 (.int .u32 (v : Int))) 0 (.int .u32 (inc pc : Int))
      unfold RunB setR
      simpa using k, ((Upd.refl B w).setCell 6 _).setCell 0 _⟩
    generalize SetP w B pc R s why ep home mp epoch ow nS nT nA nW 5 v = Q at F
    show Calls Try.prog 41 #[.pointer (some ⟨B, 0, none⟩), .int .u8 5, .int .u32 (v : Int)] w fun e w' => Q e w'
    go_enter Try.func41, Try.ntmps41
    go_wp2_with fail
    refine bodyPost_ret (v := .tuple #[]) (by simp [results, Try.results41, go_sem, *]) rfl ?_
    exact F.out
  | 6, _ =>
    have F : Hid (SetP w B pc R s why ep home mp epoch ow nS nT nA nW 6 v (.returned (.tuple #[])) ((w.setCell ⟨B, 7, none⟩ (.int .u32 (v : Int))).setCell ⟨B, 0, none⟩ (.int .u32 (inc pc : Int)))) := Lib.hid ⟨rfl, by
      have k := Blk.set_ (HK.out.set_ 7 (.int .u32 (v : Int))) 0 (.int .u32 (inc pc : Int))
      unfold RunB setR
      simpa using k, ((Upd.refl B w).setCell 7 _).setCell 0 _⟩
    generalize SetP w B pc R s why ep home mp epoch ow nS nT nA nW 6 v = Q at F
    show Calls Try.prog 41 #[.pointer (some ⟨B, 0, none⟩), .int .u8 6, .int .u32 (v : Int)] w fun e w' => Q e w'
    go_enter Try.func41, Try.ntmps41
    go_wp2_with fail
    refine bodyPost_ret (v := .tuple #[]) (by simp [results, Try.results41, go_sem, *]) rfl ?_
    exact F.out
  | 7, _ =>
    have F : Hid (SetP w B pc R s why ep home mp epoch ow nS nT nA nW 7 v (.returned (.tuple #[])) ((w.setCell ⟨B, 8, none⟩ (.int .u32 (v : Int))).setCell ⟨B, 0, none⟩ (.int .u32 (inc pc : Int)))) := Lib.hid ⟨rfl, by
      have k := Blk.set_ (HK.out.set_ 8 (.int .u32 (v : Int))) 0 (.int .u32 (inc pc : Int))
      unfold RunB setR
      simpa using k, ((Upd.refl B w).setCell 8 _).setCell 0 _⟩
    generalize SetP w B pc R s why ep home mp epoch ow nS nT nA nW 7 v = Q at F
    show Calls Try.prog 41 #[.pointer (some ⟨B, 0, none⟩), .int .u8 7, .int .u32 (v : Int)] w fun e w' => Q e w'
    go_enter Try.func41, Try.ntmps41
    go_wp2_with fail
    refine bodyPost_ret (v := .tuple #[]) (by simp [results, Try.results41, go_sem, *]) rfl ?_
    exact F.out
end Go.Proofs.Ythnbdeibjbicpaa.PM
