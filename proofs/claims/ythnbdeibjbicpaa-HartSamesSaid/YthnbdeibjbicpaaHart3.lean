/- Contracts of hart's plain. Conditions: the cells. -/
import Derived.Test.YthnbdeibjbicpaaHart2
namespace Go.Proofs.Ythnbdeibjbicpaa.PM
set_option linter.unusedVariables false
set_option linter.unusedSimpArgs false
open Go.RowKit
set_option maxRecDepth 100000 in
set_option maxHeartbeats 4000000 in
theorem plain_0 (w : World) (B pc : Nat) (R : Nat → Nat) (s : Value) (why ep home : Nat) (mp : Value) (epoch ow : Nat) (nS nT : Bool) (nA nW : Nat) (K : RunB w B pc R s why ep home mp epoch ow nS nT nA nW) (d a b : Nat) (imm : Int) (u : Nat) (hd : d < 8) (ha : a < 8) (hu : imm % 4294967296 = (u : Int)) :
    Calls Try.prog 46 #[.pointer (some ⟨B, 0, none⟩), .agg #[.int .u8 0, .int .u8 (d : Int), .int .u8 (a : Int), .int .u8 (b : Int), .int .i32 imm]] w fun e w' => RunP w B pc R s 1 ep home mp epoch ow nS nT nA nW e w' := by
  unfold RunB at K
  have hB : B < w.heap.size := K.lt
  have hw := wrap_inc pc
  have hwu : IntKind.u32.wrap imm = (u : Int) := by rw [IntKind.wrap_u32]; exact hu
  have F : Hid (∀ A t, RunP w B pc R s 1 ep home mp epoch ow nS nT nA nW (.returned (.tuple #[])) ((w.setCell ⟨B, 10, none⟩ (.int .u8 1)).alloc (.cells A t))) := Lib.hid fun A t => ⟨rfl, by
    have k := Blk.alloc (Blk.set_ K 10 (.int .u8 1)) (.cells A t)
    unfold RunB
    simpa using k, ((Upd.refl B w).setCell 10 _).alloc _⟩
  have t0 : w.cell? ⟨B, 0, none⟩ = some (.int .u32 (pc : Int)) := K.cell 0
  have ft0 : w.frozen? ⟨B, 0, none⟩ = false := K.frozen 0
  have t10 : w.cell? ⟨B, 10, none⟩ = some (.int .u8 (why : Int)) := K.cell 10
  have ft10 : w.frozen? ⟨B, 10, none⟩ = false := K.frozen 10
  clear K
  generalize RunP w B pc R s 1 ep home mp epoch ow nS nT nA nW = Q at F
  go_enter Try.func46, Try.ntmps46
  go_wp2_with fail
  refine bodyPost_ret (v := .tuple #[]) (by simp [results, Try.results46, go_sem, *]) rfl ?_
  exact F.out _ _
set_option maxRecDepth 100000 in
set_option maxHeartbeats 4000000 in
theorem plain_1 (w : World) (B pc : Nat) (R : Nat → Nat) (s : Value) (why ep home : Nat) (mp : Value) (epoch ow : Nat) (nS nT : Bool) (nA nW : Nat) (K : RunB w B pc R s why ep home mp epoch ow nS nT nA nW) (d a b : Nat) (imm : Int) (u : Nat) (hd : d < 8) (ha : a < 8) (hu : imm % 4294967296 = (u : Int)) :
    Calls Try.prog 46 #[.pointer (some ⟨B, 0, none⟩), .agg #[.int .u8 1, .int .u8 (d : Int), .int .u8 (a : Int), .int .u8 (b : Int), .int .i32 imm]] w fun e w' => RunP w B (inc pc) R s why ep home mp epoch ow nS nT nA nW e w' := by
  unfold RunB at K
  have hB : B < w.heap.size := K.lt
  have hw := wrap_inc pc
  have hwu : IntKind.u32.wrap imm = (u : Int) := by rw [IntKind.wrap_u32]; exact hu
  have F : Hid (∀ A t, RunP w B (inc pc) R s why ep home mp epoch ow nS nT nA nW (.returned (.tuple #[])) ((w.setCell ⟨B, 0, none⟩ (.int .u32 (inc pc : Int))).alloc (.cells A t))) := Lib.hid fun A t => ⟨rfl, by
    have k := Blk.alloc (Blk.set_ K 0 (.int .u32 (inc pc : Int))) (.cells A t)
    unfold RunB
    simpa using k, ((Upd.refl B w).setCell 0 _).alloc _⟩
  have t0 : w.cell? ⟨B, 0, none⟩ = some (.int .u32 (pc : Int)) := K.cell 0
  have ft0 : w.frozen? ⟨B, 0, none⟩ = false := K.frozen 0
  have t10 : w.cell? ⟨B, 10, none⟩ = some (.int .u8 (why : Int)) := K.cell 10
  have ft10 : w.frozen? ⟨B, 10, none⟩ = false := K.frozen 10
  clear K
  generalize RunP w B (inc pc) R s why ep home mp epoch ow nS nT nA nW = Q at F
  go_enter Try.func46, Try.ntmps46
  go_wp2_with fail
  refine bodyPost_ret (v := .tuple #[]) (by simp [results, Try.results46, go_sem, *]) rfl ?_
  exact F.out _ _
set_option maxRecDepth 100000 in
set_option maxHeartbeats 4000000 in
theorem plain_2 (w : World) (B pc : Nat) (R : Nat → Nat) (s : Value) (why ep home : Nat) (mp : Value) (epoch ow : Nat) (nS nT : Bool) (nA nW : Nat) (K : RunB w B pc R s why ep home mp epoch ow nS nT nA nW) (d a b : Nat) (imm : Int) (u : Nat) (hd : d < 8) (ha : a < 8) (hu : imm % 4294967296 = (u : Int)) :
    Calls Try.prog 46 #[.pointer (some ⟨B, 0, none⟩), .agg #[.int .u8 2, .int .u8 (d : Int), .int .u8 (a : Int), .int .u8 (b : Int), .int .i32 imm]] w fun e w' => RunP w B (inc pc) (setR R d u) s why ep home mp epoch ow nS nT nA nW e w' := by
  unfold RunB at K
  have hB : B < w.heap.size := K.lt
  have hw := wrap_inc pc
  have hwu : IntKind.u32.wrap imm = (u : Int) := by rw [IntKind.wrap_u32]; exact hu
  have SC := Lib.hid (set_c (w.alloc (.cells #[.int .u8 2, .int .u8 (d : Int), .int .u8 (a : Int), .int .u8 (b : Int), .int .i32 imm] 88)) B pc R s why ep home mp epoch ow nS nT nA nW (Blk.alloc K _) d u hd)
  clear K
  go_enter Try.func46, Try.ntmps46
  go_wp2_with fail
  refine SC.out.mono ?_
  rintro e w1 ⟨rfl, k1, u1⟩
  have F : Hid (RunP w B (inc pc) (setR R d u) s why ep home mp epoch ow nS nT nA nW (.returned (.tuple #[])) w1) := Lib.hid ⟨rfl, k1, ((Upd.refl B w).alloc _).trans u1⟩
  clear k1 u1 SC
  go_wp2_with fail
  refine bodyPost_ret (v := .tuple #[]) (by simp [results, Try.results46, go_sem, *]) rfl ?_
  exact F.out
set_option maxRecDepth 100000 in
set_option maxHeartbeats 4000000 in
theorem plain_11 (w : World) (B pc : Nat) (R : Nat → Nat) (s : Value) (why ep home : Nat) (mp : Value) (epoch ow : Nat) (nS nT : Bool) (nA nW : Nat) (K : RunB w B pc R s why ep home mp epoch ow nS nT nA nW) (d a b : Nat) (imm : Int) (u : Nat) (hd : d < 8) (ha : a < 8) (hu : imm % 4294967296 = (u : Int)) :
    Calls Try.prog 46 #[.pointer (some ⟨B, 0, none⟩), .agg #[.int .u8 11, .int .u8 (d : Int), .int .u8 (a : Int), .int .u8 (b : Int), .int .i32 imm]] w fun e w' => RunP w B (inc pc) (setR R d ((getR R a + u) % 4294967296)) s why ep home mp epoch ow nS nT nA nW e w' := by
  unfold RunB at K
  have hB : B < w.heap.size := K.lt
  have hw := wrap_inc pc
  have hwu : IntKind.u32.wrap imm = (u : Int) := by rw [IntKind.wrap_u32]; exact hu
  have SC := Lib.hid (fun W (k : RunB W B pc R s why ep home mp epoch ow nS nT nA nW) => set_c W B pc R s why ep home mp epoch ow nS nT nA nW k d ((getR R a + u) % 4294967296) hd)
  have RC := Lib.hid (fun W (k : RunB W B pc R s why ep home mp epoch ow nS nT nA nW) => reg_c W B pc R s why ep home mp epoch ow nS nT nA nW k a ha)
  have hsum : ((getR R a : Int) + (u : Int)) % 4294967296 = (((getR R a + u) % 4294967296 : Nat) : Int) := by omega
  have hsw : IntKind.u32.wrap ((getR R a : Int) + (u : Int)) = (((getR R a + u) % 4294967296 : Nat) : Int) := by rw [IntKind.wrap_u32]; exact hsum
  generalize (getR R a + u) % 4294967296 = y at SC hsum hsw ⊢
  generalize getR R a = x at RC hsum hsw
  have K0 : Hid (RunB (w.alloc (.cells #[.int .u8 11, .int .u8 (d : Int), .int .u8 (a : Int), .int .u8 (b : Int), .int .i32 imm] 88)) B pc R s why ep home mp epoch ow nS nT nA nW) := Lib.hid (Blk.alloc K _)
  have I0 := Lib.hid (Blk.new w 88 #[.int .u8 11, .int .u8 (d : Int), .int .u8 (a : Int), .int .u8 (b : Int), .int .i32 imm])
  generalize hW : w.alloc (.cells #[.int .u8 11, .int .u8 (d : Int), .int .u8 (a : Int), .int .u8 (b : Int), .int .i32 imm] 88) = W at K0 I0
  have UW : Hid (Upd B w W) := Lib.hid (hW ▸ (Upd.refl B w).alloc _)
  have KW := Lib.hid hW
  clear hW K
  have TX : Hid (W.drew.cell? ⟨w.heap.size, 1, none⟩ = some (.int .u8 (d : Int)) ∧ W.drew.cell? ⟨w.heap.size, 2, none⟩ = some (.int .u8 (a : Int)) ∧ W.drew.cell? ⟨w.heap.size, 4, none⟩ = some (.int .i32 imm)) := Lib.hid ⟨I0.out.cell 1, I0.out.cell 2, I0.out.cell 4⟩
  have TU : Hid (∀ w1, Upd B W.drew w1 → w1.cell? ⟨w.heap.size, 1, none⟩ = some (.int .u8 (d : Int)) ∧ w1.cell? ⟨w.heap.size, 2, none⟩ = some (.int .u8 (a : Int)) ∧ w1.cell? ⟨w.heap.size, 4, none⟩ = some (.int .i32 imm)) := Lib.hid fun w1 u1 => by
    have k := u1.blk (I0.out.drewN 1) (by omega)
    exact ⟨k.cell 1, k.cell 2, k.cell 4⟩
  have p0 : W.cell? ⟨w.heap.size, 0, none⟩ = some (.int .u8 11) := I0.out.cell 0
  go_enter Try.func46, Try.ntmps46
  go_wp2_with fail
  (try rw [KW.out])
  go_region_held3 (fun w' => w'.cell? ⟨w.heap.size, 1, none⟩ = some (.int .u8 (d : Int)) ∧ w'.cell? ⟨w.heap.size, 2, none⟩ = some (.int .u8 (a : Int)) ∧ w'.cell? ⟨w.heap.size, 4, none⟩ = some (.int .i32 imm)) (first | exact TX.out | exact TU.out _ u1 | go_keep) ((first
    | (go_at_call 43; (with_reducible refine (RC.out _ ?_).mono ?_); (first | exact Blk.drewN K0.out 1); rintro e w1 ⟨rfl, rfl⟩)
    | (go_at_call 41; (with_reducible refine (SC.out _ ?_).mono ?_); (first | exact Blk.drewN K0.out 1); rintro e w1 ⟨rfl, k1, u1⟩)))
  have F : Hid (RunP w B (inc pc) (setR R d y) s why ep home mp epoch ow nS nT nA nW (.returned (.tuple #[])) w1) := Lib.hid ⟨rfl, k1, (UW.out.trans ((Upd.refl B W).drewN 1)).trans u1⟩
  clear k1 u1 SC RC TX TU K0 I0 KW UW p0
  go_wp2_with fail
  refine bodyPost_ret (v := .tuple #[]) (by simp [results, Try.results46, go_sem, *]) rfl ?_
  exact F.out
end Go.Proofs.Ythnbdeibjbicpaa.PM
