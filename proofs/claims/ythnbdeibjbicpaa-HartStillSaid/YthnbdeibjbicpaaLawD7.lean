/- hart.Step without a memory. Conditions: the hart's cells. -/
import Derived.Test.YthnbdeibjbicpaaHartA
namespace Go.Proofs.Ythnbdeibjbicpaa.PM
set_option linter.unusedVariables false
set_option linter.unusedSimpArgs false
open Go.RowKit
def StepN (w : World) (pc : Nat) (R : Nat → Nat) (S : List Nat) (why ep home : Nat) (e : Ending) (w' : World) : Prop :=
  ∃ s, e = .returned (.tuple #[hv pc R s why ep home, .agg #[.bool false, .bool false, .int .u32 0, .int .u32 0]]) ∧ Own w' w.heap.size s S ∧ Below w.heap.size w w'
set_option maxRecDepth 100000 in
set_option maxHeartbeats 16000000 in
theorem step_nil_ (w : World) (pc : Nat) (R : Nat → Nat) (S : List Nat) (ep home epoch why : Nat) (src : Option Addr) (cap : Nat) (hS : Stk w src S) (hn : S.length < 35184372088832) (bb : Bool) (hw : ((why : Int) != 0) = bb) :
    Calls Try.prog 17 #[hv pc R (.slice src S.length cap) why ep home, .pointer none, .int .u64 (epoch : Int)] w fun e w' => StepN w pc R S why ep home e w' := by
  have K3 := Lib.hid (((Blk.new w 28 #[.int .u32 (pc : Int), .int .u32 (R 0 : Int), .int .u32 (R 1 : Int), .int .u32 (R 2 : Int), .int .u32 (R 3 : Int), .int .u32 (R 4 : Int), .int .u32 (R 5 : Int), .int .u32 (R 6 : Int), .int .u32 (R 7 : Int), (.slice src S.length cap), .int .u8 (why : Int), .int .u64 (ep : Int), .int .u32 (home : Int)]).alloc (.cells #[.int .u32 0, .int .u32 0, .int .u32 0, .int .u32 0, .int .u32 0, .int .u32 0, .int .u32 0, .int .u32 0, .int .u32 0, .slice none 0 0, .int .u8 0, .int .u64 0, .int .u32 0] 28)).alloc (.cells #[.bool false, .bool false, .int .u32 0, .int .u32 0] 46))
  have K6 := Lib.hid ((Blk.new (w.alloc (.cells #[.int .u32 (pc : Int), .int .u32 (R 0 : Int), .int .u32 (R 1 : Int), .int .u32 (R 2 : Int), .int .u32 (R 3 : Int), .int .u32 (R 4 : Int), .int .u32 (R 5 : Int), .int .u32 (R 6 : Int), .int .u32 (R 7 : Int), (.slice src S.length cap), .int .u8 (why : Int), .int .u64 (ep : Int), .int .u32 (home : Int)] 28)) 28 #[.int .u32 0, .int .u32 0, .int .u32 0, .int .u32 0, .int .u32 0, .int .u32 0, .int .u32 0, .int .u32 0, .int .u32 0, .slice none 0 0, .int .u8 0, .int .u64 0, .int .u32 0]).alloc (.cells #[.bool false, .bool false, .int .u32 0, .int .u32 0] 46))
  have K7 := Lib.hid (Blk.new ((w.alloc (.cells #[.int .u32 (pc : Int), .int .u32 (R 0 : Int), .int .u32 (R 1 : Int), .int .u32 (R 2 : Int), .int .u32 (R 3 : Int), .int .u32 (R 4 : Int), .int .u32 (R 5 : Int), .int .u32 (R 6 : Int), .int .u32 (R 7 : Int), (.slice src S.length cap), .int .u8 (why : Int), .int .u64 (ep : Int), .int .u32 (home : Int)] 28)).alloc (.cells #[.int .u32 0, .int .u32 0, .int .u32 0, .int .u32 0, .int .u32 0, .int .u32 0, .int .u32 0, .int .u32 0, .int .u32 0, .slice none 0 0, .int .u8 0, .int .u64 0, .int .u32 0] 28)) 46 #[.bool false, .bool false, .int .u32 0, .int .u32 0])
  have C : Hid (Stk (((w.alloc (.cells #[.int .u32 (pc : Int), .int .u32 (R 0 : Int), .int .u32 (R 1 : Int), .int .u32 (R 2 : Int), .int .u32 (R 3 : Int), .int .u32 (R 4 : Int), .int .u32 (R 5 : Int), .int .u32 (R 6 : Int), .int .u32 (R 7 : Int), (.slice src S.length cap), .int .u8 (why : Int), .int .u64 (ep : Int), .int .u32 (home : Int)] 28)).alloc (.cells #[.int .u32 0, .int .u32 0, .int .u32 0, .int .u32 0, .int .u32 0, .int .u32 0, .int .u32 0, .int .u32 0, .int .u32 0, .slice none 0 0, .int .u8 0, .int .u64 0, .int .u32 0] 28)).alloc (.cells #[.bool false, .bool false, .int .u32 0, .int .u32 0] 46)) src S) := Lib.hid (((hS.kept ((Below.refl _ w).alloc (Nat.le_refl _) _)).kept ((Below.refl _ _).alloc (Nat.le_refl _) _)).kept ((Below.refl _ _).alloc (Nat.le_refl _) _))
  have B0 : Hid (Below w.heap.size w (((w.alloc (.cells #[.int .u32 (pc : Int), .int .u32 (R 0 : Int), .int .u32 (R 1 : Int), .int .u32 (R 2 : Int), .int .u32 (R 3 : Int), .int .u32 (R 4 : Int), .int .u32 (R 5 : Int), .int .u32 (R 6 : Int), .int .u32 (R 7 : Int), (.slice src S.length cap), .int .u8 (why : Int), .int .u64 (ep : Int), .int .u32 (home : Int)] 28)).alloc (.cells #[.int .u32 0, .int .u32 0, .int .u32 0, .int .u32 0, .int .u32 0, .int .u32 0, .int .u32 0, .int .u32 0, .int .u32 0, .slice none 0 0, .int .u8 0, .int .u64 0, .int .u32 0] 28)).alloc (.cells #[.bool false, .bool false, .int .u32 0, .int .u32 0] 46))) := Lib.hid ((((Below.refl _ w).alloc (Nat.le_refl _) _).alloc (by simp) _).alloc (by simp; omega) _)
  generalize hW : ((w.alloc (.cells #[.int .u32 (pc : Int), .int .u32 (R 0 : Int), .int .u32 (R 1 : Int), .int .u32 (R 2 : Int), .int .u32 (R 3 : Int), .int .u32 (R 4 : Int), .int .u32 (R 5 : Int), .int .u32 (R 6 : Int), .int .u32 (R 7 : Int), (.slice src S.length cap), .int .u8 (why : Int), .int .u64 (ep : Int), .int .u32 (home : Int)] 28)).alloc (.cells #[.int .u32 0, .int .u32 0, .int .u32 0, .int .u32 0, .int .u32 0, .int .u32 0, .int .u32 0, .int .u32 0, .int .u32 0, .slice none 0 0, .int .u8 0, .int .u64 0, .int .u32 0] 28)).alloc (.cells #[.bool false, .bool false, .int .u32 0, .int .u32 0] 46) = W at K3 K6 K7 C B0
  have hsz : W.heap.size = w.heap.size + 3 := by rw [← hW]; simp
  replace K6 : Hid (Blk W (w.heap.size + 1) 28 #[.int .u32 0, .int .u32 0, .int .u32 0, .int .u32 0, .int .u32 0, .int .u32 0, .int .u32 0, .int .u32 0, .int .u32 0, .slice none 0 0, .int .u8 0, .int .u64 0, .int .u32 0]) := Lib.hid (by have := K6.out; simpa using this)
  replace K7 : Hid (Blk W (w.heap.size + 1 + 1) 46 #[.bool false, .bool false, .int .u32 0, .int .u32 0]) := Lib.hid (by have := K7.out; simpa using this)
  have CC := Lib.hid (copy_c W pc R src cap why ep home S C.out (by omega))
  have KW := Lib.hid hW
  clear hW hS C
  have t0 : W.cell? ⟨w.heap.size, 0, none⟩ = some (.int .u32 (pc : Int)) := K3.out.cell 0
  have t1 : W.cell? ⟨w.heap.size, 1, none⟩ = some (.int .u32 (R 0 : Int)) := K3.out.cell 1
  have t2 : W.cell? ⟨w.heap.size, 2, none⟩ = some (.int .u32 (R 1 : Int)) := K3.out.cell 2
  have t3 : W.cell? ⟨w.heap.size, 3, none⟩ = some (.int .u32 (R 2 : Int)) := K3.out.cell 3
  have t4 : W.cell? ⟨w.heap.size, 4, none⟩ = some (.int .u32 (R 3 : Int)) := K3.out.cell 4
  have t5 : W.cell? ⟨w.heap.size, 5, none⟩ = some (.int .u32 (R 4 : Int)) := K3.out.cell 5
  have t6 : W.cell? ⟨w.heap.size, 6, none⟩ = some (.int .u32 (R 5 : Int)) := K3.out.cell 6
  have t7 : W.cell? ⟨w.heap.size, 7, none⟩ = some (.int .u32 (R 6 : Int)) := K3.out.cell 7
  have t8 : W.cell? ⟨w.heap.size, 8, none⟩ = some (.int .u32 (R 7 : Int)) := K3.out.cell 8
  have t9 : W.cell? ⟨w.heap.size, 9, none⟩ = some ((.slice src S.length cap)) := K3.out.cell 9
  have t10 : W.cell? ⟨w.heap.size, 10, none⟩ = some (.int .u8 (why : Int)) := K3.out.cell 10
  have t11 : W.cell? ⟨w.heap.size, 11, none⟩ = some (.int .u64 (ep : Int)) := K3.out.cell 11
  have t12 : W.cell? ⟨w.heap.size, 12, none⟩ = some (.int .u32 (home : Int)) := K3.out.cell 12
  unfold hv at CC ⊢
  go_enter Try.func17, Try.ntmps17
  go_wp2_with fail
  (try rw [KW.out])
  refine CC.out.mono ?_
  rintro e w1 ⟨s, rfl, ow, hb⟩
  obtain ⟨src2, cap2, rfl, _⟩ := ow.form
  rw [hsz] at ow
  have k3 := K3.out.kept hb
  have k6 := K6.out.kept hb
  have k7 := K7.out.kept hb
  have hl3 : w.heap.size < w1.heap.size := k3.lt
  have hl6 : w.heap.size + 1 < w1.heap.size := k6.lt
  have hl7 : w.heap.size + 1 + 1 < w1.heap.size := k7.lt
  have SP1 : Hid (Own w1 (w.heap.size + 3) (.slice src2 S.length cap2) S ∧ Below w.heap.size w w1) := Lib.hid ⟨ow, B0.out.trans (hb.mono B0.out.size)⟩
  clear ow hb K3 K6 K7 B0 CC KW t0 t1 t2 t3 t4 t5 t6 t7 t8 t9 t10 t11 t12
  have t0 : w1.cell? ⟨w.heap.size, 0, none⟩ = some (.int .u32 (pc : Int)) := k3.cell 0
  have t10 : w1.cell? ⟨w.heap.size, 10, none⟩ = some (.int .u8 (why : Int)) := k3.cell 10
  have t11 : w1.cell? ⟨w.heap.size, 11, none⟩ = some (.int .u64 (ep : Int)) := k3.cell 11
  have z0 : w1.cell? ⟨w.heap.size + 1, 0, none⟩ = some (.int .u32 0) := k6.cell 0
  have fz0 : w1.frozen? ⟨w.heap.size + 1, 0, none⟩ = false := k6.frozen 0
  have z1 : w1.cell? ⟨w.heap.size + 1, 1, none⟩ = some (.int .u32 0) := k6.cell 1
  have fz1 : w1.frozen? ⟨w.heap.size + 1, 1, none⟩ = false := k6.frozen 1
  have z2 : w1.cell? ⟨w.heap.size + 1, 2, none⟩ = some (.int .u32 0) := k6.cell 2
  have fz2 : w1.frozen? ⟨w.heap.size + 1, 2, none⟩ = false := k6.frozen 2
  have z3 : w1.cell? ⟨w.heap.size + 1, 3, none⟩ = some (.int .u32 0) := k6.cell 3
  have fz3 : w1.frozen? ⟨w.heap.size + 1, 3, none⟩ = false := k6.frozen 3
  have z4 : w1.cell? ⟨w.heap.size + 1, 4, none⟩ = some (.int .u32 0) := k6.cell 4
  have fz4 : w1.frozen? ⟨w.heap.size + 1, 4, none⟩ = false := k6.frozen 4
  have z5 : w1.cell? ⟨w.heap.size + 1, 5, none⟩ = some (.int .u32 0) := k6.cell 5
  have fz5 : w1.frozen? ⟨w.heap.size + 1, 5, none⟩ = false := k6.frozen 5
  have z6 : w1.cell? ⟨w.heap.size + 1, 6, none⟩ = some (.int .u32 0) := k6.cell 6
  have fz6 : w1.frozen? ⟨w.heap.size + 1, 6, none⟩ = false := k6.frozen 6
  have z7 : w1.cell? ⟨w.heap.size + 1, 7, none⟩ = some (.int .u32 0) := k6.cell 7
  have fz7 : w1.frozen? ⟨w.heap.size + 1, 7, none⟩ = false := k6.frozen 7
  have z8 : w1.cell? ⟨w.heap.size + 1, 8, none⟩ = some (.int .u32 0) := k6.cell 8
  have fz8 : w1.frozen? ⟨w.heap.size + 1, 8, none⟩ = false := k6.frozen 8
  have z9 : w1.cell? ⟨w.heap.size + 1, 9, none⟩ = some (.slice none 0 0) := k6.cell 9
  have fz9 : w1.frozen? ⟨w.heap.size + 1, 9, none⟩ = false := k6.frozen 9
  have z10 : w1.cell? ⟨w.heap.size + 1, 10, none⟩ = some (.int .u8 0) := k6.cell 10
  have fz10 : w1.frozen? ⟨w.heap.size + 1, 10, none⟩ = false := k6.frozen 10
  have z11 : w1.cell? ⟨w.heap.size + 1, 11, none⟩ = some (.int .u64 0) := k6.cell 11
  have fz11 : w1.frozen? ⟨w.heap.size + 1, 11, none⟩ = false := k6.frozen 11
  have z12 : w1.cell? ⟨w.heap.size + 1, 12, none⟩ = some (.int .u32 0) := k6.cell 12
  have fz12 : w1.frozen? ⟨w.heap.size + 1, 12, none⟩ = false := k6.frozen 12
  have y0 : w1.cell? ⟨w.heap.size + 1 + 1, 0, none⟩ = some (.bool false) := k7.cell 0
  have fy0 : w1.frozen? ⟨w.heap.size + 1 + 1, 0, none⟩ = false := k7.frozen 0
  have y1 : w1.cell? ⟨w.heap.size + 1 + 1, 1, none⟩ = some (.bool false) := k7.cell 1
  have fy1 : w1.frozen? ⟨w.heap.size + 1 + 1, 1, none⟩ = false := k7.frozen 1
  have y2 : w1.cell? ⟨w.heap.size + 1 + 1, 2, none⟩ = some (.int .u32 0) := k7.cell 2
  have fy2 : w1.frozen? ⟨w.heap.size + 1 + 1, 2, none⟩ = false := k7.frozen 2
  have y3 : w1.cell? ⟨w.heap.size + 1 + 1, 3, none⟩ = some (.int .u32 0) := k7.cell 3
  have fy3 : w1.frozen? ⟨w.heap.size + 1 + 1, 3, none⟩ = false := k7.frozen 3
  have F : Hid (∀ vs1 vs2 ob, StepN w pc R S why ep home (.returned (.tuple #[.agg #[.int .u32 (pc : Int), .int .u32 (R 0 : Int), .int .u32 (R 1 : Int), .int .u32 (R 2 : Int), .int .u32 (R 3 : Int), .int .u32 (R 4 : Int), .int .u32 (R 5 : Int), .int .u32 (R 6 : Int), .int .u32 (R 7 : Int), (.slice src2 S.length cap2), .int .u8 (why : Int), .int .u64 (ep : Int), .int .u32 (home : Int)], .agg #[.bool false, .bool false, .int .u32 0, .int .u32 0]])) (((w1.setCells (w.heap.size + 1) 0 vs1).setCells (w.heap.size + 1 + 1) 0 vs2).alloc ob)) := Lib.hid fun vs1 vs2 ob => by
    have lo := fun k hk => (SP1.out.1.lt k hk).1
    have u1 := upd_cells (w.heap.size + 1) vs1 0 w1
    have u2 := upd_cells (w.heap.size + 1 + 1) vs2 0 (w1.setCells (w.heap.size + 1) 0 vs1)
    have b2 := u2.below (u1.below SP1.out.2 (by omega)) (by omega)
    exact ⟨(.slice src2 S.length cap2), rfl, (((SP1.out.1.upd u1 (fun e => by have := lo _ e; omega)).upd u2 (fun e => by have := lo _ e; omega)).mono (by omega)).kept ((Below.refl _ _).alloc (Nat.le_refl _) ob), b2.alloc b2.size ob⟩
  clear SP1 k3 k6 k7
  cases bb with
  | true =>
  go_wp2_with fail
  refine bodyPost_ret (v := .tuple #[.agg #[.int .u32 (pc : Int), .int .u32 (R 0 : Int), .int .u32 (R 1 : Int), .int .u32 (R 2 : Int), .int .u32 (R 3 : Int), .int .u32 (R 4 : Int), .int .u32 (R 5 : Int), .int .u32 (R 6 : Int), .int .u32 (R 7 : Int), (.slice src2 S.length cap2), .int .u8 (why : Int), .int .u64 (ep : Int), .int .u32 (home : Int)], .agg #[.bool false, .bool false, .int .u32 0, .int .u32 0]]) (by simp [results, Try.results17, go_sem, *]) rfl ?_
  exact F.out [.int .u32 (pc : Int), .int .u32 (R 0 : Int), .int .u32 (R 1 : Int), .int .u32 (R 2 : Int), .int .u32 (R 3 : Int), .int .u32 (R 4 : Int), .int .u32 (R 5 : Int), .int .u32 (R 6 : Int), .int .u32 (R 7 : Int), (.slice src2 S.length cap2), .int .u8 (why : Int), .int .u64 (ep : Int), .int .u32 (home : Int)] [.bool false, .bool false, .int .u32 0, .int .u32 0] _
  | false =>
  go_wp2_with fail
  refine bodyPost_ret (v := .tuple #[.agg #[.int .u32 (pc : Int), .int .u32 (R 0 : Int), .int .u32 (R 1 : Int), .int .u32 (R 2 : Int), .int .u32 (R 3 : Int), .int .u32 (R 4 : Int), .int .u32 (R 5 : Int), .int .u32 (R 6 : Int), .int .u32 (R 7 : Int), (.slice src2 S.length cap2), .int .u8 (why : Int), .int .u64 (ep : Int), .int .u32 (home : Int)], .agg #[.bool false, .bool false, .int .u32 0, .int .u32 0]]) (by simp [results, Try.results17, go_sem, *]) rfl ?_
  exact F.out [.int .u32 (pc : Int), .int .u32 (R 0 : Int), .int .u32 (R 1 : Int), .int .u32 (R 2 : Int), .int .u32 (R 3 : Int), .int .u32 (R 4 : Int), .int .u32 (R 5 : Int), .int .u32 (R 6 : Int), .int .u32 (R 7 : Int), (.slice src2 S.length cap2), .int .u8 (why : Int), .int .u64 (ep : Int), .int .u32 (home : Int)] [.bool false, .bool false, .int .u32 0, .int .u32 0] _
theorem step_nil (w : World) (pc : Nat) (R : Nat → Nat) (S : List Nat) (ep home epoch why : Nat) (src : Option Addr) (cap : Nat) (hS : Stk w src S) (hn : S.length < 35184372088832) :
    Calls Try.prog 17 #[hv pc R (.slice src S.length cap) why ep home, .pointer none, .int .u64 (epoch : Int)] w fun e w' => StepN w pc R S why ep home e w' :=
  step_nil_ w pc R S ep home epoch why src cap hS hn _ rfl
end Go.Proofs.Ythnbdeibjbicpaa.PM
