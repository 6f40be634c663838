/- Contracts of hart's jump. Conditions: the cells. -/
import Derived.Test.YthnbdeibjbicpaaHart4
namespace Go.Proofs.Ythnbdeibjbicpaa.PM
set_option linter.unusedVariables false
set_option linter.unusedSimpArgs false
open Go.RowKit
theorem keep6 {w w2 : World} {p : Addr} {g : Nat} {u v0 v1 v2 v3 v4 : Value} (hb : Below w.heap.size w w2) (c : w.cell? p = some u ∧ w.cell? ⟨g, 0, none⟩ = some v0 ∧ w.cell? ⟨g, 1, none⟩ = some v1 ∧ w.cell? ⟨g, 2, none⟩ = some v2 ∧ w.cell? ⟨g, 3, none⟩ = some v3 ∧ w.cell? ⟨g, 4, none⟩ = some v4) : w2.cell? p = some u ∧ w2.cell? ⟨g, 0, none⟩ = some v0 ∧ w2.cell? ⟨g, 1, none⟩ = some v1 ∧ w2.cell? ⟨g, 2, none⟩ = some v2 ∧ w2.cell? ⟨g, 3, none⟩ = some v3 ∧ w2.cell? ⟨g, 4, none⟩ = some v4 :=
  ⟨(hb.cell (World.block_lt_of_cell? _ _ c.1)).trans c.1, keep1m hb c.2.1, keep1m hb c.2.2.1, keep1m hb c.2.2.2.1, keep1m hb c.2.2.2.2.1, keep1m hb c.2.2.2.2.2⟩
set_option maxRecDepth 100000 in
set_option maxHeartbeats 8000000 in
theorem jump_14 (w : World) (B pc : Nat) (R : Nat → Nat) (s : Value) (why ep home : Nat) (M g h c d cd : Nat) (G : Nat → Nat) (T : List Page) (L : List Nat) (epoch ow : Nat) (nS nT : Bool) (nA nW : Nat) (K : RunB w B pc R s why ep home (.pointer (some ⟨M, 0, none⟩)) epoch ow nS nT nA nW) (rd ra rb : Nat) (imm : Int) (hd : rd < 8) (ha : ra < 8) (tg : Nat) (tb : Bool) (TG : ∀ W, Calls Try.prog 77 #[.int .u32 (pc : Int), .agg #[.int .u8 14, .int .u8 (rd : Int), .int .u8 (ra : Int), .int .u8 (rb : Int), .int .i32 imm]] W fun e w' => e = .returned (.tuple #[.int .u32 (tg : Int), .bool tb]) ∧ Below W.heap.size W w') :
    Calls Try.prog 45 #[.pointer (some ⟨B, 0, none⟩), .agg #[.int .u8 14, .int .u8 (rd : Int), .int .u8 (ra : Int), .int .u8 (rb : Int), .int .i32 imm]] w fun e w' => RunP w B tg R s why ep home (.pointer (some ⟨M, 0, none⟩)) epoch ow nS nT nA nW e w' := by
  unfold RunB at K
  have hwi := wrap_inc pc
  replace TG := Lib.hid TG
  have K0 : Hid (RunB (w.alloc (.cells #[.int .u8 14, .int .u8 (rd : Int), .int .u8 (ra : Int), .int .u8 (rb : Int), .int .i32 imm] 88)) B pc R s why ep home (.pointer (some ⟨M, 0, none⟩)) epoch ow nS nT nA nW) := Lib.hid (Blk.alloc K _)
  have I0 := Lib.hid (Blk.new w 88 #[.int .u8 14, .int .u8 (rd : Int), .int .u8 (ra : Int), .int .u8 (rb : Int), .int .i32 imm])
  have hB : B < w.heap.size := K.lt
  generalize hW : w.alloc (.cells #[.int .u8 14, .int .u8 (rd : Int), .int .u8 (ra : Int), .int .u8 (rb : Int), .int .i32 imm] 88) = W at K0 I0
  have UW : Hid (Upd B w W) := Lib.hid (hW ▸ (Upd.refl B w).alloc _)
  have KW := Lib.hid hW
  clear hW K
  have TX : Hid ((W.drew.cell? ⟨B, 0, none⟩ = some (.int .u32 (pc : Int))) ∧ W.drew.cell? ⟨w.heap.size, 0, none⟩ = some (.int .u8 14) ∧ W.drew.cell? ⟨w.heap.size, 1, none⟩ = some (.int .u8 (rd : Int)) ∧ W.drew.cell? ⟨w.heap.size, 2, none⟩ = some (.int .u8 (ra : Int)) ∧ W.drew.cell? ⟨w.heap.size, 3, none⟩ = some (.int .u8 (rb : Int)) ∧ W.drew.cell? ⟨w.heap.size, 4, none⟩ = some (.int .i32 imm)) := Lib.hid ⟨K0.out.cell 0, I0.out.cell 0, I0.out.cell 1, I0.out.cell 2, I0.out.cell 3, I0.out.cell 4⟩
  go_enter Try.func45, Try.ntmps45
  go_wp2_with fail
  (try rw [KW.out])
  go_region_held3 (fun w' => w'.cell? ⟨B, 0, none⟩ = some (.int .u32 (pc : Int)) ∧ w'.cell? ⟨w.heap.size, 0, none⟩ = some (.int .u8 14) ∧ w'.cell? ⟨w.heap.size, 1, none⟩ = some (.int .u8 (rd : Int)) ∧ w'.cell? ⟨w.heap.size, 2, none⟩ = some (.int .u8 (ra : Int)) ∧ w'.cell? ⟨w.heap.size, 3, none⟩ = some (.int .u8 (rb : Int)) ∧ w'.cell? ⟨w.heap.size, 4, none⟩ = some (.int .i32 imm)) (first | exact TX.out | (apply keep6 hb1; assumption) | go_keep) ((first | (go_at_call 77; (with_reducible refine (TG.out _).mono ?_); rintro e w1 ⟨rfl, hb1⟩)))
  have hb1 : Below W.heap.size W w1 := (below_drewN (Below.refl _ _) 1).trans hb1
  have K1 : Hid (RunB w1 B pc R s why ep home (.pointer (some ⟨M, 0, none⟩)) epoch ow nS nT nA nW) := Lib.hid (Blk.kept K0.out hb1)
  have I1 := Lib.hid (I0.out.kept hb1)
  have U1 := Lib.hid (UW.out.then_ hb1)
  clear hb1 TX K0 I0 UW KW TG
  have i0 : w1.cell? ⟨w.heap.size, 0, none⟩ = some (.int .u8 14) := I1.out.cell 0
  have t0 : w1.cell? ⟨B, 0, none⟩ = some (.int .u32 (pc : Int)) := K1.out.cell 0
  have ft0 : w1.frozen? ⟨B, 0, none⟩ = false := K1.out.frozen 0
  have F : Hid (RunP w B tg R s why ep home (.pointer (some ⟨M, 0, none⟩)) epoch ow nS nT nA nW (.returned (.tuple #[])) (w1.setCell ⟨B, 0, none⟩ (.int .u32 (tg : Int)))) := Lib.hid ⟨rfl, by
    have k := Blk.set_ K1.out 0 (.int .u32 (tg : Int))
    unfold RunB
    simpa using k, U1.out.setCell 0 _⟩
  clear K1 I1 U1
  go_wp2_with fail
  refine bodyPost_ret (v := .tuple #[]) (by simp [results, Try.results45, go_sem, *]) rfl ?_
  exact F.out
set_option maxRecDepth 100000 in
set_option maxHeartbeats 8000000 in
theorem jump_19 (w : World) (B pc : Nat) (R : Nat → Nat) (s : Value) (why ep home : Nat) (M g h c d cd : Nat) (G : Nat → Nat) (T : List Page) (L : List Nat) (epoch ow : Nat) (nS nT : Bool) (nA nW : Nat) (K : RunB w B pc R s why ep home (.pointer (some ⟨M, 0, none⟩)) epoch ow nS nT nA nW) (rd ra rb : Nat) (imm : Int) (hd : rd < 8) (ha : ra < 8) (tg : Nat) (tb : Bool) (TG : ∀ W, Calls Try.prog 77 #[.int .u32 (pc : Int), .agg #[.int .u8 19, .int .u8 (rd : Int), .int .u8 (ra : Int), .int .u8 (rb : Int), .int .i32 imm]] W fun e w' => e = .returned (.tuple #[.int .u32 (tg : Int), .bool tb]) ∧ Below W.heap.size W w') :
    Calls Try.prog 45 #[.pointer (some ⟨B, 0, none⟩), .agg #[.int .u8 19, .int .u8 (rd : Int), .int .u8 (ra : Int), .int .u8 (rb : Int), .int .i32 imm]] w fun e w' => RunP w B (getR R ra) R s why ep home (.pointer (some ⟨M, 0, none⟩)) epoch ow nS nT nA nW e w' := by
  unfold RunB at K
  have hwi := wrap_inc pc
  replace TG := Lib.hid TG
  have RC := Lib.hid (fun W (k : RunB W B pc R s why ep home (.pointer (some ⟨M, 0, none⟩)) epoch ow nS nT nA nW) => reg_c W B pc R s why ep home (.pointer (some ⟨M, 0, none⟩)) epoch ow nS nT nA nW k ra ha)
  have K0 : Hid (RunB (w.alloc (.cells #[.int .u8 19, .int .u8 (rd : Int), .int .u8 (ra : Int), .int .u8 (rb : Int), .int .i32 imm] 88)) B pc R s why ep home (.pointer (some ⟨M, 0, none⟩)) epoch ow nS nT nA nW) := Lib.hid (Blk.alloc K _)
  have I0 := Lib.hid (Blk.new w 88 #[.int .u8 19, .int .u8 (rd : Int), .int .u8 (ra : Int), .int .u8 (rb : Int), .int .i32 imm])
  have hB : B < w.heap.size := K.lt
  generalize hW : w.alloc (.cells #[.int .u8 19, .int .u8 (rd : Int), .int .u8 (ra : Int), .int .u8 (rb : Int), .int .i32 imm] 88) = W at K0 I0
  have UW : Hid (Upd B w W) := Lib.hid (hW ▸ (Upd.refl B w).alloc _)
  have KW := Lib.hid hW
  clear hW K
  have TX : Hid ((W.drew.cell? ⟨B, 0, none⟩ = some (.int .u32 (pc : Int))) ∧ W.drew.cell? ⟨w.heap.size, 0, none⟩ = some (.int .u8 19) ∧ W.drew.cell? ⟨w.heap.size, 1, none⟩ = some (.int .u8 (rd : Int)) ∧ W.drew.cell? ⟨w.heap.size, 2, none⟩ = some (.int .u8 (ra : Int)) ∧ W.drew.cell? ⟨w.heap.size, 3, none⟩ = some (.int .u8 (rb : Int)) ∧ W.drew.cell? ⟨w.heap.size, 4, none⟩ = some (.int .i32 imm)) := Lib.hid ⟨K0.out.cell 0, I0.out.cell 0, I0.out.cell 1, I0.out.cell 2, I0.out.cell 3, I0.out.cell 4⟩
  go_enter Try.func45, Try.ntmps45
  go_wp2_with fail
  (try rw [KW.out])
  go_region_held3 (fun w' => w'.cell? ⟨B, 0, none⟩ = some (.int .u32 (pc : Int)) ∧ w'.cell? ⟨w.heap.size, 0, none⟩ = some (.int .u8 19) ∧ w'.cell? ⟨w.heap.size, 1, none⟩ = some (.int .u8 (rd : Int)) ∧ w'.cell? ⟨w.heap.size, 2, none⟩ = some (.int .u8 (ra : Int)) ∧ w'.cell? ⟨w.heap.size, 3, none⟩ = some (.int .u8 (rb : Int)) ∧ w'.cell? ⟨w.heap.size, 4, none⟩ = some (.int .i32 imm)) (first | exact TX.out | (apply keep6 hb1; assumption) | go_keep) ((first | (go_at_call 77; (with_reducible refine (TG.out _).mono ?_); rintro e w1 ⟨rfl, hb1⟩)))
  have hb1 : Below W.heap.size W w1 := (below_drewN (Below.refl _ _) 1).trans hb1
  have K1 : Hid (RunB w1 B pc R s why ep home (.pointer (some ⟨M, 0, none⟩)) epoch ow nS nT nA nW) := Lib.hid (Blk.kept K0.out hb1)
  have I1 := Lib.hid (I0.out.kept hb1)
  have U1 := Lib.hid (UW.out.then_ hb1)
  clear hb1 TX K0 I0 UW KW TG
  have i0 : w1.cell? ⟨w.heap.size, 0, none⟩ = some (.int .u8 19) := I1.out.cell 0
  have i2 : w1.cell? ⟨w.heap.size, 2, none⟩ = some (.int .u8 (ra : Int)) := I1.out.cell 2
  have t0 : w1.cell? ⟨B, 0, none⟩ = some (.int .u32 (pc : Int)) := K1.out.cell 0
  have ft0 : w1.frozen? ⟨B, 0, none⟩ = false := K1.out.frozen 0
  go_wp2_with fail
  refine (RC.out _ K1.out).mono ?_
  rintro e w2 ⟨rfl, rfl⟩
  have F : Hid (RunP w B (getR R ra) R s why ep home (.pointer (some ⟨M, 0, none⟩)) epoch ow nS nT nA nW (.returned (.tuple #[])) (w2.setCell ⟨B, 0, none⟩ (.int .u32 (getR R ra : Int)))) := Lib.hid ⟨rfl, by
    have k := Blk.set_ K1.out 0 (.int .u32 (getR R ra : Int))
    unfold RunB
    simpa using k, U1.out.setCell 0 _⟩
  clear K1 I1 U1 RC
  go_wp2_with fail
  refine bodyPost_ret (v := .tuple #[]) (by simp [results, Try.results45, go_sem, *]) rfl ?_
  exact F.out
set_option maxRecDepth 100000 in
set_option maxHeartbeats 8000000 in
theorem jump_15_eq (w : World) (B pc : Nat) (R : Nat → Nat) (s : Value) (why ep home : Nat) (M g h c d cd : Nat) (G : Nat → Nat) (T : List Page) (L : List Nat) (epoch ow : Nat) (nS nT : Bool) (nA nW : Nat) (K : RunB w B pc R s why ep home (.pointer (some ⟨M, 0, none⟩)) epoch ow nS nT nA nW) (rd ra rb : Nat) (imm : Int) (hd : rd < 8) (ha : ra < 8) (tg : Nat) (tb : Bool) (TG : ∀ W, Calls Try.prog 77 #[.int .u32 (pc : Int), .agg #[.int .u8 15, .int .u8 (rd : Int), .int .u8 (ra : Int), .int .u8 (rb : Int), .int .i32 imm]] W fun e w' => e = .returned (.tuple #[.int .u32 (tg : Int), .bool tb]) ∧ Below W.heap.size W w') (hq : ((getR R rd : Int) == (getR R ra : Int)) = true) :
    Calls Try.prog 45 #[.pointer (some ⟨B, 0, none⟩), .agg #[.int .u8 15, .int .u8 (rd : Int), .int .u8 (ra : Int), .int .u8 (rb : Int), .int .i32 imm]] w fun e w' => RunP w B tg R s why ep home (.pointer (some ⟨M, 0, none⟩)) epoch ow nS nT nA nW e w' := by
  unfold RunB at K
  have hwi := wrap_inc pc
  replace TG := Lib.hid TG
  have RC := fun W (k : RunB W B pc R s why ep home (.pointer (some ⟨M, 0, none⟩)) epoch ow nS nT nA nW) => reg_c W B pc R s why ep home (.pointer (some ⟨M, 0, none⟩)) epoch ow nS nT nA nW k ra ha
  have RD := fun W (k : RunB W B pc R s why ep home (.pointer (some ⟨M, 0, none⟩)) epoch ow nS nT nA nW) => reg_c W B pc R s why ep home (.pointer (some ⟨M, 0, none⟩)) epoch ow nS nT nA nW k rd hd
  generalize getR R ra = x at RC hq
  generalize getR R rd = y at RD hq
  replace RC := Lib.hid RC
  replace RD := Lib.hid RD
  have K0 : Hid (RunB (w.alloc (.cells #[.int .u8 15, .int .u8 (rd : Int), .int .u8 (ra : Int), .int .u8 (rb : Int), .int .i32 imm] 88)) B pc R s why ep home (.pointer (some ⟨M, 0, none⟩)) epoch ow nS nT nA nW) := Lib.hid (Blk.alloc K _)
  have I0 := Lib.hid (Blk.new w 88 #[.int .u8 15, .int .u8 (rd : Int), .int .u8 (ra : Int), .int .u8 (rb : Int), .int .i32 imm])
  have hB : B < w.heap.size := K.lt
  generalize hW : w.alloc (.cells #[.int .u8 15, .int .u8 (rd : Int), .int .u8 (ra : Int), .int .u8 (rb : Int), .int .i32 imm] 88) = W at K0 I0
  have UW : Hid (Upd B w W) := Lib.hid (hW ▸ (Upd.refl B w).alloc _)
  have KW := Lib.hid hW
  clear hW K
  have TX : Hid ((W.drew.cell? ⟨B, 0, none⟩ = some (.int .u32 (pc : Int))) ∧ W.drew.cell? ⟨w.heap.size, 0, none⟩ = some (.int .u8 15) ∧ W.drew.cell? ⟨w.heap.size, 1, none⟩ = some (.int .u8 (rd : Int)) ∧ W.drew.cell? ⟨w.heap.size, 2, none⟩ = some (.int .u8 (ra : Int)) ∧ W.drew.cell? ⟨w.heap.size, 3, none⟩ = some (.int .u8 (rb : Int)) ∧ W.drew.cell? ⟨w.heap.size, 4, none⟩ = some (.int .i32 imm)) := Lib.hid ⟨K0.out.cell 0, I0.out.cell 0, I0.out.cell 1, I0.out.cell 2, I0.out.cell 3, I0.out.cell 4⟩
  go_enter Try.func45, Try.ntmps45
  go_wp2_with fail
  (try rw [KW.out])
  go_region_held3 (fun w' => w'.cell? ⟨B, 0, none⟩ = some (.int .u32 (pc : Int)) ∧ w'.cell? ⟨w.heap.size, 0, none⟩ = some (.int .u8 15) ∧ w'.cell? ⟨w.heap.size, 1, none⟩ = some (.int .u8 (rd : Int)) ∧ w'.cell? ⟨w.heap.size, 2, none⟩ = some (.int .u8 (ra : Int)) ∧ w'.cell? ⟨w.heap.size, 3, none⟩ = some (.int .u8 (rb : Int)) ∧ w'.cell? ⟨w.heap.size, 4, none⟩ = some (.int .i32 imm)) (first | exact TX.out | (apply keep6 hb1; assumption) | go_keep) ((first | (go_at_call 77; (with_reducible refine (TG.out _).mono ?_); rintro e w1 ⟨rfl, hb1⟩)))
  have hb1 : Below W.heap.size W w1 := (below_drewN (Below.refl _ _) 1).trans hb1
  have K1 : Hid (RunB w1 B pc R s why ep home (.pointer (some ⟨M, 0, none⟩)) epoch ow nS nT nA nW) := Lib.hid (Blk.kept K0.out hb1)
  have I1 := Lib.hid (I0.out.kept hb1)
  have U1 := Lib.hid (UW.out.then_ hb1)
  clear hb1 TX K0 I0 UW KW TG
  have i0 : w1.cell? ⟨w.heap.size, 0, none⟩ = some (.int .u8 15) := I1.out.cell 0
  have TX : Hid (w1.drew.cell? ⟨w.heap.size, 0, none⟩ = some (.int .u8 15) ∧ w1.drew.cell? ⟨w.heap.size, 1, none⟩ = some (.int .u8 (rd : Int)) ∧ w1.drew.cell? ⟨w.heap.size, 2, none⟩ = some (.int .u8 (ra : Int))) := Lib.hid ⟨I1.out.cell 0, I1.out.cell 1, I1.out.cell 2⟩
  go_wp2_with fail
  go_region_held3 (fun w' => w'.cell? ⟨w.heap.size, 0, none⟩ = some (.int .u8 15) ∧ w'.cell? ⟨w.heap.size, 1, none⟩ = some (.int .u8 (rd : Int)) ∧ w'.cell? ⟨w.heap.size, 2, none⟩ = some (.int .u8 (ra : Int))) (first | exact TX.out | go_keep) ((first
    | (go_at_call 43; (with_reducible refine (RD.out _ ?_).mono ?_); (first | exact Blk.drewN K1.out 1); rintro e w2 ⟨rfl, rfl⟩)
    | (go_at_call 43; (with_reducible refine (RC.out _ ?_).mono ?_); (first | exact Blk.drewN K1.out 1); rintro e w3 ⟨rfl, rfl⟩)))
  have K2 : Hid (RunB (w1.drewN 1) B pc R s why ep home (.pointer (some ⟨M, 0, none⟩)) epoch ow nS nT nA nW) := Lib.hid (Blk.drewN K1.out 1)
  have U2 : Hid (Upd B w (w1.drewN 1)) := Lib.hid (U1.out.drewN 1)
  generalize hW1 : w1.drewN 1 = W1 at K2 U2
  have hW1' : w1.drew = W1 := hW1
  (try rw [hW1'])
  clear hW1 hW1'
  have t0 : W1.cell? ⟨B, 0, none⟩ = some (.int .u32 (pc : Int)) := K2.out.cell 0
  have ft0 : W1.frozen? ⟨B, 0, none⟩ = false := K2.out.frozen 0
  have F : Hid (RunP w B tg R s why ep home (.pointer (some ⟨M, 0, none⟩)) epoch ow nS nT nA nW (.returned (.tuple #[])) (W1.setCell ⟨B, 0, none⟩ (.int .u32 (tg : Int)))) := Lib.hid ⟨rfl, by
    have k := Blk.set_ K2.out 0 (.int .u32 (tg : Int))
    unfold RunB
    simpa using k, U2.out.setCell 0 _⟩
  clear K1 I1 U1 K2 U2 RC RD TX i0
  go_wp2_with fail
  refine bodyPost_ret (v := .tuple #[]) (by simp [results, Try.results45, go_sem, *]) rfl ?_
  exact F.out
set_option maxRecDepth 100000 in
set_option maxHeartbeats 8000000 in
theorem jump_15_ne (w : World) (B pc : Nat) (R : Nat → Nat) (s : Value) (why ep home : Nat) (M g h c d cd : Nat) (G : Nat → Nat) (T : List Page) (L : List Nat) (epoch ow : Nat) (nS nT : Bool) (nA nW : Nat) (K : RunB w B pc R s why ep home (.pointer (some ⟨M, 0, none⟩)) epoch ow nS nT nA nW) (rd ra rb : Nat) (imm : Int) (hd : rd < 8) (ha : ra < 8) (tg : Nat) (tb : Bool) (TG : ∀ W, Calls Try.prog 77 #[.int .u32 (pc : Int), .agg #[.int .u8 15, .int .u8 (rd : Int), .int .u8 (ra : Int), .int .u8 (rb : Int), .int .i32 imm]] W fun e w' => e = .returned (.tuple #[.int .u32 (tg : Int), .bool tb]) ∧ Below W.heap.size W w') (hq : ((getR R rd : Int) == (getR R ra : Int)) = false) :
    Calls Try.prog 45 #[.pointer (some ⟨B, 0, none⟩), .agg #[.int .u8 15, .int .u8 (rd : Int), .int .u8 (ra : Int), .int .u8 (rb : Int), .int .i32 imm]] w fun e w' => RunP w B (inc pc) R s why ep home (.pointer (some ⟨M, 0, none⟩)) epoch ow nS nT nA nW e w' := by
  unfold RunB at K
  have hwi := wrap_inc pc
  replace TG := Lib.hid TG
  have RC := fun W (k : RunB W B pc R s why ep home (.pointer (some ⟨M, 0, none⟩)) epoch ow nS nT nA nW) => reg_c W B pc R s why ep home (.pointer (some ⟨M, 0, none⟩)) epoch ow nS nT nA nW k ra ha
  have RD := fun W (k : RunB W B pc R s why ep home (.pointer (some ⟨M, 0, none⟩)) epoch ow nS nT nA nW) => reg_c W B pc R s why ep home (.pointer (some ⟨M, 0, none⟩)) epoch ow nS nT nA nW k rd hd
  generalize getR R ra = x at RC hq
  generalize getR R rd = y at RD hq
  replace RC := Lib.hid RC
  replace RD := Lib.hid RD
  have K0 : Hid (RunB (w.alloc (.cells #[.int .u8 15, .int .u8 (rd : Int), .int .u8 (ra : Int), .int .u8 (rb : Int), .int .i32 imm] 88)) B pc R s why ep home (.pointer (some ⟨M, 0, none⟩)) epoch ow nS nT nA nW) := Lib.hid (Blk.alloc K _)
  have I0 := Lib.hid (Blk.new w 88 #[.int .u8 15, .int .u8 (rd : Int), .int .u8 (ra : Int), .int .u8 (rb : Int), .int .i32 imm])
  have hB : B < w.heap.size := K.lt
  generalize hW : w.alloc (.cells #[.int .u8 15, .int .u8 (rd : Int), .int .u8 (ra : Int), .int .u8 (rb : Int), .int .i32 imm] 88) = W at K0 I0
  have UW : Hid (Upd B w W) := Lib.hid (hW ▸ (Upd.refl B w).alloc _)
  have KW := Lib.hid hW
  clear hW K
  have TX : Hid ((W.drew.cell? ⟨B, 0, none⟩ = some (.int .u32 (pc : Int))) ∧ W.drew.cell? ⟨w.heap.size, 0, none⟩ = some (.int .u8 15) ∧ W.drew.cell? ⟨w.heap.size, 1, none⟩ = some (.int .u8 (rd : Int)) ∧ W.drew.cell? ⟨w.heap.size, 2, none⟩ = some (.int .u8 (ra : Int)) ∧ W.drew.cell? ⟨w.heap.size, 3, none⟩ = some (.int .u8 (rb : Int)) ∧ W.drew.cell? ⟨w.heap.size, 4, none⟩ = some (.int .i32 imm)) := Lib.hid ⟨K0.out.cell 0, I0.out.cell 0, I0.out.cell 1, I0.out.cell 2, I0.out.cell 3, I0.out.cell 4⟩
  go_enter Try.func45, Try.ntmps45
  go_wp2_with fail
  (try rw [KW.out])
  go_region_held3 (fun w' => w'.cell? ⟨B, 0, none⟩ = some (.int .u32 (pc : Int)) ∧ w'.cell? ⟨w.heap.size, 0, none⟩ = some (.int .u8 15) ∧ w'.cell? ⟨w.heap.size, 1, none⟩ = some (.int .u8 (rd : Int)) ∧ w'.cell? ⟨w.heap.size, 2, none⟩ = some (.int .u8 (ra : Int)) ∧ w'.cell? ⟨w.heap.size, 3, none⟩ = some (.int .u8 (rb : Int)) ∧ w'.cell? ⟨w.heap.size, 4, none⟩ = some (.int .i32 imm)) (first | exact TX.out | (apply keep6 hb1; assumption) | go_keep) ((first | (go_at_call 77; (with_reducible refine (TG.out _).mono ?_); rintro e w1 ⟨rfl, hb1⟩)))
  have hb1 : Below W.heap.size W w1 := (below_drewN (Below.refl _ _) 1).trans hb1
  have K1 : Hid (RunB w1 B pc R s why ep home (.pointer (some ⟨M, 0, none⟩)) epoch ow nS nT nA nW) := Lib.hid (Blk.kept K0.out hb1)
  have I1 := Lib.hid (I0.out.kept hb1)
  have U1 := Lib.hid (UW.out.then_ hb1)
  clear hb1 TX K0 I0 UW KW TG
  have i0 : w1.cell? ⟨w.heap.size, 0, none⟩ = some (.int .u8 15) := I1.out.cell 0
  have TX : Hid (w1.drew.cell? ⟨w.heap.size, 0, none⟩ = some (.int .u8 15) ∧ w1.drew.cell? ⟨w.heap.size, 1, none⟩ = some (.int .u8 (rd : Int)) ∧ w1.drew.cell? ⟨w.heap.size, 2, none⟩ = some (.int .u8 (ra : Int))) := Lib.hid ⟨I1.out.cell 0, I1.out.cell 1, I1.out.cell 2⟩
  go_wp2_with fail
  go_region_held3 (fun w' => w'.cell? ⟨w.heap.size, 0, none⟩ = some (.int .u8 15) ∧ w'.cell? ⟨w.heap.size, 1, none⟩ = some (.int .u8 (rd : Int)) ∧ w'.cell? ⟨w.heap.size, 2, none⟩ = some (.int .u8 (ra : Int))) (first | exact TX.out | go_keep) ((first
    | (go_at_call 43; (with_reducible refine (RD.out _ ?_).mono ?_); (first | exact Blk.drewN K1.out 1); rintro e w2 ⟨rfl, rfl⟩)
    | (go_at_call 43; (with_reducible refine (RC.out _ ?_).mono ?_); (first | exact Blk.drewN K1.out 1); rintro e w3 ⟨rfl, rfl⟩)))
  have K2 : Hid (RunB (w1.drewN 1) B pc R s why ep home (.pointer (some ⟨M, 0, none⟩)) epoch ow nS nT nA nW) := Lib.hid (Blk.drewN K1.out 1)
  have U2 : Hid (Upd B w (w1.drewN 1)) := Lib.hid (U1.out.drewN 1)
  generalize hW1 : w1.drewN 1 = W1 at K2 U2
  have hW1' : w1.drew = W1 := hW1
  (try rw [hW1'])
  clear hW1 hW1'
  have t0 : W1.cell? ⟨B, 0, none⟩ = some (.int .u32 (pc : Int)) := K2.out.cell 0
  have ft0 : W1.frozen? ⟨B, 0, none⟩ = false := K2.out.frozen 0
  have F : Hid (RunP w B (inc pc) R s why ep home (.pointer (some ⟨M, 0, none⟩)) epoch ow nS nT nA nW (.returned (.tuple #[])) (W1.setCell ⟨B, 0, none⟩ (.int .u32 (inc pc : Int)))) := Lib.hid ⟨rfl, by
    have k := Blk.set_ K2.out 0 (.int .u32 (inc pc : Int))
    unfold RunB
    simpa using k, U2.out.setCell 0 _⟩
  clear K1 I1 U1 K2 U2 RC RD TX i0
  go_wp2_with fail
  refine bodyPost_ret (v := .tuple #[]) (by simp [results, Try.results45, go_sem, *]) rfl ?_
  exact F.out
set_option maxRecDepth 100000 in
set_option maxHeartbeats 8000000 in
theorem jump_16_eq (w : World) (B pc : Nat) (R : Nat → Nat) (s : Value) (why ep home : Nat) (M g h c d cd : Nat) (G : Nat → Nat) (T : List Page) (L : List Nat) (epoch ow : Nat) (nS nT : Bool) (nA nW : Nat) (K : RunB w B pc R s why ep home (.pointer (some ⟨M, 0, none⟩)) epoch ow nS nT nA nW) (rd ra rb : Nat) (imm : Int) (hd : rd < 8) (ha : ra < 8) (tg : Nat) (tb : Bool) (TG : ∀ W, Calls Try.prog 77 #[.int .u32 (pc : Int), .agg #[.int .u8 16, .int .u8 (rd : Int), .int .u8 (ra : Int), .int .u8 (rb : Int), .int .i32 imm]] W fun e w' => e = .returned (.tuple #[.int .u32 (tg : Int), .bool tb]) ∧ Below W.heap.size W w') (hq : ((getR R rd : Int) == (getR R ra : Int)) = true) :
    Calls Try.prog 45 #[.pointer (some ⟨B, 0, none⟩), .agg #[.int .u8 16, .int .u8 (rd : Int), .int .u8 (ra : Int), .int .u8 (rb : Int), .int .i32 imm]] w fun e w' => RunP w B (inc pc) R s why ep home (.pointer (some ⟨M, 0, none⟩)) epoch ow nS nT nA nW e w' := by
  unfold RunB at K
  have hwi := wrap_inc pc
  replace TG := Lib.hid TG
  have RC := fun W (k : RunB W B pc R s why ep home (.pointer (some ⟨M, 0, none⟩)) epoch ow nS nT nA nW) => reg_c W B pc R s why ep home (.pointer (some ⟨M, 0, none⟩)) epoch ow nS nT nA nW k ra ha
  have RD := fun W (k : RunB W B pc R s why ep home (.pointer (some ⟨M, 0, none⟩)) epoch ow nS nT nA nW) => reg_c W B pc R s why ep home (.pointer (some ⟨M, 0, none⟩)) epoch ow nS nT nA nW k rd hd
  generalize getR R ra = x at RC hq
  generalize getR R rd = y at RD hq
  replace RC := Lib.hid RC
  replace RD := Lib.hid RD
  have K0 : Hid (RunB (w.alloc (.cells #[.int .u8 16, .int .u8 (rd : Int), .int .u8 (ra : Int), .int .u8 (rb : Int), .int .i32 imm] 88)) B pc R s why ep home (.pointer (some ⟨M, 0, none⟩)) epoch ow nS nT nA nW) := Lib.hid (Blk.alloc K _)
  have I0 := Lib.hid (Blk.new w 88 #[.int .u8 16, .int .u8 (rd : Int), .int .u8 (ra : Int), .int .u8 (rb : Int), .int .i32 imm])
  have hB : B < w.heap.size := K.lt
  generalize hW : w.alloc (.cells #[.int .u8 16, .int .u8 (rd : Int), .int .u8 (ra : Int), .int .u8 (rb : Int), .int .i32 imm] 88) = W at K0 I0
  have UW : Hid (Upd B w W) := Lib.hid (hW ▸ (Upd.refl B w).alloc _)
  have KW := Lib.hid hW
  clear hW K
  have TX : Hid ((W.drew.cell? ⟨B, 0, none⟩ = some (.int .u32 (pc : Int))) ∧ W.drew.cell? ⟨w.heap.size, 0, none⟩ = some (.int .u8 16) ∧ W.drew.cell? ⟨w.heap.size, 1, none⟩ = some (.int .u8 (rd : Int)) ∧ W.drew.cell? ⟨w.heap.size, 2, none⟩ = some (.int .u8 (ra : Int)) ∧ W.drew.cell? ⟨w.heap.size, 3, none⟩ = some (.int .u8 (rb : Int)) ∧ W.drew.cell? ⟨w.heap.size, 4, none⟩ = some (.int .i32 imm)) := Lib.hid ⟨K0.out.cell 0, I0.out.cell 0, I0.out.cell 1, I0.out.cell 2, I0.out.cell 3, I0.out.cell 4⟩
  go_enter Try.func45, Try.ntmps45
  go_wp2_with fail
  (try rw [KW.out])
  go_region_held3 (fun w' => w'.cell? ⟨B, 0, none⟩ = some (.int .u32 (pc : Int)) ∧ w'.cell? ⟨w.heap.size, 0, none⟩ = some (.int .u8 16) ∧ w'.cell? ⟨w.heap.size, 1, none⟩ = some (.int .u8 (rd : Int)) ∧ w'.cell? ⟨w.heap.size, 2, none⟩ = some (.int .u8 (ra : Int)) ∧ w'.cell? ⟨w.heap.size, 3, none⟩ = some (.int .u8 (rb : Int)) ∧ w'.cell? ⟨w.heap.size, 4, none⟩ = some (.int .i32 imm)) (first | exact TX.out | (apply keep6 hb1; assumption) | go_keep) ((first | (go_at_call 77; (with_reducible refine (TG.out _).mono ?_); rintro e w1 ⟨rfl, hb1⟩)))
  have hb1 : Below W.heap.size W w1 := (below_drewN (Below.refl _ _) 1).trans hb1
  have K1 : Hid (RunB w1 B pc R s why ep home (.pointer (some ⟨M, 0, none⟩)) epoch ow nS nT nA nW) := Lib.hid (Blk.kept K0.out hb1)
  have I1 := Lib.hid (I0.out.kept hb1)
  have U1 := Lib.hid (UW.out.then_ hb1)
  clear hb1 TX K0 I0 UW KW TG
  have i0 : w1.cell? ⟨w.heap.size, 0, none⟩ = some (.int .u8 16) := I1.out.cell 0
  have TX : Hid (w1.drew.cell? ⟨w.heap.size, 0, none⟩ = some (.int .u8 16) ∧ w1.drew.cell? ⟨w.heap.size, 1, none⟩ = some (.int .u8 (rd : Int)) ∧ w1.drew.cell? ⟨w.heap.size, 2, none⟩ = some (.int .u8 (ra : Int))) := Lib.hid ⟨I1.out.cell 0, I1.out.cell 1, I1.out.cell 2⟩
  go_wp2_with fail
  go_region_held3 (fun w' => w'.cell? ⟨w.heap.size, 0, none⟩ = some (.int .u8 16) ∧ w'.cell? ⟨w.heap.size, 1, none⟩ = some (.int .u8 (rd : Int)) ∧ w'.cell? ⟨w.heap.size, 2, none⟩ = some (.int .u8 (ra : Int))) (first | exact TX.out | go_keep) ((first
    | (go_at_call 43; (with_reducible refine (RD.out _ ?_).mono ?_); (first | exact Blk.drewN K1.out 1); rintro e w2 ⟨rfl, rfl⟩)
    | (go_at_call 43; (with_reducible refine (RC.out _ ?_).mono ?_); (first | exact Blk.drewN K1.out 1); rintro e w3 ⟨rfl, rfl⟩)))
  have K2 : Hid (RunB (w1.drewN 1) B pc R s why ep home (.pointer (some ⟨M, 0, none⟩)) epoch ow nS nT nA nW) := Lib.hid (Blk.drewN K1.out 1)
  have U2 : Hid (Upd B w (w1.drewN 1)) := Lib.hid (U1.out.drewN 1)
  generalize hW1 : w1.drewN 1 = W1 at K2 U2
  have hW1' : w1.drew = W1 := hW1
  (try rw [hW1'])
  clear hW1 hW1'
  have t0 : W1.cell? ⟨B, 0, none⟩ = some (.int .u32 (pc : Int)) := K2.out.cell 0
  have ft0 : W1.frozen? ⟨B, 0, none⟩ = false := K2.out.frozen 0
  have F : Hid (RunP w B (inc pc) R s why ep home (.pointer (some ⟨M, 0, none⟩)) epoch ow nS nT nA nW (.returned (.tuple #[])) (W1.setCell ⟨B, 0, none⟩ (.int .u32 (inc pc : Int)))) := Lib.hid ⟨rfl, by
    have k := Blk.set_ K2.out 0 (.int .u32 (inc pc : Int))
    unfold RunB
    simpa using k, U2.out.setCell 0 _⟩
  clear K1 I1 U1 K2 U2 RC RD TX i0
  go_wp2_with fail
  refine bodyPost_ret (v := .tuple #[]) (by simp [results, Try.results45, go_sem, *]) rfl ?_
  exact F.out
set_option maxRecDepth 100000 in
set_option maxHeartbeats 8000000 in
theorem jump_16_ne (w : World) (B pc : Nat) (R : Nat → Nat) (s : Value) (why ep home : Nat) (M g h c d cd : Nat) (G : Nat → Nat) (T : List Page) (L : List Nat) (epoch ow : Nat) (nS nT : Bool) (nA nW : Nat) (K : RunB w B pc R s why ep home (.pointer (some ⟨M, 0, none⟩)) epoch ow nS nT nA nW) (rd ra rb : Nat) (imm : Int) (hd : rd < 8) (ha : ra < 8) (tg : Nat) (tb : Bool) (TG : ∀ W, Calls Try.prog 77 #[.int .u32 (pc : Int), .agg #[.int .u8 16, .int .u8 (rd : Int), .int .u8 (ra : Int), .int .u8 (rb : Int), .int .i32 imm]] W fun e w' => e = .returned (.tuple #[.int .u32 (tg : Int), .bool tb]) ∧ Below W.heap.size W w') (hq : ((getR R rd : Int) == (getR R ra : Int)) = false) :
    Calls Try.prog 45 #[.pointer (some ⟨B, 0, none⟩), .agg #[.int .u8 16, .int .u8 (rd : Int), .int .u8 (ra : Int), .int .u8 (rb : Int), .int .i32 imm]] w fun e w' => RunP w B tg R s why ep home (.pointer (some ⟨M, 0, none⟩)) epoch ow nS nT nA nW e w' := by
  unfold RunB at K
  have hwi := wrap_inc pc
  replace TG := Lib.hid TG
  have RC := fun W (k : RunB W B pc R s why ep home (.pointer (some ⟨M, 0, none⟩)) epoch ow nS nT nA nW) => reg_c W B pc R s why ep home (.pointer (some ⟨M, 0, none⟩)) epoch ow nS nT nA nW k ra ha
  have RD := fun W (k : RunB W B pc R s why ep home (.pointer (some ⟨M, 0, none⟩)) epoch ow nS nT nA nW) => reg_c W B pc R s why ep home (.pointer (some ⟨M, 0, none⟩)) epoch ow nS nT nA nW k rd hd
  generalize getR R ra = x at RC hq
  generalize getR R rd = y at RD hq
  replace RC := Lib.hid RC
  replace RD := Lib.hid RD
  have K0 : Hid (RunB (w.alloc (.cells #[.int .u8 16, .int .u8 (rd : Int), .int .u8 (ra : Int), .int .u8 (rb : Int), .int .i32 imm] 88)) B pc R s why ep home (.pointer (some ⟨M, 0, none⟩)) epoch ow nS nT nA nW) := Lib.hid (Blk.alloc K _)
  have I0 := Lib.hid (Blk.new w 88 #[.int .u8 16, .int .u8 (rd : Int), .int .u8 (ra : Int), .int .u8 (rb : Int), .int .i32 imm])
  have hB : B < w.heap.size := K.lt
  generalize hW : w.alloc (.cells #[.int .u8 16, .int .u8 (rd : Int), .int .u8 (ra : Int), .int .u8 (rb : Int), .int .i32 imm] 88) = W at K0 I0
  have UW : Hid (Upd B w W) := Lib.hid (hW ▸ (Upd.refl B w).alloc _)
  have KW := Lib.hid hW
  clear hW K
  have TX : Hid ((W.drew.cell? ⟨B, 0, none⟩ = some (.int .u32 (pc : Int))) ∧ W.drew.cell? ⟨w.heap.size, 0, none⟩ = some (.int .u8 16) ∧ W.drew.cell? ⟨w.heap.size, 1, none⟩ = some (.int .u8 (rd : Int)) ∧ W.drew.cell? ⟨w.heap.size, 2, none⟩ = some (.int .u8 (ra : Int)) ∧ W.drew.cell? ⟨w.heap.size, 3, none⟩ = some (.int .u8 (rb : Int)) ∧ W.drew.cell? ⟨w.heap.size, 4, none⟩ = some (.int .i32 imm)) := Lib.hid ⟨K0.out.cell 0, I0.out.cell 0, I0.out.cell 1, I0.out.cell 2, I0.out.cell 3, I0.out.cell 4⟩
  go_enter Try.func45, Try.ntmps45
  go_wp2_with fail
  (try rw [KW.out])
  go_region_held3 (fun w' => w'.cell? ⟨B, 0, none⟩ = some (.int .u32 (pc : Int)) ∧ w'.cell? ⟨w.heap.size, 0, none⟩ = some (.int .u8 16) ∧ w'.cell? ⟨w.heap.size, 1, none⟩ = some (.int .u8 (rd : Int)) ∧ w'.cell? ⟨w.heap.size, 2, none⟩ = some (.int .u8 (ra : Int)) ∧ w'.cell? ⟨w.heap.size, 3, none⟩ = some (.int .u8 (rb : Int)) ∧ w'.cell? ⟨w.heap.size, 4, none⟩ = some (.int .i32 imm)) (first | exact TX.out | (apply keep6 hb1; assumption) | go_keep) ((first | (go_at_call 77; (with_reducible refine (TG.out _).mono ?_); rintro e w1 ⟨rfl, hb1⟩)))
  have hb1 : Below W.heap.size W w1 := (below_drewN (Below.refl _ _) 1).trans hb1
  have K1 : Hid (RunB w1 B pc R s why ep home (.pointer (some ⟨M, 0, none⟩)) epoch ow nS nT nA nW) := Lib.hid (Blk.kept K0.out hb1)
  have I1 := Lib.hid (I0.out.kept hb1)
  have U1 := Lib.hid (UW.out.then_ hb1)
  clear hb1 TX K0 I0 UW KW TG
  have i0 : w1.cell? ⟨w.heap.size, 0, none⟩ = some (.int .u8 16) := I1.out.cell 0
  have TX : Hid (w1.drew.cell? ⟨w.heap.size, 0, none⟩ = some (.int .u8 16) ∧ w1.drew.cell? ⟨w.heap.size, 1, none⟩ = some (.int .u8 (rd : Int)) ∧ w1.drew.cell? ⟨w.heap.size, 2, none⟩ = some (.int .u8 (ra : Int))) := Lib.hid ⟨I1.out.cell 0, I1.out.cell 1, I1.out.cell 2⟩
  go_wp2_with fail
  go_region_held3 (fun w' => w'.cell? ⟨w.heap.size, 0, none⟩ = some (.int .u8 16) ∧ w'.cell? ⟨w.heap.size, 1, none⟩ = some (.int .u8 (rd : Int)) ∧ w'.cell? ⟨w.heap.size, 2, none⟩ = some (.int .u8 (ra : Int))) (first | exact TX.out | go_keep) ((first
    | (go_at_call 43; (with_reducible refine (RD.out _ ?_).mono ?_); (first | exact Blk.drewN K1.out 1); rintro e w2 ⟨rfl, rfl⟩)
    | (go_at_call 43; (with_reducible refine (RC.out _ ?_).mono ?_); (first | exact Blk.drewN K1.out 1); rintro e w3 ⟨rfl, rfl⟩)))
  have K2 : Hid (RunB (w1.drewN 1) B pc R s why ep home (.pointer (some ⟨M, 0, none⟩)) epoch ow nS nT nA nW) := Lib.hid (Blk.drewN K1.out 1)
  have U2 : Hid (Upd B w (w1.drewN 1)) := Lib.hid (U1.out.drewN 1)
  generalize hW1 : w1.drewN 1 = W1 at K2 U2
  have hW1' : w1.drew = W1 := hW1
  (try rw [hW1'])
  clear hW1 hW1'
  have t0 : W1.cell? ⟨B, 0, none⟩ = some (.int .u32 (pc : Int)) := K2.out.cell 0
  have ft0 : W1.frozen? ⟨B, 0, none⟩ = false := K2.out.frozen 0
  have F : Hid (RunP w B tg R s why ep home (.pointer (some ⟨M, 0, none⟩)) epoch ow nS nT nA nW (.returned (.tuple #[])) (W1.setCell ⟨B, 0, none⟩ (.int .u32 (tg : Int)))) := Lib.hid ⟨rfl, by
    have k := Blk.set_ K2.out 0 (.int .u32 (tg : Int))
    unfold RunB
    simpa using k, U2.out.setCell 0 _⟩
  clear K1 I1 U1 K2 U2 RC RD TX i0
  go_wp2_with fail
  refine bodyPost_ret (v := .tuple #[]) (by simp [results, Try.results45, go_sem, *]) rfl ?_
  exact F.out
set_option maxRecDepth 100000 in
set_option maxHeartbeats 8000000 in
theorem jump_18_empty (w : World) (B pc : Nat) (R : Nat → Nat) (s : Value) (why ep home : Nat) (M g h c d cd : Nat) (G : Nat → Nat) (T : List Page) (L : List Nat) (epoch ow : Nat) (nS nT : Bool) (nA nW : Nat) (K : RunB w B pc R s why ep home (.pointer (some ⟨M, 0, none⟩)) epoch ow nS nT nA nW) (rd ra rb : Nat) (imm : Int) (hd : rd < 8) (ha : ra < 8) (tg : Nat) (tb : Bool) (TG : ∀ W, Calls Try.prog 77 #[.int .u32 (pc : Int), .agg #[.int .u8 18, .int .u8 (rd : Int), .int .u8 (ra : Int), .int .u8 (rb : Int), .int .i32 imm]] W fun e w' => e = .returned (.tuple #[.int .u32 (tg : Int), .bool tb]) ∧ Below W.heap.size W w') (src : Option Addr) (cap : Nat) (hs : s = .slice src 0 cap) :
    Calls Try.prog 45 #[.pointer (some ⟨B, 0, none⟩), .agg #[.int .u8 18, .int .u8 (rd : Int), .int .u8 (ra : Int), .int .u8 (rb : Int), .int .i32 imm]] w fun e w' => RunP w B home R s why epoch home (.pointer (some ⟨M, 0, none⟩)) epoch ow true nT nA nW e w' := by
  unfold RunB at K
  have hwi := wrap_inc pc
  replace TG := Lib.hid TG
  have PC := Lib.hid (fun W (k : RunB W B pc R s why ep home (.pointer (some ⟨M, 0, none⟩)) epoch ow nS nT nA nW) => pass_empty W B pc R s why ep home (.pointer (some ⟨M, 0, none⟩)) epoch ow nS nT nA nW src cap hs k 6)
  have K0 : Hid (RunB (w.alloc (.cells #[.int .u8 18, .int .u8 (rd : Int), .int .u8 (ra : Int), .int .u8 (rb : Int), .int .i32 imm] 88)) B pc R s why ep home (.pointer (some ⟨M, 0, none⟩)) epoch ow nS nT nA nW) := Lib.hid (Blk.alloc K _)
  have I0 := Lib.hid (Blk.new w 88 #[.int .u8 18, .int .u8 (rd : Int), .int .u8 (ra : Int), .int .u8 (rb : Int), .int .i32 imm])
  have hB : B < w.heap.size := K.lt
  generalize hW : w.alloc (.cells #[.int .u8 18, .int .u8 (rd : Int), .int .u8 (ra : Int), .int .u8 (rb : Int), .int .i32 imm] 88) = W at K0 I0
  have UW : Hid (Upd B w W) := Lib.hid (hW ▸ (Upd.refl B w).alloc _)
  have KW := Lib.hid hW
  clear hW K
  have TX : Hid ((W.drew.cell? ⟨B, 0, none⟩ = some (.int .u32 (pc : Int))) ∧ W.drew.cell? ⟨w.heap.size, 0, none⟩ = some (.int .u8 18) ∧ W.drew.cell? ⟨w.heap.size, 1, none⟩ = some (.int .u8 (rd : Int)) ∧ W.drew.cell? ⟨w.heap.size, 2, none⟩ = some (.int .u8 (ra : Int)) ∧ W.drew.cell? ⟨w.heap.size, 3, none⟩ = some (.int .u8 (rb : Int)) ∧ W.drew.cell? ⟨w.heap.size, 4, none⟩ = some (.int .i32 imm)) := Lib.hid ⟨K0.out.cell 0, I0.out.cell 0, I0.out.cell 1, I0.out.cell 2, I0.out.cell 3, I0.out.cell 4⟩
  go_enter Try.func45, Try.ntmps45
  go_wp2_with fail
  (try rw [KW.out])
  go_region_held3 (fun w' => w'.cell? ⟨B, 0, none⟩ = some (.int .u32 (pc : Int)) ∧ w'.cell? ⟨w.heap.size, 0, none⟩ = some (.int .u8 18) ∧ w'.cell? ⟨w.heap.size, 1, none⟩ = some (.int .u8 (rd : Int)) ∧ w'.cell? ⟨w.heap.size, 2, none⟩ = some (.int .u8 (ra : Int)) ∧ w'.cell? ⟨w.heap.size, 3, none⟩ = some (.int .u8 (rb : Int)) ∧ w'.cell? ⟨w.heap.size, 4, none⟩ = some (.int .i32 imm)) (first | exact TX.out | (apply keep6 hb1; assumption) | go_keep) ((first | (go_at_call 77; (with_reducible refine (TG.out _).mono ?_); rintro e w1 ⟨rfl, hb1⟩)))
  have hb1 : Below W.heap.size W w1 := (below_drewN (Below.refl _ _) 1).trans hb1
  have K1 : Hid (RunB w1 B pc R s why ep home (.pointer (some ⟨M, 0, none⟩)) epoch ow nS nT nA nW) := Lib.hid (Blk.kept K0.out hb1)
  have I1 := Lib.hid (I0.out.kept hb1)
  have U1 := Lib.hid (UW.out.then_ hb1)
  clear hb1 TX K0 I0 UW KW TG
  have i0 : w1.cell? ⟨w.heap.size, 0, none⟩ = some (.int .u8 18) := I1.out.cell 0
  have t9 : w1.cell? ⟨B, 9, none⟩ = some (s) := K1.out.cell 9
  rw [hs] at t9
  go_wp2_with fail
  refine (PC.out _ K1.out).mono ?_
  rintro e w2 ⟨rfl, k2, u2⟩
  have F : Hid (RunP w B home R s why epoch home (.pointer (some ⟨M, 0, none⟩)) epoch ow true nT nA nW (.returned (.tuple #[])) w2) := Lib.hid ⟨rfl, k2, U1.out.trans u2⟩
  clear K1 I1 U1 PC k2 u2
  go_wp2_with fail
  refine bodyPost_ret (v := .tuple #[]) (by simp [results, Try.results45, go_sem, *]) rfl ?_
  exact F.out
set_option maxRecDepth 100000 in
set_option maxHeartbeats 8000000 in
theorem jump_20_empty (w : World) (B pc : Nat) (R : Nat → Nat) (s : Value) (why ep home : Nat) (M g h c d cd : Nat) (G : Nat → Nat) (T : List Page) (L : List Nat) (epoch ow : Nat) (nS nT : Bool) (nA nW : Nat) (K : RunB w B pc R s why ep home (.pointer (some ⟨M, 0, none⟩)) epoch ow nS nT nA nW) (rd ra rb : Nat) (imm : Int) (hd : rd < 8) (ha : ra < 8) (tg : Nat) (tb : Bool) (TG : ∀ W, Calls Try.prog 77 #[.int .u32 (pc : Int), .agg #[.int .u8 20, .int .u8 (rd : Int), .int .u8 (ra : Int), .int .u8 (rb : Int), .int .i32 imm]] W fun e w' => e = .returned (.tuple #[.int .u32 (tg : Int), .bool tb]) ∧ Below W.heap.size W w') (src : Option Addr) (cap : Nat) (hs : s = .slice src 0 cap) :
    Calls Try.prog 45 #[.pointer (some ⟨B, 0, none⟩), .agg #[.int .u8 20, .int .u8 (rd : Int), .int .u8 (ra : Int), .int .u8 (rb : Int), .int .i32 imm]] w fun e w' => RunP w B home R s why epoch home (.pointer (some ⟨M, 0, none⟩)) epoch ow true nT nA nW e w' := by
  unfold RunB at K
  have hwi := wrap_inc pc
  replace TG := Lib.hid TG
  have PC := Lib.hid (fun W (k : RunB W B pc R s why ep home (.pointer (some ⟨M, 0, none⟩)) epoch ow nS nT nA nW) => pass_empty W B pc R s why ep home (.pointer (some ⟨M, 0, none⟩)) epoch ow nS nT nA nW src cap hs k 6)
  have K0 : Hid (RunB (w.alloc (.cells #[.int .u8 20, .int .u8 (rd : Int), .int .u8 (ra : Int), .int .u8 (rb : Int), .int .i32 imm] 88)) B pc R s why ep home (.pointer (some ⟨M, 0, none⟩)) epoch ow nS nT nA nW) := Lib.hid (Blk.alloc K _)
  have I0 := Lib.hid (Blk.new w 88 #[.int .u8 20, .int .u8 (rd : Int), .int .u8 (ra : Int), .int .u8 (rb : Int), .int .i32 imm])
  have hB : B < w.heap.size := K.lt
  generalize hW : w.alloc (.cells #[.int .u8 20, .int .u8 (rd : Int), .int .u8 (ra : Int), .int .u8 (rb : Int), .int .i32 imm] 88) = W at K0 I0
  have UW : Hid (Upd B w W) := Lib.hid (hW ▸ (Upd.refl B w).alloc _)
  have KW := Lib.hid hW
  clear hW K
  have TX : Hid ((W.drew.cell? ⟨B, 0, none⟩ = some (.int .u32 (pc : Int))) ∧ W.drew.cell? ⟨w.heap.size, 0, none⟩ = some (.int .u8 20) ∧ W.drew.cell? ⟨w.heap.size, 1, none⟩ = some (.int .u8 (rd : Int)) ∧ W.drew.cell? ⟨w.heap.size, 2, none⟩ = some (.int .u8 (ra : Int)) ∧ W.drew.cell? ⟨w.heap.size, 3, none⟩ = some (.int .u8 (rb : Int)) ∧ W.drew.cell? ⟨w.heap.size, 4, none⟩ = some (.int .i32 imm)) := Lib.hid ⟨K0.out.cell 0, I0.out.cell 0, I0.out.cell 1, I0.out.cell 2, I0.out.cell 3, I0.out.cell 4⟩
  go_enter Try.func45, Try.ntmps45
  go_wp2_with fail
  (try rw [KW.out])
  go_region_held3 (fun w' => w'.cell? ⟨B, 0, none⟩ = some (.int .u32 (pc : Int)) ∧ w'.cell? ⟨w.heap.size, 0, none⟩ = some (.int .u8 20) ∧ w'.cell? ⟨w.heap.size, 1, none⟩ = some (.int .u8 (rd : Int)) ∧ w'.cell? ⟨w.heap.size, 2, none⟩ = some (.int .u8 (ra : Int)) ∧ w'.cell? ⟨w.heap.size, 3, none⟩ = some (.int .u8 (rb : Int)) ∧ w'.cell? ⟨w.heap.size, 4, none⟩ = some (.int .i32 imm)) (first | exact TX.out | (apply keep6 hb1; assumption) | go_keep) ((first | (go_at_call 77; (with_reducible refine (TG.out _).mono ?_); rintro e w1 ⟨rfl, hb1⟩)))
  have hb1 : Below W.heap.size W w1 := (below_drewN (Below.refl _ _) 1).trans hb1
  have K1 : Hid (RunB w1 B pc R s why ep home (.pointer (some ⟨M, 0, none⟩)) epoch ow nS nT nA nW) := Lib.hid (Blk.kept K0.out hb1)
  have I1 := Lib.hid (I0.out.kept hb1)
  have U1 := Lib.hid (UW.out.then_ hb1)
  clear hb1 TX K0 I0 UW KW TG
  have i0 : w1.cell? ⟨w.heap.size, 0, none⟩ = some (.int .u8 20) := I1.out.cell 0
  go_wp2_with fail
  refine (PC.out _ K1.out).mono ?_
  rintro e w2 ⟨rfl, k2, u2⟩
  have F : Hid (RunP w B home R s why epoch home (.pointer (some ⟨M, 0, none⟩)) epoch ow true nT nA nW (.returned (.tuple #[])) w2) := Lib.hid ⟨rfl, k2, U1.out.trans u2⟩
  clear K1 I1 U1 PC k2 u2
  go_wp2_with fail
  refine bodyPost_ret (v := .tuple #[]) (by simp [results, Try.results45, go_sem, *]) rfl ?_
  exact F.out
set_option maxRecDepth 100000 in
set_option maxHeartbeats 8000000 in
theorem jump_20_full (w : World) (B pc : Nat) (R : Nat → Nat) (s : Value) (why ep home : Nat) (M g h c d cd : Nat) (G : Nat → Nat) (T : List Page) (L : List Nat) (epoch ow : Nat) (nS nT : Bool) (nA nW : Nat) (K : RunB w B pc R s why ep home (.pointer (some ⟨M, 0, none⟩)) epoch ow nS nT nA nW) (rd ra rb : Nat) (imm : Int) (hd : rd < 8) (ha : ra < 8) (tg : Nat) (tb : Bool) (TG : ∀ W, Calls Try.prog 77 #[.int .u32 (pc : Int), .agg #[.int .u8 20, .int .u8 (rd : Int), .int .u8 (ra : Int), .int .u8 (rb : Int), .int .i32 imm]] W fun e w' => e = .returned (.tuple #[.int .u32 (tg : Int), .bool tb]) ∧ Below W.heap.size W w') (src : Option Addr) (n cap : Nat) (hs : s = .slice src n cap) (hn : 0 < n) :
    Calls Try.prog 45 #[.pointer (some ⟨B, 0, none⟩), .agg #[.int .u8 20, .int .u8 (rd : Int), .int .u8 (ra : Int), .int .u8 (rb : Int), .int .i32 imm]] w fun e w' => RunP w B pc R s 6 ep home (.pointer (some ⟨M, 0, none⟩)) epoch ow nS nT nA nW e w' := by
  unfold RunB at K
  have hwi := wrap_inc pc
  replace TG := Lib.hid TG
  have PC := Lib.hid (fun W (k : RunB W B pc R s why ep home (.pointer (some ⟨M, 0, none⟩)) epoch ow nS nT nA nW) => pass_full W B pc R s why ep home (.pointer (some ⟨M, 0, none⟩)) epoch ow nS nT nA nW src n cap hs k 6 hn)
  have K0 : Hid (RunB (w.alloc (.cells #[.int .u8 20, .int .u8 (rd : Int), .int .u8 (ra : Int), .int .u8 (rb : Int), .int .i32 imm] 88)) B pc R s why ep home (.pointer (some ⟨M, 0, none⟩)) epoch ow nS nT nA nW) := Lib.hid (Blk.alloc K _)
  have I0 := Lib.hid (Blk.new w 88 #[.int .u8 20, .int .u8 (rd : Int), .int .u8 (ra : Int), .int .u8 (rb : Int), .int .i32 imm])
  have hB : B < w.heap.size := K.lt
  generalize hW : w.alloc (.cells #[.int .u8 20, .int .u8 (rd : Int), .int .u8 (ra : Int), .int .u8 (rb : Int), .int .i32 imm] 88) = W at K0 I0
  have UW : Hid (Upd B w W) := Lib.hid (hW ▸ (Upd.refl B w).alloc _)
  have KW := Lib.hid hW
  clear hW K
  have TX : Hid ((W.drew.cell? ⟨B, 0, none⟩ = some (.int .u32 (pc : Int))) ∧ W.drew.cell? ⟨w.heap.size, 0, none⟩ = some (.int .u8 20) ∧ W.drew.cell? ⟨w.heap.size, 1, none⟩ = some (.int .u8 (rd : Int)) ∧ W.drew.cell? ⟨w.heap.size, 2, none⟩ = some (.int .u8 (ra : Int)) ∧ W.drew.cell? ⟨w.heap.size, 3, none⟩ = some (.int .u8 (rb : Int)) ∧ W.drew.cell? ⟨w.heap.size, 4, none⟩ = some (.int .i32 imm)) := Lib.hid ⟨K0.out.cell 0, I0.out.cell 0, I0.out.cell 1, I0.out.cell 2, I0.out.cell 3, I0.out.cell 4⟩
  go_enter Try.func45, Try.ntmps45
  go_wp2_with fail
  (try rw [KW.out])
  go_region_held3 (fun w' => w'.cell? ⟨B, 0, none⟩ = some (.int .u32 (pc : Int)) ∧ w'.cell? ⟨w.heap.size, 0, none⟩ = some (.int .u8 20) ∧ w'.cell? ⟨w.heap.size, 1, none⟩ = some (.int .u8 (rd : Int)) ∧ w'.cell? ⟨w.heap.size, 2, none⟩ = some (.int .u8 (ra : Int)) ∧ w'.cell? ⟨w.heap.size, 3, none⟩ = some (.int .u8 (rb : Int)) ∧ w'.cell? ⟨w.heap.size, 4, none⟩ = some (.int .i32 imm)) (first | exact TX.out | (apply keep6 hb1; assumption) | go_keep) ((first | (go_at_call 77; (with_reducible refine (TG.out _).mono ?_); rintro e w1 ⟨rfl, hb1⟩)))
  have hb1 : Below W.heap.size W w1 := (below_drewN (Below.refl _ _) 1).trans hb1
  have K1 : Hid (RunB w1 B pc R s why ep home (.pointer (some ⟨M, 0, none⟩)) epoch ow nS nT nA nW) := Lib.hid (Blk.kept K0.out hb1)
  have I1 := Lib.hid (I0.out.kept hb1)
  have U1 := Lib.hid (UW.out.then_ hb1)
  clear hb1 TX K0 I0 UW KW TG
  have i0 : w1.cell? ⟨w.heap.size, 0, none⟩ = some (.int .u8 20) := I1.out.cell 0
  go_wp2_with fail
  refine (PC.out _ K1.out).mono ?_
  rintro e w2 ⟨rfl, k2, u2⟩
  have F : Hid (RunP w B pc R s 6 ep home (.pointer (some ⟨M, 0, none⟩)) epoch ow nS nT nA nW (.returned (.tuple #[])) w2) := Lib.hid ⟨rfl, k2, U1.out.trans u2⟩
  clear K1 I1 U1 PC k2 u2
  go_wp2_with fail
  refine bodyPost_ret (v := .tuple #[]) (by simp [results, Try.results45, go_sem, *]) rfl ?_
  exact F.out
end Go.Proofs.Ythnbdeibjbicpaa.PM
