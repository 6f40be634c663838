/- Contracts of hart's jump: Enter. Conditions: the cells. -/
import Derived.Test.YthnbdeibjbicpaaHart5
namespace Go.Proofs.Ythnbdeibjbicpaa.PM
set_option linter.unusedVariables false
set_option linter.unusedSimpArgs false
open Go.RowKit
set_option maxRecDepth 100000 in
set_option maxHeartbeats 8000000 in
theorem jump_21_bound (w : World) (B pc : Nat) (R : Nat → Nat) (s : Value) (why ep home : Nat) (M g h c d cd : Nat) (G : Nat → Nat) (T : List Page) (L : List Nat) (epoch ow : Nat) (nS nT : Bool) (nA nW : Nat) (K : RunB w B pc R s why ep home (.pointer (some ⟨M, 0, none⟩)) epoch ow nS nT nA nW) (m : Mem w M g h c d cd G T L) (rd ra rb : Nat) (imm : Int) (hd : rd < 8) (ha : ra < 8) (tg : Nat) (tb : Bool) (TG : ∀ W, Calls Try.prog 77 #[.int .u32 (pc : Int), .agg #[.int .u8 21, .int .u8 (rd : Int), .int .u8 (ra : Int), .int .u8 (rb : Int), .int .i32 imm]] W fun e w' => e = .returned (.tuple #[.int .u32 (tg : Int), .bool tb]) ∧ Below W.heap.size W w') (gq r8 : Nat) (hgq : Int.tdiv imm 8 = (gq : Int)) (hr8 : Int.tmod imm 8 = (r8 : Int)) (h0 : 0 ≤ imm) (h63 : imm ≤ 63) (hq8 : gq < 8) (hr : r8 < 8) (hz : ((G gq : Int) == 0) = false) :
    Calls Try.prog 45 #[.pointer (some ⟨B, 0, none⟩), .agg #[.int .u8 21, .int .u8 (rd : Int), .int .u8 (ra : Int), .int .u8 (rb : Int), .int .i32 imm]] w fun e w' => RunP w B ((G gq + r8) % 4294967296) R s why ep home (.pointer (some ⟨M, 0, none⟩)) epoch ow nS nT nA nW e w' := by
  unfold RunB at K
  have hwi := wrap_inc pc
  replace TG := Lib.hid TG
  have hw1 : IntKind.i64.wrap imm = imm := by unfold IntKind.wrap; simp [IntKind.bits, IntKind.signed]; omega
  have hw2 : IntKind.i64.wrap (gq : Int) = (gq : Int) := by unfold IntKind.wrap; simp [IntKind.bits, IntKind.signed]; omega
  have hw3 : IntKind.i32.wrap (r8 : Int) = (r8 : Int) := by unfold IntKind.wrap; simp [IntKind.bits, IntKind.signed]; omega
  have hw4 : IntKind.u32.wrap (r8 : Int) = (r8 : Int) := by rw [IntKind.wrap_u32]; omega
  have GC : ∀ W, Mem W M g h c d cd G T L → Calls Try.prog 79 #[.pointer (some ⟨M, 0, none⟩), .int .i64 (gq : Int)] W fun e w' => e = .returned (.int .u32 (G gq : Int)) ∧ w' = W := fun W q => by
    have := gate_c q (gq : Int)
    rw [if_pos ⟨by omega, by omega⟩, Int.toNat_natCast] at this
    exact this
  have hsum : ((G gq : Int) + (r8 : Int)) % 4294967296 = (((G gq + r8) % 4294967296 : Nat) : Int) := by omega
  have hsw : IntKind.u32.wrap ((G gq : Int) + (r8 : Int)) = (((G gq + r8) % 4294967296 : Nat) : Int) := by rw [IntKind.wrap_u32]; exact hsum
  generalize (G gq + r8) % 4294967296 = y at hsum hsw ⊢
  generalize G gq = gv at GC hz hsum hsw
  replace GC := Lib.hid GC
  have K0 : Hid (RunB (w.alloc (.cells #[.int .u8 21, .int .u8 (rd : Int), .int .u8 (ra : Int), .int .u8 (rb : Int), .int .i32 imm] 88)) B pc R s why ep home (.pointer (some ⟨M, 0, none⟩)) epoch ow nS nT nA nW) := Lib.hid (Blk.alloc K _)
  have M0 : Hid (Mem (w.alloc (.cells #[.int .u8 21, .int .u8 (rd : Int), .int .u8 (ra : Int), .int .u8 (rb : Int), .int .i32 imm] 88)) M g h c d cd G T L) := Lib.hid (m.alloc _)
  have I0 := Lib.hid (Blk.new w 88 #[.int .u8 21, .int .u8 (rd : Int), .int .u8 (ra : Int), .int .u8 (rb : Int), .int .i32 imm])
  have hB : B < w.heap.size := K.lt
  generalize hW : w.alloc (.cells #[.int .u8 21, .int .u8 (rd : Int), .int .u8 (ra : Int), .int .u8 (rb : Int), .int .i32 imm] 88) = W at K0 I0 M0
  have UW : Hid (Upd B w W) := Lib.hid (hW ▸ (Upd.refl B w).alloc _)
  have KW := Lib.hid hW
  clear hW K m
  have TX : Hid ((W.drew.cell? ⟨B, 0, none⟩ = some (.int .u32 (pc : Int))) ∧ W.drew.cell? ⟨w.heap.size, 0, none⟩ = some (.int .u8 21) ∧ W.drew.cell? ⟨w.heap.size, 1, none⟩ = some (.int .u8 (rd : Int)) ∧ W.drew.cell? ⟨w.heap.size, 2, none⟩ = some (.int .u8 (ra : Int)) ∧ W.drew.cell? ⟨w.heap.size, 3, none⟩ = some (.int .u8 (rb : Int)) ∧ W.drew.cell? ⟨w.heap.size, 4, none⟩ = some (.int .i32 imm)) := Lib.hid ⟨K0.out.cell 0, I0.out.cell 0, I0.out.cell 1, I0.out.cell 2, I0.out.cell 3, I0.out.cell 4⟩
  go_enter Try.func45, Try.ntmps45
  go_wp2_with fail
  (try rw [KW.out])
  go_region_held3 (fun w' => w'.cell? ⟨B, 0, none⟩ = some (.int .u32 (pc : Int)) ∧ w'.cell? ⟨w.heap.size, 0, none⟩ = some (.int .u8 21) ∧ w'.cell? ⟨w.heap.size, 1, none⟩ = some (.int .u8 (rd : Int)) ∧ w'.cell? ⟨w.heap.size, 2, none⟩ = some (.int .u8 (ra : Int)) ∧ w'.cell? ⟨w.heap.size, 3, none⟩ = some (.int .u8 (rb : Int)) ∧ w'.cell? ⟨w.heap.size, 4, none⟩ = some (.int .i32 imm)) (first | exact TX.out | (apply keep6 hb1; assumption) | go_keep) ((first | (go_at_call 77; (with_reducible refine (TG.out _).mono ?_); rintro e w1 ⟨rfl, hb1⟩)))
  have hb1 : Below W.heap.size W w1 := (below_drewN (Below.refl _ _) 1).trans hb1
  have K1 : Hid (RunB w1 B pc R s why ep home (.pointer (some ⟨M, 0, none⟩)) epoch ow nS nT nA nW) := Lib.hid (Blk.kept K0.out hb1)
  have M1 := Lib.hid (M0.out.kept hb1)
  have I1 := Lib.hid (I0.out.kept hb1)
  have U1 := Lib.hid (UW.out.then_ hb1)
  clear hb1 TX K0 I0 UW KW TG M0
  have i0 : w1.cell? ⟨w.heap.size, 0, none⟩ = some (.int .u8 21) := I1.out.cell 0
  have TX : Hid ((w1.drew.cell? ⟨B, 13, none⟩ = some (.pointer (some ⟨M, 0, none⟩))) ∧ w1.drew.cell? ⟨w.heap.size, 4, none⟩ = some (.int .i32 imm)) := Lib.hid ⟨K1.out.cell 13, I1.out.cell 4⟩
  have t13 : w1.cell? ⟨B, 13, none⟩ = some (.pointer (some ⟨M, 0, none⟩)) := K1.out.cell 13
  go_wp2_with fail
  go_region_held3 (fun w' => w'.cell? ⟨B, 13, none⟩ = some (.pointer (some ⟨M, 0, none⟩)) ∧ w'.cell? ⟨w.heap.size, 4, none⟩ = some (.int .i32 imm)) (first | exact TX.out | go_keep) ((first
    | (go_at_call 79; (with_reducible refine (GC.out _ ?_).mono ?_); (first | exact M1.out.drewN 1); rintro e w2 ⟨rfl, rfl⟩)))
  have K2 : Hid (RunB (w1.drewN 1) B pc R s why ep home (.pointer (some ⟨M, 0, none⟩)) epoch ow nS nT nA nW) := Lib.hid (Blk.drewN K1.out 1)
  have U2 : Hid (Upd B w (w1.drewN 1)) := Lib.hid (U1.out.drewN 1)
  have I2 := Lib.hid (I1.out.drewN 1)
  generalize hW1 : w1.drewN 1 = W1 at K2 U2 I2
  have hW1' : w1.drew = W1 := hW1
  (try rw [hW1'])
  clear hW1 hW1' t13 TX
  have t0 : W1.cell? ⟨B, 0, none⟩ = some (.int .u32 (pc : Int)) := K2.out.cell 0
  have ft0 : W1.frozen? ⟨B, 0, none⟩ = false := K2.out.frozen 0
  have j4 : W1.cell? ⟨w.heap.size, 4, none⟩ = some (.int .i32 imm) := I2.out.cell 4
  have F : Hid (RunP w B y R s why ep home (.pointer (some ⟨M, 0, none⟩)) epoch ow nS nT nA nW (.returned (.tuple #[])) (W1.setCell ⟨B, 0, none⟩ (.int .u32 (y : Int)))) := Lib.hid ⟨rfl, by
    have k := Blk.set_ K2.out 0 (.int .u32 (y : Int))
    unfold RunB
    simpa using k, U2.out.setCell 0 _⟩
  clear K1 I1 U1 K2 U2 I2 GC M1 i0
  go_wp2_with fail
  refine bodyPost_ret (v := .tuple #[]) (by simp [results, Try.results45, go_sem, *]) rfl ?_
  exact F.out
set_option maxRecDepth 100000 in
set_option maxHeartbeats 8000000 in
theorem jump_21_empty (w : World) (B pc : Nat) (R : Nat → Nat) (s : Value) (why ep home : Nat) (M g h c d cd : Nat) (G : Nat → Nat) (T : List Page) (L : List Nat) (epoch ow : Nat) (nS nT : Bool) (nA nW : Nat) (K : RunB w B pc R s why ep home (.pointer (some ⟨M, 0, none⟩)) epoch ow nS nT nA nW) (m : Mem w M g h c d cd G T L) (rd ra rb : Nat) (imm : Int) (hd : rd < 8) (ha : ra < 8) (tg : Nat) (tb : Bool) (TG : ∀ W, Calls Try.prog 77 #[.int .u32 (pc : Int), .agg #[.int .u8 21, .int .u8 (rd : Int), .int .u8 (ra : Int), .int .u8 (rb : Int), .int .i32 imm]] W fun e w' => e = .returned (.tuple #[.int .u32 (tg : Int), .bool tb]) ∧ Below W.heap.size W w') (gq r8 : Nat) (hgq : Int.tdiv imm 8 = (gq : Int)) (hr8 : Int.tmod imm 8 = (r8 : Int)) (h0 : 0 ≤ imm) (h63 : imm ≤ 63) (hq8 : gq < 8) (hr : r8 < 8) (hz : G gq = 0) (src : Option Addr) (cap : Nat) (hs : s = .slice src 0 cap) :
    Calls Try.prog 45 #[.pointer (some ⟨B, 0, none⟩), .agg #[.int .u8 21, .int .u8 (rd : Int), .int .u8 (ra : Int), .int .u8 (rb : Int), .int .i32 imm]] w fun e w' => RunP w B home R s why epoch home (.pointer (some ⟨M, 0, none⟩)) epoch ow true nT nA nW e w' := by
  unfold RunB at K
  have hwi := wrap_inc pc
  replace TG := Lib.hid TG
  have hw1 : IntKind.i64.wrap imm = imm := by unfold IntKind.wrap; simp [IntKind.bits, IntKind.signed]; omega
  have hw2 : IntKind.i64.wrap (gq : Int) = (gq : Int) := by unfold IntKind.wrap; simp [IntKind.bits, IntKind.signed]; omega
  have hw3 : IntKind.i32.wrap (r8 : Int) = (r8 : Int) := by unfold IntKind.wrap; simp [IntKind.bits, IntKind.signed]; omega
  have hw4 : IntKind.u32.wrap (r8 : Int) = (r8 : Int) := by rw [IntKind.wrap_u32]; omega
  have GC : ∀ W, Mem W M g h c d cd G T L → Calls Try.prog 79 #[.pointer (some ⟨M, 0, none⟩), .int .i64 (gq : Int)] W fun e w' => e = .returned (.int .u32 (G gq : Int)) ∧ w' = W := fun W q => by
    have := gate_c q (gq : Int)
    rw [if_pos ⟨by omega, by omega⟩, Int.toNat_natCast] at this
    exact this
  have hsum : ((G gq : Int) + (r8 : Int)) % 4294967296 = (((G gq + r8) % 4294967296 : Nat) : Int) := by omega
  have hsw : IntKind.u32.wrap ((G gq : Int) + (r8 : Int)) = (((G gq + r8) % 4294967296 : Nat) : Int) := by rw [IntKind.wrap_u32]; exact hsum
  rw [hz] at GC
  clear hsum hsw
  have PC := Lib.hid (fun W (k : RunB W B pc R s why ep home (.pointer (some ⟨M, 0, none⟩)) epoch ow nS nT nA nW) => pass_empty W B pc R s why ep home (.pointer (some ⟨M, 0, none⟩)) epoch ow nS nT nA nW src cap hs k 2)
  replace GC := Lib.hid GC
  have K0 : Hid (RunB (w.alloc (.cells #[.int .u8 21, .int .u8 (rd : Int), .int .u8 (ra : Int), .int .u8 (rb : Int), .int .i32 imm] 88)) B pc R s why ep home (.pointer (some ⟨M, 0, none⟩)) epoch ow nS nT nA nW) := Lib.hid (Blk.alloc K _)
  have M0 : Hid (Mem (w.alloc (.cells #[.int .u8 21, .int .u8 (rd : Int), .int .u8 (ra : Int), .int .u8 (rb : Int), .int .i32 imm] 88)) M g h c d cd G T L) := Lib.hid (m.alloc _)
  have I0 := Lib.hid (Blk.new w 88 #[.int .u8 21, .int .u8 (rd : Int), .int .u8 (ra : Int), .int .u8 (rb : Int), .int .i32 imm])
  have hB : B < w.heap.size := K.lt
  generalize hW : w.alloc (.cells #[.int .u8 21, .int .u8 (rd : Int), .int .u8 (ra : Int), .int .u8 (rb : Int), .int .i32 imm] 88) = W at K0 I0 M0
  have UW : Hid (Upd B w W) := Lib.hid (hW ▸ (Upd.refl B w).alloc _)
  have KW := Lib.hid hW
  clear hW K m
  have TX : Hid ((W.drew.cell? ⟨B, 0, none⟩ = some (.int .u32 (pc : Int))) ∧ W.drew.cell? ⟨w.heap.size, 0, none⟩ = some (.int .u8 21) ∧ W.drew.cell? ⟨w.heap.size, 1, none⟩ = some (.int .u8 (rd : Int)) ∧ W.drew.cell? ⟨w.heap.size, 2, none⟩ = some (.int .u8 (ra : Int)) ∧ W.drew.cell? ⟨w.heap.size, 3, none⟩ = some (.int .u8 (rb : Int)) ∧ W.drew.cell? ⟨w.heap.size, 4, none⟩ = some (.int .i32 imm)) := Lib.hid ⟨K0.out.cell 0, I0.out.cell 0, I0.out.cell 1, I0.out.cell 2, I0.out.cell 3, I0.out.cell 4⟩
  go_enter Try.func45, Try.ntmps45
  go_wp2_with fail
  (try rw [KW.out])
  go_region_held3 (fun w' => w'.cell? ⟨B, 0, none⟩ = some (.int .u32 (pc : Int)) ∧ w'.cell? ⟨w.heap.size, 0, none⟩ = some (.int .u8 21) ∧ w'.cell? ⟨w.heap.size, 1, none⟩ = some (.int .u8 (rd : Int)) ∧ w'.cell? ⟨w.heap.size, 2, none⟩ = some (.int .u8 (ra : Int)) ∧ w'.cell? ⟨w.heap.size, 3, none⟩ = some (.int .u8 (rb : Int)) ∧ w'.cell? ⟨w.heap.size, 4, none⟩ = some (.int .i32 imm)) (first | exact TX.out | (apply keep6 hb1; assumption) | go_keep) ((first | (go_at_call 77; (with_reducible refine (TG.out _).mono ?_); rintro e w1 ⟨rfl, hb1⟩)))
  have hb1 : Below W.heap.size W w1 := (below_drewN (Below.refl _ _) 1).trans hb1
  have K1 : Hid (RunB w1 B pc R s why ep home (.pointer (some ⟨M, 0, none⟩)) epoch ow nS nT nA nW) := Lib.hid (Blk.kept K0.out hb1)
  have M1 := Lib.hid (M0.out.kept hb1)
  have I1 := Lib.hid (I0.out.kept hb1)
  have U1 := Lib.hid (UW.out.then_ hb1)
  clear hb1 TX K0 I0 UW KW TG M0
  have i0 : w1.cell? ⟨w.heap.size, 0, none⟩ = some (.int .u8 21) := I1.out.cell 0
  have TX : Hid ((w1.drew.cell? ⟨B, 13, none⟩ = some (.pointer (some ⟨M, 0, none⟩))) ∧ w1.drew.cell? ⟨w.heap.size, 4, none⟩ = some (.int .i32 imm)) := Lib.hid ⟨K1.out.cell 13, I1.out.cell 4⟩
  have t13 : w1.cell? ⟨B, 13, none⟩ = some (.pointer (some ⟨M, 0, none⟩)) := K1.out.cell 13
  go_wp2_with fail
  go_region_held3 (fun w' => w'.cell? ⟨B, 13, none⟩ = some (.pointer (some ⟨M, 0, none⟩)) ∧ w'.cell? ⟨w.heap.size, 4, none⟩ = some (.int .i32 imm)) (first | exact TX.out | go_keep) ((first
    | (go_at_call 79; (with_reducible refine (GC.out _ ?_).mono ?_); (first | exact M1.out.drewN 1); rintro e w2 ⟨rfl, rfl⟩)))
  have K2 : Hid (RunB (w1.drewN 1) B pc R s why ep home (.pointer (some ⟨M, 0, none⟩)) epoch ow nS nT nA nW) := Lib.hid (Blk.drewN K1.out 1)
  have U2 : Hid (Upd B w (w1.drewN 1)) := Lib.hid (U1.out.drewN 1)
  have I2 := Lib.hid (I1.out.drewN 1)
  generalize hW1 : w1.drewN 1 = W1 at K2 U2 I2
  have hW1' : w1.drew = W1 := hW1
  (try rw [hW1'])
  clear hW1 hW1' t13 TX
  go_wp2_with fail
  refine (PC.out _ K2.out).mono ?_
  rintro e w2 ⟨rfl, k2, u2⟩
  have F : Hid (RunP w B home R s why epoch home (.pointer (some ⟨M, 0, none⟩)) epoch ow true nT nA nW (.returned (.tuple #[])) w2) := Lib.hid ⟨rfl, k2, U2.out.trans u2⟩
  clear K1 I1 U1 K2 U2 I2 PC GC M1 k2 u2 i0
  go_wp2_with fail
  refine bodyPost_ret (v := .tuple #[]) (by simp [results, Try.results45, go_sem, *]) rfl ?_
  exact F.out
set_option maxRecDepth 100000 in
set_option maxHeartbeats 8000000 in
theorem jump_21_full (w : World) (B pc : Nat) (R : Nat → Nat) (s : Value) (why ep home : Nat) (M g h c d cd : Nat) (G : Nat → Nat) (T : List Page) (L : List Nat) (epoch ow : Nat) (nS nT : Bool) (nA nW : Nat) (K : RunB w B pc R s why ep home (.pointer (some ⟨M, 0, none⟩)) epoch ow nS nT nA nW) (m : Mem w M g h c d cd G T L) (rd ra rb : Nat) (imm : Int) (hd : rd < 8) (ha : ra < 8) (tg : Nat) (tb : Bool) (TG : ∀ W, Calls Try.prog 77 #[.int .u32 (pc : Int), .agg #[.int .u8 21, .int .u8 (rd : Int), .int .u8 (ra : Int), .int .u8 (rb : Int), .int .i32 imm]] W fun e w' => e = .returned (.tuple #[.int .u32 (tg : Int), .bool tb]) ∧ Below W.heap.size W w') (gq r8 : Nat) (hgq : Int.tdiv imm 8 = (gq : Int)) (hr8 : Int.tmod imm 8 = (r8 : Int)) (h0 : 0 ≤ imm) (h63 : imm ≤ 63) (hq8 : gq < 8) (hr : r8 < 8) (hz : G gq = 0) (src : Option Addr) (n cap : Nat) (hs : s = .slice src n cap) (hn : 0 < n) :
    Calls Try.prog 45 #[.pointer (some ⟨B, 0, none⟩), .agg #[.int .u8 21, .int .u8 (rd : Int), .int .u8 (ra : Int), .int .u8 (rb : Int), .int .i32 imm]] w fun e w' => RunP w B pc R s 2 ep home (.pointer (some ⟨M, 0, none⟩)) epoch ow nS nT nA nW e w' := by
  unfold RunB at K
  have hwi := wrap_inc pc
  replace TG := Lib.hid TG
  have hw1 : IntKind.i64.wrap imm = imm := by unfold IntKind.wrap; simp [IntKind.bits, IntKind.signed]; omega
  have hw2 : IntKind.i64.wrap (gq : Int) = (gq : Int) := by unfold IntKind.wrap; simp [IntKind.bits, IntKind.signed]; omega
  have hw3 : IntKind.i32.wrap (r8 : Int) = (r8 : Int) := by unfold IntKind.wrap; simp [IntKind.bits, IntKind.signed]; omega
  have hw4 : IntKind.u32.wrap (r8 : Int) = (r8 : Int) := by rw [IntKind.wrap_u32]; omega
  have GC : ∀ W, Mem W M g h c d cd G T L → Calls Try.prog 79 #[.pointer (some ⟨M, 0, none⟩), .int .i64 (gq : Int)] W fun e w' => e = .returned (.int .u32 (G gq : Int)) ∧ w' = W := fun W q => by
    have := gate_c q (gq : Int)
    rw [if_pos ⟨by omega, by omega⟩, Int.toNat_natCast] at this
    exact this
  have hsum : ((G gq : Int) + (r8 : Int)) % 4294967296 = (((G gq + r8) % 4294967296 : Nat) : Int) := by omega
  have hsw : IntKind.u32.wrap ((G gq : Int) + (r8 : Int)) = (((G gq + r8) % 4294967296 : Nat) : Int) := by rw [IntKind.wrap_u32]; exact hsum
  rw [hz] at GC
  clear hsum hsw
  have PC := Lib.hid (fun W (k : RunB W B pc R s why ep home (.pointer (some ⟨M, 0, none⟩)) epoch ow nS nT nA nW) => pass_full W B pc R s why ep home (.pointer (some ⟨M, 0, none⟩)) epoch ow nS nT nA nW src n cap hs k 2 hn)
  replace GC := Lib.hid GC
  have K0 : Hid (RunB (w.alloc (.cells #[.int .u8 21, .int .u8 (rd : Int), .int .u8 (ra : Int), .int .u8 (rb : Int), .int .i32 imm] 88)) B pc R s why ep home (.pointer (some ⟨M, 0, none⟩)) epoch ow nS nT nA nW) := Lib.hid (Blk.alloc K _)
  have M0 : Hid (Mem (w.alloc (.cells #[.int .u8 21, .int .u8 (rd : Int), .int .u8 (ra : Int), .int .u8 (rb : Int), .int .i32 imm] 88)) M g h c d cd G T L) := Lib.hid (m.alloc _)
  have I0 := Lib.hid (Blk.new w 88 #[.int .u8 21, .int .u8 (rd : Int), .int .u8 (ra : Int), .int .u8 (rb : Int), .int .i32 imm])
  have hB : B < w.heap.size := K.lt
  generalize hW : w.alloc (.cells #[.int .u8 21, .int .u8 (rd : Int), .int .u8 (ra : Int), .int .u8 (rb : Int), .int .i32 imm] 88) = W at K0 I0 M0
  have UW : Hid (Upd B w W) := Lib.hid (hW ▸ (Upd.refl B w).alloc _)
  have KW := Lib.hid hW
  clear hW K m
  have TX : Hid ((W.drew.cell? ⟨B, 0, none⟩ = some (.int .u32 (pc : Int))) ∧ W.drew.cell? ⟨w.heap.size, 0, none⟩ = some (.int .u8 21) ∧ W.drew.cell? ⟨w.heap.size, 1, none⟩ = some (.int .u8 (rd : Int)) ∧ W.drew.cell? ⟨w.heap.size, 2, none⟩ = some (.int .u8 (ra : Int)) ∧ W.drew.cell? ⟨w.heap.size, 3, none⟩ = some (.int .u8 (rb : Int)) ∧ W.drew.cell? ⟨w.heap.size, 4, none⟩ = some (.int .i32 imm)) := Lib.hid ⟨K0.out.cell 0, I0.out.cell 0, I0.out.cell 1, I0.out.cell 2, I0.out.cell 3, I0.out.cell 4⟩
  go_enter Try.func45, Try.ntmps45
  go_wp2_with fail
  (try rw [KW.out])
  go_region_held3 (fun w' => w'.cell? ⟨B, 0, none⟩ = some (.int .u32 (pc : Int)) ∧ w'.cell? ⟨w.heap.size, 0, none⟩ = some (.int .u8 21) ∧ w'.cell? ⟨w.heap.size, 1, none⟩ = some (.int .u8 (rd : Int)) ∧ w'.cell? ⟨w.heap.size, 2, none⟩ = some (.int .u8 (ra : Int)) ∧ w'.cell? ⟨w.heap.size, 3, none⟩ = some (.int .u8 (rb : Int)) ∧ w'.cell? ⟨w.heap.size, 4, none⟩ = some (.int .i32 imm)) (first | exact TX.out | (apply keep6 hb1; assumption) | go_keep) ((first | (go_at_call 77; (with_reducible refine (TG.out _).mono ?_); rintro e w1 ⟨rfl, hb1⟩)))
  have hb1 : Below W.heap.size W w1 := (below_drewN (Below.refl _ _) 1).trans hb1
  have K1 : Hid (RunB w1 B pc R s why ep home (.pointer (some ⟨M, 0, none⟩)) epoch ow nS nT nA nW) := Lib.hid (Blk.kept K0.out hb1)
  have M1 := Lib.hid (M0.out.kept hb1)
  have I1 := Lib.hid (I0.out.kept hb1)
  have U1 := Lib.hid (UW.out.then_ hb1)
  clear hb1 TX K0 I0 UW KW TG M0
  have i0 : w1.cell? ⟨w.heap.size, 0, none⟩ = some (.int .u8 21) := I1.out.cell 0
  have TX : Hid ((w1.drew.cell? ⟨B, 13, none⟩ = some (.pointer (some ⟨M, 0, none⟩))) ∧ w1.drew.cell? ⟨w.heap.size, 4, none⟩ = some (.int .i32 imm)) := Lib.hid ⟨K1.out.cell 13, I1.out.cell 4⟩
  have t13 : w1.cell? ⟨B, 13, none⟩ = some (.pointer (some ⟨M, 0, none⟩)) := K1.out.cell 13
  go_wp2_with fail
  go_region_held3 (fun w' => w'.cell? ⟨B, 13, none⟩ = some (.pointer (some ⟨M, 0, none⟩)) ∧ w'.cell? ⟨w.heap.size, 4, none⟩ = some (.int .i32 imm)) (first | exact TX.out | go_keep) ((first
    | (go_at_call 79; (with_reducible refine (GC.out _ ?_).mono ?_); (first | exact M1.out.drewN 1); rintro e w2 ⟨rfl, rfl⟩)))
  have K2 : Hid (RunB (w1.drewN 1) B pc R s why ep home (.pointer (some ⟨M, 0, none⟩)) epoch ow nS nT nA nW) := Lib.hid (Blk.drewN K1.out 1)
  have U2 : Hid (Upd B w (w1.drewN 1)) := Lib.hid (U1.out.drewN 1)
  have I2 := Lib.hid (I1.out.drewN 1)
  generalize hW1 : w1.drewN 1 = W1 at K2 U2 I2
  have hW1' : w1.drew = W1 := hW1
  (try rw [hW1'])
  clear hW1 hW1' t13 TX
  go_wp2_with fail
  refine (PC.out _ K2.out).mono ?_
  rintro e w2 ⟨rfl, k2, u2⟩
  have F : Hid (RunP w B pc R s 2 ep home (.pointer (some ⟨M, 0, none⟩)) epoch ow nS nT nA nW (.returned (.tuple #[])) w2) := Lib.hid ⟨rfl, k2, U2.out.trans u2⟩
  clear K1 I1 U1 K2 U2 I2 PC GC M1 k2 u2 i0
  go_wp2_with fail
  refine bodyPost_ret (v := .tuple #[]) (by simp [results, Try.results45, go_sem, *]) rfl ?_
  exact F.out
end Go.Proofs.Ythnbdeibjbicpaa.PM
