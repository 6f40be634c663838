/- budwoodref09's Step: Safe, Enter. Conditions: the cells. -/
import Derived.Test.YthnbdeibjbicpaaGreatStepB
import Derived.Deep.Cut
import Derived.Deep.RegionWith
namespace Go.Proofs.YthnbdeibjbicpaaGreat.PM
set_option linter.unusedVariables false
set_option linter.unusedSimpArgs false
open Go.RowKit
set_option maxRecDepth 100000 in
set_option maxHeartbeats 16000000 in
theorem rinstr_safe (w : World) (b cb e ce : Nat) (G : Nat → Nat) (T : List Page) (L : List Nat) (pc : Nat) (R : Nat → Nat) (S : List Nat) (ep home epoch why : Nat) (src : Option Addr) (cap : Nat) (r : RM w b e T L) (hS : Stk w src S) (hn : S.length < 35184372088832) (f0 f1 op rd ra rb : Nat) (imm : Int) (iu ga gd tgo : Nat) (tb : Bool) (hw : ((why : Int) != 0) = false) (FC : ∀ W, RM W b e T L → Calls Tryz.prog 34 #[.agg #[.int .u32 (G 0 : Int), .int .u32 (G 1 : Int), .int .u32 (G 2 : Int), .int .u32 (G 3 : Int), .int .u32 (G 4 : Int), .int .u32 (G 5 : Int), .int .u32 (G 6 : Int), .int .u32 (G 7 : Int), .slice (some ⟨b, 0, none⟩) T.length cb, .slice (some ⟨e, 0, none⟩) L.length ce], .int .u32 (pc : Int), .int .u64 (ep : Int)] W fun e w' => e = .returned (.tuple #[.int .u32 (f0 : Int), .int .u16 (f1 : Int), .bool true]) ∧ Below W.heap.size W w') (DC : ∀ W, Calls Tryz.prog 36 #[.int .u32 (f0 : Int)] W fun e w' => e = .returned (.tuple #[.agg #[.int .u8 (op : Int), .int .u8 (rd : Int), .int .u8 (ra : Int), .int .u8 (rb : Int), .int .i32 imm], .int .i64 0]) ∧ Below W.heap.size W w') (TG : ∀ W, Calls Tryz.prog 38 #[.int .u32 (pc : Int), .agg #[.int .u8 (op : Int), .int .u8 (rd : Int), .int .u8 (ra : Int), .int .u8 (rb : Int), .int .i32 imm]] W fun e w' => e = .returned (.tuple #[.int .u32 (tgo : Int), .bool tb]) ∧ Below W.heap.size W w') (hi : imm % 4294967296 = (iu : Int)) (hga : getR R ra = ga) (hgd : getR R rd = gd) (hra : ra < 8) (hrd : rd < 8) (gi gv ir pv : Nat) (GC : ∀ W, Calls Tryz.prog 44 #[.agg #[.int .u32 (G 0 : Int), .int .u32 (G 1 : Int), .int .u32 (G 2 : Int), .int .u32 (G 3 : Int), .int .u32 (G 4 : Int), .int .u32 (G 5 : Int), .int .u32 (G 6 : Int), .int .u32 (G 7 : Int), .slice (some ⟨b, 0, none⟩) T.length cb, .slice (some ⟨e, 0, none⟩) L.length ce], .int .i64 (gi : Int)] W fun e w' => e = .returned (.int .u32 (gv : Int)) ∧ Below W.heap.size W w') (hgq : op = 21 → wrap64 (Int.tdiv (wrap64 imm) 8) = (gi : Int)) (hr8 : op = 21 → Int.tmod (iu : Int) 8 = (ir : Int)) (hpv : IntKind.u32.wrap ((gv : Int) + (ir : Int)) = (pv : Int)) (o : Out) (hop : (op = 20 ∧ S = []) ∨ (op = 20 ∧ S ≠ []) ∨ (op = 21 ∧ gv = 0 ∧ S = []) ∨ (op = 21 ∧ gv = 0 ∧ S ≠ []) ∨ (op = 21 ∧ gv ≠ 0)) (ho0 : op = 20 ∧ S = [] → o = ⟨home, R, S, why, epoch, L, true, false, 0, 0⟩) (ho1 : op = 20 ∧ S ≠ [] → o = ⟨pc, R, S, 6, ep, L, false, false, 0, 0⟩) (ho2 : op = 21 ∧ gv = 0 ∧ S = [] → o = ⟨home, R, S, why, epoch, L, true, false, 0, 0⟩) (ho3 : op = 21 ∧ gv = 0 ∧ S ≠ [] → o = ⟨pc, R, S, 2, ep, L, false, false, 0, 0⟩) (ho4 : op = 21 ∧ gv ≠ 0 → o = ⟨pv, R, S, why, ep, L, false, false, 0, 0⟩) :
    Calls Tryz.prog 8 #[.agg #[.int .u32 (pc : Int), .int .u32 (R 0 : Int), .int .u32 (R 1 : Int), .int .u32 (R 2 : Int), .int .u32 (R 3 : Int), .int .u32 (R 4 : Int), .int .u32 (R 5 : Int), .int .u32 (R 6 : Int), .int .u32 (R 7 : Int), .slice src S.length cap, .int .u8 (why : Int), .int .u64 (ep : Int), .int .u32 (home : Int)], .agg #[.int .u32 (G 0 : Int), .int .u32 (G 1 : Int), .int .u32 (G 2 : Int), .int .u32 (G 3 : Int), .int .u32 (G 4 : Int), .int .u32 (G 5 : Int), .int .u32 (G 6 : Int), .int .u32 (G 7 : Int), .slice (some ⟨b, 0, none⟩) T.length cb, .slice (some ⟨e, 0, none⟩) L.length ce], .int .u64 (epoch : Int)] w fun en w' => RStep w b cb e G T home o en w' := by
  replace GC := Lib.hid GC
  replace hgq := Lib.hid hgq
  replace hr8 := Lib.hid hr8
  replace hpv := Lib.hid hpv
  have HOP := Lib.hid hop
  clear hop
  have RA : ∀ W s2 cap2, Calls Tryz.prog 37 #[.agg #[.int .u32 (pc : Int), .int .u32 (R 0 : Int), .int .u32 (R 1 : Int), .int .u32 (R 2 : Int), .int .u32 (R 3 : Int), .int .u32 (R 4 : Int), .int .u32 (R 5 : Int), .int .u32 (R 6 : Int), .int .u32 (R 7 : Int), .slice s2 S.length cap2, .int .u8 (why : Int), .int .u64 (ep : Int), .int .u32 (home : Int)], .int .u8 (ra : Int)] W fun e w' => e = .returned (.int .u32 (ga : Int)) ∧ Below W.heap.size W w' := fun W s2 cap2 => hga ▸ rr_c W pc R s2 S.length cap2 why ep home ra hra
  have RD : ∀ W s2 cap2, Calls Tryz.prog 37 #[.agg #[.int .u32 (pc : Int), .int .u32 (R 0 : Int), .int .u32 (R 1 : Int), .int .u32 (R 2 : Int), .int .u32 (R 3 : Int), .int .u32 (R 4 : Int), .int .u32 (R 5 : Int), .int .u32 (R 6 : Int), .int .u32 (R 7 : Int), .slice s2 S.length cap2, .int .u8 (why : Int), .int .u64 (ep : Int), .int .u32 (home : Int)], .int .u8 (rd : Int)] W fun e w' => e = .returned (.int .u32 (gd : Int)) ∧ Below W.heap.size W w' := fun W s2 cap2 => hgd ▸ rr_c W pc R s2 S.length cap2 why ep home rd hrd
  have le0 : e < w.heap.size := r.wds.lt
  replace hi : IntKind.u32.wrap imm = (iu : Int) := (IntKind.wrap_u32 imm).trans hi
  replace FC := Lib.hid FC
  replace DC := Lib.hid DC
  replace TG := Lib.hid TG
  replace RA := Lib.hid RA
  replace RD := Lib.hid RD
  replace le0 := Lib.hid le0
  replace hga := Lib.hid hga
  replace hgd := Lib.hid hgd
  have HN := Lib.hid hn
  have CC : ∀ W, Stk W src S → Calls Tryz.prog 6 #[.agg #[.int .u32 (pc : Int), .int .u32 (R 0 : Int), .int .u32 (R 1 : Int), .int .u32 (R 2 : Int), .int .u32 (R 3 : Int), .int .u32 (R 4 : Int), .int .u32 (R 5 : Int), .int .u32 (R 6 : Int), .int .u32 (R 7 : Int), .slice src S.length cap, .int .u8 (why : Int), .int .u64 (ep : Int), .int .u32 (home : Int)]] W fun e w' => Copied9 W pc R why ep home S e w' := fun W q => rcopy_c W pc R src cap why ep home S q hn
  replace CC := Lib.hid CC
  generalize hW : ((((w.alloc (.cells #[.int .u32 (pc : Int), .int .u32 (R 0 : Int), .int .u32 (R 1 : Int), .int .u32 (R 2 : Int), .int .u32 (R 3 : Int), .int .u32 (R 4 : Int), .int .u32 (R 5 : Int), .int .u32 (R 6 : Int), .int .u32 (R 7 : Int), .slice src S.length cap, .int .u8 (why : Int), .int .u64 (ep : Int), .int .u32 (home : Int)] 30)).alloc (.cells #[.int .u32 (G 0 : Int), .int .u32 (G 1 : Int), .int .u32 (G 2 : Int), .int .u32 (G 3 : Int), .int .u32 (G 4 : Int), .int .u32 (G 5 : Int), .int .u32 (G 6 : Int), .int .u32 (G 7 : Int), .slice (some ⟨b, 0, none⟩) T.length cb, .slice (some ⟨e, 0, none⟩) L.length ce] 36)).alloc (.cells #[.int .u32 0, .int .u32 0, .int .u32 0, .int .u32 0, .int .u32 0, .int .u32 0, .int .u32 0, .int .u32 0, .int .u32 0, .slice none 0 0, .int .u8 0, .int .u64 0, .int .u32 0] 30)).alloc (.cells #[.int .u32 0, .int .u32 0, .int .u32 0, .int .u32 0, .int .u32 0, .int .u32 0, .int .u32 0, .int .u32 0, .slice none 0 0, .slice none 0 0] 36)).alloc (.cells #[.bool false, .bool false, .int .u32 0, .int .u32 0] 44) = W0
  have BW : Hid (Below w.heap.size w W0) := Lib.hid (hW ▸ ((((((Below.refl _ w).alloc (Nat.le_refl _) _).alloc (by simp) _).alloc (by simp; omega) _).alloc (by simp; omega) _).alloc (by simp; omega) _))
  have KW := Lib.hid hW
  have HS := Lib.hid hS
  have RR := Lib.hid r
  clear hW hS r hn
  go_enter Tryz.func8, Tryz.ntmps8
  go_wp2_with fail
  (try rw [KW.out])
  refine (CC.out _ (HS.out.kept BW.out)).mono ?_
  rintro en w1 ⟨v, rfl, ow, hb⟩
  obtain ⟨s2, cap2, rfl, _⟩ := ow.form
  have RS0 := Lib.hid (rs_start KW.out RR.out hb ow)
  have RS1 : Hid (RS w (w1.setCells w.heap.size 0 [.int .u32 (pc : Int), .int .u32 (R 0 : Int), .int .u32 (R 1 : Int), .int .u32 (R 2 : Int), .int .u32 (R 3 : Int), .int .u32 (R 4 : Int), .int .u32 (R 5 : Int), .int .u32 (R 6 : Int), .int .u32 (R 7 : Int), .slice s2 S.length cap2, .int .u8 (why : Int), .int .u64 (ep : Int), .int .u32 (home : Int)]) #[.int .u32 (pc : Int), .int .u32 (R 0 : Int), .int .u32 (R 1 : Int), .int .u32 (R 2 : Int), .int .u32 (R 3 : Int), .int .u32 (R 4 : Int), .int .u32 (R 5 : Int), .int .u32 (R 6 : Int), .int .u32 (R 7 : Int), .slice s2 S.length cap2, .int .u8 (why : Int), .int .u64 (ep : Int), .int .u32 (home : Int)] #[.int .u32 (G 0 : Int), .int .u32 (G 1 : Int), .int .u32 (G 2 : Int), .int .u32 (G 3 : Int), .int .u32 (G 4 : Int), .int .u32 (G 5 : Int), .int .u32 (G 6 : Int), .int .u32 (G 7 : Int), .slice (some ⟨b, 0, none⟩) T.length cb, .slice (some ⟨e, 0, none⟩) L.length ce] (.slice s2 S.length cap2) S b e T L) := Lib.hid (RS0.out.all _ _ _ _ _ _ _ _ _ _ _ _ _)
  unfold hv
  clear ow hb CC BW RR HS
  obtain ⟨t0, ft0, t1, ft1, t2, ft2, t3, ft3, t4, ft4, t5, ft5, t6, ft6, t7, ft7, t8, ft8, t9, ft9, t10, ft10, t11, ft11, t12, ft12⟩ := blkf13 RS0.out.kh
  go_upto_region 2 with fail
  generalize hX1 : w1.setCells w.heap.size 0 [.int .u32 (pc : Int), .int .u32 (R 0 : Int), .int .u32 (R 1 : Int), .int .u32 (R 2 : Int), .int .u32 (R 3 : Int), .int .u32 (R 4 : Int), .int .u32 (R 5 : Int), .int .u32 (R 6 : Int), .int .u32 (R 7 : Int), .slice s2 S.length cap2, .int .u8 (why : Int), .int .u64 (ep : Int), .int .u32 (home : Int)] = X1 at RS1
  simp only [World.setCells, Nat.zero_add, Nat.reduceAdd] at hX1
  (try rw [hX1])
  clear hX1 RS0 KW t0 t1 t2 t3 t4 t5 t6 t7 t8 t9 t10 t11 t12 ft0 ft1 ft2 ft3 ft4 ft5 ft6 ft7 ft8 ft9 ft10 ft11 ft12
  have t0 : X1.cell? ⟨w.heap.size, 0, none⟩ = some (.int .u32 (pc : Int)) := RS1.out.kh.cell 0
  have t10 : X1.cell? ⟨w.heap.size, 10, none⟩ = some (.int .u8 (why : Int)) := RS1.out.kh.cell 10
  have t11 : X1.cell? ⟨w.heap.size, 11, none⟩ = some (.int .u64 (ep : Int)) := RS1.out.kh.cell 11
  obtain ⟨m0, m1, m2, m3, m4, m5, m6, m7, m8, m9⟩ := RS.mf (RS1.out)
  go_wp2_with fail
  refine (FC.out _ RS1.out.rm).mono ?_
  rintro en w3 ⟨rfl, hb⟩
  have RS3 := Lib.hid (RS1.out.kept hb)
  clear hb RS1 t0 t10 t11 m0 m1 m2 m3 m4 m5 m6 m7 m8 m9
  go_wp2_with fail
  refine (DC.out _).mono ?_
  rintro en w4 ⟨rfl, hb⟩
  go_upto_region 10 with fail
  generalize hX4 : w4.alloc (.cells #[.int .u8 (op : Int), .int .u8 (rd : Int), .int .u8 (ra : Int), .int .u8 (rb : Int), .int .i32 imm] 78) = X4
  have RS4 : Hid (RS w X4 #[.int .u32 (pc : Int), .int .u32 (R 0 : Int), .int .u32 (R 1 : Int), .int .u32 (R 2 : Int), .int .u32 (R 3 : Int), .int .u32 (R 4 : Int), .int .u32 (R 5 : Int), .int .u32 (R 6 : Int), .int .u32 (R 7 : Int), .slice s2 S.length cap2, .int .u8 (why : Int), .int .u64 (ep : Int), .int .u32 (home : Int)] #[.int .u32 (G 0 : Int), .int .u32 (G 1 : Int), .int .u32 (G 2 : Int), .int .u32 (G 3 : Int), .int .u32 (G 4 : Int), .int .u32 (G 5 : Int), .int .u32 (G 6 : Int), .int .u32 (G 7 : Int), .slice (some ⟨b, 0, none⟩) T.length cb, .slice (some ⟨e, 0, none⟩) L.length ce] (.slice s2 S.length cap2) S b e T L) := Lib.hid (hX4 ▸ (RS3.out.kept hb).alloc _)
  have KI : Hid (Blk X4 w4.heap.size 78 #[.int .u8 (op : Int), .int .u8 (rd : Int), .int .u8 (ra : Int), .int .u8 (rb : Int), .int .i32 imm]) := Lib.hid (hX4 ▸ Blk.new w4 _ _)
  (try rw [hX4])
  have LI : w.heap.size + 5 ≤ w4.heap.size := by have := (RS3.out.kept hb).k8.lt; omega
  clear hX4 hb RS3
  have TX : Hid (X4.drew.cell? ⟨w.heap.size, 0, none⟩ = some (.int .u32 (pc : Int)) ∧ X4.drew.cell? ⟨w.heap.size, 1, none⟩ = some (.int .u32 (R 0 : Int)) ∧ X4.drew.cell? ⟨w.heap.size, 2, none⟩ = some (.int .u32 (R 1 : Int)) ∧ X4.drew.cell? ⟨w.heap.size, 3, none⟩ = some (.int .u32 (R 2 : Int)) ∧ X4.drew.cell? ⟨w.heap.size, 4, none⟩ = some (.int .u32 (R 3 : Int)) ∧ X4.drew.cell? ⟨w.heap.size, 5, none⟩ = some (.int .u32 (R 4 : Int)) ∧ X4.drew.cell? ⟨w.heap.size, 6, none⟩ = some (.int .u32 (R 5 : Int)) ∧ X4.drew.cell? ⟨w.heap.size, 7, none⟩ = some (.int .u32 (R 6 : Int)) ∧ X4.drew.cell? ⟨w.heap.size, 8, none⟩ = some (.int .u32 (R 7 : Int)) ∧ X4.drew.cell? ⟨w.heap.size, 9, none⟩ = some (.slice s2 S.length cap2) ∧ X4.drew.cell? ⟨w.heap.size, 10, none⟩ = some (.int .u8 (why : Int)) ∧ X4.drew.cell? ⟨w.heap.size, 11, none⟩ = some (.int .u64 (ep : Int)) ∧ X4.drew.cell? ⟨w.heap.size, 12, none⟩ = some (.int .u32 (home : Int)) ∧ X4.drew.cell? ⟨w4.heap.size, 1, none⟩ = some (.int .u8 (rd : Int)) ∧ X4.drew.cell? ⟨w4.heap.size, 2, none⟩ = some (.int .u8 (ra : Int)) ∧ X4.drew.cell? ⟨w4.heap.size, 4, none⟩ = some (.int .i32 imm)) := Lib.hid ⟨RS4.out.kh.cell 0, RS4.out.kh.cell 1, RS4.out.kh.cell 2, RS4.out.kh.cell 3, RS4.out.kh.cell 4, RS4.out.kh.cell 5, RS4.out.kh.cell 6, RS4.out.kh.cell 7, RS4.out.kh.cell 8, RS4.out.kh.cell 9, RS4.out.kh.cell 10, RS4.out.kh.cell 11, RS4.out.kh.cell 12, KI.out.cell 1, KI.out.cell 2, KI.out.cell 4⟩
  go_region_held3 (fun w' => w'.cell? ⟨w.heap.size, 0, none⟩ = some (.int .u32 (pc : Int)) ∧ w'.cell? ⟨w.heap.size, 1, none⟩ = some (.int .u32 (R 0 : Int)) ∧ w'.cell? ⟨w.heap.size, 2, none⟩ = some (.int .u32 (R 1 : Int)) ∧ w'.cell? ⟨w.heap.size, 3, none⟩ = some (.int .u32 (R 2 : Int)) ∧ w'.cell? ⟨w.heap.size, 4, none⟩ = some (.int .u32 (R 3 : Int)) ∧ w'.cell? ⟨w.heap.size, 5, none⟩ = some (.int .u32 (R 4 : Int)) ∧ w'.cell? ⟨w.heap.size, 6, none⟩ = some (.int .u32 (R 5 : Int)) ∧ w'.cell? ⟨w.heap.size, 7, none⟩ = some (.int .u32 (R 6 : Int)) ∧ w'.cell? ⟨w.heap.size, 8, none⟩ = some (.int .u32 (R 7 : Int)) ∧ w'.cell? ⟨w.heap.size, 9, none⟩ = some (.slice s2 S.length cap2) ∧ w'.cell? ⟨w.heap.size, 10, none⟩ = some (.int .u8 (why : Int)) ∧ w'.cell? ⟨w.heap.size, 11, none⟩ = some (.int .u64 (ep : Int)) ∧ w'.cell? ⟨w.heap.size, 12, none⟩ = some (.int .u32 (home : Int)) ∧ w'.cell? ⟨w4.heap.size, 1, none⟩ = some (.int .u8 (rd : Int)) ∧ w'.cell? ⟨w4.heap.size, 2, none⟩ = some (.int .u8 (ra : Int)) ∧ w'.cell? ⟨w4.heap.size, 4, none⟩ = some (.int .i32 imm)) (first | exact TX.out | (apply keep16s hb6; assumption) | (apply keep16s hb5; assumption) | go_keep) ((first
    | (go_at_call 37; (with_reducible refine (RA.out _ _ _).mono ?_); rintro en v5 ⟨rfl, hb5⟩; have B5 := Lib.hid ((below_drewN (Below.refl _ X4) 1).trans (hb5.mono (below_drewN (Below.refl X4.heap.size X4) 1).size)))
    | (go_at_call 37; (with_reducible refine (RD.out _ _ _).mono ?_); rintro en v6 ⟨rfl, hb6⟩; have B6 := Lib.hid (B5.out.trans (hb6.mono B5.out.size)))))
  have RS6 := Lib.hid (RS4.out.kept B6.out)
  have KI6 := Lib.hid (KI.out.kept B6.out)
  clear hb5 hb6 B5 B6 RS4 KI TX RA RD
  have t0 : v6.cell? ⟨w.heap.size, 0, none⟩ = some (.int .u32 (pc : Int)) := RS6.out.kh.cell 0
  have i0 : v6.cell? ⟨w4.heap.size, 0, none⟩ = some (.int .u8 (op : Int)) := KI6.out.cell 0
  have i1 : v6.cell? ⟨w4.heap.size, 1, none⟩ = some (.int .u8 (rd : Int)) := KI6.out.cell 1
  have i2 : v6.cell? ⟨w4.heap.size, 2, none⟩ = some (.int .u8 (ra : Int)) := KI6.out.cell 2
  have i3 : v6.cell? ⟨w4.heap.size, 3, none⟩ = some (.int .u8 (rb : Int)) := KI6.out.cell 3
  have i4 : v6.cell? ⟨w4.heap.size, 4, none⟩ = some (.int .i32 imm) := KI6.out.cell 4
  go_wp2_with fail
  refine (TG.out _).mono ?_
  rintro en w7 ⟨rfl, hb⟩
  have RS7 := Lib.hid (RS6.out.kept hb)
  have KI7 := Lib.hid (KI6.out.kept hb)
  clear hb RS6 KI6 TG t0 i0 i1 i2 i3 i4
  have i0 : w7.cell? ⟨w4.heap.size, 0, none⟩ = some (.int .u8 (op : Int)) := KI7.out.cell 0
  rcases HOP.out with hop | hop | hop | hop | hop
  · have HO := Lib.hid (ho0 hop)
    clear ho0 ho1 ho2 ho3 ho4
    obtain ⟨hop, hs0⟩ := hop
    have HL : Hid (S.length = 0) := Lib.hid (by rw [hs0]; rfl)
    clear hs0
    have q0 : ((op : Int) == 0) = false := by rw [beq_eq_false_iff_ne]; omega
    have q1 : ((op : Int) == 1) = false := by rw [beq_eq_false_iff_ne]; omega
    have q2 : ((op : Int) == 2) = false := by rw [beq_eq_false_iff_ne]; omega
    have q11 : ((op : Int) == 11) = false := by rw [beq_eq_false_iff_ne]; omega
    have q12 : ((op : Int) == 12) = false := by rw [beq_eq_false_iff_ne]; omega
    have q13 : ((op : Int) == 13) = false := by rw [beq_eq_false_iff_ne]; omega
    have q15 : ((op : Int) == 15) = false := by rw [beq_eq_false_iff_ne]; omega
    have q16 : ((op : Int) == 16) = false := by rw [beq_eq_false_iff_ne]; omega
    have q14 : ((op : Int) == 14) = false := by rw [beq_eq_false_iff_ne]; omega
    have q17 : ((op : Int) == 17) = false := by rw [beq_eq_false_iff_ne]; omega
    have q18 : ((op : Int) == 18) = false := by rw [beq_eq_false_iff_ne]; omega
    have q19 : ((op : Int) == 19) = false := by rw [beq_eq_false_iff_ne]; omega
    have q20 : ((op : Int) == 20) = true := by rw [beq_iff_eq]; omega
    clear hop
    go_upto_region 57 with fail
    clear i0
    have SF : ∀ W, Calls Tryz.prog 43 #[.agg #[.int .u32 (pc : Int), .int .u32 (R 0 : Int), .int .u32 (R 1 : Int), .int .u32 (R 2 : Int), .int .u32 (R 3 : Int), .int .u32 (R 4 : Int), .int .u32 (R 5 : Int), .int .u32 (R 6 : Int), .int .u32 (R 7 : Int), .slice s2 0 cap2, .int .u8 (why : Int), .int .u64 (ep : Int), .int .u32 (home : Int)], .int .u64 (epoch : Int), .int .u8 6] W fun e w' => e = .returned (.tuple #[.agg #[.int .u32 (home : Int), .int .u32 (R 0 : Int), .int .u32 (R 1 : Int), .int .u32 (R 2 : Int), .int .u32 (R 3 : Int), .int .u32 (R 4 : Int), .int .u32 (R 5 : Int), .int .u32 (R 6 : Int), .int .u32 (R 7 : Int), .slice s2 0 cap2, .int .u8 (why : Int), .int .u64 (epoch : Int), .int .u32 (home : Int)], .agg #[.bool true, .bool false, .int .u32 0, .int .u32 0]]) ∧ Below W.heap.size W w' := fun W => rsafe_empty W pc R s2 cap2 why ep home epoch 6
    obtain ⟨t0, t1, t2, t3, t4, t5, t6, t7, t8, t9, t10, t11, t12⟩ := RS.hf (RS7.out)
    rw [HL.out] at t9
    replace SF := Lib.hid SF
    go_wp2_with fail
    refine (SF.out _).mono ?_
    rintro en w8 ⟨rfl, hb⟩
    have RS8 : Hid (RS w ((w8.alloc (.cells #[.int .u32 (home : Int), .int .u32 (R 0 : Int), .int .u32 (R 1 : Int), .int .u32 (R 2 : Int), .int .u32 (R 3 : Int), .int .u32 (R 4 : Int), .int .u32 (R 5 : Int), .int .u32 (R 6 : Int), .int .u32 (R 7 : Int), .slice s2 0 cap2, .int .u8 (why : Int), .int .u64 (epoch : Int), .int .u32 (home : Int)] 30)).alloc (.cells #[.bool true, .bool false, .int .u32 0, .int .u32 0] 44)) #[.int .u32 (pc : Int), .int .u32 (R 0 : Int), .int .u32 (R 1 : Int), .int .u32 (R 2 : Int), .int .u32 (R 3 : Int), .int .u32 (R 4 : Int), .int .u32 (R 5 : Int), .int .u32 (R 6 : Int), .int .u32 (R 7 : Int), .slice s2 S.length cap2, .int .u8 (why : Int), .int .u64 (ep : Int), .int .u32 (home : Int)] #[.int .u32 (G 0 : Int), .int .u32 (G 1 : Int), .int .u32 (G 2 : Int), .int .u32 (G 3 : Int), .int .u32 (G 4 : Int), .int .u32 (G 5 : Int), .int .u32 (G 6 : Int), .int .u32 (G 7 : Int), .slice (some ⟨b, 0, none⟩) T.length cb, .slice (some ⟨e, 0, none⟩) L.length ce] (.slice s2 S.length cap2) S b e T L) := Lib.hid (((RS7.out.kept hb).alloc _).alloc _)
    have KA : Hid (Blk ((w8.alloc (.cells #[.int .u32 (home : Int), .int .u32 (R 0 : Int), .int .u32 (R 1 : Int), .int .u32 (R 2 : Int), .int .u32 (R 3 : Int), .int .u32 (R 4 : Int), .int .u32 (R 5 : Int), .int .u32 (R 6 : Int), .int .u32 (R 7 : Int), .slice s2 0 cap2, .int .u8 (why : Int), .int .u64 (epoch : Int), .int .u32 (home : Int)] 30)).alloc (.cells #[.bool true, .bool false, .int .u32 0, .int .u32 0] 44)) w8.heap.size 30 #[.int .u32 (home : Int), .int .u32 (R 0 : Int), .int .u32 (R 1 : Int), .int .u32 (R 2 : Int), .int .u32 (R 3 : Int), .int .u32 (R 4 : Int), .int .u32 (R 5 : Int), .int .u32 (R 6 : Int), .int .u32 (R 7 : Int), .slice s2 0 cap2, .int .u8 (why : Int), .int .u64 (epoch : Int), .int .u32 (home : Int)]) := Lib.hid ((Blk.new w8 _ _).alloc _)
    have KB : Hid (Blk ((w8.alloc (.cells #[.int .u32 (home : Int), .int .u32 (R 0 : Int), .int .u32 (R 1 : Int), .int .u32 (R 2 : Int), .int .u32 (R 3 : Int), .int .u32 (R 4 : Int), .int .u32 (R 5 : Int), .int .u32 (R 6 : Int), .int .u32 (R 7 : Int), .slice s2 0 cap2, .int .u8 (why : Int), .int .u64 (epoch : Int), .int .u32 (home : Int)] 30)).alloc (.cells #[.bool true, .bool false, .int .u32 0, .int .u32 0] 44)) (w8.heap.size + 1) 44 #[.bool true, .bool false, .int .u32 0, .int .u32 0]) := Lib.hid (by
      have q := Blk.new (w8.alloc (.cells #[.int .u32 (home : Int), .int .u32 (R 0 : Int), .int .u32 (R 1 : Int), .int .u32 (R 2 : Int), .int .u32 (R 3 : Int), .int .u32 (R 4 : Int), .int .u32 (R 5 : Int), .int .u32 (R 6 : Int), .int .u32 (R 7 : Int), .slice s2 0 cap2, .int .u8 (why : Int), .int .u64 (epoch : Int), .int .u32 (home : Int)] 30)) 44 #[.bool true, .bool false, .int .u32 0, .int .u32 0]
      have z : (w8.alloc (.cells #[.int .u32 (home : Int), .int .u32 (R 0 : Int), .int .u32 (R 1 : Int), .int .u32 (R 2 : Int), .int .u32 (R 3 : Int), .int .u32 (R 4 : Int), .int .u32 (R 5 : Int), .int .u32 (R 6 : Int), .int .u32 (R 7 : Int), .slice s2 0 cap2, .int .u8 (why : Int), .int .u64 (epoch : Int), .int .u32 (home : Int)] 30)).heap.size = w8.heap.size + 1 := by simp
      rw [z] at q
      exact q)
    have L8 : w.heap.size + 5 ≤ w8.heap.size := by have := (RS7.out.kept hb).k8.lt; omega
    clear hb RS7 t0 t1 t2 t3 t4 t5 t6 t7 t8 t9 t10 t11 t12
    go_upto_region 58 with fail
    generalize hX8 : (w8.alloc (.cells #[.int .u32 (home : Int), .int .u32 (R 0 : Int), .int .u32 (R 1 : Int), .int .u32 (R 2 : Int), .int .u32 (R 3 : Int), .int .u32 (R 4 : Int), .int .u32 (R 5 : Int), .int .u32 (R 6 : Int), .int .u32 (R 7 : Int), .slice s2 0 cap2, .int .u8 (why : Int), .int .u64 (epoch : Int), .int .u32 (home : Int)] 30)).alloc (.cells #[.bool true, .bool false, .int .u32 0, .int .u32 0] 44) = X8 at RS8 KA KB
    (try rw [hX8])
    clear hX8
    have FF : Hid (∀ v6 v7 v8, RStep w b cb e G T home o (.returned (.tuple #[.agg #[.int .u32 (home : Int), .int .u32 (R 0 : Int), .int .u32 (R 1 : Int), .int .u32 (R 2 : Int), .int .u32 (R 3 : Int), .int .u32 (R 4 : Int), .int .u32 (R 5 : Int), .int .u32 (R 6 : Int), .int .u32 (R 7 : Int), .slice s2 0 cap2, .int .u8 (why : Int), .int .u64 (epoch : Int), .int .u32 (home : Int)], .agg #[.int .u32 (G 0 : Int), .int .u32 (G 1 : Int), .int .u32 (G 2 : Int), .int .u32 (G 3 : Int), .int .u32 (G 4 : Int), .int .u32 (G 5 : Int), .int .u32 (G 6 : Int), .int .u32 (G 7 : Int), .slice (some ⟨b, 0, none⟩) T.length cb, .slice (some ⟨e, 0, none⟩) L.length ce], .agg #[.bool true, .bool false, .int .u32 0, .int .u32 0]])) ((((X8.setCells (w.heap.size + 2) 0 v6).setCells (w.heap.size + 3) 0 v7).setCells (w.heap.size + 4) 0 v8).drewN 1)) := Lib.hid fun v6 v7 v8 => by
      rw [HO.out]
      obtain ⟨q1, q2, q3⟩ := RS8.out.fin (Below.refl _ _) v6 v7 v8
      rw [HL.out] at q1
      exact ⟨.slice s2 0 cap2, e, ce, rfl, q1.kept (below_drewN (Below.refl _ _) 1), q2.drewN 1, .inl rfl, below_drewN q3 1⟩
    obtain ⟨a0, a1, a2, a3, a4, a5, a6, a7, a8, a9, a10, a11, a12⟩ := blkc13 KA.out
    obtain ⟨o0, o1, o2, o3⟩ := blkc4 KB.out
    have dn0 : ¬ (w8.heap.size = w.heap.size) := by omega
    have dm0 : ¬ (w.heap.size = w8.heap.size) := by omega
    have dn1 : ¬ (w8.heap.size = w.heap.size + 1) := by omega
    have dm1 : ¬ (w.heap.size + 1 = w8.heap.size) := by omega
    have dn2 : ¬ (w8.heap.size = w.heap.size + 1 + 1) := by omega
    have dm2 : ¬ (w.heap.size + 1 + 1 = w8.heap.size) := by omega
    have dn3 : ¬ (w8.heap.size = w.heap.size + 1 + 1 + 1) := by omega
    have dm3 : ¬ (w.heap.size + 1 + 1 + 1 = w8.heap.size) := by omega
    have dn4 : ¬ (w8.heap.size = w.heap.size + 1 + 1 + 1 + 1) := by omega
    have dm4 : ¬ (w.heap.size + 1 + 1 + 1 + 1 = w8.heap.size) := by omega
    obtain ⟨m0, m1, m2, m3, m4, m5, m6, m7, m8, m9⟩ := RS.mf (RS8.out)
    obtain ⟨z0, fz0, z1, fz1, z2, fz2, z3, fz3, z4, fz4, z5, fz5, z6, fz6, z7, fz7, z8, fz8, z9, fz9, z10, fz10, z11, fz11, z12, fz12, y0, fy0, y1, fy1, y2, fy2, y3, fy3, y4, fy4, y5, fy5, y6, fy6, y7, fy7, y8, fy8, y9, fy9, n0, fn0, n1, fn1, n2, fn2, n3, fn3⟩ := RS.rf (RS8.out)
    clear RS8
    go_region
    all_goals
      go_wp2_with fail
      refine bodyPost_ret (v := .tuple #[.agg #[.int .u32 (home : Int), .int .u32 (R 0 : Int), .int .u32 (R 1 : Int), .int .u32 (R 2 : Int), .int .u32 (R 3 : Int), .int .u32 (R 4 : Int), .int .u32 (R 5 : Int), .int .u32 (R 6 : Int), .int .u32 (R 7 : Int), .slice s2 0 cap2, .int .u8 (why : Int), .int .u64 (epoch : Int), .int .u32 (home : Int)], .agg #[.int .u32 (G 0 : Int), .int .u32 (G 1 : Int), .int .u32 (G 2 : Int), .int .u32 (G 3 : Int), .int .u32 (G 4 : Int), .int .u32 (G 5 : Int), .int .u32 (G 6 : Int), .int .u32 (G 7 : Int), .slice (some ⟨b, 0, none⟩) T.length cb, .slice (some ⟨e, 0, none⟩) L.length ce], .agg #[.bool true, .bool false, .int .u32 0, .int .u32 0]]) (by simp [results, Tryz.results8, go_sem, *]) rfl ?_
      exact FF.out [.int .u32 (home : Int), .int .u32 (R 0 : Int), .int .u32 (R 1 : Int), .int .u32 (R 2 : Int), .int .u32 (R 3 : Int), .int .u32 (R 4 : Int), .int .u32 (R 5 : Int), .int .u32 (R 6 : Int), .int .u32 (R 7 : Int), .slice s2 0 cap2, .int .u8 (why : Int), .int .u64 (epoch : Int), .int .u32 (home : Int)] [.int .u32 (G 0 : Int), .int .u32 (G 1 : Int), .int .u32 (G 2 : Int), .int .u32 (G 3 : Int), .int .u32 (G 4 : Int), .int .u32 (G 5 : Int), .int .u32 (G 6 : Int), .int .u32 (G 7 : Int), .slice (some ⟨b, 0, none⟩) T.length cb, .slice (some ⟨e, 0, none⟩) L.length ce] [.bool true, .bool false, .int .u32 0, .int .u32 0]
  · have HO := Lib.hid (ho1 hop)
    clear ho0 ho1 ho2 ho3 ho4
    obtain ⟨hop, hs0⟩ := hop
    have HP : Hid (0 < S.length) := Lib.hid (List.length_pos_iff.2 hs0)
    clear hs0
    have q0 : ((op : Int) == 0) = false := by rw [beq_eq_false_iff_ne]; omega
    have q1 : ((op : Int) == 1) = false := by rw [beq_eq_false_iff_ne]; omega
    have q2 : ((op : Int) == 2) = false := by rw [beq_eq_false_iff_ne]; omega
    have q11 : ((op : Int) == 11) = false := by rw [beq_eq_false_iff_ne]; omega
    have q12 : ((op : Int) == 12) = false := by rw [beq_eq_false_iff_ne]; omega
    have q13 : ((op : Int) == 13) = false := by rw [beq_eq_false_iff_ne]; omega
    have q15 : ((op : Int) == 15) = false := by rw [beq_eq_false_iff_ne]; omega
    have q16 : ((op : Int) == 16) = false := by rw [beq_eq_false_iff_ne]; omega
    have q14 : ((op : Int) == 14) = false := by rw [beq_eq_false_iff_ne]; omega
    have q17 : ((op : Int) == 17) = false := by rw [beq_eq_false_iff_ne]; omega
    have q18 : ((op : Int) == 18) = false := by rw [beq_eq_false_iff_ne]; omega
    have q19 : ((op : Int) == 19) = false := by rw [beq_eq_false_iff_ne]; omega
    have q20 : ((op : Int) == 20) = true := by rw [beq_iff_eq]; omega
    clear hop
    go_upto_region 57 with fail
    clear i0
    have SF : ∀ W, Calls Tryz.prog 43 #[.agg #[.int .u32 (pc : Int), .int .u32 (R 0 : Int), .int .u32 (R 1 : Int), .int .u32 (R 2 : Int), .int .u32 (R 3 : Int), .int .u32 (R 4 : Int), .int .u32 (R 5 : Int), .int .u32 (R 6 : Int), .int .u32 (R 7 : Int), .slice s2 S.length cap2, .int .u8 (why : Int), .int .u64 (ep : Int), .int .u32 (home : Int)], .int .u64 (epoch : Int), .int .u8 6] W fun e w' => e = .returned (.tuple #[.agg #[.int .u32 (pc : Int), .int .u32 (R 0 : Int), .int .u32 (R 1 : Int), .int .u32 (R 2 : Int), .int .u32 (R 3 : Int), .int .u32 (R 4 : Int), .int .u32 (R 5 : Int), .int .u32 (R 6 : Int), .int .u32 (R 7 : Int), .slice s2 S.length cap2, .int .u8 6, .int .u64 (ep : Int), .int .u32 (home : Int)], .agg #[.bool false, .bool false, .int .u32 0, .int .u32 0]]) ∧ Below W.heap.size W w' := fun W => rsafe_full W pc R s2 S.length cap2 why ep home epoch 6 HP.out HN.out
    obtain ⟨t0, t1, t2, t3, t4, t5, t6, t7, t8, t9, t10, t11, t12⟩ := RS.hf (RS7.out)
    replace SF := Lib.hid SF
    go_wp2_with fail
    refine (SF.out _).mono ?_
    rintro en w8 ⟨rfl, hb⟩
    have RS8 : Hid (RS w ((w8.alloc (.cells #[.int .u32 (pc : Int), .int .u32 (R 0 : Int), .int .u32 (R 1 : Int), .int .u32 (R 2 : Int), .int .u32 (R 3 : Int), .int .u32 (R 4 : Int), .int .u32 (R 5 : Int), .int .u32 (R 6 : Int), .int .u32 (R 7 : Int), .slice s2 S.length cap2, .int .u8 6, .int .u64 (ep : Int), .int .u32 (home : Int)] 30)).alloc (.cells #[.bool false, .bool false, .int .u32 0, .int .u32 0] 44)) #[.int .u32 (pc : Int), .int .u32 (R 0 : Int), .int .u32 (R 1 : Int), .int .u32 (R 2 : Int), .int .u32 (R 3 : Int), .int .u32 (R 4 : Int), .int .u32 (R 5 : Int), .int .u32 (R 6 : Int), .int .u32 (R 7 : Int), .slice s2 S.length cap2, .int .u8 (why : Int), .int .u64 (ep : Int), .int .u32 (home : Int)] #[.int .u32 (G 0 : Int), .int .u32 (G 1 : Int), .int .u32 (G 2 : Int), .int .u32 (G 3 : Int), .int .u32 (G 4 : Int), .int .u32 (G 5 : Int), .int .u32 (G 6 : Int), .int .u32 (G 7 : Int), .slice (some ⟨b, 0, none⟩) T.length cb, .slice (some ⟨e, 0, none⟩) L.length ce] (.slice s2 S.length cap2) S b e T L) := Lib.hid (((RS7.out.kept hb).alloc _).alloc _)
    have KA : Hid (Blk ((w8.alloc (.cells #[.int .u32 (pc : Int), .int .u32 (R 0 : Int), .int .u32 (R 1 : Int), .int .u32 (R 2 : Int), .int .u32 (R 3 : Int), .int .u32 (R 4 : Int), .int .u32 (R 5 : Int), .int .u32 (R 6 : Int), .int .u32 (R 7 : Int), .slice s2 S.length cap2, .int .u8 6, .int .u64 (ep : Int), .int .u32 (home : Int)] 30)).alloc (.cells #[.bool false, .bool false, .int .u32 0, .int .u32 0] 44)) w8.heap.size 30 #[.int .u32 (pc : Int), .int .u32 (R 0 : Int), .int .u32 (R 1 : Int), .int .u32 (R 2 : Int), .int .u32 (R 3 : Int), .int .u32 (R 4 : Int), .int .u32 (R 5 : Int), .int .u32 (R 6 : Int), .int .u32 (R 7 : Int), .slice s2 S.length cap2, .int .u8 6, .int .u64 (ep : Int), .int .u32 (home : Int)]) := Lib.hid ((Blk.new w8 _ _).alloc _)
    have KB : Hid (Blk ((w8.alloc (.cells #[.int .u32 (pc : Int), .int .u32 (R 0 : Int), .int .u32 (R 1 : Int), .int .u32 (R 2 : Int), .int .u32 (R 3 : Int), .int .u32 (R 4 : Int), .int .u32 (R 5 : Int), .int .u32 (R 6 : Int), .int .u32 (R 7 : Int), .slice s2 S.length cap2, .int .u8 6, .int .u64 (ep : Int), .int .u32 (home : Int)] 30)).alloc (.cells #[.bool false, .bool false, .int .u32 0, .int .u32 0] 44)) (w8.heap.size + 1) 44 #[.bool false, .bool false, .int .u32 0, .int .u32 0]) := Lib.hid (by
      have q := Blk.new (w8.alloc (.cells #[.int .u32 (pc : Int), .int .u32 (R 0 : Int), .int .u32 (R 1 : Int), .int .u32 (R 2 : Int), .int .u32 (R 3 : Int), .int .u32 (R 4 : Int), .int .u32 (R 5 : Int), .int .u32 (R 6 : Int), .int .u32 (R 7 : Int), .slice s2 S.length cap2, .int .u8 6, .int .u64 (ep : Int), .int .u32 (home : Int)] 30)) 44 #[.bool false, .bool false, .int .u32 0, .int .u32 0]
      have z : (w8.alloc (.cells #[.int .u32 (pc : Int), .int .u32 (R 0 : Int), .int .u32 (R 1 : Int), .int .u32 (R 2 : Int), .int .u32 (R 3 : Int), .int .u32 (R 4 : Int), .int .u32 (R 5 : Int), .int .u32 (R 6 : Int), .int .u32 (R 7 : Int), .slice s2 S.length cap2, .int .u8 6, .int .u64 (ep : Int), .int .u32 (home : Int)] 30)).heap.size = w8.heap.size + 1 := by simp
      rw [z] at q
      exact q)
    have L8 : w.heap.size + 5 ≤ w8.heap.size := by have := (RS7.out.kept hb).k8.lt; omega
    clear hb RS7 t0 t1 t2 t3 t4 t5 t6 t7 t8 t9 t10 t11 t12
    go_upto_region 58 with fail
    generalize hX8 : (w8.alloc (.cells #[.int .u32 (pc : Int), .int .u32 (R 0 : Int), .int .u32 (R 1 : Int), .int .u32 (R 2 : Int), .int .u32 (R 3 : Int), .int .u32 (R 4 : Int), .int .u32 (R 5 : Int), .int .u32 (R 6 : Int), .int .u32 (R 7 : Int), .slice s2 S.length cap2, .int .u8 6, .int .u64 (ep : Int), .int .u32 (home : Int)] 30)).alloc (.cells #[.bool false, .bool false, .int .u32 0, .int .u32 0] 44) = X8 at RS8 KA KB
    (try rw [hX8])
    clear hX8
    have FF : Hid (∀ v6 v7 v8, RStep w b cb e G T home o (.returned (.tuple #[.agg #[.int .u32 (pc : Int), .int .u32 (R 0 : Int), .int .u32 (R 1 : Int), .int .u32 (R 2 : Int), .int .u32 (R 3 : Int), .int .u32 (R 4 : Int), .int .u32 (R 5 : Int), .int .u32 (R 6 : Int), .int .u32 (R 7 : Int), .slice s2 S.length cap2, .int .u8 6, .int .u64 (ep : Int), .int .u32 (home : Int)], .agg #[.int .u32 (G 0 : Int), .int .u32 (G 1 : Int), .int .u32 (G 2 : Int), .int .u32 (G 3 : Int), .int .u32 (G 4 : Int), .int .u32 (G 5 : Int), .int .u32 (G 6 : Int), .int .u32 (G 7 : Int), .slice (some ⟨b, 0, none⟩) T.length cb, .slice (some ⟨e, 0, none⟩) L.length ce], .agg #[.bool false, .bool false, .int .u32 0, .int .u32 0]])) ((((X8.setCells (w.heap.size + 2) 0 v6).setCells (w.heap.size + 3) 0 v7).setCells (w.heap.size + 4) 0 v8).drewN 1)) := Lib.hid fun v6 v7 v8 => by
      rw [HO.out]
      obtain ⟨q1, q2, q3⟩ := RS8.out.fin (Below.refl _ _) v6 v7 v8
      exact ⟨.slice s2 S.length cap2, e, ce, rfl, q1.kept (below_drewN (Below.refl _ _) 1), q2.drewN 1, .inl rfl, below_drewN q3 1⟩
    obtain ⟨a0, a1, a2, a3, a4, a5, a6, a7, a8, a9, a10, a11, a12⟩ := blkc13 KA.out
    obtain ⟨o0, o1, o2, o3⟩ := blkc4 KB.out
    have dn0 : ¬ (w8.heap.size = w.heap.size) := by omega
    have dm0 : ¬ (w.heap.size = w8.heap.size) := by omega
    have dn1 : ¬ (w8.heap.size = w.heap.size + 1) := by omega
    have dm1 : ¬ (w.heap.size + 1 = w8.heap.size) := by omega
    have dn2 : ¬ (w8.heap.size = w.heap.size + 1 + 1) := by omega
    have dm2 : ¬ (w.heap.size + 1 + 1 = w8.heap.size) := by omega
    have dn3 : ¬ (w8.heap.size = w.heap.size + 1 + 1 + 1) := by omega
    have dm3 : ¬ (w.heap.size + 1 + 1 + 1 = w8.heap.size) := by omega
    have dn4 : ¬ (w8.heap.size = w.heap.size + 1 + 1 + 1 + 1) := by omega
    have dm4 : ¬ (w.heap.size + 1 + 1 + 1 + 1 = w8.heap.size) := by omega
    obtain ⟨m0, m1, m2, m3, m4, m5, m6, m7, m8, m9⟩ := RS.mf (RS8.out)
    obtain ⟨z0, fz0, z1, fz1, z2, fz2, z3, fz3, z4, fz4, z5, fz5, z6, fz6, z7, fz7, z8, fz8, z9, fz9, z10, fz10, z11, fz11, z12, fz12, y0, fy0, y1, fy1, y2, fy2, y3, fy3, y4, fy4, y5, fy5, y6, fy6, y7, fy7, y8, fy8, y9, fy9, n0, fn0, n1, fn1, n2, fn2, n3, fn3⟩ := RS.rf (RS8.out)
    clear RS8
    go_region
    all_goals
      go_wp2_with fail
      refine bodyPost_ret (v := .tuple #[.agg #[.int .u32 (pc : Int), .int .u32 (R 0 : Int), .int .u32 (R 1 : Int), .int .u32 (R 2 : Int), .int .u32 (R 3 : Int), .int .u32 (R 4 : Int), .int .u32 (R 5 : Int), .int .u32 (R 6 : Int), .int .u32 (R 7 : Int), .slice s2 S.length cap2, .int .u8 6, .int .u64 (ep : Int), .int .u32 (home : Int)], .agg #[.int .u32 (G 0 : Int), .int .u32 (G 1 : Int), .int .u32 (G 2 : Int), .int .u32 (G 3 : Int), .int .u32 (G 4 : Int), .int .u32 (G 5 : Int), .int .u32 (G 6 : Int), .int .u32 (G 7 : Int), .slice (some ⟨b, 0, none⟩) T.length cb, .slice (some ⟨e, 0, none⟩) L.length ce], .agg #[.bool false, .bool false, .int .u32 0, .int .u32 0]]) (by simp [results, Tryz.results8, go_sem, *]) rfl ?_
      exact FF.out [.int .u32 (pc : Int), .int .u32 (R 0 : Int), .int .u32 (R 1 : Int), .int .u32 (R 2 : Int), .int .u32 (R 3 : Int), .int .u32 (R 4 : Int), .int .u32 (R 5 : Int), .int .u32 (R 6 : Int), .int .u32 (R 7 : Int), .slice s2 S.length cap2, .int .u8 6, .int .u64 (ep : Int), .int .u32 (home : Int)] [.int .u32 (G 0 : Int), .int .u32 (G 1 : Int), .int .u32 (G 2 : Int), .int .u32 (G 3 : Int), .int .u32 (G 4 : Int), .int .u32 (G 5 : Int), .int .u32 (G 6 : Int), .int .u32 (G 7 : Int), .slice (some ⟨b, 0, none⟩) T.length cb, .slice (some ⟨e, 0, none⟩) L.length ce] [.bool false, .bool false, .int .u32 0, .int .u32 0]
  · have HO := Lib.hid (ho2 hop)
    clear ho0 ho1 ho2 ho3 ho4
    obtain ⟨hop, hgz, hs0⟩ := hop
    have HL : Hid (S.length = 0) := Lib.hid (by rw [hs0]; rfl)
    clear hs0
    have q0 : ((op : Int) == 0) = false := by rw [beq_eq_false_iff_ne]; omega
    have q1 : ((op : Int) == 1) = false := by rw [beq_eq_false_iff_ne]; omega
    have q2 : ((op : Int) == 2) = false := by rw [beq_eq_false_iff_ne]; omega
    have q11 : ((op : Int) == 11) = false := by rw [beq_eq_false_iff_ne]; omega
    have q12 : ((op : Int) == 12) = false := by rw [beq_eq_false_iff_ne]; omega
    have q13 : ((op : Int) == 13) = false := by rw [beq_eq_false_iff_ne]; omega
    have q15 : ((op : Int) == 15) = false := by rw [beq_eq_false_iff_ne]; omega
    have q16 : ((op : Int) == 16) = false := by rw [beq_eq_false_iff_ne]; omega
    have q14 : ((op : Int) == 14) = false := by rw [beq_eq_false_iff_ne]; omega
    have q17 : ((op : Int) == 17) = false := by rw [beq_eq_false_iff_ne]; omega
    have q18 : ((op : Int) == 18) = false := by rw [beq_eq_false_iff_ne]; omega
    have q19 : ((op : Int) == 19) = false := by rw [beq_eq_false_iff_ne]; omega
    have q20 : ((op : Int) == 20) = false := by rw [beq_eq_false_iff_ne]; omega
    have q21 : ((op : Int) == 21) = true := by rw [beq_iff_eq]; omega
    have i4 : w7.cell? ⟨w4.heap.size, 4, none⟩ = some (.int .i32 imm) := KI7.out.cell 4
    have qg : ((gv : Int) == 0) = true := by rw [beq_iff_eq]; omega
    obtain ⟨m0, m1, m2, m3, m4, m5, m6, m7, m8, m9⟩ := RS.mf (RS7.out)
    have hgq' := hgq.out hop
    have HR8 := Lib.hid (hr8.out hop)
    clear hop hgz
    go_wp2_with fail
    refine (GC.out _).mono ?_
    rintro en wg ⟨rfl, hb⟩
    have RSG := Lib.hid (RS7.out.kept hb)
    clear hb RS7 KI7 i4 m0 m1 m2 m3 m4 m5 m6 m7 m8 m9 hgq'
    go_upto_region 62 with fail
    clear i0
    have SF : ∀ W, Calls Tryz.prog 43 #[.agg #[.int .u32 (pc : Int), .int .u32 (R 0 : Int), .int .u32 (R 1 : Int), .int .u32 (R 2 : Int), .int .u32 (R 3 : Int), .int .u32 (R 4 : Int), .int .u32 (R 5 : Int), .int .u32 (R 6 : Int), .int .u32 (R 7 : Int), .slice s2 0 cap2, .int .u8 (why : Int), .int .u64 (ep : Int), .int .u32 (home : Int)], .int .u64 (epoch : Int), .int .u8 2] W fun e w' => e = .returned (.tuple #[.agg #[.int .u32 (home : Int), .int .u32 (R 0 : Int), .int .u32 (R 1 : Int), .int .u32 (R 2 : Int), .int .u32 (R 3 : Int), .int .u32 (R 4 : Int), .int .u32 (R 5 : Int), .int .u32 (R 6 : Int), .int .u32 (R 7 : Int), .slice s2 0 cap2, .int .u8 (why : Int), .int .u64 (epoch : Int), .int .u32 (home : Int)], .agg #[.bool true, .bool false, .int .u32 0, .int .u32 0]]) ∧ Below W.heap.size W w' := fun W => rsafe_empty W pc R s2 cap2 why ep home epoch 2
    obtain ⟨t0, t1, t2, t3, t4, t5, t6, t7, t8, t9, t10, t11, t12⟩ := RS.hf (RSG.out)
    rw [HL.out] at t9
    replace SF := Lib.hid SF
    go_wp2_with fail
    refine (SF.out _).mono ?_
    rintro en w8 ⟨rfl, hb⟩
    have RS8 : Hid (RS w ((w8.alloc (.cells #[.int .u32 (home : Int), .int .u32 (R 0 : Int), .int .u32 (R 1 : Int), .int .u32 (R 2 : Int), .int .u32 (R 3 : Int), .int .u32 (R 4 : Int), .int .u32 (R 5 : Int), .int .u32 (R 6 : Int), .int .u32 (R 7 : Int), .slice s2 0 cap2, .int .u8 (why : Int), .int .u64 (epoch : Int), .int .u32 (home : Int)] 30)).alloc (.cells #[.bool true, .bool false, .int .u32 0, .int .u32 0] 44)) #[.int .u32 (pc : Int), .int .u32 (R 0 : Int), .int .u32 (R 1 : Int), .int .u32 (R 2 : Int), .int .u32 (R 3 : Int), .int .u32 (R 4 : Int), .int .u32 (R 5 : Int), .int .u32 (R 6 : Int), .int .u32 (R 7 : Int), .slice s2 S.length cap2, .int .u8 (why : Int), .int .u64 (ep : Int), .int .u32 (home : Int)] #[.int .u32 (G 0 : Int), .int .u32 (G 1 : Int), .int .u32 (G 2 : Int), .int .u32 (G 3 : Int), .int .u32 (G 4 : Int), .int .u32 (G 5 : Int), .int .u32 (G 6 : Int), .int .u32 (G 7 : Int), .slice (some ⟨b, 0, none⟩) T.length cb, .slice (some ⟨e, 0, none⟩) L.length ce] (.slice s2 S.length cap2) S b e T L) := Lib.hid (((RSG.out.kept hb).alloc _).alloc _)
    have KA : Hid (Blk ((w8.alloc (.cells #[.int .u32 (home : Int), .int .u32 (R 0 : Int), .int .u32 (R 1 : Int), .int .u32 (R 2 : Int), .int .u32 (R 3 : Int), .int .u32 (R 4 : Int), .int .u32 (R 5 : Int), .int .u32 (R 6 : Int), .int .u32 (R 7 : Int), .slice s2 0 cap2, .int .u8 (why : Int), .int .u64 (epoch : Int), .int .u32 (home : Int)] 30)).alloc (.cells #[.bool true, .bool false, .int .u32 0, .int .u32 0] 44)) w8.heap.size 30 #[.int .u32 (home : Int), .int .u32 (R 0 : Int), .int .u32 (R 1 : Int), .int .u32 (R 2 : Int), .int .u32 (R 3 : Int), .int .u32 (R 4 : Int), .int .u32 (R 5 : Int), .int .u32 (R 6 : Int), .int .u32 (R 7 : Int), .slice s2 0 cap2, .int .u8 (why : Int), .int .u64 (epoch : Int), .int .u32 (home : Int)]) := Lib.hid ((Blk.new w8 _ _).alloc _)
    have KB : Hid (Blk ((w8.alloc (.cells #[.int .u32 (home : Int), .int .u32 (R 0 : Int), .int .u32 (R 1 : Int), .int .u32 (R 2 : Int), .int .u32 (R 3 : Int), .int .u32 (R 4 : Int), .int .u32 (R 5 : Int), .int .u32 (R 6 : Int), .int .u32 (R 7 : Int), .slice s2 0 cap2, .int .u8 (why : Int), .int .u64 (epoch : Int), .int .u32 (home : Int)] 30)).alloc (.cells #[.bool true, .bool false, .int .u32 0, .int .u32 0] 44)) (w8.heap.size + 1) 44 #[.bool true, .bool false, .int .u32 0, .int .u32 0]) := Lib.hid (by
      have q := Blk.new (w8.alloc (.cells #[.int .u32 (home : Int), .int .u32 (R 0 : Int), .int .u32 (R 1 : Int), .int .u32 (R 2 : Int), .int .u32 (R 3 : Int), .int .u32 (R 4 : Int), .int .u32 (R 5 : Int), .int .u32 (R 6 : Int), .int .u32 (R 7 : Int), .slice s2 0 cap2, .int .u8 (why : Int), .int .u64 (epoch : Int), .int .u32 (home : Int)] 30)) 44 #[.bool true, .bool false, .int .u32 0, .int .u32 0]
      have z : (w8.alloc (.cells #[.int .u32 (home : Int), .int .u32 (R 0 : Int), .int .u32 (R 1 : Int), .int .u32 (R 2 : Int), .int .u32 (R 3 : Int), .int .u32 (R 4 : Int), .int .u32 (R 5 : Int), .int .u32 (R 6 : Int), .int .u32 (R 7 : Int), .slice s2 0 cap2, .int .u8 (why : Int), .int .u64 (epoch : Int), .int .u32 (home : Int)] 30)).heap.size = w8.heap.size + 1 := by simp
      rw [z] at q
      exact q)
    have L8 : w.heap.size + 5 ≤ w8.heap.size := by have := (RSG.out.kept hb).k8.lt; omega
    clear hb RSG t0 t1 t2 t3 t4 t5 t6 t7 t8 t9 t10 t11 t12
    go_upto_region 63 with fail
    generalize hX8 : (w8.alloc (.cells #[.int .u32 (home : Int), .int .u32 (R 0 : Int), .int .u32 (R 1 : Int), .int .u32 (R 2 : Int), .int .u32 (R 3 : Int), .int .u32 (R 4 : Int), .int .u32 (R 5 : Int), .int .u32 (R 6 : Int), .int .u32 (R 7 : Int), .slice s2 0 cap2, .int .u8 (why : Int), .int .u64 (epoch : Int), .int .u32 (home : Int)] 30)).alloc (.cells #[.bool true, .bool false, .int .u32 0, .int .u32 0] 44) = X8 at RS8 KA KB
    (try rw [hX8])
    clear hX8
    have FF : Hid (∀ v6 v7 v8, RStep w b cb e G T home o (.returned (.tuple #[.agg #[.int .u32 (home : Int), .int .u32 (R 0 : Int), .int .u32 (R 1 : Int), .int .u32 (R 2 : Int), .int .u32 (R 3 : Int), .int .u32 (R 4 : Int), .int .u32 (R 5 : Int), .int .u32 (R 6 : Int), .int .u32 (R 7 : Int), .slice s2 0 cap2, .int .u8 (why : Int), .int .u64 (epoch : Int), .int .u32 (home : Int)], .agg #[.int .u32 (G 0 : Int), .int .u32 (G 1 : Int), .int .u32 (G 2 : Int), .int .u32 (G 3 : Int), .int .u32 (G 4 : Int), .int .u32 (G 5 : Int), .int .u32 (G 6 : Int), .int .u32 (G 7 : Int), .slice (some ⟨b, 0, none⟩) T.length cb, .slice (some ⟨e, 0, none⟩) L.length ce], .agg #[.bool true, .bool false, .int .u32 0, .int .u32 0]])) ((((X8.setCells (w.heap.size + 2) 0 v6).setCells (w.heap.size + 3) 0 v7).setCells (w.heap.size + 4) 0 v8).drewN 1)) := Lib.hid fun v6 v7 v8 => by
      rw [HO.out]
      obtain ⟨q1, q2, q3⟩ := RS8.out.fin (Below.refl _ _) v6 v7 v8
      rw [HL.out] at q1
      exact ⟨.slice s2 0 cap2, e, ce, rfl, q1.kept (below_drewN (Below.refl _ _) 1), q2.drewN 1, .inl rfl, below_drewN q3 1⟩
    obtain ⟨a0, a1, a2, a3, a4, a5, a6, a7, a8, a9, a10, a11, a12⟩ := blkc13 KA.out
    obtain ⟨o0, o1, o2, o3⟩ := blkc4 KB.out
    have dn0 : ¬ (w8.heap.size = w.heap.size) := by omega
    have dm0 : ¬ (w.heap.size = w8.heap.size) := by omega
    have dn1 : ¬ (w8.heap.size = w.heap.size + 1) := by omega
    have dm1 : ¬ (w.heap.size + 1 = w8.heap.size) := by omega
    have dn2 : ¬ (w8.heap.size = w.heap.size + 1 + 1) := by omega
    have dm2 : ¬ (w.heap.size + 1 + 1 = w8.heap.size) := by omega
    have dn3 : ¬ (w8.heap.size = w.heap.size + 1 + 1 + 1) := by omega
    have dm3 : ¬ (w.heap.size + 1 + 1 + 1 = w8.heap.size) := by omega
    have dn4 : ¬ (w8.heap.size = w.heap.size + 1 + 1 + 1 + 1) := by omega
    have dm4 : ¬ (w.heap.size + 1 + 1 + 1 + 1 = w8.heap.size) := by omega
    obtain ⟨m0, m1, m2, m3, m4, m5, m6, m7, m8, m9⟩ := RS.mf (RS8.out)
    obtain ⟨z0, fz0, z1, fz1, z2, fz2, z3, fz3, z4, fz4, z5, fz5, z6, fz6, z7, fz7, z8, fz8, z9, fz9, z10, fz10, z11, fz11, z12, fz12, y0, fy0, y1, fy1, y2, fy2, y3, fy3, y4, fy4, y5, fy5, y6, fy6, y7, fy7, y8, fy8, y9, fy9, n0, fn0, n1, fn1, n2, fn2, n3, fn3⟩ := RS.rf (RS8.out)
    clear RS8
    go_region
    all_goals
      go_wp2_with fail
      refine bodyPost_ret (v := .tuple #[.agg #[.int .u32 (home : Int), .int .u32 (R 0 : Int), .int .u32 (R 1 : Int), .int .u32 (R 2 : Int), .int .u32 (R 3 : Int), .int .u32 (R 4 : Int), .int .u32 (R 5 : Int), .int .u32 (R 6 : Int), .int .u32 (R 7 : Int), .slice s2 0 cap2, .int .u8 (why : Int), .int .u64 (epoch : Int), .int .u32 (home : Int)], .agg #[.int .u32 (G 0 : Int), .int .u32 (G 1 : Int), .int .u32 (G 2 : Int), .int .u32 (G 3 : Int), .int .u32 (G 4 : Int), .int .u32 (G 5 : Int), .int .u32 (G 6 : Int), .int .u32 (G 7 : Int), .slice (some ⟨b, 0, none⟩) T.length cb, .slice (some ⟨e, 0, none⟩) L.length ce], .agg #[.bool true, .bool false, .int .u32 0, .int .u32 0]]) (by simp [results, Tryz.results8, go_sem, *]) rfl ?_
      exact FF.out [.int .u32 (home : Int), .int .u32 (R 0 : Int), .int .u32 (R 1 : Int), .int .u32 (R 2 : Int), .int .u32 (R 3 : Int), .int .u32 (R 4 : Int), .int .u32 (R 5 : Int), .int .u32 (R 6 : Int), .int .u32 (R 7 : Int), .slice s2 0 cap2, .int .u8 (why : Int), .int .u64 (epoch : Int), .int .u32 (home : Int)] [.int .u32 (G 0 : Int), .int .u32 (G 1 : Int), .int .u32 (G 2 : Int), .int .u32 (G 3 : Int), .int .u32 (G 4 : Int), .int .u32 (G 5 : Int), .int .u32 (G 6 : Int), .int .u32 (G 7 : Int), .slice (some ⟨b, 0, none⟩) T.length cb, .slice (some ⟨e, 0, none⟩) L.length ce] [.bool true, .bool false, .int .u32 0, .int .u32 0]
  · have HO := Lib.hid (ho3 hop)
    clear ho0 ho1 ho2 ho3 ho4
    obtain ⟨hop, hgz, hs0⟩ := hop
    have HP : Hid (0 < S.length) := Lib.hid (List.length_pos_iff.2 hs0)
    clear hs0
    have q0 : ((op : Int) == 0) = false := by rw [beq_eq_false_iff_ne]; omega
    have q1 : ((op : Int) == 1) = false := by rw [beq_eq_false_iff_ne]; omega
    have q2 : ((op : Int) == 2) = false := by rw [beq_eq_false_iff_ne]; omega
    have q11 : ((op : Int) == 11) = false := by rw [beq_eq_false_iff_ne]; omega
    have q12 : ((op : Int) == 12) = false := by rw [beq_eq_false_iff_ne]; omega
    have q13 : ((op : Int) == 13) = false := by rw [beq_eq_false_iff_ne]; omega
    have q15 : ((op : Int) == 15) = false := by rw [beq_eq_false_iff_ne]; omega
    have q16 : ((op : Int) == 16) = false := by rw [beq_eq_false_iff_ne]; omega
    have q14 : ((op : Int) == 14) = false := by rw [beq_eq_false_iff_ne]; omega
    have q17 : ((op : Int) == 17) = false := by rw [beq_eq_false_iff_ne]; omega
    have q18 : ((op : Int) == 18) = false := by rw [beq_eq_false_iff_ne]; omega
    have q19 : ((op : Int) == 19) = false := by rw [beq_eq_false_iff_ne]; omega
    have q20 : ((op : Int) == 20) = false := by rw [beq_eq_false_iff_ne]; omega
    have q21 : ((op : Int) == 21) = true := by rw [beq_iff_eq]; omega
    have i4 : w7.cell? ⟨w4.heap.size, 4, none⟩ = some (.int .i32 imm) := KI7.out.cell 4
    have qg : ((gv : Int) == 0) = true := by rw [beq_iff_eq]; omega
    obtain ⟨m0, m1, m2, m3, m4, m5, m6, m7, m8, m9⟩ := RS.mf (RS7.out)
    have hgq' := hgq.out hop
    have HR8 := Lib.hid (hr8.out hop)
    clear hop hgz
    go_wp2_with fail
    refine (GC.out _).mono ?_
    rintro en wg ⟨rfl, hb⟩
    have RSG := Lib.hid (RS7.out.kept hb)
    clear hb RS7 KI7 i4 m0 m1 m2 m3 m4 m5 m6 m7 m8 m9 hgq'
    go_upto_region 62 with fail
    clear i0
    have SF : ∀ W, Calls Tryz.prog 43 #[.agg #[.int .u32 (pc : Int), .int .u32 (R 0 : Int), .int .u32 (R 1 : Int), .int .u32 (R 2 : Int), .int .u32 (R 3 : Int), .int .u32 (R 4 : Int), .int .u32 (R 5 : Int), .int .u32 (R 6 : Int), .int .u32 (R 7 : Int), .slice s2 S.length cap2, .int .u8 (why : Int), .int .u64 (ep : Int), .int .u32 (home : Int)], .int .u64 (epoch : Int), .int .u8 2] W fun e w' => e = .returned (.tuple #[.agg #[.int .u32 (pc : Int), .int .u32 (R 0 : Int), .int .u32 (R 1 : Int), .int .u32 (R 2 : Int), .int .u32 (R 3 : Int), .int .u32 (R 4 : Int), .int .u32 (R 5 : Int), .int .u32 (R 6 : Int), .int .u32 (R 7 : Int), .slice s2 S.length cap2, .int .u8 2, .int .u64 (ep : Int), .int .u32 (home : Int)], .agg #[.bool false, .bool false, .int .u32 0, .int .u32 0]]) ∧ Below W.heap.size W w' := fun W => rsafe_full W pc R s2 S.length cap2 why ep home epoch 2 HP.out HN.out
    obtain ⟨t0, t1, t2, t3, t4, t5, t6, t7, t8, t9, t10, t11, t12⟩ := RS.hf (RSG.out)
    replace SF := Lib.hid SF
    go_wp2_with fail
    refine (SF.out _).mono ?_
    rintro en w8 ⟨rfl, hb⟩
    have RS8 : Hid (RS w ((w8.alloc (.cells #[.int .u32 (pc : Int), .int .u32 (R 0 : Int), .int .u32 (R 1 : Int), .int .u32 (R 2 : Int), .int .u32 (R 3 : Int), .int .u32 (R 4 : Int), .int .u32 (R 5 : Int), .int .u32 (R 6 : Int), .int .u32 (R 7 : Int), .slice s2 S.length cap2, .int .u8 2, .int .u64 (ep : Int), .int .u32 (home : Int)] 30)).alloc (.cells #[.bool false, .bool false, .int .u32 0, .int .u32 0] 44)) #[.int .u32 (pc : Int), .int .u32 (R 0 : Int), .int .u32 (R 1 : Int), .int .u32 (R 2 : Int), .int .u32 (R 3 : Int), .int .u32 (R 4 : Int), .int .u32 (R 5 : Int), .int .u32 (R 6 : Int), .int .u32 (R 7 : Int), .slice s2 S.length cap2, .int .u8 (why : Int), .int .u64 (ep : Int), .int .u32 (home : Int)] #[.int .u32 (G 0 : Int), .int .u32 (G 1 : Int), .int .u32 (G 2 : Int), .int .u32 (G 3 : Int), .int .u32 (G 4 : Int), .int .u32 (G 5 : Int), .int .u32 (G 6 : Int), .int .u32 (G 7 : Int), .slice (some ⟨b, 0, none⟩) T.length cb, .slice (some ⟨e, 0, none⟩) L.length ce] (.slice s2 S.length cap2) S b e T L) := Lib.hid (((RSG.out.kept hb).alloc _).alloc _)
    have KA : Hid (Blk ((w8.alloc (.cells #[.int .u32 (pc : Int), .int .u32 (R 0 : Int), .int .u32 (R 1 : Int), .int .u32 (R 2 : Int), .int .u32 (R 3 : Int), .int .u32 (R 4 : Int), .int .u32 (R 5 : Int), .int .u32 (R 6 : Int), .int .u32 (R 7 : Int), .slice s2 S.length cap2, .int .u8 2, .int .u64 (ep : Int), .int .u32 (home : Int)] 30)).alloc (.cells #[.bool false, .bool false, .int .u32 0, .int .u32 0] 44)) w8.heap.size 30 #[.int .u32 (pc : Int), .int .u32 (R 0 : Int), .int .u32 (R 1 : Int), .int .u32 (R 2 : Int), .int .u32 (R 3 : Int), .int .u32 (R 4 : Int), .int .u32 (R 5 : Int), .int .u32 (R 6 : Int), .int .u32 (R 7 : Int), .slice s2 S.length cap2, .int .u8 2, .int .u64 (ep : Int), .int .u32 (home : Int)]) := Lib.hid ((Blk.new w8 _ _).alloc _)
    have KB : Hid (Blk ((w8.alloc (.cells #[.int .u32 (pc : Int), .int .u32 (R 0 : Int), .int .u32 (R 1 : Int), .int .u32 (R 2 : Int), .int .u32 (R 3 : Int), .int .u32 (R 4 : Int), .int .u32 (R 5 : Int), .int .u32 (R 6 : Int), .int .u32 (R 7 : Int), .slice s2 S.length cap2, .int .u8 2, .int .u64 (ep : Int), .int .u32 (home : Int)] 30)).alloc (.cells #[.bool false, .bool false, .int .u32 0, .int .u32 0] 44)) (w8.heap.size + 1) 44 #[.bool false, .bool false, .int .u32 0, .int .u32 0]) := Lib.hid (by
      have q := Blk.new (w8.alloc (.cells #[.int .u32 (pc : Int), .int .u32 (R 0 : Int), .int .u32 (R 1 : Int), .int .u32 (R 2 : Int), .int .u32 (R 3 : Int), .int .u32 (R 4 : Int), .int .u32 (R 5 : Int), .int .u32 (R 6 : Int), .int .u32 (R 7 : Int), .slice s2 S.length cap2, .int .u8 2, .int .u64 (ep : Int), .int .u32 (home : Int)] 30)) 44 #[.bool false, .bool false, .int .u32 0, .int .u32 0]
      have z : (w8.alloc (.cells #[.int .u32 (pc : Int), .int .u32 (R 0 : Int), .int .u32 (R 1 : Int), .int .u32 (R 2 : Int), .int .u32 (R 3 : Int), .int .u32 (R 4 : Int), .int .u32 (R 5 : Int), .int .u32 (R 6 : Int), .int .u32 (R 7 : Int), .slice s2 S.length cap2, .int .u8 2, .int .u64 (ep : Int), .int .u32 (home : Int)] 30)).heap.size = w8.heap.size + 1 := by simp
      rw [z] at q
      exact q)
    have L8 : w.heap.size + 5 ≤ w8.heap.size := by have := (RSG.out.kept hb).k8.lt; omega
    clear hb RSG t0 t1 t2 t3 t4 t5 t6 t7 t8 t9 t10 t11 t12
    go_upto_region 63 with fail
    generalize hX8 : (w8.alloc (.cells #[.int .u32 (pc : Int), .int .u32 (R 0 : Int), .int .u32 (R 1 : Int), .int .u32 (R 2 : Int), .int .u32 (R 3 : Int), .int .u32 (R 4 : Int), .int .u32 (R 5 : Int), .int .u32 (R 6 : Int), .int .u32 (R 7 : Int), .slice s2 S.length cap2, .int .u8 2, .int .u64 (ep : Int), .int .u32 (home : Int)] 30)).alloc (.cells #[.bool false, .bool false, .int .u32 0, .int .u32 0] 44) = X8 at RS8 KA KB
    (try rw [hX8])
    clear hX8
    have FF : Hid (∀ v6 v7 v8, RStep w b cb e G T home o (.returned (.tuple #[.agg #[.int .u32 (pc : Int), .int .u32 (R 0 : Int), .int .u32 (R 1 : Int), .int .u32 (R 2 : Int), .int .u32 (R 3 : Int), .int .u32 (R 4 : Int), .int .u32 (R 5 : Int), .int .u32 (R 6 : Int), .int .u32 (R 7 : Int), .slice s2 S.length cap2, .int .u8 2, .int .u64 (ep : Int), .int .u32 (home : Int)], .agg #[.int .u32 (G 0 : Int), .int .u32 (G 1 : Int), .int .u32 (G 2 : Int), .int .u32 (G 3 : Int), .int .u32 (G 4 : Int), .int .u32 (G 5 : Int), .int .u32 (G 6 : Int), .int .u32 (G 7 : Int), .slice (some ⟨b, 0, none⟩) T.length cb, .slice (some ⟨e, 0, none⟩) L.length ce], .agg #[.bool false, .bool false, .int .u32 0, .int .u32 0]])) ((((X8.setCells (w.heap.size + 2) 0 v6).setCells (w.heap.size + 3) 0 v7).setCells (w.heap.size + 4) 0 v8).drewN 1)) := Lib.hid fun v6 v7 v8 => by
      rw [HO.out]
      obtain ⟨q1, q2, q3⟩ := RS8.out.fin (Below.refl _ _) v6 v7 v8
      exact ⟨.slice s2 S.length cap2, e, ce, rfl, q1.kept (below_drewN (Below.refl _ _) 1), q2.drewN 1, .inl rfl, below_drewN q3 1⟩
    obtain ⟨a0, a1, a2, a3, a4, a5, a6, a7, a8, a9, a10, a11, a12⟩ := blkc13 KA.out
    obtain ⟨o0, o1, o2, o3⟩ := blkc4 KB.out
    have dn0 : ¬ (w8.heap.size = w.heap.size) := by omega
    have dm0 : ¬ (w.heap.size = w8.heap.size) := by omega
    have dn1 : ¬ (w8.heap.size = w.heap.size + 1) := by omega
    have dm1 : ¬ (w.heap.size + 1 = w8.heap.size) := by omega
    have dn2 : ¬ (w8.heap.size = w.heap.size + 1 + 1) := by omega
    have dm2 : ¬ (w.heap.size + 1 + 1 = w8.heap.size) := by omega
    have dn3 : ¬ (w8.heap.size = w.heap.size + 1 + 1 + 1) := by omega
    have dm3 : ¬ (w.heap.size + 1 + 1 + 1 = w8.heap.size) := by omega
    have dn4 : ¬ (w8.heap.size = w.heap.size + 1 + 1 + 1 + 1) := by omega
    have dm4 : ¬ (w.heap.size + 1 + 1 + 1 + 1 = w8.heap.size) := by omega
    obtain ⟨m0, m1, m2, m3, m4, m5, m6, m7, m8, m9⟩ := RS.mf (RS8.out)
    obtain ⟨z0, fz0, z1, fz1, z2, fz2, z3, fz3, z4, fz4, z5, fz5, z6, fz6, z7, fz7, z8, fz8, z9, fz9, z10, fz10, z11, fz11, z12, fz12, y0, fy0, y1, fy1, y2, fy2, y3, fy3, y4, fy4, y5, fy5, y6, fy6, y7, fy7, y8, fy8, y9, fy9, n0, fn0, n1, fn1, n2, fn2, n3, fn3⟩ := RS.rf (RS8.out)
    clear RS8
    go_region
    all_goals
      go_wp2_with fail
      refine bodyPost_ret (v := .tuple #[.agg #[.int .u32 (pc : Int), .int .u32 (R 0 : Int), .int .u32 (R 1 : Int), .int .u32 (R 2 : Int), .int .u32 (R 3 : Int), .int .u32 (R 4 : Int), .int .u32 (R 5 : Int), .int .u32 (R 6 : Int), .int .u32 (R 7 : Int), .slice s2 S.length cap2, .int .u8 2, .int .u64 (ep : Int), .int .u32 (home : Int)], .agg #[.int .u32 (G 0 : Int), .int .u32 (G 1 : Int), .int .u32 (G 2 : Int), .int .u32 (G 3 : Int), .int .u32 (G 4 : Int), .int .u32 (G 5 : Int), .int .u32 (G 6 : Int), .int .u32 (G 7 : Int), .slice (some ⟨b, 0, none⟩) T.length cb, .slice (some ⟨e, 0, none⟩) L.length ce], .agg #[.bool false, .bool false, .int .u32 0, .int .u32 0]]) (by simp [results, Tryz.results8, go_sem, *]) rfl ?_
      exact FF.out [.int .u32 (pc : Int), .int .u32 (R 0 : Int), .int .u32 (R 1 : Int), .int .u32 (R 2 : Int), .int .u32 (R 3 : Int), .int .u32 (R 4 : Int), .int .u32 (R 5 : Int), .int .u32 (R 6 : Int), .int .u32 (R 7 : Int), .slice s2 S.length cap2, .int .u8 2, .int .u64 (ep : Int), .int .u32 (home : Int)] [.int .u32 (G 0 : Int), .int .u32 (G 1 : Int), .int .u32 (G 2 : Int), .int .u32 (G 3 : Int), .int .u32 (G 4 : Int), .int .u32 (G 5 : Int), .int .u32 (G 6 : Int), .int .u32 (G 7 : Int), .slice (some ⟨b, 0, none⟩) T.length cb, .slice (some ⟨e, 0, none⟩) L.length ce] [.bool false, .bool false, .int .u32 0, .int .u32 0]
  · have HO := Lib.hid (ho4 hop)
    clear ho0 ho1 ho2 ho3 ho4
    obtain ⟨hop, hgz⟩ := hop
    have q0 : ((op : Int) == 0) = false := by rw [beq_eq_false_iff_ne]; omega
    have q1 : ((op : Int) == 1) = false := by rw [beq_eq_false_iff_ne]; omega
    have q2 : ((op : Int) == 2) = false := by rw [beq_eq_false_iff_ne]; omega
    have q11 : ((op : Int) == 11) = false := by rw [beq_eq_false_iff_ne]; omega
    have q12 : ((op : Int) == 12) = false := by rw [beq_eq_false_iff_ne]; omega
    have q13 : ((op : Int) == 13) = false := by rw [beq_eq_false_iff_ne]; omega
    have q15 : ((op : Int) == 15) = false := by rw [beq_eq_false_iff_ne]; omega
    have q16 : ((op : Int) == 16) = false := by rw [beq_eq_false_iff_ne]; omega
    have q14 : ((op : Int) == 14) = false := by rw [beq_eq_false_iff_ne]; omega
    have q17 : ((op : Int) == 17) = false := by rw [beq_eq_false_iff_ne]; omega
    have q18 : ((op : Int) == 18) = false := by rw [beq_eq_false_iff_ne]; omega
    have q19 : ((op : Int) == 19) = false := by rw [beq_eq_false_iff_ne]; omega
    have q20 : ((op : Int) == 20) = false := by rw [beq_eq_false_iff_ne]; omega
    have q21 : ((op : Int) == 21) = true := by rw [beq_iff_eq]; omega
    have i4 : w7.cell? ⟨w4.heap.size, 4, none⟩ = some (.int .i32 imm) := KI7.out.cell 4
    have qg : ((gv : Int) == 0) = false := by rw [beq_eq_false_iff_ne]; omega
    obtain ⟨m0, m1, m2, m3, m4, m5, m6, m7, m8, m9⟩ := RS.mf (RS7.out)
    have hgq' := hgq.out hop
    have HR8 := Lib.hid (hr8.out hop)
    clear hop hgz
    go_wp2_with fail
    refine (GC.out _).mono ?_
    rintro en wg ⟨rfl, hb⟩
    have RSG := Lib.hid (RS7.out.kept hb)
    clear hb RS7 KI7 i4 m0 m1 m2 m3 m4 m5 m6 m7 m8 m9 hgq'
    go_upto_region 64 with fail
    clear i0
    have hr8' := HR8.out
    have hpv' := hpv.out
    have t0 : wg.cell? ⟨w.heap.size, 0, none⟩ = some (.int .u32 (pc : Int)) := RSG.out.kh.cell 0
    have ft0 : wg.frozen? ⟨w.heap.size, 0, none⟩ = false := RSG.out.kh.frozen 0
    have RS8 : Hid (RS w (wg.setCell ⟨w.heap.size, 0, none⟩ (.int .u32 (pv : Int))) #[.int .u32 (pv : Int), .int .u32 (R 0 : Int), .int .u32 (R 1 : Int), .int .u32 (R 2 : Int), .int .u32 (R 3 : Int), .int .u32 (R 4 : Int), .int .u32 (R 5 : Int), .int .u32 (R 6 : Int), .int .u32 (R 7 : Int), .slice s2 S.length cap2, .int .u8 (why : Int), .int .u64 (ep : Int), .int .u32 (home : Int)] #[.int .u32 (G 0 : Int), .int .u32 (G 1 : Int), .int .u32 (G 2 : Int), .int .u32 (G 3 : Int), .int .u32 (G 4 : Int), .int .u32 (G 5 : Int), .int .u32 (G 6 : Int), .int .u32 (G 7 : Int), .slice (some ⟨b, 0, none⟩) T.length cb, .slice (some ⟨e, 0, none⟩) L.length ce] (.slice s2 S.length cap2) S b e T L) := Lib.hid (by
      have q := RSG.out.seth 0 (.int .u32 (pv : Int))
      simpa using q)
    go_upto_region 65 with fail
    generalize hX8 : wg.setCell ⟨w.heap.size, 0, none⟩ (.int .u32 (pv : Int)) = X8 at RS8
    (try rw [hX8])
    clear hX8 t0 ft0 RSG
    clear hr8' hpv'
    have FF : Hid (∀ v6 v7 v8, RStep w b cb e G T home o (.returned (.tuple #[.agg #[.int .u32 (pv : Int), .int .u32 (R 0 : Int), .int .u32 (R 1 : Int), .int .u32 (R 2 : Int), .int .u32 (R 3 : Int), .int .u32 (R 4 : Int), .int .u32 (R 5 : Int), .int .u32 (R 6 : Int), .int .u32 (R 7 : Int), .slice s2 S.length cap2, .int .u8 (why : Int), .int .u64 (ep : Int), .int .u32 (home : Int)], .agg #[.int .u32 (G 0 : Int), .int .u32 (G 1 : Int), .int .u32 (G 2 : Int), .int .u32 (G 3 : Int), .int .u32 (G 4 : Int), .int .u32 (G 5 : Int), .int .u32 (G 6 : Int), .int .u32 (G 7 : Int), .slice (some ⟨b, 0, none⟩) T.length cb, .slice (some ⟨e, 0, none⟩) L.length ce], .agg #[.bool false, .bool false, .int .u32 0, .int .u32 0]])) ((((X8.setCells (w.heap.size + 2) 0 v6).setCells (w.heap.size + 3) 0 v7).setCells (w.heap.size + 4) 0 v8).drewN 1)) := Lib.hid fun v6 v7 v8 => by
      rw [HO.out]
      obtain ⟨q1, q2, q3⟩ := RS8.out.fin (Below.refl _ _) v6 v7 v8
      exact ⟨.slice s2 S.length cap2, e, ce, rfl, q1.kept (below_drewN (Below.refl _ _) 1), q2.drewN 1, .inl rfl, below_drewN q3 1⟩
    obtain ⟨t0, t1, t2, t3, t4, t5, t6, t7, t8, t9, t10, t11, t12⟩ := RS.hf (RS8.out)
    obtain ⟨m0, m1, m2, m3, m4, m5, m6, m7, m8, m9⟩ := RS.mf (RS8.out)
    obtain ⟨z0, fz0, z1, fz1, z2, fz2, z3, fz3, z4, fz4, z5, fz5, z6, fz6, z7, fz7, z8, fz8, z9, fz9, z10, fz10, z11, fz11, z12, fz12, y0, fy0, y1, fy1, y2, fy2, y3, fy3, y4, fy4, y5, fy5, y6, fy6, y7, fy7, y8, fy8, y9, fy9, n0, fn0, n1, fn1, n2, fn2, n3, fn3⟩ := RS.rf (RS8.out)
    clear RS8
    go_region
    all_goals
      go_wp2_with fail
      refine bodyPost_ret (v := .tuple #[.agg #[.int .u32 (pv : Int), .int .u32 (R 0 : Int), .int .u32 (R 1 : Int), .int .u32 (R 2 : Int), .int .u32 (R 3 : Int), .int .u32 (R 4 : Int), .int .u32 (R 5 : Int), .int .u32 (R 6 : Int), .int .u32 (R 7 : Int), .slice s2 S.length cap2, .int .u8 (why : Int), .int .u64 (ep : Int), .int .u32 (home : Int)], .agg #[.int .u32 (G 0 : Int), .int .u32 (G 1 : Int), .int .u32 (G 2 : Int), .int .u32 (G 3 : Int), .int .u32 (G 4 : Int), .int .u32 (G 5 : Int), .int .u32 (G 6 : Int), .int .u32 (G 7 : Int), .slice (some ⟨b, 0, none⟩) T.length cb, .slice (some ⟨e, 0, none⟩) L.length ce], .agg #[.bool false, .bool false, .int .u32 0, .int .u32 0]]) (by simp [results, Tryz.results8, go_sem, *]) rfl ?_
      exact FF.out [.int .u32 (pv : Int), .int .u32 (R 0 : Int), .int .u32 (R 1 : Int), .int .u32 (R 2 : Int), .int .u32 (R 3 : Int), .int .u32 (R 4 : Int), .int .u32 (R 5 : Int), .int .u32 (R 6 : Int), .int .u32 (R 7 : Int), .slice s2 S.length cap2, .int .u8 (why : Int), .int .u64 (ep : Int), .int .u32 (home : Int)] [.int .u32 (G 0 : Int), .int .u32 (G 1 : Int), .int .u32 (G 2 : Int), .int .u32 (G 3 : Int), .int .u32 (G 4 : Int), .int .u32 (G 5 : Int), .int .u32 (G 6 : Int), .int .u32 (G 7 : Int), .slice (some ⟨b, 0, none⟩) T.length cb, .slice (some ⟨e, 0, none⟩) L.length ce] [.bool false, .bool false, .int .u32 0, .int .u32 0]
end Go.Proofs.YthnbdeibjbicpaaGreat.PM

/- budwoodref09's Step: the operations on two numbers. Conditions: the cells. -/
namespace Go.Proofs.YthnbdeibjbicpaaGreat.PM
set_option linter.unusedVariables false
set_option linter.unusedSimpArgs false
open Go.RowKit
set_option maxRecDepth 100000 in
set_option maxHeartbeats 16000000 in
theorem rinstr_reck (w : World) (b cb e ce : Nat) (G : Nat → Nat) (T : List Page) (L : List Nat) (pc : Nat) (R : Nat → Nat) (S : List Nat) (ep home epoch why : Nat) (src : Option Addr) (cap : Nat) (r : RM w b e T L) (hS : Stk w src S) (hn : S.length < 35184372088832) (f0 f1 op rd ra rb : Nat) (imm : Int) (iu ga gd tgo : Nat) (tb : Bool) (hw : ((why : Int) != 0) = false) (FC : ∀ W, RM W b e T L → Calls Tryz.prog 34 #[.agg #[.int .u32 (G 0 : Int), .int .u32 (G 1 : Int), .int .u32 (G 2 : Int), .int .u32 (G 3 : Int), .int .u32 (G 4 : Int), .int .u32 (G 5 : Int), .int .u32 (G 6 : Int), .int .u32 (G 7 : Int), .slice (some ⟨b, 0, none⟩) T.length cb, .slice (some ⟨e, 0, none⟩) L.length ce], .int .u32 (pc : Int), .int .u64 (ep : Int)] W fun e w' => e = .returned (.tuple #[.int .u32 (f0 : Int), .int .u16 (f1 : Int), .bool true]) ∧ Below W.heap.size W w') (DC : ∀ W, Calls Tryz.prog 36 #[.int .u32 (f0 : Int)] W fun e w' => e = .returned (.tuple #[.agg #[.int .u8 (op : Int), .int .u8 (rd : Int), .int .u8 (ra : Int), .int .u8 (rb : Int), .int .i32 imm], .int .i64 0]) ∧ Below W.heap.size W w') (TG : ∀ W, Calls Tryz.prog 38 #[.int .u32 (pc : Int), .agg #[.int .u8 (op : Int), .int .u8 (rd : Int), .int .u8 (ra : Int), .int .u8 (rb : Int), .int .i32 imm]] W fun e w' => e = .returned (.tuple #[.int .u32 (tgo : Int), .bool tb]) ∧ Below W.heap.size W w') (hi : imm % 4294967296 = (iu : Int)) (hga : getR R ra = ga) (hgd : getR R rd = gd) (hra : ra < 8) (hrd : rd < 8) (gb rv : Nat) (hgb : getR R rb = gb) (hrb : rb < 8) (hrv : reck op ga gb = rv) (hbga : ga < 4294967296) (hbgb : gb < 4294967296) (o : Out) (hop : (3 ≤ op ∧ op ≤ 10)) (ho0 : 3 ≤ op ∧ op ≤ 10 → o = ⟨(inc pc), (setR R rd rv), S, why, ep, L, false, false, 0, 0⟩) :
    Calls Tryz.prog 8 #[.agg #[.int .u32 (pc : Int), .int .u32 (R 0 : Int), .int .u32 (R 1 : Int), .int .u32 (R 2 : Int), .int .u32 (R 3 : Int), .int .u32 (R 4 : Int), .int .u32 (R 5 : Int), .int .u32 (R 6 : Int), .int .u32 (R 7 : Int), .slice src S.length cap, .int .u8 (why : Int), .int .u64 (ep : Int), .int .u32 (home : Int)], .agg #[.int .u32 (G 0 : Int), .int .u32 (G 1 : Int), .int .u32 (G 2 : Int), .int .u32 (G 3 : Int), .int .u32 (G 4 : Int), .int .u32 (G 5 : Int), .int .u32 (G 6 : Int), .int .u32 (G 7 : Int), .slice (some ⟨b, 0, none⟩) T.length cb, .slice (some ⟨e, 0, none⟩) L.length ce], .int .u64 (epoch : Int)] w fun en w' => RStep w b cb e G T home o en w' := by
  replace hgb := Lib.hid hgb
  replace hrv := Lib.hid hrv
  replace hbga := Lib.hid hbga
  replace hbgb := Lib.hid hbgb
  have HOP := Lib.hid hop
  clear hop
  have RA : ∀ W s2 cap2, Calls Tryz.prog 37 #[.agg #[.int .u32 (pc : Int), .int .u32 (R 0 : Int), .int .u32 (R 1 : Int), .int .u32 (R 2 : Int), .int .u32 (R 3 : Int), .int .u32 (R 4 : Int), .int .u32 (R 5 : Int), .int .u32 (R 6 : Int), .int .u32 (R 7 : Int), .slice s2 S.length cap2, .int .u8 (why : Int), .int .u64 (ep : Int), .int .u32 (home : Int)], .int .u8 (ra : Int)] W fun e w' => e = .returned (.int .u32 (ga : Int)) ∧ Below W.heap.size W w' := fun W s2 cap2 => hga ▸ rr_c W pc R s2 S.length cap2 why ep home ra hra
  have RD : ∀ W s2 cap2, Calls Tryz.prog 37 #[.agg #[.int .u32 (pc : Int), .int .u32 (R 0 : Int), .int .u32 (R 1 : Int), .int .u32 (R 2 : Int), .int .u32 (R 3 : Int), .int .u32 (R 4 : Int), .int .u32 (R 5 : Int), .int .u32 (R 6 : Int), .int .u32 (R 7 : Int), .slice s2 S.length cap2, .int .u8 (why : Int), .int .u64 (ep : Int), .int .u32 (home : Int)], .int .u8 (rd : Int)] W fun e w' => e = .returned (.int .u32 (gd : Int)) ∧ Below W.heap.size W w' := fun W s2 cap2 => hgd ▸ rr_c W pc R s2 S.length cap2 why ep home rd hrd
  have le0 : e < w.heap.size := r.wds.lt
  replace hi : IntKind.u32.wrap imm = (iu : Int) := (IntKind.wrap_u32 imm).trans hi
  replace FC := Lib.hid FC
  replace DC := Lib.hid DC
  replace TG := Lib.hid TG
  replace RA := Lib.hid RA
  replace RD := Lib.hid RD
  replace le0 := Lib.hid le0
  replace hga := Lib.hid hga
  replace hgd := Lib.hid hgd
  have HN := Lib.hid hn
  have CC : ∀ W, Stk W src S → Calls Tryz.prog 6 #[.agg #[.int .u32 (pc : Int), .int .u32 (R 0 : Int), .int .u32 (R 1 : Int), .int .u32 (R 2 : Int), .int .u32 (R 3 : Int), .int .u32 (R 4 : Int), .int .u32 (R 5 : Int), .int .u32 (R 6 : Int), .int .u32 (R 7 : Int), .slice src S.length cap, .int .u8 (why : Int), .int .u64 (ep : Int), .int .u32 (home : Int)]] W fun e w' => Copied9 W pc R why ep home S e w' := fun W q => rcopy_c W pc R src cap why ep home S q hn
  replace CC := Lib.hid CC
  generalize hW : ((((w.alloc (.cells #[.int .u32 (pc : Int), .int .u32 (R 0 : Int), .int .u32 (R 1 : Int), .int .u32 (R 2 : Int), .int .u32 (R 3 : Int), .int .u32 (R 4 : Int), .int .u32 (R 5 : Int), .int .u32 (R 6 : Int), .int .u32 (R 7 : Int), .slice src S.length cap, .int .u8 (why : Int), .int .u64 (ep : Int), .int .u32 (home : Int)] 30)).alloc (.cells #[.int .u32 (G 0 : Int), .int .u32 (G 1 : Int), .int .u32 (G 2 : Int), .int .u32 (G 3 : Int), .int .u32 (G 4 : Int), .int .u32 (G 5 : Int), .int .u32 (G 6 : Int), .int .u32 (G 7 : Int), .slice (some ⟨b, 0, none⟩) T.length cb, .slice (some ⟨e, 0, none⟩) L.length ce] 36)).alloc (.cells #[.int .u32 0, .int .u32 0, .int .u32 0, .int .u32 0, .int .u32 0, .int .u32 0, .int .u32 0, .int .u32 0, .int .u32 0, .slice none 0 0, .int .u8 0, .int .u64 0, .int .u32 0] 30)).alloc (.cells #[.int .u32 0, .int .u32 0, .int .u32 0, .int .u32 0, .int .u32 0, .int .u32 0, .int .u32 0, .int .u32 0, .slice none 0 0, .slice none 0 0] 36)).alloc (.cells #[.bool false, .bool false, .int .u32 0, .int .u32 0] 44) = W0
  have BW : Hid (Below w.heap.size w W0) := Lib.hid (hW ▸ ((((((Below.refl _ w).alloc (Nat.le_refl _) _).alloc (by simp) _).alloc (by simp; omega) _).alloc (by simp; omega) _).alloc (by simp; omega) _))
  have KW := Lib.hid hW
  have HS := Lib.hid hS
  have RR := Lib.hid r
  clear hW hS r hn
  go_enter Tryz.func8, Tryz.ntmps8
  go_wp2_with fail
  (try rw [KW.out])
  refine (CC.out _ (HS.out.kept BW.out)).mono ?_
  rintro en w1 ⟨v, rfl, ow, hb⟩
  obtain ⟨s2, cap2, rfl, _⟩ := ow.form
  have RS0 := Lib.hid (rs_start KW.out RR.out hb ow)
  have RS1 : Hid (RS w (w1.setCells w.heap.size 0 [.int .u32 (pc : Int), .int .u32 (R 0 : Int), .int .u32 (R 1 : Int), .int .u32 (R 2 : Int), .int .u32 (R 3 : Int), .int .u32 (R 4 : Int), .int .u32 (R 5 : Int), .int .u32 (R 6 : Int), .int .u32 (R 7 : Int), .slice s2 S.length cap2, .int .u8 (why : Int), .int .u64 (ep : Int), .int .u32 (home : Int)]) #[.int .u32 (pc : Int), .int .u32 (R 0 : Int), .int .u32 (R 1 : Int), .int .u32 (R 2 : Int), .int .u32 (R 3 : Int), .int .u32 (R 4 : Int), .int .u32 (R 5 : Int), .int .u32 (R 6 : Int), .int .u32 (R 7 : Int), .slice s2 S.length cap2, .int .u8 (why : Int), .int .u64 (ep : Int), .int .u32 (home : Int)] #[.int .u32 (G 0 : Int), .int .u32 (G 1 : Int), .int .u32 (G 2 : Int), .int .u32 (G 3 : Int), .int .u32 (G 4 : Int), .int .u32 (G 5 : Int), .int .u32 (G 6 : Int), .int .u32 (G 7 : Int), .slice (some ⟨b, 0, none⟩) T.length cb, .slice (some ⟨e, 0, none⟩) L.length ce] (.slice s2 S.length cap2) S b e T L) := Lib.hid (RS0.out.all _ _ _ _ _ _ _ _ _ _ _ _ _)
  unfold hv
  clear ow hb CC BW RR HS
  obtain ⟨t0, ft0, t1, ft1, t2, ft2, t3, ft3, t4, ft4, t5, ft5, t6, ft6, t7, ft7, t8, ft8, t9, ft9, t10, ft10, t11, ft11, t12, ft12⟩ := blkf13 RS0.out.kh
  go_upto_region 2 with fail
  generalize hX1 : w1.setCells w.heap.size 0 [.int .u32 (pc : Int), .int .u32 (R 0 : Int), .int .u32 (R 1 : Int), .int .u32 (R 2 : Int), .int .u32 (R 3 : Int), .int .u32 (R 4 : Int), .int .u32 (R 5 : Int), .int .u32 (R 6 : Int), .int .u32 (R 7 : Int), .slice s2 S.length cap2, .int .u8 (why : Int), .int .u64 (ep : Int), .int .u32 (home : Int)] = X1 at RS1
  simp only [World.setCells, Nat.zero_add, Nat.reduceAdd] at hX1
  (try rw [hX1])
  clear hX1 RS0 KW t0 t1 t2 t3 t4 t5 t6 t7 t8 t9 t10 t11 t12 ft0 ft1 ft2 ft3 ft4 ft5 ft6 ft7 ft8 ft9 ft10 ft11 ft12
  have t0 : X1.cell? ⟨w.heap.size, 0, none⟩ = some (.int .u32 (pc : Int)) := RS1.out.kh.cell 0
  have t10 : X1.cell? ⟨w.heap.size, 10, none⟩ = some (.int .u8 (why : Int)) := RS1.out.kh.cell 10
  have t11 : X1.cell? ⟨w.heap.size, 11, none⟩ = some (.int .u64 (ep : Int)) := RS1.out.kh.cell 11
  obtain ⟨m0, m1, m2, m3, m4, m5, m6, m7, m8, m9⟩ := RS.mf (RS1.out)
  go_wp2_with fail
  refine (FC.out _ RS1.out.rm).mono ?_
  rintro en w3 ⟨rfl, hb⟩
  have RS3 := Lib.hid (RS1.out.kept hb)
  clear hb RS1 t0 t10 t11 m0 m1 m2 m3 m4 m5 m6 m7 m8 m9
  go_wp2_with fail
  refine (DC.out _).mono ?_
  rintro en w4 ⟨rfl, hb⟩
  go_upto_region 10 with fail
  generalize hX4 : w4.alloc (.cells #[.int .u8 (op : Int), .int .u8 (rd : Int), .int .u8 (ra : Int), .int .u8 (rb : Int), .int .i32 imm] 78) = X4
  have RS4 : Hid (RS w X4 #[.int .u32 (pc : Int), .int .u32 (R 0 : Int), .int .u32 (R 1 : Int), .int .u32 (R 2 : Int), .int .u32 (R 3 : Int), .int .u32 (R 4 : Int), .int .u32 (R 5 : Int), .int .u32 (R 6 : Int), .int .u32 (R 7 : Int), .slice s2 S.length cap2, .int .u8 (why : Int), .int .u64 (ep : Int), .int .u32 (home : Int)] #[.int .u32 (G 0 : Int), .int .u32 (G 1 : Int), .int .u32 (G 2 : Int), .int .u32 (G 3 : Int), .int .u32 (G 4 : Int), .int .u32 (G 5 : Int), .int .u32 (G 6 : Int), .int .u32 (G 7 : Int), .slice (some ⟨b, 0, none⟩) T.length cb, .slice (some ⟨e, 0, none⟩) L.length ce] (.slice s2 S.length cap2) S b e T L) := Lib.hid (hX4 ▸ (RS3.out.kept hb).alloc _)
  have KI : Hid (Blk X4 w4.heap.size 78 #[.int .u8 (op : Int), .int .u8 (rd : Int), .int .u8 (ra : Int), .int .u8 (rb : Int), .int .i32 imm]) := Lib.hid (hX4 ▸ Blk.new w4 _ _)
  (try rw [hX4])
  have LI : w.heap.size + 5 ≤ w4.heap.size := by have := (RS3.out.kept hb).k8.lt; omega
  clear hX4 hb RS3
  have TX : Hid (X4.drew.cell? ⟨w.heap.size, 0, none⟩ = some (.int .u32 (pc : Int)) ∧ X4.drew.cell? ⟨w.heap.size, 1, none⟩ = some (.int .u32 (R 0 : Int)) ∧ X4.drew.cell? ⟨w.heap.size, 2, none⟩ = some (.int .u32 (R 1 : Int)) ∧ X4.drew.cell? ⟨w.heap.size, 3, none⟩ = some (.int .u32 (R 2 : Int)) ∧ X4.drew.cell? ⟨w.heap.size, 4, none⟩ = some (.int .u32 (R 3 : Int)) ∧ X4.drew.cell? ⟨w.heap.size, 5, none⟩ = some (.int .u32 (R 4 : Int)) ∧ X4.drew.cell? ⟨w.heap.size, 6, none⟩ = some (.int .u32 (R 5 : Int)) ∧ X4.drew.cell? ⟨w.heap.size, 7, none⟩ = some (.int .u32 (R 6 : Int)) ∧ X4.drew.cell? ⟨w.heap.size, 8, none⟩ = some (.int .u32 (R 7 : Int)) ∧ X4.drew.cell? ⟨w.heap.size, 9, none⟩ = some (.slice s2 S.length cap2) ∧ X4.drew.cell? ⟨w.heap.size, 10, none⟩ = some (.int .u8 (why : Int)) ∧ X4.drew.cell? ⟨w.heap.size, 11, none⟩ = some (.int .u64 (ep : Int)) ∧ X4.drew.cell? ⟨w.heap.size, 12, none⟩ = some (.int .u32 (home : Int)) ∧ X4.drew.cell? ⟨w4.heap.size, 1, none⟩ = some (.int .u8 (rd : Int)) ∧ X4.drew.cell? ⟨w4.heap.size, 2, none⟩ = some (.int .u8 (ra : Int)) ∧ X4.drew.cell? ⟨w4.heap.size, 4, none⟩ = some (.int .i32 imm)) := Lib.hid ⟨RS4.out.kh.cell 0, RS4.out.kh.cell 1, RS4.out.kh.cell 2, RS4.out.kh.cell 3, RS4.out.kh.cell 4, RS4.out.kh.cell 5, RS4.out.kh.cell 6, RS4.out.kh.cell 7, RS4.out.kh.cell 8, RS4.out.kh.cell 9, RS4.out.kh.cell 10, RS4.out.kh.cell 11, RS4.out.kh.cell 12, KI.out.cell 1, KI.out.cell 2, KI.out.cell 4⟩
  go_region_held3 (fun w' => w'.cell? ⟨w.heap.size, 0, none⟩ = some (.int .u32 (pc : Int)) ∧ w'.cell? ⟨w.heap.size, 1, none⟩ = some (.int .u32 (R 0 : Int)) ∧ w'.cell? ⟨w.heap.size, 2, none⟩ = some (.int .u32 (R 1 : Int)) ∧ w'.cell? ⟨w.heap.size, 3, none⟩ = some (.int .u32 (R 2 : Int)) ∧ w'.cell? ⟨w.heap.size, 4, none⟩ = some (.int .u32 (R 3 : Int)) ∧ w'.cell? ⟨w.heap.size, 5, none⟩ = some (.int .u32 (R 4 : Int)) ∧ w'.cell? ⟨w.heap.size, 6, none⟩ = some (.int .u32 (R 5 : Int)) ∧ w'.cell? ⟨w.heap.size, 7, none⟩ = some (.int .u32 (R 6 : Int)) ∧ w'.cell? ⟨w.heap.size, 8, none⟩ = some (.int .u32 (R 7 : Int)) ∧ w'.cell? ⟨w.heap.size, 9, none⟩ = some (.slice s2 S.length cap2) ∧ w'.cell? ⟨w.heap.size, 10, none⟩ = some (.int .u8 (why : Int)) ∧ w'.cell? ⟨w.heap.size, 11, none⟩ = some (.int .u64 (ep : Int)) ∧ w'.cell? ⟨w.heap.size, 12, none⟩ = some (.int .u32 (home : Int)) ∧ w'.cell? ⟨w4.heap.size, 1, none⟩ = some (.int .u8 (rd : Int)) ∧ w'.cell? ⟨w4.heap.size, 2, none⟩ = some (.int .u8 (ra : Int)) ∧ w'.cell? ⟨w4.heap.size, 4, none⟩ = some (.int .i32 imm)) (first | exact TX.out | (apply keep16s hb6; assumption) | (apply keep16s hb5; assumption) | go_keep) ((first
    | (go_at_call 37; (with_reducible refine (RA.out _ _ _).mono ?_); rintro en v5 ⟨rfl, hb5⟩; have B5 := Lib.hid ((below_drewN (Below.refl _ X4) 1).trans (hb5.mono (below_drewN (Below.refl X4.heap.size X4) 1).size)))
    | (go_at_call 37; (with_reducible refine (RD.out _ _ _).mono ?_); rintro en v6 ⟨rfl, hb6⟩; have B6 := Lib.hid (B5.out.trans (hb6.mono B5.out.size)))))
  have RS6 := Lib.hid (RS4.out.kept B6.out)
  have KI6 := Lib.hid (KI.out.kept B6.out)
  clear hb5 hb6 B5 B6 RS4 KI TX RA RD
  have t0 : v6.cell? ⟨w.heap.size, 0, none⟩ = some (.int .u32 (pc : Int)) := RS6.out.kh.cell 0
  have i0 : v6.cell? ⟨w4.heap.size, 0, none⟩ = some (.int .u8 (op : Int)) := KI6.out.cell 0
  have i1 : v6.cell? ⟨w4.heap.size, 1, none⟩ = some (.int .u8 (rd : Int)) := KI6.out.cell 1
  have i2 : v6.cell? ⟨w4.heap.size, 2, none⟩ = some (.int .u8 (ra : Int)) := KI6.out.cell 2
  have i3 : v6.cell? ⟨w4.heap.size, 3, none⟩ = some (.int .u8 (rb : Int)) := KI6.out.cell 3
  have i4 : v6.cell? ⟨w4.heap.size, 4, none⟩ = some (.int .i32 imm) := KI6.out.cell 4
  go_wp2_with fail
  refine (TG.out _).mono ?_
  rintro en w7 ⟨rfl, hb⟩
  have RS7 := Lib.hid (RS6.out.kept hb)
  have KI7 := Lib.hid (KI6.out.kept hb)
  clear hb RS6 KI6 TG t0 i0 i1 i2 i3 i4
  have i0 : w7.cell? ⟨w4.heap.size, 0, none⟩ = some (.int .u8 (op : Int)) := KI7.out.cell 0
  rcases HOP.out with hop
  · have HO := Lib.hid (ho0 hop)
    clear ho0
    have hops := Lib.hid hop
    have q0 : ((op : Int) == 0) = false := by rw [beq_eq_false_iff_ne]; omega
    have q1 : ((op : Int) == 1) = false := by rw [beq_eq_false_iff_ne]; omega
    have q2 : ((op : Int) == 2) = false := by rw [beq_eq_false_iff_ne]; omega
    have q11 : ((op : Int) == 11) = false := by rw [beq_eq_false_iff_ne]; omega
    have q12 : ((op : Int) == 12) = false := by rw [beq_eq_false_iff_ne]; omega
    have q13 : ((op : Int) == 13) = false := by rw [beq_eq_false_iff_ne]; omega
    have q15 : ((op : Int) == 15) = false := by rw [beq_eq_false_iff_ne]; omega
    have q16 : ((op : Int) == 16) = false := by rw [beq_eq_false_iff_ne]; omega
    have q14 : ((op : Int) == 14) = false := by rw [beq_eq_false_iff_ne]; omega
    have q17 : ((op : Int) == 17) = false := by rw [beq_eq_false_iff_ne]; omega
    have q18 : ((op : Int) == 18) = false := by rw [beq_eq_false_iff_ne]; omega
    have q19 : ((op : Int) == 19) = false := by rw [beq_eq_false_iff_ne]; omega
    have q20 : ((op : Int) == 20) = false := by rw [beq_eq_false_iff_ne]; omega
    have q21 : ((op : Int) == 21) = false := by rw [beq_eq_false_iff_ne]; omega
    clear hop
    go_upto_region 66 with fail
    clear i0
    have FF : Hid (∀ w5, Below w7.heap.size w7 w5 → ∀ v6 v7 v8, RStep w b cb e G T home o (.returned (.tuple #[.agg #[.int .u32 ((inc pc) : Int), .int .u32 (setR R rd rv 0 : Int), .int .u32 (setR R rd rv 1 : Int), .int .u32 (setR R rd rv 2 : Int), .int .u32 (setR R rd rv 3 : Int), .int .u32 (setR R rd rv 4 : Int), .int .u32 (setR R rd rv 5 : Int), .int .u32 (setR R rd rv 6 : Int), .int .u32 (setR R rd rv 7 : Int), .slice s2 S.length cap2, .int .u8 (why : Int), .int .u64 (ep : Int), .int .u32 (home : Int)], .agg #[.int .u32 (G 0 : Int), .int .u32 (G 1 : Int), .int .u32 (G 2 : Int), .int .u32 (G 3 : Int), .int .u32 (G 4 : Int), .int .u32 (G 5 : Int), .int .u32 (G 6 : Int), .int .u32 (G 7 : Int), .slice (some ⟨b, 0, none⟩) T.length cb, .slice (some ⟨e, 0, none⟩) L.length ce], .agg #[.bool false, .bool false, .int .u32 0, .int .u32 0]])) (((w5.setCells (w.heap.size + 2) 0 v6).setCells (w.heap.size + 3) 0 v7).setCells (w.heap.size + 4) 0 v8)) := Lib.hid fun w5 h5 v6 v7 v8 => by
      rw [HO.out]
      obtain ⟨q1, q2, q3⟩ := RS7.out.fin h5 v6 v7 v8
      exact ⟨.slice s2 S.length cap2, e, ce, rfl, q1, q2, .inl rfl, q3⟩
    have BC : ∀ W, Calls Tryz.prog 37 #[.agg #[.int .u32 (pc : Int), .int .u32 (R 0 : Int), .int .u32 (R 1 : Int), .int .u32 (R 2 : Int), .int .u32 (R 3 : Int), .int .u32 (R 4 : Int), .int .u32 (R 5 : Int), .int .u32 (R 6 : Int), .int .u32 (R 7 : Int), .slice s2 S.length cap2, .int .u8 (why : Int), .int .u64 (ep : Int), .int .u32 (home : Int)], .int .u8 (rb : Int)] W fun e w' => e = .returned (.int .u32 (gb : Int)) ∧ Below W.heap.size W w' := fun W => hgb.out ▸ rr_c W pc R s2 S.length cap2 why ep home rb hrb
    have KC : ∀ W, Calls Tryz.prog 45 #[.int .u8 (op : Int), .int .u32 (ga : Int), .int .u32 (gb : Int)] W fun e w' => e = .returned (.int .u32 (rv : Int)) ∧ Below W.heap.size W w' := fun W => (rreck_c W op ga gb hops.out.1 hops.out.2 hbga.out hbgb.out).mono fun e w' q => ⟨by rw [q.1, hrv.out], by rw [q.2]; exact Below.refl _ _⟩
    have PC : ∀ W, Calls Tryz.prog 40 #[.agg #[.int .u32 (pc : Int), .int .u32 (R 0 : Int), .int .u32 (R 1 : Int), .int .u32 (R 2 : Int), .int .u32 (R 3 : Int), .int .u32 (R 4 : Int), .int .u32 (R 5 : Int), .int .u32 (R 6 : Int), .int .u32 (R 7 : Int), .slice s2 S.length cap2, .int .u8 (why : Int), .int .u64 (ep : Int), .int .u32 (home : Int)], .int .u8 (rd : Int), .int .u32 (rv : Int)] W fun e w' => e = .returned (.agg #[.int .u32 (pc : Int), .int .u32 (setR R rd rv 0 : Int), .int .u32 (setR R rd rv 1 : Int), .int .u32 (setR R rd rv 2 : Int), .int .u32 (setR R rd rv 3 : Int), .int .u32 (setR R rd rv 4 : Int), .int .u32 (setR R rd rv 5 : Int), .int .u32 (setR R rd rv 6 : Int), .int .u32 (setR R rd rv 7 : Int), .slice s2 S.length cap2, .int .u8 (why : Int), .int .u64 (ep : Int), .int .u32 (home : Int)]) ∧ Below W.heap.size W w' := fun W => rputr_c W pc R s2 S.length cap2 why ep home rd rv hrd
    have NC : ∀ W, Calls Tryz.prog 39 #[.agg #[.int .u32 (pc : Int), .int .u32 (setR R rd rv 0 : Int), .int .u32 (setR R rd rv 1 : Int), .int .u32 (setR R rd rv 2 : Int), .int .u32 (setR R rd rv 3 : Int), .int .u32 (setR R rd rv 4 : Int), .int .u32 (setR R rd rv 5 : Int), .int .u32 (setR R rd rv 6 : Int), .int .u32 (setR R rd rv 7 : Int), .slice s2 S.length cap2, .int .u8 (why : Int), .int .u64 (ep : Int), .int .u32 (home : Int)]] W fun e w' => e = .returned (.agg #[.int .u32 ((inc pc) : Int), .int .u32 (setR R rd rv 0 : Int), .int .u32 (setR R rd rv 1 : Int), .int .u32 (setR R rd rv 2 : Int), .int .u32 (setR R rd rv 3 : Int), .int .u32 (setR R rd rv 4 : Int), .int .u32 (setR R rd rv 5 : Int), .int .u32 (setR R rd rv 6 : Int), .int .u32 (setR R rd rv 7 : Int), .slice s2 S.length cap2, .int .u8 (why : Int), .int .u64 (ep : Int), .int .u32 (home : Int)]) ∧ Below W.heap.size W w' := fun W => rnext_c W pc (setR R rd rv) s2 S.length cap2 why ep home
    replace BC := Lib.hid BC
    replace KC := Lib.hid KC
    replace PC := Lib.hid PC
    replace NC := Lib.hid NC
    have TX : Hid (w7.drew.cell? ⟨w.heap.size, 0, none⟩ = some (.int .u32 (pc : Int)) ∧ w7.drew.cell? ⟨w.heap.size, 1, none⟩ = some (.int .u32 (R 0 : Int)) ∧ w7.drew.cell? ⟨w.heap.size, 2, none⟩ = some (.int .u32 (R 1 : Int)) ∧ w7.drew.cell? ⟨w.heap.size, 3, none⟩ = some (.int .u32 (R 2 : Int)) ∧ w7.drew.cell? ⟨w.heap.size, 4, none⟩ = some (.int .u32 (R 3 : Int)) ∧ w7.drew.cell? ⟨w.heap.size, 5, none⟩ = some (.int .u32 (R 4 : Int)) ∧ w7.drew.cell? ⟨w.heap.size, 6, none⟩ = some (.int .u32 (R 5 : Int)) ∧ w7.drew.cell? ⟨w.heap.size, 7, none⟩ = some (.int .u32 (R 6 : Int)) ∧ w7.drew.cell? ⟨w.heap.size, 8, none⟩ = some (.int .u32 (R 7 : Int)) ∧ w7.drew.cell? ⟨w.heap.size, 9, none⟩ = some (.slice s2 S.length cap2) ∧ w7.drew.cell? ⟨w.heap.size, 10, none⟩ = some (.int .u8 (why : Int)) ∧ w7.drew.cell? ⟨w.heap.size, 11, none⟩ = some (.int .u64 (ep : Int)) ∧ w7.drew.cell? ⟨w.heap.size, 12, none⟩ = some (.int .u32 (home : Int)) ∧ w7.drew.cell? ⟨(w.heap.size + 1), 0, none⟩ = some (.int .u32 (G 0 : Int)) ∧ w7.drew.cell? ⟨(w.heap.size + 1), 1, none⟩ = some (.int .u32 (G 1 : Int)) ∧ w7.drew.cell? ⟨(w.heap.size + 1), 2, none⟩ = some (.int .u32 (G 2 : Int)) ∧ w7.drew.cell? ⟨(w.heap.size + 1), 3, none⟩ = some (.int .u32 (G 3 : Int)) ∧ w7.drew.cell? ⟨(w.heap.size + 1), 4, none⟩ = some (.int .u32 (G 4 : Int)) ∧ w7.drew.cell? ⟨(w.heap.size + 1), 5, none⟩ = some (.int .u32 (G 5 : Int)) ∧ w7.drew.cell? ⟨(w.heap.size + 1), 6, none⟩ = some (.int .u32 (G 6 : Int)) ∧ w7.drew.cell? ⟨(w.heap.size + 1), 7, none⟩ = some (.int .u32 (G 7 : Int)) ∧ w7.drew.cell? ⟨(w.heap.size + 1), 8, none⟩ = some (.slice (some ⟨b, 0, none⟩) T.length cb) ∧ w7.drew.cell? ⟨(w.heap.size + 1), 9, none⟩ = some (.slice (some ⟨e, 0, none⟩) L.length ce) ∧ w7.drew.cell? ⟨w4.heap.size, 0, none⟩ = some (.int .u8 (op : Int)) ∧ w7.drew.cell? ⟨w4.heap.size, 1, none⟩ = some (.int .u8 (rd : Int)) ∧ w7.drew.cell? ⟨w4.heap.size, 3, none⟩ = some (.int .u8 (rb : Int))) := Lib.hid ⟨RS7.out.kh.cell 0, RS7.out.kh.cell 1, RS7.out.kh.cell 2, RS7.out.kh.cell 3, RS7.out.kh.cell 4, RS7.out.kh.cell 5, RS7.out.kh.cell 6, RS7.out.kh.cell 7, RS7.out.kh.cell 8, RS7.out.kh.cell 9, RS7.out.kh.cell 10, RS7.out.kh.cell 11, RS7.out.kh.cell 12, RS7.out.km.cell 0, RS7.out.km.cell 1, RS7.out.km.cell 2, RS7.out.km.cell 3, RS7.out.km.cell 4, RS7.out.km.cell 5, RS7.out.km.cell 6, RS7.out.km.cell 7, RS7.out.km.cell 8, RS7.out.km.cell 9, KI7.out.cell 0, KI7.out.cell 1, KI7.out.cell 3⟩
    have dd0 : w.heap.size ≠ w.heap.size + 1 + 1 := by omega
    have dd1 : w.heap.size ≠ w.heap.size + 1 + 1 + 1 := by omega
    have dd2 : w.heap.size ≠ w.heap.size + 1 + 1 + 1 + 1 := by omega
    have dd3 : (w.heap.size + 1) ≠ w.heap.size + 1 + 1 := by omega
    have dd4 : (w.heap.size + 1) ≠ w.heap.size + 1 + 1 + 1 := by omega
    have dd5 : (w.heap.size + 1) ≠ w.heap.size + 1 + 1 + 1 + 1 := by omega
    have dd6 : w4.heap.size ≠ w.heap.size + 1 + 1 := by omega
    have dd7 : w4.heap.size ≠ w.heap.size + 1 + 1 + 1 := by omega
    have dd8 : w4.heap.size ≠ w.heap.size + 1 + 1 + 1 + 1 := by omega
    go_region_held3 (fun w' => w'.cell? ⟨w.heap.size, 0, none⟩ = some (.int .u32 (pc : Int)) ∧ w'.cell? ⟨w.heap.size, 1, none⟩ = some (.int .u32 (R 0 : Int)) ∧ w'.cell? ⟨w.heap.size, 2, none⟩ = some (.int .u32 (R 1 : Int)) ∧ w'.cell? ⟨w.heap.size, 3, none⟩ = some (.int .u32 (R 2 : Int)) ∧ w'.cell? ⟨w.heap.size, 4, none⟩ = some (.int .u32 (R 3 : Int)) ∧ w'.cell? ⟨w.heap.size, 5, none⟩ = some (.int .u32 (R 4 : Int)) ∧ w'.cell? ⟨w.heap.size, 6, none⟩ = some (.int .u32 (R 5 : Int)) ∧ w'.cell? ⟨w.heap.size, 7, none⟩ = some (.int .u32 (R 6 : Int)) ∧ w'.cell? ⟨w.heap.size, 8, none⟩ = some (.int .u32 (R 7 : Int)) ∧ w'.cell? ⟨w.heap.size, 9, none⟩ = some (.slice s2 S.length cap2) ∧ w'.cell? ⟨w.heap.size, 10, none⟩ = some (.int .u8 (why : Int)) ∧ w'.cell? ⟨w.heap.size, 11, none⟩ = some (.int .u64 (ep : Int)) ∧ w'.cell? ⟨w.heap.size, 12, none⟩ = some (.int .u32 (home : Int)) ∧ w'.cell? ⟨(w.heap.size + 1), 0, none⟩ = some (.int .u32 (G 0 : Int)) ∧ w'.cell? ⟨(w.heap.size + 1), 1, none⟩ = some (.int .u32 (G 1 : Int)) ∧ w'.cell? ⟨(w.heap.size + 1), 2, none⟩ = some (.int .u32 (G 2 : Int)) ∧ w'.cell? ⟨(w.heap.size + 1), 3, none⟩ = some (.int .u32 (G 3 : Int)) ∧ w'.cell? ⟨(w.heap.size + 1), 4, none⟩ = some (.int .u32 (G 4 : Int)) ∧ w'.cell? ⟨(w.heap.size + 1), 5, none⟩ = some (.int .u32 (G 5 : Int)) ∧ w'.cell? ⟨(w.heap.size + 1), 6, none⟩ = some (.int .u32 (G 6 : Int)) ∧ w'.cell? ⟨(w.heap.size + 1), 7, none⟩ = some (.int .u32 (G 7 : Int)) ∧ w'.cell? ⟨(w.heap.size + 1), 8, none⟩ = some (.slice (some ⟨b, 0, none⟩) T.length cb) ∧ w'.cell? ⟨(w.heap.size + 1), 9, none⟩ = some (.slice (some ⟨e, 0, none⟩) L.length ce) ∧ w'.cell? ⟨w4.heap.size, 0, none⟩ = some (.int .u8 (op : Int)) ∧ w'.cell? ⟨w4.heap.size, 1, none⟩ = some (.int .u8 (rd : Int)) ∧ w'.cell? ⟨w4.heap.size, 3, none⟩ = some (.int .u8 (rb : Int))) (first | (with_reducible ((iterate 13 (refine keep26s dd0 dd3 dd6 ?_)); assumption)) | (with_reducible ((iterate 10 (refine keep26s dd1 dd4 dd7 ?_)); assumption)) | (with_reducible ((iterate 4 (refine keep26s dd2 dd5 dd8 ?_)); assumption)) | (with_reducible exact TX.out) | (with_reducible (refine keep26 hb3 ?_; assumption)) | (with_reducible (refine keep26 hb2 ?_; assumption)) | (with_reducible (refine keep26 hb1 ?_; assumption)) | (with_reducible (refine keep26 hb0 ?_; assumption))) ((first | (go_at_call 37; (with_reducible refine (BC.out _).mono ?_); rintro en v0 ⟨rfl, hb0⟩; have BE0 : Hid (Below w7.heap.size w7 v0) := Lib.hid ((below_drewN (Below.refl _ w7) 1).trans (hb0.mono (below_drewN (Below.refl w7.heap.size w7) 1).size))) | (go_at_call 45; (with_reducible refine (KC.out _).mono ?_); rintro en v1 ⟨rfl, hb1⟩; have BE1 : Hid (Below w7.heap.size w7 v1) := Lib.hid (BE0.out.trans (hb1.mono BE0.out.size))) | (go_at_call 40; (with_reducible refine (PC.out _).mono ?_); rintro en v2 ⟨rfl, hb2⟩; have BE2 : Hid (Below w7.heap.size w7 v2) := Lib.hid (BE1.out.trans (hb2.mono BE1.out.size))) | (go_at_call 39; (with_reducible refine (NC.out _).mono ?_); rintro en v3 ⟨rfl, hb3⟩; have BE : Hid (Below w7.heap.size w7 v3) := Lib.hid (BE2.out.trans (hb3.mono BE2.out.size)); have kk3 := RS7.out.kept BE.out; obtain ⟨z0, fz0, z1, fz1, z2, fz2, z3, fz3, z4, fz4, z5, fz5, z6, fz6, z7, fz7, z8, fz8, z9, fz9, z10, fz10, z11, fz11, z12, fz12, y0, fy0, y1, fy1, y2, fy2, y3, fy3, y4, fy4, y5, fy5, y6, fy6, y7, fy7, y8, fy8, y9, fy9, n0, fn0, n1, fn1, n2, fn2, n3, fn3⟩ := RS.rf (kk3); clear kk3)))
    all_goals
      go_wp2_with fail
      refine bodyPost_ret (v := .tuple #[.agg #[.int .u32 ((inc pc) : Int), .int .u32 (setR R rd rv 0 : Int), .int .u32 (setR R rd rv 1 : Int), .int .u32 (setR R rd rv 2 : Int), .int .u32 (setR R rd rv 3 : Int), .int .u32 (setR R rd rv 4 : Int), .int .u32 (setR R rd rv 5 : Int), .int .u32 (setR R rd rv 6 : Int), .int .u32 (setR R rd rv 7 : Int), .slice s2 S.length cap2, .int .u8 (why : Int), .int .u64 (ep : Int), .int .u32 (home : Int)], .agg #[.int .u32 (G 0 : Int), .int .u32 (G 1 : Int), .int .u32 (G 2 : Int), .int .u32 (G 3 : Int), .int .u32 (G 4 : Int), .int .u32 (G 5 : Int), .int .u32 (G 6 : Int), .int .u32 (G 7 : Int), .slice (some ⟨b, 0, none⟩) T.length cb, .slice (some ⟨e, 0, none⟩) L.length ce], .agg #[.bool false, .bool false, .int .u32 0, .int .u32 0]]) (by simp [results, Tryz.results8, go_sem, *]) rfl ?_
      exact FF.out _ BE.out [.int .u32 ((inc pc) : Int), .int .u32 (setR R rd rv 0 : Int), .int .u32 (setR R rd rv 1 : Int), .int .u32 (setR R rd rv 2 : Int), .int .u32 (setR R rd rv 3 : Int), .int .u32 (setR R rd rv 4 : Int), .int .u32 (setR R rd rv 5 : Int), .int .u32 (setR R rd rv 6 : Int), .int .u32 (setR R rd rv 7 : Int), .slice s2 S.length cap2, .int .u8 (why : Int), .int .u64 (ep : Int), .int .u32 (home : Int)] [.int .u32 (G 0 : Int), .int .u32 (G 1 : Int), .int .u32 (G 2 : Int), .int .u32 (G 3 : Int), .int .u32 (G 4 : Int), .int .u32 (G 5 : Int), .int .u32 (G 6 : Int), .int .u32 (G 7 : Int), .slice (some ⟨b, 0, none⟩) T.length cb, .slice (some ⟨e, 0, none⟩) L.length ce] [.bool false, .bool false, .int .u32 0, .int .u32 0]
end Go.Proofs.YthnbdeibjbicpaaGreat.PM
