/- budwoodref09's Step: a hart that stands still. Conditions: the cells. -/
import Derived.Test.YthnbdeibjbicpaaGreatStepB
import Derived.Deep.Cut
import Derived.Deep.RegionWith
namespace Go.Proofs.YthnbdeibjbicpaaGreat.PM
set_option linter.unusedVariables false
set_option linter.unusedSimpArgs false
open Go.RowKit
set_option maxRecDepth 100000 in
set_option maxHeartbeats 16000000 in
theorem rstep_still (w : World) (b cb e ce : Nat) (G : Nat → Nat) (T : List Page) (L : List Nat) (pc : Nat) (R : Nat → Nat) (S : List Nat) (ep home epoch why : Nat) (src : Option Addr) (cap : Nat) (r : RM w b e T L) (hS : Stk w src S) (hn : S.length < 35184372088832) (hw : ((why : Int) != 0) = true) :
    Calls Tryz.prog 8 #[.agg #[.int .u32 (pc : Int), .int .u32 (R 0 : Int), .int .u32 (R 1 : Int), .int .u32 (R 2 : Int), .int .u32 (R 3 : Int), .int .u32 (R 4 : Int), .int .u32 (R 5 : Int), .int .u32 (R 6 : Int), .int .u32 (R 7 : Int), .slice src S.length cap, .int .u8 (why : Int), .int .u64 (ep : Int), .int .u32 (home : Int)], .agg #[.int .u32 (G 0 : Int), .int .u32 (G 1 : Int), .int .u32 (G 2 : Int), .int .u32 (G 3 : Int), .int .u32 (G 4 : Int), .int .u32 (G 5 : Int), .int .u32 (G 6 : Int), .int .u32 (G 7 : Int), .slice (some ⟨b, 0, none⟩) T.length cb, .slice (some ⟨e, 0, none⟩) L.length ce], .int .u64 (epoch : Int)] w fun en w' => RStep w b cb e G T home ⟨pc, R, S, why, ep, L, false, false, 0, 0⟩ en w' := by
  have CC : ∀ W, Stk W src S → Calls Tryz.prog 6 #[.agg #[.int .u32 (pc : Int), .int .u32 (R 0 : Int), .int .u32 (R 1 : Int), .int .u32 (R 2 : Int), .int .u32 (R 3 : Int), .int .u32 (R 4 : Int), .int .u32 (R 5 : Int), .int .u32 (R 6 : Int), .int .u32 (R 7 : Int), .slice src S.length cap, .int .u8 (why : Int), .int .u64 (ep : Int), .int .u32 (home : Int)]] W fun e w' => Copied9 W pc R why ep home S e w' := fun W q => rcopy_c W pc R src cap why ep home S q hn
  replace CC := Lib.hid CC
  generalize hW : ((((w.alloc (.cells #[.int .u32 (pc : Int), .int .u32 (R 0 : Int), .int .u32 (R 1 : Int), .int .u32 (R 2 : Int), .int .u32 (R 3 : Int), .int .u32 (R 4 : Int), .int .u32 (R 5 : Int), .int .u32 (R 6 : Int), .int .u32 (R 7 : Int), .slice src S.length cap, .int .u8 (why : Int), .int .u64 (ep : Int), .int .u32 (home : Int)] 30)).alloc (.cells #[.int .u32 (G 0 : Int), .int .u32 (G 1 : Int), .int .u32 (G 2 : Int), .int .u32 (G 3 : Int), .int .u32 (G 4 : Int), .int .u32 (G 5 : Int), .int .u32 (G 6 : Int), .int .u32 (G 7 : Int), .slice (some ⟨b, 0, none⟩) T.length cb, .slice (some ⟨e, 0, none⟩) L.length ce] 36)).alloc (.cells #[.int .u32 0, .int .u32 0, .int .u32 0, .int .u32 0, .int .u32 0, .int .u32 0, .int .u32 0, .int .u32 0, .int .u32 0, .slice none 0 0, .int .u8 0, .int .u64 0, .int .u32 0] 30)).alloc (.cells #[.int .u32 0, .int .u32 0, .int .u32 0, .int .u32 0, .int .u32 0, .int .u32 0, .int .u32 0, .int .u32 0, .slice none 0 0, .slice none 0 0] 36)).alloc (.cells #[.bool false, .bool false, .int .u32 0, .int .u32 0] 44) = W0
  have BW : Hid (Below w.heap.size w W0) := Lib.hid (hW ▸ ((((((Below.refl _ w).alloc (Nat.le_refl _) _).alloc (by simp) _).alloc (by simp; omega) _).alloc (by simp; omega) _).alloc (by simp; omega) _))
  have KW := Lib.hid hW
  have HS := Lib.hid hS
  have RR := Lib.hid r
  clear hW hS r hn
  go_enter Tryz.func8, Tryz.ntmps8
  go_wp2_with fail
  (try rw [KW.out])
  refine (CC.out _ (HS.out.kept BW.out)).mono ?_
  rintro en w1 ⟨v, rfl, ow, hb⟩
  obtain ⟨s2, cap2, rfl, _⟩ := ow.form
  have RS0 := Lib.hid (rs_start KW.out RR.out hb ow)
  have RS1 : Hid (RS w (w1.setCells w.heap.size 0 [.int .u32 (pc : Int), .int .u32 (R 0 : Int), .int .u32 (R 1 : Int), .int .u32 (R 2 : Int), .int .u32 (R 3 : Int), .int .u32 (R 4 : Int), .int .u32 (R 5 : Int), .int .u32 (R 6 : Int), .int .u32 (R 7 : Int), .slice s2 S.length cap2, .int .u8 (why : Int), .int .u64 (ep : Int), .int .u32 (home : Int)]) #[.int .u32 (pc : Int), .int .u32 (R 0 : Int), .int .u32 (R 1 : Int), .int .u32 (R 2 : Int), .int .u32 (R 3 : Int), .int .u32 (R 4 : Int), .int .u32 (R 5 : Int), .int .u32 (R 6 : Int), .int .u32 (R 7 : Int), .slice s2 S.length cap2, .int .u8 (why : Int), .int .u64 (ep : Int), .int .u32 (home : Int)] #[.int .u32 (G 0 : Int), .int .u32 (G 1 : Int), .int .u32 (G 2 : Int), .int .u32 (G 3 : Int), .int .u32 (G 4 : Int), .int .u32 (G 5 : Int), .int .u32 (G 6 : Int), .int .u32 (G 7 : Int), .slice (some ⟨b, 0, none⟩) T.length cb, .slice (some ⟨e, 0, none⟩) L.length ce] (.slice s2 S.length cap2) S b e T L) := Lib.hid (RS0.out.all _ _ _ _ _ _ _ _ _ _ _ _ _)
  unfold hv
  clear ow hb CC BW RR HS
  obtain ⟨t0, ft0, t1, ft1, t2, ft2, t3, ft3, t4, ft4, t5, ft5, t6, ft6, t7, ft7, t8, ft8, t9, ft9, t10, ft10, t11, ft11, t12, ft12⟩ := blkf13 RS0.out.kh
  go_upto_region 2 with fail
  generalize hX1 : w1.setCells w.heap.size 0 [.int .u32 (pc : Int), .int .u32 (R 0 : Int), .int .u32 (R 1 : Int), .int .u32 (R 2 : Int), .int .u32 (R 3 : Int), .int .u32 (R 4 : Int), .int .u32 (R 5 : Int), .int .u32 (R 6 : Int), .int .u32 (R 7 : Int), .slice s2 S.length cap2, .int .u8 (why : Int), .int .u64 (ep : Int), .int .u32 (home : Int)] = X1 at RS1
  simp only [World.setCells, Nat.zero_add, Nat.reduceAdd] at hX1
  (try rw [hX1])
  clear hX1 RS0 KW t0 t1 t2 t3 t4 t5 t6 t7 t8 t9 t10 t11 t12 ft0 ft1 ft2 ft3 ft4 ft5 ft6 ft7 ft8 ft9 ft10 ft11 ft12
  have t10 : X1.cell? ⟨w.heap.size, 10, none⟩ = some (.int .u8 (why : Int)) := RS1.out.kh.cell 10
  go_upto_region 3 with fail
  clear t10
  have FF : Hid (∀ v6 v7 v8, RStep w b cb e G T home ⟨pc, R, S, why, ep, L, false, false, 0, 0⟩ (.returned (.tuple #[.agg #[.int .u32 (pc : Int), .int .u32 (R 0 : Int), .int .u32 (R 1 : Int), .int .u32 (R 2 : Int), .int .u32 (R 3 : Int), .int .u32 (R 4 : Int), .int .u32 (R 5 : Int), .int .u32 (R 6 : Int), .int .u32 (R 7 : Int), .slice s2 S.length cap2, .int .u8 (why : Int), .int .u64 (ep : Int), .int .u32 (home : Int)], .agg #[.int .u32 (G 0 : Int), .int .u32 (G 1 : Int), .int .u32 (G 2 : Int), .int .u32 (G 3 : Int), .int .u32 (G 4 : Int), .int .u32 (G 5 : Int), .int .u32 (G 6 : Int), .int .u32 (G 7 : Int), .slice (some ⟨b, 0, none⟩) T.length cb, .slice (some ⟨e, 0, none⟩) L.length ce], .agg #[.bool false, .bool false, .int .u32 0, .int .u32 0]])) ((((X1.setCells (w.heap.size + 2) 0 v6).setCells (w.heap.size + 3) 0 v7).setCells (w.heap.size + 4) 0 v8).drewN 1)) := Lib.hid fun v6 v7 v8 => by
    obtain ⟨q1, q2, q3⟩ := RS1.out.fin (Below.refl _ _) v6 v7 v8
    exact ⟨.slice s2 S.length cap2, e, ce, rfl, q1.kept (below_drewN (Below.refl _ _) 1), q2.drewN 1, .inl rfl, below_drewN q3 1⟩
  obtain ⟨t0, t1, t2, t3, t4, t5, t6, t7, t8, t9, t10, t11, t12⟩ := RS.hf (RS1.out)
  obtain ⟨m0, m1, m2, m3, m4, m5, m6, m7, m8, m9⟩ := RS.mf (RS1.out)
  obtain ⟨z0, fz0, z1, fz1, z2, fz2, z3, fz3, z4, fz4, z5, fz5, z6, fz6, z7, fz7, z8, fz8, z9, fz9, z10, fz10, z11, fz11, z12, fz12, y0, fy0, y1, fy1, y2, fy2, y3, fy3, y4, fy4, y5, fy5, y6, fy6, y7, fy7, y8, fy8, y9, fy9, n0, fn0, n1, fn1, n2, fn2, n3, fn3⟩ := RS.rf (RS1.out)
  clear RS1
  go_region
  all_goals
    go_wp2_with fail
    refine bodyPost_ret (v := .tuple #[.agg #[.int .u32 (pc : Int), .int .u32 (R 0 : Int), .int .u32 (R 1 : Int), .int .u32 (R 2 : Int), .int .u32 (R 3 : Int), .int .u32 (R 4 : Int), .int .u32 (R 5 : Int), .int .u32 (R 6 : Int), .int .u32 (R 7 : Int), .slice s2 S.length cap2, .int .u8 (why : Int), .int .u64 (ep : Int), .int .u32 (home : Int)], .agg #[.int .u32 (G 0 : Int), .int .u32 (G 1 : Int), .int .u32 (G 2 : Int), .int .u32 (G 3 : Int), .int .u32 (G 4 : Int), .int .u32 (G 5 : Int), .int .u32 (G 6 : Int), .int .u32 (G 7 : Int), .slice (some ⟨b, 0, none⟩) T.length cb, .slice (some ⟨e, 0, none⟩) L.length ce], .agg #[.bool false, .bool false, .int .u32 0, .int .u32 0]]) (by simp [results, Tryz.results8, go_sem, *]) rfl ?_
    exact FF.out [.int .u32 (pc : Int), .int .u32 (R 0 : Int), .int .u32 (R 1 : Int), .int .u32 (R 2 : Int), .int .u32 (R 3 : Int), .int .u32 (R 4 : Int), .int .u32 (R 5 : Int), .int .u32 (R 6 : Int), .int .u32 (R 7 : Int), .slice s2 S.length cap2, .int .u8 (why : Int), .int .u64 (ep : Int), .int .u32 (home : Int)] [.int .u32 (G 0 : Int), .int .u32 (G 1 : Int), .int .u32 (G 2 : Int), .int .u32 (G 3 : Int), .int .u32 (G 4 : Int), .int .u32 (G 5 : Int), .int .u32 (G 6 : Int), .int .u32 (G 7 : Int), .slice (some ⟨b, 0, none⟩) T.length cb, .slice (some ⟨e, 0, none⟩) L.length ce] [.bool false, .bool false, .int .u32 0, .int .u32 0]
end Go.Proofs.YthnbdeibjbicpaaGreat.PM

/- budwoodref09's Step: nothing is fetched. Conditions: the cells. -/
namespace Go.Proofs.YthnbdeibjbicpaaGreat.PM
set_option linter.unusedVariables false
set_option linter.unusedSimpArgs false
open Go.RowKit
set_option maxRecDepth 100000 in
set_option maxHeartbeats 16000000 in
theorem rstep_fetch (w : World) (b cb e ce : Nat) (G : Nat → Nat) (T : List Page) (L : List Nat) (pc : Nat) (R : Nat → Nat) (S : List Nat) (ep home epoch why : Nat) (src : Option Addr) (cap : Nat) (r : RM w b e T L) (hS : Stk w src S) (hn : S.length < 35184372088832) (f0 f1 : Nat) (hw : ((why : Int) != 0) = false) (FC : ∀ W, RM W b e T L → Calls Tryz.prog 34 #[.agg #[.int .u32 (G 0 : Int), .int .u32 (G 1 : Int), .int .u32 (G 2 : Int), .int .u32 (G 3 : Int), .int .u32 (G 4 : Int), .int .u32 (G 5 : Int), .int .u32 (G 6 : Int), .int .u32 (G 7 : Int), .slice (some ⟨b, 0, none⟩) T.length cb, .slice (some ⟨e, 0, none⟩) L.length ce], .int .u32 (pc : Int), .int .u64 (ep : Int)] W fun e w' => e = .returned (.tuple #[.int .u32 (f0 : Int), .int .u16 (f1 : Int), .bool false]) ∧ Below W.heap.size W w') :
    Calls Tryz.prog 8 #[.agg #[.int .u32 (pc : Int), .int .u32 (R 0 : Int), .int .u32 (R 1 : Int), .int .u32 (R 2 : Int), .int .u32 (R 3 : Int), .int .u32 (R 4 : Int), .int .u32 (R 5 : Int), .int .u32 (R 6 : Int), .int .u32 (R 7 : Int), .slice src S.length cap, .int .u8 (why : Int), .int .u64 (ep : Int), .int .u32 (home : Int)], .agg #[.int .u32 (G 0 : Int), .int .u32 (G 1 : Int), .int .u32 (G 2 : Int), .int .u32 (G 3 : Int), .int .u32 (G 4 : Int), .int .u32 (G 5 : Int), .int .u32 (G 6 : Int), .int .u32 (G 7 : Int), .slice (some ⟨b, 0, none⟩) T.length cb, .slice (some ⟨e, 0, none⟩) L.length ce], .int .u64 (epoch : Int)] w fun en w' => RStep w b cb e G T home ⟨pc, R, S, 2, ep, L, false, false, 0, 0⟩ en w' := by
  replace FC := Lib.hid FC
  have CC : ∀ W, Stk W src S → Calls Tryz.prog 6 #[.agg #[.int .u32 (pc : Int), .int .u32 (R 0 : Int), .int .u32 (R 1 : Int), .int .u32 (R 2 : Int), .int .u32 (R 3 : Int), .int .u32 (R 4 : Int), .int .u32 (R 5 : Int), .int .u32 (R 6 : Int), .int .u32 (R 7 : Int), .slice src S.length cap, .int .u8 (why : Int), .int .u64 (ep : Int), .int .u32 (home : Int)]] W fun e w' => Copied9 W pc R why ep home S e w' := fun W q => rcopy_c W pc R src cap why ep home S q hn
  replace CC := Lib.hid CC
  generalize hW : ((((w.alloc (.cells #[.int .u32 (pc : Int), .int .u32 (R 0 : Int), .int .u32 (R 1 : Int), .int .u32 (R 2 : Int), .int .u32 (R 3 : Int), .int .u32 (R 4 : Int), .int .u32 (R 5 : Int), .int .u32 (R 6 : Int), .int .u32 (R 7 : Int), .slice src S.length cap, .int .u8 (why : Int), .int .u64 (ep : Int), .int .u32 (home : Int)] 30)).alloc (.cells #[.int .u32 (G 0 : Int), .int .u32 (G 1 : Int), .int .u32 (G 2 : Int), .int .u32 (G 3 : Int), .int .u32 (G 4 : Int), .int .u32 (G 5 : Int), .int .u32 (G 6 : Int), .int .u32 (G 7 : Int), .slice (some ⟨b, 0, none⟩) T.length cb, .slice (some ⟨e, 0, none⟩) L.length ce] 36)).alloc (.cells #[.int .u32 0, .int .u32 0, .int .u32 0, .int .u32 0, .int .u32 0, .int .u32 0, .int .u32 0, .int .u32 0, .int .u32 0, .slice none 0 0, .int .u8 0, .int .u64 0, .int .u32 0] 30)).alloc (.cells #[.int .u32 0, .int .u32 0, .int .u32 0, .int .u32 0, .int .u32 0, .int .u32 0, .int .u32 0, .int .u32 0, .slice none 0 0, .slice none 0 0] 36)).alloc (.cells #[.bool false, .bool false, .int .u32 0, .int .u32 0] 44) = W0
  have BW : Hid (Below w.heap.size w W0) := Lib.hid (hW ▸ ((((((Below.refl _ w).alloc (Nat.le_refl _) _).alloc (by simp) _).alloc (by simp; omega) _).alloc (by simp; omega) _).alloc (by simp; omega) _))
  have KW := Lib.hid hW
  have HS := Lib.hid hS
  have RR := Lib.hid r
  clear hW hS r hn
  go_enter Tryz.func8, Tryz.ntmps8
  go_wp2_with fail
  (try rw [KW.out])
  refine (CC.out _ (HS.out.kept BW.out)).mono ?_
  rintro en w1 ⟨v, rfl, ow, hb⟩
  obtain ⟨s2, cap2, rfl, _⟩ := ow.form
  have RS0 := Lib.hid (rs_start KW.out RR.out hb ow)
  have RS1 : Hid (RS w (w1.setCells w.heap.size 0 [.int .u32 (pc : Int), .int .u32 (R 0 : Int), .int .u32 (R 1 : Int), .int .u32 (R 2 : Int), .int .u32 (R 3 : Int), .int .u32 (R 4 : Int), .int .u32 (R 5 : Int), .int .u32 (R 6 : Int), .int .u32 (R 7 : Int), .slice s2 S.length cap2, .int .u8 (why : Int), .int .u64 (ep : Int), .int .u32 (home : Int)]) #[.int .u32 (pc : Int), .int .u32 (R 0 : Int), .int .u32 (R 1 : Int), .int .u32 (R 2 : Int), .int .u32 (R 3 : Int), .int .u32 (R 4 : Int), .int .u32 (R 5 : Int), .int .u32 (R 6 : Int), .int .u32 (R 7 : Int), .slice s2 S.length cap2, .int .u8 (why : Int), .int .u64 (ep : Int), .int .u32 (home : Int)] #[.int .u32 (G 0 : Int), .int .u32 (G 1 : Int), .int .u32 (G 2 : Int), .int .u32 (G 3 : Int), .int .u32 (G 4 : Int), .int .u32 (G 5 : Int), .int .u32 (G 6 : Int), .int .u32 (G 7 : Int), .slice (some ⟨b, 0, none⟩) T.length cb, .slice (some ⟨e, 0, none⟩) L.length ce] (.slice s2 S.length cap2) S b e T L) := Lib.hid (RS0.out.all _ _ _ _ _ _ _ _ _ _ _ _ _)
  unfold hv
  clear ow hb CC BW RR HS
  obtain ⟨t0, ft0, t1, ft1, t2, ft2, t3, ft3, t4, ft4, t5, ft5, t6, ft6, t7, ft7, t8, ft8, t9, ft9, t10, ft10, t11, ft11, t12, ft12⟩ := blkf13 RS0.out.kh
  go_upto_region 2 with fail
  generalize hX1 : w1.setCells w.heap.size 0 [.int .u32 (pc : Int), .int .u32 (R 0 : Int), .int .u32 (R 1 : Int), .int .u32 (R 2 : Int), .int .u32 (R 3 : Int), .int .u32 (R 4 : Int), .int .u32 (R 5 : Int), .int .u32 (R 6 : Int), .int .u32 (R 7 : Int), .slice s2 S.length cap2, .int .u8 (why : Int), .int .u64 (ep : Int), .int .u32 (home : Int)] = X1 at RS1
  simp only [World.setCells, Nat.zero_add, Nat.reduceAdd] at hX1
  (try rw [hX1])
  clear hX1 RS0 KW t0 t1 t2 t3 t4 t5 t6 t7 t8 t9 t10 t11 t12 ft0 ft1 ft2 ft3 ft4 ft5 ft6 ft7 ft8 ft9 ft10 ft11 ft12
  have t0 : X1.cell? ⟨w.heap.size, 0, none⟩ = some (.int .u32 (pc : Int)) := RS1.out.kh.cell 0
  have t10 : X1.cell? ⟨w.heap.size, 10, none⟩ = some (.int .u8 (why : Int)) := RS1.out.kh.cell 10
  have t11 : X1.cell? ⟨w.heap.size, 11, none⟩ = some (.int .u64 (ep : Int)) := RS1.out.kh.cell 11
  obtain ⟨m0, m1, m2, m3, m4, m5, m6, m7, m8, m9⟩ := RS.mf (RS1.out)
  go_wp2_with fail
  refine (FC.out _ RS1.out.rm).mono ?_
  rintro en w3 ⟨rfl, hb⟩
  have RS3 := Lib.hid (RS1.out.kept hb)
  clear hb RS1 t0 t10 t11 m0 m1 m2 m3 m4 m5 m6 m7 m8 m9
  go_upto_region 6 with fail
  have FF : Hid (∀ w5, Below w3.heap.size w3 w5 → ∀ v6 v7 v8, RStep w b cb e G T home ⟨pc, R, S, 2, ep, L, false, false, 0, 0⟩ (.returned (.tuple #[.agg #[.int .u32 (pc : Int), .int .u32 (R 0 : Int), .int .u32 (R 1 : Int), .int .u32 (R 2 : Int), .int .u32 (R 3 : Int), .int .u32 (R 4 : Int), .int .u32 (R 5 : Int), .int .u32 (R 6 : Int), .int .u32 (R 7 : Int), .slice s2 S.length cap2, .int .u8 2, .int .u64 (ep : Int), .int .u32 (home : Int)], .agg #[.int .u32 (G 0 : Int), .int .u32 (G 1 : Int), .int .u32 (G 2 : Int), .int .u32 (G 3 : Int), .int .u32 (G 4 : Int), .int .u32 (G 5 : Int), .int .u32 (G 6 : Int), .int .u32 (G 7 : Int), .slice (some ⟨b, 0, none⟩) T.length cb, .slice (some ⟨e, 0, none⟩) L.length ce], .agg #[.bool false, .bool false, .int .u32 0, .int .u32 0]])) (((w5.setCells (w.heap.size + 2) 0 v6).setCells (w.heap.size + 3) 0 v7).setCells (w.heap.size + 4) 0 v8)) := Lib.hid fun w5 h5 v6 v7 v8 => by
    obtain ⟨q1, q2, q3⟩ := RS3.out.fin h5 v6 v7 v8
    exact ⟨.slice s2 S.length cap2, e, ce, rfl, q1, q2, .inl rfl, q3⟩
  have SC : ∀ W, Calls Tryz.prog 35 #[.agg #[.int .u32 (pc : Int), .int .u32 (R 0 : Int), .int .u32 (R 1 : Int), .int .u32 (R 2 : Int), .int .u32 (R 3 : Int), .int .u32 (R 4 : Int), .int .u32 (R 5 : Int), .int .u32 (R 6 : Int), .int .u32 (R 7 : Int), .slice s2 S.length cap2, .int .u8 (why : Int), .int .u64 (ep : Int), .int .u32 (home : Int)], .int .u8 2] W fun e w' => e = .returned (.agg #[.int .u32 (pc : Int), .int .u32 (R 0 : Int), .int .u32 (R 1 : Int), .int .u32 (R 2 : Int), .int .u32 (R 3 : Int), .int .u32 (R 4 : Int), .int .u32 (R 5 : Int), .int .u32 (R 6 : Int), .int .u32 (R 7 : Int), .slice s2 S.length cap2, .int .u8 2, .int .u64 (ep : Int), .int .u32 (home : Int)]) ∧ Below W.heap.size W w' := fun W => rstill_c W pc R s2 S.length cap2 why ep home 2
  replace SC := Lib.hid SC
  obtain ⟨t0, t1, t2, t3, t4, t5, t6, t7, t8, t9, t10, t11, t12⟩ := RS.hf (RS3.out)
  obtain ⟨m0, m1, m2, m3, m4, m5, m6, m7, m8, m9⟩ := RS.mf (RS3.out)
  go_region_with (go_at_call 35; (with_reducible refine (SC.out _).mono ?_); rintro en v0 ⟨rfl, hb0⟩; have BE : Hid (Below w3.heap.size w3 v0) := Lib.hid ((below_drewN (Below.refl _ w3) 1).trans (hb0.mono (below_drewN (Below.refl w3.heap.size w3) 1).size)); have kk0 := RS3.out.kept BE.out; obtain ⟨m0_0, m0_1, m0_2, m0_3, m0_4, m0_5, m0_6, m0_7, m0_8, m0_9⟩ := RS.mf (kk0); obtain ⟨z0, fz0, z1, fz1, z2, fz2, z3, fz3, z4, fz4, z5, fz5, z6, fz6, z7, fz7, z8, fz8, z9, fz9, z10, fz10, z11, fz11, z12, fz12, y0, fy0, y1, fy1, y2, fy2, y3, fy3, y4, fy4, y5, fy5, y6, fy6, y7, fy7, y8, fy8, y9, fy9, n0, fn0, n1, fn1, n2, fn2, n3, fn3⟩ := RS.rf (kk0); clear kk0 hb0)
  all_goals
    go_wp2_with fail
    refine bodyPost_ret (v := .tuple #[.agg #[.int .u32 (pc : Int), .int .u32 (R 0 : Int), .int .u32 (R 1 : Int), .int .u32 (R 2 : Int), .int .u32 (R 3 : Int), .int .u32 (R 4 : Int), .int .u32 (R 5 : Int), .int .u32 (R 6 : Int), .int .u32 (R 7 : Int), .slice s2 S.length cap2, .int .u8 2, .int .u64 (ep : Int), .int .u32 (home : Int)], .agg #[.int .u32 (G 0 : Int), .int .u32 (G 1 : Int), .int .u32 (G 2 : Int), .int .u32 (G 3 : Int), .int .u32 (G 4 : Int), .int .u32 (G 5 : Int), .int .u32 (G 6 : Int), .int .u32 (G 7 : Int), .slice (some ⟨b, 0, none⟩) T.length cb, .slice (some ⟨e, 0, none⟩) L.length ce], .agg #[.bool false, .bool false, .int .u32 0, .int .u32 0]]) (by simp [results, Tryz.results8, go_sem, *]) rfl ?_
    exact FF.out _ BE.out [.int .u32 (pc : Int), .int .u32 (R 0 : Int), .int .u32 (R 1 : Int), .int .u32 (R 2 : Int), .int .u32 (R 3 : Int), .int .u32 (R 4 : Int), .int .u32 (R 5 : Int), .int .u32 (R 6 : Int), .int .u32 (R 7 : Int), .slice s2 S.length cap2, .int .u8 2, .int .u64 (ep : Int), .int .u32 (home : Int)] [.int .u32 (G 0 : Int), .int .u32 (G 1 : Int), .int .u32 (G 2 : Int), .int .u32 (G 3 : Int), .int .u32 (G 4 : Int), .int .u32 (G 5 : Int), .int .u32 (G 6 : Int), .int .u32 (G 7 : Int), .slice (some ⟨b, 0, none⟩) T.length cb, .slice (some ⟨e, 0, none⟩) L.length ce] [.bool false, .bool false, .int .u32 0, .int .u32 0]
end Go.Proofs.YthnbdeibjbicpaaGreat.PM

/- budwoodref09's Step: what is fetched is no instruction. Conditions: the cells. -/
namespace Go.Proofs.YthnbdeibjbicpaaGreat.PM
set_option linter.unusedVariables false
set_option linter.unusedSimpArgs false
open Go.RowKit
set_option maxRecDepth 100000 in
set_option maxHeartbeats 16000000 in
theorem rstep_word (w : World) (b cb e ce : Nat) (G : Nat → Nat) (T : List Page) (L : List Nat) (pc : Nat) (R : Nat → Nat) (S : List Nat) (ep home epoch why : Nat) (src : Option Addr) (cap : Nat) (r : RM w b e T L) (hS : Stk w src S) (hn : S.length < 35184372088832) (f0 f1 : Nat) (hw : ((why : Int) != 0) = false) (FC : ∀ W, RM W b e T L → Calls Tryz.prog 34 #[.agg #[.int .u32 (G 0 : Int), .int .u32 (G 1 : Int), .int .u32 (G 2 : Int), .int .u32 (G 3 : Int), .int .u32 (G 4 : Int), .int .u32 (G 5 : Int), .int .u32 (G 6 : Int), .int .u32 (G 7 : Int), .slice (some ⟨b, 0, none⟩) T.length cb, .slice (some ⟨e, 0, none⟩) L.length ce], .int .u32 (pc : Int), .int .u64 (ep : Int)] W fun e w' => e = .returned (.tuple #[.int .u32 (f0 : Int), .int .u16 (f1 : Int), .bool true]) ∧ Below W.heap.size W w') (DC : ∀ W, Calls Tryz.prog 36 #[.int .u32 (f0 : Int)] W fun e w' => e = .returned (.tuple #[.agg #[.int .u8 0, .int .u8 0, .int .u8 0, .int .u8 0, .int .i32 0], .int .i64 10]) ∧ Below W.heap.size W w') :
    Calls Tryz.prog 8 #[.agg #[.int .u32 (pc : Int), .int .u32 (R 0 : Int), .int .u32 (R 1 : Int), .int .u32 (R 2 : Int), .int .u32 (R 3 : Int), .int .u32 (R 4 : Int), .int .u32 (R 5 : Int), .int .u32 (R 6 : Int), .int .u32 (R 7 : Int), .slice src S.length cap, .int .u8 (why : Int), .int .u64 (ep : Int), .int .u32 (home : Int)], .agg #[.int .u32 (G 0 : Int), .int .u32 (G 1 : Int), .int .u32 (G 2 : Int), .int .u32 (G 3 : Int), .int .u32 (G 4 : Int), .int .u32 (G 5 : Int), .int .u32 (G 6 : Int), .int .u32 (G 7 : Int), .slice (some ⟨b, 0, none⟩) T.length cb, .slice (some ⟨e, 0, none⟩) L.length ce], .int .u64 (epoch : Int)] w fun en w' => RStep w b cb e G T home ⟨pc, R, S, 3, ep, L, false, false, 0, 0⟩ en w' := by
  replace FC := Lib.hid FC
  replace DC := Lib.hid DC
  have CC : ∀ W, Stk W src S → Calls Tryz.prog 6 #[.agg #[.int .u32 (pc : Int), .int .u32 (R 0 : Int), .int .u32 (R 1 : Int), .int .u32 (R 2 : Int), .int .u32 (R 3 : Int), .int .u32 (R 4 : Int), .int .u32 (R 5 : Int), .int .u32 (R 6 : Int), .int .u32 (R 7 : Int), .slice src S.length cap, .int .u8 (why : Int), .int .u64 (ep : Int), .int .u32 (home : Int)]] W fun e w' => Copied9 W pc R why ep home S e w' := fun W q => rcopy_c W pc R src cap why ep home S q hn
  replace CC := Lib.hid CC
  generalize hW : ((((w.alloc (.cells #[.int .u32 (pc : Int), .int .u32 (R 0 : Int), .int .u32 (R 1 : Int), .int .u32 (R 2 : Int), .int .u32 (R 3 : Int), .int .u32 (R 4 : Int), .int .u32 (R 5 : Int), .int .u32 (R 6 : Int), .int .u32 (R 7 : Int), .slice src S.length cap, .int .u8 (why : Int), .int .u64 (ep : Int), .int .u32 (home : Int)] 30)).alloc (.cells #[.int .u32 (G 0 : Int), .int .u32 (G 1 : Int), .int .u32 (G 2 : Int), .int .u32 (G 3 : Int), .int .u32 (G 4 : Int), .int .u32 (G 5 : Int), .int .u32 (G 6 : Int), .int .u32 (G 7 : Int), .slice (some ⟨b, 0, none⟩) T.length cb, .slice (some ⟨e, 0, none⟩) L.length ce] 36)).alloc (.cells #[.int .u32 0, .int .u32 0, .int .u32 0, .int .u32 0, .int .u32 0, .int .u32 0, .int .u32 0, .int .u32 0, .int .u32 0, .slice none 0 0, .int .u8 0, .int .u64 0, .int .u32 0] 30)).alloc (.cells #[.int .u32 0, .int .u32 0, .int .u32 0, .int .u32 0, .int .u32 0, .int .u32 0, .int .u32 0, .int .u32 0, .slice none 0 0, .slice none 0 0] 36)).alloc (.cells #[.bool false, .bool false, .int .u32 0, .int .u32 0] 44) = W0
  have BW : Hid (Below w.heap.size w W0) := Lib.hid (hW ▸ ((((((Below.refl _ w).alloc (Nat.le_refl _) _).alloc (by simp) _).alloc (by simp; omega) _).alloc (by simp; omega) _).alloc (by simp; omega) _))
  have KW := Lib.hid hW
  have HS := Lib.hid hS
  have RR := Lib.hid r
  clear hW hS r hn
  go_enter Tryz.func8, Tryz.ntmps8
  go_wp2_with fail
  (try rw [KW.out])
  refine (CC.out _ (HS.out.kept BW.out)).mono ?_
  rintro en w1 ⟨v, rfl, ow, hb⟩
  obtain ⟨s2, cap2, rfl, _⟩ := ow.form
  have RS0 := Lib.hid (rs_start KW.out RR.out hb ow)
  have RS1 : Hid (RS w (w1.setCells w.heap.size 0 [.int .u32 (pc : Int), .int .u32 (R 0 : Int), .int .u32 (R 1 : Int), .int .u32 (R 2 : Int), .int .u32 (R 3 : Int), .int .u32 (R 4 : Int), .int .u32 (R 5 : Int), .int .u32 (R 6 : Int), .int .u32 (R 7 : Int), .slice s2 S.length cap2, .int .u8 (why : Int), .int .u64 (ep : Int), .int .u32 (home : Int)]) #[.int .u32 (pc : Int), .int .u32 (R 0 : Int), .int .u32 (R 1 : Int), .int .u32 (R 2 : Int), .int .u32 (R 3 : Int), .int .u32 (R 4 : Int), .int .u32 (R 5 : Int), .int .u32 (R 6 : Int), .int .u32 (R 7 : Int), .slice s2 S.length cap2, .int .u8 (why : Int), .int .u64 (ep : Int), .int .u32 (home : Int)] #[.int .u32 (G 0 : Int), .int .u32 (G 1 : Int), .int .u32 (G 2 : Int), .int .u32 (G 3 : Int), .int .u32 (G 4 : Int), .int .u32 (G 5 : Int), .int .u32 (G 6 : Int), .int .u32 (G 7 : Int), .slice (some ⟨b, 0, none⟩) T.length cb, .slice (some ⟨e, 0, none⟩) L.length ce] (.slice s2 S.length cap2) S b e T L) := Lib.hid (RS0.out.all _ _ _ _ _ _ _ _ _ _ _ _ _)
  unfold hv
  clear ow hb CC BW RR HS
  obtain ⟨t0, ft0, t1, ft1, t2, ft2, t3, ft3, t4, ft4, t5, ft5, t6, ft6, t7, ft7, t8, ft8, t9, ft9, t10, ft10, t11, ft11, t12, ft12⟩ := blkf13 RS0.out.kh
  go_upto_region 2 with fail
  generalize hX1 : w1.setCells w.heap.size 0 [.int .u32 (pc : Int), .int .u32 (R 0 : Int), .int .u32 (R 1 : Int), .int .u32 (R 2 : Int), .int .u32 (R 3 : Int), .int .u32 (R 4 : Int), .int .u32 (R 5 : Int), .int .u32 (R 6 : Int), .int .u32 (R 7 : Int), .slice s2 S.length cap2, .int .u8 (why : Int), .int .u64 (ep : Int), .int .u32 (home : Int)] = X1 at RS1
  simp only [World.setCells, Nat.zero_add, Nat.reduceAdd] at hX1
  (try rw [hX1])
  clear hX1 RS0 KW t0 t1 t2 t3 t4 t5 t6 t7 t8 t9 t10 t11 t12 ft0 ft1 ft2 ft3 ft4 ft5 ft6 ft7 ft8 ft9 ft10 ft11 ft12
  have t0 : X1.cell? ⟨w.heap.size, 0, none⟩ = some (.int .u32 (pc : Int)) := RS1.out.kh.cell 0
  have t10 : X1.cell? ⟨w.heap.size, 10, none⟩ = some (.int .u8 (why : Int)) := RS1.out.kh.cell 10
  have t11 : X1.cell? ⟨w.heap.size, 11, none⟩ = some (.int .u64 (ep : Int)) := RS1.out.kh.cell 11
  obtain ⟨m0, m1, m2, m3, m4, m5, m6, m7, m8, m9⟩ := RS.mf (RS1.out)
  go_wp2_with fail
  refine (FC.out _ RS1.out.rm).mono ?_
  rintro en w3 ⟨rfl, hb⟩
  have RS3 := Lib.hid (RS1.out.kept hb)
  clear hb RS1 t0 t10 t11 m0 m1 m2 m3 m4 m5 m6 m7 m8 m9
  go_wp2_with fail
  refine (DC.out _).mono ?_
  rintro en w4 ⟨rfl, hb⟩
  go_upto_region 9 with fail
  generalize hX4 : w4.alloc (.cells #[.int .u8 0, .int .u8 0, .int .u8 0, .int .u8 0, .int .i32 0] 78) = X4
  have RS4 : Hid (RS w X4 #[.int .u32 (pc : Int), .int .u32 (R 0 : Int), .int .u32 (R 1 : Int), .int .u32 (R 2 : Int), .int .u32 (R 3 : Int), .int .u32 (R 4 : Int), .int .u32 (R 5 : Int), .int .u32 (R 6 : Int), .int .u32 (R 7 : Int), .slice s2 S.length cap2, .int .u8 (why : Int), .int .u64 (ep : Int), .int .u32 (home : Int)] #[.int .u32 (G 0 : Int), .int .u32 (G 1 : Int), .int .u32 (G 2 : Int), .int .u32 (G 3 : Int), .int .u32 (G 4 : Int), .int .u32 (G 5 : Int), .int .u32 (G 6 : Int), .int .u32 (G 7 : Int), .slice (some ⟨b, 0, none⟩) T.length cb, .slice (some ⟨e, 0, none⟩) L.length ce] (.slice s2 S.length cap2) S b e T L) := Lib.hid (hX4 ▸ (RS3.out.kept hb).alloc _)
  have KI : Hid (Blk X4 w4.heap.size 78 #[.int .u8 0, .int .u8 0, .int .u8 0, .int .u8 0, .int .i32 0]) := Lib.hid (hX4 ▸ Blk.new w4 _ _)
  (try rw [hX4])
  have LI : w.heap.size + 5 ≤ w4.heap.size := by have := (RS3.out.kept hb).k8.lt; omega
  clear hX4 hb RS3
  have FF : Hid (∀ w5, Below X4.heap.size X4 w5 → ∀ v6 v7 v8, RStep w b cb e G T home ⟨pc, R, S, 3, ep, L, false, false, 0, 0⟩ (.returned (.tuple #[.agg #[.int .u32 (pc : Int), .int .u32 (R 0 : Int), .int .u32 (R 1 : Int), .int .u32 (R 2 : Int), .int .u32 (R 3 : Int), .int .u32 (R 4 : Int), .int .u32 (R 5 : Int), .int .u32 (R 6 : Int), .int .u32 (R 7 : Int), .slice s2 S.length cap2, .int .u8 3, .int .u64 (ep : Int), .int .u32 (home : Int)], .agg #[.int .u32 (G 0 : Int), .int .u32 (G 1 : Int), .int .u32 (G 2 : Int), .int .u32 (G 3 : Int), .int .u32 (G 4 : Int), .int .u32 (G 5 : Int), .int .u32 (G 6 : Int), .int .u32 (G 7 : Int), .slice (some ⟨b, 0, none⟩) T.length cb, .slice (some ⟨e, 0, none⟩) L.length ce], .agg #[.bool false, .bool false, .int .u32 0, .int .u32 0]])) (((w5.setCells (w.heap.size + 2) 0 v6).setCells (w.heap.size + 3) 0 v7).setCells (w.heap.size + 4) 0 v8)) := Lib.hid fun w5 h5 v6 v7 v8 => by
    obtain ⟨q1, q2, q3⟩ := RS4.out.fin h5 v6 v7 v8
    exact ⟨.slice s2 S.length cap2, e, ce, rfl, q1, q2, .inl rfl, q3⟩
  have SC : ∀ W, Calls Tryz.prog 35 #[.agg #[.int .u32 (pc : Int), .int .u32 (R 0 : Int), .int .u32 (R 1 : Int), .int .u32 (R 2 : Int), .int .u32 (R 3 : Int), .int .u32 (R 4 : Int), .int .u32 (R 5 : Int), .int .u32 (R 6 : Int), .int .u32 (R 7 : Int), .slice s2 S.length cap2, .int .u8 (why : Int), .int .u64 (ep : Int), .int .u32 (home : Int)], .int .u8 3] W fun e w' => e = .returned (.agg #[.int .u32 (pc : Int), .int .u32 (R 0 : Int), .int .u32 (R 1 : Int), .int .u32 (R 2 : Int), .int .u32 (R 3 : Int), .int .u32 (R 4 : Int), .int .u32 (R 5 : Int), .int .u32 (R 6 : Int), .int .u32 (R 7 : Int), .slice s2 S.length cap2, .int .u8 3, .int .u64 (ep : Int), .int .u32 (home : Int)]) ∧ Below W.heap.size W w' := fun W => rstill_c W pc R s2 S.length cap2 why ep home 3
  replace SC := Lib.hid SC
  obtain ⟨t0, t1, t2, t3, t4, t5, t6, t7, t8, t9, t10, t11, t12⟩ := RS.hf (RS4.out)
  obtain ⟨m0, m1, m2, m3, m4, m5, m6, m7, m8, m9⟩ := RS.mf (RS4.out)
  go_region_with (go_at_call 35; (with_reducible refine (SC.out _).mono ?_); rintro en v0 ⟨rfl, hb0⟩; have BE : Hid (Below X4.heap.size X4 v0) := Lib.hid ((below_drewN (Below.refl _ X4) 1).trans (hb0.mono (below_drewN (Below.refl X4.heap.size X4) 1).size)); have kk0 := RS4.out.kept BE.out; obtain ⟨m0_0, m0_1, m0_2, m0_3, m0_4, m0_5, m0_6, m0_7, m0_8, m0_9⟩ := RS.mf (kk0); obtain ⟨z0, fz0, z1, fz1, z2, fz2, z3, fz3, z4, fz4, z5, fz5, z6, fz6, z7, fz7, z8, fz8, z9, fz9, z10, fz10, z11, fz11, z12, fz12, y0, fy0, y1, fy1, y2, fy2, y3, fy3, y4, fy4, y5, fy5, y6, fy6, y7, fy7, y8, fy8, y9, fy9, n0, fn0, n1, fn1, n2, fn2, n3, fn3⟩ := RS.rf (kk0); clear kk0 hb0)
  all_goals
    go_wp2_with fail
    refine bodyPost_ret (v := .tuple #[.agg #[.int .u32 (pc : Int), .int .u32 (R 0 : Int), .int .u32 (R 1 : Int), .int .u32 (R 2 : Int), .int .u32 (R 3 : Int), .int .u32 (R 4 : Int), .int .u32 (R 5 : Int), .int .u32 (R 6 : Int), .int .u32 (R 7 : Int), .slice s2 S.length cap2, .int .u8 3, .int .u64 (ep : Int), .int .u32 (home : Int)], .agg #[.int .u32 (G 0 : Int), .int .u32 (G 1 : Int), .int .u32 (G 2 : Int), .int .u32 (G 3 : Int), .int .u32 (G 4 : Int), .int .u32 (G 5 : Int), .int .u32 (G 6 : Int), .int .u32 (G 7 : Int), .slice (some ⟨b, 0, none⟩) T.length cb, .slice (some ⟨e, 0, none⟩) L.length ce], .agg #[.bool false, .bool false, .int .u32 0, .int .u32 0]]) (by simp [results, Tryz.results8, go_sem, *]) rfl ?_
    exact FF.out _ BE.out [.int .u32 (pc : Int), .int .u32 (R 0 : Int), .int .u32 (R 1 : Int), .int .u32 (R 2 : Int), .int .u32 (R 3 : Int), .int .u32 (R 4 : Int), .int .u32 (R 5 : Int), .int .u32 (R 6 : Int), .int .u32 (R 7 : Int), .slice s2 S.length cap2, .int .u8 3, .int .u64 (ep : Int), .int .u32 (home : Int)] [.int .u32 (G 0 : Int), .int .u32 (G 1 : Int), .int .u32 (G 2 : Int), .int .u32 (G 3 : Int), .int .u32 (G 4 : Int), .int .u32 (G 5 : Int), .int .u32 (G 6 : Int), .int .u32 (G 7 : Int), .slice (some ⟨b, 0, none⟩) T.length cb, .slice (some ⟨e, 0, none⟩) L.length ce] [.bool false, .bool false, .int .u32 0, .int .u32 0]
end Go.Proofs.YthnbdeibjbicpaaGreat.PM
