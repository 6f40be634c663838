/- Contract of the reference's memory: Store. Conditions: the memory's cells. -/
import Derived.Test.YthnbdeibjbicpaaGreatKRefD
import Derived.Test.YthnbdeibjbicpaaGreatKBase
namespace Go.Proofs.YthnbdeibjbicpaaGreat.PM
set_option linter.unusedVariables false
set_option linter.unusedSimpArgs false
open Go.RowKit
theorem keep10 {w w' : World} {g : Nat} {v0 v1 v2 v3 v4 v5 v6 v7 v8 v9 : Value} (hb : Below w.heap.size w w') (c : w.cell? ⟨g, 0, none⟩ = some v0 ∧ w.cell? ⟨g, 1, none⟩ = some v1 ∧ w.cell? ⟨g, 2, none⟩ = some v2 ∧ w.cell? ⟨g, 3, none⟩ = some v3 ∧ w.cell? ⟨g, 4, none⟩ = some v4 ∧ w.cell? ⟨g, 5, none⟩ = some v5 ∧ w.cell? ⟨g, 6, none⟩ = some v6 ∧ w.cell? ⟨g, 7, none⟩ = some v7 ∧ w.cell? ⟨g, 8, none⟩ = some v8 ∧ w.cell? ⟨g, 9, none⟩ = some v9) :
    w'.cell? ⟨g, 0, none⟩ = some v0 ∧ w'.cell? ⟨g, 1, none⟩ = some v1 ∧ w'.cell? ⟨g, 2, none⟩ = some v2 ∧ w'.cell? ⟨g, 3, none⟩ = some v3 ∧ w'.cell? ⟨g, 4, none⟩ = some v4 ∧ w'.cell? ⟨g, 5, none⟩ = some v5 ∧ w'.cell? ⟨g, 6, none⟩ = some v6 ∧ w'.cell? ⟨g, 7, none⟩ = some v7 ∧ w'.cell? ⟨g, 8, none⟩ = some v8 ∧ w'.cell? ⟨g, 9, none⟩ = some v9 :=
  ⟨keep1m hb c.1, keep1m hb c.2.1, keep1m hb c.2.2.1, keep1m hb c.2.2.2.1, keep1m hb c.2.2.2.2.1, keep1m hb c.2.2.2.2.2.1, keep1m hb c.2.2.2.2.2.2.1, keep1m hb c.2.2.2.2.2.2.2.1, keep1m hb c.2.2.2.2.2.2.2.2.1, keep1m hb c.2.2.2.2.2.2.2.2.2⟩
theorem ten10 {w : World} {g : Nat} {t : TypeId} {v0 v1 v2 v3 v4 v5 v6 v7 v8 v9 : Value} (h : Blk w g t #[v0, v1, v2, v3, v4, v5, v6, v7, v8, v9]) :
    w.cell? ⟨g, 0, none⟩ = some v0 ∧ w.cell? ⟨g, 1, none⟩ = some v1 ∧ w.cell? ⟨g, 2, none⟩ = some v2 ∧ w.cell? ⟨g, 3, none⟩ = some v3 ∧ w.cell? ⟨g, 4, none⟩ = some v4 ∧ w.cell? ⟨g, 5, none⟩ = some v5 ∧ w.cell? ⟨g, 6, none⟩ = some v6 ∧ w.cell? ⟨g, 7, none⟩ = some v7 ∧ w.cell? ⟨g, 8, none⟩ = some v8 ∧ w.cell? ⟨g, 9, none⟩ = some v9 :=
  ⟨h.cell 0, h.cell 1, h.cell 2, h.cell 3, h.cell 4, h.cell 5, h.cell 6, h.cell 7, h.cell 8, h.cell 9⟩
set_option maxRecDepth 100000 in
set_option maxHeartbeats 8000000 in
theorem rstore_c (w : World) (G : Nat → Nat) (b cb d cd : Nat) (T : List Page) (L : List Nat) (r : RM w b d T L) (x v ep o : Nat) (hx : x < 4294967296) :
    Calls Tryz.prog 42 #[rm G b cb T d cd L, .int .u32 (x : Int), .int .u32 (v : Int), .int .u64 (ep : Int), .int .u16 (o : Int)] w fun e w' => RAns w G b cb T d (storeM T L x v ep o).1 (.bool (storeM T L x v ep o).2) e w' := by
  have h4 : L.length ≤ 4096 := by have := r.len; have := r.few; omega
  have TH := fun W => there_c W G b cb d cd T L h4 x hx
  have PC := Lib.hid (fun W => rpageof_c W x hx)
  have HR := Lib.hid r
  have hdl := r.wds.lt
  have UW := fun W (q : Wds W d L) y (hy : y < L.length) => with_c W G b cb d cd T L q h4 y v hy
  have B0 : Hid (Below w.heap.size w ((w.alloc (.cells #[.int .u32 (G 0 : Int), .int .u32 (G 1 : Int), .int .u32 (G 2 : Int), .int .u32 (G 3 : Int), .int .u32 (G 4 : Int), .int .u32 (G 5 : Int), .int .u32 (G 6 : Int), .int .u32 (G 7 : Int), .slice (some ⟨b, 0, none⟩) T.length cb, .slice (some ⟨d, 0, none⟩) L.length cd] 36)).alloc (.cells #[.int .u32 0, .int .u32 0, .int .u32 0, .int .u32 0, .int .u32 0, .int .u32 0, .int .u32 0, .int .u32 0, .slice none 0 0, .slice none 0 0] 36))) := Lib.hid (((Below.refl _ w).alloc (Nat.le_refl _) _).alloc (by simp) _)
  have hwin := fun hh => wrB_in r.len r.few (x := x) (ep := ep) (o := o) hh
  have RG := fun W (q : Pgs W b T) => rget_c W b cb T q (pageOf x)
  unfold storeM
  generalize pageOf x = i at RG PC hwin ⊢
  generalize getP T i = p at RG hwin ⊢
  have WR : ∀ W, Calls Tryz.prog 90 #[P1.pg p.s p.x p.wr p.ow p.ep, .int .u64 (ep : Int), .int .u16 (o : Int)] W fun r w' => r = .returned (.bool (wrB p ep o)) ∧ Below W.heap.size W w' := fun W => P1.rwrites_c p.s p.x p.wr p.ow p.ep ep o W
  generalize wrB p ep o = R at WR hwin ⊢
  obtain ⟨s, x_, wr, ow, pe⟩ := p
  have RG : Hid (∀ W, Pgs W b T → Calls Tryz.prog 62 #[.agg #[.slice (some ⟨b, 0, none⟩) T.length cb], .int .i64 i] W fun e w' => e = .returned (.agg #[.int .u8 (s : Int), .bool x_, .bool wr, .int .u16 (ow : Int), .int .u64 (pe : Int)]) ∧ Below W.heap.size W w') := Lib.hid RG
  have WR : Hid (∀ W, Calls Tryz.prog 90 #[.agg #[.int .u8 (s : Int), .bool x_, .bool wr, .int .u16 (ow : Int), .int .u64 (pe : Int)], .int .u64 (ep : Int), .int .u16 (o : Int)] W fun r w' => r = .returned (.bool R) ∧ Below W.heap.size W w') := Lib.hid WR
  have T0 := Lib.hid (ten10 (boxes G b cb d cd T L (Below.refl ((w.alloc (.cells #[.int .u32 (G 0 : Int), .int .u32 (G 1 : Int), .int .u32 (G 2 : Int), .int .u32 (G 3 : Int), .int .u32 (G 4 : Int), .int .u32 (G 5 : Int), .int .u32 (G 6 : Int), .int .u32 (G 7 : Int), .slice (some ⟨b, 0, none⟩) T.length cb, .slice (some ⟨d, 0, none⟩) L.length cd] 36)).alloc (.cells #[.int .u32 0, .int .u32 0, .int .u32 0, .int .u32 0, .int .u32 0, .int .u32 0, .int .u32 0, .int .u32 0, .slice none 0 0, .slice none 0 0] 36)).heap.size ((w.alloc (.cells #[.int .u32 (G 0 : Int), .int .u32 (G 1 : Int), .int .u32 (G 2 : Int), .int .u32 (G 3 : Int), .int .u32 (G 4 : Int), .int .u32 (G 5 : Int), .int .u32 (G 6 : Int), .int .u32 (G 7 : Int), .slice (some ⟨b, 0, none⟩) T.length cb, .slice (some ⟨d, 0, none⟩) L.length cd] 36)).alloc (.cells #[.int .u32 0, .int .u32 0, .int .u32 0, .int .u32 0, .int .u32 0, .int .u32 0, .int .u32 0, .int .u32 0, .slice none 0 0, .slice none 0 0] 36)))).1)
  cases hin : inB L x with
  | false =>
    have hR : R = false := by
      cases R with
      | false => rfl
      | true => rw [hwin rfl] at hin; cases hin
    subst hR
    rw [if_neg (by decide)]
    rw [hin] at TH
    unfold rm at TH ⊢
    have TH := Lib.hid TH
    clear UW PC hin r hwin WR RG
    go_enter Tryz.func42, Tryz.ntmps42
    go_wp2_with fail
    refine wp_region_held_drew (S := (fun w' => w'.cell? ⟨w.heap.size, 0, none⟩ = some (.int .u32 (G 0 : Int)) ∧ w'.cell? ⟨w.heap.size, 1, none⟩ = some (.int .u32 (G 1 : Int)) ∧ w'.cell? ⟨w.heap.size, 2, none⟩ = some (.int .u32 (G 2 : Int)) ∧ w'.cell? ⟨w.heap.size, 3, none⟩ = some (.int .u32 (G 3 : Int)) ∧ w'.cell? ⟨w.heap.size, 4, none⟩ = some (.int .u32 (G 4 : Int)) ∧ w'.cell? ⟨w.heap.size, 5, none⟩ = some (.int .u32 (G 5 : Int)) ∧ w'.cell? ⟨w.heap.size, 6, none⟩ = some (.int .u32 (G 6 : Int)) ∧ w'.cell? ⟨w.heap.size, 7, none⟩ = some (.int .u32 (G 7 : Int)) ∧ w'.cell? ⟨w.heap.size, 8, none⟩ = some (.slice (some ⟨b, 0, none⟩) T.length cb) ∧ w'.cell? ⟨w.heap.size, 9, none⟩ = some (.slice (some ⟨d, 0, none⟩) L.length cd))) (by kernel_rfl) (by first | go_keep | exact T0.out) (fun hHeld => ?_)
    refine takeY (i := 0) (v := .agg #[.int .u32 (G 0 : Int), .int .u32 (G 1 : Int), .int .u32 (G 2 : Int), .int .u32 (G 3 : Int), .int .u32 (G 4 : Int), .int .u32 (G 5 : Int), .int .u32 (G 6 : Int), .int .u32 (G 7 : Int), .slice (some ⟨b, 0, none⟩) T.length cb, .slice (some ⟨d, 0, none⟩) L.length cd]) (d := some 12) (l' := #[true, false, false, false, false, false, false, false, false, false, false, false, false, false, false]) rfl rfl (by kernel_rfl) (by kernel_rfl) (by kernel_rfl) (by kernel_rfl) (fun _ _ _ h => h) (by rfl) (by (intro w hSw; (try dsimp only at hSw); go_simp)) (by assumption) ?_
    (try simp only [Act.put, List.setIfInBounds_toArray, List.set_cons_zero, List.set_cons_succ])
    refine takeY (i := 1) (v := .int .u32 (x : Int)) (d := some 13) (l' := #[true, true, false, false, false, false, false, false, false, false, false, false, false, false, false]) rfl rfl (by kernel_rfl) (by kernel_rfl) (by kernel_rfl) (by kernel_rfl) (fun _ _ _ h => h) (by rfl) (by (intro w hSw; (try dsimp only at hSw); go_simp)) (by assumption) ?_
    (try simp only [Act.put, List.setIfInBounds_toArray, List.set_cons_zero, List.set_cons_succ])
    refine wpAnyH_ready (rs := [2]) (by kernel_rfl) (by simp) ?_
    refine AllReadyH.cons rfl (fun K hK => ?_) AllReadyH.nil
    go_simp
    go_at_call 61
    with_reducible refine (TH.out _).mono ?_
    rintro e w1 ⟨rfl, hb⟩
    go_wp2_with fail
    refine hK.out _ _ (by first | exact keep10 hb hHeld) (fun hHeld => ?_)
    clear hK K
    (try simp only [Act.put, List.setIfInBounds_toArray, List.set_cons_zero, List.set_cons_succ])
    refine takeY (i := 3) (v := .bool true) (d := some 15) (l' := #[true, true, true, true, false, false, false, false, false, false, false, false, false, false, false]) rfl rfl (by kernel_rfl) (by kernel_rfl) (by kernel_rfl) (by kernel_rfl) (fun _ _ _ h => h) (by rfl) (by (intro w hSw; (try dsimp only at hSw); go_simp)) (by assumption) ?_
    (try simp only [Act.put, List.setIfInBounds_toArray, List.set_cons_zero, List.set_cons_succ])
    refine takeY (i := 4) (v := .bool true) (d := some 16) (l' := #[true, true, true, true, true, false, false, false, false, false, false, false, false, false, false]) rfl rfl (by kernel_rfl) (by kernel_rfl) (by kernel_rfl) (by kernel_rfl) (fun _ _ _ h => h) (by rfl) (by (intro w hSw; (try dsimp only at hSw); go_simp)) (by assumption) ?_
    (try simp only [Act.put, List.setIfInBounds_toArray, List.set_cons_zero, List.set_cons_succ])
    refine takeU (i := 5) (d := some 17) (l' := #[true, true, true, true, true, true, false, false, false, false, false, false, false, false, false]) rfl rfl (by kernel_rfl) (by kernel_rfl) (by kernel_rfl) (by kernel_rfl) (fun _ _ _ h => h) (by rfl) (by assumption) ?_
    (try simp only [Act.put, List.setIfInBounds_toArray, List.set_cons_zero, List.set_cons_succ])
    refine takeU (i := 6) (d := some 18) (l' := #[true, true, true, true, true, true, true, false, false, false, false, false, false, false, false]) rfl rfl (by kernel_rfl) (by kernel_rfl) (by kernel_rfl) (by kernel_rfl) (fun _ _ _ h => h) (by rfl) (by assumption) ?_
    (try simp only [Act.put, List.setIfInBounds_toArray, List.set_cons_zero, List.set_cons_succ])
    refine takeU (i := 7) (d := some 19) (l' := #[true, true, true, true, true, true, true, true, false, false, false, false, false, false, false]) rfl rfl (by kernel_rfl) (by kernel_rfl) (by kernel_rfl) (by kernel_rfl) (fun _ _ _ h => h) (by rfl) (by assumption) ?_
    (try simp only [Act.put, List.setIfInBounds_toArray, List.set_cons_zero, List.set_cons_succ])
    refine takeU (i := 8) (d := some 20) (l' := #[true, true, true, true, true, true, true, true, true, false, false, false, false, false, false]) rfl rfl (by kernel_rfl) (by kernel_rfl) (by kernel_rfl) (by kernel_rfl) (fun _ _ _ h => h) (by rfl) (by assumption) ?_
    (try simp only [Act.put, List.setIfInBounds_toArray, List.set_cons_zero, List.set_cons_succ])
    refine takeU (i := 9) (d := some 21) (l' := #[true, true, true, true, true, true, true, true, true, true, false, false, false, false, false]) rfl rfl (by kernel_rfl) (by kernel_rfl) (by kernel_rfl) (by kernel_rfl) (fun _ _ _ h => h) (by rfl) (by assumption) ?_
    (try simp only [Act.put, List.setIfInBounds_toArray, List.set_cons_zero, List.set_cons_succ])
    refine takeU (i := 10) (d := some 22) (l' := #[true, true, true, true, true, true, true, true, true, true, true, false, false, false, false]) rfl rfl (by kernel_rfl) (by kernel_rfl) (by kernel_rfl) (by kernel_rfl) (fun _ _ _ h => h) (by rfl) (by assumption) ?_
    (try simp only [Act.put, List.setIfInBounds_toArray, List.set_cons_zero, List.set_cons_succ])
    refine takeU (i := 11) (d := some 23) (l' := #[true, true, true, true, true, true, true, true, true, true, true, true, false, false, false]) rfl rfl (by kernel_rfl) (by kernel_rfl) (by kernel_rfl) (by kernel_rfl) (fun _ _ _ h => h) (by rfl) (by assumption) ?_
    (try simp only [Act.put, List.setIfInBounds_toArray, List.set_cons_zero, List.set_cons_succ])
    refine takeU (i := 12) (d := some 24) (l' := #[true, true, true, true, true, true, true, true, true, true, true, true, true, false, false]) rfl rfl (by kernel_rfl) (by kernel_rfl) (by kernel_rfl) (by kernel_rfl) (fun _ _ _ h => h) (by rfl) (by assumption) ?_
    (try simp only [Act.put, List.setIfInBounds_toArray, List.set_cons_zero, List.set_cons_succ])
    refine takeU (i := 13) (d := some 25) (l' := #[true, true, true, true, true, true, true, true, true, true, true, true, true, true, false]) rfl rfl (by kernel_rfl) (by kernel_rfl) (by kernel_rfl) (by kernel_rfl) (fun _ _ _ h => h) (by rfl) (by assumption) ?_
    (try simp only [Act.put, List.setIfInBounds_toArray, List.set_cons_zero, List.set_cons_succ])
    refine takeY (i := 14) (v := .bool true) (d := some 26) (l' := #[true, true, true, true, true, true, true, true, true, true, true, true, true, true, true]) rfl rfl (by kernel_rfl) (by kernel_rfl) (by kernel_rfl) (by kernel_rfl) (fun _ _ _ h => h) (by rfl) (by (intro w hSw; (try dsimp only at hSw); go_simp)) (by assumption) ?_
    (try simp only [Act.put, List.setIfInBounds_toArray, List.set_cons_zero, List.set_cons_succ])
    refine wpAnyH_done (by kernel_rfl) ?_ _
    have HB1 : Hid (Below ((w.alloc (.cells #[.int .u32 (G 0 : Int), .int .u32 (G 1 : Int), .int .u32 (G 2 : Int), .int .u32 (G 3 : Int), .int .u32 (G 4 : Int), .int .u32 (G 5 : Int), .int .u32 (G 6 : Int), .int .u32 (G 7 : Int), .slice (some ⟨b, 0, none⟩) T.length cb, .slice (some ⟨d, 0, none⟩) L.length cd] 36)).alloc (.cells #[.int .u32 0, .int .u32 0, .int .u32 0, .int .u32 0, .int .u32 0, .int .u32 0, .int .u32 0, .int .u32 0, .slice none 0 0, .slice none 0 0] 36)).heap.size ((w.alloc (.cells #[.int .u32 (G 0 : Int), .int .u32 (G 1 : Int), .int .u32 (G 2 : Int), .int .u32 (G 3 : Int), .int .u32 (G 4 : Int), .int .u32 (G 5 : Int), .int .u32 (G 6 : Int), .int .u32 (G 7 : Int), .slice (some ⟨b, 0, none⟩) T.length cb, .slice (some ⟨d, 0, none⟩) L.length cd] 36)).alloc (.cells #[.int .u32 0, .int .u32 0, .int .u32 0, .int .u32 0, .int .u32 0, .int .u32 0, .int .u32 0, .int .u32 0, .slice none 0 0, .slice none 0 0] 36)) w1) := Lib.hid (((Below.refl _ _).drew).trans hb)
    have B1 := Lib.hid (B0.out.trans (HB1.out.mono (by simp; omega)))
    have TCt := (boxes G b cb d cd T L HB1.out).1
    obtain ⟨t0, t1, t2, t3, t4, t5, t6, t7, t8, t9⟩ := blkc10 TCt
    have tl := TCt.lt
    clear TCt
    have TCz := (boxes G b cb d cd T L HB1.out).2
    have z0 : w1.cell? ⟨w.heap.size + 1, 0, none⟩ = some (.int .u32 0) := TCz.cell 0
    have y0 : w1.frozen? ⟨w.heap.size + 1, 0, none⟩ = false := TCz.frozen 0
    have z1 : w1.cell? ⟨w.heap.size + 1, 1, none⟩ = some (.int .u32 0) := TCz.cell 1
    have y1 : w1.frozen? ⟨w.heap.size + 1, 1, none⟩ = false := TCz.frozen 1
    have z2 : w1.cell? ⟨w.heap.size + 1, 2, none⟩ = some (.int .u32 0) := TCz.cell 2
    have y2 : w1.frozen? ⟨w.heap.size + 1, 2, none⟩ = false := TCz.frozen 2
    have z3 : w1.cell? ⟨w.heap.size + 1, 3, none⟩ = some (.int .u32 0) := TCz.cell 3
    have y3 : w1.frozen? ⟨w.heap.size + 1, 3, none⟩ = false := TCz.frozen 3
    have z4 : w1.cell? ⟨w.heap.size + 1, 4, none⟩ = some (.int .u32 0) := TCz.cell 4
    have y4 : w1.frozen? ⟨w.heap.size + 1, 4, none⟩ = false := TCz.frozen 4
    have z5 : w1.cell? ⟨w.heap.size + 1, 5, none⟩ = some (.int .u32 0) := TCz.cell 5
    have y5 : w1.frozen? ⟨w.heap.size + 1, 5, none⟩ = false := TCz.frozen 5
    have z6 : w1.cell? ⟨w.heap.size + 1, 6, none⟩ = some (.int .u32 0) := TCz.cell 6
    have y6 : w1.frozen? ⟨w.heap.size + 1, 6, none⟩ = false := TCz.frozen 6
    have z7 : w1.cell? ⟨w.heap.size + 1, 7, none⟩ = some (.int .u32 0) := TCz.cell 7
    have y7 : w1.frozen? ⟨w.heap.size + 1, 7, none⟩ = false := TCz.frozen 7
    have z8 : w1.cell? ⟨w.heap.size + 1, 8, none⟩ = some (.slice none 0 0) := TCz.cell 8
    have y8 : w1.frozen? ⟨w.heap.size + 1, 8, none⟩ = false := TCz.frozen 8
    have z9 : w1.cell? ⟨w.heap.size + 1, 9, none⟩ = some (.slice none 0 0) := TCz.cell 9
    have y9 : w1.frozen? ⟨w.heap.size + 1, 9, none⟩ = false := TCz.frozen 9
    have zl := TCz.lt
    clear TCz
    have FF : Hid (∀ vs, RAns w G b cb T d L (.bool false) (.returned (.tuple #[.agg #[.int .u32 (G 0 : Int), .int .u32 (G 1 : Int), .int .u32 (G 2 : Int), .int .u32 (G 3 : Int), .int .u32 (G 4 : Int), .int .u32 (G 5 : Int), .int .u32 (G 6 : Int), .int .u32 (G 7 : Int), .slice (some ⟨b, 0, none⟩) T.length cb, .slice (some ⟨d, 0, none⟩) L.length cd], .bool false])) ((w1).setCells (w.heap.size + 1) 0 vs)) := Lib.hid (fun vs => ⟨d, cd, by simp [rm], Or.inl rfl, wds_setCells (by omega) vs 0 _ (HR.out.wds.kept B1.out), below_setCells (by omega) vs 0 _ B1.out⟩)
    clear hb
    go_wp2_with fail
    (try simp only [Exit.inBlock, Exit.then])
    refine bodyPost_ret (v := .tuple #[.agg #[.int .u32 (G 0 : Int), .int .u32 (G 1 : Int), .int .u32 (G 2 : Int), .int .u32 (G 3 : Int), .int .u32 (G 4 : Int), .int .u32 (G 5 : Int), .int .u32 (G 6 : Int), .int .u32 (G 7 : Int), .slice (some ⟨b, 0, none⟩) T.length cb, .slice (some ⟨d, 0, none⟩) L.length cd], .bool false]) (by simp [results, Tryz.results42, go_sem, *]) rfl ?_
    exact FF.out [.int .u32 (G 0 : Int), .int .u32 (G 1 : Int), .int .u32 (G 2 : Int), .int .u32 (G 3 : Int), .int .u32 (G 4 : Int), .int .u32 (G 5 : Int), .int .u32 (G 6 : Int), .int .u32 (G 7 : Int), .slice (some ⟨b, 0, none⟩) T.length cb, .slice (some ⟨d, 0, none⟩) L.length cd]

  | true =>
    rw [hin] at TH
    obtain ⟨y, rfl⟩ : ∃ y : Nat, x = 80 + y := ⟨x - 80, by unfold inB at hin; simp only [Bool.and_eq_true, decide_eq_true_eq] at hin; omega⟩
    have e2 : 80 + y - 80 = y := by omega
    have hyl : y < L.length := by unfold inB at hin; simp only [Bool.and_eq_true, decide_eq_true_eq] at hin; omega
    rw [e2]
    unfold rm at TH UW ⊢
    have TH := Lib.hid TH
    have UW := Lib.hid UW
    have HYL := Lib.hid hyl
    rw [show ((80 + y : Nat) : Int) = 80 + (y : Int) by omega] at *
    have hy4 : (y : Int) < 4096 := by omega
    clear hin r e2 hyl hx hwin
    cases R with
    | false =>
      rw [if_neg (by decide)]
      go_enter Tryz.func42, Tryz.ntmps42
      go_wp2_with fail
      go_region_held3 (fun w' => w'.cell? ⟨w.heap.size, 0, none⟩ = some (.int .u32 (G 0 : Int)) ∧ w'.cell? ⟨w.heap.size, 1, none⟩ = some (.int .u32 (G 1 : Int)) ∧ w'.cell? ⟨w.heap.size, 2, none⟩ = some (.int .u32 (G 2 : Int)) ∧ w'.cell? ⟨w.heap.size, 3, none⟩ = some (.int .u32 (G 3 : Int)) ∧ w'.cell? ⟨w.heap.size, 4, none⟩ = some (.int .u32 (G 4 : Int)) ∧ w'.cell? ⟨w.heap.size, 5, none⟩ = some (.int .u32 (G 5 : Int)) ∧ w'.cell? ⟨w.heap.size, 6, none⟩ = some (.int .u32 (G 6 : Int)) ∧ w'.cell? ⟨w.heap.size, 7, none⟩ = some (.int .u32 (G 7 : Int)) ∧ w'.cell? ⟨w.heap.size, 8, none⟩ = some (.slice (some ⟨b, 0, none⟩) T.length cb) ∧ w'.cell? ⟨w.heap.size, 9, none⟩ = some (.slice (some ⟨d, 0, none⟩) L.length cd)) (first | (exact T0.out) | (apply keep10 hb3; assumption) | (apply keep10 hb2; assumption) | (apply keep10 hb; assumption) | go_keep) ((first | (go_at_call 61; (with_reducible refine (TH.out _).mono ?_); rintro e w1 ⟨rfl, hb⟩; have B1 : Hid (Below w.heap.size w w1) := Lib.hid (B0.out.trans ((((Below.refl _ ((w.alloc (.cells #[.int .u32 (G 0 : Int), .int .u32 (G 1 : Int), .int .u32 (G 2 : Int), .int .u32 (G 3 : Int), .int .u32 (G 4 : Int), .int .u32 (G 5 : Int), .int .u32 (G 6 : Int), .int .u32 (G 7 : Int), .slice (some ⟨b, 0, none⟩) T.length cb, .slice (some ⟨d, 0, none⟩) L.length cd] 36)).alloc (.cells #[.int .u32 0, .int .u32 0, .int .u32 0, .int .u32 0, .int .u32 0, .int .u32 0, .int .u32 0, .int .u32 0, .slice none 0 0, .slice none 0 0] 36))).drew).trans hb).mono (by simp; omega))) ) | (go_at_call 63; (with_reducible refine (PC.out _).mono ?_); rintro e w2 ⟨rfl, rfl⟩) | (go_at_call 62; (with_reducible refine (RG.out _ ?_).mono ?_); (first | exact (HR.out.kept B1.out).pgs | exact (HR.out.kept B1.out).pgs.drewN 1); rintro e w2 ⟨rfl, hb2⟩) | (go_at_call 90; (with_reducible refine (WR.out _).mono ?_); rintro e w3 ⟨rfl, hb3⟩)))
      have HB3 : Hid (Below ((w.alloc (.cells #[.int .u32 (G 0 : Int), .int .u32 (G 1 : Int), .int .u32 (G 2 : Int), .int .u32 (G 3 : Int), .int .u32 (G 4 : Int), .int .u32 (G 5 : Int), .int .u32 (G 6 : Int), .int .u32 (G 7 : Int), .slice (some ⟨b, 0, none⟩) T.length cb, .slice (some ⟨d, 0, none⟩) L.length cd] 36)).alloc (.cells #[.int .u32 0, .int .u32 0, .int .u32 0, .int .u32 0, .int .u32 0, .int .u32 0, .int .u32 0, .int .u32 0, .slice none 0 0, .slice none 0 0] 36)).heap.size ((w.alloc (.cells #[.int .u32 (G 0 : Int), .int .u32 (G 1 : Int), .int .u32 (G 2 : Int), .int .u32 (G 3 : Int), .int .u32 (G 4 : Int), .int .u32 (G 5 : Int), .int .u32 (G 6 : Int), .int .u32 (G 7 : Int), .slice (some ⟨b, 0, none⟩) T.length cb, .slice (some ⟨d, 0, none⟩) L.length cd] 36)).alloc (.cells #[.int .u32 0, .int .u32 0, .int .u32 0, .int .u32 0, .int .u32 0, .int .u32 0, .int .u32 0, .int .u32 0, .slice none 0 0, .slice none 0 0] 36)) w3) := Lib.hid ((((Below.refl _ _).drew).trans hb).trans ((hb2.trans (hb3.mono hb2.size)).mono hb.size))
      have B3 := Lib.hid (B0.out.trans (HB3.out.mono (by simp; omega)))
      have TCt := (boxes G b cb d cd T L HB3.out).1
      obtain ⟨t0, t1, t2, t3, t4, t5, t6, t7, t8, t9⟩ := blkc10 TCt
      have tl := TCt.lt
      clear TCt
      have TCz := (boxes G b cb d cd T L HB3.out).2
      have z0 : w3.cell? ⟨w.heap.size + 1, 0, none⟩ = some (.int .u32 0) := TCz.cell 0
      have y0 : w3.frozen? ⟨w.heap.size + 1, 0, none⟩ = false := TCz.frozen 0
      have z1 : w3.cell? ⟨w.heap.size + 1, 1, none⟩ = some (.int .u32 0) := TCz.cell 1
      have y1 : w3.frozen? ⟨w.heap.size + 1, 1, none⟩ = false := TCz.frozen 1
      have z2 : w3.cell? ⟨w.heap.size + 1, 2, none⟩ = some (.int .u32 0) := TCz.cell 2
      have y2 : w3.frozen? ⟨w.heap.size + 1, 2, none⟩ = false := TCz.frozen 2
      have z3 : w3.cell? ⟨w.heap.size + 1, 3, none⟩ = some (.int .u32 0) := TCz.cell 3
      have y3 : w3.frozen? ⟨w.heap.size + 1, 3, none⟩ = false := TCz.frozen 3
      have z4 : w3.cell? ⟨w.heap.size + 1, 4, none⟩ = some (.int .u32 0) := TCz.cell 4
      have y4 : w3.frozen? ⟨w.heap.size + 1, 4, none⟩ = false := TCz.frozen 4
      have z5 : w3.cell? ⟨w.heap.size + 1, 5, none⟩ = some (.int .u32 0) := TCz.cell 5
      have y5 : w3.frozen? ⟨w.heap.size + 1, 5, none⟩ = false := TCz.frozen 5
      have z6 : w3.cell? ⟨w.heap.size + 1, 6, none⟩ = some (.int .u32 0) := TCz.cell 6
      have y6 : w3.frozen? ⟨w.heap.size + 1, 6, none⟩ = false := TCz.frozen 6
      have z7 : w3.cell? ⟨w.heap.size + 1, 7, none⟩ = some (.int .u32 0) := TCz.cell 7
      have y7 : w3.frozen? ⟨w.heap.size + 1, 7, none⟩ = false := TCz.frozen 7
      have z8 : w3.cell? ⟨w.heap.size + 1, 8, none⟩ = some (.slice none 0 0) := TCz.cell 8
      have y8 : w3.frozen? ⟨w.heap.size + 1, 8, none⟩ = false := TCz.frozen 8
      have z9 : w3.cell? ⟨w.heap.size + 1, 9, none⟩ = some (.slice none 0 0) := TCz.cell 9
      have y9 : w3.frozen? ⟨w.heap.size + 1, 9, none⟩ = false := TCz.frozen 9
      have zl := TCz.lt
      clear TCz
      have FF : Hid (∀ vs, RAns w G b cb T d L (.bool false) (.returned (.tuple #[.agg #[.int .u32 (G 0 : Int), .int .u32 (G 1 : Int), .int .u32 (G 2 : Int), .int .u32 (G 3 : Int), .int .u32 (G 4 : Int), .int .u32 (G 5 : Int), .int .u32 (G 6 : Int), .int .u32 (G 7 : Int), .slice (some ⟨b, 0, none⟩) T.length cb, .slice (some ⟨d, 0, none⟩) L.length cd], .bool false])) ((w3).setCells (w.heap.size + 1) 0 vs)) := Lib.hid (fun vs => ⟨d, cd, by simp [rm], Or.inl rfl, wds_setCells (by omega) vs 0 _ (HR.out.wds.kept B3.out), below_setCells (by omega) vs 0 _ B3.out⟩)
      clear hb hb2 hb3
      go_wp2_with fail
      (try simp only [Exit.inBlock, Exit.then])
      refine bodyPost_ret (v := .tuple #[.agg #[.int .u32 (G 0 : Int), .int .u32 (G 1 : Int), .int .u32 (G 2 : Int), .int .u32 (G 3 : Int), .int .u32 (G 4 : Int), .int .u32 (G 5 : Int), .int .u32 (G 6 : Int), .int .u32 (G 7 : Int), .slice (some ⟨b, 0, none⟩) T.length cb, .slice (some ⟨d, 0, none⟩) L.length cd], .bool false]) (by simp [results, Tryz.results42, go_sem, *]) rfl ?_
      exact FF.out [.int .u32 (G 0 : Int), .int .u32 (G 1 : Int), .int .u32 (G 2 : Int), .int .u32 (G 3 : Int), .int .u32 (G 4 : Int), .int .u32 (G 5 : Int), .int .u32 (G 6 : Int), .int .u32 (G 7 : Int), .slice (some ⟨b, 0, none⟩) T.length cb, .slice (some ⟨d, 0, none⟩) L.length cd]
    | true =>
      rw [if_pos rfl]
      go_enter Tryz.func42, Tryz.ntmps42
      go_wp2_with fail
      go_region_held3 (fun w' => w'.cell? ⟨w.heap.size, 0, none⟩ = some (.int .u32 (G 0 : Int)) ∧ w'.cell? ⟨w.heap.size, 1, none⟩ = some (.int .u32 (G 1 : Int)) ∧ w'.cell? ⟨w.heap.size, 2, none⟩ = some (.int .u32 (G 2 : Int)) ∧ w'.cell? ⟨w.heap.size, 3, none⟩ = some (.int .u32 (G 3 : Int)) ∧ w'.cell? ⟨w.heap.size, 4, none⟩ = some (.int .u32 (G 4 : Int)) ∧ w'.cell? ⟨w.heap.size, 5, none⟩ = some (.int .u32 (G 5 : Int)) ∧ w'.cell? ⟨w.heap.size, 6, none⟩ = some (.int .u32 (G 6 : Int)) ∧ w'.cell? ⟨w.heap.size, 7, none⟩ = some (.int .u32 (G 7 : Int)) ∧ w'.cell? ⟨w.heap.size, 8, none⟩ = some (.slice (some ⟨b, 0, none⟩) T.length cb) ∧ w'.cell? ⟨w.heap.size, 9, none⟩ = some (.slice (some ⟨d, 0, none⟩) L.length cd)) (first | (exact T0.out) | (apply keep10 hb3; assumption) | (apply keep10 hb2; assumption) | (apply keep10 hb; assumption) | go_keep) ((first | (go_at_call 61; (with_reducible refine (TH.out _).mono ?_); rintro e w1 ⟨rfl, hb⟩; have B1 : Hid (Below w.heap.size w w1) := Lib.hid (B0.out.trans ((((Below.refl _ ((w.alloc (.cells #[.int .u32 (G 0 : Int), .int .u32 (G 1 : Int), .int .u32 (G 2 : Int), .int .u32 (G 3 : Int), .int .u32 (G 4 : Int), .int .u32 (G 5 : Int), .int .u32 (G 6 : Int), .int .u32 (G 7 : Int), .slice (some ⟨b, 0, none⟩) T.length cb, .slice (some ⟨d, 0, none⟩) L.length cd] 36)).alloc (.cells #[.int .u32 0, .int .u32 0, .int .u32 0, .int .u32 0, .int .u32 0, .int .u32 0, .int .u32 0, .int .u32 0, .slice none 0 0, .slice none 0 0] 36))).drew).trans hb).mono (by simp; omega))) ) | (go_at_call 63; (with_reducible refine (PC.out _).mono ?_); rintro e w2 ⟨rfl, rfl⟩) | (go_at_call 62; (with_reducible refine (RG.out _ ?_).mono ?_); (first | exact (HR.out.kept B1.out).pgs | exact (HR.out.kept B1.out).pgs.drewN 1); rintro e w2 ⟨rfl, hb2⟩) | (go_at_call 90; (with_reducible refine (WR.out _).mono ?_); rintro e w3 ⟨rfl, hb3⟩)))
      have HB3 : Hid (Below ((w.alloc (.cells #[.int .u32 (G 0 : Int), .int .u32 (G 1 : Int), .int .u32 (G 2 : Int), .int .u32 (G 3 : Int), .int .u32 (G 4 : Int), .int .u32 (G 5 : Int), .int .u32 (G 6 : Int), .int .u32 (G 7 : Int), .slice (some ⟨b, 0, none⟩) T.length cb, .slice (some ⟨d, 0, none⟩) L.length cd] 36)).alloc (.cells #[.int .u32 0, .int .u32 0, .int .u32 0, .int .u32 0, .int .u32 0, .int .u32 0, .int .u32 0, .int .u32 0, .slice none 0 0, .slice none 0 0] 36)).heap.size ((w.alloc (.cells #[.int .u32 (G 0 : Int), .int .u32 (G 1 : Int), .int .u32 (G 2 : Int), .int .u32 (G 3 : Int), .int .u32 (G 4 : Int), .int .u32 (G 5 : Int), .int .u32 (G 6 : Int), .int .u32 (G 7 : Int), .slice (some ⟨b, 0, none⟩) T.length cb, .slice (some ⟨d, 0, none⟩) L.length cd] 36)).alloc (.cells #[.int .u32 0, .int .u32 0, .int .u32 0, .int .u32 0, .int .u32 0, .int .u32 0, .int .u32 0, .int .u32 0, .slice none 0 0, .slice none 0 0] 36)) w3) := Lib.hid ((((Below.refl _ _).drew).trans hb).trans ((hb2.trans (hb3.mono hb2.size)).mono hb.size))
      have B3 := Lib.hid (B0.out.trans (HB3.out.mono (by simp; omega)))
      have TCt := (boxes G b cb d cd T L HB3.out).1
      obtain ⟨t0, t1, t2, t3, t4, t5, t6, t7, t8, t9⟩ := blkc10 TCt
      have tl := TCt.lt
      clear TCt
      have TCz := (boxes G b cb d cd T L HB3.out).2
      have z0 : w3.cell? ⟨w.heap.size + 1, 0, none⟩ = some (.int .u32 0) := TCz.cell 0
      have y0 : w3.frozen? ⟨w.heap.size + 1, 0, none⟩ = false := TCz.frozen 0
      have z1 : w3.cell? ⟨w.heap.size + 1, 1, none⟩ = some (.int .u32 0) := TCz.cell 1
      have y1 : w3.frozen? ⟨w.heap.size + 1, 1, none⟩ = false := TCz.frozen 1
      have z2 : w3.cell? ⟨w.heap.size + 1, 2, none⟩ = some (.int .u32 0) := TCz.cell 2
      have y2 : w3.frozen? ⟨w.heap.size + 1, 2, none⟩ = false := TCz.frozen 2
      have z3 : w3.cell? ⟨w.heap.size + 1, 3, none⟩ = some (.int .u32 0) := TCz.cell 3
      have y3 : w3.frozen? ⟨w.heap.size + 1, 3, none⟩ = false := TCz.frozen 3
      have z4 : w3.cell? ⟨w.heap.size + 1, 4, none⟩ = some (.int .u32 0) := TCz.cell 4
      have y4 : w3.frozen? ⟨w.heap.size + 1, 4, none⟩ = false := TCz.frozen 4
      have z5 : w3.cell? ⟨w.heap.size + 1, 5, none⟩ = some (.int .u32 0) := TCz.cell 5
      have y5 : w3.frozen? ⟨w.heap.size + 1, 5, none⟩ = false := TCz.frozen 5
      have z6 : w3.cell? ⟨w.heap.size + 1, 6, none⟩ = some (.int .u32 0) := TCz.cell 6
      have y6 : w3.frozen? ⟨w.heap.size + 1, 6, none⟩ = false := TCz.frozen 6
      have z7 : w3.cell? ⟨w.heap.size + 1, 7, none⟩ = some (.int .u32 0) := TCz.cell 7
      have y7 : w3.frozen? ⟨w.heap.size + 1, 7, none⟩ = false := TCz.frozen 7
      have z8 : w3.cell? ⟨w.heap.size + 1, 8, none⟩ = some (.slice none 0 0) := TCz.cell 8
      have y8 : w3.frozen? ⟨w.heap.size + 1, 8, none⟩ = false := TCz.frozen 8
      have z9 : w3.cell? ⟨w.heap.size + 1, 9, none⟩ = some (.slice none 0 0) := TCz.cell 9
      have y9 : w3.frozen? ⟨w.heap.size + 1, 9, none⟩ = false := TCz.frozen 9
      have zl := TCz.lt
      clear TCz
      have UW3 := Lib.hid (UW.out w3 (HR.out.wds.kept B3.out) y HYL.out)
      clear hb hb2 hb3
      go_wp2_with fail
      refine UW3.out.mono ?_
      rintro e w4 ⟨d', cd', rfl, hd', hw', hb4⟩
      have HB4 := Lib.hid (HB3.out.trans (hb4.mono HB3.out.size))
      have B4 := Lib.hid (B0.out.trans (HB4.out.mono (by simp; omega)))
      clear t0 z0 y0 t1 z1 y1 t2 z2 y2 t3 z3 y3 t4 z4 y4 t5 z5 y5 t6 z6 y6 t7 z7 y7 t8 z8 y8 t9 z9 y9 tl zl
      have TCt := (boxes G b cb d cd T L HB4.out).1
      obtain ⟨t0, t1, t2, t3, t4, t5, t6, t7, t8, t9⟩ := blkc10 TCt
      have tl := TCt.lt
      clear TCt
      have TCz := (boxes G b cb d cd T L HB4.out).2
      have z0 : w4.cell? ⟨w.heap.size + 1, 0, none⟩ = some (.int .u32 0) := TCz.cell 0
      have y0 : w4.frozen? ⟨w.heap.size + 1, 0, none⟩ = false := TCz.frozen 0
      have z1 : w4.cell? ⟨w.heap.size + 1, 1, none⟩ = some (.int .u32 0) := TCz.cell 1
      have y1 : w4.frozen? ⟨w.heap.size + 1, 1, none⟩ = false := TCz.frozen 1
      have z2 : w4.cell? ⟨w.heap.size + 1, 2, none⟩ = some (.int .u32 0) := TCz.cell 2
      have y2 : w4.frozen? ⟨w.heap.size + 1, 2, none⟩ = false := TCz.frozen 2
      have z3 : w4.cell? ⟨w.heap.size + 1, 3, none⟩ = some (.int .u32 0) := TCz.cell 3
      have y3 : w4.frozen? ⟨w.heap.size + 1, 3, none⟩ = false := TCz.frozen 3
      have z4 : w4.cell? ⟨w.heap.size + 1, 4, none⟩ = some (.int .u32 0) := TCz.cell 4
      have y4 : w4.frozen? ⟨w.heap.size + 1, 4, none⟩ = false := TCz.frozen 4
      have z5 : w4.cell? ⟨w.heap.size + 1, 5, none⟩ = some (.int .u32 0) := TCz.cell 5
      have y5 : w4.frozen? ⟨w.heap.size + 1, 5, none⟩ = false := TCz.frozen 5
      have z6 : w4.cell? ⟨w.heap.size + 1, 6, none⟩ = some (.int .u32 0) := TCz.cell 6
      have y6 : w4.frozen? ⟨w.heap.size + 1, 6, none⟩ = false := TCz.frozen 6
      have z7 : w4.cell? ⟨w.heap.size + 1, 7, none⟩ = some (.int .u32 0) := TCz.cell 7
      have y7 : w4.frozen? ⟨w.heap.size + 1, 7, none⟩ = false := TCz.frozen 7
      have z8 : w4.cell? ⟨w.heap.size + 1, 8, none⟩ = some (.slice none 0 0) := TCz.cell 8
      have y8 : w4.frozen? ⟨w.heap.size + 1, 8, none⟩ = false := TCz.frozen 8
      have z9 : w4.cell? ⟨w.heap.size + 1, 9, none⟩ = some (.slice none 0 0) := TCz.cell 9
      have y9 : w4.frozen? ⟨w.heap.size + 1, 9, none⟩ = false := TCz.frozen 9
      have zl := TCz.lt
      clear TCz
      have s3 := HB3.out.size
      have s3 : w.heap.size + 2 ≤ w3.heap.size := by simpa using s3
      have FF : Hid (∀ vs, RAns w G b cb T d (L.set y v) (.bool true) (.returned (.tuple #[.agg #[.int .u32 (G 0 : Int), .int .u32 (G 1 : Int), .int .u32 (G 2 : Int), .int .u32 (G 3 : Int), .int .u32 (G 4 : Int), .int .u32 (G 5 : Int), .int .u32 (G 6 : Int), .int .u32 (G 7 : Int), .slice (some ⟨b, 0, none⟩) T.length cb, .slice (some ⟨d', 0, none⟩) L.length cd'], .bool true])) ((w4).setCells (w.heap.size + 1) 0 vs)) := Lib.hid (fun vs => ⟨d', cd', by simp [rm], Or.inr (by omega), wds_setCells (by omega) vs 0 _ hw', below_setCells (by omega) vs 0 _ B4.out⟩)
      have hll : (L.set y v).length = L.length := by simp
      unfold rm
      rw [hll]
      clear hb4 hw' hd'
      go_wp2_with fail
      (try simp only [Exit.inBlock, Exit.then])
      refine bodyPost_ret (v := .tuple #[.agg #[.int .u32 (G 0 : Int), .int .u32 (G 1 : Int), .int .u32 (G 2 : Int), .int .u32 (G 3 : Int), .int .u32 (G 4 : Int), .int .u32 (G 5 : Int), .int .u32 (G 6 : Int), .int .u32 (G 7 : Int), .slice (some ⟨b, 0, none⟩) T.length cb, .slice (some ⟨d', 0, none⟩) L.length cd'], .bool true]) (by simp [results, Tryz.results42, go_sem, *]) rfl ?_
      exact FF.out [.int .u32 (G 0 : Int), .int .u32 (G 1 : Int), .int .u32 (G 2 : Int), .int .u32 (G 3 : Int), .int .u32 (G 4 : Int), .int .u32 (G 5 : Int), .int .u32 (G 6 : Int), .int .u32 (G 7 : Int), .slice (some ⟨b, 0, none⟩) T.length cb, .slice (some ⟨d', 0, none⟩) L.length cd']

end Go.Proofs.YthnbdeibjbicpaaGreat.PM

/- Contract of the reference's memory: Load. Conditions: the memory's cells. -/
namespace Go.Proofs.YthnbdeibjbicpaaGreat.PM
set_option linter.unusedVariables false
set_option linter.unusedSimpArgs false
set_option linter.unnecessarySimpa false
open Go.RowKit
set_option maxRecDepth 100000 in
set_option maxHeartbeats 8000000 in
theorem rload_c (w : World) (G : Nat → Nat) (b cb d cd : Nat) (T : List Page) (L : List Nat) (r : RM w b d T L) (x ep : Nat) (hx : x < 4294967296) :
    Calls Tryz.prog 41 #[rm G b cb T d cd L, .int .u32 (x : Int), .int .u64 (ep : Int)] w fun e w' => e = .returned (f2 (loadM G T L x ep)) ∧ Below w.heap.size w w' := by
  have TH := fun W => there_c W G b cb d cd T L (by have := r.len; have := r.few; omega) x hx
  have PK := fun W (q : RM W b d T L) => rpeek_c W G b cb d cd T L q x hx
  have PC := Lib.hid (fun W => rpageof_c W x hx)
  have HR := Lib.hid r
  have T0 := Lib.hid (ten10 ((Blk.new w 36 #[.int .u32 (G 0 : Int), .int .u32 (G 1 : Int), .int .u32 (G 2 : Int), .int .u32 (G 3 : Int), .int .u32 (G 4 : Int), .int .u32 (G 5 : Int), .int .u32 (G 6 : Int), .int .u32 (G 7 : Int), .slice (some ⟨b, 0, none⟩) T.length cb, .slice (some ⟨d, 0, none⟩) L.length cd]).drewN 1))
  have B0 : Hid (Below w.heap.size w (w.alloc (.cells #[.int .u32 (G 0 : Int), .int .u32 (G 1 : Int), .int .u32 (G 2 : Int), .int .u32 (G 3 : Int), .int .u32 (G 4 : Int), .int .u32 (G 5 : Int), .int .u32 (G 6 : Int), .int .u32 (G 7 : Int), .slice (some ⟨b, 0, none⟩) T.length cb, .slice (some ⟨d, 0, none⟩) L.length cd] 36))) := Lib.hid ((Below.refl _ w).alloc (Nat.le_refl _) _)
  have hlen := r.len
  have few := r.few
  have RG := fun W (q : Pgs W b T) => rget_c W b cb T q (pageOf x)
  have hgp : P1.see (getP T (pageOf x)).s ep (getP T (pageOf x)).ep = true → inB L x = true := by
    intro h
    unfold getP at h
    by_cases hq : 0 ≤ pageOf x ∧ pageOf x < (T.length : Int)
    · unfold pageOf at hq
      unfold inB
      by_cases h0 : x < 80 ∨ 4176 ≤ x
      · rw [if_pos h0] at hq; omega
      · rw [if_neg h0] at hq
        simp only [Bool.and_eq_true, decide_eq_true_eq]
        omega
    · rw [if_neg hq] at h
      exact absurd (h.symm.trans rfl : true = false) (by decide)
  have hge : inB L x = true → 80 ≤ x := by
    intro h; unfold inB at h; simp only [Bool.and_eq_true, decide_eq_true_eq] at h; omega
  unfold loadM f2
  generalize peekM G L x = z at PK ⊢
  generalize pageOf x = i at RG PC hgp ⊢
  generalize getP T i = p at RG hgp ⊢
  obtain ⟨s, x_, wr, ow, pe⟩ := p
  simp only at hgp ⊢
  have RG : Hid (∀ W, Pgs W b T → Calls Tryz.prog 62 #[.agg #[.slice (some ⟨b, 0, none⟩) T.length cb], .int .i64 i] W fun e w' => e = .returned (.agg #[.int .u8 (s : Int), .bool x_, .bool wr, .int .u16 (ow : Int), .int .u64 (pe : Int)]) ∧ Below W.heap.size W w') := Lib.hid RG
  have RD := fun W => P1.rreads_c s x_ wr ow pe ep W
  have RD : ∀ W, Calls Tryz.prog 89 #[.agg #[.int .u8 (s : Int), .bool x_, .bool wr, .int .u16 (ow : Int), .int .u64 (pe : Int)], .int .u64 (ep : Int)] W fun r w' => r = .returned (.bool (P1.see s ep pe)) ∧ Below W.heap.size W w' := RD
  generalize P1.see s ep pe = R at RD hgp ⊢
  have RD := Lib.hid RD
  have PK := Lib.hid PK
  unfold rm at PK TH ⊢
  by_cases h0 : x < 80
  · rw [if_neg (by omega)]
    have hz : decide ((x : Int) < 80) = true := by simp; omega
    have P1_ := Lib.hid (PK.out _ ((HR.out.alloc (.cells #[.int .u32 (G 0 : Int), .int .u32 (G 1 : Int), .int .u32 (G 2 : Int), .int .u32 (G 3 : Int), .int .u32 (G 4 : Int), .int .u32 (G 5 : Int), .int .u32 (G 6 : Int), .int .u32 (G 7 : Int), .slice (some ⟨b, 0, none⟩) T.length cb, .slice (some ⟨d, 0, none⟩) L.length cd] 36)).drewN 1))
    clear TH PC RG RD hgp hge r hlen few
    go_enter Tryz.func41, Tryz.ntmps41
    go_wp2_with fail
    refine wp_region_held_drew (S := (fun w' => w'.cell? ⟨w.heap.size, 0, none⟩ = some (.int .u32 (G 0 : Int)) ∧ w'.cell? ⟨w.heap.size, 1, none⟩ = some (.int .u32 (G 1 : Int)) ∧ w'.cell? ⟨w.heap.size, 2, none⟩ = some (.int .u32 (G 2 : Int)) ∧ w'.cell? ⟨w.heap.size, 3, none⟩ = some (.int .u32 (G 3 : Int)) ∧ w'.cell? ⟨w.heap.size, 4, none⟩ = some (.int .u32 (G 4 : Int)) ∧ w'.cell? ⟨w.heap.size, 5, none⟩ = some (.int .u32 (G 5 : Int)) ∧ w'.cell? ⟨w.heap.size, 6, none⟩ = some (.int .u32 (G 6 : Int)) ∧ w'.cell? ⟨w.heap.size, 7, none⟩ = some (.int .u32 (G 7 : Int)) ∧ w'.cell? ⟨w.heap.size, 8, none⟩ = some (.slice (some ⟨b, 0, none⟩) T.length cb) ∧ w'.cell? ⟨w.heap.size, 9, none⟩ = some (.slice (some ⟨d, 0, none⟩) L.length cd))) (by kernel_rfl) (by exact T0.out) (fun hHeld => ?_)
    refine takeY (i := 0) (v := .int .u32 (x : Int)) (d := some 8) (l' := #[true, false, false, false, false, false, false, false, false, false, false, false, false, false, false, false]) rfl rfl (by kernel_rfl) (by kernel_rfl) (by kernel_rfl) (by kernel_rfl) (fun _ _ _ h => h) (by rfl) (by (intro w hSw; (try dsimp only at hSw); go_simp)) (by assumption) ?_
    (try simp only [Act.put, List.setIfInBounds_toArray, List.set_cons_zero, List.set_cons_succ])
    refine takeY (i := 1) (v := .bool true) (d := some 9) (l' := #[true, true, false, false, false, false, false, false, false, false, false, false, false, false, false, false]) rfl rfl (by kernel_rfl) (by kernel_rfl) (by kernel_rfl) (by kernel_rfl) (fun _ _ _ h => h) (by rfl) (by (intro w hSw; (try dsimp only at hSw); go_simp)) (by assumption) ?_
    (try simp only [Act.put, List.setIfInBounds_toArray, List.set_cons_zero, List.set_cons_succ])
    refine takeY (i := 2) (v := .bool true) (d := some 10) (l' := #[true, true, true, false, false, false, false, false, false, false, false, false, false, false, false, false]) rfl rfl (by kernel_rfl) (by kernel_rfl) (by kernel_rfl) (by kernel_rfl) (fun _ _ _ h => h) (by rfl) (by (intro w hSw; (try dsimp only at hSw); go_simp)) (by assumption) ?_
    (try simp only [Act.put, List.setIfInBounds_toArray, List.set_cons_zero, List.set_cons_succ])
    refine takeU (i := 3) (d := some 11) (l' := #[true, true, true, true, false, false, false, false, false, false, false, false, false, false, false, false]) rfl rfl (by kernel_rfl) (by kernel_rfl) (by kernel_rfl) (by kernel_rfl) (fun _ _ _ h => h) (by rfl) (by assumption) ?_
    (try simp only [Act.put, List.setIfInBounds_toArray, List.set_cons_zero, List.set_cons_succ])
    refine takeU (i := 4) (d := some 12) (l' := #[true, true, true, true, true, false, false, false, false, false, false, false, false, false, false, false]) rfl rfl (by kernel_rfl) (by kernel_rfl) (by kernel_rfl) (by kernel_rfl) (fun _ _ _ h => h) (by rfl) (by assumption) ?_
    (try simp only [Act.put, List.setIfInBounds_toArray, List.set_cons_zero, List.set_cons_succ])
    refine takeU (i := 5) (d := some 13) (l' := #[true, true, true, true, true, true, false, false, false, false, false, false, false, false, false, false]) rfl rfl (by kernel_rfl) (by kernel_rfl) (by kernel_rfl) (by kernel_rfl) (fun _ _ _ h => h) (by rfl) (by assumption) ?_
    (try simp only [Act.put, List.setIfInBounds_toArray, List.set_cons_zero, List.set_cons_succ])
    refine takeU (i := 6) (d := some 14) (l' := #[true, true, true, true, true, true, true, false, false, false, false, false, false, false, false, false]) rfl rfl (by kernel_rfl) (by kernel_rfl) (by kernel_rfl) (by kernel_rfl) (fun _ _ _ h => h) (by rfl) (by assumption) ?_
    (try simp only [Act.put, List.setIfInBounds_toArray, List.set_cons_zero, List.set_cons_succ])
    refine takeU (i := 7) (d := some 15) (l' := #[true, true, true, true, true, true, true, true, false, false, false, false, false, false, false, false]) rfl rfl (by kernel_rfl) (by kernel_rfl) (by kernel_rfl) (by kernel_rfl) (fun _ _ _ h => h) (by rfl) (by assumption) ?_
    (try simp only [Act.put, List.setIfInBounds_toArray, List.set_cons_zero, List.set_cons_succ])
    refine takeU (i := 8) (d := some 16) (l' := #[true, true, true, true, true, true, true, true, true, false, false, false, false, false, false, false]) rfl rfl (by kernel_rfl) (by kernel_rfl) (by kernel_rfl) (by kernel_rfl) (fun _ _ _ h => h) (by rfl) (by assumption) ?_
    (try simp only [Act.put, List.setIfInBounds_toArray, List.set_cons_zero, List.set_cons_succ])
    refine takeU (i := 9) (d := some 17) (l' := #[true, true, true, true, true, true, true, true, true, true, false, false, false, false, false, false]) rfl rfl (by kernel_rfl) (by kernel_rfl) (by kernel_rfl) (by kernel_rfl) (fun _ _ _ h => h) (by rfl) (by assumption) ?_
    (try simp only [Act.put, List.setIfInBounds_toArray, List.set_cons_zero, List.set_cons_succ])
    refine takeU (i := 10) (d := some 18) (l' := #[true, true, true, true, true, true, true, true, true, true, true, false, false, false, false, false]) rfl rfl (by kernel_rfl) (by kernel_rfl) (by kernel_rfl) (by kernel_rfl) (fun _ _ _ h => h) (by rfl) (by assumption) ?_
    (try simp only [Act.put, List.setIfInBounds_toArray, List.set_cons_zero, List.set_cons_succ])
    refine takeU (i := 11) (d := some 19) (l' := #[true, true, true, true, true, true, true, true, true, true, true, true, false, false, false, false]) rfl rfl (by kernel_rfl) (by kernel_rfl) (by kernel_rfl) (by kernel_rfl) (fun _ _ _ h => h) (by rfl) (by assumption) ?_
    (try simp only [Act.put, List.setIfInBounds_toArray, List.set_cons_zero, List.set_cons_succ])
    refine takeU (i := 12) (d := some 20) (l' := #[true, true, true, true, true, true, true, true, true, true, true, true, true, false, false, false]) rfl rfl (by kernel_rfl) (by kernel_rfl) (by kernel_rfl) (by kernel_rfl) (fun _ _ _ h => h) (by rfl) (by assumption) ?_
    (try simp only [Act.put, List.setIfInBounds_toArray, List.set_cons_zero, List.set_cons_succ])
    refine takeU (i := 13) (d := some 21) (l' := #[true, true, true, true, true, true, true, true, true, true, true, true, true, true, false, false]) rfl rfl (by kernel_rfl) (by kernel_rfl) (by kernel_rfl) (by kernel_rfl) (fun _ _ _ h => h) (by rfl) (by assumption) ?_
    (try simp only [Act.put, List.setIfInBounds_toArray, List.set_cons_zero, List.set_cons_succ])
    refine takeU (i := 14) (d := some 22) (l' := #[true, true, true, true, true, true, true, true, true, true, true, true, true, true, true, false]) rfl rfl (by kernel_rfl) (by kernel_rfl) (by kernel_rfl) (by kernel_rfl) (fun _ _ _ h => h) (by rfl) (by assumption) ?_
    (try simp only [Act.put, List.setIfInBounds_toArray, List.set_cons_zero, List.set_cons_succ])
    refine takeY (i := 15) (v := .bool true) (d := some 23) (l' := #[true, true, true, true, true, true, true, true, true, true, true, true, true, true, true, true]) rfl rfl (by kernel_rfl) (by kernel_rfl) (by kernel_rfl) (by kernel_rfl) (fun _ _ _ h => h) (by rfl) (by (intro w hSw; (try dsimp only at hSw); go_simp)) (by assumption) ?_
    (try simp only [Act.put, List.setIfInBounds_toArray, List.set_cons_zero, List.set_cons_succ])
    refine wpAnyH_done (by kernel_rfl) ?_ _
    have TC := (Blk.new w 36 #[.int .u32 (G 0 : Int), .int .u32 (G 1 : Int), .int .u32 (G 2 : Int), .int .u32 (G 3 : Int), .int .u32 (G 4 : Int), .int .u32 (G 5 : Int), .int .u32 (G 6 : Int), .int .u32 (G 7 : Int), .slice (some ⟨b, 0, none⟩) T.length cb, .slice (some ⟨d, 0, none⟩) L.length cd]).drewN 1
    obtain ⟨t0, t1, t2, t3, t4, t5, t6, t7, t8, t9⟩ := blkc10 TC
    have tl := TC.lt
    clear TC
    go_wp2_with fail
    refine P1_.out.mono ?_
    rintro e w9 ⟨rfl, hb9⟩
    have B9 := Lib.hid ((B0.out.drew).trans (hb9.mono (by have := (B0.out.drew).size; simpa using this)))
    clear hb9
    go_wp2_with fail
    go_ret2
    exact ⟨rfl, B9.out⟩
  have hz : decide ((x : Int) < 80) = false := by simp; omega
  cases hin : inB L x with
  | false =>
    have hR : R = false := by
      cases R with
      | false => rfl
      | true => rw [hgp rfl] at hin; cases hin
    subst hR
    rw [if_pos ⟨by omega, rfl⟩]
    rw [hin] at TH
    have TH := Lib.hid TH
    clear PK PC RG RD hgp hge r hlen few hin
    go_enter Tryz.func41, Tryz.ntmps41
    go_wp2_with fail
    refine wp_region_held_drew (S := (fun w' => w'.cell? ⟨w.heap.size, 0, none⟩ = some (.int .u32 (G 0 : Int)) ∧ w'.cell? ⟨w.heap.size, 1, none⟩ = some (.int .u32 (G 1 : Int)) ∧ w'.cell? ⟨w.heap.size, 2, none⟩ = some (.int .u32 (G 2 : Int)) ∧ w'.cell? ⟨w.heap.size, 3, none⟩ = some (.int .u32 (G 3 : Int)) ∧ w'.cell? ⟨w.heap.size, 4, none⟩ = some (.int .u32 (G 4 : Int)) ∧ w'.cell? ⟨w.heap.size, 5, none⟩ = some (.int .u32 (G 5 : Int)) ∧ w'.cell? ⟨w.heap.size, 6, none⟩ = some (.int .u32 (G 6 : Int)) ∧ w'.cell? ⟨w.heap.size, 7, none⟩ = some (.int .u32 (G 7 : Int)) ∧ w'.cell? ⟨w.heap.size, 8, none⟩ = some (.slice (some ⟨b, 0, none⟩) T.length cb) ∧ w'.cell? ⟨w.heap.size, 9, none⟩ = some (.slice (some ⟨d, 0, none⟩) L.length cd))) (by kernel_rfl) (by exact T0.out) (fun hHeld => ?_)
    refine takeY (i := 0) (v := .int .u32 (x : Int)) (d := some 8) (l' := #[true, false, false, false, false, false, false, false, false, false, false, false, false, false, false, false]) rfl rfl (by kernel_rfl) (by kernel_rfl) (by kernel_rfl) (by kernel_rfl) (fun _ _ _ h => h) (by rfl) (by (intro w hSw; (try dsimp only at hSw); go_simp)) (by assumption) ?_
    (try simp only [Act.put, List.setIfInBounds_toArray, List.set_cons_zero, List.set_cons_succ])
    refine takeY (i := 1) (v := .bool false) (d := some 9) (l' := #[true, true, false, false, false, false, false, false, false, false, false, false, false, false, false, false]) rfl rfl (by kernel_rfl) (by kernel_rfl) (by kernel_rfl) (by kernel_rfl) (fun _ _ _ h => h) (by rfl) (by (intro w hSw; (try dsimp only at hSw); go_simp)) (by assumption) ?_
    (try simp only [Act.put, List.setIfInBounds_toArray, List.set_cons_zero, List.set_cons_succ])
    refine takeY (i := 2) (v := .bool false) (d := some 10) (l' := #[true, true, true, false, false, false, false, false, false, false, false, false, false, false, false, false]) rfl rfl (by kernel_rfl) (by kernel_rfl) (by kernel_rfl) (by kernel_rfl) (fun _ _ _ h => h) (by rfl) (by (intro w hSw; (try dsimp only at hSw); go_simp)) (by assumption) ?_
    (try simp only [Act.put, List.setIfInBounds_toArray, List.set_cons_zero, List.set_cons_succ])
    refine takeY (i := 3) (v := .agg #[.int .u32 (G 0 : Int), .int .u32 (G 1 : Int), .int .u32 (G 2 : Int), .int .u32 (G 3 : Int), .int .u32 (G 4 : Int), .int .u32 (G 5 : Int), .int .u32 (G 6 : Int), .int .u32 (G 7 : Int), .slice (some ⟨b, 0, none⟩) T.length cb, .slice (some ⟨d, 0, none⟩) L.length cd]) (d := some 11) (l' := #[true, true, true, true, false, false, false, false, false, false, false, false, false, false, false, false]) rfl rfl (by kernel_rfl) (by kernel_rfl) (by kernel_rfl) (by kernel_rfl) (fun _ _ _ h => h) (by rfl) (by (intro w hSw; (try dsimp only at hSw); go_simp)) (by assumption) ?_
    (try simp only [Act.put, List.setIfInBounds_toArray, List.set_cons_zero, List.set_cons_succ])
    refine takeY (i := 4) (v := .int .u32 (x : Int)) (d := some 12) (l' := #[true, true, true, true, true, false, false, false, false, false, false, false, false, false, false, false]) rfl rfl (by kernel_rfl) (by kernel_rfl) (by kernel_rfl) (by kernel_rfl) (fun _ _ _ h => h) (by rfl) (by (intro w hSw; (try dsimp only at hSw); go_simp)) (by assumption) ?_
    (try simp only [Act.put, List.setIfInBounds_toArray, List.set_cons_zero, List.set_cons_succ])
    refine wpAnyH_ready (rs := [5]) (by kernel_rfl) (by simp) ?_
    refine AllReadyH.cons rfl (fun K hK => ?_) AllReadyH.nil
    go_simp
    go_at_call 61; (with_reducible refine (TH.out _).mono ?_); rintro e w1 ⟨rfl, hb⟩
    go_wp2_with fail
    refine hK.out _ _ (by exact keep10 hb hHeld) (fun hHeld => ?_)
    clear hK K
    (try simp only [Act.put, List.setIfInBounds_toArray, List.set_cons_zero, List.set_cons_succ])
    refine takeY (i := 6) (v := .bool false) (d := some 14) (l' := #[true, true, true, true, true, true, true, false, false, false, false, false, false, false, false, false]) rfl rfl (by kernel_rfl) (by kernel_rfl) (by kernel_rfl) (by kernel_rfl) (fun _ _ _ h => h) (by rfl) (by (intro w hSw; (try dsimp only at hSw); go_simp)) (by assumption) ?_
    (try simp only [Act.put, List.setIfInBounds_toArray, List.set_cons_zero, List.set_cons_succ])
    refine takeU (i := 7) (d := some 15) (l' := #[true, true, true, true, true, true, true, true, false, false, false, false, false, false, false, false]) rfl rfl (by kernel_rfl) (by kernel_rfl) (by kernel_rfl) (by kernel_rfl) (fun _ _ _ h => h) (by rfl) (by assumption) ?_
    (try simp only [Act.put, List.setIfInBounds_toArray, List.set_cons_zero, List.set_cons_succ])
    refine takeU (i := 8) (d := some 16) (l' := #[true, true, true, true, true, true, true, true, true, false, false, false, false, false, false, false]) rfl rfl (by kernel_rfl) (by kernel_rfl) (by kernel_rfl) (by kernel_rfl) (fun _ _ _ h => h) (by rfl) (by assumption) ?_
    (try simp only [Act.put, List.setIfInBounds_toArray, List.set_cons_zero, List.set_cons_succ])
    refine takeU (i := 9) (d := some 17) (l' := #[true, true, true, true, true, true, true, true, true, true, false, false, false, false, false, false]) rfl rfl (by kernel_rfl) (by kernel_rfl) (by kernel_rfl) (by kernel_rfl) (fun _ _ _ h => h) (by rfl) (by assumption) ?_
    (try simp only [Act.put, List.setIfInBounds_toArray, List.set_cons_zero, List.set_cons_succ])
    refine takeU (i := 10) (d := some 18) (l' := #[true, true, true, true, true, true, true, true, true, true, true, false, false, false, false, false]) rfl rfl (by kernel_rfl) (by kernel_rfl) (by kernel_rfl) (by kernel_rfl) (fun _ _ _ h => h) (by rfl) (by assumption) ?_
    (try simp only [Act.put, List.setIfInBounds_toArray, List.set_cons_zero, List.set_cons_succ])
    refine takeU (i := 11) (d := some 19) (l' := #[true, true, true, true, true, true, true, true, true, true, true, true, false, false, false, false]) rfl rfl (by kernel_rfl) (by kernel_rfl) (by kernel_rfl) (by kernel_rfl) (fun _ _ _ h => h) (by rfl) (by assumption) ?_
    (try simp only [Act.put, List.setIfInBounds_toArray, List.set_cons_zero, List.set_cons_succ])
    refine takeU (i := 12) (d := some 20) (l' := #[true, true, true, true, true, true, true, true, true, true, true, true, true, false, false, false]) rfl rfl (by kernel_rfl) (by kernel_rfl) (by kernel_rfl) (by kernel_rfl) (fun _ _ _ h => h) (by rfl) (by assumption) ?_
    (try simp only [Act.put, List.setIfInBounds_toArray, List.set_cons_zero, List.set_cons_succ])
    refine takeU (i := 13) (d := some 21) (l' := #[true, true, true, true, true, true, true, true, true, true, true, true, true, true, false, false]) rfl rfl (by kernel_rfl) (by kernel_rfl) (by kernel_rfl) (by kernel_rfl) (fun _ _ _ h => h) (by rfl) (by assumption) ?_
    (try simp only [Act.put, List.setIfInBounds_toArray, List.set_cons_zero, List.set_cons_succ])
    refine takeY (i := 14) (v := .bool false) (d := some 22) (l' := #[true, true, true, true, true, true, true, true, true, true, true, true, true, true, true, false]) rfl rfl (by kernel_rfl) (by kernel_rfl) (by kernel_rfl) (by kernel_rfl) (fun _ _ _ h => h) (by rfl) (by (intro w hSw; (try dsimp only at hSw); go_simp)) (by assumption) ?_
    (try simp only [Act.put, List.setIfInBounds_toArray, List.set_cons_zero, List.set_cons_succ])
    refine takeY (i := 15) (v := .bool false) (d := some 23) (l' := #[true, true, true, true, true, true, true, true, true, true, true, true, true, true, true, true]) rfl rfl (by kernel_rfl) (by kernel_rfl) (by kernel_rfl) (by kernel_rfl) (fun _ _ _ h => h) (by rfl) (by (intro w hSw; (try dsimp only at hSw); go_simp)) (by assumption) ?_
    (try simp only [Act.put, List.setIfInBounds_toArray, List.set_cons_zero, List.set_cons_succ])
    refine wpAnyH_done (by kernel_rfl) ?_ _
    have B1 := Lib.hid (B0.out.trans ((((Below.refl _ _).drew).trans hb).mono (by simp)))
    clear hb hHeld
    go_wp2_with fail
    go_ret2
    exact ⟨rfl, B1.out⟩
  | true =>
    rw [hin] at TH
    have TH := Lib.hid TH
    clear hgp hge r hlen few hin
    cases R with
    | false =>
      rw [if_pos ⟨by omega, rfl⟩]
      clear PK
      go_enter Tryz.func41, Tryz.ntmps41
      go_wp2_with fail
      go_region_held3 (fun w' => w'.cell? ⟨w.heap.size, 0, none⟩ = some (.int .u32 (G 0 : Int)) ∧ w'.cell? ⟨w.heap.size, 1, none⟩ = some (.int .u32 (G 1 : Int)) ∧ w'.cell? ⟨w.heap.size, 2, none⟩ = some (.int .u32 (G 2 : Int)) ∧ w'.cell? ⟨w.heap.size, 3, none⟩ = some (.int .u32 (G 3 : Int)) ∧ w'.cell? ⟨w.heap.size, 4, none⟩ = some (.int .u32 (G 4 : Int)) ∧ w'.cell? ⟨w.heap.size, 5, none⟩ = some (.int .u32 (G 5 : Int)) ∧ w'.cell? ⟨w.heap.size, 6, none⟩ = some (.int .u32 (G 6 : Int)) ∧ w'.cell? ⟨w.heap.size, 7, none⟩ = some (.int .u32 (G 7 : Int)) ∧ w'.cell? ⟨w.heap.size, 8, none⟩ = some (.slice (some ⟨b, 0, none⟩) T.length cb) ∧ w'.cell? ⟨w.heap.size, 9, none⟩ = some (.slice (some ⟨d, 0, none⟩) L.length cd)) (first | (exact T0.out) | (apply keep10 hb3; assumption) | (apply keep10 hb2; assumption) | (apply keep10 hb; assumption) | go_keep) ((first | (go_at_call 61; (with_reducible refine (TH.out _).mono ?_); rintro e w1 ⟨rfl, hb⟩; have B1 : Hid (Below w.heap.size w w1) := Lib.hid (B0.out.trans ((((Below.refl _ (w.alloc (.cells #[.int .u32 (G 0 : Int), .int .u32 (G 1 : Int), .int .u32 (G 2 : Int), .int .u32 (G 3 : Int), .int .u32 (G 4 : Int), .int .u32 (G 5 : Int), .int .u32 (G 6 : Int), .int .u32 (G 7 : Int), .slice (some ⟨b, 0, none⟩) T.length cb, .slice (some ⟨d, 0, none⟩) L.length cd] 36))).drew).trans hb).mono (by simp)))) | (go_at_call 63; (with_reducible refine (PC.out _).mono ?_); rintro e w2 ⟨rfl, rfl⟩) | (go_at_call 62; (with_reducible refine (RG.out _ ?_).mono ?_); (first | exact (HR.out.kept B1.out).pgs | exact (HR.out.kept B1.out).pgs.drewN 1); rintro e w2 ⟨rfl, hb2⟩) | (go_at_call 89; (with_reducible refine (RD.out _).mono ?_); rintro e w3 ⟨rfl, hb3⟩)))
      have HB3 : Hid (Below (w.alloc (.cells #[.int .u32 (G 0 : Int), .int .u32 (G 1 : Int), .int .u32 (G 2 : Int), .int .u32 (G 3 : Int), .int .u32 (G 4 : Int), .int .u32 (G 5 : Int), .int .u32 (G 6 : Int), .int .u32 (G 7 : Int), .slice (some ⟨b, 0, none⟩) T.length cb, .slice (some ⟨d, 0, none⟩) L.length cd] 36)).heap.size (w.alloc (.cells #[.int .u32 (G 0 : Int), .int .u32 (G 1 : Int), .int .u32 (G 2 : Int), .int .u32 (G 3 : Int), .int .u32 (G 4 : Int), .int .u32 (G 5 : Int), .int .u32 (G 6 : Int), .int .u32 (G 7 : Int), .slice (some ⟨b, 0, none⟩) T.length cb, .slice (some ⟨d, 0, none⟩) L.length cd] 36)) w3) := Lib.hid ((((Below.refl _ _).drew).trans hb).trans ((hb2.trans (hb3.mono hb2.size)).mono hb.size))
      have B3 := Lib.hid (B0.out.trans (HB3.out.mono (by simp)))
      clear hb hb2 hb3
      go_wp2_with fail
      go_ret2
      exact ⟨rfl, B3.out⟩
    | true =>
      rw [if_neg (by simp)]
      skip
      go_enter Tryz.func41, Tryz.ntmps41
      go_wp2_with fail
      go_region_held3 (fun w' => w'.cell? ⟨w.heap.size, 0, none⟩ = some (.int .u32 (G 0 : Int)) ∧ w'.cell? ⟨w.heap.size, 1, none⟩ = some (.int .u32 (G 1 : Int)) ∧ w'.cell? ⟨w.heap.size, 2, none⟩ = some (.int .u32 (G 2 : Int)) ∧ w'.cell? ⟨w.heap.size, 3, none⟩ = some (.int .u32 (G 3 : Int)) ∧ w'.cell? ⟨w.heap.size, 4, none⟩ = some (.int .u32 (G 4 : Int)) ∧ w'.cell? ⟨w.heap.size, 5, none⟩ = some (.int .u32 (G 5 : Int)) ∧ w'.cell? ⟨w.heap.size, 6, none⟩ = some (.int .u32 (G 6 : Int)) ∧ w'.cell? ⟨w.heap.size, 7, none⟩ = some (.int .u32 (G 7 : Int)) ∧ w'.cell? ⟨w.heap.size, 8, none⟩ = some (.slice (some ⟨b, 0, none⟩) T.length cb) ∧ w'.cell? ⟨w.heap.size, 9, none⟩ = some (.slice (some ⟨d, 0, none⟩) L.length cd)) (first | (exact T0.out) | (apply keep10 hb3; assumption) | (apply keep10 hb2; assumption) | (apply keep10 hb; assumption) | go_keep) ((first | (go_at_call 61; (with_reducible refine (TH.out _).mono ?_); rintro e w1 ⟨rfl, hb⟩; have B1 : Hid (Below w.heap.size w w1) := Lib.hid (B0.out.trans ((((Below.refl _ (w.alloc (.cells #[.int .u32 (G 0 : Int), .int .u32 (G 1 : Int), .int .u32 (G 2 : Int), .int .u32 (G 3 : Int), .int .u32 (G 4 : Int), .int .u32 (G 5 : Int), .int .u32 (G 6 : Int), .int .u32 (G 7 : Int), .slice (some ⟨b, 0, none⟩) T.length cb, .slice (some ⟨d, 0, none⟩) L.length cd] 36))).drew).trans hb).mono (by simp)))) | (go_at_call 63; (with_reducible refine (PC.out _).mono ?_); rintro e w2 ⟨rfl, rfl⟩) | (go_at_call 62; (with_reducible refine (RG.out _ ?_).mono ?_); (first | exact (HR.out.kept B1.out).pgs | exact (HR.out.kept B1.out).pgs.drewN 1); rintro e w2 ⟨rfl, hb2⟩) | (go_at_call 89; (with_reducible refine (RD.out _).mono ?_); rintro e w3 ⟨rfl, hb3⟩)))
      have HB3 : Hid (Below (w.alloc (.cells #[.int .u32 (G 0 : Int), .int .u32 (G 1 : Int), .int .u32 (G 2 : Int), .int .u32 (G 3 : Int), .int .u32 (G 4 : Int), .int .u32 (G 5 : Int), .int .u32 (G 6 : Int), .int .u32 (G 7 : Int), .slice (some ⟨b, 0, none⟩) T.length cb, .slice (some ⟨d, 0, none⟩) L.length cd] 36)).heap.size (w.alloc (.cells #[.int .u32 (G 0 : Int), .int .u32 (G 1 : Int), .int .u32 (G 2 : Int), .int .u32 (G 3 : Int), .int .u32 (G 4 : Int), .int .u32 (G 5 : Int), .int .u32 (G 6 : Int), .int .u32 (G 7 : Int), .slice (some ⟨b, 0, none⟩) T.length cb, .slice (some ⟨d, 0, none⟩) L.length cd] 36)) w3) := Lib.hid ((((Below.refl _ _).drew).trans hb).trans ((hb2.trans (hb3.mono hb2.size)).mono hb.size))
      have B3 := Lib.hid (B0.out.trans (HB3.out.mono (by simp)))
      have TC := (Blk.new w 36 #[.int .u32 (G 0 : Int), .int .u32 (G 1 : Int), .int .u32 (G 2 : Int), .int .u32 (G 3 : Int), .int .u32 (G 4 : Int), .int .u32 (G 5 : Int), .int .u32 (G 6 : Int), .int .u32 (G 7 : Int), .slice (some ⟨b, 0, none⟩) T.length cb, .slice (some ⟨d, 0, none⟩) L.length cd]).kept HB3.out
      obtain ⟨t0, t1, t2, t3, t4, t5, t6, t7, t8, t9⟩ := blkc10 TC
      have tl := TC.lt
      clear TC
      have P1_ := Lib.hid (PK.out w3 (HR.out.kept B3.out))
      clear hb hb2 hb3 PK
      go_wp2_with fail
      refine P1_.out.mono ?_
      rintro e w9 ⟨rfl, hb9⟩
      have B9 := Lib.hid (B3.out.trans (hb9.mono (by have := B3.out.size; simpa using this)))
      clear hb9
      go_wp2_with fail
      go_ret2
      exact ⟨rfl, B9.out⟩
end Go.Proofs.YthnbdeibjbicpaaGreat.PM
