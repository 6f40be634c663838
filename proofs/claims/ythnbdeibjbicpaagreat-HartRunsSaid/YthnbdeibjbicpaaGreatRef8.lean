/- Contracts of the reference's memory: Fetch, Load. Conditions: the memory's cells. -/
import Derived.Test.YthnbdeibjbicpaaGreatKRefB
import Derived.Deep.DeepCutAuto
set_option linter.unusedSimpArgs false
namespace Go.Proofs.YthnbdeibjbicpaaGreat.PM
set_option linter.unusedVariables false
open Go.RowKit
/-- A page that was read, in a box of its own. -/
structure BoxSt (W w : World) (B : Nat) (cs : Array Value) : Prop where
  below : Below W.heap.size W w
  box : Blk w B 109 cs
theorem boxA {W w : World} (hb : Below W.heap.size W w) (cs : Array Value) : BoxSt W (w.alloc (.cells cs 109)) w.heap.size cs := ⟨hb.alloc hb.size _, Blk.new _ _ _⟩
theorem boxB {W w : World} (hb : Below (W.alloc (.cells #[.int .u8 0, .bool false, .bool false, .int .u16 0, .int .u64 0] 109)).heap.size (W.alloc (.cells #[.int .u8 0, .bool false, .bool false, .int .u16 0, .int .u64 0] 109)) w) (v0 v1 v2 v3 v4 : Value) :
    BoxSt W (((((w.setCell ⟨W.heap.size, 0, none⟩ v0).setCell ⟨W.heap.size, 1, none⟩ v1).setCell ⟨W.heap.size, 2, none⟩ v2).setCell ⟨W.heap.size, 3, none⟩ v3).setCell ⟨W.heap.size, 4, none⟩ v4) W.heap.size #[v0, v1, v2, v3, v4] := by
  have k := ((Blk.new W 109 #[.int .u8 0, .bool false, .bool false, .int .u16 0, .int .u64 0]).kept hb)
  refine ⟨((((((((Below.refl _ W).alloc (Nat.le_refl _) _).trans (hb.mono (by simp))).setCell (Nat.le_refl _) _).setCell (Nat.le_refl _) _).setCell (Nat.le_refl _) _).setCell (Nat.le_refl _) _).setCell (Nat.le_refl _) _), ?_⟩
  have := ((((k.set_ 0 v0).set_ 1 v1).set_ 2 v2).set_ 3 v3).set_ 4 v4
  simpa using this
set_option maxRecDepth 100000 in
set_option maxHeartbeats 8000000 in
theorem rfetch_c (w : World) (G : Nat → Nat) (b cb d cd : Nat) (T : List Page) (L : List Nat) (r : RM w b d T L) (x ep : Nat) (hx : x < 4294967296) :
    Calls Tryz.prog 34 #[rm G b cb T d cd L, .int .u32 (x : Int), .int .u64 (ep : Int)] w fun e w' => e = .returned (f3 (fetchM G T L x ep)) ∧ Below w.heap.size w w' := by
  have TH := fun W => there_c W G b cb d cd T L (by have := r.len; have := r.few; omega) x hx
  have PK := fun W (q : RM W b d T L) => rpeek_c W G b cb d cd T L q x hx
  have PC := Lib.hid (fun W => rpageof_c W x hx)
  have R0 := Lib.hid (r.alloc (.cells #[.int .u32 (G 0 : Int), .int .u32 (G 1 : Int), .int .u32 (G 2 : Int), .int .u32 (G 3 : Int), .int .u32 (G 4 : Int), .int .u32 (G 5 : Int), .int .u32 (G 6 : Int), .int .u32 (G 7 : Int), .slice (some ⟨b, 0, none⟩) T.length cb, .slice (some ⟨d, 0, none⟩) L.length cd] 36))
  unfold fetchM f3
  by_cases h0 : x < 64
  · rw [if_pos h0]
    have hz : (x : Int) < 64 := by omega
    have PE : peekM G L x = ent x := by unfold peekM; rw [if_pos h0]
    rw [PE] at PK
    generalize ent x = z at PK ⊢
    unfold rm at PK ⊢
    have PK := Lib.hid (PK _ R0.out)
    clear TH PC r h0 hx PE
    go_enter Tryz.func34, Tryz.ntmps34
    go_wp2_with fail
    refine PK.out.mono ?_
    rintro e w1 ⟨rfl, hb⟩
    have B := Lib.hid (((Below.refl _ w).alloc (Nat.le_refl _) _).trans (hb.mono (by simp)))
    clear hb
    go_wp2_with fail
    go_ret3
    exact ⟨rfl, B.out⟩
  rw [if_neg h0]
  have hz : ¬ (x : Int) < 64 := by omega
  generalize peekM G L x = z at PK ⊢
  have hlen := r.len
  have few := r.few
  have hgp : (getP T (pageOf x)).x = true → inB L x = true := by
    intro h
    unfold getP at h
    by_cases hq : 0 ≤ pageOf x ∧ pageOf x < (T.length : Int)
    · unfold pageOf at hq
      unfold inB
      by_cases h0 : x < 80 ∨ 4176 ≤ x
      · rw [if_pos h0] at hq; omega
      · rw [if_neg h0] at hq
        simp only [Bool.and_eq_true, decide_eq_true_eq]
        omega
    · rw [if_neg hq] at h
      exact absurd h (by decide)
  have RG := fun W (q : Pgs W b T) => rget_c W b cb T q (pageOf x)
  generalize pageOf x = i at RG PC hgp ⊢
  generalize getP T i = p at RG hgp ⊢
  obtain ⟨s, x_, wr, ow, pe⟩ := p
  simp only at hgp ⊢
  have RG : Hid (∀ W, Pgs W b T → Calls Tryz.prog 62 #[.agg #[.slice (some ⟨b, 0, none⟩) T.length cb], .int .i64 i] W fun e w' => e = .returned (.agg #[.int .u8 (s : Int), .bool x_, .bool wr, .int .u16 (ow : Int), .int .u64 (pe : Int)]) ∧ Below W.heap.size W w') := Lib.hid RG
  have RC := fun W => P1.rruns_c s x_ wr ow pe ep W
  have RC : ∀ W, Calls Tryz.prog 83 #[.agg #[.int .u8 (s : Int), .bool x_, .bool wr, .int .u16 (ow : Int), .int .u64 (pe : Int)], .int .u64 (ep : Int)] W fun r w' => r = .returned (.bool (x_ && P1.see s ep pe)) ∧ Below W.heap.size W w' := RC
  have hRx : (x_ && P1.see s ep pe) = true → inB L x = true := fun h => hgp (by simp only [Bool.and_eq_true] at h; exact h.1)
  generalize (x_ && P1.see s ep pe) = R at RC hRx ⊢
  have hF0 : R = false → (if R = true then (z, ow, true) else ((0, 0, false) : Nat × Nat × Bool)) = (0, 0, false) := fun h => if_neg (by rw [h]; decide)
  have hF1 : R = true → (if R = true then (z, ow, true) else ((0, 0, false) : Nat × Nat × Bool)) = (z, ow, true) := fun h => if_pos h
  generalize (if R = true then (z, ow, true) else ((0, 0, false) : Nat × Nat × Bool)) = F at hF0 hF1 ⊢
  have hF0 := Lib.hid hF0
  have hF1 := Lib.hid hF1
  generalize hin : inB L x = I at TH hRx
  have TH := Lib.hid TH
  have RC := Lib.hid RC
  have P0 := Lib.hid R0.out.pgs
  have PK := Lib.hid PK
  unfold rm at PK TH ⊢
  clear r hgp hin hlen few h0 hx
  go_enter Tryz.func34, Tryz.ntmps34
  go_wp2_with fail
  go_upto_region 3 with fail
  go_cut [9] (fun s9 wx => ∃ B : Nat, s9 = .pointer (some ⟨B, 0, none⟩) ∧ Hid (BoxSt (w.alloc (.cells #[.int .u32 (G 0 : Int), .int .u32 (G 1 : Int), .int .u32 (G 2 : Int), .int .u32 (G 3 : Int), .int .u32 (G 4 : Int), .int .u32 (G 5 : Int), .int .u32 (G 6 : Int), .int .u32 (G 7 : Int), .slice (some ⟨b, 0, none⟩) T.length cb, .slice (some ⟨d, 0, none⟩) L.length cd] 36)) wx B #[.int .u8 (s : Int), .bool x_, .bool wr, .int .u16 (ow : Int), .int .u64 (pe : Int)]))
  case first =>
    go_region_with (first | (go_at_call 63; (with_reducible refine (PC.out _).mono ?_); rintro e w1 ⟨rfl, rfl⟩) | (go_at_call 62; (with_reducible refine (RG.out _ ?_).mono ?_); (first | exact P0.out | exact P0.out.drewN 1 | exact (P0.out.alloc _).drewN 1 | exact P0.out.alloc _); rintro e w1 ⟨rfl, hb⟩; (try (have kz : Blk w1 (w.heap.size + 1) 109 #[.int .u8 0, .bool false, .bool false, .int .u16 0, .int .u64 0] := (by have k := ((Blk.new (w.alloc (.cells #[.int .u32 (G 0 : Int), .int .u32 (G 1 : Int), .int .u32 (G 2 : Int), .int .u32 (G 3 : Int), .int .u32 (G 4 : Int), .int .u32 (G 5 : Int), .int .u32 (G 6 : Int), .int .u32 (G 7 : Int), .slice (some ⟨b, 0, none⟩) T.length cb, .slice (some ⟨d, 0, none⟩) L.length cd] 36)) 109 #[.int .u8 0, .bool false, .bool false, .int .u16 0, .int .u64 0]).drewN 1).kept hb; simpa using k); have z0 : w1.cell? ⟨w.heap.size + 1, 0, none⟩ = some (.int .u8 0) := kz.cell 0; have g0 : w1.frozen? ⟨w.heap.size + 1, 0, none⟩ = false := kz.frozen 0; have z1 : w1.cell? ⟨w.heap.size + 1, 1, none⟩ = some (.bool false) := kz.cell 1; have g1 : w1.frozen? ⟨w.heap.size + 1, 1, none⟩ = false := kz.frozen 1; have z2 : w1.cell? ⟨w.heap.size + 1, 2, none⟩ = some (.bool false) := kz.cell 2; have g2 : w1.frozen? ⟨w.heap.size + 1, 2, none⟩ = false := kz.frozen 2; have z3 : w1.cell? ⟨w.heap.size + 1, 3, none⟩ = some (.int .u16 0) := kz.cell 3; have g3 : w1.frozen? ⟨w.heap.size + 1, 3, none⟩ = false := kz.frozen 3; have z4 : w1.cell? ⟨w.heap.size + 1, 4, none⟩ = some (.int .u64 0) := kz.cell 4; have g4 : w1.frozen? ⟨w.heap.size + 1, 4, none⟩ = false := kz.frozen 4; clear kz)); (first | (have HBA : Below (w.alloc (.cells #[.int .u32 (G 0 : Int), .int .u32 (G 1 : Int), .int .u32 (G 2 : Int), .int .u32 (G 3 : Int), .int .u32 (G 4 : Int), .int .u32 (G 5 : Int), .int .u32 (G 6 : Int), .int .u32 (G 7 : Int), .slice (some ⟨b, 0, none⟩) T.length cb, .slice (some ⟨d, 0, none⟩) L.length cd] 36)).heap.size (w.alloc (.cells #[.int .u32 (G 0 : Int), .int .u32 (G 1 : Int), .int .u32 (G 2 : Int), .int .u32 (G 3 : Int), .int .u32 (G 4 : Int), .int .u32 (G 5 : Int), .int .u32 (G 6 : Int), .int .u32 (G 7 : Int), .slice (some ⟨b, 0, none⟩) T.length cb, .slice (some ⟨d, 0, none⟩) L.length cd] 36)) w1 := ((Below.refl _ _).drew).trans hb; have HBA := Lib.hid HBA; clear hb) | (have HBB : Below ((w.alloc (.cells #[.int .u32 (G 0 : Int), .int .u32 (G 1 : Int), .int .u32 (G 2 : Int), .int .u32 (G 3 : Int), .int .u32 (G 4 : Int), .int .u32 (G 5 : Int), .int .u32 (G 6 : Int), .int .u32 (G 7 : Int), .slice (some ⟨b, 0, none⟩) T.length cb, .slice (some ⟨d, 0, none⟩) L.length cd] 36)).alloc (.cells #[.int .u8 0, .bool false, .bool false, .int .u16 0, .int .u64 0] 109)).heap.size ((w.alloc (.cells #[.int .u32 (G 0 : Int), .int .u32 (G 1 : Int), .int .u32 (G 2 : Int), .int .u32 (G 3 : Int), .int .u32 (G 4 : Int), .int .u32 (G 5 : Int), .int .u32 (G 6 : Int), .int .u32 (G 7 : Int), .slice (some ⟨b, 0, none⟩) T.length cb, .slice (some ⟨d, 0, none⟩) L.length cd] 36)).alloc (.cells #[.int .u8 0, .bool false, .bool false, .int .u16 0, .int .u64 0] 109)) w1 := ((Below.refl _ _).drew).trans hb; have HBB := Lib.hid HBB; clear hb))))
    all_goals (go_wp2_with fail; go_meet)
    all_goals first
      | (have k := Lib.hid (boxA HBA.out #[.int .u8 (s : Int), .bool x_, .bool wr, .int .u16 (ow : Int), .int .u64 (pe : Int)]); exact ⟨w1.heap.size, rfl, k⟩)
      | (have k := boxB HBB.out (.int .u8 (s : Int)) (.bool x_) (.bool wr) (.int .u16 (ow : Int)) (.int .u64 (pe : Int)); rw [World.size_alloc] at k; have k := Lib.hid k; exact ⟨w.heap.size + 1, rfl, k⟩)
  case rest =>
  obtain ⟨B, rfl, BS⟩ := hcut
  have B1 := BS.out.below
  obtain ⟨c0, c1, c2, c3, c4⟩ := BS.out.box.five
  have TC := (Blk.new w 36 #[.int .u32 (G 0 : Int), .int .u32 (G 1 : Int), .int .u32 (G 2 : Int), .int .u32 (G 3 : Int), .int .u32 (G 4 : Int), .int .u32 (G 5 : Int), .int .u32 (G 6 : Int), .int .u32 (G 7 : Int), .slice (some ⟨b, 0, none⟩) T.length cb, .slice (some ⟨d, 0, none⟩) L.length cd]).kept B1
  obtain ⟨t0, t1, t2, t3, t4, t5, t6, t7, t8, t9⟩ := blkc10 TC
  have tl := TC.lt
  clear TC
  have RW := Lib.hid (R0.out.kept B1)
  have B1 := Lib.hid B1
  cases I with
  | false =>
    have hR : R = false := by
      cases R with
      | false => rfl
      | true => exact absurd (hRx rfl) (by decide)
    have hF := Lib.hid (hF0.out hR)
    clear hRx hR
    go_wp2_with fail
    refine (TH.out _).mono ?_
    rintro e w2 ⟨rfl, hb⟩
    have B2 := Lib.hid (B1.out.trans (hb.mono B1.out.size))
    clear hb
    go_wp2_with fail
    go_ret3
    rw [hF.out]
    exact ⟨rfl, ((Below.refl _ w).alloc (Nat.le_refl _) _).trans (B2.out.mono (by simp))⟩
  | true =>
    clear hRx
    go_wp2_with fail
    refine (TH.out _).mono ?_
    rintro e w2 ⟨rfl, hb⟩
    have B2 := Lib.hid (B1.out.trans (hb.mono B1.out.size))
    have BX2 := Lib.hid (BS.out.box.kept hb)
    have RW2 := Lib.hid (RW.out.kept hb)
    clear hb c0 c1 c2 c3 c4
    clear t0 t1 t2 t3 t4 t5 t6 t7 t8 t9 tl
    obtain ⟨c0, c1, c2, c3, c4⟩ := BX2.out.five
    have TC := (Blk.new w 36 #[.int .u32 (G 0 : Int), .int .u32 (G 1 : Int), .int .u32 (G 2 : Int), .int .u32 (G 3 : Int), .int .u32 (G 4 : Int), .int .u32 (G 5 : Int), .int .u32 (G 6 : Int), .int .u32 (G 7 : Int), .slice (some ⟨b, 0, none⟩) T.length cb, .slice (some ⟨d, 0, none⟩) L.length cd]).kept B2.out
    obtain ⟨t0, t1, t2, t3, t4, t5, t6, t7, t8, t9⟩ := blkc10 TC
    have tl := TC.lt
    clear TC
    cases R with
    | false =>
      have hF := Lib.hid (hF0.out rfl)
      go_wp2_with fail
      refine (RC.out _).mono ?_
      rintro e w3 ⟨rfl, hb⟩
      have B3 := Lib.hid (B2.out.trans (hb.mono B2.out.size))
      clear hb
      go_wp2_with fail
      go_ret3
      rw [hF.out]
      exact ⟨rfl, ((Below.refl _ w).alloc (Nat.le_refl _) _).trans (B3.out.mono (by simp))⟩
    | true =>
      have hF := Lib.hid (hF1.out rfl)
      go_wp2_with fail
      refine (RC.out _).mono ?_
      rintro e w3 ⟨rfl, hb⟩
      have B3 := Lib.hid (B2.out.trans (hb.mono B2.out.size))
      have BX3 := Lib.hid (BX2.out.kept hb)
      have RW3 := Lib.hid (RW2.out.kept hb)
      clear hb c0 c1 c2 c3 c4
      clear t0 t1 t2 t3 t4 t5 t6 t7 t8 t9 tl
      obtain ⟨c0, c1, c2, c3, c4⟩ := BX3.out.five
      have TC := (Blk.new w 36 #[.int .u32 (G 0 : Int), .int .u32 (G 1 : Int), .int .u32 (G 2 : Int), .int .u32 (G 3 : Int), .int .u32 (G 4 : Int), .int .u32 (G 5 : Int), .int .u32 (G 6 : Int), .int .u32 (G 7 : Int), .slice (some ⟨b, 0, none⟩) T.length cb, .slice (some ⟨d, 0, none⟩) L.length cd]).kept B3.out
      obtain ⟨t0, t1, t2, t3, t4, t5, t6, t7, t8, t9⟩ := blkc10 TC
      have tl := TC.lt
      clear TC
      go_wp2_with fail
      go_region_held3 (fun w' => w'.cell? ⟨B, 3, none⟩ = some (.int .u16 (ow : Int)) ∧ w'.cell? ⟨w.heap.size, 0, none⟩ = some (.int .u32 (G 0 : Int)) ∧ w'.cell? ⟨w.heap.size, 1, none⟩ = some (.int .u32 (G 1 : Int)) ∧ w'.cell? ⟨w.heap.size, 2, none⟩ = some (.int .u32 (G 2 : Int)) ∧ w'.cell? ⟨w.heap.size, 3, none⟩ = some (.int .u32 (G 3 : Int)) ∧ w'.cell? ⟨w.heap.size, 4, none⟩ = some (.int .u32 (G 4 : Int)) ∧ w'.cell? ⟨w.heap.size, 5, none⟩ = some (.int .u32 (G 5 : Int)) ∧ w'.cell? ⟨w.heap.size, 6, none⟩ = some (.int .u32 (G 6 : Int)) ∧ w'.cell? ⟨w.heap.size, 7, none⟩ = some (.int .u32 (G 7 : Int)) ∧ w'.cell? ⟨w.heap.size, 8, none⟩ = some (.slice (some ⟨b, 0, none⟩) T.length cb) ∧ w'.cell? ⟨w.heap.size, 9, none⟩ = some (.slice (some ⟨d, 0, none⟩) L.length cd)) (first | go_keep | ((try dsimp only); (repeat' apply And.intro) <;> (apply keep1m hb4; assumption))) ((first | (go_at_call 48; (with_reducible refine (PK.out _ ?_).mono ?_); (first | exact RW3.out | exact RW3.out.drewN 1); rintro e w4 ⟨rfl, hb4⟩)))
      have B4 := Lib.hid ((B3.out.trans (((Below.refl _ w3).drew).mono B3.out.size)).trans (hb4.mono B3.out.size))
      clear hb4
      go_wp2_with fail
      go_ret3
      rw [hF.out]
      exact ⟨rfl, ((Below.refl _ w).alloc (Nat.le_refl _) _).trans (B4.out.mono (by simp))⟩
end Go.Proofs.YthnbdeibjbicpaaGreat.PM
