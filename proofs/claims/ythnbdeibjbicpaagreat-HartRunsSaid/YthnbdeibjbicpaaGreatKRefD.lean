/- Contracts of the reference's memory: with, SetGate, Put, Store. Conditions: the memory's cells. -/
import Derived.Test.YthnbdeibjbicpaaGreatKRefB
import Derived.OwnWalk
set_option linter.unusedSimpArgs false
namespace Go.Proofs.YthnbdeibjbicpaaGreat.PM
set_option linter.unusedVariables false
open Go.RowKit
def wvals (L : List Nat) : List Value := L.map (fun x : Nat => Value.int .u32 (x : Int))
theorem wvals_at (L : List Nat) (j : Nat) (hj : j < L.length) : (wvals L)[j]? = some (.int .u32 ((L[j]! : Nat) : Int)) := by
  simp [wvals, hj]
/-- What a row of the call's own holds, as words. -/
theorem Wds.own {w : World} {base : Nat} {e : TypeId} {v : Value} {L : List Nat} (ho : w.ownsRow base e 1 v L.length (wvals L)) (hv : v ≠ .slice none 0 0) : ∃ d c, v = .slice (some ⟨d, 0, none⟩) L.length c ∧ base ≤ d ∧ Wds w d L ∧ L.length ≤ c := by
  have ho' := ho
  obtain ⟨hl, ⟨rfl, _⟩ | ⟨g, cap, cur, rfl, hg, hb, hn, hm, hs, hx⟩⟩ := ho
  · exact absurd rfl hv
  refine ⟨g, cap, rfl, hg, ⟨Blk.lt hb, fun i hi => ?_, fun o => Blk.frozen hb o⟩, hn⟩
  have := ho'.cells (g := g) rfl i _ (wvals_at L i hi)
  rw [add_row] at this
  exact this
/-- What a call that makes another memory leaves. -/
def RWith (w : World) (G : Nat → Nat) (b cb : Nat) (T : List Page) (L : List Nat) (e : Ending) (w' : World) : Prop := ∃ d cd, e = .returned (rm G b cb T d cd L) ∧ w.heap.size ≤ d ∧ Wds w' d L ∧ Below w.heap.size w w'
/-- The same with an answer. -/
def RAns (w : World) (G : Nat → Nat) (b cb : Nat) (T : List Page) (d0 : Nat) (L : List Nat) (a : Value) (e : Ending) (w' : World) : Prop := ∃ d cd, e = .returned (.tuple #[rm G b cb T d cd L, a]) ∧ (d = d0 ∨ w.heap.size ≤ d) ∧ Wds w' d L ∧ Below w.heap.size w w'
set_option maxRecDepth 100000 in
set_option maxHeartbeats 8000000 in
theorem with_c (w : World) (G : Nat → Nat) (b cb d cd : Nat) (T : List Page) (L : List Nat) (hd : Wds w d L) (h4 : L.length ≤ 4096) (y v : Nat) (hy : y < L.length) :
    Calls Tryz.prog 64 #[rm G b cb T d cd L, .int .u32 (80 + (y : Int)), .int .u32 (v : Int)] w fun e w' => RWith w G b cb T (L.set y v) e w' := by
  obtain ⟨i0, hi, hz0, hz1, hz2⟩ := info_parts info_u32
  have hdl := hd.lt
  have D0 := Lib.hid ((hd.alloc (.cells #[.int .u32 (G 0 : Int), .int .u32 (G 1 : Int), .int .u32 (G 2 : Int), .int .u32 (G 3 : Int), .int .u32 (G 4 : Int), .int .u32 (G 5 : Int), .int .u32 (G 6 : Int), .int .u32 (G 7 : Int), .slice (some ⟨b, 0, none⟩) T.length cb, .slice (some ⟨d, 0, none⟩) L.length cd] 36)).alloc (.cells #[.int .u32 0, .int .u32 0, .int .u32 0, .int .u32 0, .int .u32 0, .int .u32 0, .int .u32 0, .int .u32 0, .slice none 0 0, .slice none 0 0] 36))
  have HM : (((w.alloc (.cells #[.int .u32 (G 0 : Int), .int .u32 (G 1 : Int), .int .u32 (G 2 : Int), .int .u32 (G 3 : Int), .int .u32 (G 4 : Int), .int .u32 (G 5 : Int), .int .u32 (G 6 : Int), .int .u32 (G 7 : Int), .slice (some ⟨b, 0, none⟩) T.length cb, .slice (some ⟨d, 0, none⟩) L.length cd] 36)).alloc (.cells #[.int .u32 0, .int .u32 0, .int .u32 0, .int .u32 0, .int .u32 0, .int .u32 0, .int .u32 0, .int .u32 0, .slice none 0 0, .slice none 0 0] 36)).alloc (.cells #[] 23)).ownsRow (w.heap.size + 2) 23 1 (.slice (some ⟨w.heap.size + 2, 0, none⟩) 0 0) 0 [] := by
    have := World.ownsRow_made (base := w.heap.size + 2) (e := 23) (size := 1) ((w.alloc (.cells #[.int .u32 (G 0 : Int), .int .u32 (G 1 : Int), .int .u32 (G 2 : Int), .int .u32 (G 3 : Int), .int .u32 (G 4 : Int), .int .u32 (G 5 : Int), .int .u32 (G 6 : Int), .int .u32 (G 7 : Int), .slice (some ⟨b, 0, none⟩) T.length cb, .slice (some ⟨d, 0, none⟩) L.length cd] 36)).alloc (.cells #[.int .u32 0, .int .u32 0, .int .u32 0, .int .u32 0, .int .u32 0, .int .u32 0, .int .u32 0, .int .u32 0, .slice none 0 0, .slice none 0 0] 36)) #[] 0 (by simp) (Nat.zero_le _) (by simp)
    simpa using this
  have hyz : (y : Int) < (L.length : Int) := by omega
  have hy4 : (y : Int) < 4096 := by omega
  clear hd
  unfold rm
  go_enter Tryz.func64, Tryz.ntmps64
  go_wp2_with (at_builtin; refine wpList_append_own _ rfl _ _ 22 rfl (w.heap.size + 2) 23 i0 (.int .u32 0) 1 4 Tryz.underlying22 hi hz0 hz1 hz2 rfl (by decide) _ _ _ rfl HM ⟨d, 0, none⟩ L.length cd (wvals L) rfl ?qc1 ?qc2 ?qc3 ?qc4 ?qc5 ?qc6 ?_)
  case qc1 => simp [wvals]
  case qc2 =>
    intro j u hj
    rw [add_row]
    have hjl : j < L.length := by
      rcases Nat.lt_or_ge j L.length with q | q
      · exact q
      · rw [List.getElem?_eq_none (by simpa [wvals] using q)] at hj; cases hj
    rw [wvals_at L j hjl] at hj
    cases hj
    exact (D0.out.alloc _).cell j hjl
  case qc3 => intro u hu; simp only [wvals, List.mem_map] at hu; obtain ⟨_, _, rfl⟩ := hu; rfl
  case qc4 => simp [maxLen]; omega
  case qc5 => omega
  case qc6 => simp
  intro v' w1 hown hgrow hnil
  have hown : w1.ownsRow (w.heap.size + 2) 23 1 v' L.length (wvals L) := by simpa using hown
  have hnn : v' ≠ .slice none 0 0 := hnil
  obtain ⟨d', cd', rfl, hg, hw, hc⟩ := Wds.own hown hnn
  have hsz := hgrow.size
  simp only [World.size_alloc] at hsz
  have e0 : w1.heap[w.heap.size]? = (((w.alloc (.cells #[.int .u32 (G 0 : Int), .int .u32 (G 1 : Int), .int .u32 (G 2 : Int), .int .u32 (G 3 : Int), .int .u32 (G 4 : Int), .int .u32 (G 5 : Int), .int .u32 (G 6 : Int), .int .u32 (G 7 : Int), .slice (some ⟨b, 0, none⟩) T.length cb, .slice (some ⟨d, 0, none⟩) L.length cd] 36)).alloc (.cells #[.int .u32 0, .int .u32 0, .int .u32 0, .int .u32 0, .int .u32 0, .int .u32 0, .int .u32 0, .int .u32 0, .slice none 0 0, .slice none 0 0] 36)).alloc (.cells #[] 23)).heap[w.heap.size]? := hgrow.block _ (by simp; omega) (by intro q; simp [Value.ownBlock] at q; omega)
  have e1 : w1.heap[w.heap.size + 1]? = (((w.alloc (.cells #[.int .u32 (G 0 : Int), .int .u32 (G 1 : Int), .int .u32 (G 2 : Int), .int .u32 (G 3 : Int), .int .u32 (G 4 : Int), .int .u32 (G 5 : Int), .int .u32 (G 6 : Int), .int .u32 (G 7 : Int), .slice (some ⟨b, 0, none⟩) T.length cb, .slice (some ⟨d, 0, none⟩) L.length cd] 36)).alloc (.cells #[.int .u32 0, .int .u32 0, .int .u32 0, .int .u32 0, .int .u32 0, .int .u32 0, .int .u32 0, .int .u32 0, .slice none 0 0, .slice none 0 0] 36)).alloc (.cells #[] 23)).heap[w.heap.size + 1]? := hgrow.block _ (by simp) (by intro q; simp [Value.ownBlock] at q)
  have KT : Blk w1 w.heap.size 36 #[.int .u32 (G 0 : Int), .int .u32 (G 1 : Int), .int .u32 (G 2 : Int), .int .u32 (G 3 : Int), .int .u32 (G 4 : Int), .int .u32 (G 5 : Int), .int .u32 (G 6 : Int), .int .u32 (G 7 : Int), .slice (some ⟨b, 0, none⟩) T.length cb, .slice (some ⟨d, 0, none⟩) L.length cd] := e0.trans ((((Blk.new w 36 #[.int .u32 (G 0 : Int), .int .u32 (G 1 : Int), .int .u32 (G 2 : Int), .int .u32 (G 3 : Int), .int .u32 (G 4 : Int), .int .u32 (G 5 : Int), .int .u32 (G 6 : Int), .int .u32 (G 7 : Int), .slice (some ⟨b, 0, none⟩) T.length cb, .slice (some ⟨d, 0, none⟩) L.length cd]).alloc (.cells #[.int .u32 0, .int .u32 0, .int .u32 0, .int .u32 0, .int .u32 0, .int .u32 0, .int .u32 0, .int .u32 0, .slice none 0 0, .slice none 0 0] 36))).alloc _)
  have KZ : Blk w1 (w.heap.size + 1) 36 #[.int .u32 0, .int .u32 0, .int .u32 0, .int .u32 0, .int .u32 0, .int .u32 0, .int .u32 0, .int .u32 0, .slice none 0 0, .slice none 0 0] := e1.trans (by
    have k := (Blk.new (w.alloc (.cells #[.int .u32 (G 0 : Int), .int .u32 (G 1 : Int), .int .u32 (G 2 : Int), .int .u32 (G 3 : Int), .int .u32 (G 4 : Int), .int .u32 (G 5 : Int), .int .u32 (G 6 : Int), .int .u32 (G 7 : Int), .slice (some ⟨b, 0, none⟩) T.length cb, .slice (some ⟨d, 0, none⟩) L.length cd] 36)) 36 #[.int .u32 0, .int .u32 0, .int .u32 0, .int .u32 0, .int .u32 0, .int .u32 0, .int .u32 0, .int .u32 0, .slice none 0 0, .slice none 0 0]).alloc (.cells #[] 23)
    rw [World.size_alloc] at k
    exact k)
  have B1 : Below w.heap.size w w1 := (((((Below.refl _ w).alloc (Nat.le_refl _) _).alloc (by simp) _).alloc (by simp; omega) _).grown hgrow (by simp; omega) (by intro k hk; simp [Value.ownBlock] at hk; omega))
  have cw := hw.cell y hy
  have fw := hw.free y
  have hdl' := hw.lt
  generalize L[y]! = old at cw
  have F : Hid (∀ (u : Value) (vs : List Value), RWith w G b cb T (L.set y v) (.returned (.agg #[.int .u32 (G 0 : Int), .int .u32 (G 1 : Int), .int .u32 (G 2 : Int), .int .u32 (G 3 : Int), .int .u32 (G 4 : Int), .int .u32 (G 5 : Int), .int .u32 (G 6 : Int), .int .u32 (G 7 : Int), .slice (some ⟨b, 0, none⟩) T.length cb, .slice (some ⟨d', 0, none⟩) L.length cd'])) (((w1.setCell ⟨w.heap.size, 9, none⟩ u).setCell ⟨d', y, none⟩ (.int .u32 (v : Int))).setCells (w.heap.size + 1) 0 vs)) := Lib.hid (fun u vs =>
    ⟨d', cd', by simp [rm], by omega, wds_setCells (by omega) vs 0 _ ((hw.far (by show d' ≠ w.heap.size; omega) u).set hy v),
      below_setCells (by omega) vs 0 _ ((B1.setCell (by show w.heap.size ≤ w.heap.size; omega) u).setCell (by show w.heap.size ≤ d'; omega) _)⟩)
  have TCt := KT
  obtain ⟨t0, t1, t2, t3, t4, t5, t6, t7, t8, t9⟩ := blkc10 TCt
  have tl := TCt.lt
  clear TCt
  have y9t : w1.frozen? ⟨w.heap.size, 9, none⟩ = false := KT.frozen 9
  have TCz := KZ
  have z0 : w1.cell? ⟨w.heap.size + 1, 0, none⟩ = some (.int .u32 0) := TCz.cell 0
  have y0 : w1.frozen? ⟨w.heap.size + 1, 0, none⟩ = false := TCz.frozen 0
  have z1 : w1.cell? ⟨w.heap.size + 1, 1, none⟩ = some (.int .u32 0) := TCz.cell 1
  have y1 : w1.frozen? ⟨w.heap.size + 1, 1, none⟩ = false := TCz.frozen 1
  have z2 : w1.cell? ⟨w.heap.size + 1, 2, none⟩ = some (.int .u32 0) := TCz.cell 2
  have y2 : w1.frozen? ⟨w.heap.size + 1, 2, none⟩ = false := TCz.frozen 2
  have z3 : w1.cell? ⟨w.heap.size + 1, 3, none⟩ = some (.int .u32 0) := TCz.cell 3
  have y3 : w1.frozen? ⟨w.heap.size + 1, 3, none⟩ = false := TCz.frozen 3
  have z4 : w1.cell? ⟨w.heap.size + 1, 4, none⟩ = some (.int .u32 0) := TCz.cell 4
  have y4 : w1.frozen? ⟨w.heap.size + 1, 4, none⟩ = false := TCz.frozen 4
  have z5 : w1.cell? ⟨w.heap.size + 1, 5, none⟩ = some (.int .u32 0) := TCz.cell 5
  have y5 : w1.frozen? ⟨w.heap.size + 1, 5, none⟩ = false := TCz.frozen 5
  have z6 : w1.cell? ⟨w.heap.size + 1, 6, none⟩ = some (.int .u32 0) := TCz.cell 6
  have y6 : w1.frozen? ⟨w.heap.size + 1, 6, none⟩ = false := TCz.frozen 6
  have z7 : w1.cell? ⟨w.heap.size + 1, 7, none⟩ = some (.int .u32 0) := TCz.cell 7
  have y7 : w1.frozen? ⟨w.heap.size + 1, 7, none⟩ = false := TCz.frozen 7
  have z8 : w1.cell? ⟨w.heap.size + 1, 8, none⟩ = some (.slice none 0 0) := TCz.cell 8
  have y8 : w1.frozen? ⟨w.heap.size + 1, 8, none⟩ = false := TCz.frozen 8
  have z9 : w1.cell? ⟨w.heap.size + 1, 9, none⟩ = some (.slice none 0 0) := TCz.cell 9
  have y9 : w1.frozen? ⟨w.heap.size + 1, 9, none⟩ = false := TCz.frozen 9
  have zl := TCz.lt
  clear TCz
  have n1 : ¬ d' = w.heap.size := by omega
  have n2 : ¬ d' = w.heap.size + 1 := by omega
  have n3 : ¬ w.heap.size = d' := by omega
  have n4 : ¬ w.heap.size + 1 = d' := by omega
  clear hown hgrow hnil hnn hw e0 e1 KT KZ B1 HM hsz hg
  go_wp2
  refine bodyPost_ret (v := .agg #[.int .u32 (G 0 : Int), .int .u32 (G 1 : Int), .int .u32 (G 2 : Int), .int .u32 (G 3 : Int), .int .u32 (G 4 : Int), .int .u32 (G 5 : Int), .int .u32 (G 6 : Int), .int .u32 (G 7 : Int), .slice (some ⟨b, 0, none⟩) T.length cb, .slice (some ⟨d', 0, none⟩) L.length cd']) (by simp [results, Tryz.results64, go_sem, *]) rfl ?_
  exact F.out _ [.int .u32 (G 0 : Int), .int .u32 (G 1 : Int), .int .u32 (G 2 : Int), .int .u32 (G 3 : Int), .int .u32 (G 4 : Int), .int .u32 (G 5 : Int), .int .u32 (G 6 : Int), .int .u32 (G 7 : Int), .slice (some ⟨b, 0, none⟩) T.length cb, .slice (some ⟨d', 0, none⟩) L.length cd']
theorem boxes {w W : World} (G : Nat → Nat) (b cb d cd : Nat) (T : List Page) (L : List Nat) (hb : Below ((w.alloc (.cells #[.int .u32 (G 0 : Int), .int .u32 (G 1 : Int), .int .u32 (G 2 : Int), .int .u32 (G 3 : Int), .int .u32 (G 4 : Int), .int .u32 (G 5 : Int), .int .u32 (G 6 : Int), .int .u32 (G 7 : Int), .slice (some ⟨b, 0, none⟩) T.length cb, .slice (some ⟨d, 0, none⟩) L.length cd] 36)).alloc (.cells #[.int .u32 0, .int .u32 0, .int .u32 0, .int .u32 0, .int .u32 0, .int .u32 0, .int .u32 0, .int .u32 0, .slice none 0 0, .slice none 0 0] 36)).heap.size ((w.alloc (.cells #[.int .u32 (G 0 : Int), .int .u32 (G 1 : Int), .int .u32 (G 2 : Int), .int .u32 (G 3 : Int), .int .u32 (G 4 : Int), .int .u32 (G 5 : Int), .int .u32 (G 6 : Int), .int .u32 (G 7 : Int), .slice (some ⟨b, 0, none⟩) T.length cb, .slice (some ⟨d, 0, none⟩) L.length cd] 36)).alloc (.cells #[.int .u32 0, .int .u32 0, .int .u32 0, .int .u32 0, .int .u32 0, .int .u32 0, .int .u32 0, .int .u32 0, .slice none 0 0, .slice none 0 0] 36)) W) : Blk W w.heap.size 36 #[.int .u32 (G 0 : Int), .int .u32 (G 1 : Int), .int .u32 (G 2 : Int), .int .u32 (G 3 : Int), .int .u32 (G 4 : Int), .int .u32 (G 5 : Int), .int .u32 (G 6 : Int), .int .u32 (G 7 : Int), .slice (some ⟨b, 0, none⟩) T.length cb, .slice (some ⟨d, 0, none⟩) L.length cd] ∧ Blk W (w.heap.size + 1) 36 #[.int .u32 0, .int .u32 0, .int .u32 0, .int .u32 0, .int .u32 0, .int .u32 0, .int .u32 0, .int .u32 0, .slice none 0 0, .slice none 0 0] := by
  refine ⟨((Blk.new w 36 #[.int .u32 (G 0 : Int), .int .u32 (G 1 : Int), .int .u32 (G 2 : Int), .int .u32 (G 3 : Int), .int .u32 (G 4 : Int), .int .u32 (G 5 : Int), .int .u32 (G 6 : Int), .int .u32 (G 7 : Int), .slice (some ⟨b, 0, none⟩) T.length cb, .slice (some ⟨d, 0, none⟩) L.length cd]).alloc _).kept hb, ?_⟩
  have k := (Blk.new (w.alloc (.cells #[.int .u32 (G 0 : Int), .int .u32 (G 1 : Int), .int .u32 (G 2 : Int), .int .u32 (G 3 : Int), .int .u32 (G 4 : Int), .int .u32 (G 5 : Int), .int .u32 (G 6 : Int), .int .u32 (G 7 : Int), .slice (some ⟨b, 0, none⟩) T.length cb, .slice (some ⟨d, 0, none⟩) L.length cd] 36)) 36 #[.int .u32 0, .int .u32 0, .int .u32 0, .int .u32 0, .int .u32 0, .int .u32 0, .int .u32 0, .int .u32 0, .slice none 0 0, .slice none 0 0]).kept hb
  rw [World.size_alloc] at k
  exact k
set_option maxRecDepth 100000 in
set_option maxHeartbeats 8000000 in
theorem rput_c (w : World) (G : Nat → Nat) (b cb d cd : Nat) (T : List Page) (L : List Nat) (r : RM w b d T L) (x v : Nat) (hx : x < 4294967296) :
    Calls Tryz.prog 18 #[rm G b cb T d cd L, .int .u32 (x : Int), .int .u32 (v : Int)] w fun e w' => RAns w G b cb T d (putM T L x v).1 (.int .i64 ((putM T L x v).2 : Int)) e w' := by
  have h4 : L.length ≤ 4096 := by have := r.len; have := r.few; omega
  have TH := fun W => there_c W G b cb d cd T L h4 x hx
  have PC := Lib.hid (fun W => rpageof_c W x hx)
  have HR := Lib.hid r
  have hdl := r.wds.lt
  have UW := fun W (q : Wds W d L) y (hy : y < L.length) => with_c W G b cb d cd T L q h4 y v hy
  have B0 : Hid (Below w.heap.size w ((w.alloc (.cells #[.int .u32 (G 0 : Int), .int .u32 (G 1 : Int), .int .u32 (G 2 : Int), .int .u32 (G 3 : Int), .int .u32 (G 4 : Int), .int .u32 (G 5 : Int), .int .u32 (G 6 : Int), .int .u32 (G 7 : Int), .slice (some ⟨b, 0, none⟩) T.length cb, .slice (some ⟨d, 0, none⟩) L.length cd] 36)).alloc (.cells #[.int .u32 0, .int .u32 0, .int .u32 0, .int .u32 0, .int .u32 0, .int .u32 0, .int .u32 0, .int .u32 0, .slice none 0 0, .slice none 0 0] 36))) := Lib.hid (((Below.refl _ w).alloc (Nat.le_refl _) _).alloc (by simp) _)
  unfold putM
  cases hin : inB L x with
  | false =>
    rw [if_neg (by decide)]
    rw [hin] at TH
    unfold rm at TH ⊢
    have TH := Lib.hid TH
    clear UW PC hin r
    go_enter Tryz.func18, Tryz.ntmps18
    go_wp2_with fail
    refine (TH.out _).mono ?_
    rintro e w1 ⟨rfl, hb⟩
    have B1 := Lib.hid (B0.out.trans (hb.mono (by simp; omega)))
    have TCt := (boxes G b cb d cd T L hb).1
    obtain ⟨t0, t1, t2, t3, t4, t5, t6, t7, t8, t9⟩ := blkc10 TCt
    have tl := TCt.lt
    clear TCt
    have TCz := (boxes G b cb d cd T L hb).2
    have z0 : w1.cell? ⟨w.heap.size + 1, 0, none⟩ = some (.int .u32 0) := TCz.cell 0
    have y0 : w1.frozen? ⟨w.heap.size + 1, 0, none⟩ = false := TCz.frozen 0
    have z1 : w1.cell? ⟨w.heap.size + 1, 1, none⟩ = some (.int .u32 0) := TCz.cell 1
    have y1 : w1.frozen? ⟨w.heap.size + 1, 1, none⟩ = false := TCz.frozen 1
    have z2 : w1.cell? ⟨w.heap.size + 1, 2, none⟩ = some (.int .u32 0) := TCz.cell 2
    have y2 : w1.frozen? ⟨w.heap.size + 1, 2, none⟩ = false := TCz.frozen 2
    have z3 : w1.cell? ⟨w.heap.size + 1, 3, none⟩ = some (.int .u32 0) := TCz.cell 3
    have y3 : w1.frozen? ⟨w.heap.size + 1, 3, none⟩ = false := TCz.frozen 3
    have z4 : w1.cell? ⟨w.heap.size + 1, 4, none⟩ = some (.int .u32 0) := TCz.cell 4
    have y4 : w1.frozen? ⟨w.heap.size + 1, 4, none⟩ = false := TCz.frozen 4
    have z5 : w1.cell? ⟨w.heap.size + 1, 5, none⟩ = some (.int .u32 0) := TCz.cell 5
    have y5 : w1.frozen? ⟨w.heap.size + 1, 5, none⟩ = false := TCz.frozen 5
    have z6 : w1.cell? ⟨w.heap.size + 1, 6, none⟩ = some (.int .u32 0) := TCz.cell 6
    have y6 : w1.frozen? ⟨w.heap.size + 1, 6, none⟩ = false := TCz.frozen 6
    have z7 : w1.cell? ⟨w.heap.size + 1, 7, none⟩ = some (.int .u32 0) := TCz.cell 7
    have y7 : w1.frozen? ⟨w.heap.size + 1, 7, none⟩ = false := TCz.frozen 7
    have z8 : w1.cell? ⟨w.heap.size + 1, 8, none⟩ = some (.slice none 0 0) := TCz.cell 8
    have y8 : w1.frozen? ⟨w.heap.size + 1, 8, none⟩ = false := TCz.frozen 8
    have z9 : w1.cell? ⟨w.heap.size + 1, 9, none⟩ = some (.slice none 0 0) := TCz.cell 9
    have y9 : w1.frozen? ⟨w.heap.size + 1, 9, none⟩ = false := TCz.frozen 9
    have zl := TCz.lt
    clear TCz
    have FF : Hid (∀ vs, RAns w G b cb T d L (.int .i64 ((11 : Nat) : Int)) (.returned (.tuple #[.agg #[.int .u32 (G 0 : Int), .int .u32 (G 1 : Int), .int .u32 (G 2 : Int), .int .u32 (G 3 : Int), .int .u32 (G 4 : Int), .int .u32 (G 5 : Int), .int .u32 (G 6 : Int), .int .u32 (G 7 : Int), .slice (some ⟨b, 0, none⟩) T.length cb, .slice (some ⟨d, 0, none⟩) L.length cd], .int .i64 ((11 : Nat) : Int)])) ((w1).setCells (w.heap.size + 1) 0 vs)) := Lib.hid (fun vs => ⟨d, cd, by simp [rm], Or.inl rfl, wds_setCells (by omega) vs 0 _ (HR.out.wds.kept B1.out), below_setCells (by omega) vs 0 _ B1.out⟩)
    clear hb
    go_wp2_with fail
    (try simp only [Exit.inBlock, Exit.then])
    refine bodyPost_ret (v := .tuple #[.agg #[.int .u32 (G 0 : Int), .int .u32 (G 1 : Int), .int .u32 (G 2 : Int), .int .u32 (G 3 : Int), .int .u32 (G 4 : Int), .int .u32 (G 5 : Int), .int .u32 (G 6 : Int), .int .u32 (G 7 : Int), .slice (some ⟨b, 0, none⟩) T.length cb, .slice (some ⟨d, 0, none⟩) L.length cd], .int .i64 11]) (by simp [results, Tryz.results18, go_sem, *]) rfl ?_
    exact FF.out [.int .u32 (G 0 : Int), .int .u32 (G 1 : Int), .int .u32 (G 2 : Int), .int .u32 (G 3 : Int), .int .u32 (G 4 : Int), .int .u32 (G 5 : Int), .int .u32 (G 6 : Int), .int .u32 (G 7 : Int), .slice (some ⟨b, 0, none⟩) T.length cb, .slice (some ⟨d, 0, none⟩) L.length cd]

  | true =>
    rw [if_pos rfl]
    rw [hin] at TH
    obtain ⟨y, rfl⟩ : ∃ y : Nat, x = 80 + y := ⟨x - 80, by unfold inB at hin; simp only [Bool.and_eq_true, decide_eq_true_eq] at hin; omega⟩
    have e2 : 80 + y - 80 = y := by omega
    have hyl : y < L.length := by unfold inB at hin; simp only [Bool.and_eq_true, decide_eq_true_eq] at hin; omega
    rw [e2]
    have RG := fun W (q : Pgs W b T) => rget_c W b cb T q (pageOf (80 + y))
    generalize pageOf (80 + y) = i at RG PC ⊢
    generalize getP T i = p at RG ⊢
    obtain ⟨s, x_, wr, ow, pe⟩ := p
    simp only
    have RG : Hid (∀ W, Pgs W b T → Calls Tryz.prog 62 #[.agg #[.slice (some ⟨b, 0, none⟩) T.length cb], .int .i64 i] W fun e w' => e = .returned (.agg #[.int .u8 (s : Int), .bool x_, .bool wr, .int .u16 (ow : Int), .int .u64 (pe : Int)]) ∧ Below W.heap.size W w') := Lib.hid RG
    have HF := fun W => field0 W x_ wr (ow : Int) (pe : Int) (s : Int)
    unfold rm at TH UW ⊢
    have TH := Lib.hid TH
    have UW := Lib.hid UW
    have HYL := Lib.hid hyl
    rw [show ((80 + y : Nat) : Int) = 80 + (y : Int) by omega] at *
    have hy4 : (y : Int) < 4096 := by omega
    clear hin r e2 hyl hx
    by_cases h1 : s = 1
    · rw [if_pos h1]
      have hs1 : ((s : Int) != 1) = false := by simp; omega
      clear h1
      go_enter Tryz.func18, Tryz.ntmps18
      go_wp2_with fail
      refine (TH.out _).mono ?_
      rintro e w1 ⟨rfl, hb⟩
      have B1 := Lib.hid (B0.out.trans (hb.mono (by simp; omega)))
      have HB1 := Lib.hid hb
      have TCt := (boxes G b cb d cd T L hb).1
      obtain ⟨t0, t1, t2, t3, t4, t5, t6, t7, t8, t9⟩ := blkc10 TCt
      have tl := TCt.lt
      clear TCt
      have TCz := (boxes G b cb d cd T L hb).2
      have z0 : w1.cell? ⟨w.heap.size + 1, 0, none⟩ = some (.int .u32 0) := TCz.cell 0
      have y0 : w1.frozen? ⟨w.heap.size + 1, 0, none⟩ = false := TCz.frozen 0
      have z1 : w1.cell? ⟨w.heap.size + 1, 1, none⟩ = some (.int .u32 0) := TCz.cell 1
      have y1 : w1.frozen? ⟨w.heap.size + 1, 1, none⟩ = false := TCz.frozen 1
      have z2 : w1.cell? ⟨w.heap.size + 1, 2, none⟩ = some (.int .u32 0) := TCz.cell 2
      have y2 : w1.frozen? ⟨w.heap.size + 1, 2, none⟩ = false := TCz.frozen 2
      have z3 : w1.cell? ⟨w.heap.size + 1, 3, none⟩ = some (.int .u32 0) := TCz.cell 3
      have y3 : w1.frozen? ⟨w.heap.size + 1, 3, none⟩ = false := TCz.frozen 3
      have z4 : w1.cell? ⟨w.heap.size + 1, 4, none⟩ = some (.int .u32 0) := TCz.cell 4
      have y4 : w1.frozen? ⟨w.heap.size + 1, 4, none⟩ = false := TCz.frozen 4
      have z5 : w1.cell? ⟨w.heap.size + 1, 5, none⟩ = some (.int .u32 0) := TCz.cell 5
      have y5 : w1.frozen? ⟨w.heap.size + 1, 5, none⟩ = false := TCz.frozen 5
      have z6 : w1.cell? ⟨w.heap.size + 1, 6, none⟩ = some (.int .u32 0) := TCz.cell 6
      have y6 : w1.frozen? ⟨w.heap.size + 1, 6, none⟩ = false := TCz.frozen 6
      have z7 : w1.cell? ⟨w.heap.size + 1, 7, none⟩ = some (.int .u32 0) := TCz.cell 7
      have y7 : w1.frozen? ⟨w.heap.size + 1, 7, none⟩ = false := TCz.frozen 7
      have z8 : w1.cell? ⟨w.heap.size + 1, 8, none⟩ = some (.slice none 0 0) := TCz.cell 8
      have y8 : w1.frozen? ⟨w.heap.size + 1, 8, none⟩ = false := TCz.frozen 8
      have z9 : w1.cell? ⟨w.heap.size + 1, 9, none⟩ = some (.slice none 0 0) := TCz.cell 9
      have y9 : w1.frozen? ⟨w.heap.size + 1, 9, none⟩ = false := TCz.frozen 9
      have zl := TCz.lt
      clear TCz
      have RW1 := Lib.hid (HR.out.kept B1.out)
      clear hb
      go_wp2_with fail
      go_region_held3 (fun w' => w'.cell? ⟨w.heap.size, 8, none⟩ = some (.slice (some ⟨b, 0, none⟩) T.length cb)) (first | go_keep | (apply keep1m; assumption; assumption)) ((first | (go_at_call 63; (with_reducible refine (PC.out _).mono ?_); rintro e w2 ⟨rfl, rfl⟩) | (go_at_call 62; (with_reducible refine (RG.out _ ?_).mono ?_); (first | exact RW1.out.pgs | exact RW1.out.pgs.drewN 1); rintro e w2 ⟨rfl, hb2⟩)))
      have HB2 := Lib.hid (HB1.out.trans ((((Below.refl _ w1).drew).trans hb2).mono HB1.out.size))
      have B2 := Lib.hid (B0.out.trans (HB2.out.mono (by simp; omega)))
      clear t0 z0 y0 t1 z1 y1 t2 z2 y2 t3 z3 y3 t4 z4 y4 t5 z5 y5 t6 z6 y6 t7 z7 y7 t8 z8 y8 t9 z9 y9 tl zl
      have TCt := (boxes G b cb d cd T L HB2.out).1
      obtain ⟨t0, t1, t2, t3, t4, t5, t6, t7, t8, t9⟩ := blkc10 TCt
      have tl := TCt.lt
      clear TCt
      have TCz := (boxes G b cb d cd T L HB2.out).2
      have z0 : w2.cell? ⟨w.heap.size + 1, 0, none⟩ = some (.int .u32 0) := TCz.cell 0
      have y0 : w2.frozen? ⟨w.heap.size + 1, 0, none⟩ = false := TCz.frozen 0
      have z1 : w2.cell? ⟨w.heap.size + 1, 1, none⟩ = some (.int .u32 0) := TCz.cell 1
      have y1 : w2.frozen? ⟨w.heap.size + 1, 1, none⟩ = false := TCz.frozen 1
      have z2 : w2.cell? ⟨w.heap.size + 1, 2, none⟩ = some (.int .u32 0) := TCz.cell 2
      have y2 : w2.frozen? ⟨w.heap.size + 1, 2, none⟩ = false := TCz.frozen 2
      have z3 : w2.cell? ⟨w.heap.size + 1, 3, none⟩ = some (.int .u32 0) := TCz.cell 3
      have y3 : w2.frozen? ⟨w.heap.size + 1, 3, none⟩ = false := TCz.frozen 3
      have z4 : w2.cell? ⟨w.heap.size + 1, 4, none⟩ = some (.int .u32 0) := TCz.cell 4
      have y4 : w2.frozen? ⟨w.heap.size + 1, 4, none⟩ = false := TCz.frozen 4
      have z5 : w2.cell? ⟨w.heap.size + 1, 5, none⟩ = some (.int .u32 0) := TCz.cell 5
      have y5 : w2.frozen? ⟨w.heap.size + 1, 5, none⟩ = false := TCz.frozen 5
      have z6 : w2.cell? ⟨w.heap.size + 1, 6, none⟩ = some (.int .u32 0) := TCz.cell 6
      have y6 : w2.frozen? ⟨w.heap.size + 1, 6, none⟩ = false := TCz.frozen 6
      have z7 : w2.cell? ⟨w.heap.size + 1, 7, none⟩ = some (.int .u32 0) := TCz.cell 7
      have y7 : w2.frozen? ⟨w.heap.size + 1, 7, none⟩ = false := TCz.frozen 7
      have z8 : w2.cell? ⟨w.heap.size + 1, 8, none⟩ = some (.slice none 0 0) := TCz.cell 8
      have y8 : w2.frozen? ⟨w.heap.size + 1, 8, none⟩ = false := TCz.frozen 8
      have z9 : w2.cell? ⟨w.heap.size + 1, 9, none⟩ = some (.slice none 0 0) := TCz.cell 9
      have y9 : w2.frozen? ⟨w.heap.size + 1, 9, none⟩ = false := TCz.frozen 9
      have zl := TCz.lt
      clear TCz
      have UW2 := Lib.hid (UW.out w2 (HR.out.wds.kept B2.out) y HYL.out)
      clear hb2
      go_wp2_with fail
      refine UW2.out.mono ?_
      rintro e w3 ⟨d', cd', rfl, hd', hw', hb3⟩
      have HB3 := Lib.hid (HB2.out.trans (hb3.mono HB2.out.size))
      have B3 := Lib.hid (B0.out.trans (HB3.out.mono (by simp; omega)))
      clear t0 z0 y0 t1 z1 y1 t2 z2 y2 t3 z3 y3 t4 z4 y4 t5 z5 y5 t6 z6 y6 t7 z7 y7 t8 z8 y8 t9 z9 y9 tl zl
      have TCt := (boxes G b cb d cd T L HB3.out).1
      obtain ⟨t0, t1, t2, t3, t4, t5, t6, t7, t8, t9⟩ := blkc10 TCt
      have tl := TCt.lt
      clear TCt
      have TCz := (boxes G b cb d cd T L HB3.out).2
      have z0 : w3.cell? ⟨w.heap.size + 1, 0, none⟩ = some (.int .u32 0) := TCz.cell 0
      have y0 : w3.frozen? ⟨w.heap.size + 1, 0, none⟩ = false := TCz.frozen 0
      have z1 : w3.cell? ⟨w.heap.size + 1, 1, none⟩ = some (.int .u32 0) := TCz.cell 1
      have y1 : w3.frozen? ⟨w.heap.size + 1, 1, none⟩ = false := TCz.frozen 1
      have z2 : w3.cell? ⟨w.heap.size + 1, 2, none⟩ = some (.int .u32 0) := TCz.cell 2
      have y2 : w3.frozen? ⟨w.heap.size + 1, 2, none⟩ = false := TCz.frozen 2
      have z3 : w3.cell? ⟨w.heap.size + 1, 3, none⟩ = some (.int .u32 0) := TCz.cell 3
      have y3 : w3.frozen? ⟨w.heap.size + 1, 3, none⟩ = false := TCz.frozen 3
      have z4 : w3.cell? ⟨w.heap.size + 1, 4, none⟩ = some (.int .u32 0) := TCz.cell 4
      have y4 : w3.frozen? ⟨w.heap.size + 1, 4, none⟩ = false := TCz.frozen 4
      have z5 : w3.cell? ⟨w.heap.size + 1, 5, none⟩ = some (.int .u32 0) := TCz.cell 5
      have y5 : w3.frozen? ⟨w.heap.size + 1, 5, none⟩ = false := TCz.frozen 5
      have z6 : w3.cell? ⟨w.heap.size + 1, 6, none⟩ = some (.int .u32 0) := TCz.cell 6
      have y6 : w3.frozen? ⟨w.heap.size + 1, 6, none⟩ = false := TCz.frozen 6
      have z7 : w3.cell? ⟨w.heap.size + 1, 7, none⟩ = some (.int .u32 0) := TCz.cell 7
      have y7 : w3.frozen? ⟨w.heap.size + 1, 7, none⟩ = false := TCz.frozen 7
      have z8 : w3.cell? ⟨w.heap.size + 1, 8, none⟩ = some (.slice none 0 0) := TCz.cell 8
      have y8 : w3.frozen? ⟨w.heap.size + 1, 8, none⟩ = false := TCz.frozen 8
      have z9 : w3.cell? ⟨w.heap.size + 1, 9, none⟩ = some (.slice none 0 0) := TCz.cell 9
      have y9 : w3.frozen? ⟨w.heap.size + 1, 9, none⟩ = false := TCz.frozen 9
      have zl := TCz.lt
      clear TCz
      have s2 := B2.out.size
      have s3 := HB2.out.size
      have s3 : w.heap.size + 2 ≤ w2.heap.size := by simpa using s3
      have FF : Hid (∀ vs, RAns w G b cb T d (L.set y v) (.int .i64 ((0 : Nat) : Int)) (.returned (.tuple #[.agg #[.int .u32 (G 0 : Int), .int .u32 (G 1 : Int), .int .u32 (G 2 : Int), .int .u32 (G 3 : Int), .int .u32 (G 4 : Int), .int .u32 (G 5 : Int), .int .u32 (G 6 : Int), .int .u32 (G 7 : Int), .slice (some ⟨b, 0, none⟩) T.length cb, .slice (some ⟨d', 0, none⟩) L.length cd'], .int .i64 ((0 : Nat) : Int)])) ((w3).setCells (w.heap.size + 1) 0 vs)) := Lib.hid (fun vs => ⟨d', cd', by simp [rm], Or.inr (by omega), wds_setCells (by omega) vs 0 _ hw', below_setCells (by omega) vs 0 _ B3.out⟩)
      have hll : (L.set y v).length = L.length := by simp
      unfold rm
      rw [hll]
      clear hb3 hw' hd'
      go_wp2_with fail
      (try simp only [Exit.inBlock, Exit.then])
      refine bodyPost_ret (v := .tuple #[.agg #[.int .u32 (G 0 : Int), .int .u32 (G 1 : Int), .int .u32 (G 2 : Int), .int .u32 (G 3 : Int), .int .u32 (G 4 : Int), .int .u32 (G 5 : Int), .int .u32 (G 6 : Int), .int .u32 (G 7 : Int), .slice (some ⟨b, 0, none⟩) T.length cb, .slice (some ⟨d', 0, none⟩) L.length cd'], .int .i64 0]) (by simp [results, Tryz.results18, go_sem, *]) rfl ?_
      exact FF.out [.int .u32 (G 0 : Int), .int .u32 (G 1 : Int), .int .u32 (G 2 : Int), .int .u32 (G 3 : Int), .int .u32 (G 4 : Int), .int .u32 (G 5 : Int), .int .u32 (G 6 : Int), .int .u32 (G 7 : Int), .slice (some ⟨b, 0, none⟩) T.length cb, .slice (some ⟨d', 0, none⟩) L.length cd']

    · rw [if_neg h1]
      have hs1 : ((s : Int) != 1) = true := by simp; omega
      clear h1
      go_enter Tryz.func18, Tryz.ntmps18
      go_wp2_with fail
      refine (TH.out _).mono ?_
      rintro e w1 ⟨rfl, hb⟩
      have B1 := Lib.hid (B0.out.trans (hb.mono (by simp; omega)))
      have HB1 := Lib.hid hb
      have TCt := (boxes G b cb d cd T L hb).1
      obtain ⟨t0, t1, t2, t3, t4, t5, t6, t7, t8, t9⟩ := blkc10 TCt
      have tl := TCt.lt
      clear TCt
      have TCz := (boxes G b cb d cd T L hb).2
      have z0 : w1.cell? ⟨w.heap.size + 1, 0, none⟩ = some (.int .u32 0) := TCz.cell 0
      have y0 : w1.frozen? ⟨w.heap.size + 1, 0, none⟩ = false := TCz.frozen 0
      have z1 : w1.cell? ⟨w.heap.size + 1, 1, none⟩ = some (.int .u32 0) := TCz.cell 1
      have y1 : w1.frozen? ⟨w.heap.size + 1, 1, none⟩ = false := TCz.frozen 1
      have z2 : w1.cell? ⟨w.heap.size + 1, 2, none⟩ = some (.int .u32 0) := TCz.cell 2
      have y2 : w1.frozen? ⟨w.heap.size + 1, 2, none⟩ = false := TCz.frozen 2
      have z3 : w1.cell? ⟨w.heap.size + 1, 3, none⟩ = some (.int .u32 0) := TCz.cell 3
      have y3 : w1.frozen? ⟨w.heap.size + 1, 3, none⟩ = false := TCz.frozen 3
      have z4 : w1.cell? ⟨w.heap.size + 1, 4, none⟩ = some (.int .u32 0) := TCz.cell 4
      have y4 : w1.frozen? ⟨w.heap.size + 1, 4, none⟩ = false := TCz.frozen 4
      have z5 : w1.cell? ⟨w.heap.size + 1, 5, none⟩ = some (.int .u32 0) := TCz.cell 5
      have y5 : w1.frozen? ⟨w.heap.size + 1, 5, none⟩ = false := TCz.frozen 5
      have z6 : w1.cell? ⟨w.heap.size + 1, 6, none⟩ = some (.int .u32 0) := TCz.cell 6
      have y6 : w1.frozen? ⟨w.heap.size + 1, 6, none⟩ = false := TCz.frozen 6
      have z7 : w1.cell? ⟨w.heap.size + 1, 7, none⟩ = some (.int .u32 0) := TCz.cell 7
      have y7 : w1.frozen? ⟨w.heap.size + 1, 7, none⟩ = false := TCz.frozen 7
      have z8 : w1.cell? ⟨w.heap.size + 1, 8, none⟩ = some (.slice none 0 0) := TCz.cell 8
      have y8 : w1.frozen? ⟨w.heap.size + 1, 8, none⟩ = false := TCz.frozen 8
      have z9 : w1.cell? ⟨w.heap.size + 1, 9, none⟩ = some (.slice none 0 0) := TCz.cell 9
      have y9 : w1.frozen? ⟨w.heap.size + 1, 9, none⟩ = false := TCz.frozen 9
      have zl := TCz.lt
      clear TCz
      have RW1 := Lib.hid (HR.out.kept B1.out)
      clear hb
      go_wp2_with fail
      go_region_held3 (fun w' => w'.cell? ⟨w.heap.size, 8, none⟩ = some (.slice (some ⟨b, 0, none⟩) T.length cb)) (first | go_keep | (apply keep1m; assumption; assumption)) ((first | (go_at_call 63; (with_reducible refine (PC.out _).mono ?_); rintro e w2 ⟨rfl, rfl⟩) | (go_at_call 62; (with_reducible refine (RG.out _ ?_).mono ?_); (first | exact RW1.out.pgs | exact RW1.out.pgs.drewN 1); rintro e w2 ⟨rfl, hb2⟩)))
      have HB2 := Lib.hid (HB1.out.trans ((((Below.refl _ w1).drew).trans hb2).mono HB1.out.size))
      have B2 := Lib.hid (B0.out.trans (HB2.out.mono (by simp; omega)))
      clear t0 z0 y0 t1 z1 y1 t2 z2 y2 t3 z3 y3 t4 z4 y4 t5 z5 y5 t6 z6 y6 t7 z7 y7 t8 z8 y8 t9 z9 y9 tl zl
      have TCt := (boxes G b cb d cd T L HB2.out).1
      obtain ⟨t0, t1, t2, t3, t4, t5, t6, t7, t8, t9⟩ := blkc10 TCt
      have tl := TCt.lt
      clear TCt
      have TCz := (boxes G b cb d cd T L HB2.out).2
      have z0 : w2.cell? ⟨w.heap.size + 1, 0, none⟩ = some (.int .u32 0) := TCz.cell 0
      have y0 : w2.frozen? ⟨w.heap.size + 1, 0, none⟩ = false := TCz.frozen 0
      have z1 : w2.cell? ⟨w.heap.size + 1, 1, none⟩ = some (.int .u32 0) := TCz.cell 1
      have y1 : w2.frozen? ⟨w.heap.size + 1, 1, none⟩ = false := TCz.frozen 1
      have z2 : w2.cell? ⟨w.heap.size + 1, 2, none⟩ = some (.int .u32 0) := TCz.cell 2
      have y2 : w2.frozen? ⟨w.heap.size + 1, 2, none⟩ = false := TCz.frozen 2
      have z3 : w2.cell? ⟨w.heap.size + 1, 3, none⟩ = some (.int .u32 0) := TCz.cell 3
      have y3 : w2.frozen? ⟨w.heap.size + 1, 3, none⟩ = false := TCz.frozen 3
      have z4 : w2.cell? ⟨w.heap.size + 1, 4, none⟩ = some (.int .u32 0) := TCz.cell 4
      have y4 : w2.frozen? ⟨w.heap.size + 1, 4, none⟩ = false := TCz.frozen 4
      have z5 : w2.cell? ⟨w.heap.size + 1, 5, none⟩ = some (.int .u32 0) := TCz.cell 5
      have y5 : w2.frozen? ⟨w.heap.size + 1, 5, none⟩ = false := TCz.frozen 5
      have z6 : w2.cell? ⟨w.heap.size + 1, 6, none⟩ = some (.int .u32 0) := TCz.cell 6
      have y6 : w2.frozen? ⟨w.heap.size + 1, 6, none⟩ = false := TCz.frozen 6
      have z7 : w2.cell? ⟨w.heap.size + 1, 7, none⟩ = some (.int .u32 0) := TCz.cell 7
      have y7 : w2.frozen? ⟨w.heap.size + 1, 7, none⟩ = false := TCz.frozen 7
      have z8 : w2.cell? ⟨w.heap.size + 1, 8, none⟩ = some (.slice none 0 0) := TCz.cell 8
      have y8 : w2.frozen? ⟨w.heap.size + 1, 8, none⟩ = false := TCz.frozen 8
      have z9 : w2.cell? ⟨w.heap.size + 1, 9, none⟩ = some (.slice none 0 0) := TCz.cell 9
      have y9 : w2.frozen? ⟨w.heap.size + 1, 9, none⟩ = false := TCz.frozen 9
      have zl := TCz.lt
      clear TCz
      have FF : Hid (∀ vs, RAns w G b cb T d L (.int .i64 ((9 : Nat) : Int)) (.returned (.tuple #[.agg #[.int .u32 (G 0 : Int), .int .u32 (G 1 : Int), .int .u32 (G 2 : Int), .int .u32 (G 3 : Int), .int .u32 (G 4 : Int), .int .u32 (G 5 : Int), .int .u32 (G 6 : Int), .int .u32 (G 7 : Int), .slice (some ⟨b, 0, none⟩) T.length cb, .slice (some ⟨d, 0, none⟩) L.length cd], .int .i64 ((9 : Nat) : Int)])) ((w2).setCells (w.heap.size + 1) 0 vs)) := Lib.hid (fun vs => ⟨d, cd, by simp [rm], Or.inl rfl, wds_setCells (by omega) vs 0 _ (HR.out.wds.kept B2.out), below_setCells (by omega) vs 0 _ B2.out⟩)
      clear hb2
      go_wp2_with fail
      (try simp only [Exit.inBlock, Exit.then])
      refine bodyPost_ret (v := .tuple #[.agg #[.int .u32 (G 0 : Int), .int .u32 (G 1 : Int), .int .u32 (G 2 : Int), .int .u32 (G 3 : Int), .int .u32 (G 4 : Int), .int .u32 (G 5 : Int), .int .u32 (G 6 : Int), .int .u32 (G 7 : Int), .slice (some ⟨b, 0, none⟩) T.length cb, .slice (some ⟨d, 0, none⟩) L.length cd], .int .i64 9]) (by simp [results, Tryz.results18, go_sem, *]) rfl ?_
      exact FF.out [.int .u32 (G 0 : Int), .int .u32 (G 1 : Int), .int .u32 (G 2 : Int), .int .u32 (G 3 : Int), .int .u32 (G 4 : Int), .int .u32 (G 5 : Int), .int .u32 (G 6 : Int), .int .u32 (G 7 : Int), .slice (some ⟨b, 0, none⟩) T.length cb, .slice (some ⟨d, 0, none⟩) L.length cd]

end Go.Proofs.YthnbdeibjbicpaaGreat.PM

/- Contract of the reference's memory: SetGate. Conditions: none. -/
set_option linter.unusedSimpArgs false
namespace Go.Proofs.YthnbdeibjbicpaaGreat.PM
set_option linter.unusedVariables false
open Go.RowKit
def RGate (w : World) (v : Value) (e : Ending) (w' : World) : Prop := e = .returned v ∧ Below w.heap.size w w'
set_option maxRecDepth 100000 in
set_option maxHeartbeats 8000000 in
theorem rsetgate_c (w : World) (G : Nat → Nat) (b cb d cd : Nat) (T : List Page) (L : List Nat) (i : Int) (v : Nat) :
    Calls Tryz.prog 22 #[rm G b cb T d cd L, .int .i64 i, .int .u32 (v : Int)] w fun e w' => RGate w (.tuple #[rm (setM G i v).1 b cb T d cd L, .int .i64 ((setM G i v).2 : Int)]) e w' := by
  have FF : ∀ (A Z : Array Value) (t : TypeId) (x : Value), Hid (RGate w x (.returned x) ((w.alloc (.cells A t)).alloc (.cells Z t))) := fun A Z t x => Lib.hid ⟨rfl, ((Below.refl _ w).alloc (Nat.le_refl _) _).alloc (by simp) _⟩
  unfold setM
  by_cases h0 : i < 0
  · rw [if_neg (by omega)]
    unfold rm
    go_enter Tryz.func22, Tryz.ntmps22
    go_wp2_with fail
    refine bodyPost_ret (v := .tuple #[.agg #[.int .u32 (G 0 : Int), .int .u32 (G 1 : Int), .int .u32 (G 2 : Int), .int .u32 (G 3 : Int), .int .u32 (G 4 : Int), .int .u32 (G 5 : Int), .int .u32 (G 6 : Int), .int .u32 (G 7 : Int), .slice (some ⟨b, 0, none⟩) T.length cb, .slice (some ⟨d, 0, none⟩) L.length cd], .int .i64 2]) (by simp [results, Tryz.results22, go_sem, *]) rfl ?_
    exact (FF _ _ _ _).out
  by_cases h1 : 8 ≤ i
  · rw [if_neg (by omega)]
    unfold rm
    go_enter Tryz.func22, Tryz.ntmps22
    go_wp2_with fail
    refine bodyPost_ret (v := .tuple #[.agg #[.int .u32 (G 0 : Int), .int .u32 (G 1 : Int), .int .u32 (G 2 : Int), .int .u32 (G 3 : Int), .int .u32 (G 4 : Int), .int .u32 (G 5 : Int), .int .u32 (G 6 : Int), .int .u32 (G 7 : Int), .slice (some ⟨b, 0, none⟩) T.length cb, .slice (some ⟨d, 0, none⟩) L.length cd], .int .i64 2]) (by simp [results, Tryz.results22, go_sem, *]) rfl ?_
    exact (FF _ _ _ _).out
  obtain ⟨y, rfl⟩ : ∃ y : Nat, i = (y : Int) := ⟨i.toNat, by omega⟩
  have hy8 : y < 8 := by omega
  rw [if_pos (by omega), Int.toNat_natCast]
  clear h0 h1
  match y, hy8 with
  | 0, _ =>
    show Calls Tryz.prog 22 #[.agg #[.int .u32 (G 0 : Int), .int .u32 (G 1 : Int), .int .u32 (G 2 : Int), .int .u32 (G 3 : Int), .int .u32 (G 4 : Int), .int .u32 (G 5 : Int), .int .u32 (G 6 : Int), .int .u32 (G 7 : Int), .slice (some ⟨b, 0, none⟩) T.length cb, .slice (some ⟨d, 0, none⟩) L.length cd], .int .i64 0, .int .u32 (v : Int)] w fun e w' => RGate w (.tuple #[.agg #[.int .u32 (v : Int), .int .u32 (G 1 : Int), .int .u32 (G 2 : Int), .int .u32 (G 3 : Int), .int .u32 (G 4 : Int), .int .u32 (G 5 : Int), .int .u32 (G 6 : Int), .int .u32 (G 7 : Int), .slice (some ⟨b, 0, none⟩) T.length cb, .slice (some ⟨d, 0, none⟩) L.length cd], .int .i64 0]) e w'
    go_enter Tryz.func22, Tryz.ntmps22
    go_wp2_with fail
    refine bodyPost_ret (v := .tuple #[.agg #[.int .u32 (v : Int), .int .u32 (G 1 : Int), .int .u32 (G 2 : Int), .int .u32 (G 3 : Int), .int .u32 (G 4 : Int), .int .u32 (G 5 : Int), .int .u32 (G 6 : Int), .int .u32 (G 7 : Int), .slice (some ⟨b, 0, none⟩) T.length cb, .slice (some ⟨d, 0, none⟩) L.length cd], .int .i64 0]) (by simp [results, Tryz.results22, go_sem, *]) rfl ?_
    exact (FF _ _ _ _).out
  | 1, _ =>
    show Calls Tryz.prog 22 #[.agg #[.int .u32 (G 0 : Int), .int .u32 (G 1 : Int), .int .u32 (G 2 : Int), .int .u32 (G 3 : Int), .int .u32 (G 4 : Int), .int .u32 (G 5 : Int), .int .u32 (G 6 : Int), .int .u32 (G 7 : Int), .slice (some ⟨b, 0, none⟩) T.length cb, .slice (some ⟨d, 0, none⟩) L.length cd], .int .i64 1, .int .u32 (v : Int)] w fun e w' => RGate w (.tuple #[.agg #[.int .u32 (G 0 : Int), .int .u32 (v : Int), .int .u32 (G 2 : Int), .int .u32 (G 3 : Int), .int .u32 (G 4 : Int), .int .u32 (G 5 : Int), .int .u32 (G 6 : Int), .int .u32 (G 7 : Int), .slice (some ⟨b, 0, none⟩) T.length cb, .slice (some ⟨d, 0, none⟩) L.length cd], .int .i64 0]) e w'
    go_enter Tryz.func22, Tryz.ntmps22
    go_wp2_with fail
    refine bodyPost_ret (v := .tuple #[.agg #[.int .u32 (G 0 : Int), .int .u32 (v : Int), .int .u32 (G 2 : Int), .int .u32 (G 3 : Int), .int .u32 (G 4 : Int), .int .u32 (G 5 : Int), .int .u32 (G 6 : Int), .int .u32 (G 7 : Int), .slice (some ⟨b, 0, none⟩) T.length cb, .slice (some ⟨d, 0, none⟩) L.length cd], .int .i64 0]) (by simp [results, Tryz.results22, go_sem, *]) rfl ?_
    exact (FF _ _ _ _).out
  | 2, _ =>
    show Calls Tryz.prog 22 #[.agg #[.int .u32 (G 0 : Int), .int .u32 (G 1 : Int), .int .u32 (G 2 : Int), .int .u32 (G 3 : Int), .int .u32 (G 4 : Int), .int .u32 (G 5 : Int), .int .u32 (G 6 : Int), .int .u32 (G 7 : Int), .slice (some ⟨b, 0, none⟩) T.length cb, .slice (some ⟨d, 0, none⟩) L.length cd], .int .i64 2, .int .u32 (v : Int)] w fun e w' => RGate w (.tuple #[.agg #[.int .u32 (G 0 : Int), .int .u32 (G 1 : Int), .int .u32 (v : Int), .int .u32 (G 3 : Int), .int .u32 (G 4 : Int), .int .u32 (G 5 : Int), .int .u32 (G 6 : Int), .int .u32 (G 7 : Int), .slice (some ⟨b, 0, none⟩) T.length cb, .slice (some ⟨d, 0, none⟩) L.length cd], .int .i64 0]) e w'
    go_enter Tryz.func22, Tryz.ntmps22
    go_wp2_with fail
    refine bodyPost_ret (v := .tuple #[.agg #[.int .u32 (G 0 : Int), .int .u32 (G 1 : Int), .int .u32 (v : Int), .int .u32 (G 3 : Int), .int .u32 (G 4 : Int), .int .u32 (G 5 : Int), .int .u32 (G 6 : Int), .int .u32 (G 7 : Int), .slice (some ⟨b, 0, none⟩) T.length cb, .slice (some ⟨d, 0, none⟩) L.length cd], .int .i64 0]) (by simp [results, Tryz.results22, go_sem, *]) rfl ?_
    exact (FF _ _ _ _).out
  | 3, _ =>
    show Calls Tryz.prog 22 #[.agg #[.int .u32 (G 0 : Int), .int .u32 (G 1 : Int), .int .u32 (G 2 : Int), .int .u32 (G 3 : Int), .int .u32 (G 4 : Int), .int .u32 (G 5 : Int), .int .u32 (G 6 : Int), .int .u32 (G 7 : Int), .slice (some ⟨b, 0, none⟩) T.length cb, .slice (some ⟨d, 0, none⟩) L.length cd], .int .i64 3, .int .u32 (v : Int)] w fun e w' => RGate w (.tuple #[.agg #[.int .u32 (G 0 : Int), .int .u32 (G 1 : Int), .int .u32 (G 2 : Int), .int .u32 (v : Int), .int .u32 (G 4 : Int), .int .u32 (G 5 : Int), .int .u32 (G 6 : Int), .int .u32 (G 7 : Int), .slice (some ⟨b, 0, none⟩) T.length cb, .slice (some ⟨d, 0, none⟩) L.length cd], .int .i64 0]) e w'
    go_enter Tryz.func22, Tryz.ntmps22
    go_wp2_with fail
    refine bodyPost_ret (v := .tuple #[.agg #[.int .u32 (G 0 : Int), .int .u32 (G 1 : Int), .int .u32 (G 2 : Int), .int .u32 (v : Int), .int .u32 (G 4 : Int), .int .u32 (G 5 : Int), .int .u32 (G 6 : Int), .int .u32 (G 7 : Int), .slice (some ⟨b, 0, none⟩) T.length cb, .slice (some ⟨d, 0, none⟩) L.length cd], .int .i64 0]) (by simp [results, Tryz.results22, go_sem, *]) rfl ?_
    exact (FF _ _ _ _).out
  | 4, _ =>
    show Calls Tryz.prog 22 #[.agg #[.int .u32 (G 0 : Int), .int .u32 (G 1 : Int), .int .u32 (G 2 : Int), .int .u32 (G 3 : Int), .int .u32 (G 4 : Int), .int .u32 (G 5 : Int), .int .u32 (G 6 : Int), .int .u32 (G 7 : Int), .slice (some ⟨b, 0, none⟩) T.length cb, .slice (some ⟨d, 0, none⟩) L.length cd], .int .i64 4, .int .u32 (v : Int)] w fun e w' => RGate w (.tuple #[.agg #[.int .u32 (G 0 : Int), .int .u32 (G 1 : Int), .int .u32 (G 2 : Int), .int .u32 (G 3 : Int), .int .u32 (v : Int), .int .u32 (G 5 : Int), .int .u32 (G 6 : Int), .int .u32 (G 7 : Int), .slice (some ⟨b, 0, none⟩) T.length cb, .slice (some ⟨d, 0, none⟩) L.length cd], .int .i64 0]) e w'
    go_enter Tryz.func22, Tryz.ntmps22
    go_wp2_with fail
    refine bodyPost_ret (v := .tuple #[.agg #[.int .u32 (G 0 : Int), .int .u32 (G 1 : Int), .int .u32 (G 2 : Int), .int .u32 (G 3 : Int), .int .u32 (v : Int), .int .u32 (G 5 : Int), .int .u32 (G 6 : Int), .int .u32 (G 7 : Int), .slice (some ⟨b, 0, none⟩) T.length cb, .slice (some ⟨d, 0, none⟩) L.length cd], .int .i64 0]) (by simp [results, Tryz.results22, go_sem, *]) rfl ?_
    exact (FF _ _ _ _).out
  | 5, _ =>
    show Calls Tryz.prog 22 #[.agg #[.int .u32 (G 0 : Int), .int .u32 (G 1 : Int), .int .u32 (G 2 : Int), .int .u32 (G 3 : Int), .int .u32 (G 4 : Int), .int .u32 (G 5 : Int), .int .u32 (G 6 : Int), .int .u32 (G 7 : Int), .slice (some ⟨b, 0, none⟩) T.length cb, .slice (some ⟨d, 0, none⟩) L.length cd], .int .i64 5, .int .u32 (v : Int)] w fun e w' => RGate w (.tuple #[.agg #[.int .u32 (G 0 : Int), .int .u32 (G 1 : Int), .int .u32 (G 2 : Int), .int .u32 (G 3 : Int), .int .u32 (G 4 : Int), .int .u32 (v : Int), .int .u32 (G 6 : Int), .int .u32 (G 7 : Int), .slice (some ⟨b, 0, none⟩) T.length cb, .slice (some ⟨d, 0, none⟩) L.length cd], .int .i64 0]) e w'
    go_enter Tryz.func22, Tryz.ntmps22
    go_wp2_with fail
    refine bodyPost_ret (v := .tuple #[.agg #[.int .u32 (G 0 : Int), .int .u32 (G 1 : Int), .int .u32 (G 2 : Int), .int .u32 (G 3 : Int), .int .u32 (G 4 : Int), .int .u32 (v : Int), .int .u32 (G 6 : Int), .int .u32 (G 7 : Int), .slice (some ⟨b, 0, none⟩) T.length cb, .slice (some ⟨d, 0, none⟩) L.length cd], .int .i64 0]) (by simp [results, Tryz.results22, go_sem, *]) rfl ?_
    exact (FF _ _ _ _).out
  | 6, _ =>
    show Calls Tryz.prog 22 #[.agg #[.int .u32 (G 0 : Int), .int .u32 (G 1 : Int), .int .u32 (G 2 : Int), .int .u32 (G 3 : Int), .int .u32 (G 4 : Int), .int .u32 (G 5 : Int), .int .u32 (G 6 : Int), .int .u32 (G 7 : Int), .slice (some ⟨b, 0, none⟩) T.length cb, .slice (some ⟨d, 0, none⟩) L.length cd], .int .i64 6, .int .u32 (v : Int)] w fun e w' => RGate w (.tuple #[.agg #[.int .u32 (G 0 : Int), .int .u32 (G 1 : Int), .int .u32 (G 2 : Int), .int .u32 (G 3 : Int), .int .u32 (G 4 : Int), .int .u32 (G 5 : Int), .int .u32 (v : Int), .int .u32 (G 7 : Int), .slice (some ⟨b, 0, none⟩) T.length cb, .slice (some ⟨d, 0, none⟩) L.length cd], .int .i64 0]) e w'
    go_enter Tryz.func22, Tryz.ntmps22
    go_wp2_with fail
    refine bodyPost_ret (v := .tuple #[.agg #[.int .u32 (G 0 : Int), .int .u32 (G 1 : Int), .int .u32 (G 2 : Int), .int .u32 (G 3 : Int), .int .u32 (G 4 : Int), .int .u32 (G 5 : Int), .int .u32 (v : Int), .int .u32 (G 7 : Int), .slice (some ⟨b, 0, none⟩) T.length cb, .slice (some ⟨d, 0, none⟩) L.length cd], .int .i64 0]) (by simp [results, Tryz.results22, go_sem, *]) rfl ?_
    exact (FF _ _ _ _).out
  | 7, _ =>
    show Calls Tryz.prog 22 #[.agg #[.int .u32 (G 0 : Int), .int .u32 (G 1 : Int), .int .u32 (G 2 : Int), .int .u32 (G 3 : Int), .int .u32 (G 4 : Int), .int .u32 (G 5 : Int), .int .u32 (G 6 : Int), .int .u32 (G 7 : Int), .slice (some ⟨b, 0, none⟩) T.length cb, .slice (some ⟨d, 0, none⟩) L.length cd], .int .i64 7, .int .u32 (v : Int)] w fun e w' => RGate w (.tuple #[.agg #[.int .u32 (G 0 : Int), .int .u32 (G 1 : Int), .int .u32 (G 2 : Int), .int .u32 (G 3 : Int), .int .u32 (G 4 : Int), .int .u32 (G 5 : Int), .int .u32 (G 6 : Int), .int .u32 (v : Int), .slice (some ⟨b, 0, none⟩) T.length cb, .slice (some ⟨d, 0, none⟩) L.length cd], .int .i64 0]) e w'
    go_enter Tryz.func22, Tryz.ntmps22
    go_wp2_with fail
    refine bodyPost_ret (v := .tuple #[.agg #[.int .u32 (G 0 : Int), .int .u32 (G 1 : Int), .int .u32 (G 2 : Int), .int .u32 (G 3 : Int), .int .u32 (G 4 : Int), .int .u32 (G 5 : Int), .int .u32 (G 6 : Int), .int .u32 (v : Int), .slice (some ⟨b, 0, none⟩) T.length cb, .slice (some ⟨d, 0, none⟩) L.length cd], .int .i64 0]) (by simp [results, Tryz.results22, go_sem, *]) rfl ?_
    exact (FF _ _ _ _).out
end Go.Proofs.YthnbdeibjbicpaaGreat.PM
