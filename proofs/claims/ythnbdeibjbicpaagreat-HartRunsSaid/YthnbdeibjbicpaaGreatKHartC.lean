/- Contracts of slices.Clone at a stack and of hart's Copy. Conditions: the cells. -/
import Derived.Test.YthnbdeibjbicpaaGreatKHartB
namespace Go.Proofs.YthnbdeibjbicpaaGreat.PM
set_option linter.unusedVariables false
set_option linter.unusedSimpArgs false
open Go.RowKit Go.Shelf Go.Lib
/-- The cells of a stack that came in. -/
def Stk (w : World) (src : Option Addr) (S : List Nat) : Prop := ∀ i, i < S.length → ∃ b q, src = some ⟨b, q, none⟩ ∧ b < w.heap.size ∧ w.cell? ⟨b, q + i, none⟩ = some (.int .u32 ((S[i]! : Nat) : Int))
theorem Stk.kept {w w' : World} {src : Option Addr} {S : List Nat} (h : Stk w src S) (hb : Below w.heap.size w w') : Stk w' src S := fun i hi => by
  obtain ⟨b, q, e, hl, hc⟩ := h i hi
  exact ⟨b, q, e, Nat.lt_of_lt_of_le hl hb.size, (hb.cell (p := ⟨b, q + i, none⟩) hl).trans hc⟩
theorem Own.mono {w : World} {base b2 : Nat} {s : Value} {S : List Nat} (o : Own w base s S) (h : b2 ≤ base) : Own w b2 s S := by
  obtain ⟨hl, h1 | ⟨g, cap, cur, rfl, hg, hr⟩⟩ := o
  · exact ⟨hl, .inl h1⟩
  · exact ⟨hl, .inr ⟨g, cap, cur, rfl, Nat.le_trans h hg, hr⟩⟩
def Cloned (w : World) (S : List Nat) (e : Ending) (w' : World) : Prop := ∃ s, e = .returned s ∧ Own w' w.heap.size s S ∧ Below w.heap.size w w'
set_option maxRecDepth 100000 in
set_option maxHeartbeats 4000000 in
theorem clone_empty (w : World) (a : Addr) (cap : Nat) : Calls Tryz.prog 71 #[.slice (some a) 0 cap] w fun e w' => Cloned w [] e w' := by
  obtain ⟨ti, hi, hz0, hz1, hz2⟩ := info_parts info_u32
  have q22 : ∀ (w : World) (a : Option Addr) (n c n' c' : Nat), (binOp .eql 22 (.slice a n c) (.slice none n' c')).run Tryz.prog w = .ok (.bool a.isNone) w := fun w a n c n' c' => Lib.run_eql_slice_nil w _ _ a n c n' c' Tryz.underlying22
  go_enter Tryz.func71, Tryz.ntmps71
  go_wp2_with (at_builtin; refine wpList_append_own _ rfl _ _ 22 rfl w.heap.size 23 ti (.int .u32 0) 1 4 Tryz.underlying22 hi hz0 hz1 hz2 (by kernel_rfl) (by decide) _ _ _ rfl (World.ownsRow_made w #[] 0 (Nat.le_refl _) (Nat.zero_le _) (by simp)) a 0 cap [] rfl ?qc1 ?qc2 ?qc3 ?qc4 ?qc5 ?qc6 ?_)
  case qc1 => rfl
  case qc2 => intro j u hj; simp at hj
  case qc3 => intro u hu; cases hu
  case qc4 => decide
  case qc5 => decide
  case qc6 => simp
  intro v' w1 hown hgrow hnil
  have F : Hid (Cloned w [] (.returned v') w1) := Lib.hid ⟨v', rfl, by simpa [Own, u32s] using hown, ((Below.refl _ w).alloc (Nat.le_refl _) _).grown hgrow (by simp) (by intro k hk; simp [Value.ownBlock] at hk; omega)⟩
  clear hown hgrow hnil
  go_wp2
  go_ret
  exact F.out
theorem clone_stk (w : World) (src : Option Addr) (cap : Nat) (S : List Nat) (h : Stk w src S) (hn : S.length ≤ 35184372088832) :
    Calls Tryz.prog 71 #[.slice src S.length cap] w fun e w' => Cloned w S e w' := by
  cases src with
  | none =>
    have h0 : S.length = 0 := by
      rcases Nat.eq_zero_or_pos S.length with q | q
      · exact q
      · obtain ⟨_, _, e, _⟩ := h 0 q; cases e
    obtain rfl : S = [] := List.eq_nil_of_length_eq_zero h0
    exact (AnyE.slices_Clone_nil laysW 0 cap w).mono fun e w' ⟨he, hw⟩ => ⟨_, he, World.ownsRow_nil _ _ _ _, by rw [hw]; exact Below.refl _ _⟩
  | some a =>
    rcases Nat.eq_zero_or_pos S.length with q | q
    · obtain rfl : S = [] := List.eq_nil_of_length_eq_zero q
      exact clone_empty w a cap
    · obtain ⟨b, f, e, hl, _⟩ := h 0 q
      obtain rfl : a = ⟨b, f, none⟩ := by injection e
      have key := AnyE.slices_Clone laysW Tryz.t23 (.int .u32 0) 1 4 (by kernel_rfl) (by kernel_rfl) (by kernel_rfl) (by kernel_rfl) (by kernel_rfl) (by decide) Tryz.sizeOf23 b f S.length cap (u32s S) w (by simp [u32s]) (by simp [maxLen]; omega) (by omega)
        (fun j u hj => by
          unfold u32s at hj
          rw [List.getElem?_map] at hj
          have hjl : j < S.length := by
            rcases Nat.lt_or_ge j S.length with q | q
            · exact q
            · rw [List.getElem?_eq_none q] at hj; cases hj
          obtain ⟨b', f', e', _, hc⟩ := h j hjl
          injection e' with e'
          injection e' with e1 e2
          subst e1 e2
          rw [hc, List.getElem!_eq_getElem?_getD]
          rw [List.getElem?_eq_getElem hjl] at hj ⊢
          exact hj)
        (fun u hu => by
          obtain ⟨x, _, rfl⟩ := List.mem_map.1 hu
          rfl)
      exact key.mono fun e w' ⟨v, he, ho, _, hb⟩ => ⟨v, he, ho, hb⟩
theorem upd_cells (g : Nat) : ∀ (vs : List Value) (o : Nat) (w : World), Upd g w (w.setCells g o vs)
  | [], _, w => Upd.refl g w
  | v :: vs, o, w => by
    have := upd_cells g vs (o + 1) (w.setCell ⟨g, o, none⟩ v)
    exact (((Upd.refl g w).setCell o v)).trans this
theorem below_cells {B g : Nat} {a : World} (hg : B ≤ g) : ∀ (vs : List Value) (o : Nat) (w : World), Below B a w → Below B a (w.setCells g o vs)
  | [], _, _, h => h
  | v :: vs, o, w, h => below_cells hg vs (o + 1) _ (h.setCell (p := ⟨g, o, none⟩) hg v)
def Copied9 (w : World) (pc : Nat) (R : Nat → Nat) (why ep home : Nat) (S : List Nat) (e : Ending) (w' : World) : Prop := ∃ s, e = .returned (hv pc R s why ep home) ∧ Own w' w.heap.size s S ∧ Below w.heap.size w w'
set_option maxRecDepth 100000 in
set_option maxHeartbeats 8000000 in
theorem copy_c (w : World) (pc : Nat) (R : Nat → Nat) (src : Option Addr) (cap why ep home : Nat) (S : List Nat) (h : Stk w src S) (hn : S.length ≤ 35184372088832) :
    Calls Tryz.prog 25 #[hv pc R (.slice src S.length cap) why ep home] w fun e w' => Copied9 w pc R why ep home S e w' := by
  have K1 := Lib.hid ((Blk.new w 30 #[.int .u32 (pc : Int), .int .u32 (R 0 : Int), .int .u32 (R 1 : Int), .int .u32 (R 2 : Int), .int .u32 (R 3 : Int), .int .u32 (R 4 : Int), .int .u32 (R 5 : Int), .int .u32 (R 6 : Int), .int .u32 (R 7 : Int), (.slice src S.length cap), .int .u8 (why : Int), .int .u64 (ep : Int), .int .u32 (home : Int)]).alloc (.cells #[.int .u32 0, .int .u32 0, .int .u32 0, .int .u32 0, .int .u32 0, .int .u32 0, .int .u32 0, .int .u32 0, .int .u32 0, .slice none 0 0, .int .u8 0, .int .u64 0, .int .u32 0] 30))
  have K2 := Lib.hid (Blk.new (w.alloc (.cells #[.int .u32 (pc : Int), .int .u32 (R 0 : Int), .int .u32 (R 1 : Int), .int .u32 (R 2 : Int), .int .u32 (R 3 : Int), .int .u32 (R 4 : Int), .int .u32 (R 5 : Int), .int .u32 (R 6 : Int), .int .u32 (R 7 : Int), (.slice src S.length cap), .int .u8 (why : Int), .int .u64 (ep : Int), .int .u32 (home : Int)] 30)) 30 #[.int .u32 0, .int .u32 0, .int .u32 0, .int .u32 0, .int .u32 0, .int .u32 0, .int .u32 0, .int .u32 0, .int .u32 0, .slice none 0 0, .int .u8 0, .int .u64 0, .int .u32 0])
  have C : Hid (Stk ((w.alloc (.cells #[.int .u32 (pc : Int), .int .u32 (R 0 : Int), .int .u32 (R 1 : Int), .int .u32 (R 2 : Int), .int .u32 (R 3 : Int), .int .u32 (R 4 : Int), .int .u32 (R 5 : Int), .int .u32 (R 6 : Int), .int .u32 (R 7 : Int), (.slice src S.length cap), .int .u8 (why : Int), .int .u64 (ep : Int), .int .u32 (home : Int)] 30)).alloc (.cells #[.int .u32 0, .int .u32 0, .int .u32 0, .int .u32 0, .int .u32 0, .int .u32 0, .int .u32 0, .int .u32 0, .int .u32 0, .slice none 0 0, .int .u8 0, .int .u64 0, .int .u32 0] 30)) src S) := Lib.hid ((h.kept ((Below.refl _ w).alloc (Nat.le_refl _) _)).kept ((Below.refl _ _).alloc (Nat.le_refl _) _))
  have B0 : Hid (Below w.heap.size w ((w.alloc (.cells #[.int .u32 (pc : Int), .int .u32 (R 0 : Int), .int .u32 (R 1 : Int), .int .u32 (R 2 : Int), .int .u32 (R 3 : Int), .int .u32 (R 4 : Int), .int .u32 (R 5 : Int), .int .u32 (R 6 : Int), .int .u32 (R 7 : Int), (.slice src S.length cap), .int .u8 (why : Int), .int .u64 (ep : Int), .int .u32 (home : Int)] 30)).alloc (.cells #[.int .u32 0, .int .u32 0, .int .u32 0, .int .u32 0, .int .u32 0, .int .u32 0, .int .u32 0, .int .u32 0, .int .u32 0, .slice none 0 0, .int .u8 0, .int .u64 0, .int .u32 0] 30))) := Lib.hid (((Below.refl _ w).alloc (Nat.le_refl _) _).alloc (by simp) _)
  generalize hW : (w.alloc (.cells #[.int .u32 (pc : Int), .int .u32 (R 0 : Int), .int .u32 (R 1 : Int), .int .u32 (R 2 : Int), .int .u32 (R 3 : Int), .int .u32 (R 4 : Int), .int .u32 (R 5 : Int), .int .u32 (R 6 : Int), .int .u32 (R 7 : Int), (.slice src S.length cap), .int .u8 (why : Int), .int .u64 (ep : Int), .int .u32 (home : Int)] 30)).alloc (.cells #[.int .u32 0, .int .u32 0, .int .u32 0, .int .u32 0, .int .u32 0, .int .u32 0, .int .u32 0, .int .u32 0, .int .u32 0, .slice none 0 0, .int .u8 0, .int .u64 0, .int .u32 0] 30) = W at K1 K2 C B0
  have hsz : W.heap.size = w.heap.size + 2 := by rw [← hW]; simp
  have K2 : Hid (Blk W (w.heap.size + 1) 30 #[.int .u32 0, .int .u32 0, .int .u32 0, .int .u32 0, .int .u32 0, .int .u32 0, .int .u32 0, .int .u32 0, .int .u32 0, .slice none 0 0, .int .u8 0, .int .u64 0, .int .u32 0]) := Lib.hid (by have := K2.out; simpa using this)
  have CC := Lib.hid (clone_stk W src cap S C.out hn)
  have KW := Lib.hid hW
  clear hW h C
  unfold hv
  go_enter Tryz.func25, Tryz.ntmps25
  go_wp2_with fail
  (try rw [KW.out])
  refine CC.out.mono ?_
  rintro e w1 ⟨s, rfl, ow, hb⟩
  obtain ⟨src2, cap2, rfl, _⟩ := ow.form
  have k1 := K1.out.kept hb
  have k2 := K2.out.kept hb
  obtain ⟨t0, ft0, t1, ft1, t2, ft2, t3, ft3, t4, ft4, t5, ft5, t6, ft6, t7, ft7, t8, ft8, t9, ft9, t10, ft10, t11, ft11, t12, ft12⟩ := blkf13 k1
  obtain ⟨z0, fz0, z1, fz1, z2, fz2, z3, fz3, z4, fz4, z5, fz5, z6, fz6, z7, fz7, z8, fz8, z9, fz9, z10, fz10, z11, fz11, z12, fz12⟩ := blkf13 k2
  have F : Hid (∀ u vs, Copied9 w pc R why ep home S (.returned (hv pc R (.slice src2 S.length cap2) why ep home)) ((w1.setCell ⟨w.heap.size, 9, none⟩ u).setCells (w.heap.size + 1) 0 vs)) := Lib.hid fun u vs => by
    have hg := fun k hk => (ow.lt k hk).1
    refine ⟨_, rfl, ((ow.upd ((Upd.refl w.heap.size w1).setCell 9 u) (fun e => by have := hg _ e; omega)).upd (upd_cells _ vs 0 _) (fun e => by have := hg _ e; omega)).mono (by omega), below_cells (by omega) vs 0 _ (Below.setCell (B0.out.trans (hb.mono B0.out.size)) (p := ⟨w.heap.size, 9, none⟩) (Nat.le_refl _) u)⟩
  clear ow hb k1 k2 K1 K2 B0 CC KW
  go_wp2_with fail
  unfold hv at F
  refine bodyPost_ret (v := .agg #[.int .u32 (pc : Int), .int .u32 (R 0 : Int), .int .u32 (R 1 : Int), .int .u32 (R 2 : Int), .int .u32 (R 3 : Int), .int .u32 (R 4 : Int), .int .u32 (R 5 : Int), .int .u32 (R 6 : Int), .int .u32 (R 7 : Int), (.slice src2 S.length cap2), .int .u8 (why : Int), .int .u64 (ep : Int), .int .u32 (home : Int)]) (by simp [results, Tryz.results25, go_sem, *]) rfl ?_
  exact F.out _ [.int .u32 (pc : Int), .int .u32 (R 0 : Int), .int .u32 (R 1 : Int), .int .u32 (R 2 : Int), .int .u32 (R 3 : Int), .int .u32 (R 4 : Int), .int .u32 (R 5 : Int), .int .u32 (R 6 : Int), .int .u32 (R 7 : Int), (.slice src2 S.length cap2), .int .u8 (why : Int), .int .u64 (ep : Int), .int .u32 (home : Int)]
end Go.Proofs.YthnbdeibjbicpaaGreat.PM

/- Contracts of slices.Equal at words and of hart's New. Conditions: the cells. -/
namespace Go.Proofs.YthnbdeibjbicpaaGreat.PM
set_option linter.unusedVariables false
set_option linter.unusedSimpArgs false
open Go.RowKit
theorem bang_ext {S1 S2 : List Nat} (hl : S1.length = S2.length) (h : ∀ j, j < S1.length → S1[j]! = S2[j]!) : S1 = S2 := by
  apply List.ext_getElem hl
  intro i h1 h2
  have := h i h1
  rw [List.getElem!_eq_getElem?_getD, List.getElem!_eq_getElem?_getD, List.getElem?_eq_getElem h1, List.getElem?_eq_getElem h2] at this
  exact this
set_option maxRecDepth 100000 in
set_option maxHeartbeats 4000000 in
theorem equal_c (w : World) (s1 : Option Addr) (c1 : Nat) (S1 : List Nat) (s2 : Option Addr) (c2 : Nat) (S2 : List Nat) (h1 : Stk w s1 S1) (h2 : Stk w s2 S2) (hn : S1.length < 35184372088832) :
    Calls Tryz.prog 91 #[.slice s1 S1.length c1, .slice s2 S2.length c2] w fun e w' => e = .returned (.bool (decide (S1 = S2))) ∧ Below w.heap.size w w' := by
  by_cases hnm : S1.length = S2.length
  · have H1 := Lib.hid h1
    have H2 := Lib.hid h2
    generalize hn1 : S1.length = n at hnm hn
    have N1 := Lib.hid hn1
    have N2 := Lib.hid hnm
    rw [← hnm]
    clear h1 h2 hn1 hnm
    go_enter Tryz.func91, Tryz.ntmps91
    go_wp2
    go_loopg [13] n (fun g s13 wr => ∃ kk q : Nat, kk ≤ n ∧ n - kk ≤ g ∧ s13 = .int .i64 (kk : Int) ∧ wr = w.drewN q ∧ Hid (∀ j, j < kk → S1[j]! = S2[j]!))
    case atStart => exact ⟨0, 0, Nat.zero_le _, by omega, rfl, rfl, Lib.hid fun j hj => absurd hj (Nat.not_lt_zero _)⟩
    case round =>
      obtain ⟨kk, q, hkk, hg, rfl, rfl, A⟩ := hrel
      by_cases hlt : kk < n
      · have hltz : (kk : Int) < (n : Int) := by omega
        obtain ⟨b1, o1, rfl, hl1, g1⟩ := H1.out kk (by rw [N1.out]; exact hlt)
        obtain ⟨b2, o2, rfl, hl2, g2⟩ := H2.out kk (by rw [← N2.out]; exact hlt)
        obtain ⟨x, hx⟩ : ∃ x, S1[kk]! = x := ⟨_, rfl⟩
        obtain ⟨y, hy⟩ : ∃ y, S2[kk]! = y := ⟨_, rfl⟩
        rw [hx] at g1
        rw [hy] at g2
        have g1 : (w.drewN q).cell? ⟨b1, o1 + kk, none⟩ = some (.int .u32 (x : Int)) := g1
        have g2 : (w.drewN q).cell? ⟨b2, o2 + kk, none⟩ = some (.int .u32 (y : Int)) := g2
        generalize hwq : w.drewN q = wq at g1 g2 ⊢
        have W := Lib.hid hwq
        have X := Lib.hid hx
        have Y := Lib.hid hy
        clear hx hy hwq
        cases hxy : ((x : Int) == (y : Int)) with
        | true =>
          have hne : ((x : Int) != (y : Int)) = false := by simp [bne, hxy]
          have E := Lib.hid hxy
          clear hxy
          go_wp2_with fail
          go_quiet (fail)
          go_wp2
          go_roundg (n - (kk + 1))
          case measure => omega
          case rel =>
            refine ⟨kk + 1, q + nq, by omega, by omega, by go_num, by rw [← W.out, World.drewN_drewN], Lib.hid fun j hj => ?_⟩
            by_cases e : j = kk
            · subst e
              rw [X.out, Y.out]
              have := E.out
              simp at this
              omega
            · exact A.out j (by omega)
        | false =>
          have hne : ((x : Int) != (y : Int)) = true := by simp [bne, hxy]
          have E := Lib.hid hxy
          clear hxy
          go_wp2_with fail
          go_quiet (fail)
          go_wp2
          go_ret
          refine ⟨?_, by rw [← W.out]; exact below_drewN (below_drewN (Below.refl _ _) _) _⟩
          have hd : decide (S1 = S2) = false := decide_eq_false (fun e => by
            have := E.out
            rw [← X.out, ← Y.out, e] at this
            simp at this)
          rw [hd]
          rfl
      · have : kk = n := by omega
        subst this
        go_wp2
        go_ret
        refine ⟨?_, below_drewN (Below.refl _ _) _⟩
        rw [decide_eq_true (bang_ext (by rw [N1.out]; exact N2.out) (fun j hj => A.out j (by rw [N1.out] at hj; exact hj)))]
        rfl
  · have hz : ((S1.length : Int) != (S2.length : Int)) = true := by simp; omega
    have hd : decide (S1 = S2) = false := decide_eq_false (fun e => hnm (by rw [e]))
    rw [hd]
    clear h1 h2 hd
    generalize S1.length = n1 at hnm hz ⊢
    generalize S2.length = n2 at hnm hz ⊢
    go_enter Tryz.func91, Tryz.ntmps91
    go_wp2
    go_ret
    exact ⟨rfl, Below.refl _ _⟩
def hnewv (n : Nat) : Value := hv n (fun _ => 0) (.slice none 0 0) 0 0 n
set_option maxRecDepth 100000 in
theorem hnew_c (w : World) (n : Nat) : Calls Tryz.prog 50 #[.int .u32 (n : Int)] w fun e w' => e = .returned (hnewv n) ∧ Below w.heap.size w w' := by
  have F : Hid (∀ cs, Below w.heap.size w (w.alloc (.cells cs 30))) := Lib.hid fun cs => (Below.refl _ w).alloc (Nat.le_refl _) _
  go_enter Tryz.func50, Tryz.ntmps50
  go_wp2_with fail
  refine bodyPost_ret (v := .agg #[.int .u32 (n : Int), .int .u32 0, .int .u32 0, .int .u32 0, .int .u32 0, .int .u32 0, .int .u32 0, .int .u32 0, .int .u32 0, .slice none 0 0, .int .u8 0, .int .u64 0, .int .u32 (n : Int)]) (by simp [results, Tryz.results50, go_sem, *]) rfl ?_
  exact ⟨rfl, F.out _⟩
end Go.Proofs.YthnbdeibjbicpaaGreat.PM
