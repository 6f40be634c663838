/- Contracts of budwoodref09's Copy, New, Same. Conditions: the cells. -/
import Derived.Test.YthnbdeibjbicpaaGreatHartG
import Derived.OwnWalk
namespace Go.Proofs.YthnbdeibjbicpaaGreat.PM
set_option linter.unusedVariables false
set_option linter.unusedSimpArgs false
open Go.RowKit Go.Shelf Go.Lib
set_option maxRecDepth 100000 in
set_option maxHeartbeats 8000000 in
theorem rcopy_some (w : World) (pc : Nat) (R : Nat → Nat) (a : Addr) (cap why ep home : Nat) (S : List Nat) (h : Stk w (some a) S) (hn : S.length < 35184372088832) :
    Calls Tryz.prog 6 #[hv pc R (.slice (some a) S.length cap) why ep home] w fun e w' => Copied9 w pc R why ep home S e w' := by
  obtain ⟨ti, hi, hz0, hz1, hz2⟩ := info_parts info_u32
  obtain ⟨src, hsrc⟩ : ∃ src, src = some a := ⟨_, rfl⟩
  rw [← hsrc] at h
  have C := Lib.hid (((h.kept ((Below.refl _ w).alloc (Nat.le_refl _) (.cells #[.int .u32 (pc : Int), .int .u32 (R 0 : Int), .int .u32 (R 1 : Int), .int .u32 (R 2 : Int), .int .u32 (R 3 : Int), .int .u32 (R 4 : Int), .int .u32 (R 5 : Int), .int .u32 (R 6 : Int), .int .u32 (R 7 : Int), (.slice (some a) S.length cap), .int .u8 (why : Int), .int .u64 (ep : Int), .int .u32 (home : Int)] 30))).kept ((Below.refl _ _).alloc (Nat.le_refl _) (.cells #[.int .u32 0, .int .u32 0, .int .u32 0, .int .u32 0, .int .u32 0, .int .u32 0, .int .u32 0, .int .u32 0, .int .u32 0, .slice none 0 0, .int .u8 0, .int .u64 0, .int .u32 0] 30))).kept ((Below.refl _ _).alloc (Nat.le_refl _) (.cells #[] 23)))
  subst hsrc
  have HM : ((((w.alloc (.cells #[.int .u32 (pc : Int), .int .u32 (R 0 : Int), .int .u32 (R 1 : Int), .int .u32 (R 2 : Int), .int .u32 (R 3 : Int), .int .u32 (R 4 : Int), .int .u32 (R 5 : Int), .int .u32 (R 6 : Int), .int .u32 (R 7 : Int), (.slice (some a) S.length cap), .int .u8 (why : Int), .int .u64 (ep : Int), .int .u32 (home : Int)] 30)).alloc (.cells #[.int .u32 0, .int .u32 0, .int .u32 0, .int .u32 0, .int .u32 0, .int .u32 0, .int .u32 0, .int .u32 0, .int .u32 0, .slice none 0 0, .int .u8 0, .int .u64 0, .int .u32 0] 30)).alloc (.cells #[] 23))).ownsRow (w.heap.size + 2) 23 1 (.slice (some ⟨w.heap.size + 2, 0, none⟩) 0 0) 0 [] := by
    have := World.ownsRow_made (base := w.heap.size + 2) (e := 23) (size := 1) ((w.alloc (.cells #[.int .u32 (pc : Int), .int .u32 (R 0 : Int), .int .u32 (R 1 : Int), .int .u32 (R 2 : Int), .int .u32 (R 3 : Int), .int .u32 (R 4 : Int), .int .u32 (R 5 : Int), .int .u32 (R 6 : Int), .int .u32 (R 7 : Int), (.slice (some a) S.length cap), .int .u8 (why : Int), .int .u64 (ep : Int), .int .u32 (home : Int)] 30)).alloc (.cells #[.int .u32 0, .int .u32 0, .int .u32 0, .int .u32 0, .int .u32 0, .int .u32 0, .int .u32 0, .int .u32 0, .int .u32 0, .slice none 0 0, .int .u8 0, .int .u64 0, .int .u32 0] 30)) #[] 0 (by simp) (Nat.zero_le _) (by simp)
    simpa using this
  have K1 := Lib.hid (((Blk.new w 30 #[.int .u32 (pc : Int), .int .u32 (R 0 : Int), .int .u32 (R 1 : Int), .int .u32 (R 2 : Int), .int .u32 (R 3 : Int), .int .u32 (R 4 : Int), .int .u32 (R 5 : Int), .int .u32 (R 6 : Int), .int .u32 (R 7 : Int), (.slice (some a) S.length cap), .int .u8 (why : Int), .int .u64 (ep : Int), .int .u32 (home : Int)]).alloc (.cells #[.int .u32 0, .int .u32 0, .int .u32 0, .int .u32 0, .int .u32 0, .int .u32 0, .int .u32 0, .int .u32 0, .int .u32 0, .slice none 0 0, .int .u8 0, .int .u64 0, .int .u32 0] 30)).alloc (.cells #[] 23))
  have K2 := Lib.hid ((Blk.new (w.alloc (.cells #[.int .u32 (pc : Int), .int .u32 (R 0 : Int), .int .u32 (R 1 : Int), .int .u32 (R 2 : Int), .int .u32 (R 3 : Int), .int .u32 (R 4 : Int), .int .u32 (R 5 : Int), .int .u32 (R 6 : Int), .int .u32 (R 7 : Int), (.slice (some a) S.length cap), .int .u8 (why : Int), .int .u64 (ep : Int), .int .u32 (home : Int)] 30)) 30 #[.int .u32 0, .int .u32 0, .int .u32 0, .int .u32 0, .int .u32 0, .int .u32 0, .int .u32 0, .int .u32 0, .int .u32 0, .slice none 0 0, .int .u8 0, .int .u64 0, .int .u32 0]).alloc (.cells #[] 23))
  have B0 := Lib.hid ((((Below.refl _ w).alloc (Nat.le_refl _) (.cells #[.int .u32 (pc : Int), .int .u32 (R 0 : Int), .int .u32 (R 1 : Int), .int .u32 (R 2 : Int), .int .u32 (R 3 : Int), .int .u32 (R 4 : Int), .int .u32 (R 5 : Int), .int .u32 (R 6 : Int), .int .u32 (R 7 : Int), (.slice (some a) S.length cap), .int .u8 (why : Int), .int .u64 (ep : Int), .int .u32 (home : Int)] 30)).alloc (by simp) (.cells #[.int .u32 0, .int .u32 0, .int .u32 0, .int .u32 0, .int .u32 0, .int .u32 0, .int .u32 0, .int .u32 0, .int .u32 0, .slice none 0 0, .int .u8 0, .int .u64 0, .int .u32 0] 30)).alloc (by simp; omega) (.cells #[] 23))
  clear h
  unfold hv
  go_enter Tryz.func6, Tryz.ntmps6
  go_wp2_with (at_builtin; refine wpList_append_own _ rfl _ _ 22 rfl (w.heap.size + 2) 23 ti (.int .u32 0) 1 4 Tryz.underlying22 hi hz0 hz1 hz2 (by kernel_rfl) (by decide) _ _ _ rfl HM a S.length cap (u32s S) rfl ?qc1 ?qc2 ?qc3 ?qc4 ?qc5 ?qc6 ?_)
  case qc1 => simp [u32s]
  case qc2 =>
    intro j u hj
    unfold u32s at hj
    rw [List.getElem?_map] at hj
    have hjl : j < S.length := by
      rcases Nat.lt_or_ge j S.length with q | q
      · exact q
      · rw [List.getElem?_eq_none q] at hj; cases hj
    obtain ⟨b', f', e', _, hc⟩ := C.out j hjl
    obtain rfl : a = ⟨b', f', none⟩ := by injection e'
    rw [Addr.add_lit, hc, List.getElem!_eq_getElem?_getD]
    rw [List.getElem?_eq_getElem hjl] at hj ⊢
    exact hj
  case qc3 =>
    intro u hu
    obtain ⟨x, _, rfl⟩ := List.mem_map.1 hu
    rfl
  case qc4 => simp [maxLen]; omega
  case qc5 => omega
  case qc6 => simp
  intro v' w1 hown hgrow hnil
  have ow : Own w1 (w.heap.size + 2) v' S := by
    have := hown
    simpa [Own] using this
  obtain ⟨src2, cap2, rfl, _⟩ := ow.form
  have k1 : Blk w1 w.heap.size 30 #[.int .u32 (pc : Int), .int .u32 (R 0 : Int), .int .u32 (R 1 : Int), .int .u32 (R 2 : Int), .int .u32 (R 3 : Int), .int .u32 (R 4 : Int), .int .u32 (R 5 : Int), .int .u32 (R 6 : Int), .int .u32 (R 7 : Int), (.slice (some a) S.length cap), .int .u8 (why : Int), .int .u64 (ep : Int), .int .u32 (home : Int)] := (hgrow.block _ K1.out.lt (fun e => by injection e with e; (try simp at e); (try omega))).trans K1.out
  have k2 : Blk w1 (w.heap.size + 1) 30 #[.int .u32 0, .int .u32 0, .int .u32 0, .int .u32 0, .int .u32 0, .int .u32 0, .int .u32 0, .int .u32 0, .int .u32 0, .slice none 0 0, .int .u8 0, .int .u64 0, .int .u32 0] := by
    have e1 : (w.alloc (.cells #[.int .u32 (pc : Int), .int .u32 (R 0 : Int), .int .u32 (R 1 : Int), .int .u32 (R 2 : Int), .int .u32 (R 3 : Int), .int .u32 (R 4 : Int), .int .u32 (R 5 : Int), .int .u32 (R 6 : Int), .int .u32 (R 7 : Int), (.slice (some a) S.length cap), .int .u8 (why : Int), .int .u64 (ep : Int), .int .u32 (home : Int)] 30)).heap.size = w.heap.size + 1 := by simp
    have k := K2.out
    rw [e1] at k
    exact (hgrow.block _ k.lt (fun e => by injection e with e; (try simp at e); (try omega))).trans k
  have hbel : Below w.heap.size w w1 := B0.out.grown hgrow (by simp; omega) (by intro k hk; simp [Value.ownBlock] at hk; omega)
  obtain ⟨t0, ft0, t1, ft1, t2, ft2, t3, ft3, t4, ft4, t5, ft5, t6, ft6, t7, ft7, t8, ft8, t9, ft9, t10, ft10, t11, ft11, t12, ft12⟩ := blkf13 k1
  obtain ⟨z0, fz0, z1, fz1, z2, fz2, z3, fz3, z4, fz4, z5, fz5, z6, fz6, z7, fz7, z8, fz8, z9, fz9, z10, fz10, z11, fz11, z12, fz12⟩ := blkf13 k2
  have F : Hid (∀ u vs, Copied9 w pc R why ep home S (.returned (hv pc R (.slice src2 S.length cap2) why ep home)) ((w1.setCell ⟨w.heap.size, 9, none⟩ u).setCells (w.heap.size + 1) 0 vs)) := Lib.hid fun u vs => by
    have hg := fun k hk => (ow.lt k hk).1
    refine ⟨_, rfl, ((ow.upd ((Upd.refl w.heap.size w1).setCell 9 u) (fun e => by have := hg _ e; omega)).upd (upd_cells _ vs 0 _) (fun e => by have := hg _ e; omega)).mono (by omega), below_cells (by omega) vs 0 _ (Below.setCell hbel (p := ⟨w.heap.size, 9, none⟩) (Nat.le_refl _) u)⟩
  clear ow hown hgrow hnil k1 k2 K1 K2 B0 hbel C HM
  go_wp2_with fail
  unfold hv at F
  refine bodyPost_ret (v := .agg #[.int .u32 (pc : Int), .int .u32 (R 0 : Int), .int .u32 (R 1 : Int), .int .u32 (R 2 : Int), .int .u32 (R 3 : Int), .int .u32 (R 4 : Int), .int .u32 (R 5 : Int), .int .u32 (R 6 : Int), .int .u32 (R 7 : Int), (.slice src2 S.length cap2), .int .u8 (why : Int), .int .u64 (ep : Int), .int .u32 (home : Int)]) (by simp [results, Tryz.results6, go_sem, *]) rfl ?_
  exact F.out _ [.int .u32 (pc : Int), .int .u32 (R 0 : Int), .int .u32 (R 1 : Int), .int .u32 (R 2 : Int), .int .u32 (R 3 : Int), .int .u32 (R 4 : Int), .int .u32 (R 5 : Int), .int .u32 (R 6 : Int), .int .u32 (R 7 : Int), (.slice src2 S.length cap2), .int .u8 (why : Int), .int .u64 (ep : Int), .int .u32 (home : Int)]
end Go.Proofs.YthnbdeibjbicpaaGreat.PM

/- Contracts of budwoodref09's Copy, all; Same. Conditions: the cells. -/
namespace Go.Proofs.YthnbdeibjbicpaaGreat.PM
set_option linter.unusedVariables false
set_option linter.unusedSimpArgs false
open Go.RowKit Go.Shelf Go.Lib
set_option maxRecDepth 100000 in
set_option maxHeartbeats 8000000 in
theorem rcopy_none (w : World) (pc : Nat) (R : Nat → Nat) (cap why ep home : Nat) :
    Calls Tryz.prog 6 #[hv pc R (.slice none 0 cap) why ep home] w fun e w' => Copied9 w pc R why ep home [] e w' := by
  unfold hv
  have F : Hid (∀ cs1 cs2, Copied9 w pc R why ep home [] (.returned (hv pc R (.slice (some ⟨w.heap.size + 2, 0, none⟩) 0 0) why ep home)) (((w.alloc (.cells cs1 30)).alloc (.cells cs2 30)).alloc (.cells #[] 23))) := Lib.hid fun cs1 cs2 => by
    have hm := World.ownsRow_made (base := w.heap.size) (e := 23) (size := 1) ((w.alloc (.cells cs1 30)).alloc (.cells cs2 30)) #[] 0 (by simp; omega) (Nat.zero_le _) (by simp)
    refine ⟨_, rfl, ?_, (((Below.refl _ w).alloc (Nat.le_refl _) _).alloc (by simp) _).alloc (by simp; omega) _⟩
    unfold Own
    simpa [u32s] using hm
  go_enter Tryz.func6, Tryz.ntmps6
  go_wp2_with fail
  unfold hv at F
  refine bodyPost_ret (v := .agg #[.int .u32 (pc : Int), .int .u32 (R 0 : Int), .int .u32 (R 1 : Int), .int .u32 (R 2 : Int), .int .u32 (R 3 : Int), .int .u32 (R 4 : Int), .int .u32 (R 5 : Int), .int .u32 (R 6 : Int), .int .u32 (R 7 : Int), (.slice (some ⟨w.heap.size + 2, 0, none⟩) 0 0), .int .u8 (why : Int), .int .u64 (ep : Int), .int .u32 (home : Int)]) (by simp [results, Tryz.results6, go_sem, *]) rfl ?_
  exact F.out _ _
theorem rcopy_c (w : World) (pc : Nat) (R : Nat → Nat) (src : Option Addr) (cap why ep home : Nat) (S : List Nat) (h : Stk w src S) (hn : S.length < 35184372088832) :
    Calls Tryz.prog 6 #[hv pc R (.slice src S.length cap) why ep home] w fun e w' => Copied9 w pc R why ep home S e w' := by
  cases src with
  | some a => exact rcopy_some w pc R a cap why ep home S h hn
  | none =>
    have h0 : S.length = 0 := by
      rcases Nat.eq_zero_or_pos S.length with q | q
      · exact q
      · obtain ⟨_, _, e, _⟩ := h 0 q; cases e
    obtain rfl : S = [] := List.eq_nil_of_length_eq_zero h0
    exact rcopy_none w pc R cap why ep home
end Go.Proofs.YthnbdeibjbicpaaGreat.PM

/- Contract of budwoodref09's Same. Conditions: the cells. -/
namespace Go.Proofs.YthnbdeibjbicpaaGreat.PM
set_option linter.unusedVariables false
set_option linter.unusedSimpArgs false
open Go.RowKit
set_option maxRecDepth 100000 in
set_option maxHeartbeats 8000000 in
theorem rsame_h (w : World) (p1 : Nat) (R1 : Nat → Nat) (S1 : List Nat) (y1 e1 m1 : Nat) (p2 : Nat) (R2 : Nat → Nat) (S2 : List Nat) (y2 e2 m2 : Nat) (s1 s2 : Option Addr) (c1 c2 : Nat) (h1 : Stk w s1 S1) (h2 : Stk w s2 S2) (hn : S1.length < 35184372088832) :
    Calls Tryz.prog 9 #[hv p1 R1 (.slice s1 S1.length c1) y1 e1 m1, hv p2 R2 (.slice s2 S2.length c2) y2 e2 m2] w fun e w' => e = .returned (.bool (sameH p1 R1 S1 y1 e1 m1 p2 R2 S2 y2 e2 m2)) ∧ Below w.heap.size w w' := by
  have HE := fun W => eq8 W R1 R2
  have B2 : Hid (∀ A B, Below w.heap.size w ((w.alloc A).alloc B)) := Lib.hid fun A B => ((Below.refl _ w).alloc (Nat.le_refl _) _).alloc (by simp) _
  have H1 := Lib.hid h1
  have H2 := Lib.hid h2
  unfold sameH hv
  clear h1 h2
  obtain ⟨q6, hq6⟩ : ∃ q, decide (S1 = S2) = q := ⟨_, rfl⟩
  rw [hq6]
  have Q6 := Lib.hid hq6
  clear hq6
  generalize eqR R1 R2 = q2 at HE ⊢
  cases k1 : ((p1 : Int) == (p2 : Int))
  · have nk1 : ((p1 : Int) != (p2 : Int)) = true := by simp [bne, k1]
    go_enter Tryz.func9, Tryz.ntmps9
    go_wp2_with fail
    go_ret
    exact ⟨by simp, B2.out _ _⟩
  have nk1 : ((p1 : Int) != (p2 : Int)) = false := by simp [bne, k1]
  cases q2
  · skip
    go_enter Tryz.func9, Tryz.ntmps9
    go_wp2_with fail
    go_ret
    exact ⟨by simp, B2.out _ _⟩
  cases k3 : ((y1 : Int) == (y2 : Int))
  · have nk3 : ((y1 : Int) != (y2 : Int)) = true := by simp [bne, k3]
    go_enter Tryz.func9, Tryz.ntmps9
    go_wp2_with fail
    go_ret
    exact ⟨by simp, B2.out _ _⟩
  have nk3 : ((y1 : Int) != (y2 : Int)) = false := by simp [bne, k3]
  cases k4 : ((e1 : Int) == (e2 : Int))
  · have nk4 : ((e1 : Int) != (e2 : Int)) = true := by simp [bne, k4]
    go_enter Tryz.func9, Tryz.ntmps9
    go_wp2_with fail
    go_ret
    exact ⟨by simp, B2.out _ _⟩
  have nk4 : ((e1 : Int) != (e2 : Int)) = false := by simp [bne, k4]
  cases k5 : ((m1 : Int) == (m2 : Int))
  · have nk5 : ((m1 : Int) != (m2 : Int)) = true := by simp [bne, k5]
    go_enter Tryz.func9, Tryz.ntmps9
    go_wp2_with fail
    go_ret
    exact ⟨by simp, B2.out _ _⟩
  have nk5 : ((m1 : Int) != (m2 : Int)) = false := by simp [bne, k5]
  by_cases hnm : S1.length = S2.length
  rotate_left
  · have hz : ((S1.length : Int) != (S2.length : Int)) = true := by simp; omega
    have hd : q6 = false := by rw [← Q6.out]; exact decide_eq_false (fun e => hnm (by rw [e]))
    subst hd
    clear H1 H2 Q6
    generalize S1.length = n1 at hnm hz hn ⊢
    generalize S2.length = n2 at hnm hz ⊢
    go_enter Tryz.func9, Tryz.ntmps9
    go_wp2_with fail
    go_ret
    exact ⟨by simp, B2.out _ _⟩
  generalize hn1 : S1.length = n at hnm hn
  have N1 := Lib.hid hn1
  have N2 := Lib.hid hnm
  rw [← hnm]
  clear hn1 hnm
  have KA := Lib.hid ((Blk.new w 30 #[.int .u32 (p1 : Int), .int .u32 (R1 0 : Int), .int .u32 (R1 1 : Int), .int .u32 (R1 2 : Int), .int .u32 (R1 3 : Int), .int .u32 (R1 4 : Int), .int .u32 (R1 5 : Int), .int .u32 (R1 6 : Int), .int .u32 (R1 7 : Int), (.slice s1 n c1), .int .u8 (y1 : Int), .int .u64 (e1 : Int), .int .u32 (m1 : Int)]).alloc (.cells #[.int .u32 (p2 : Int), .int .u32 (R2 0 : Int), .int .u32 (R2 1 : Int), .int .u32 (R2 2 : Int), .int .u32 (R2 3 : Int), .int .u32 (R2 4 : Int), .int .u32 (R2 5 : Int), .int .u32 (R2 6 : Int), .int .u32 (R2 7 : Int), (.slice s2 n c2), .int .u8 (y2 : Int), .int .u64 (e2 : Int), .int .u32 (m2 : Int)] 30))
  have KB := Lib.hid (Blk.new (w.alloc (.cells #[.int .u32 (p1 : Int), .int .u32 (R1 0 : Int), .int .u32 (R1 1 : Int), .int .u32 (R1 2 : Int), .int .u32 (R1 3 : Int), .int .u32 (R1 4 : Int), .int .u32 (R1 5 : Int), .int .u32 (R1 6 : Int), .int .u32 (R1 7 : Int), (.slice s1 n c1), .int .u8 (y1 : Int), .int .u64 (e1 : Int), .int .u32 (m1 : Int)] 30)) 30 #[.int .u32 (p2 : Int), .int .u32 (R2 0 : Int), .int .u32 (R2 1 : Int), .int .u32 (R2 2 : Int), .int .u32 (R2 3 : Int), .int .u32 (R2 4 : Int), .int .u32 (R2 5 : Int), .int .u32 (R2 6 : Int), .int .u32 (R2 7 : Int), (.slice s2 n c2), .int .u8 (y2 : Int), .int .u64 (e2 : Int), .int .u32 (m2 : Int)])
  have sz : (w.alloc (.cells #[.int .u32 (p1 : Int), .int .u32 (R1 0 : Int), .int .u32 (R1 1 : Int), .int .u32 (R1 2 : Int), .int .u32 (R1 3 : Int), .int .u32 (R1 4 : Int), .int .u32 (R1 5 : Int), .int .u32 (R1 6 : Int), .int .u32 (R1 7 : Int), (.slice s1 n c1), .int .u8 (y1 : Int), .int .u64 (e1 : Int), .int .u32 (m1 : Int)] 30)).heap.size = w.heap.size + 1 := by simp
  rw [sz] at KB
  clear sz
  have X1 : Hid (Stk ((w.alloc (.cells #[.int .u32 (p1 : Int), .int .u32 (R1 0 : Int), .int .u32 (R1 1 : Int), .int .u32 (R1 2 : Int), .int .u32 (R1 3 : Int), .int .u32 (R1 4 : Int), .int .u32 (R1 5 : Int), .int .u32 (R1 6 : Int), .int .u32 (R1 7 : Int), (.slice s1 n c1), .int .u8 (y1 : Int), .int .u64 (e1 : Int), .int .u32 (m1 : Int)] 30)).alloc (.cells #[.int .u32 (p2 : Int), .int .u32 (R2 0 : Int), .int .u32 (R2 1 : Int), .int .u32 (R2 2 : Int), .int .u32 (R2 3 : Int), .int .u32 (R2 4 : Int), .int .u32 (R2 5 : Int), .int .u32 (R2 6 : Int), .int .u32 (R2 7 : Int), (.slice s2 n c2), .int .u8 (y2 : Int), .int .u64 (e2 : Int), .int .u32 (m2 : Int)] 30)) s1 S1) := Lib.hid ((H1.out.kept ((Below.refl _ w).alloc (Nat.le_refl _) _)).kept ((Below.refl _ _).alloc (Nat.le_refl _) _))
  have X2 : Hid (Stk ((w.alloc (.cells #[.int .u32 (p1 : Int), .int .u32 (R1 0 : Int), .int .u32 (R1 1 : Int), .int .u32 (R1 2 : Int), .int .u32 (R1 3 : Int), .int .u32 (R1 4 : Int), .int .u32 (R1 5 : Int), .int .u32 (R1 6 : Int), .int .u32 (R1 7 : Int), (.slice s1 n c1), .int .u8 (y1 : Int), .int .u64 (e1 : Int), .int .u32 (m1 : Int)] 30)).alloc (.cells #[.int .u32 (p2 : Int), .int .u32 (R2 0 : Int), .int .u32 (R2 1 : Int), .int .u32 (R2 2 : Int), .int .u32 (R2 3 : Int), .int .u32 (R2 4 : Int), .int .u32 (R2 5 : Int), .int .u32 (R2 6 : Int), .int .u32 (R2 7 : Int), (.slice s2 n c2), .int .u8 (y2 : Int), .int .u64 (e2 : Int), .int .u32 (m2 : Int)] 30)) s2 S2) := Lib.hid ((H2.out.kept ((Below.refl _ w).alloc (Nat.le_refl _) _)).kept ((Below.refl _ _).alloc (Nat.le_refl _) _))
  have BW := Lib.hid (B2.out (.cells #[.int .u32 (p1 : Int), .int .u32 (R1 0 : Int), .int .u32 (R1 1 : Int), .int .u32 (R1 2 : Int), .int .u32 (R1 3 : Int), .int .u32 (R1 4 : Int), .int .u32 (R1 5 : Int), .int .u32 (R1 6 : Int), .int .u32 (R1 7 : Int), (.slice s1 n c1), .int .u8 (y1 : Int), .int .u64 (e1 : Int), .int .u32 (m1 : Int)] 30) (.cells #[.int .u32 (p2 : Int), .int .u32 (R2 0 : Int), .int .u32 (R2 1 : Int), .int .u32 (R2 2 : Int), .int .u32 (R2 3 : Int), .int .u32 (R2 4 : Int), .int .u32 (R2 5 : Int), .int .u32 (R2 6 : Int), .int .u32 (R2 7 : Int), (.slice s2 n c2), .int .u8 (y2 : Int), .int .u64 (e2 : Int), .int .u32 (m2 : Int)] 30))
  generalize hW : (w.alloc (.cells #[.int .u32 (p1 : Int), .int .u32 (R1 0 : Int), .int .u32 (R1 1 : Int), .int .u32 (R1 2 : Int), .int .u32 (R1 3 : Int), .int .u32 (R1 4 : Int), .int .u32 (R1 5 : Int), .int .u32 (R1 6 : Int), .int .u32 (R1 7 : Int), (.slice s1 n c1), .int .u8 (y1 : Int), .int .u64 (e1 : Int), .int .u32 (m1 : Int)] 30)).alloc (.cells #[.int .u32 (p2 : Int), .int .u32 (R2 0 : Int), .int .u32 (R2 1 : Int), .int .u32 (R2 2 : Int), .int .u32 (R2 3 : Int), .int .u32 (R2 4 : Int), .int .u32 (R2 5 : Int), .int .u32 (R2 6 : Int), .int .u32 (R2 7 : Int), (.slice s2 n c2), .int .u8 (y2 : Int), .int .u64 (e2 : Int), .int .u32 (m2 : Int)] 30) = W at KA KB X1 X2 BW
  have KW := Lib.hid hW
  clear hW H1 H2 B2
  have a9 : W.cell? ⟨w.heap.size, 9, none⟩ = some (.slice s1 n c1) := KA.out.cell 9
  have b9 : W.cell? ⟨w.heap.size + 1, 9, none⟩ = some (.slice s2 n c2) := KB.out.cell 9
  go_enter Tryz.func9, Tryz.ntmps9
  go_wp2_with fail
  (try rw [KW.out])
  go_loopg [5] n (fun g s5 wr => ∃ kk q : Nat, kk ≤ n ∧ n - kk ≤ g ∧ s5 = .int .i64 (kk : Int) ∧ wr = W.drewN q ∧ Hid (∀ j, j < kk → S1[j]! = S2[j]!))
  case atStart => exact ⟨0, 0, Nat.zero_le _, by omega, rfl, rfl, Lib.hid fun j hj => absurd hj (Nat.not_lt_zero _)⟩
  case round =>
    obtain ⟨kk, q, hkk, hg, rfl, rfl, A⟩ := hrel
    have a9' : (W.drewN q).cell? ⟨w.heap.size, 9, none⟩ = some (.slice s1 n c1) := a9
    have b9' : (W.drewN q).cell? ⟨w.heap.size + 1, 9, none⟩ = some (.slice s2 n c2) := b9
    clear a9 b9
    by_cases hlt : kk < n
    · have hltz : (kk : Int) < (n : Int) := by omega
      obtain ⟨b1, o1, rfl, hl1, g1⟩ := X1.out kk (by rw [N1.out]; exact hlt)
      obtain ⟨b2, o2, rfl, hl2, g2⟩ := X2.out kk (by rw [← N2.out]; exact hlt)
      obtain ⟨x, hx⟩ : ∃ x, S1[kk]! = x := ⟨_, rfl⟩
      obtain ⟨y, hy⟩ : ∃ y, S2[kk]! = y := ⟨_, rfl⟩
      rw [hx] at g1
      rw [hy] at g2
      have g1 : (W.drewN q).cell? ⟨b1, o1 + kk, none⟩ = some (.int .u32 (x : Int)) := g1
      have g2 : (W.drewN q).cell? ⟨b2, o2 + kk, none⟩ = some (.int .u32 (y : Int)) := g2
      generalize hwq : W.drewN q = wq at g1 g2 a9' b9' ⊢
      have WQ := Lib.hid hwq
      have X := Lib.hid hx
      have Y := Lib.hid hy
      clear hx hy hwq
      cases hxy : ((x : Int) == (y : Int)) with
      | true =>
        have hne : ((x : Int) != (y : Int)) = false := by simp [bne, hxy]
        have E := Lib.hid hxy
        clear hxy
        go_wp2_with fail
        go_quiet (fail)
        go_wp2
        go_roundg (n - (kk + 1))
        case measure => omega
        case rel =>
          refine ⟨kk + 1, q + nq, by omega, by omega, by go_num, by rw [← WQ.out, World.drewN_drewN], Lib.hid fun j hj => ?_⟩
          by_cases e : j = kk
          · subst e
            rw [X.out, Y.out]
            have := E.out
            simp at this
            omega
          · exact A.out j (by omega)
      | false =>
        have hne : ((x : Int) != (y : Int)) = true := by simp [bne, hxy]
        have E := Lib.hid hxy
        have hd : q6 = false := by
          rw [← Q6.out]
          exact decide_eq_false (fun e => by
            have := E.out
            rw [← X.out, ← Y.out, e] at this
            simp at this)
        subst hd
        clear hxy
        go_wp2_with fail
        go_quiet (fail)
        go_wp2
        go_ret
        exact ⟨by rfl, by rw [← WQ.out]; exact below_drewN (below_drewN BW.out _) _⟩
    · have : kk = n := by omega
      subst this
      have hd : q6 = true := by rw [← Q6.out]; exact decide_eq_true (bang_ext (by rw [N1.out]; exact N2.out) (fun j hj => A.out j (by rw [N1.out] at hj; exact hj)))
      subst hd
      go_wp2
      go_ret
      exact ⟨by rfl, below_drewN BW.out _⟩
end Go.Proofs.YthnbdeibjbicpaaGreat.PM
