/- Contracts of budwoodref09's Copy, New, Same. Conditions: the cells. -/
import Derived.Test.YthnbdeibjbicpaaHartG
import Derived.OwnWalk
namespace Go.Proofs.Ythnbdeibjbicpaa.PM
set_option linter.unusedVariables false
set_option linter.unusedSimpArgs false
open Go.RowKit Go.Shelf Go.Lib
set_option maxRecDepth 100000 in
set_option maxHeartbeats 8000000 in
theorem rcopy_some (w : World) (pc : Nat) (R : Nat → Nat) (a : Addr) (cap why ep home : Nat) (S : List Nat) (h : Stk w (some a) S) (hn : S.length < 35184372088832) :
    Calls Try.prog 14 #[hv pc R (.slice (some a) S.length cap) why ep home] w fun e w' => Copied9 w pc R why ep home S e w' := by
  obtain ⟨ti, hi, hz0, hz1, hz2⟩ := info_parts info_u32
  obtain ⟨src, hsrc⟩ : ∃ src, src = some a := ⟨_, rfl⟩
  rw [← hsrc] at h
  have C := Lib.hid (((h.kept ((Below.refl _ w).alloc (Nat.le_refl _) (.cells #[.int .u32 (pc : Int), .int .u32 (R 0 : Int), .int .u32 (R 1 : Int), .int .u32 (R 2 : Int), .int .u32 (R 3 : Int), .int .u32 (R 4 : Int), .int .u32 (R 5 : Int), .int .u32 (R 6 : Int), .int .u32 (R 7 : Int), (.slice (some a) S.length cap), .int .u8 (why : Int), .int .u64 (ep : Int), .int .u32 (home : Int)] 28))).kept ((Below.refl _ _).alloc (Nat.le_refl _) (.cells #[.int .u32 0, .int .u32 0, .int .u32 0, .int .u32 0, .int .u32 0, .int .u32 0, .int .u32 0, .int .u32 0, .int .u32 0, .slice none 0 0, .int .u8 0, .int .u64 0, .int .u32 0] 28))).kept ((Below.refl _ _).alloc (Nat.le_refl _) (.cells #[] 22)))
  subst hsrc
  have HM : ((((w.alloc (.cells #[.int .u32 (pc : Int), .int .u32 (R 0 : Int), .int .u32 (R 1 : Int), .int .u32 (R 2 : Int), .int .u32 (R 3 : Int), .int .u32 (R 4 : Int), .int .u32 (R 5 : Int), .int .u32 (R 6 : Int), .int .u32 (R 7 : Int), (.slice (some a) S.length cap), .int .u8 (why : Int), .int .u64 (ep : Int), .int .u32 (home : Int)] 28)).alloc (.cells #[.int .u32 0, .int .u32 0, .int .u32 0, .int .u32 0, .int .u32 0, .int .u32 0, .int .u32 0, .int .u32 0, .int .u32 0, .slice none 0 0, .int .u8 0, .int .u64 0, .int .u32 0] 28)).alloc (.cells #[] 22))).ownsRow (w.heap.size + 2) 22 1 (.slice (some ⟨w.heap.size + 2, 0, none⟩) 0 0) 0 [] := by
    have := World.ownsRow_made (base := w.heap.size + 2) (e := 22) (size := 1) ((w.alloc (.cells #[.int .u32 (pc : Int), .int .u32 (R 0 : Int), .int .u32 (R 1 : Int), .int .u32 (R 2 : Int), .int .u32 (R 3 : Int), .int .u32 (R 4 : Int), .int .u32 (R 5 : Int), .int .u32 (R 6 : Int), .int .u32 (R 7 : Int), (.slice (some a) S.length cap), .int .u8 (why : Int), .int .u64 (ep : Int), .int .u32 (home : Int)] 28)).alloc (.cells #[.int .u32 0, .int .u32 0, .int .u32 0, .int .u32 0, .int .u32 0, .int .u32 0, .int .u32 0, .int .u32 0, .int .u32 0, .slice none 0 0, .int .u8 0, .int .u64 0, .int .u32 0] 28)) #[] 0 (by simp) (Nat.zero_le _) (by simp)
    simpa using this
  have K1 := Lib.hid (((Blk.new w 28 #[.int .u32 (pc : Int), .int .u32 (R 0 : Int), .int .u32 (R 1 : Int), .int .u32 (R 2 : Int), .int .u32 (R 3 : Int), .int .u32 (R 4 : Int), .int .u32 (R 5 : Int), .int .u32 (R 6 : Int), .int .u32 (R 7 : Int), (.slice (some a) S.length cap), .int .u8 (why : Int), .int .u64 (ep : Int), .int .u32 (home : Int)]).alloc (.cells #[.int .u32 0, .int .u32 0, .int .u32 0, .int .u32 0, .int .u32 0, .int .u32 0, .int .u32 0, .int .u32 0, .int .u32 0, .slice none 0 0, .int .u8 0, .int .u64 0, .int .u32 0] 28)).alloc (.cells #[] 22))
  have K2 := Lib.hid ((Blk.new (w.alloc (.cells #[.int .u32 (pc : Int), .int .u32 (R 0 : Int), .int .u32 (R 1 : Int), .int .u32 (R 2 : Int), .int .u32 (R 3 : Int), .int .u32 (R 4 : Int), .int .u32 (R 5 : Int), .int .u32 (R 6 : Int), .int .u32 (R 7 : Int), (.slice (some a) S.length cap), .int .u8 (why : Int), .int .u64 (ep : Int), .int .u32 (home : Int)] 28)) 28 #[.int .u32 0, .int .u32 0, .int .u32 0, .int .u32 0, .int .u32 0, .int .u32 0, .int .u32 0, .int .u32 0, .int .u32 0, .slice none 0 0, .int .u8 0, .int .u64 0, .int .u32 0]).alloc (.cells #[] 22))
  have B0 := Lib.hid ((((Below.refl _ w).alloc (Nat.le_refl _) (.cells #[.int .u32 (pc : Int), .int .u32 (R 0 : Int), .int .u32 (R 1 : Int), .int .u32 (R 2 : Int), .int .u32 (R 3 : Int), .int .u32 (R 4 : Int), .int .u32 (R 5 : Int), .int .u32 (R 6 : Int), .int .u32 (R 7 : Int), (.slice (some a) S.length cap), .int .u8 (why : Int), .int .u64 (ep : Int), .int .u32 (home : Int)] 28)).alloc (by simp) (.cells #[.int .u32 0, .int .u32 0, .int .u32 0, .int .u32 0, .int .u32 0, .int .u32 0, .int .u32 0, .int .u32 0, .int .u32 0, .slice none 0 0, .int .u8 0, .int .u64 0, .int .u32 0] 28)).alloc (by simp; omega) (.cells #[] 22))
  clear h
  unfold hv
  go_enter Try.func14, Try.ntmps14
  go_wp2_with (at_builtin; refine wpList_append_own _ rfl _ _ 24 rfl (w.heap.size + 2) 22 ti (.int .u32 0) 1 4 Try.underlying24 hi hz0 hz1 hz2 (by kernel_rfl) (by decide) _ _ _ rfl HM a S.length cap (u32s S) rfl ?qc1 ?qc2 ?qc3 ?qc4 ?qc5 ?qc6 ?_)
  case qc1 => simp [u32s]
  case qc2 =>
    intro j u hj
    unfold u32s at hj
    rw [List.getElem?_map] at hj
    have hjl : j < S.length := by
      rcases Nat.lt_or_ge j S.length with q | q
      · exact q
      · rw [List.getElem?_eq_none q] at hj; cases hj
    obtain ⟨b', f', e', _, hc⟩ := C.out j hjl
    obtain rfl : a = ⟨b', f', none⟩ := by injection e'
    rw [Addr.add_lit, hc, List.getElem!_eq_getElem?_getD]
    rw [List.getElem?_eq_getElem hjl] at hj ⊢
    exact hj
  case qc3 =>
    intro u hu
    obtain ⟨x, _, rfl⟩ := List.mem_map.1 hu
    rfl
  case qc4 => simp [maxLen]; omega
  case qc5 => omega
  case qc6 => simp
  intro v' w1 hown hgrow hnil
  have ow : Own w1 (w.heap.size + 2) v' S := by
    have := hown
    simpa [Own] using this
  obtain ⟨src2, cap2, rfl, _⟩ := ow.form
  have k1 : Blk w1 w.heap.size 28 #[.int .u32 (pc : Int), .int .u32 (R 0 : Int), .int .u32 (R 1 : Int), .int .u32 (R 2 : Int), .int .u32 (R 3 : Int), .int .u32 (R 4 : Int), .int .u32 (R 5 : Int), .int .u32 (R 6 : Int), .int .u32 (R 7 : Int), (.slice (some a) S.length cap), .int .u8 (why : Int), .int .u64 (ep : Int), .int .u32 (home : Int)] := (hgrow.block _ K1.out.lt (fun e => by injection e with e; (try simp at e); (try omega))).trans K1.out
  have k2 : Blk w1 (w.heap.size + 1) 28 #[.int .u32 0, .int .u32 0, .int .u32 0, .int .u32 0, .int .u32 0, .int .u32 0, .int .u32 0, .int .u32 0, .int .u32 0, .slice none 0 0, .int .u8 0, .int .u64 0, .int .u32 0] := by
    have e1 : (w.alloc (.cells #[.int .u32 (pc : Int), .int .u32 (R 0 : Int), .int .u32 (R 1 : Int), .int .u32 (R 2 : Int), .int .u32 (R 3 : Int), .int .u32 (R 4 : Int), .int .u32 (R 5 : Int), .int .u32 (R 6 : Int), .int .u32 (R 7 : Int), (.slice (some a) S.length cap), .int .u8 (why : Int), .int .u64 (ep : Int), .int .u32 (home : Int)] 28)).heap.size = w.heap.size + 1 := by simp
    have k := K2.out
    rw [e1] at k
    exact (hgrow.block _ k.lt (fun e => by injection e with e; (try simp at e); (try omega))).trans k
  have hbel : Below w.heap.size w w1 := B0.out.grown hgrow (by simp; omega) (by intro k hk; simp [Value.ownBlock] at hk; omega)
  have t0 : w1.cell? ⟨w.heap.size, 0, none⟩ = some (.int .u32 (pc : Int)) := k1.cell 0
  have ft0 : w1.frozen? ⟨w.heap.size, 0, none⟩ = false := k1.frozen 0
  have t1 : w1.cell? ⟨w.heap.size, 1, none⟩ = some (.int .u32 (R 0 : Int)) := k1.cell 1
  have ft1 : w1.frozen? ⟨w.heap.size, 1, none⟩ = false := k1.frozen 1
  have t2 : w1.cell? ⟨w.heap.size, 2, none⟩ = some (.int .u32 (R 1 : Int)) := k1.cell 2
  have ft2 : w1.frozen? ⟨w.heap.size, 2, none⟩ = false := k1.frozen 2
  have t3 : w1.cell? ⟨w.heap.size, 3, none⟩ = some (.int .u32 (R 2 : Int)) := k1.cell 3
  have ft3 : w1.frozen? ⟨w.heap.size, 3, none⟩ = false := k1.frozen 3
  have t4 : w1.cell? ⟨w.heap.size, 4, none⟩ = some (.int .u32 (R 3 : Int)) := k1.cell 4
  have ft4 : w1.frozen? ⟨w.heap.size, 4, none⟩ = false := k1.frozen 4
  have t5 : w1.cell? ⟨w.heap.size, 5, none⟩ = some (.int .u32 (R 4 : Int)) := k1.cell 5
  have ft5 : w1.frozen? ⟨w.heap.size, 5, none⟩ = false := k1.frozen 5
  have t6 : w1.cell? ⟨w.heap.size, 6, none⟩ = some (.int .u32 (R 5 : Int)) := k1.cell 6
  have ft6 : w1.frozen? ⟨w.heap.size, 6, none⟩ = false := k1.frozen 6
  have t7 : w1.cell? ⟨w.heap.size, 7, none⟩ = some (.int .u32 (R 6 : Int)) := k1.cell 7
  have ft7 : w1.frozen? ⟨w.heap.size, 7, none⟩ = false := k1.frozen 7
  have t8 : w1.cell? ⟨w.heap.size, 8, none⟩ = some (.int .u32 (R 7 : Int)) := k1.cell 8
  have ft8 : w1.frozen? ⟨w.heap.size, 8, none⟩ = false := k1.frozen 8
  have t9 : w1.cell? ⟨w.heap.size, 9, none⟩ = some ((.slice (some a) S.length cap)) := k1.cell 9
  have ft9 : w1.frozen? ⟨w.heap.size, 9, none⟩ = false := k1.frozen 9
  have t10 : w1.cell? ⟨w.heap.size, 10, none⟩ = some (.int .u8 (why : Int)) := k1.cell 10
  have ft10 : w1.frozen? ⟨w.heap.size, 10, none⟩ = false := k1.frozen 10
  have t11 : w1.cell? ⟨w.heap.size, 11, none⟩ = some (.int .u64 (ep : Int)) := k1.cell 11
  have ft11 : w1.frozen? ⟨w.heap.size, 11, none⟩ = false := k1.frozen 11
  have t12 : w1.cell? ⟨w.heap.size, 12, none⟩ = some (.int .u32 (home : Int)) := k1.cell 12
  have ft12 : w1.frozen? ⟨w.heap.size, 12, none⟩ = false := k1.frozen 12
  have z0 : w1.cell? ⟨w.heap.size + 1, 0, none⟩ = some (.int .u32 0) := k2.cell 0
  have fz0 : w1.frozen? ⟨w.heap.size + 1, 0, none⟩ = false := k2.frozen 0
  have z1 : w1.cell? ⟨w.heap.size + 1, 1, none⟩ = some (.int .u32 0) := k2.cell 1
  have fz1 : w1.frozen? ⟨w.heap.size + 1, 1, none⟩ = false := k2.frozen 1
  have z2 : w1.cell? ⟨w.heap.size + 1, 2, none⟩ = some (.int .u32 0) := k2.cell 2
  have fz2 : w1.frozen? ⟨w.heap.size + 1, 2, none⟩ = false := k2.frozen 2
  have z3 : w1.cell? ⟨w.heap.size + 1, 3, none⟩ = some (.int .u32 0) := k2.cell 3
  have fz3 : w1.frozen? ⟨w.heap.size + 1, 3, none⟩ = false := k2.frozen 3
  have z4 : w1.cell? ⟨w.heap.size + 1, 4, none⟩ = some (.int .u32 0) := k2.cell 4
  have fz4 : w1.frozen? ⟨w.heap.size + 1, 4, none⟩ = false := k2.frozen 4
  have z5 : w1.cell? ⟨w.heap.size + 1, 5, none⟩ = some (.int .u32 0) := k2.cell 5
  have fz5 : w1.frozen? ⟨w.heap.size + 1, 5, none⟩ = false := k2.frozen 5
  have z6 : w1.cell? ⟨w.heap.size + 1, 6, none⟩ = some (.int .u32 0) := k2.cell 6
  have fz6 : w1.frozen? ⟨w.heap.size + 1, 6, none⟩ = false := k2.frozen 6
  have z7 : w1.cell? ⟨w.heap.size + 1, 7, none⟩ = some (.int .u32 0) := k2.cell 7
  have fz7 : w1.frozen? ⟨w.heap.size + 1, 7, none⟩ = false := k2.frozen 7
  have z8 : w1.cell? ⟨w.heap.size + 1, 8, none⟩ = some (.int .u32 0) := k2.cell 8
  have fz8 : w1.frozen? ⟨w.heap.size + 1, 8, none⟩ = false := k2.frozen 8
  have z9 : w1.cell? ⟨w.heap.size + 1, 9, none⟩ = some (.slice none 0 0) := k2.cell 9
  have fz9 : w1.frozen? ⟨w.heap.size + 1, 9, none⟩ = false := k2.frozen 9
  have z10 : w1.cell? ⟨w.heap.size + 1, 10, none⟩ = some (.int .u8 0) := k2.cell 10
  have fz10 : w1.frozen? ⟨w.heap.size + 1, 10, none⟩ = false := k2.frozen 10
  have z11 : w1.cell? ⟨w.heap.size + 1, 11, none⟩ = some (.int .u64 0) := k2.cell 11
  have fz11 : w1.frozen? ⟨w.heap.size + 1, 11, none⟩ = false := k2.frozen 11
  have z12 : w1.cell? ⟨w.heap.size + 1, 12, none⟩ = some (.int .u32 0) := k2.cell 12
  have fz12 : w1.frozen? ⟨w.heap.size + 1, 12, none⟩ = false := k2.frozen 12
  have F : Hid (∀ u vs, Copied9 w pc R why ep home S (.returned (hv pc R (.slice src2 S.length cap2) why ep home)) ((w1.setCell ⟨w.heap.size, 9, none⟩ u).setCells (w.heap.size + 1) 0 vs)) := Lib.hid fun u vs => by
    have hg := fun k hk => (ow.lt k hk).1
    refine ⟨_, rfl, ((ow.upd ((Upd.refl w.heap.size w1).setCell 9 u) (fun e => by have := hg _ e; omega)).upd (upd_cells _ vs 0 _) (fun e => by have := hg _ e; omega)).mono (by omega), below_cells (by omega) vs 0 _ (Below.setCell hbel (p := ⟨w.heap.size, 9, none⟩) (Nat.le_refl _) u)⟩
  clear ow hown hgrow hnil k1 k2 K1 K2 B0 hbel C HM
  go_wp2_with fail
  unfold hv at F
  refine bodyPost_ret (v := .agg #[.int .u32 (pc : Int), .int .u32 (R 0 : Int), .int .u32 (R 1 : Int), .int .u32 (R 2 : Int), .int .u32 (R 3 : Int), .int .u32 (R 4 : Int), .int .u32 (R 5 : Int), .int .u32 (R 6 : Int), .int .u32 (R 7 : Int), (.slice src2 S.length cap2), .int .u8 (why : Int), .int .u64 (ep : Int), .int .u32 (home : Int)]) (by simp [results, Try.results14, go_sem, *]) rfl ?_
  exact F.out _ [.int .u32 (pc : Int), .int .u32 (R 0 : Int), .int .u32 (R 1 : Int), .int .u32 (R 2 : Int), .int .u32 (R 3 : Int), .int .u32 (R 4 : Int), .int .u32 (R 5 : Int), .int .u32 (R 6 : Int), .int .u32 (R 7 : Int), (.slice src2 S.length cap2), .int .u8 (why : Int), .int .u64 (ep : Int), .int .u32 (home : Int)]
set_option maxRecDepth 100000 in
theorem rhnew_c (w : World) (n : Nat) : Calls Try.prog 13 #[.int .u32 (n : Int)] w fun e w' => e = .returned (hnewv n) ∧ Below w.heap.size w w' := by
  have F : Hid (∀ cs, Below w.heap.size w (w.alloc (.cells cs 28))) := Lib.hid fun cs => (Below.refl _ w).alloc (Nat.le_refl _) _
  go_enter Try.func13, Try.ntmps13
  go_wp2_with fail
  refine bodyPost_ret (v := .agg #[.int .u32 (n : Int), .int .u32 0, .int .u32 0, .int .u32 0, .int .u32 0, .int .u32 0, .int .u32 0, .int .u32 0, .int .u32 0, .slice none 0 0, .int .u8 0, .int .u64 0, .int .u32 (n : Int)]) (by simp [results, Try.results13, go_sem, *]) rfl ?_
  exact ⟨rfl, F.out _⟩
end Go.Proofs.Ythnbdeibjbicpaa.PM
