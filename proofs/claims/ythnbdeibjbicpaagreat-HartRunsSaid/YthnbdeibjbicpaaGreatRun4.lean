/- HartRuns' two copies, in whatever order. Conditions: the cells. -/
import Derived.Test.YthnbdeibjbicpaaGreatRunI
import Derived.Test.YthnbdeibjbicpaaGreatKHartR
import Derived.Deep.Cut
import Derived.Deep.RegionWith
import Derived.Deep.RegionHeld3
namespace Go.Proofs.YthnbdeibjbicpaaGreat.PM
set_option linter.unusedVariables false
set_option linter.unusedSimpArgs false
open Go.RowKit
theorem with_fact {P Q : Prop} (h : P) (k : P → Q) : Q := k h
theorem bel_al {w W : World} (a : Below w.heap.size w W) (o : Obj) : Below w.heap.size w (W.alloc o) := a.alloc a.size o
theorem bel_st {w W : World} {g i : Nat} (a : Below w.heap.size w W) (h : w.heap.size ≤ g) (v : Value) : Below w.heap.size w (W.setCell ⟨g, i, none⟩ v) := a.setCell h v
theorem bel_dr {w W : World} (a : Below w.heap.size w W) : Below w.heap.size w W.drew := a.drew
theorem blk_2nd (w : World) (o : Obj) (t : TypeId) (cs : Array Value) : Blk ((w.alloc o).alloc (.cells cs t)) (w.heap.size + 1) t cs := by
  have k := Blk.new (w.alloc o) t cs
  have e : (w.alloc o).heap.size = w.heap.size + 1 := by simp
  rw [e] at k
  exact k
/-- The region of a number. -/
def theRegion (n : Nat) : Code → Option Code
  | .region k ops b => if k = n then some (.region k ops b) else none
  | .loop c => theRegion n c
  | .block _ c => theRegion n c
  | .scope c => theRegion n c
  | .seq a b => match theRegion n a with
    | some c => some c
    | none => theRegion n b
  | .cond _ a b => match theRegion n a with
    | some c => some c
    | none => theRegion n b
  | _ => none
set_option maxRecDepth 1000000 in
noncomputable def copies : Code := ((Tryz.f4.body.bind (theRegion 4)).getD .skip)
set_option maxRecDepth 100000 in
set_option maxHeartbeats 16000000 in
theorem reg4_c (w X1 : World) (p0 : Nat) (R0 : Nat → Nat) (s : Option Addr) (S0 : List Nat) (c y0 ep0 hm : Nat) (M g h c' d cd b e a8 : Nat) (G : Nat → Nat) (T : List Page) (L : List Nat) (rc : Array Value) (n1 : S0.length < 35184372088832) (hS : Stk w s S0) (kh : Blk X1 (w.heap.size + 1) 30 #[.int .u32 (p0 : Int), .int .u32 (R0 0 : Int), .int .u32 (R0 1 : Int), .int .u32 (R0 2 : Int), .int .u32 (R0 3 : Int), .int .u32 (R0 4 : Int), .int .u32 (R0 5 : Int), .int .u32 (R0 6 : Int), .int .u32 (R0 7 : Int), .slice s S0.length c, .int .u8 (y0 : Int), .int .u64 (ep0 : Int), .int .u32 (hm : Int)]) (bs : BS w X1 M g h c' d cd b e a8 G T L rc)
    (K : Act → World → Prop) (Q : Exit → Act → World → Prop) (c0 c1 c2 c3 c5 c6 c7 c8 c9 c10 c11 c12 c13 c14 c15 c16 c17 c18 c19 c20 c21 c22 c23 c24 c25 c26 c27 c28 c29 c30 c31 c32 c33 c34 c35 c36 c37 c38 c39 c40 c41 c42 c43 c44 c45 c46 c47 c48 c49 c50 c51 c52 c53 c54 c55 c56 c57 c58 c59 c60 c61 c62 c63 c64 c65 c66 c67 c68 c69 c70 c71 c72 : Value)
    (hK : ∀ (a9 a10 : Nat) (W : World) (u23 u24 u25 u26 : Value), (∃ (sx : Option Addr) (cx : Nat) (sy : Option Addr) (cy : Nat), HR w W (a8 + 1) M g h c' d cd b e a8 a9 a10 G T L L #[.int .u32 (p0 : Int), .int .u32 (R0 0 : Int), .int .u32 (R0 1 : Int), .int .u32 (R0 2 : Int), .int .u32 (R0 3 : Int), .int .u32 (R0 4 : Int), .int .u32 (R0 5 : Int), .int .u32 (R0 6 : Int), .int .u32 (R0 7 : Int), .slice sx S0.length cx, .int .u8 (y0 : Int), .int .u64 (ep0 : Int), .int .u32 (hm : Int)] #[.int .u32 (p0 : Int), .int .u32 (R0 0 : Int), .int .u32 (R0 1 : Int), .int .u32 (R0 2 : Int), .int .u32 (R0 3 : Int), .int .u32 (R0 4 : Int), .int .u32 (R0 5 : Int), .int .u32 (R0 6 : Int), .int .u32 (R0 7 : Int), .slice sy S0.length cy, .int .u8 (y0 : Int), .int .u64 (ep0 : Int), .int .u32 (hm : Int)] rc (.slice sx S0.length cx) S0 (.slice sy S0.length cy) S0) → K ⟨#[c0, c1, c2, c3, (.pointer (some ⟨(w.heap.size + 1), 0, none⟩)), c5, c6, c7, c8, (.pointer (some ⟨a9, 0, none⟩)), (.pointer (some ⟨a10, 0, none⟩)), c11, c12, c13, c14, c15, c16, c17, c18, c19, c20, c21, c22, u23, u24, u25, u26, c27, c28, c29, c30, c31, c32, c33, c34, c35, c36, c37, c38, c39, c40, c41, c42, c43, c44, c45, c46, c47, c48, c49, c50, c51, c52, c53, c54, c55, c56, c57, c58, c59, c60, c61, c62, c63, c64, c65, c66, c67, c68, c69, c70, c71, c72], []⟩ W) :
    Code.wp Tryz.prog copies (Exit.then K Q) ⟨#[c0, c1, c2, c3, (.pointer (some ⟨(w.heap.size + 1), 0, none⟩)), c5, c6, c7, c8, c9, c10, c11, c12, c13, c14, c15, c16, c17, c18, c19, c20, c21, c22, c23, c24, c25, c26, c27, c28, c29, c30, c31, c32, c33, c34, c35, c36, c37, c38, c39, c40, c41, c42, c43, c44, c45, c46, c47, c48, c49, c50, c51, c52, c53, c54, c55, c56, c57, c58, c59, c60, c61, c62, c63, c64, c65, c66, c67, c68, c69, c70, c71, c72], []⟩ X1 := by
  have CC : ∀ W, Stk W s S0 → Calls Tryz.prog 6 #[.agg #[.int .u32 (p0 : Int), .int .u32 (R0 0 : Int), .int .u32 (R0 1 : Int), .int .u32 (R0 2 : Int), .int .u32 (R0 3 : Int), .int .u32 (R0 4 : Int), .int .u32 (R0 5 : Int), .int .u32 (R0 6 : Int), .int .u32 (R0 7 : Int), .slice s S0.length c, .int .u8 (y0 : Int), .int .u64 (ep0 : Int), .int .u32 (hm : Int)]] W fun e w' => Copied9 W p0 R0 y0 ep0 hm S0 e w' := fun W q => rcopy_c W p0 R0 s c y0 ep0 hm S0 q n1
  have B1 := Lib.hid bs.bel
  have ZX := Lib.hid bs.z
  have BSX := Lib.hid bs
  have KH1 := Lib.hid kh
  have HS := Lib.hid hS
  replace CC := Lib.hid CC
  have HK := Lib.hid hK
  clear hK bs kh hS n1
  obtain ⟨t0, t1, t2, t3, t4, t5, t6, t7, t8, t9, t10, t11, t12⟩ := blkc13 KH1.out
  conv => arg 2; whnf
  have tok1 : True := trivial
  have BVX : Hid (Below X1.heap.size X1 X1.drew) := Lib.hid (below_drewN (Below.refl _ X1) 1)
  have BVY : Hid (Below X1.heap.size X1 (X1.drewN 1)) := Lib.hid (below_drewN (Below.refl _ X1) 1)
  have B1' : Hid (∀ W, Below X1.heap.size X1 W → Stk W s S0) := Lib.hid fun W k => HS.out.kept (B1.out.trans (k.mono B1.out.size))
  go_region_held3 (fun w' => w'.cell? ⟨(w.heap.size + 1), 0, none⟩ = some (.int .u32 (p0 : Int)) ∧ w'.cell? ⟨(w.heap.size + 1), 1, none⟩ = some (.int .u32 (R0 0 : Int)) ∧ w'.cell? ⟨(w.heap.size + 1), 2, none⟩ = some (.int .u32 (R0 1 : Int)) ∧ w'.cell? ⟨(w.heap.size + 1), 3, none⟩ = some (.int .u32 (R0 2 : Int)) ∧ w'.cell? ⟨(w.heap.size + 1), 4, none⟩ = some (.int .u32 (R0 3 : Int)) ∧ w'.cell? ⟨(w.heap.size + 1), 5, none⟩ = some (.int .u32 (R0 4 : Int)) ∧ w'.cell? ⟨(w.heap.size + 1), 6, none⟩ = some (.int .u32 (R0 5 : Int)) ∧ w'.cell? ⟨(w.heap.size + 1), 7, none⟩ = some (.int .u32 (R0 6 : Int)) ∧ w'.cell? ⟨(w.heap.size + 1), 8, none⟩ = some (.int .u32 (R0 7 : Int)) ∧ w'.cell? ⟨(w.heap.size + 1), 9, none⟩ = some (.slice s S0.length c) ∧ w'.cell? ⟨(w.heap.size + 1), 10, none⟩ = some (.int .u8 (y0 : Int)) ∧ w'.cell? ⟨(w.heap.size + 1), 11, none⟩ = some (.int .u64 (ep0 : Int)) ∧ w'.cell? ⟨(w.heap.size + 1), 12, none⟩ = some (.int .u32 (hm : Int))) ((with_reducible (refine blkc13 (KH1.out.kept ?_); (repeat (first | exact BV2.out | exact BV1.out | exact BVX.out | exact BVY.out | (refine bel_al ?_ _) | (refine bel_dr ?_) | exact Below.refl _ _ | (refine bel_st ?_ ?_ _; rotate_left; omega))); done))) (first
      | (go_at_call 6; have _t := tok1; (with_reducible refine (CC.out _ (B1'.out _ ?_)).mono ?_); (with_reducible (repeat (first | exact BV2.out | exact BV1.out | exact BVX.out | exact BVY.out | (refine bel_al ?_ _) | (refine bel_dr ?_) | exact Below.refl _ _ | (refine bel_st ?_ ?_ _; rotate_left; omega)))); rintro en v1 ⟨v, rfl, ow1, hb1⟩; obtain ⟨s5, c5, rfl, _⟩ := ow1.form; have OW1 := Lib.hid ow1; have BV1 : Hid (Below X1.heap.size X1 v1) := Lib.hid (bel_tr (by with_reducible (repeat (first | exact BV2.out | exact BV1.out | exact BVX.out | exact BVY.out | (refine bel_al ?_ _) | (refine bel_dr ?_) | exact Below.refl _ _ | (refine bel_st ?_ ?_ _; rotate_left; omega)))) hb1); have q1 := BV1.out.size; (try (refine with_fact (P := Hid (Blk v1 X1.heap.size 30 #[.int .u32 0, .int .u32 0, .int .u32 0, .int .u32 0, .int .u32 0, .int .u32 0, .int .u32 0, .int .u32 0, .int .u32 0, .slice none 0 0, .int .u8 0, .int .u64 0, .int .u32 0])) ?_ ?_; (focus (refine Lib.hid (Blk.kept ?_ hb1); (with_reducible (first | exact Blk.new _ _ _ | exact (Blk.new _ _ _).alloc _ | exact (Blk.new _ _ _).drew | exact ((Blk.new _ _ _).alloc _).drew)); done)); intro KA1)); (try (refine with_fact (P := Hid (Blk v1 (X1.heap.size + 1) 30 #[.int .u32 0, .int .u32 0, .int .u32 0, .int .u32 0, .int .u32 0, .int .u32 0, .int .u32 0, .int .u32 0, .int .u32 0, .slice none 0 0, .int .u8 0, .int .u64 0, .int .u32 0])) ?_ ?_; (focus (refine Lib.hid (Blk.kept ?_ hb1); (with_reducible (first | exact blk_2nd _ _ _ _ | exact (blk_2nd _ _ _ _).drew)); done)); intro KB1x)); (try (refine with_fact KA1.out.lt ?_; intro lxa; refine with_fact (blkf13 KA1.out) ?_; rintro ⟨xa0, fxa0, xa1, fxa1, xa2, fxa2, xa3, fxa3, xa4, fxa4, xa5, fxa5, xa6, fxa6, xa7, fxa7, xa8, fxa8, xa9, fxa9, xa10, fxa10, xa11, fxa11, xa12, fxa12⟩)); (try (refine with_fact KB1x.out.lt ?_; intro lxb; refine with_fact (blkf13 KB1x.out) ?_; rintro ⟨xb0, fxb0, xb1, fxb1, xb2, fxb2, xb3, fxb3, xb4, fxb4, xb5, fxb5, xb6, fxb6, xb7, fxb7, xb8, fxb8, xb9, fxb9, xb10, fxb10, xb11, fxb11, xb12, fxb12⟩)); clear ow1 tok1 _t hb1; unfold hv)
      | (go_at_call 6; (with_reducible refine (CC.out _ (B1'.out _ ?_)).mono ?_); (with_reducible (repeat (first | exact BV2.out | exact BV1.out | exact BVX.out | exact BVY.out | (refine bel_al ?_ _) | (refine bel_dr ?_) | exact Below.refl _ _ | (refine bel_st ?_ ?_ _; rotate_left; omega)))); rintro en v2 ⟨v, rfl, ow2, hb2⟩; obtain ⟨s6, c6, rfl, _⟩ := ow2.form; have OW2 := Lib.hid ow2; have BV2 : Hid (Below X1.heap.size X1 v2) := Lib.hid (bel_tr (by with_reducible (repeat (first | exact BV2.out | exact BV1.out | exact BVX.out | exact BVY.out | (refine bel_al ?_ _) | (refine bel_dr ?_) | exact Below.refl _ _ | (refine bel_st ?_ ?_ _; rotate_left; omega)))) hb2); have BV12 : Hid (Below v1.heap.size v1 v2) := Lib.hid (bel_tr (by with_reducible (repeat (first | exact Below.refl _ _ | (refine bel_al ?_ _)))) hb2); have q2 := BV2.out.size; (try (refine with_fact (P := Hid (Blk v2 X1.heap.size 30 #[.int .u32 0, .int .u32 0, .int .u32 0, .int .u32 0, .int .u32 0, .int .u32 0, .int .u32 0, .int .u32 0, .int .u32 0, .slice none 0 0, .int .u8 0, .int .u64 0, .int .u32 0])) ?_ ?_; (focus (refine Lib.hid (Blk.kept ?_ hb2); (with_reducible (repeat (first | exact KA1.out | refine Blk.alloc ?_ _))); done)); intro KA2)); (try (refine with_fact (P := Hid (Blk v2 (X1.heap.size + 1) 30 #[.int .u32 0, .int .u32 0, .int .u32 0, .int .u32 0, .int .u32 0, .int .u32 0, .int .u32 0, .int .u32 0, .int .u32 0, .slice none 0 0, .int .u8 0, .int .u64 0, .int .u32 0])) ?_ ?_; (focus (refine Lib.hid (Blk.kept ?_ hb2); (with_reducible (repeat (first | exact KB1x.out | refine Blk.alloc ?_ _))); done)); intro KB2x)); (try (refine with_fact (P := Hid (Blk v2 v1.heap.size 30 #[.int .u32 0, .int .u32 0, .int .u32 0, .int .u32 0, .int .u32 0, .int .u32 0, .int .u32 0, .int .u32 0, .int .u32 0, .slice none 0 0, .int .u8 0, .int .u64 0, .int .u32 0])) ?_ ?_; (focus (refine Lib.hid (Blk.kept ?_ hb2); (with_reducible (first | exact Blk.new _ _ _ | exact (Blk.new _ _ _).alloc _ | exact (Blk.new _ _ _).drew | exact ((Blk.new _ _ _).alloc _).drew)); done)); intro KC2)); (try (refine with_fact (P := Hid (Blk v2 (v1.heap.size + 1) 30 #[.int .u32 0, .int .u32 0, .int .u32 0, .int .u32 0, .int .u32 0, .int .u32 0, .int .u32 0, .int .u32 0, .int .u32 0, .slice none 0 0, .int .u8 0, .int .u64 0, .int .u32 0])) ?_ ?_; (focus (refine Lib.hid (Blk.kept ?_ hb2); (with_reducible (first | exact blk_2nd _ _ _ _ | exact (blk_2nd _ _ _ _).drew)); done)); intro KD2)); (try (refine with_fact KA2.out.lt ?_; intro lxa; refine with_fact (blkf13 KA2.out) ?_; rintro ⟨xa0, fxa0, xa1, fxa1, xa2, fxa2, xa3, fxa3, xa4, fxa4, xa5, fxa5, xa6, fxa6, xa7, fxa7, xa8, fxa8, xa9, fxa9, xa10, fxa10, xa11, fxa11, xa12, fxa12⟩)); (try (refine with_fact KB2x.out.lt ?_; intro lxb; refine with_fact (blkf13 KB2x.out) ?_; rintro ⟨xb0, fxb0, xb1, fxb1, xb2, fxb2, xb3, fxb3, xb4, fxb4, xb5, fxb5, xb6, fxb6, xb7, fxb7, xb8, fxb8, xb9, fxb9, xb10, fxb10, xb11, fxb11, xb12, fxb12⟩)); (try (refine with_fact KC2.out.lt ?_; intro lva; refine with_fact (blkf13 KC2.out) ?_; rintro ⟨va0, fva0, va1, fva1, va2, fva2, va3, fva3, va4, fva4, va5, fva5, va6, fva6, va7, fva7, va8, fva8, va9, fva9, va10, fva10, va11, fva11, va12, fva12⟩)); (try (refine with_fact KD2.out.lt ?_; intro lvb; refine with_fact (blkf13 KD2.out) ?_; rintro ⟨vb0, fvb0, vb1, fvb1, vb2, fvb2, vb3, fvb3, vb4, fvb4, vb5, fvb5, vb6, fvb6, vb7, fvb7, vb8, fvb8, vb9, fvb9, vb10, fvb10, vb11, fvb11, vb12, fvb12⟩)); (try (refine with_fact (Nat.ne_of_lt lva) ?_; intro nva; refine with_fact (Ne.symm nva) ?_; intro nva')); (try (refine with_fact (Nat.ne_of_lt lvb) ?_; intro nvb; refine with_fact (Ne.symm nvb) ?_; intro nvb')); (try (refine with_fact (Nat.ne_of_lt lxa) ?_; intro nxa; refine with_fact (Ne.symm nxa) ?_; intro nxa')); (try (refine with_fact (Nat.ne_of_lt lxb) ?_; intro nxb; refine with_fact (Ne.symm nxb) ?_; intro nxb')); clear ow2 hb2; unfold hv))
  · go_wp2_with fail
    have zx := ZX.out
    have o5 : Own v2 (a8 + 1) (Value.slice s5 S0.length c5) S0 := (OW1.out.kept BV12.out).mono (by (try simp); omega)
    have o6 : Own v2 (a8 + 1) (Value.slice s6 S0.length c6) S0 := OW2.out.mono (by have := BV1.out.size; (try simp); omega)
    exact HK.out _ _ _ _ _ _ _ ⟨s5, c5, s6, c6, BSX.out.lay0 BV2.out o5 o6⟩
  · go_wp2_with fail
    have zx := ZX.out
    have o5 : Own v2 (a8 + 1) (Value.slice s5 S0.length c5) S0 := (OW1.out.kept BV12.out).mono (by (try simp); omega)
    have o6 : Own v2 (a8 + 1) (Value.slice s6 S0.length c6) S0 := OW2.out.mono (by have := BV1.out.size; (try simp); omega)
    exact HK.out _ _ _ _ _ _ _ ⟨s5, c5, s6, c6, BSX.out.lay0' BV2.out o5 o6⟩
  · go_wp2_with fail
    have n5C : (Value.slice s5 S0.length c5).ownBlock ≠ some v1.heap.size := own_ne OW1.out (.inl (Nat.le_refl _))
    have n6C : (Value.slice s6 S0.length c6).ownBlock ≠ some v1.heap.size := own_ne OW2.out (.inr (by first | (simp; done) | (simp; omega)))
    have zx := ZX.out
    have o5 : Own v2 (a8 + 1) (Value.slice s5 S0.length c5) S0 := (OW1.out.kept BV12.out).mono (by (try simp); omega)
    have o6 : Own v2 (a8 + 1) (Value.slice s6 S0.length c6) S0 := OW2.out.mono (by have := BV1.out.size; (try simp); omega)
    exact HK.out _ _ _ _ _ _ _ ⟨s5, c5, s6, c6, BSX.out.lay1 BV2.out o5 o6 KC2.out q1 n5C n6C _ _ _ _ _ _ _ _ _ _ _ _ _⟩
  · go_wp2_with fail
    have n5C : (Value.slice s5 S0.length c5).ownBlock ≠ some v1.heap.size := own_ne OW1.out (.inl (Nat.le_refl _))
    have n6C : (Value.slice s6 S0.length c6).ownBlock ≠ some v1.heap.size := own_ne OW2.out (.inr (by first | (simp; done) | (simp; omega)))
    have n5D : (Value.slice s5 S0.length c5).ownBlock ≠ some (v1.heap.size + 1) := own_ne OW1.out (.inl (by omega))
    have n6D : (Value.slice s6 S0.length c6).ownBlock ≠ some (v1.heap.size + 1) := own_ne OW2.out (.inr (by first | (simp; done) | (simp; omega)))
    have zx := ZX.out
    have o5 : Own v2 (a8 + 1) (Value.slice s5 S0.length c5) S0 := (OW1.out.kept BV12.out).mono (by (try simp); omega)
    have o6 : Own v2 (a8 + 1) (Value.slice s6 S0.length c6) S0 := OW2.out.mono (by have := BV1.out.size; (try simp); omega)
    exact HK.out _ _ _ _ _ _ _ ⟨s5, c5, s6, c6, BSX.out.lay2 BV2.out o5 o6 KC2.out KD2.out (by omega) q1 (by omega) n5C n5D n6C n6D _ _ _ _ _ _ _ _ _ _ _ _ _ _ _ _ _ _ _ _ _ _ _ _ _ _⟩
  · go_wp2_with fail
    have n5C : (Value.slice s5 S0.length c5).ownBlock ≠ some v1.heap.size := own_ne OW1.out (.inl (Nat.le_refl _))
    have n6C : (Value.slice s6 S0.length c6).ownBlock ≠ some v1.heap.size := own_ne OW2.out (.inr (by first | (simp; done) | (simp; omega)))
    have zx := ZX.out
    have o5 : Own v2 (a8 + 1) (Value.slice s5 S0.length c5) S0 := (OW1.out.kept BV12.out).mono (by (try simp); omega)
    have o6 : Own v2 (a8 + 1) (Value.slice s6 S0.length c6) S0 := OW2.out.mono (by have := BV1.out.size; (try simp); omega)
    exact HK.out _ _ _ _ _ _ _ ⟨s5, c5, s6, c6, BSX.out.lay1' BV2.out o5 o6 KC2.out q1 n5C n6C _ _ _ _ _ _ _ _ _ _ _ _ _⟩
  · go_wp2_with fail
    have n5D : (Value.slice s5 S0.length c5).ownBlock ≠ some (v1.heap.size + 1) := own_ne OW1.out (.inl (by omega))
    have n6D : (Value.slice s6 S0.length c6).ownBlock ≠ some (v1.heap.size + 1) := own_ne OW2.out (.inr (by first | (simp; done) | (simp; omega)))
    have n5C : (Value.slice s5 S0.length c5).ownBlock ≠ some v1.heap.size := own_ne OW1.out (.inl (Nat.le_refl _))
    have n6C : (Value.slice s6 S0.length c6).ownBlock ≠ some v1.heap.size := own_ne OW2.out (.inr (by first | (simp; done) | (simp; omega)))
    have zx := ZX.out
    have o5 : Own v2 (a8 + 1) (Value.slice s5 S0.length c5) S0 := (OW1.out.kept BV12.out).mono (by (try simp); omega)
    have o6 : Own v2 (a8 + 1) (Value.slice s6 S0.length c6) S0 := OW2.out.mono (by have := BV1.out.size; (try simp); omega)
    exact HK.out _ _ _ _ _ _ _ ⟨s5, c5, s6, c6, BSX.out.lay2 BV2.out o5 o6 KD2.out KC2.out (by omega) (by omega) q1 n5D n5C n6D n6C _ _ _ _ _ _ _ _ _ _ _ _ _ _ _ _ _ _ _ _ _ _ _ _ _ _⟩
  · go_wp2_with fail
    have n5A : (Value.slice s5 S0.length c5).ownBlock ≠ some X1.heap.size := own_ne OW1.out (.inr (by first | (simp; done) | (simp; omega)))
    have n6A : (Value.slice s6 S0.length c6).ownBlock ≠ some X1.heap.size := own_ne OW2.out (.inr (by have := KA1.out.lt; (try simp); omega))
    have zx := ZX.out
    have o5 : Own v2 (a8 + 1) (Value.slice s5 S0.length c5) S0 := (OW1.out.kept BV12.out).mono (by (try simp); omega)
    have o6 : Own v2 (a8 + 1) (Value.slice s6 S0.length c6) S0 := OW2.out.mono (by have := BV1.out.size; (try simp); omega)
    exact HK.out _ _ _ _ _ _ _ ⟨s5, c5, s6, c6, BSX.out.lay1 BV2.out o5 o6 KA2.out (Nat.le_refl _) n5A n6A _ _ _ _ _ _ _ _ _ _ _ _ _⟩
  · go_wp2_with fail
    have n5A : (Value.slice s5 S0.length c5).ownBlock ≠ some X1.heap.size := own_ne OW1.out (.inr (by first | (simp; done) | (simp; omega)))
    have n6A : (Value.slice s6 S0.length c6).ownBlock ≠ some X1.heap.size := own_ne OW2.out (.inr (by have := KA1.out.lt; (try simp); omega))
    have n5C : (Value.slice s5 S0.length c5).ownBlock ≠ some v1.heap.size := own_ne OW1.out (.inl (Nat.le_refl _))
    have n6C : (Value.slice s6 S0.length c6).ownBlock ≠ some v1.heap.size := own_ne OW2.out (.inr (by first | (simp; done) | (simp; omega)))
    have zx := ZX.out
    have o5 : Own v2 (a8 + 1) (Value.slice s5 S0.length c5) S0 := (OW1.out.kept BV12.out).mono (by (try simp); omega)
    have o6 : Own v2 (a8 + 1) (Value.slice s6 S0.length c6) S0 := OW2.out.mono (by have := BV1.out.size; (try simp); omega)
    exact HK.out _ _ _ _ _ _ _ ⟨s5, c5, s6, c6, BSX.out.lay2 BV2.out o5 o6 KA2.out KC2.out (by have := KA1.out.lt; omega) (Nat.le_refl _) q1 n5A n5C n6A n6C _ _ _ _ _ _ _ _ _ _ _ _ _ _ _ _ _ _ _ _ _ _ _ _ _ _⟩
  · go_wp2_with fail
    have n5A : (Value.slice s5 S0.length c5).ownBlock ≠ some X1.heap.size := own_ne OW1.out (.inr (by first | (simp; done) | (simp; omega)))
    have n6A : (Value.slice s6 S0.length c6).ownBlock ≠ some X1.heap.size := own_ne OW2.out (.inr (by have := KA1.out.lt; (try simp); omega))
    have n5B : (Value.slice s5 S0.length c5).ownBlock ≠ some (X1.heap.size + 1) := own_ne OW1.out (.inr (by first | (simp; done) | (simp; omega)))
    have n6B : (Value.slice s6 S0.length c6).ownBlock ≠ some (X1.heap.size + 1) := own_ne OW2.out (.inr (by have := KB1x.out.lt; (try simp); omega))
    have zx := ZX.out
    have o5 : Own v2 (a8 + 1) (Value.slice s5 S0.length c5) S0 := (OW1.out.kept BV12.out).mono (by (try simp); omega)
    have o6 : Own v2 (a8 + 1) (Value.slice s6 S0.length c6) S0 := OW2.out.mono (by have := BV1.out.size; (try simp); omega)
    exact HK.out _ _ _ _ _ _ _ ⟨s5, c5, s6, c6, BSX.out.lay2 BV2.out o5 o6 KA2.out KB2x.out (by have := KA1.out.lt; omega) (Nat.le_refl _) (by omega) n5A n5B n6A n6B _ _ _ _ _ _ _ _ _ _ _ _ _ _ _ _ _ _ _ _ _ _ _ _ _ _⟩
  · go_wp2_with fail
    have n5A : (Value.slice s5 S0.length c5).ownBlock ≠ some X1.heap.size := own_ne OW1.out (.inr (by first | (simp; done) | (simp; omega)))
    have n6A : (Value.slice s6 S0.length c6).ownBlock ≠ some X1.heap.size := own_ne OW2.out (.inr (by have := KA1.out.lt; (try simp); omega))
    have zx := ZX.out
    have o5 : Own v2 (a8 + 1) (Value.slice s5 S0.length c5) S0 := (OW1.out.kept BV12.out).mono (by (try simp); omega)
    have o6 : Own v2 (a8 + 1) (Value.slice s6 S0.length c6) S0 := OW2.out.mono (by have := BV1.out.size; (try simp); omega)
    exact HK.out _ _ _ _ _ _ _ ⟨s5, c5, s6, c6, BSX.out.lay1' BV2.out o5 o6 KA2.out (Nat.le_refl _) n5A n6A _ _ _ _ _ _ _ _ _ _ _ _ _⟩
  · go_wp2_with fail
    have n5C : (Value.slice s5 S0.length c5).ownBlock ≠ some v1.heap.size := own_ne OW1.out (.inl (Nat.le_refl _))
    have n6C : (Value.slice s6 S0.length c6).ownBlock ≠ some v1.heap.size := own_ne OW2.out (.inr (by first | (simp; done) | (simp; omega)))
    have n5A : (Value.slice s5 S0.length c5).ownBlock ≠ some X1.heap.size := own_ne OW1.out (.inr (by first | (simp; done) | (simp; omega)))
    have n6A : (Value.slice s6 S0.length c6).ownBlock ≠ some X1.heap.size := own_ne OW2.out (.inr (by have := KA1.out.lt; (try simp); omega))
    have zx := ZX.out
    have o5 : Own v2 (a8 + 1) (Value.slice s5 S0.length c5) S0 := (OW1.out.kept BV12.out).mono (by (try simp); omega)
    have o6 : Own v2 (a8 + 1) (Value.slice s6 S0.length c6) S0 := OW2.out.mono (by have := BV1.out.size; (try simp); omega)
    exact HK.out _ _ _ _ _ _ _ ⟨s5, c5, s6, c6, BSX.out.lay2 BV2.out o5 o6 KC2.out KA2.out (by have := KA1.out.lt; omega) q1 (Nat.le_refl _) n5C n5A n6C n6A _ _ _ _ _ _ _ _ _ _ _ _ _ _ _ _ _ _ _ _ _ _ _ _ _ _⟩
  · go_wp2_with fail
    have n5B : (Value.slice s5 S0.length c5).ownBlock ≠ some (X1.heap.size + 1) := own_ne OW1.out (.inr (by first | (simp; done) | (simp; omega)))
    have n6B : (Value.slice s6 S0.length c6).ownBlock ≠ some (X1.heap.size + 1) := own_ne OW2.out (.inr (by have := KB1x.out.lt; (try simp); omega))
    have n5A : (Value.slice s5 S0.length c5).ownBlock ≠ some X1.heap.size := own_ne OW1.out (.inr (by first | (simp; done) | (simp; omega)))
    have n6A : (Value.slice s6 S0.length c6).ownBlock ≠ some X1.heap.size := own_ne OW2.out (.inr (by have := KA1.out.lt; (try simp); omega))
    have zx := ZX.out
    have o5 : Own v2 (a8 + 1) (Value.slice s5 S0.length c5) S0 := (OW1.out.kept BV12.out).mono (by (try simp); omega)
    have o6 : Own v2 (a8 + 1) (Value.slice s6 S0.length c6) S0 := OW2.out.mono (by have := BV1.out.size; (try simp); omega)
    exact HK.out _ _ _ _ _ _ _ ⟨s5, c5, s6, c6, BSX.out.lay2 BV2.out o5 o6 KB2x.out KA2.out (by have := KA1.out.lt; omega) (by omega) (Nat.le_refl _) n5B n5A n6B n6A _ _ _ _ _ _ _ _ _ _ _ _ _ _ _ _ _ _ _ _ _ _ _ _ _ _⟩
end Go.Proofs.YthnbdeibjbicpaaGreat.PM
