/- The world between two rounds of HartRuns. No condition. -/
import Derived.Test.YthnbdeibjbicpaaGreatLawE0
set_option linter.unusedSimpArgs false
namespace Go.Proofs.YthnbdeibjbicpaaGreat.PM
set_option linter.unusedVariables false
open Go.RowKit
/-- Which block is not which. -/
structure Ap9 (w0 B M g h d b e a8 a9 a10 : Nat) (sx sy : Value) : Prop where
  ld0 : w0 ≤ d
  l80 : w0 ≤ a8
  lM : M < a8
  lg : g < a8
  lh : h < a8
  ld : d < a8
  lb : b < a8
  l8 : a8 < B
  l9 : B ≤ a9
  l10 : B ≤ a10
  ne : a9 ≠ a10
  ed : e ≠ d
  bd : b ≠ d
  e8 : e ≠ a8
  e9 : e ≠ a9
  e10 : e ≠ a10
  x9 : sx.ownBlock ≠ some a9
  x10 : sx.ownBlock ≠ some a10
  y9 : sy.ownBlock ≠ some a9
  y10 : sy.ownBlock ≠ some a10
/-- Both harts, both memories. -/
structure HR (w0 w : World) (B M g h c d cd b e a8 a9 a10 : Nat) (G : Nat → Nat) (T : List Page) (L Lr : List Nat) (xc yc rc : Array Value) (sx : Value) (Sx : List Nat) (sy : Value) (Sy : List Nat) : Prop where
  x : Blk w a9 30 xc
  y : Blk w a10 30 yc
  r : Blk w a8 36 rc
  ox : Own w B sx Sx
  oy : Own w B sy Sy
  mem : Mem w M g h c d cd G T L
  rm : RM w b e T Lr
  bel : Below w0.heap.size w0 w
  ap : Ap9 w0.heap.size B M g h d b e a8 a9 a10 sx sy
/-- Both notes besides. -/
structure HRN (w0 w : World) (B M g h c d cd b e a8 a9 a10 : Nat) (G : Nat → Nat) (T : List Page) (L Lr : List Nat) (xc yc rc : Array Value) (sx : Value) (Sx : List Nat) (sy : Value) (Sy : List Nat) (n1 n2 : Nat) (kc zc : Array Value) : Prop where
  hr : HR w0 w B M g h c d cd b e a8 a9 a10 G T L Lr xc yc rc sx Sx sy Sy
  k : Blk w n1 41 kc
  z : Blk w n2 44 zc
  l1 : a9 < n1 ∧ a10 < n1
  l2 : n1 < n2
  e1 : e ≠ n1
  e2 : e ≠ n2
  x1 : sx.ownBlock ≠ some n1
  x2 : sx.ownBlock ≠ some n2
  y1 : sy.ownBlock ≠ some n1
  y2 : sy.ownBlock ≠ some n2
section
variable {w0 w w' : World} {B M g h c d cd b e a8 a9 a10 n1 n2 : Nat} {G : Nat → Nat} {T : List Page} {L Lr : List Nat} {xc yc rc kc zc : Array Value} {sx : Value} {Sx : List Nat} {sy : Value} {Sy : List Nat}
theorem HR.kept (m : HR w0 w B M g h c d cd b e a8 a9 a10 G T L Lr xc yc rc sx Sx sy Sy) (hb : Below w.heap.size w w') : HR w0 w' B M g h c d cd b e a8 a9 a10 G T L Lr xc yc rc sx Sx sy Sy :=
  ⟨m.x.kept hb, m.y.kept hb, m.r.kept hb, m.ox.kept hb, m.oy.kept hb, m.mem.kept hb, m.rm.kept hb, m.bel.trans (hb.mono m.bel.size), m.ap⟩
theorem HRN.kept (m : HRN w0 w B M g h c d cd b e a8 a9 a10 G T L Lr xc yc rc sx Sx sy Sy n1 n2 kc zc) (hb : Below w.heap.size w w') : HRN w0 w' B M g h c d cd b e a8 a9 a10 G T L Lr xc yc rc sx Sx sy Sy n1 n2 kc zc :=
  ⟨m.hr.kept hb, m.k.kept hb, m.z.kept hb, m.l1, m.l2, m.e1, m.e2, m.x1, m.x2, m.y1, m.y2⟩
theorem HRN.drew1 (m : HRN w0 w B M g h c d cd b e a8 a9 a10 G T L Lr xc yc rc sx Sx sy Sy n1 n2 kc zc) : HRN w0 w.drew B M g h c d cd b e a8 a9 a10 G T L Lr xc yc rc sx Sx sy Sy n1 n2 kc zc := m.kept (below_drewN (Below.refl _ _) 1)
theorem own_ne {base : Nat} {s : Value} {S : List Nat} (o : Own w base s S) {k : Nat} (h : w.heap.size ≤ k ∨ k < base) : s.ownBlock ≠ some k := fun q => by
  have := o.lt k q
  omega
theorem HR.enter (m : HR w0 w B M g h c d cd b e a8 a9 a10 G T L Lr xc yc rc sx Sx sy Sy) (kc zc : Array Value) : HRN w0 ((w.alloc (.cells kc 41)).alloc (.cells zc 44)) B M g h c d cd b e a8 a9 a10 G T L Lr xc yc rc sx Sx sy Sy w.heap.size (w.heap.size + 1) kc zc := by
  have hb : Below w.heap.size w ((w.alloc (.cells kc 41)).alloc (.cells zc 44)) := ((Below.refl _ w).alloc (Nat.le_refl _) _).alloc (by simp) _
  have q9 := m.x.lt
  have q10 := m.y.lt
  have qe := m.rm.wds.lt
  refine ⟨m.kept hb, (Blk.new w _ _).alloc _, ?_, ⟨q9, q10⟩, by omega, by omega, by omega, own_ne m.ox (.inl (Nat.le_refl _)), own_ne m.ox (.inl (by omega)), own_ne m.oy (.inl (Nat.le_refl _)), own_ne m.oy (.inl (by omega))⟩
  have k := Blk.new (w.alloc (.cells kc 41)) 44 zc
  have e : (w.alloc (.cells kc 41)).heap.size = w.heap.size + 1 := by simp
  rw [e] at k
  exact k
theorem HRN.set8 (m : HRN w0 w B M g h c d cd b e a8 a9 a10 G T L Lr xc yc rc sx Sx sy Sy n1 n2 kc zc) {cs : Array Value} (u : Upd a8 w w') (K : Blk w' a8 36 cs) : HRN w0 w' B M g h c d cd b e a8 a9 a10 G T L Lr xc yc cs sx Sx sy Sy n1 n2 kc zc := by
  obtain ⟨p0, p1, p2, p3, p4, p5, p6, p7, p8, p9, p10, p11, p12, p13, p14, p15, _, _, _, _⟩ := m.hr.ap
  obtain ⟨q1, q2⟩ := m.l1
  have q3 := m.l2
  have q4 := m.e1
  have q5 := m.e2
  exact ⟨⟨u.blk m.hr.x (by omega), u.blk m.hr.y (by omega), K, m.hr.ox.upd u (own_ne m.hr.ox (.inr m.hr.ap.l8)), m.hr.oy.upd u (own_ne m.hr.oy (.inr m.hr.ap.l8)), m.hr.mem.upd9 u (by omega) (by omega) (by omega) (by omega), m.hr.rm.upd9 u (by omega) (by omega), u.below m.hr.bel (by omega), m.hr.ap⟩, u.blk m.k (by omega), u.blk m.z (by omega), m.l1, m.l2, m.e1, m.e2, m.x1, m.x2, m.y1, m.y2⟩
theorem HRN.set9 (m : HRN w0 w B M g h c d cd b e a8 a9 a10 G T L Lr xc yc rc sx Sx sy Sy n1 n2 kc zc) {cs : Array Value} (u : Upd a9 w w') (K : Blk w' a9 30 cs) : HRN w0 w' B M g h c d cd b e a8 a9 a10 G T L Lr cs yc rc sx Sx sy Sy n1 n2 kc zc := by
  obtain ⟨p0, p1, p2, p3, p4, p5, p6, p7, p8, p9, p10, p11, p12, p13, p14, p15, _, _, _, _⟩ := m.hr.ap
  obtain ⟨q1, q2⟩ := m.l1
  have q3 := m.l2
  have q4 := m.e1
  have q5 := m.e2
  exact ⟨⟨K, u.blk m.hr.y (by omega), u.blk m.hr.r (by omega), m.hr.ox.upd u m.hr.ap.x9, m.hr.oy.upd u m.hr.ap.y9, m.hr.mem.upd9 u (by omega) (by omega) (by omega) (by omega), m.hr.rm.upd9 u (by omega) (by omega), u.below m.hr.bel (by omega), m.hr.ap⟩, u.blk m.k (by omega), u.blk m.z (by omega), m.l1, m.l2, m.e1, m.e2, m.x1, m.x2, m.y1, m.y2⟩
theorem HRN.set10 (m : HRN w0 w B M g h c d cd b e a8 a9 a10 G T L Lr xc yc rc sx Sx sy Sy n1 n2 kc zc) {cs : Array Value} (u : Upd a10 w w') (K : Blk w' a10 30 cs) : HRN w0 w' B M g h c d cd b e a8 a9 a10 G T L Lr xc cs rc sx Sx sy Sy n1 n2 kc zc := by
  obtain ⟨p0, p1, p2, p3, p4, p5, p6, p7, p8, p9, p10, p11, p12, p13, p14, p15, _, _, _, _⟩ := m.hr.ap
  obtain ⟨q1, q2⟩ := m.l1
  have q3 := m.l2
  have q4 := m.e1
  have q5 := m.e2
  exact ⟨⟨u.blk m.hr.x (by omega), K, u.blk m.hr.r (by omega), m.hr.ox.upd u m.hr.ap.x10, m.hr.oy.upd u m.hr.ap.y10, m.hr.mem.upd9 u (by omega) (by omega) (by omega) (by omega), m.hr.rm.upd9 u (by omega) (by omega), u.below m.hr.bel (by omega), m.hr.ap⟩, u.blk m.k (by omega), u.blk m.z (by omega), m.l1, m.l2, m.e1, m.e2, m.x1, m.x2, m.y1, m.y2⟩
theorem HRN.set1 (m : HRN w0 w B M g h c d cd b e a8 a9 a10 G T L Lr xc yc rc sx Sx sy Sy n1 n2 kc zc) {cs : Array Value} (u : Upd n1 w w') (K : Blk w' n1 41 cs) : HRN w0 w' B M g h c d cd b e a8 a9 a10 G T L Lr xc yc rc sx Sx sy Sy n1 n2 cs zc := by
  obtain ⟨p0, p1, p2, p3, p4, p5, p6, p7, p8, p9, p10, p11, p12, p13, p14, p15, _, _, _, _⟩ := m.hr.ap
  obtain ⟨q1, q2⟩ := m.l1
  have q3 := m.l2
  have q4 := m.e1
  have q5 := m.e2
  exact ⟨⟨u.blk m.hr.x (by omega), u.blk m.hr.y (by omega), u.blk m.hr.r (by omega), m.hr.ox.upd u m.x1, m.hr.oy.upd u m.y1, m.hr.mem.upd9 u (by omega) (by omega) (by omega) (by omega), m.hr.rm.upd9 u (by omega) (by omega), u.below m.hr.bel (by omega), m.hr.ap⟩, K, u.blk m.z (by omega), m.l1, m.l2, m.e1, m.e2, m.x1, m.x2, m.y1, m.y2⟩
theorem HRN.set2 (m : HRN w0 w B M g h c d cd b e a8 a9 a10 G T L Lr xc yc rc sx Sx sy Sy n1 n2 kc zc) {cs : Array Value} (u : Upd n2 w w') (K : Blk w' n2 44 cs) : HRN w0 w' B M g h c d cd b e a8 a9 a10 G T L Lr xc yc rc sx Sx sy Sy n1 n2 kc cs := by
  obtain ⟨p0, p1, p2, p3, p4, p5, p6, p7, p8, p9, p10, p11, p12, p13, p14, p15, _, _, _, _⟩ := m.hr.ap
  obtain ⟨q1, q2⟩ := m.l1
  have q3 := m.l2
  have q4 := m.e1
  have q5 := m.e2
  exact ⟨⟨u.blk m.hr.x (by omega), u.blk m.hr.y (by omega), u.blk m.hr.r (by omega), m.hr.ox.upd u m.x2, m.hr.oy.upd u m.y2, m.hr.mem.upd9 u (by omega) (by omega) (by omega) (by omega), m.hr.rm.upd9 u (by omega) (by omega), u.below m.hr.bel (by omega), m.hr.ap⟩, u.blk m.k (by omega), K, m.l1, m.l2, m.e1, m.e2, m.x1, m.x2, m.y1, m.y2⟩
/-- The program's step was called. -/
theorem HRN.stepx (m : HRN w0 w B M g h c d cd b e a8 a9 a10 G T L Lr xc yc rc sx Sx sy Sy n1 n2 kc zc) {L' S' : List Nat} {s' : Value} (u : UpdX w.heap.size d w w') (mm : Mem w' M g h c d cd G T L') (ow : Own w' w.heap.size s' S') : HRN w0 w' B M g h c d cd b e a8 a9 a10 G T L' Lr xc yc rc s' S' sy Sy n1 n2 kc zc := by
  obtain ⟨p0, p1, p2, p3, p4, p5, p6, p7, p8, p9, p10, p11, p12, p13, p14, p15, p16, p17, p18, p19⟩ := m.hr.ap
  obtain ⟨q1, q2⟩ := m.l1
  have q3 := m.l2
  have z2 := m.z.lt
  have z9 := m.hr.x.lt
  have z10 := m.hr.y.lt
  exact ⟨⟨u.blk m.hr.x (by omega), u.blk m.hr.y (by omega), u.blk m.hr.r (by omega), ow.mono (by omega), m.hr.oy.updx u (own_ne m.hr.oy (.inr (by omega))), mm, m.hr.rm.updx u p12 p11, u.below m.hr.bel p0, ⟨p0, p1, p2, p3, p4, p5, p6, p7, p8, p9, p10, p11, p12, p13, p14, p15, own_ne ow (.inr z9), own_ne ow (.inr z10), p18, p19⟩⟩, u.blk m.k (by omega), u.blk m.z (by omega), m.l1, m.l2, m.e1, m.e2, own_ne ow (.inr (by omega)), own_ne ow (.inr z2), m.y1, m.y2⟩
/-- The document's step was called. -/
theorem HRN.stepy (m : HRN w0 w B M g h c d cd b e a8 a9 a10 G T L Lr xc yc rc sx Sx sy Sy n1 n2 kc zc) {L' S' : List Nat} {s' : Value} {e' : Nat} (hb : Below w.heap.size w w') (rm : RM w' b e' T L') (he : e' = e ∨ w.heap.size ≤ e') (ow : Own w' w.heap.size s' S') : HRN w0 w' B M g h c d cd b e' a8 a9 a10 G T L L' xc yc rc sx Sx s' S' n1 n2 kc zc := by
  have K := m.kept hb
  obtain ⟨p0, p1, p2, p3, p4, p5, p6, p7, p8, p9, p10, p11, p12, p13, p14, p15, p16, p17, p18, p19⟩ := m.hr.ap
  obtain ⟨q1, q2⟩ := m.l1
  have q3 := m.l2
  have q4 := m.e1
  have q5 := m.e2
  have z2 := m.z.lt
  have z9 := m.hr.x.lt
  have z10 := m.hr.y.lt
  have zB := m.hr.r.lt
  exact ⟨⟨K.hr.x, K.hr.y, K.hr.r, K.hr.ox, ow.mono (by omega), K.hr.mem, rm, K.hr.bel, ⟨p0, p1, p2, p3, p4, p5, p6, p7, p8, p9, p10, by omega, p12, by omega, by omega, by omega, p16, p17, own_ne ow (.inr z9), own_ne ow (.inr z10)⟩⟩, K.k, K.z, m.l1, m.l2, by omega, by omega, m.x1, m.x2, own_ne ow (.inr (by omega)), own_ne ow (.inr z2)⟩
end
theorem Blk.all10 {w : World} {g : Nat} {t : TypeId} {a0 a1 a2 a3 a4 a5 a6 a7 a8 a9 : Value} (h : Blk w g t #[a0, a1, a2, a3, a4, a5, a6, a7, a8, a9]) (v0 v1 v2 v3 v4 v5 v6 v7 v8 v9 : Value) : Blk (w.setCells g 0 [v0, v1, v2, v3, v4, v5, v6, v7, v8, v9]) g t #[v0, v1, v2, v3, v4, v5, v6, v7, v8, v9] := by
  have := ((((((((((h.set_ 0 v0).set_ 1 v1).set_ 2 v2).set_ 3 v3).set_ 4 v4).set_ 5 v5).set_ 6 v6).set_ 7 v7).set_ 8 v8).set_ 9 v9)
  simpa [World.setCells] using this
theorem Blk.all4 {w : World} {g : Nat} {t : TypeId} {a0 a1 a2 a3 : Value} (h : Blk w g t #[a0, a1, a2, a3]) (v0 v1 v2 v3 : Value) : Blk (w.setCells g 0 [v0, v1, v2, v3]) g t #[v0, v1, v2, v3] := by
  have := ((((h.set_ 0 v0).set_ 1 v1).set_ 2 v2).set_ 3 v3)
  simpa [World.setCells] using this
/-- The program's step, and its two stores. -/
theorem HRN.roundx {w0 w w' : World} {B M g h c d cd b e a8 a9 a10 n1 n2 : Nat} {G : Nat → Nat} {T : List Page} {L Lr : List Nat} {yc rc zc : Array Value} {sx : Value} {Sx : List Nat} {sy : Value} {Sy : List Nat} {L' S' : List Nat} {s' : Value} {z0 z1 z2 z3 z4 z5 z6 z7 z8 z9 z10 z11 z12 k0 k1 k2 k3 : Value} (m : HRN w0 w B M g h c d cd b e a8 a9 a10 G T L Lr #[z0, z1, z2, z3, z4, z5, z6, z7, z8, z9, z10, z11, z12] yc rc sx Sx sy Sy n1 n2 #[k0, k1, k2, k3] zc) (u : UpdX w.heap.size d w w') (mm : Mem w' M g h c d cd G T L') (ow : Own w' w.heap.size s' S') (v0 v1 v2 v3 v4 v5 v6 v7 v8 v9 v10 v11 v12 u0 u1 u2 u3 : Value) :
    HRN w0 ((w'.setCells a9 0 [v0, v1, v2, v3, v4, v5, v6, v7, v8, v9, v10, v11, v12]).setCells n1 0 [u0, u1, u2, u3]) B M g h c d cd b e a8 a9 a10 G T L' Lr #[v0, v1, v2, v3, v4, v5, v6, v7, v8, v9, v10, v11, v12] yc rc s' S' sy Sy n1 n2 #[u0, u1, u2, u3] zc := by
  have m1 := m.stepx u mm ow
  have m2 := m1.set9 (upd_setCells9 a9 _ 0 w') (Blk.all13 m1.hr.x v0 v1 v2 v3 v4 v5 v6 v7 v8 v9 v10 v11 v12)
  exact m2.set1 (upd_setCells9 n1 _ 0 _) (Blk.all4 m2.k u0 u1 u2 u3)
/-- The document's step, and its three stores. -/
theorem HRN.roundy {w0 w w' : World} {B M g h c d cd b e a8 a9 a10 n1 n2 : Nat} {G : Nat → Nat} {T : List Page} {L Lr : List Nat} {xc kc : Array Value} {sx : Value} {Sx : List Nat} {sy : Value} {Sy : List Nat} {L' S' : List Nat} {s' : Value} {e' : Nat} {z0 z1 z2 z3 z4 z5 z6 z7 z8 z9 z10 z11 z12 r0 r1 r2 r3 r4 r5 r6 r7 r8 r9 k0 k1 k2 k3 : Value} (m : HRN w0 w B M g h c d cd b e a8 a9 a10 G T L Lr xc #[z0, z1, z2, z3, z4, z5, z6, z7, z8, z9, z10, z11, z12] #[r0, r1, r2, r3, r4, r5, r6, r7, r8, r9] sx Sx sy Sy n1 n2 kc #[k0, k1, k2, k3]) (hb : Below w.heap.size w w') (rm : RM w' b e' T L') (he : e' = e ∨ w.heap.size ≤ e') (ow : Own w' w.heap.size s' S') (v0 v1 v2 v3 v4 v5 v6 v7 v8 v9 v10 v11 v12 t0 t1 t2 t3 t4 t5 t6 t7 t8 t9 u0 u1 u2 u3 : Value) :
    HRN w0 (((w'.setCells a10 0 [v0, v1, v2, v3, v4, v5, v6, v7, v8, v9, v10, v11, v12]).setCells a8 0 [t0, t1, t2, t3, t4, t5, t6, t7, t8, t9]).setCells n2 0 [u0, u1, u2, u3]) B M g h c d cd b e' a8 a9 a10 G T L L' xc #[v0, v1, v2, v3, v4, v5, v6, v7, v8, v9, v10, v11, v12] #[t0, t1, t2, t3, t4, t5, t6, t7, t8, t9] sx Sx s' S' n1 n2 kc #[u0, u1, u2, u3] := by
  have m1 := m.stepy hb rm he ow
  have m2 := m1.set10 (upd_setCells9 a10 _ 0 w') (Blk.all13 m1.hr.y v0 v1 v2 v3 v4 v5 v6 v7 v8 v9 v10 v11 v12)
  have m3 := m2.set8 (upd_setCells9 a8 _ 0 _) (Blk.all10 m2.hr.r t0 t1 t2 t3 t4 t5 t6 t7 t8 t9)
  exact m3.set2 (upd_setCells9 n2 _ 0 _) (Blk.all4 m3.z u0 u1 u2 u3)
/-- What stands when the copies begin. -/
structure BS (w0 X : World) (M g h c d cd b e a8 : Nat) (G : Nat → Nat) (T : List Page) (L : List Nat) (rc : Array Value) : Prop where
  r : Blk X a8 36 rc
  mem : Mem X M g h c d cd G T L
  rm : RM X b e T L
  bel : Below w0.heap.size w0 X
  z : X.heap.size = a8 + 1
  n : w0.heap.size ≤ d ∧ w0.heap.size ≤ a8 ∧ M < a8 ∧ g < a8 ∧ h < a8 ∧ d < a8 ∧ b < a8 ∧ e < a8 ∧ b ≠ d ∧ e ≠ d
section
variable {w0 X v W : World} {M g h c d cd b e a8 a9 a10 k : Nat} {G : Nat → Nat} {T : List Page} {L : List Nat} {rc xc yc : Array Value} {sx : Value} {S : List Nat} {sy : Value}
theorem BS.start (m : BS w0 X M g h c d cd b e a8 G T L rc) (hb : Below X.heap.size X W) (x : Blk W a9 30 xc) (y : Blk W a10 30 yc) (ox : Own W (a8 + 1) sx S) (oy : Own W (a8 + 1) sy S) (h9 : X.heap.size ≤ a9) (h10 : X.heap.size ≤ a10) (ne : a9 ≠ a10) (x9 : sx.ownBlock ≠ some a9) (x10 : sx.ownBlock ≠ some a10) (y9 : sy.ownBlock ≠ some a9) (y10 : sy.ownBlock ≠ some a10) :
    HR w0 W (a8 + 1) M g h c d cd b e a8 a9 a10 G T L L xc yc rc sx S sy S := by
  obtain ⟨n0, n1, n2, n3, n4, n5, n6, n7, n8, n9⟩ := m.n
  have z := m.z
  exact ⟨x, y, m.r.kept hb, ox, oy, m.mem.kept hb, m.rm.kept hb, m.bel.trans (hb.mono m.bel.size), ⟨n0, n1, n2, n3, n4, n5, n6, by omega, by omega, by omega, ne, n9, n8, by omega, by omega, by omega, x9, x10, y9, y10⟩⟩
theorem size_setCells9 (g : Nat) : ∀ (vs : List Value) (o : Nat) (w : World), (w.setCells g o vs).heap.size = w.heap.size
  | [], _, w => rfl
  | x :: vs, o, w => by
    show ((w.setCell ⟨g, o, none⟩ x).setCells g (o + 1) vs).heap.size = _
    rw [size_setCells9 g vs (o + 1)]
    simp
theorem bel_tr {w W v : World} (a : Below w.heap.size w W) (b : Below W.heap.size W v) : Below w.heap.size w v := a.trans (b.mono a.size)
theorem BS.lay0 (m : BS w0 X M g h c d cd b e a8 G T L rc) (hb : Below X.heap.size X v) (ox : Own v (a8 + 1) sx S) (oy : Own v (a8 + 1) sy S) : HR w0 ((v.alloc (.cells xc 30)).alloc (.cells yc 30)) (a8 + 1) M g h c d cd b e a8 v.heap.size (v.heap.size + 1) G T L L xc yc rc sx S sy S := by
  have hb2 : Below v.heap.size v ((v.alloc (.cells xc 30)).alloc (.cells yc 30)) := ((Below.refl _ v).alloc (Nat.le_refl _) _).alloc (by simp) _
  have q := hb.size
  have k := Blk.new (v.alloc (.cells xc 30)) 30 yc
  have e : (v.alloc (.cells xc 30)).heap.size = v.heap.size + 1 := by simp
  rw [e] at k
  exact m.start (bel_tr hb hb2) ((Blk.new v _ _).alloc _) k (ox.kept hb2) (oy.kept hb2) q (by omega) (by omega) (own_ne ox (.inl (Nat.le_refl _))) (own_ne ox (.inl (by omega))) (own_ne oy (.inl (Nat.le_refl _))) (own_ne oy (.inl (by omega)))
theorem BS.lay0' (m : BS w0 X M g h c d cd b e a8 G T L rc) (hb : Below X.heap.size X v) (ox : Own v (a8 + 1) sx S) (oy : Own v (a8 + 1) sy S) : HR w0 ((v.alloc (.cells yc 30)).alloc (.cells xc 30)) (a8 + 1) M g h c d cd b e a8 (v.heap.size + 1) v.heap.size G T L L xc yc rc sx S sy S := by
  have hb2 : Below v.heap.size v ((v.alloc (.cells yc 30)).alloc (.cells xc 30)) := ((Below.refl _ v).alloc (Nat.le_refl _) _).alloc (by simp) _
  have q := hb.size
  have k := Blk.new (v.alloc (.cells yc 30)) 30 xc
  have e : (v.alloc (.cells yc 30)).heap.size = v.heap.size + 1 := by simp
  rw [e] at k
  exact m.start (bel_tr hb hb2) k ((Blk.new v _ _).alloc _) (ox.kept hb2) (oy.kept hb2) (by omega) q (by omega) (own_ne ox (.inl (by omega))) (own_ne ox (.inl (Nat.le_refl _))) (own_ne oy (.inl (by omega))) (own_ne oy (.inl (Nat.le_refl _)))
theorem BS.lay1 {z0 z1 z2 z3 z4 z5 z6 z7 z8 z9 z10 z11 z12 : Value} (m : BS w0 X M g h c d cd b e a8 G T L rc) (hb : Below X.heap.size X v) (ox : Own v (a8 + 1) sx S) (oy : Own v (a8 + 1) sy S) (K : Blk v k 30 #[z0, z1, z2, z3, z4, z5, z6, z7, z8, z9, z10, z11, z12]) (hk : X.heap.size ≤ k) (nx : sx.ownBlock ≠ some k) (ny : sy.ownBlock ≠ some k) (v0 v1 v2 v3 v4 v5 v6 v7 v8 v9 v10 v11 v12 : Value) : HR w0 ((v.setCells k 0 [v0, v1, v2, v3, v4, v5, v6, v7, v8, v9, v10, v11, v12]).alloc (.cells yc 30)) (a8 + 1) M g h c d cd b e a8 k v.heap.size G T L L #[v0, v1, v2, v3, v4, v5, v6, v7, v8, v9, v10, v11, v12] yc rc sx S sy S := by
  have u := upd_setCells9 k [v0, v1, v2, v3, v4, v5, v6, v7, v8, v9, v10, v11, v12] 0 v
  have K2 := Blk.all13 K v0 v1 v2 v3 v4 v5 v6 v7 v8 v9 v10 v11 v12
  have z := size_setCells9 k [v0, v1, v2, v3, v4, v5, v6, v7, v8, v9, v10, v11, v12] 0 v
  have hb2 : Below X.heap.size X (v.setCells k 0 [v0, v1, v2, v3, v4, v5, v6, v7, v8, v9, v10, v11, v12]) := u.below hb hk
  have ox2 := ox.upd u nx
  have oy2 := oy.upd u ny
  generalize v.setCells k 0 [v0, v1, v2, v3, v4, v5, v6, v7, v8, v9, v10, v11, v12] = V at K2 z hb2 ox2 oy2 ⊢
  have hb3 : Below V.heap.size V (V.alloc (.cells yc 30)) := (Below.refl _ V).alloc (Nat.le_refl _) _
  have kl := K.lt
  have q := hb.size
  rw [← z]
  exact m.start (bel_tr hb2 hb3) (K2.alloc _) (Blk.new V _ _) (ox2.kept hb3) (oy2.kept hb3) hk (by omega) (by omega) nx (own_ne ox2 (.inl (Nat.le_refl _))) ny (own_ne oy2 (.inl (Nat.le_refl _)))
theorem BS.lay1' {z0 z1 z2 z3 z4 z5 z6 z7 z8 z9 z10 z11 z12 : Value} (m : BS w0 X M g h c d cd b e a8 G T L rc) (hb : Below X.heap.size X v) (ox : Own v (a8 + 1) sx S) (oy : Own v (a8 + 1) sy S) (K : Blk v k 30 #[z0, z1, z2, z3, z4, z5, z6, z7, z8, z9, z10, z11, z12]) (hk : X.heap.size ≤ k) (nx : sx.ownBlock ≠ some k) (ny : sy.ownBlock ≠ some k) (v0 v1 v2 v3 v4 v5 v6 v7 v8 v9 v10 v11 v12 : Value) : HR w0 ((v.setCells k 0 [v0, v1, v2, v3, v4, v5, v6, v7, v8, v9, v10, v11, v12]).alloc (.cells xc 30)) (a8 + 1) M g h c d cd b e a8 v.heap.size k G T L L xc #[v0, v1, v2, v3, v4, v5, v6, v7, v8, v9, v10, v11, v12] rc sx S sy S := by
  have u := upd_setCells9 k [v0, v1, v2, v3, v4, v5, v6, v7, v8, v9, v10, v11, v12] 0 v
  have K2 := Blk.all13 K v0 v1 v2 v3 v4 v5 v6 v7 v8 v9 v10 v11 v12
  have z := size_setCells9 k [v0, v1, v2, v3, v4, v5, v6, v7, v8, v9, v10, v11, v12] 0 v
  have hb2 : Below X.heap.size X (v.setCells k 0 [v0, v1, v2, v3, v4, v5, v6, v7, v8, v9, v10, v11, v12]) := u.below hb hk
  have ox2 := ox.upd u nx
  have oy2 := oy.upd u ny
  generalize v.setCells k 0 [v0, v1, v2, v3, v4, v5, v6, v7, v8, v9, v10, v11, v12] = V at K2 z hb2 ox2 oy2 ⊢
  have hb3 : Below V.heap.size V (V.alloc (.cells xc 30)) := (Below.refl _ V).alloc (Nat.le_refl _) _
  have kl := K.lt
  have q := hb.size
  rw [← z]
  exact m.start (bel_tr hb2 hb3) (Blk.new V _ _) (K2.alloc _) (ox2.kept hb3) (oy2.kept hb3) (by omega) hk (by omega) (own_ne ox2 (.inl (Nat.le_refl _))) nx (own_ne oy2 (.inl (Nat.le_refl _))) ny
theorem BS.lay2 {z0 z1 z2 z3 z4 z5 z6 z7 z8 z9 z10 z11 z12 q0 q1 q2 q3 q4 q5 q6 q7 q8 q9 q10 q11 q12 : Value} (m : BS w0 X M g h c d cd b e a8 G T L rc) (hb : Below X.heap.size X v) (ox : Own v (a8 + 1) sx S) (oy : Own v (a8 + 1) sy S) (K9 : Blk v a9 30 #[z0, z1, z2, z3, z4, z5, z6, z7, z8, z9, z10, z11, z12]) (K10 : Blk v a10 30 #[q0, q1, q2, q3, q4, q5, q6, q7, q8, q9, q10, q11, q12]) (ne : a9 ≠ a10) (h9 : X.heap.size ≤ a9) (h10 : X.heap.size ≤ a10) (x9 : sx.ownBlock ≠ some a9) (x10 : sx.ownBlock ≠ some a10) (y9 : sy.ownBlock ≠ some a9) (y10 : sy.ownBlock ≠ some a10) (v0 v1 v2 v3 v4 v5 v6 v7 v8 v9 v10 v11 v12 u0 u1 u2 u3 u4 u5 u6 u7 u8 u9 u10 u11 u12 : Value) : HR w0 ((v.setCells a9 0 [v0, v1, v2, v3, v4, v5, v6, v7, v8, v9, v10, v11, v12]).setCells a10 0 [u0, u1, u2, u3, u4, u5, u6, u7, u8, u9, u10, u11, u12]) (a8 + 1) M g h c d cd b e a8 a9 a10 G T L L #[v0, v1, v2, v3, v4, v5, v6, v7, v8, v9, v10, v11, v12] #[u0, u1, u2, u3, u4, u5, u6, u7, u8, u9, u10, u11, u12] rc sx S sy S := by
  have u := upd_setCells9 a9 [v0, v1, v2, v3, v4, v5, v6, v7, v8, v9, v10, v11, v12] 0 v
  have up2 := upd_setCells9 a10 [u0, u1, u2, u3, u4, u5, u6, u7, u8, u9, u10, u11, u12] 0 (v.setCells a9 0 [v0, v1, v2, v3, v4, v5, v6, v7, v8, v9, v10, v11, v12])
  exact m.start (up2.below (u.below hb h9) h10) (up2.blk (Blk.all13 K9 v0 v1 v2 v3 v4 v5 v6 v7 v8 v9 v10 v11 v12) ne) (Blk.all13 (u.blk K10 (Ne.symm ne)) u0 u1 u2 u3 u4 u5 u6 u7 u8 u9 u10 u11 u12) ((ox.upd u x9).upd up2 x10) ((oy.upd u y9).upd up2 y10) h9 h10 ne x9 x10 y9 y10
end
end Go.Proofs.YthnbdeibjbicpaaGreat.PM
