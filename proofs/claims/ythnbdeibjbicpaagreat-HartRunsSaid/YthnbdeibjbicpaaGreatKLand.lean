/- The land of law09, plainly; the two memories in the midst of its making. No condition. -/
import Derived.Test.YthnbdeibjbicpaaGreatKHartB
import Derived.Test.YthnbdeibjbicpaaGreatKHartC
import Derived.Test.YthnbdeibjbicpaaGreatKRefD
import Derived.Test.YthnbdeibjbicpaaGreatKRefA
import Derived.Test.YthnbdeibjbicpaaGreatKTabC
import Derived.Deep.RegionWith
import Derived.Deep.CutRange
import Derived.Deep.CutBlock
namespace Go.Proofs.YthnbdeibjbicpaaGreat.PM
set_option linter.unusedVariables false
set_option linter.unusedSimpArgs false
open Go.RowKit
def pC : Page := ⟨2, true, false, 1, 0⟩
def pD : Page := ⟨2, false, true, 1, 0⟩
def rC : Page := ⟨3, true, false, 1, 2⟩
def rD : Page := ⟨3, false, true, 1, 2⟩
def tS : List Page := [stg 1, stg 1, stg 1, stg 1, stg 1, stg 1, nz, nz]
def tP : List Page := [pC, pC, pC, pC, pD, pD, nz, nz]
def tR : List Page := [rC, rC, rC, rC, rD, rD, nz, nz]
theorem stage_land : stageM (List.replicate 8 nz) 0 6 1 = (tS, 0) := by rfl
theorem pub_land : pubM tS 1 4 = (tP, 0) := by rfl
theorem rpub_land : rpubM tS 1 4 = (tP, 0) := by rfl
theorem ret_land : retM tP 1 2 = (tR, 0) := by rfl
def landT (r : Bool) : List Page := if r = true then tR else tP
def landG (gate : Nat) : Nat → Nat := (setM (setM (fun _ => 0) 0 80).1 1 gate).1
def putsM (f : Nat → Nat) (a : Nat) : Nat → List Nat → List Nat
  | 0, L => L
  | n + 1, L => (putM tS (putsM f a n L) (a + n) (f n)).1
theorem len_put9 (T : List Page) (L : List Nat) (x v : Nat) : (putM T L x v).1.length = L.length := by
  unfold putM
  split
  · split <;> simp
  · rfl
def landL (C D : List Nat) : List Nat := putsM (fun i => D[i]!) 144 (min D.length 32) (putsM (fun i => C[i]!) 80 (min C.length 64) (List.replicate 128 0))
theorem MB.put {G : Nat → Nat} {L : List Nat} (m : MB G L) (T : List Page) (x : Nat) {v : Nat} (hv : v < 4294967296) : MB G (putM T L x v).1 := by
  unfold putM
  split
  · split
    · exact m.set _ hv
    · exact m
  · exact m
theorem MB.puts {G : Nat → Nat} {L : List Nat} (m : MB G L) (f : Nat → Nat) (a n : Nat) (hf : ∀ i, i < n → f i < 4294967296) : MB G (putsM f a n L) := by
  induction n with
  | zero => exact m
  | succ n ih => unfold putsM; exact (ih fun i hi => hf i (by omega)).put _ _ (hf n (by omega))
theorem land_mb (C D : List Nat) (gate : Nat) (hC : ∀ i, i < C.length → C[i]! < 4294967296) (hD : ∀ i, i < D.length → D[i]! < 4294967296) (hg : gate < 4294967296) : MB (landG gate) (landL C D) := by
  have m0 : MB (landG gate) (List.replicate 128 0) := ⟨fun i hi => by
    show (if i = 1 then gate else if i = 0 then 80 else 0) < 4294967296
    split
    · exact hg
    · split <;> omega, fun x hx => by rw [List.eq_of_mem_replicate hx]; omega⟩
  unfold landL
  exact (m0.puts _ _ _ fun i hi => hC i (by omega)).puts _ _ _ fun i hi => hD i (by omega)
theorem upd_setCells9 (g : Nat) : ∀ (vs : List Value) (o : Nat) (w : World), Upd g w (w.setCells g o vs)
  | [], _, w => Upd.refl g w
  | v :: vs, o, w => by
    have := upd_setCells9 g vs (o + 1) (w.setCell ⟨g, o, none⟩ v)
    exact (((Upd.refl g w).setCell o v)).trans this
theorem Mem.upd9 {w w' : World} {M g h c d cd : Nat} {G : Nat → Nat} {T : List Page} {L : List Nat} (m : Mem w M g h c d cd G T L) {k : Nat} (u : Upd k w w') (h1 : M ≠ k) (h2 : g ≠ k) (h3 : h ≠ k) (h4 : d ≠ k) : Mem w' M g h c d cd G T L :=
  ⟨m.ten.upd u h1, m.tab.upd u h2 h3, m.wds.upd u h4, m.len, m.cap, m.Mg, m.Mh, m.Md, m.gd, m.hd⟩
theorem RM.upd9 {w w' : World} {b e : Nat} {T : List Page} {L : List Nat} (r : RM w b e T L) {k : Nat} (u : Upd k w w') (h1 : b ≠ k) (h2 : e ≠ k) : RM w' b e T L :=
  ⟨u.pgs r.pgs h1, r.wds.upd u h2, r.few, r.len⟩
theorem Blk.ten_set9 {w : World} {g : Nat} {t : TypeId} {a0 a1 a2 a3 a4 a5 a6 a7 a8 a9 : Value} (h : Blk w g t #[a0, a1, a2, a3, a4, a5, a6, a7, a8, a9]) (v0 v1 v2 v3 v4 v5 v6 v7 v8 v9 : Value) :
    Blk (w.setCells g 0 [v0, v1, v2, v3, v4, v5, v6, v7, v8, v9]) g t #[v0, v1, v2, v3, v4, v5, v6, v7, v8, v9] := by
  have := (((((((((h.set_ 0 v0).set_ 1 v1).set_ 2 v2).set_ 3 v3).set_ 4 v4).set_ 5 v5).set_ 6 v6).set_ 7 v7).set_ 8 v8).set_ 9 v9
  simpa [World.setCells] using this
abbrev rmc (G : Nat → Nat) (b cb : Nat) (T : List Page) (e ce : Nat) (L : List Nat) : Array Value :=
  #[.int .u32 (G 0 : Int), .int .u32 (G 1 : Int), .int .u32 (G 2 : Int), .int .u32 (G 3 : Int), .int .u32 (G 4 : Int), .int .u32 (G 5 : Int), .int .u32 (G 6 : Int), .int .u32 (G 7 : Int), .slice (some ⟨b, 0, none⟩) T.length cb, .slice (some ⟨e, 0, none⟩) L.length ce]
/-- The blocks part. -/
structure Apart (n0 M g h d B b e : Nat) : Prop where
  bM : b ≠ M
  bh : b ≠ h
  bd : b ≠ d
  eM : e ≠ M
  eh : e ≠ h
  ed : e ≠ d
  BM : B ≠ M
  Bg : B ≠ g
  Bh : B ≠ h
  Bd : B ≠ d
  Bb : B ≠ b
  Be : B ≠ e
  lM : n0 ≤ M
  lg : n0 ≤ g
  lh : n0 ≤ h
  ld : n0 ≤ d
  lB : n0 ≤ B
  lb : n0 ≤ b
  le : n0 ≤ e
/-- Both memories in the midst of the work; the reference's lies in a box; all is newer than the world W0. -/
structure MD (W0 w : World) (M g h c d cd B : Nat) (G : Nat → Nat) (T : List Page) (L : List Nat) (G2 : Nat → Nat) (T2 : List Page) (L2 : List Nat) (b cb e ce : Nat) : Prop where
  mem : Mem w M g h c d cd G T L
  rm : RM w b e T2 L2
  ap : Apart W0.heap.size M g h d B b e
  box : Blk w B 36 (rmc G2 b cb T2 e ce L2)
  bel : Below W0.heap.size W0 w
section
variable {W0 w w' : World} {M g h c d cd B : Nat} {G : Nat → Nat} {T : List Page} {L : List Nat} {G2 : Nat → Nat} {T2 : List Page} {L2 : List Nat} {b cb e ce : Nat}
theorem MD.kept (m : MD W0 w M g h c d cd B G T L G2 T2 L2 b cb e ce) (hb : Below w.heap.size w w') : MD W0 w' M g h c d cd B G T L G2 T2 L2 b cb e ce :=
  ⟨m.mem.kept hb, m.rm.kept hb, m.ap, m.box.kept hb, m.bel.trans (hb.mono m.bel.size)⟩
theorem MD.drewN (m : MD W0 w M g h c d cd B G T L G2 T2 L2 b cb e ce) (n : Nat) : MD W0 (w.drewN n) M g h c d cd B G T L G2 T2 L2 b cb e ce := m.kept (below_drewN (Below.refl _ _) n)
/-- The program's memory was turned. -/
theorem MD.prog (m : MD W0 w M g h c d cd B G T L G2 T2 L2 b cb e ce) {G' : Nat → Nat} {T' : List Page} {L' : List Nat} (m' : Mem w' M g h c d cd G' T' L') (u : Upd3 M h d w w') : MD W0 w' M g h c d cd B G' T' L' G2 T2 L2 b cb e ce :=
  have a := m.ap
  ⟨m', ⟨⟨Nat.lt_of_lt_of_le m.rm.pgs.lt u.size, fun j v hj => (World.cell?_of_block (w := w) (a := ⟨b, j, none⟩) (u.block b m.rm.pgs.lt a.bM a.bh a.bd)).trans (m.rm.pgs.cells j v hj), fun o => (World.frozen?_of_block (w := w) (a := ⟨b, o, none⟩) (u.block b m.rm.pgs.lt a.bM a.bh a.bd)).trans (m.rm.pgs.free o)⟩, m.rm.wds.block u.size (u.block e m.rm.wds.lt a.eM a.eh a.ed), m.rm.few, m.rm.len⟩, a, u.blk m.box a.BM a.Bh a.Bd, u.below m.bel a.lM a.lh a.ld⟩
/-- The reference's table was turned, and stored. -/
theorem MD.refT (m : MD W0 w M g h c d cd B G T L G2 T2 L2 b cb e ce) {T' : List Page} {b' cb' : Nat} (hl : T'.length = T2.length) (p : Pgs w' b' T') (hb : b' = b ∨ w.heap.size ≤ b') (u : Below w.heap.size w w') : MD W0 (w'.setCell ⟨B, 8, none⟩ (.slice (some ⟨b', 0, none⟩) T'.length cb')) M g h c d cd B G T L G2 T' L2 b' cb' e ce := by
  have a := m.ap
  have q1 := m.mem.ten.lt
  have q2 := m.mem.tab.pgs.lt
  have q3 := m.mem.wds.lt
  have q4 := m.box.lt
  have q5 := m.bel.size
  have a1 := a.bM
  have a2 := a.bh
  have a3 := a.bd
  have a4 := a.Bb
  have a5 := a.lb
  have us := (Upd.refl B w').setCell 8 (.slice (some ⟨b', 0, none⟩) T'.length cb')
  refine ⟨(m.mem.kept u).upd9 us a.BM.symm a.Bg.symm a.Bh.symm a.Bd.symm, ⟨us.pgs p (by omega), ((m.rm.wds.kept u).upd us a.Be.symm), by rw [hl]; exact m.rm.few, by rw [hl]; exact m.rm.len⟩, ⟨by omega, by omega, by omega, a.eM, a.eh, a.ed, a.BM, a.Bg, a.Bh, a.Bd, by omega, a.Be, a.lM, a.lg, a.lh, a.ld, a.lB, by omega, a.le⟩, ?_, us.below (m.bel.trans (u.mono m.bel.size)) a.lB⟩
  have k := (m.box.kept u).set_ 8 (.slice (some ⟨b', 0, none⟩) T'.length cb')
  simpa [rmc] using k
/-- The reference's words were turned, and all stored. -/
theorem MD.refL (m : MD W0 w M g h c d cd B G T L G2 T2 L2 b cb e ce) {L' : List Nat} {e' ce' : Nat} (hl : L'.length = L2.length) (p : Wds w' e' L') (he : e' = e ∨ w.heap.size ≤ e') (u : Below w.heap.size w w') : MD W0 (w'.setCells B 0 (rmc G2 b cb T2 e' ce' L').toList) M g h c d cd B G T L G2 T2 L' b cb e' ce' := by
  have a := m.ap
  have q1 := m.mem.ten.lt
  have q2 := m.mem.tab.pgs.lt
  have q3 := m.mem.wds.lt
  have q4 := m.box.lt
  have q5 := m.bel.size
  have a1 := a.eM
  have a2 := a.eh
  have a3 := a.ed
  have a4 := a.Be
  have a5 := a.le
  have us := upd_setCells9 B (rmc G2 b cb T2 e' ce' L').toList 0 w'
  exact ⟨(m.mem.kept u).upd9 us a.BM.symm a.Bg.symm a.Bh.symm a.Bd.symm, ⟨us.pgs (m.rm.pgs.kept u) a.Bb.symm, p.upd us (by omega), m.rm.few, by rw [hl]; exact m.rm.len⟩, ⟨a.bM, a.bh, a.bd, by omega, by omega, by omega, a.BM, a.Bg, a.Bh, a.Bd, a.Bb, by omega, a.lM, a.lg, a.lh, a.ld, a.lB, a.lb, by omega⟩, Blk.ten_set9 (m.box.kept u) _ _ _ _ _ _ _ _ _ _, us.below (m.bel.trans (u.mono m.bel.size)) a.lB⟩
/-- The reference's gates were turned, and all stored. -/
theorem MD.refG (m : MD W0 w M g h c d cd B G T L G2 T2 L2 b cb e ce) (G' : Nat → Nat) (u : Below w.heap.size w w') : MD W0 (w'.setCells B 0 (rmc G' b cb T2 e ce L2).toList) M g h c d cd B G T L G' T2 L2 b cb e ce := by
  have a := m.ap
  have us := upd_setCells9 B (rmc G' b cb T2 e ce L2).toList 0 w'
  exact ⟨(m.mem.kept u).upd9 us a.BM.symm a.Bg.symm a.Bh.symm a.Bd.symm, (m.rm.kept u).upd9 us a.Bb.symm a.Be.symm, a, Blk.ten_set9 (m.box.kept u) _ _ _ _ _ _ _ _ _ _, us.below (m.bel.trans (u.mono m.bel.size)) a.lB⟩
end
/-- What made leaves. -/
structure Land (w w' : World) (M g h c d cd : Nat) (G : Nat → Nat) (T : List Page) (L : List Nat) (b e : Nat) : Prop where
  mem : Mem w' M g h c d cd G T L
  rm : RM w' b e T L
  bel : Below w.heap.size w w'
  bM : b ≠ M
  bh : b ≠ h
  bd : b ≠ d
  eM : e ≠ M
  eh : e ≠ h
  ed : e ≠ d
  lM : w.heap.size ≤ M
  lg : w.heap.size ≤ g
  lh : w.heap.size ≤ h
  ld : w.heap.size ≤ d
  lb : w.heap.size ≤ b
  le : w.heap.size ≤ e
def Made (w : World) (C D : List Nat) (gate : Nat) (ret : Bool) (en : Ending) (w' : World) : Prop :=
  ∃ M g h c d cd b cb e ce, en = .returned (.tuple #[.pointer (some ⟨M, 0, none⟩), PM.rm (landG gate) b cb (landT ret) e ce (landL C D)]) ∧ Land w w' M g h c d cd (landG gate) (landT ret) (landL C D) b e
end Go.Proofs.YthnbdeibjbicpaaGreat.PM

/- law09's made. Conditions: the rows' cells. -/
namespace Go.Proofs.YthnbdeibjbicpaaGreat.PM
set_option linter.unusedVariables false
set_option linter.unusedSimpArgs false
open Go.RowKit
set_option maxRecDepth 100000 in
set_option maxHeartbeats 16000000 in
theorem made_c (w : World) (s1 : Option Addr) (C : List Nat) (c1 : Nat) (s2 : Option Addr) (D : List Nat) (c2 gate : Nat) (ret : Bool) (h1 : Stk w s1 C) (h2 : Stk w s2 D) :
    Calls Tryz.prog 5 #[.agg #[.slice s1 C.length c1, .slice s2 D.length c2, .int .u32 (gate : Int), .bool ret]] w fun en w' => Made w C D gate ret en w' := by
  obtain ⟨T1, hT1⟩ : ∃ T1, T1 = tS := ⟨_, rfl⟩
  obtain ⟨T2, hT2⟩ : ∃ T2, T2 = tP := ⟨_, rfl⟩
  generalize hW : (w.alloc (.cells #[.slice s1 C.length c1, .slice s2 D.length c2, .int .u32 (gate : Int), .bool ret] 25)).alloc (.cells #[.int .u32 0, .int .u32 0, .int .u32 0, .int .u32 0, .int .u32 0, .int .u32 0, .int .u32 0, .int .u32 0, .slice none 0 0, .slice none 0 0] 36) = W0
  have KL : Hid (Blk W0 w.heap.size 25 #[.slice s1 C.length c1, .slice s2 D.length c2, .int .u32 (gate : Int), .bool ret]) := Lib.hid (hW ▸ (Blk.new w _ _).alloc _)
  have KR : Hid (Blk W0 (w.heap.size + 1) 36 #[.int .u32 0, .int .u32 0, .int .u32 0, .int .u32 0, .int .u32 0, .int .u32 0, .int .u32 0, .int .u32 0, .slice none 0 0, .slice none 0 0]) := Lib.hid (by
    have k := Blk.new (w.alloc (.cells #[.slice s1 C.length c1, .slice s2 D.length c2, .int .u32 (gate : Int), .bool ret] 25)) 36 #[.int .u32 0, .int .u32 0, .int .u32 0, .int .u32 0, .int .u32 0, .int .u32 0, .int .u32 0, .int .u32 0, .slice none 0 0, .slice none 0 0]
    have e : (w.alloc (.cells #[.slice s1 C.length c1, .slice s2 D.length c2, .int .u32 (gate : Int), .bool ret] 25)).heap.size = w.heap.size + 1 := by simp
    rw [e] at k
    exact hW ▸ k)
  have BZ : Hid (Below w.heap.size w W0 ∧ W0.heap.size = w.heap.size + 2) := Lib.hid (hW ▸ ⟨((Below.refl _ w).alloc (Nat.le_refl _) _).alloc (by simp) _, by simp⟩)
  have H1 : Hid (Stk W0 s1 C) := Lib.hid (h1.kept BZ.out.1)
  have H2 : Hid (Stk W0 s2 D) := Lib.hid (h2.kept BZ.out.1)
  have KW := Lib.hid hW
  clear h1 h2 hW
  go_enter Tryz.func5, Tryz.ntmps5
  go_wp2_with fail
  (try rw [KW.out])
  refine (newmem_c _ 8).mono ?_
  rintro en w1 ⟨M, g, h, c, d, cd, rfl, hM, hg, hh, hd, m, hb1⟩
  have HM := Lib.hid (And.intro m hb1)
  have HL := Lib.hid (show M < w1.heap.size ∧ g < w1.heap.size ∧ h < w1.heap.size ∧ d < w1.heap.size from ⟨m.ten.lt, m.tab.lt, m.tab.pgs.lt, m.wds.lt⟩)
  have LO := Lib.hid (show W0.heap.size ≤ M ∧ W0.heap.size ≤ g ∧ W0.heap.size ≤ h ∧ W0.heap.size ≤ d from ⟨hM, hg, hh, hd⟩)
  clear m hb1 hM hg hh hd
  go_wp2_with fail
  refine (rnewmem_c w1 8).mono ?_
  rintro en w2 ⟨b, cb, e, ce, rfl, hbb, hbe, hne, r, hb2⟩
  obtain ⟨l1, l2, l3, l4⟩ := HL.out
  obtain ⟨o1, o2, o3, o4⟩ := LO.out
  have l5 := r.pgs.lt
  have l6 := r.wds.lt
  have s2' := hb2.size
  have s1' := HM.out.2.size
  have M0 : Hid (MD W0 (w2.alloc (.cells #[.int .u32 ((fun _ => 0 : Nat → Nat) 0 : Int), .int .u32 ((fun _ => 0 : Nat → Nat) 1 : Int), .int .u32 ((fun _ => 0 : Nat → Nat) 2 : Int), .int .u32 ((fun _ => 0 : Nat → Nat) 3 : Int), .int .u32 ((fun _ => 0 : Nat → Nat) 4 : Int), .int .u32 ((fun _ => 0 : Nat → Nat) 5 : Int), .int .u32 ((fun _ => 0 : Nat → Nat) 6 : Int), .int .u32 ((fun _ => 0 : Nat → Nat) 7 : Int), .slice (some ⟨b, 0, none⟩) (List.replicate (newLen 8) nz).length cb, .slice (some ⟨e, 0, none⟩) (List.replicate (16 * newLen 8) 0).length ce] 36)) M g h c d cd w2.heap.size (fun _ => 0) (List.replicate (newLen 8) nz) (List.replicate (16 * newLen 8) 0) (fun _ => 0) (List.replicate (newLen 8) nz) (List.replicate (16 * newLen 8) 0) b cb e ce) := Lib.hid
    ⟨(HM.out.1.kept hb2).alloc _, r.alloc _, ⟨by omega, by omega, by omega, by omega, by omega, by omega, by omega, by omega, by omega, by omega, by omega, by omega, by omega, by omega, by omega, by omega, by omega, by omega, by omega⟩, Blk.new _ _ _, ((HM.out.2.trans (hb2.mono s1')).alloc (by omega) _)⟩
  generalize hT0 : List.replicate (newLen 8) nz = T0 at M0 ⊢
  generalize hL0 : List.replicate (16 * newLen 8) 0 = L0 at M0 ⊢
  generalize hG0 : (fun _ => 0 : Nat → Nat) = G0 at M0 ⊢
  replace hT0 : T0 = List.replicate 8 nz := hT0.symm
  replace hL0 : L0 = List.replicate 128 0 := hL0.symm
  clear hb2 r HM HL LO l1 l2 l3 l4 l5 l6 s1' s2' o1 o2 o3 o4 hbb hbe hne
  unfold PM.rm
  generalize hWX : w2.alloc (.cells #[.int .u32 (G0 0 : Int), .int .u32 (G0 1 : Int), .int .u32 (G0 2 : Int), .int .u32 (G0 3 : Int), .int .u32 (G0 4 : Int), .int .u32 (G0 5 : Int), .int .u32 (G0 6 : Int), .int .u32 (G0 7 : Int), .slice (some ⟨b, 0, none⟩) T0.length cb, .slice (some ⟨e, 0, none⟩) L0.length ce] 36) = X0 at M0
  have hlen1 : T1.length = T0.length := by rw [hT0, hT1]; rfl
  have hlen2 : T2.length = T1.length := by rw [hT2, hT1]; rfl
  have PG : ∀ W G T L, Mem W M g h c d cd G T L → Calls Tryz.prog 14 #[.pointer (some ⟨M, 0, none⟩)] W fun e w' => e = .returned (.pointer (some ⟨g, 0, none⟩)) ∧ W = w' := fun W G T L q => (pages_c q).mono fun e w' r => ⟨r.1, r.2.symm⟩
  have ST : ∀ W, Tab W g h c T0 → Calls Tryz.prog 15 #[.pointer (some ⟨g, 0, none⟩), .int .i64 0, .int .i64 6, .int .u16 1] W fun e w' => e = .returned (.int .i64 0) ∧ Tab w' g h c T1 ∧ Upd h W w' := fun W q => by
    have := stage_c W g h c T0 q 0 6 1
    rw [hT0, stage_land, ← hT1] at this
    exact this
  have RST : ∀ W, Pgs W b T0 → Calls Tryz.prog 16 #[.agg #[.slice (some ⟨b, 0, none⟩) T0.length cb], .int .i64 0, .int .i64 6, .int .u16 1] W fun e w' => ∃ b' c', e = .returned (.tuple #[.agg #[.slice (some ⟨b', 0, none⟩) T1.length c'], .int .i64 0]) ∧ Pgs w' b' T1 ∧ (b' = b ∨ W.heap.size ≤ b') ∧ Below W.heap.size W w' := fun W q => by
    have := rstage_c W b cb T0 q (by rw [hT0]; decide) 0 6 1
    have e1 : stageM T0 0 6 1 = (T1, 0) := by rw [hT0, stage_land, hT1]
    rw [e1] at this
    exact this
  have PB : ∀ W, Tab W g h c T1 → Calls Tryz.prog 19 #[.pointer (some ⟨g, 0, none⟩), .int .u16 1, .int .i64 4] W fun e w' => e = .returned (.int .i64 0) ∧ Tab w' g h c T2 ∧ Upd h W w' := fun W q => by
    have := pub_c W g h c T1 q 1 4
    rw [hT1, pub_land, ← hT2] at this
    exact this
  have RPB : ∀ W b cb, Pgs W b T1 → Calls Tryz.prog 20 #[.agg #[.slice (some ⟨b, 0, none⟩) T1.length cb], .int .u16 1, .int .i64 4] W fun e w' => ∃ b' c', e = .returned (.tuple #[.agg #[.slice (some ⟨b', 0, none⟩) T2.length c'], .int .i64 0]) ∧ Pgs w' b' T2 ∧ (b' = b ∨ W.heap.size ≤ b') ∧ Below W.heap.size W w' := fun W b cb q => by
    have := rpub_c W b cb T1 q (by rw [hT1]; decide) 1 4
    have e1 : rpubM T1 1 4 = (T2, 0) := by rw [hT1, rpub_land, hT2]
    rw [e1] at this
    exact this
  replace hlen1 := Lib.hid hlen1
  replace hlen2 := Lib.hid hlen2
  replace hT0 := Lib.hid hT0
  replace hT1 := Lib.hid hT1
  replace hT2 := Lib.hid hT2
  replace hL0 := Lib.hid hL0
  replace hG0 := Lib.hid hG0
  replace hWX := Lib.hid hWX
  replace PG := Lib.hid PG
  replace ST := Lib.hid ST
  replace RST := Lib.hid RST
  replace PB := Lib.hid PB
  replace RPB := Lib.hid RPB
  go_wp2_with fail
  (try rw [hWX.out])
  refine (PG.out _ _ _ _ M0.out.mem).mono ?_
  rintro en wq ⟨rfl, rfl⟩
  go_wp2_with fail
  refine (ST.out _ M0.out.mem.tab).mono ?_
  rintro en x1 ⟨rfl, tt, u1⟩
  have MM := Lib.hid (M0.out.prog (M0.out.mem.table tt u1 hlen1.out) (Upd3.ofh u1))
  clear tt u1 M0
  have t8 : x1.cell? ⟨w2.heap.size, 8, none⟩ = some (.slice (some ⟨b, 0, none⟩) T0.length cb) := MM.out.box.cell 8
  go_wp2_with fail
  refine (RST.out _ MM.out.rm.pgs).mono ?_
  rintro en x2 ⟨b', cb', rfl, pp, hb, bb⟩
  have M2 := Lib.hid (MM.out.refT (cb' := cb') hlen1.out pp hb bb)
  have k2 := MM.out.box.kept bb
  have t8' : x2.cell? ⟨w2.heap.size, 8, none⟩ = some (.slice (some ⟨b, 0, none⟩) T0.length cb) := k2.cell 8
  have ft8 : x2.frozen? ⟨w2.heap.size, 8, none⟩ = false := k2.frozen 8
  clear pp hb bb k2 t8 MM
  generalize hX2 : x2.setCell ⟨w2.heap.size, 8, none⟩ (.slice (some ⟨b', 0, none⟩) T1.length cb') = X2 at M2
  have KX2 := Lib.hid hX2
  clear hX2
  go_upto_block 0 with fail
  (try rw [KX2.out])
  go_cut [] from 20 to 53 (fun wx => Hid (∃ L et cet, L = putsM (fun i => C[i]!) 80 (min C.length 64) L0 ∧ MD W0 wx M g h c d cd w2.heap.size G0 T1 L G0 T1 L b' cb' et cet))
  case first =>
    go_wp2_with fail
    go_loopg [6] 64 (fun gg s6 wr => ∃ kk : Nat, kk ≤ min C.length 64 ∧ 64 - kk ≤ gg ∧ s6 = .int .i64 (kk : Int) ∧ Hid (∃ L et cet, L = putsM (fun i => C[i]!) 80 kk L0 ∧ MD W0 wr M g h c d cd w2.heap.size G0 T1 L G0 T1 L b' cb' et cet))
    case atStart => exact ⟨0, Nat.zero_le _, by omega, rfl, Lib.hid ⟨_, _, _, rfl, M2.out⟩⟩
    case round =>
      obtain ⟨kk, hkk, hg, rfl, MW⟩ := hrel
      obtain ⟨L, et, cet, hL, m⟩ := MW.out
      have HLk := Lib.hid hL
      have MK := Lib.hid m
      clear hL m MW
      have KLr := Lib.hid (KL.out.kept MK.out.bel)
      by_cases hlt : kk < C.length
      · have hltz : (kk : Int) < (C.length : Int) := by omega
        by_cases h64 : kk < 64
        · have h64z : (kk : Int) < 64 := by omega
          obtain ⟨ba, oa, hsrc, hba, hc⟩ := H1.out kk hlt
          have HSRC := Lib.hid hsrc
          obtain ⟨x, hx⟩ : ∃ x, C[kk]! = x := ⟨_, rfl⟩
          rw [hx] at hc
          have HXX := Lib.hid hx
          have ex : wr.cell? ⟨ba, oa + kk, none⟩ = some (.int .u32 (x : Int)) := (MK.out.bel.cell (p := ⟨ba, oa + kk, none⟩) hba).trans hc
          have HC := Lib.hid hc
          have HBA := Lib.hid hba
          clear hx hc hsrc
          have l0 : wr.cell? ⟨w.heap.size, 0, none⟩ = some (.slice (some ⟨ba, oa, none⟩) C.length c1) := by
            have := KLr.out.cell 0
            rw [← HSRC.out]
            exact this
          have hs80 : ((80 + kk : Nat) : Int) = 80 + (kk : Int) := by omega
          have PT : ∀ W, Mem W M g h c d cd G0 T1 L → Calls Tryz.prog 17 #[.pointer (some ⟨M, 0, none⟩), .int .u32 (80 + (kk : Int)), .int .u32 (x : Int)] W fun e w' => e = .returned (.int .i64 ((putM T1 L (80 + kk) x).2 : Int)) ∧ Mem w' M g h c d cd G0 T1 (putM T1 L (80 + kk) x).1 ∧ Upd d W w' := fun W q => by
            have := put_c q (80 + kk) x (by omega)
            rw [hs80] at this
            exact this
          have RPT : ∀ W, RM W b' et T1 L → Calls Tryz.prog 18 #[.agg #[.int .u32 (G0 0 : Int), .int .u32 (G0 1 : Int), .int .u32 (G0 2 : Int), .int .u32 (G0 3 : Int), .int .u32 (G0 4 : Int), .int .u32 (G0 5 : Int), .int .u32 (G0 6 : Int), .int .u32 (G0 7 : Int), .slice (some ⟨b', 0, none⟩) T1.length cb', .slice (some ⟨et, 0, none⟩) L.length cet], .int .u32 (80 + (kk : Int)), .int .u32 (x : Int)] W fun en w' => RAns W G0 b' cb' T1 et (putM T1 L (80 + kk) x).1 (.int .i64 ((putM T1 L (80 + kk) x).2 : Int)) en w' := fun W q => by
            have := rput_c W G0 b' cb' et cet T1 L q (80 + kk) x (by omega)
            rw [hs80] at this
            exact this
          have hln : (putM T1 L (80 + kk) x).1.length = L.length := len_put9 _ _ _ _
          have hnx : (putM T1 L (80 + kk) x).1 = putsM (fun i => C[i]!) 80 (kk + 1) L0 := by
            rw [HLk.out]
            show _ = (putM tS (putsM (fun i => C[i]!) 80 kk L0) (80 + kk) (C[kk]!)).1
            rw [HXX.out, hT1.out]
          have w1 : IntKind.u32.wrap (kk : Int) = (kk : Int) := by unfold IntKind.wrap; simp [IntKind.bits, IntKind.signed]; omega
          have w2' : IntKind.u32.wrap (80 + (kk : Int)) = 80 + (kk : Int) := by unfold IntKind.wrap; simp [IntKind.bits, IntKind.signed]; omega
          generalize putM T1 L (80 + kk) x = Q at PT RPT hln hnx
          obtain ⟨Lx, qx⟩ := Q
          simp only at PT RPT hln hnx
          replace PT := Lib.hid PT
          replace RPT := Lib.hid RPT
          replace hln := Lib.hid hln
          replace hnx := Lib.hid hnx
          replace w1 := Lib.hid w1
          replace w2' := Lib.hid w2'
          clear hs80 hkk
          go_wp2_with fail
          refine (PT.out _ MK.out.mem).mono ?_
          rintro en y1 ⟨rfl, m1, u1⟩
          have MP := Lib.hid (MK.out.prog m1 (Upd3.ofd u1))
          have KLp := Lib.hid (KL.out.kept MP.out.bel)
          clear m1 u1 ex l0
          have l0 : y1.cell? ⟨w.heap.size, 0, none⟩ = some (.slice (some ⟨ba, oa, none⟩) C.length c1) := by
            have := KLp.out.cell 0
            rw [← HSRC.out]
            exact this
          have ex : y1.cell? ⟨ba, oa + kk, none⟩ = some (.int .u32 (x : Int)) := (MP.out.bel.cell (p := ⟨ba, oa + kk, none⟩) HBA.out).trans HC.out
          obtain ⟨r0, r1, r2, r3, r4, r5, r6, r7, r8, r9⟩ := blkc10 MP.out.box
          have zw1 := w1.out
          have zw2 := w2'.out
          go_wp2_with fail
          go_region_with (go_at_call 18; (with_reducible refine (RPT.out _ ?_).mono ?_); (first | exact MP.out.rm | exact (MP.out.drewN 1).rm); rintro en y4 ⟨e2, ce2, rfl, he2, pw, hb4⟩; have kx := ((MP.out.drewN 1).box.kept hb4); obtain ⟨z0, fz0, z1, fz1, z2, fz2, z3, fz3, z4, fz4, z5, fz5, z6, fz6, z7, fz7, z8, fz8, z9, fz9⟩ := blkf10 kx; have M5 : Hid (MD W0 (y4.setCells w2.heap.size 0 [.int .u32 (G0 0 : Int), .int .u32 (G0 1 : Int), .int .u32 (G0 2 : Int), .int .u32 (G0 3 : Int), .int .u32 (G0 4 : Int), .int .u32 (G0 5 : Int), .int .u32 (G0 6 : Int), .int .u32 (G0 7 : Int), .slice (some ⟨b', 0, none⟩) T1.length cb', .slice (some ⟨e2, 0, none⟩) Lx.length ce2]) M g h c d cd w2.heap.size G0 T1 Lx G0 T1 Lx b' cb' e2 ce2) := Lib.hid ((MP.out.drewN 1).refL (ce' := ce2) hln.out pw he2 hb4); clear pw he2 hb4 kx; unfold PM.rm)
          all_goals
            clear z0 fz0 z1 fz1 z2 fz2 z3 fz3 z4 fz4 z5 fz5 z6 fz6 z7 fz7 z8 fz8 z9 fz9 r0 r1 r2 r3 r4 r5 r6 r7 r8 r9 l0 ex zw1 zw2
            go_wp2_with fail
            go_roundg (64 - (kk + 1))
            case measure => omega
            case rel => exact ⟨kk + 1, by omega, by omega, by go_num, Lib.hid ⟨Lx, e2, ce2, hnx.out, M5.out⟩⟩
        · have h64z : ¬ (kk : Int) < 64 := by omega
          have l0 : wr.cell? ⟨w.heap.size, 0, none⟩ = some (.slice s1 C.length c1) := KLr.out.cell 0
          have hkn : kk = min C.length 64 := by omega
          replace hkn := Lib.hid hkn
          go_wp2_with fail
          go_meet
          case rel => exact Lib.hid ⟨L, et, cet, by rw [← hkn.out]; exact HLk.out, MK.out⟩
      · have hltz : ¬ (kk : Int) < (C.length : Int) := by omega
        have l0 : wr.cell? ⟨w.heap.size, 0, none⟩ = some (.slice s1 C.length c1) := KLr.out.cell 0
        have hkn : kk = min C.length 64 := by omega
        replace hkn := Lib.hid hkn
        go_wp2_with fail
        go_meet
        case rel => exact Lib.hid ⟨L, et, cet, by rw [← hkn.out]; exact HLk.out, MK.out⟩
  case rest =>
  obtain ⟨LA, ea, ca, hq, mq⟩ := hcut.out
  have hLA := Lib.hid hq
  have MA := Lib.hid mq
  clear hq mq hcut M2
  go_upto_block 2 with fail
  (try rw [KXA.out])
  go_cut [] from 54 to 87 (fun wx => Hid (∃ L et cet, L = putsM (fun i => D[i]!) 144 (min D.length 32) LA ∧ MD W0 wx M g h c d cd w2.heap.size G0 T1 L G0 T1 L b' cb' et cet))
  case first =>
    go_wp2_with fail
    go_loopg [7] 32 (fun gg s6 wr => ∃ kk : Nat, kk ≤ min D.length 32 ∧ 32 - kk ≤ gg ∧ s6 = .int .i64 (kk : Int) ∧ Hid (∃ L et cet, L = putsM (fun i => D[i]!) 144 kk LA ∧ MD W0 wr M g h c d cd w2.heap.size G0 T1 L G0 T1 L b' cb' et cet))
    case atStart => exact ⟨0, Nat.zero_le _, by omega, rfl, Lib.hid ⟨_, _, _, rfl, MA.out⟩⟩
    case round =>
      obtain ⟨kk, hkk, hg, rfl, MW⟩ := hrel
      obtain ⟨L, et, cet, hL, m⟩ := MW.out
      have HLk := Lib.hid hL
      have MK := Lib.hid m
      clear hL m MW
      have KLr := Lib.hid (KL.out.kept MK.out.bel)
      by_cases hlt : kk < D.length
      · have hltz : (kk : Int) < (D.length : Int) := by omega
        by_cases h64 : kk < 32
        · have h64z : (kk : Int) < 32 := by omega
          obtain ⟨ba, oa, hsrc, hba, hc⟩ := H2.out kk hlt
          have HSRC := Lib.hid hsrc
          obtain ⟨x, hx⟩ : ∃ x, D[kk]! = x := ⟨_, rfl⟩
          rw [hx] at hc
          have HXX := Lib.hid hx
          have ex : wr.cell? ⟨ba, oa + kk, none⟩ = some (.int .u32 (x : Int)) := (MK.out.bel.cell (p := ⟨ba, oa + kk, none⟩) hba).trans hc
          have HC := Lib.hid hc
          have HBA := Lib.hid hba
          clear hx hc hsrc
          have l1 : wr.cell? ⟨w.heap.size, 1, none⟩ = some (.slice (some ⟨ba, oa, none⟩) D.length c2) := by
            have := KLr.out.cell 1
            rw [← HSRC.out]
            exact this
          have hs80 : ((144 + kk : Nat) : Int) = 144 + (kk : Int) := by omega
          have PT : ∀ W, Mem W M g h c d cd G0 T1 L → Calls Tryz.prog 17 #[.pointer (some ⟨M, 0, none⟩), .int .u32 (144 + (kk : Int)), .int .u32 (x : Int)] W fun e w' => e = .returned (.int .i64 ((putM T1 L (144 + kk) x).2 : Int)) ∧ Mem w' M g h c d cd G0 T1 (putM T1 L (144 + kk) x).1 ∧ Upd d W w' := fun W q => by
            have := put_c q (144 + kk) x (by omega)
            rw [hs80] at this
            exact this
          have RPT : ∀ W, RM W b' et T1 L → Calls Tryz.prog 18 #[.agg #[.int .u32 (G0 0 : Int), .int .u32 (G0 1 : Int), .int .u32 (G0 2 : Int), .int .u32 (G0 3 : Int), .int .u32 (G0 4 : Int), .int .u32 (G0 5 : Int), .int .u32 (G0 6 : Int), .int .u32 (G0 7 : Int), .slice (some ⟨b', 0, none⟩) T1.length cb', .slice (some ⟨et, 0, none⟩) L.length cet], .int .u32 (144 + (kk : Int)), .int .u32 (x : Int)] W fun en w' => RAns W G0 b' cb' T1 et (putM T1 L (144 + kk) x).1 (.int .i64 ((putM T1 L (144 + kk) x).2 : Int)) en w' := fun W q => by
            have := rput_c W G0 b' cb' et cet T1 L q (144 + kk) x (by omega)
            rw [hs80] at this
            exact this
          have hln : (putM T1 L (144 + kk) x).1.length = L.length := len_put9 _ _ _ _
          have hnx : (putM T1 L (144 + kk) x).1 = putsM (fun i => D[i]!) 144 (kk + 1) LA := by
            rw [HLk.out]
            show _ = (putM tS (putsM (fun i => D[i]!) 144 kk LA) (144 + kk) (D[kk]!)).1
            rw [HXX.out, hT1.out]
          have w1 : IntKind.u32.wrap (kk : Int) = (kk : Int) := by unfold IntKind.wrap; simp [IntKind.bits, IntKind.signed]; omega
          have w2' : IntKind.u32.wrap (144 + (kk : Int)) = 144 + (kk : Int) := by unfold IntKind.wrap; simp [IntKind.bits, IntKind.signed]; omega
          generalize putM T1 L (144 + kk) x = Q at PT RPT hln hnx
          obtain ⟨Lx, qx⟩ := Q
          simp only at PT RPT hln hnx
          replace PT := Lib.hid PT
          replace RPT := Lib.hid RPT
          replace hln := Lib.hid hln
          replace hnx := Lib.hid hnx
          replace w1 := Lib.hid w1
          replace w2' := Lib.hid w2'
          clear hs80 hkk
          go_wp2_with fail
          refine (PT.out _ MK.out.mem).mono ?_
          rintro en y1 ⟨rfl, m1, u1⟩
          have MP := Lib.hid (MK.out.prog m1 (Upd3.ofd u1))
          have KLp := Lib.hid (KL.out.kept MP.out.bel)
          clear m1 u1 ex l1
          have l1 : y1.cell? ⟨w.heap.size, 1, none⟩ = some (.slice (some ⟨ba, oa, none⟩) D.length c2) := by
            have := KLp.out.cell 1
            rw [← HSRC.out]
            exact this
          have ex : y1.cell? ⟨ba, oa + kk, none⟩ = some (.int .u32 (x : Int)) := (MP.out.bel.cell (p := ⟨ba, oa + kk, none⟩) HBA.out).trans HC.out
          obtain ⟨r0, r1, r2, r3, r4, r5, r6, r7, r8, r9⟩ := blkc10 MP.out.box
          have zw1 := w1.out
          have zw2 := w2'.out
          go_wp2_with fail
          go_region_with (go_at_call 18; (with_reducible refine (RPT.out _ ?_).mono ?_); (first | exact MP.out.rm | exact (MP.out.drewN 1).rm); rintro en y4 ⟨e2, ce2, rfl, he2, pw, hb4⟩; have kx := ((MP.out.drewN 1).box.kept hb4); obtain ⟨z0, fz0, z1, fz1, z2, fz2, z3, fz3, z4, fz4, z5, fz5, z6, fz6, z7, fz7, z8, fz8, z9, fz9⟩ := blkf10 kx; have M5 : Hid (MD W0 (y4.setCells w2.heap.size 0 [.int .u32 (G0 0 : Int), .int .u32 (G0 1 : Int), .int .u32 (G0 2 : Int), .int .u32 (G0 3 : Int), .int .u32 (G0 4 : Int), .int .u32 (G0 5 : Int), .int .u32 (G0 6 : Int), .int .u32 (G0 7 : Int), .slice (some ⟨b', 0, none⟩) T1.length cb', .slice (some ⟨e2, 0, none⟩) Lx.length ce2]) M g h c d cd w2.heap.size G0 T1 Lx G0 T1 Lx b' cb' e2 ce2) := Lib.hid ((MP.out.drewN 1).refL (ce' := ce2) hln.out pw he2 hb4); clear pw he2 hb4 kx; unfold PM.rm)
          all_goals
            clear z0 fz0 z1 fz1 z2 fz2 z3 fz3 z4 fz4 z5 fz5 z6 fz6 z7 fz7 z8 fz8 z9 fz9 r0 r1 r2 r3 r4 r5 r6 r7 r8 r9 l1 ex zw1 zw2
            go_wp2_with fail
            go_roundg (32 - (kk + 1))
            case measure => omega
            case rel => exact ⟨kk + 1, by omega, by omega, by go_num, Lib.hid ⟨Lx, e2, ce2, hnx.out, M5.out⟩⟩
        · have h64z : ¬ (kk : Int) < 32 := by omega
          have l1 : wr.cell? ⟨w.heap.size, 1, none⟩ = some (.slice s2 D.length c2) := KLr.out.cell 1
          have hkn : kk = min D.length 32 := by omega
          replace hkn := Lib.hid hkn
          go_wp2_with fail
          go_meet
          case rel => exact Lib.hid ⟨L, et, cet, by rw [← hkn.out]; exact HLk.out, MK.out⟩
      · have hltz : ¬ (kk : Int) < (D.length : Int) := by omega
        have l1 : wr.cell? ⟨w.heap.size, 1, none⟩ = some (.slice s2 D.length c2) := KLr.out.cell 1
        have hkn : kk = min D.length 32 := by omega
        replace hkn := Lib.hid hkn
        go_wp2_with fail
        go_meet
        case rel => exact Lib.hid ⟨L, et, cet, by rw [← hkn.out]; exact HLk.out, MK.out⟩
  case rest =>
  obtain ⟨LB, eb, cb2, hq, mq⟩ := hcut.out
  have hLB := Lib.hid hq
  have MB := Lib.hid mq
  clear hq mq hcut MA
  have HD : Hid (LB = landL C D) := Lib.hid (by rw [hLB.out, hLA.out, hL0.out]; rfl)
  clear hLA hLB
  go_wp2_with fail
  refine (PG.out _ _ _ _ MB.out.mem).mono ?_
  rintro en wq ⟨rfl, rfl⟩
  go_wp2_with fail
  refine (PB.out _ MB.out.mem.tab).mono ?_
  rintro en x3 ⟨rfl, tt, u1⟩
  have M3 := Lib.hid (MB.out.prog (MB.out.mem.table tt u1 hlen2.out) (Upd3.ofh u1))
  clear tt u1 MB
  have t8 : x3.cell? ⟨w2.heap.size, 8, none⟩ = some (.slice (some ⟨b', 0, none⟩) T1.length cb') := M3.out.box.cell 8
  go_wp2_with fail
  refine (RPB.out _ _ _ M3.out.rm.pgs).mono ?_
  rintro en x4 ⟨b3, cb3, rfl, pp, hb, bb⟩
  have M4 := Lib.hid (M3.out.refT (cb' := cb3) hlen2.out pp hb bb)
  have k4 := M3.out.box.kept bb
  have t8' : x4.cell? ⟨w2.heap.size, 8, none⟩ = some (.slice (some ⟨b', 0, none⟩) T1.length cb') := k4.cell 8
  have ft8 : x4.frozen? ⟨w2.heap.size, 8, none⟩ = false := k4.frozen 8
  clear pp hb bb k4 t8 M3
  have SG0 : ∀ W, Mem W M g h c d cd G0 T2 LB → Calls Tryz.prog 21 #[.pointer (some ⟨M, 0, none⟩), .int .i64 0, .int .u32 80] W fun e w' => e = .returned (.int .i64 0) ∧ Mem w' M g h c d cd (setM G0 0 80).1 T2 LB ∧ Upd M W w' := fun W q => setgate_c q 0 80
  obtain ⟨Ga, hGa⟩ : ∃ Ga, (setM G0 0 80).1 = Ga := ⟨_, rfl⟩
  rw [hGa] at SG0
  have SG1 : ∀ W, Mem W M g h c d cd Ga T2 LB → Calls Tryz.prog 21 #[.pointer (some ⟨M, 0, none⟩), .int .i64 1, .int .u32 (gate : Int)] W fun e w' => e = .returned (.int .i64 0) ∧ Mem w' M g h c d cd (setM Ga 1 gate).1 T2 LB ∧ Upd M W w' := fun W q => setgate_c q 1 gate
  obtain ⟨Gb, hGb⟩ : ∃ Gb, (setM Ga 1 gate).1 = Gb := ⟨_, rfl⟩
  rw [hGb] at SG1
  have RG0 : ∀ W, Calls Tryz.prog 22 #[.agg #[.int .u32 (G0 0 : Int), .int .u32 (G0 1 : Int), .int .u32 (G0 2 : Int), .int .u32 (G0 3 : Int), .int .u32 (G0 4 : Int), .int .u32 (G0 5 : Int), .int .u32 (G0 6 : Int), .int .u32 (G0 7 : Int), .slice (some ⟨b3, 0, none⟩) T2.length cb3, .slice (some ⟨eb, 0, none⟩) LB.length cb2], .int .i64 0, .int .u32 80] W fun e w' => e = .returned (.tuple #[.agg #[.int .u32 (Ga 0 : Int), .int .u32 (Ga 1 : Int), .int .u32 (Ga 2 : Int), .int .u32 (Ga 3 : Int), .int .u32 (Ga 4 : Int), .int .u32 (Ga 5 : Int), .int .u32 (Ga 6 : Int), .int .u32 (Ga 7 : Int), .slice (some ⟨b3, 0, none⟩) T2.length cb3, .slice (some ⟨eb, 0, none⟩) LB.length cb2], .int .i64 0]) ∧ Below W.heap.size W w' := fun W => by
    have := rsetgate_c W G0 b3 cb3 eb cb2 T2 LB 0 80
    rw [hGa] at this
    exact this
  have RG1 : ∀ W, Calls Tryz.prog 22 #[.agg #[.int .u32 (Ga 0 : Int), .int .u32 (Ga 1 : Int), .int .u32 (Ga 2 : Int), .int .u32 (Ga 3 : Int), .int .u32 (Ga 4 : Int), .int .u32 (Ga 5 : Int), .int .u32 (Ga 6 : Int), .int .u32 (Ga 7 : Int), .slice (some ⟨b3, 0, none⟩) T2.length cb3, .slice (some ⟨eb, 0, none⟩) LB.length cb2], .int .i64 1, .int .u32 (gate : Int)] W fun e w' => e = .returned (.tuple #[.agg #[.int .u32 (Gb 0 : Int), .int .u32 (Gb 1 : Int), .int .u32 (Gb 2 : Int), .int .u32 (Gb 3 : Int), .int .u32 (Gb 4 : Int), .int .u32 (Gb 5 : Int), .int .u32 (Gb 6 : Int), .int .u32 (Gb 7 : Int), .slice (some ⟨b3, 0, none⟩) T2.length cb3, .slice (some ⟨eb, 0, none⟩) LB.length cb2], .int .i64 0]) ∧ Below W.heap.size W w' := fun W => by
    have := rsetgate_c W Ga b3 cb3 eb cb2 T2 LB 1 gate
    rw [hGb] at this
    exact this
  have HG : Hid (Gb = landG gate) := Lib.hid (by rw [← hGb, ← hGa, ← hG0.out]; rfl)
  replace SG0 := Lib.hid SG0
  replace SG1 := Lib.hid SG1
  replace RG0 := Lib.hid RG0
  replace RG1 := Lib.hid RG1
  clear hGa hGb
  go_upto_region 16 with fail
  generalize hX4 : x4.setCell ⟨w2.heap.size, 8, none⟩ (.slice (some ⟨b3, 0, none⟩) T2.length cb3) = X4 at M4
  (try rw [hX4])
  have KX4 := Lib.hid hX4
  clear hX4 t8' ft8
  go_wp2_with fail
  (try rw [KX4.out])
  refine (SG0.out _ M4.out.mem).mono ?_
  rintro en x5 ⟨rfl, m5, u5⟩
  have M5 := Lib.hid (M4.out.prog m5 (Upd3.ofM u5))
  have KL5 := Lib.hid (KL.out.kept M5.out.bel)
  have l2 : x5.cell? ⟨w.heap.size, 2, none⟩ = some (.int .u32 (gate : Int)) := KL5.out.cell 2
  clear m5 u5 M4 KL5
  go_wp2_with fail
  refine (SG1.out _ M5.out.mem).mono ?_
  rintro en x6 ⟨rfl, m6, u6⟩
  have M6 := Lib.hid (M5.out.prog m6 (Upd3.ofM u6))
  clear m6 u6 M5 l2
  obtain ⟨r0, r1, r2, r3, r4, r5, r6, r7, r8, r9⟩ := blkc10 M6.out.box
  go_wp2_with fail
  refine (RG0.out _).mono ?_
  rintro en x7 ⟨rfl, hb7⟩
  have k7 := Lib.hid (M6.out.box.kept hb7)
  have M7 : Hid (MD W0 (x7.setCells w2.heap.size 0 [.int .u32 (Ga 0 : Int), .int .u32 (Ga 1 : Int), .int .u32 (Ga 2 : Int), .int .u32 (Ga 3 : Int), .int .u32 (Ga 4 : Int), .int .u32 (Ga 5 : Int), .int .u32 (Ga 6 : Int), .int .u32 (Ga 7 : Int), .slice (some ⟨b3, 0, none⟩) T2.length cb3, .slice (some ⟨eb, 0, none⟩) LB.length cb2]) M g h c d cd w2.heap.size Gb T2 LB Ga T2 LB b3 cb3 eb cb2) := Lib.hid (M6.out.refG Ga hb7)
  clear r0 r1 r2 r3 r4 r5 r6 r7 r8 r9 hb7 M6
  obtain ⟨z0, fz0, z1, fz1, z2, fz2, z3, fz3, z4, fz4, z5, fz5, z6, fz6, z7, fz7, z8, fz8, z9, fz9⟩ := blkf10 k7.out
  go_upto_region 19 with fail
  generalize hX7 : x7.setCells w2.heap.size 0 [.int .u32 (Ga 0 : Int), .int .u32 (Ga 1 : Int), .int .u32 (Ga 2 : Int), .int .u32 (Ga 3 : Int), .int .u32 (Ga 4 : Int), .int .u32 (Ga 5 : Int), .int .u32 (Ga 6 : Int), .int .u32 (Ga 7 : Int), .slice (some ⟨b3, 0, none⟩) T2.length cb3, .slice (some ⟨eb, 0, none⟩) LB.length cb2] = X7 at M7
  simp only [World.setCells, Nat.zero_add, Nat.reduceAdd] at hX7
  (try rw [hX7])
  have KX7 := Lib.hid hX7
  clear hX7 z0 fz0 z1 fz1 z2 fz2 z3 fz3 z4 fz4 z5 fz5 z6 fz6 z7 fz7 z8 fz8 z9 fz9 k7
  have KL7 := Lib.hid (KL.out.kept M7.out.bel)
  have l2 : X7.cell? ⟨w.heap.size, 2, none⟩ = some (.int .u32 (gate : Int)) := KL7.out.cell 2
  obtain ⟨r0, r1, r2, r3, r4, r5, r6, r7, r8, r9⟩ := blkc10 M7.out.box
  go_wp2_with fail
  (try rw [KX7.out])
  refine (RG1.out _).mono ?_
  rintro en x8 ⟨rfl, hb8⟩
  have k8 := Lib.hid (M7.out.box.kept hb8)
  have M8 : Hid (MD W0 (x8.setCells w2.heap.size 0 [.int .u32 (Gb 0 : Int), .int .u32 (Gb 1 : Int), .int .u32 (Gb 2 : Int), .int .u32 (Gb 3 : Int), .int .u32 (Gb 4 : Int), .int .u32 (Gb 5 : Int), .int .u32 (Gb 6 : Int), .int .u32 (Gb 7 : Int), .slice (some ⟨b3, 0, none⟩) T2.length cb3, .slice (some ⟨eb, 0, none⟩) LB.length cb2]) M g h c d cd w2.heap.size Gb T2 LB Gb T2 LB b3 cb3 eb cb2) := Lib.hid (M7.out.refG Gb hb8)
  clear r0 r1 r2 r3 r4 r5 r6 r7 r8 r9 hb8 M7 l2 KL7
  obtain ⟨z0, fz0, z1, fz1, z2, fz2, z3, fz3, z4, fz4, z5, fz5, z6, fz6, z7, fz7, z8, fz8, z9, fz9⟩ := blkf10 k8.out
  go_upto_region 20 with fail
  generalize hX8 : x8.setCells w2.heap.size 0 [.int .u32 (Gb 0 : Int), .int .u32 (Gb 1 : Int), .int .u32 (Gb 2 : Int), .int .u32 (Gb 3 : Int), .int .u32 (Gb 4 : Int), .int .u32 (Gb 5 : Int), .int .u32 (Gb 6 : Int), .int .u32 (Gb 7 : Int), .slice (some ⟨b3, 0, none⟩) T2.length cb3, .slice (some ⟨eb, 0, none⟩) LB.length cb2] = X8 at M8
  simp only [World.setCells, Nat.zero_add, Nat.reduceAdd] at hX8
  (try rw [hX8])
  have KX8 := Lib.hid hX8
  clear hX8 z0 fz0 z1 fz1 z2 fz2 z3 fz3 z4 fz4 z5 fz5 z6 fz6 z7 fz7 z8 fz8 z9 fz9 k8
  clear SG0 SG1 RG0 RG1 ST RST PB RPB
  have KL8 := Lib.hid (KL.out.kept M8.out.bel)
  cases ret with
  | false =>
  have l3 : X8.cell? ⟨w.heap.size, 3, none⟩ = some (.bool false) := KL8.out.cell 3
  clear KL8
  have FF : Hid (∀ vs n, Made w C D gate false (.returned (.tuple #[.pointer (some ⟨M, 0, none⟩), .agg #[.int .u32 (Gb 0 : Int), .int .u32 (Gb 1 : Int), .int .u32 (Gb 2 : Int), .int .u32 (Gb 3 : Int), .int .u32 (Gb 4 : Int), .int .u32 (Gb 5 : Int), .int .u32 (Gb 6 : Int), .int .u32 (Gb 7 : Int), .slice (some ⟨b3, 0, none⟩) T2.length cb3, .slice (some ⟨eb, 0, none⟩) LB.length cb2]])) ((X8.setCells (w.heap.size + 1) 0 vs).drewN n)) := Lib.hid fun vs n => by
    have a := M8.out.ap
    have us := upd_setCells9 (w.heap.size + 1) vs 0 X8
    have z0 := BZ.out.2
    have a1 := a.lM
    have a2 := a.lg
    have a3 := a.lh
    have a4 := a.ld
    have a5 := a.lb
    have a6 := a.le
    refine ⟨M, g, h, c, d, cd, b3, cb3, eb, cb2, ?_, ?_⟩
    · rw [← HG.out, ← HD.out, show landT false = T2 from hT2.out.symm]
    · rw [← HG.out, ← HD.out, show landT false = T2 from hT2.out.symm]
      exact ⟨(M8.out.mem.upd9 us (by omega) (by omega) (by omega) (by omega)).drewN n, (M8.out.rm.upd9 us (by omega) (by omega)).drewN n, below_drewN (us.below (BZ.out.1.trans (M8.out.bel.mono (by omega))) (by omega)) n, a.bM, a.bh, a.bd, a.eM, a.eh, a.ed, by omega, by omega, by omega, by omega, by omega, by omega⟩
  obtain ⟨r0, r1, r2, r3, r4, r5, r6, r7, r8, r9⟩ := blkc10 M8.out.box
  have q0 : X8.cell? ⟨w.heap.size + 1, 0, none⟩ = some (.int .u32 0) := (KR.out.kept M8.out.bel).cell 0
  have fq0 : X8.frozen? ⟨w.heap.size + 1, 0, none⟩ = false := (KR.out.kept M8.out.bel).frozen 0
  have q1 : X8.cell? ⟨w.heap.size + 1, 1, none⟩ = some (.int .u32 0) := (KR.out.kept M8.out.bel).cell 1
  have fq1 : X8.frozen? ⟨w.heap.size + 1, 1, none⟩ = false := (KR.out.kept M8.out.bel).frozen 1
  have q2 : X8.cell? ⟨w.heap.size + 1, 2, none⟩ = some (.int .u32 0) := (KR.out.kept M8.out.bel).cell 2
  have fq2 : X8.frozen? ⟨w.heap.size + 1, 2, none⟩ = false := (KR.out.kept M8.out.bel).frozen 2
  have q3 : X8.cell? ⟨w.heap.size + 1, 3, none⟩ = some (.int .u32 0) := (KR.out.kept M8.out.bel).cell 3
  have fq3 : X8.frozen? ⟨w.heap.size + 1, 3, none⟩ = false := (KR.out.kept M8.out.bel).frozen 3
  have q4 : X8.cell? ⟨w.heap.size + 1, 4, none⟩ = some (.int .u32 0) := (KR.out.kept M8.out.bel).cell 4
  have fq4 : X8.frozen? ⟨w.heap.size + 1, 4, none⟩ = false := (KR.out.kept M8.out.bel).frozen 4
  have q5 : X8.cell? ⟨w.heap.size + 1, 5, none⟩ = some (.int .u32 0) := (KR.out.kept M8.out.bel).cell 5
  have fq5 : X8.frozen? ⟨w.heap.size + 1, 5, none⟩ = false := (KR.out.kept M8.out.bel).frozen 5
  have q6 : X8.cell? ⟨w.heap.size + 1, 6, none⟩ = some (.int .u32 0) := (KR.out.kept M8.out.bel).cell 6
  have fq6 : X8.frozen? ⟨w.heap.size + 1, 6, none⟩ = false := (KR.out.kept M8.out.bel).frozen 6
  have q7 : X8.cell? ⟨w.heap.size + 1, 7, none⟩ = some (.int .u32 0) := (KR.out.kept M8.out.bel).cell 7
  have fq7 : X8.frozen? ⟨w.heap.size + 1, 7, none⟩ = false := (KR.out.kept M8.out.bel).frozen 7
  have q8 : X8.cell? ⟨w.heap.size + 1, 8, none⟩ = some (.slice none 0 0) := (KR.out.kept M8.out.bel).cell 8
  have fq8 : X8.frozen? ⟨w.heap.size + 1, 8, none⟩ = false := (KR.out.kept M8.out.bel).frozen 8
  have q9 : X8.cell? ⟨w.heap.size + 1, 9, none⟩ = some (.slice none 0 0) := (KR.out.kept M8.out.bel).cell 9
  have fq9 : X8.frozen? ⟨w.heap.size + 1, 9, none⟩ = false := (KR.out.kept M8.out.bel).frozen 9
  go_wp2_with fail
  (try rw [KX8.out])
  go_region_with (fail)
  all_goals
    go_wp2_with fail
    refine bodyPost_ret (v := .tuple #[.pointer (some ⟨M, 0, none⟩), .agg #[.int .u32 (Gb 0 : Int), .int .u32 (Gb 1 : Int), .int .u32 (Gb 2 : Int), .int .u32 (Gb 3 : Int), .int .u32 (Gb 4 : Int), .int .u32 (Gb 5 : Int), .int .u32 (Gb 6 : Int), .int .u32 (Gb 7 : Int), .slice (some ⟨b3, 0, none⟩) T2.length cb3, .slice (some ⟨eb, 0, none⟩) LB.length cb2]]) (by simp [results, Tryz.results5, go_sem, *]) rfl ?_
    exact FF.out [.int .u32 (Gb 0 : Int), .int .u32 (Gb 1 : Int), .int .u32 (Gb 2 : Int), .int .u32 (Gb 3 : Int), .int .u32 (Gb 4 : Int), .int .u32 (Gb 5 : Int), .int .u32 (Gb 6 : Int), .int .u32 (Gb 7 : Int), .slice (some ⟨b3, 0, none⟩) T2.length cb3, .slice (some ⟨eb, 0, none⟩) LB.length cb2] 1
  | true =>
  obtain ⟨T3, hT3⟩ : ∃ T3, T3 = tR := ⟨_, rfl⟩
  have hlen3 : T3.length = T2.length := by rw [hT3, hT2.out]; rfl
  have RT : ∀ W, Tab W g h c T2 → Calls Tryz.prog 23 #[.pointer (some ⟨g, 0, none⟩), .int .u16 1, .int .u64 2] W fun e w' => e = .returned (.int .i64 0) ∧ Tab w' g h c T3 ∧ Upd h W w' := fun W q => by
    have := ret_c W g h c T2 q 1 2
    rw [hT2.out, ret_land, ← hT3] at this
    exact this
  have RRT : ∀ W, Pgs W b3 T2 → Calls Tryz.prog 24 #[.agg #[.slice (some ⟨b3, 0, none⟩) T2.length cb3], .int .u16 1, .int .u64 2] W fun e w' => ∃ b' c', e = .returned (.tuple #[.agg #[.slice (some ⟨b', 0, none⟩) T3.length c'], .int .i64 0]) ∧ Pgs w' b' T3 ∧ (b' = b3 ∨ W.heap.size ≤ b') ∧ Below W.heap.size W w' := fun W q => by
    have := rret_c W b3 cb3 T2 q (by rw [hT2.out]; decide) 1 2
    have e1 : retM T2 1 2 = (T3, 0) := by rw [hT2.out, ret_land, hT3]
    rw [e1] at this
    exact this
  replace hlen3 := Lib.hid hlen3
  replace hT3 := Lib.hid hT3
  replace RT := Lib.hid RT
  replace RRT := Lib.hid RRT
  have l3 : X8.cell? ⟨w.heap.size, 3, none⟩ = some (.bool true) := KL8.out.cell 3
  clear KL8
  go_wp2_with fail
  (try rw [KX8.out])
  refine (PG.out _ _ _ _ M8.out.mem).mono ?_
  rintro en wq ⟨rfl, rfl⟩
  go_wp2_with fail
  (try rw [KX8.out])
  refine (RT.out _ M8.out.mem.tab).mono ?_
  rintro en x9 ⟨rfl, tt, u1⟩
  have M9 := Lib.hid (M8.out.prog (M8.out.mem.table tt u1 hlen3.out) (Upd3.ofh u1))
  clear tt u1 M8 l3
  have t8 : x9.cell? ⟨w2.heap.size, 8, none⟩ = some (.slice (some ⟨b3, 0, none⟩) T2.length cb3) := M9.out.box.cell 8
  go_wp2_with fail
  refine (RRT.out _ M9.out.rm.pgs).mono ?_
  rintro en xa ⟨b4, cb4, rfl, pp, hb, bb⟩
  have Mz := Lib.hid (M9.out.refT (cb' := cb4) hlen3.out pp hb bb)
  have kz := M9.out.box.kept bb
  have t8' : xa.cell? ⟨w2.heap.size, 8, none⟩ = some (.slice (some ⟨b3, 0, none⟩) T2.length cb3) := kz.cell 8
  have ft8 : xa.frozen? ⟨w2.heap.size, 8, none⟩ = false := kz.frozen 8
  clear pp hb bb kz t8 M9
  go_upto_region 23 with fail
  generalize hXz : xa.setCell ⟨w2.heap.size, 8, none⟩ (.slice (some ⟨b4, 0, none⟩) T3.length cb4) = Xz at Mz
  (try rw [hXz])
  have KXz := Lib.hid hXz
  clear hXz t8' ft8
  have FF : Hid (∀ vs n, Made w C D gate true (.returned (.tuple #[.pointer (some ⟨M, 0, none⟩), .agg #[.int .u32 (Gb 0 : Int), .int .u32 (Gb 1 : Int), .int .u32 (Gb 2 : Int), .int .u32 (Gb 3 : Int), .int .u32 (Gb 4 : Int), .int .u32 (Gb 5 : Int), .int .u32 (Gb 6 : Int), .int .u32 (Gb 7 : Int), .slice (some ⟨b4, 0, none⟩) T3.length cb4, .slice (some ⟨eb, 0, none⟩) LB.length cb2]])) ((Xz.setCells (w.heap.size + 1) 0 vs).drewN n)) := Lib.hid fun vs n => by
    have a := Mz.out.ap
    have us := upd_setCells9 (w.heap.size + 1) vs 0 Xz
    have z0 := BZ.out.2
    have a1 := a.lM
    have a2 := a.lg
    have a3 := a.lh
    have a4 := a.ld
    have a5 := a.lb
    have a6 := a.le
    refine ⟨M, g, h, c, d, cd, b4, cb4, eb, cb2, ?_, ?_⟩
    · rw [← HG.out, ← HD.out, show landT true = T3 from hT3.out.symm]
    · rw [← HG.out, ← HD.out, show landT true = T3 from hT3.out.symm]
      exact ⟨(Mz.out.mem.upd9 us (by omega) (by omega) (by omega) (by omega)).drewN n, (Mz.out.rm.upd9 us (by omega) (by omega)).drewN n, below_drewN (us.below (BZ.out.1.trans (Mz.out.bel.mono (by omega))) (by omega)) n, a.bM, a.bh, a.bd, a.eM, a.eh, a.ed, by omega, by omega, by omega, by omega, by omega, by omega⟩
  obtain ⟨r0, r1, r2, r3, r4, r5, r6, r7, r8, r9⟩ := blkc10 Mz.out.box
  have q0 : Xz.cell? ⟨w.heap.size + 1, 0, none⟩ = some (.int .u32 0) := (KR.out.kept Mz.out.bel).cell 0
  have fq0 : Xz.frozen? ⟨w.heap.size + 1, 0, none⟩ = false := (KR.out.kept Mz.out.bel).frozen 0
  have q1 : Xz.cell? ⟨w.heap.size + 1, 1, none⟩ = some (.int .u32 0) := (KR.out.kept Mz.out.bel).cell 1
  have fq1 : Xz.frozen? ⟨w.heap.size + 1, 1, none⟩ = false := (KR.out.kept Mz.out.bel).frozen 1
  have q2 : Xz.cell? ⟨w.heap.size + 1, 2, none⟩ = some (.int .u32 0) := (KR.out.kept Mz.out.bel).cell 2
  have fq2 : Xz.frozen? ⟨w.heap.size + 1, 2, none⟩ = false := (KR.out.kept Mz.out.bel).frozen 2
  have q3 : Xz.cell? ⟨w.heap.size + 1, 3, none⟩ = some (.int .u32 0) := (KR.out.kept Mz.out.bel).cell 3
  have fq3 : Xz.frozen? ⟨w.heap.size + 1, 3, none⟩ = false := (KR.out.kept Mz.out.bel).frozen 3
  have q4 : Xz.cell? ⟨w.heap.size + 1, 4, none⟩ = some (.int .u32 0) := (KR.out.kept Mz.out.bel).cell 4
  have fq4 : Xz.frozen? ⟨w.heap.size + 1, 4, none⟩ = false := (KR.out.kept Mz.out.bel).frozen 4
  have q5 : Xz.cell? ⟨w.heap.size + 1, 5, none⟩ = some (.int .u32 0) := (KR.out.kept Mz.out.bel).cell 5
  have fq5 : Xz.frozen? ⟨w.heap.size + 1, 5, none⟩ = false := (KR.out.kept Mz.out.bel).frozen 5
  have q6 : Xz.cell? ⟨w.heap.size + 1, 6, none⟩ = some (.int .u32 0) := (KR.out.kept Mz.out.bel).cell 6
  have fq6 : Xz.frozen? ⟨w.heap.size + 1, 6, none⟩ = false := (KR.out.kept Mz.out.bel).frozen 6
  have q7 : Xz.cell? ⟨w.heap.size + 1, 7, none⟩ = some (.int .u32 0) := (KR.out.kept Mz.out.bel).cell 7
  have fq7 : Xz.frozen? ⟨w.heap.size + 1, 7, none⟩ = false := (KR.out.kept Mz.out.bel).frozen 7
  have q8 : Xz.cell? ⟨w.heap.size + 1, 8, none⟩ = some (.slice none 0 0) := (KR.out.kept Mz.out.bel).cell 8
  have fq8 : Xz.frozen? ⟨w.heap.size + 1, 8, none⟩ = false := (KR.out.kept Mz.out.bel).frozen 8
  have q9 : Xz.cell? ⟨w.heap.size + 1, 9, none⟩ = some (.slice none 0 0) := (KR.out.kept Mz.out.bel).cell 9
  have fq9 : Xz.frozen? ⟨w.heap.size + 1, 9, none⟩ = false := (KR.out.kept Mz.out.bel).frozen 9
  go_wp2_with fail
  (try rw [KXz.out])
  go_region_with (fail)
  all_goals
    go_wp2_with fail
    refine bodyPost_ret (v := .tuple #[.pointer (some ⟨M, 0, none⟩), .agg #[.int .u32 (Gb 0 : Int), .int .u32 (Gb 1 : Int), .int .u32 (Gb 2 : Int), .int .u32 (Gb 3 : Int), .int .u32 (Gb 4 : Int), .int .u32 (Gb 5 : Int), .int .u32 (Gb 6 : Int), .int .u32 (Gb 7 : Int), .slice (some ⟨b4, 0, none⟩) T3.length cb4, .slice (some ⟨eb, 0, none⟩) LB.length cb2]]) (by simp [results, Tryz.results5, go_sem, *]) rfl ?_
    exact FF.out [.int .u32 (Gb 0 : Int), .int .u32 (Gb 1 : Int), .int .u32 (Gb 2 : Int), .int .u32 (Gb 3 : Int), .int .u32 (Gb 4 : Int), .int .u32 (Gb 5 : Int), .int .u32 (Gb 6 : Int), .int .u32 (Gb 7 : Int), .slice (some ⟨b4, 0, none⟩) T3.length cb4, .slice (some ⟨eb, 0, none⟩) LB.length cb2] 1
end Go.Proofs.YthnbdeibjbicpaaGreat.PM
