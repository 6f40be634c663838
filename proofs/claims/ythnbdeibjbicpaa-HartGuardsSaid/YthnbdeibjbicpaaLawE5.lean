/- HartGuards walked. Conditions: the cells. -/
import Derived.Test.YthnbdeibjbicpaaLawE0
import Derived.Test.YthnbdeibjbicpaaGuardM
import Derived.Deep.Cut
namespace Go.Proofs.Ythnbdeibjbicpaa.PM
set_option linter.unusedVariables false
set_option linter.unusedSimpArgs false
open Go.RowKit
theorem Mem.updx {w w' : World} {d0 : Nat} {M g h c d cd : Nat} {G : Nat → Nat} {T : List Page} {L : List Nat} (m : Mem w M g h c d cd G T L) (u : UpdX w.heap.size d0 w w') (h1 : M ≠ d0) (h2 : g ≠ d0) (h3 : h ≠ d0) (h4 : d ≠ d0) : Mem w' M g h c d cd G T L :=
  m.upd9 (k := d0) ⟨u.os, u.tape, u.output, u.size, fun k hk hne => u.block k hk hne⟩ h1 h2 h3 h4
set_option maxRecDepth 100000 in
set_option maxHeartbeats 16000000 in
theorem law_hguards (s1 : Option Addr) (C : List Nat) (c1 : Nat) (s2 : Option Addr) (D : List Nat) (c2 gate : Nat) (ret : Bool) (p : Nat) (R : Nat → Nat) (s : Option Addr) (S : List Nat) (c y ep hm epoch : Nat) (w : World) (h1 : Stk w s1 C) (h2 : Stk w s2 D) (hS : Stk w s S) (n1 : S.length < 35184372088832)
    (hC : ∀ i, i < C.length → C[i]! < 4294967296) (hD : ∀ i, i < D.length → D[i]! < 4294967296) (hg : gate < 4294967296) (hp : p < 4294967296) (hR : ∀ i, i < 8 → R i < 4294967296) :
    Calls Try.prog 8 #[.agg #[.slice s1 C.length c1, .slice s2 D.length c2, .int .u32 (gate : Int), .bool ret], .agg #[.int .u32 (p : Int), .int .u32 (R 0 : Int), .int .u32 (R 1 : Int), .int .u32 (R 2 : Int), .int .u32 (R 3 : Int), .int .u32 (R 4 : Int), .int .u32 (R 5 : Int), .int .u32 (R 6 : Int), .int .u32 (R 7 : Int), .slice s S.length c, .int .u8 (y : Int), .int .u64 (ep : Int), .int .u32 (hm : Int)], .int .u64 (epoch : Int)] w fun e w' => e = .returned (.bool true) ∧ Below w.heap.size w w' := by
  have MK : ∀ W, Stk W s1 C → Stk W s2 D → Calls Try.prog 16 #[.agg #[.slice s1 C.length c1, .slice s2 D.length c2, .int .u32 (gate : Int), .bool ret]] W fun e w' => Made W C D gate ret e w' := fun W a b => made_c W s1 C c1 s2 D c2 gate ret a b
  have mb := land_mb C D gate hC hD hg
  have gd := hstep_guard (G := landG gate) (T := landT ret) (L := landL C D) (pc := p) (R := R) (S := S) (ep := ep) (home := hm) (epoch := epoch) y (by rw [landL_length, landT_length]) (by rw [landT_length]; decide)
  have lx := land_wr ret
  have ll := landL_length C D
  have ST : ∀ W M g h c' d cd, Mem W M g h c' d cd (landG gate) (landT ret) (landL C D) → Stk W s S → Calls Try.prog 17 #[.agg #[.int .u32 (p : Int), .int .u32 (R 0 : Int), .int .u32 (R 1 : Int), .int .u32 (R 2 : Int), .int .u32 (R 3 : Int), .int .u32 (R 4 : Int), .int .u32 (R 5 : Int), .int .u32 (R 6 : Int), .int .u32 (R 7 : Int), .slice s S.length c, .int .u8 (y : Int), .int .u64 (ep : Int), .int .u32 (hm : Int)], .pointer (some ⟨M, 0, none⟩), .int .u64 (epoch : Int)] W fun en w' => StepP W M g h c' d cd (landG gate) (landT ret) hm (hstep (landG gate) (landT ret) (landL C D) p R S ep hm epoch y) en w' := fun W M g h c' d cd m a =>
    step_c W M g h c' d cd _ _ _ p R S ep hm epoch y s c m a n1 hp hR (mb.fetch p ep)
  generalize hstep (landG gate) (landT ret) (landL C D) p R S ep hm epoch y = oo at ST gd
  obtain ⟨p', R', S', y', ep', L', nS, nT, nA, nW⟩ := oo
  obtain ⟨g1, g2, g3, g4, g5, g6⟩ := gd
  simp only at g1 g2 g3 g4 g5 g6
  have l128 : L'.length = 128 := by rw [g6, ll]
  replace MK := Lib.hid MK
  replace ST := Lib.hid ST
  replace g1 := Lib.hid g1
  replace g2 := Lib.hid g2
  replace g3 := Lib.hid g3
  replace g4 := Lib.hid g4
  replace g5 := Lib.hid g5
  replace lx := Lib.hid lx
  replace l128 := Lib.hid l128
  clear mb ll g6 hC hD hg hp hR
  generalize hW : (w.alloc (.cells #[.slice s1 C.length c1, .slice s2 D.length c2, .int .u32 (gate : Int), .bool ret] 44)).alloc (.cells #[.int .u32 (p : Int), .int .u32 (R 0 : Int), .int .u32 (R 1 : Int), .int .u32 (R 2 : Int), .int .u32 (R 3 : Int), .int .u32 (R 4 : Int), .int .u32 (R 5 : Int), .int .u32 (R 6 : Int), .int .u32 (R 7 : Int), .slice s S.length c, .int .u8 (y : Int), .int .u64 (ep : Int), .int .u32 (hm : Int)] 28) = W0
  have KH : Hid (Blk W0 (w.heap.size + 1) 28 #[.int .u32 (p : Int), .int .u32 (R 0 : Int), .int .u32 (R 1 : Int), .int .u32 (R 2 : Int), .int .u32 (R 3 : Int), .int .u32 (R 4 : Int), .int .u32 (R 5 : Int), .int .u32 (R 6 : Int), .int .u32 (R 7 : Int), .slice s S.length c, .int .u8 (y : Int), .int .u64 (ep : Int), .int .u32 (hm : Int)]) := Lib.hid (by
    have k := Blk.new (w.alloc (.cells #[.slice s1 C.length c1, .slice s2 D.length c2, .int .u32 (gate : Int), .bool ret] 44)) 28 #[.int .u32 (p : Int), .int .u32 (R 0 : Int), .int .u32 (R 1 : Int), .int .u32 (R 2 : Int), .int .u32 (R 3 : Int), .int .u32 (R 4 : Int), .int .u32 (R 5 : Int), .int .u32 (R 6 : Int), .int .u32 (R 7 : Int), .slice s S.length c, .int .u8 (y : Int), .int .u64 (ep : Int), .int .u32 (hm : Int)]
    have e : (w.alloc (.cells #[.slice s1 C.length c1, .slice s2 D.length c2, .int .u32 (gate : Int), .bool ret] 44)).heap.size = w.heap.size + 1 := by simp
    rw [e] at k
    exact hW ▸ k)
  have B0 : Hid (Below w.heap.size w W0) := Lib.hid (hW ▸ ((Below.refl _ w).alloc (Nat.le_refl _) _).alloc (by simp) _)
  have Z0 : Hid (W0.heap.size = w.heap.size + 2) := Lib.hid (hW ▸ by simp)
  have H1 := Lib.hid h1
  have H2 := Lib.hid h2
  have HS := Lib.hid hS
  have N1 := Lib.hid n1
  have KW := Lib.hid hW
  clear h1 h2 hS hW n1
  go_enter Try.func8, Try.ntmps8
  go_wp2_with fail
  (try rw [KW.out])
  refine (MK.out _ (H1.out.kept B0.out) (H2.out.kept B0.out)).mono ?_
  rintro en w1 ⟨M, g, h, c', d, cd, b, cb, e, ce, rfl, LD⟩
  generalize landG gate = G at ST LD g1 ⊢
  generalize landT ret = T at ST LD g1 lx ⊢
  generalize landL C D = L at ST LD g1 ⊢
  unfold PM.rm
  go_upto_region 2 with fail
  generalize hX1 : w1.alloc (.cells #[.int .u32 (G 0 : Int), .int .u32 (G 1 : Int), .int .u32 (G 2 : Int), .int .u32 (G 3 : Int), .int .u32 (G 4 : Int), .int .u32 (G 5 : Int), .int .u32 (G 6 : Int), .int .u32 (G 7 : Int), .slice (some ⟨b, 0, none⟩) T.length cb, .slice (some ⟨e, 0, none⟩) L.length ce] 40) = X1
  have SZ : Hid (W0.heap.size ≤ d ∧ M < w1.heap.size ∧ g < w1.heap.size ∧ h < w1.heap.size ∧ d < w1.heap.size) := Lib.hid ⟨LD.ld, LD.mem.ten.lt, LD.mem.tab.lt, LD.mem.tab.pgs.lt, LD.mem.wds.lt⟩
  have KH1 : Hid (Blk X1 (w.heap.size + 1) 28 #[.int .u32 (p : Int), .int .u32 (R 0 : Int), .int .u32 (R 1 : Int), .int .u32 (R 2 : Int), .int .u32 (R 3 : Int), .int .u32 (R 4 : Int), .int .u32 (R 5 : Int), .int .u32 (R 6 : Int), .int .u32 (R 7 : Int), .slice s S.length c, .int .u8 (y : Int), .int .u64 (ep : Int), .int .u32 (hm : Int)]) := Lib.hid (hX1 ▸ (KH.out.kept LD.bel).alloc _)
  have M1 : Hid (Mem X1 M g h c' d cd G T L) := Lib.hid (hX1 ▸ LD.mem.alloc _)
  have B1 : Hid (Below w.heap.size w X1 ∧ w1.heap.size < X1.heap.size) := Lib.hid (hX1 ▸ ⟨(B0.out.trans (LD.bel.mono B0.out.size)).alloc (Nat.le_trans B0.out.size LD.bel.size) _, by simp⟩)
  (try rw [hX1])
  clear hX1 LD KH KW
  go_wp2_with fail
  refine (mfork_c M1.out).mono ?_
  rintro en w2 ⟨M2, ga, ha, ca, da, cda, rfl, lM, lg, lh, ld, m2, hb⟩
  have MF := Lib.hid m2
  have LF := Lib.hid (And.intro lM (And.intro lg (And.intro lh ld)))
  have KH2 := Lib.hid (KH1.out.kept hb)
  have MM2 := Lib.hid (M1.out.kept hb)
  have B2 := Lib.hid (B1.out.1.trans (hb.mono B1.out.1.size))
  have LX : Hid (w1.heap.size < w2.heap.size) := Lib.hid (Nat.lt_of_lt_of_le B1.out.2 hb.size)
  clear m2 lM lg lh ld hb KH1 M1
  have t0 : w2.cell? ⟨(w.heap.size + 1), 0, none⟩ = some (.int .u32 (p : Int)) := KH2.out.cell 0
  have t1 : w2.cell? ⟨(w.heap.size + 1), 1, none⟩ = some (.int .u32 (R 0 : Int)) := KH2.out.cell 1
  have t2 : w2.cell? ⟨(w.heap.size + 1), 2, none⟩ = some (.int .u32 (R 1 : Int)) := KH2.out.cell 2
  have t3 : w2.cell? ⟨(w.heap.size + 1), 3, none⟩ = some (.int .u32 (R 2 : Int)) := KH2.out.cell 3
  have t4 : w2.cell? ⟨(w.heap.size + 1), 4, none⟩ = some (.int .u32 (R 3 : Int)) := KH2.out.cell 4
  have t5 : w2.cell? ⟨(w.heap.size + 1), 5, none⟩ = some (.int .u32 (R 4 : Int)) := KH2.out.cell 5
  have t6 : w2.cell? ⟨(w.heap.size + 1), 6, none⟩ = some (.int .u32 (R 5 : Int)) := KH2.out.cell 6
  have t7 : w2.cell? ⟨(w.heap.size + 1), 7, none⟩ = some (.int .u32 (R 6 : Int)) := KH2.out.cell 7
  have t8 : w2.cell? ⟨(w.heap.size + 1), 8, none⟩ = some (.int .u32 (R 7 : Int)) := KH2.out.cell 8
  have t9 : w2.cell? ⟨(w.heap.size + 1), 9, none⟩ = some (.slice s S.length c) := KH2.out.cell 9
  have t10 : w2.cell? ⟨(w.heap.size + 1), 10, none⟩ = some (.int .u8 (y : Int)) := KH2.out.cell 10
  have t11 : w2.cell? ⟨(w.heap.size + 1), 11, none⟩ = some (.int .u64 (ep : Int)) := KH2.out.cell 11
  have t12 : w2.cell? ⟨(w.heap.size + 1), 12, none⟩ = some (.int .u32 (hm : Int)) := KH2.out.cell 12
  go_wp2_with fail
  refine (ST.out _ _ _ _ _ _ _ MM2.out (HS.out.kept B2.out)).mono ?_
  rintro en w3 ⟨v, he, ow, m3, u3⟩
  obtain ⟨s3, c3, rfl, _⟩ := ow.form
  simp only at he
  subst he
  have sz := SZ.out
  have lf := LF.out
  have l1' := B1.out.2
  have z0 := Z0.out
  have MN := Lib.hid m3
  have MF3 := Lib.hid (MF.out.updx u3 (by omega) (by omega) (by omega) (by omega))
  have KH3 := Lib.hid (u3.blk KH2.out (by omega))
  have B3 := Lib.hid (u3.below B2.out (by omega))
  clear ow m3 u3 sz lf l1' z0 MF KH2 MM2 B2 LF t0 t1 t2 t3 t4 t5 t6 t7 t8 t9 t10 t11 t12
  unfold hv
  go_upto_region 4 with fail
  generalize hX3 : (w3.alloc (.cells #[.int .u32 (p' : Int), .int .u32 (R' 0 : Int), .int .u32 (R' 1 : Int), .int .u32 (R' 2 : Int), .int .u32 (R' 3 : Int), .int .u32 (R' 4 : Int), .int .u32 (R' 5 : Int), .int .u32 (R' 6 : Int), .int .u32 (R' 7 : Int), .slice s3 S'.length c3, .int .u8 (y' : Int), .int .u64 (ep' : Int), .int .u32 (hm : Int)] 28)).alloc (.cells #[.bool nS, .bool nT, .int .u32 (nA : Int), .int .u32 (nW : Int)] 46) = X3
  have BX : Hid (Below w3.heap.size w3 X3) := Lib.hid (hX3 ▸ ((Below.refl _ w3).alloc (Nat.le_refl _) _).alloc (by simp) _)
  have KX : Hid (Blk X3 w3.heap.size 28 #[.int .u32 (p' : Int), .int .u32 (R' 0 : Int), .int .u32 (R' 1 : Int), .int .u32 (R' 2 : Int), .int .u32 (R' 3 : Int), .int .u32 (R' 4 : Int), .int .u32 (R' 5 : Int), .int .u32 (R' 6 : Int), .int .u32 (R' 7 : Int), .slice s3 S'.length c3, .int .u8 (y' : Int), .int .u64 (ep' : Int), .int .u32 (hm : Int)]) := Lib.hid (hX3 ▸ (Blk.new w3 _ _).alloc _)
  have KN : Hid (Blk X3 (w3.heap.size + 1) 46 #[.bool nS, .bool nT, .int .u32 (nA : Int), .int .u32 (nW : Int)]) := Lib.hid (by
    have k := Blk.new (w3.alloc (.cells #[.int .u32 (p' : Int), .int .u32 (R' 0 : Int), .int .u32 (R' 1 : Int), .int .u32 (R' 2 : Int), .int .u32 (R' 3 : Int), .int .u32 (R' 4 : Int), .int .u32 (R' 5 : Int), .int .u32 (R' 6 : Int), .int .u32 (R' 7 : Int), .slice s3 S'.length c3, .int .u8 (y' : Int), .int .u64 (ep' : Int), .int .u32 (hm : Int)] 28)) 46 #[.bool nS, .bool nT, .int .u32 (nA : Int), .int .u32 (nW : Int)]
    have e : (w3.alloc (.cells #[.int .u32 (p' : Int), .int .u32 (R' 0 : Int), .int .u32 (R' 1 : Int), .int .u32 (R' 2 : Int), .int .u32 (R' 3 : Int), .int .u32 (R' 4 : Int), .int .u32 (R' 5 : Int), .int .u32 (R' 6 : Int), .int .u32 (R' 7 : Int), .slice s3 S'.length c3, .int .u8 (y' : Int), .int .u64 (ep' : Int), .int .u32 (hm : Int)] 28)).heap.size = w3.heap.size + 1 := by simp
    rw [e] at k
    exact hX3 ▸ k)
  (try rw [hX3])
  have M4 := Lib.hid (MN.out.kept BX.out)
  have F4 := Lib.hid (MF3.out.kept BX.out)
  have KH4 := Lib.hid (KH3.out.kept BX.out)
  have B4 := Lib.hid (B3.out.trans (BX.out.mono B3.out.size))
  clear hX3 BX MN MF3 KH3 B3
  have SC := Lib.hid (fun W (q : Mem W M g h c' d cd G T L') => size_c q)
  have PC := Lib.hid (fun W (q : Mem W M g h c' d cd G T L') (x : Nat) (hx : x < 4294967296) => peek_c q x hx)
  have FC := Lib.hid (fun W (q : Mem W M2 ga ha ca da cda G T L) (x : Nat) (hx : x < 4294967296) => peek_c q x hx)
  go_wp2_with fail
  go_loopg [12] 300 (fun gg s12 wr => ∃ kk : Nat, kk ≤ 208 ∧ 208 - kk ≤ gg ∧ s12 = .int .i64 (kk : Int) ∧ Hid (Below X3.heap.size X3 wr))
  case atStart => exact ⟨0, Nat.zero_le _, by omega, rfl, Lib.hid (Below.refl _ _)⟩
  case round =>
    obtain ⟨kk, hkk, hg', rfl, BW⟩ := hrel
    have M5 := Lib.hid (M4.out.kept BW.out)
    have hk32 : kk < 4294967296 := by omega
    have hwr : IntKind.u32.wrap (kk : Int) = (kk : Int) := by unfold IntKind.wrap; simp [IntKind.bits, IntKind.signed]; omega
    have SC1 : Hid (Calls Try.prog 20 #[.pointer (some ⟨M, 0, none⟩)] wr fun e w' => e = .returned (.int .i64 208) ∧ wr = w') := Lib.hid ((SC.out _ M5.out).mono fun e w' r => ⟨by rw [r.1, l128.out]; rfl, r.2.symm⟩)
    go_wp2_with fail
    refine SC1.out.mono ?_
    rintro en wq ⟨rfl, rfl⟩
    by_cases hlt : kk < 208
    · have hltz : (kk : Int) < 208 := by omega
      have PX := fun W q => PC.out W q kk hk32
      have FX := fun W q => FC.out W q kk hk32
      have g1k := g1.out kk
      have PGC : ∀ W (q : Mem W M g h c' d cd G T L'), Calls Try.prog 22 #[.pointer (some ⟨M, 0, none⟩)] W fun e w' => e = .returned (.pointer (some ⟨g, 0, none⟩)) ∧ W = w' := fun W q => (pages_c q).mono fun e w' r => ⟨r.1, r.2.symm⟩
      have POC : ∀ W, Calls Try.prog 24 #[.int .u32 (kk : Int)] W fun e w' => e = .returned (.int .i64 (pageOf kk)) ∧ W = w' := fun W => (pageof_c W kk hk32).mono fun e w' r => ⟨r.1, r.2.symm⟩
      have GTC : ∀ W (q : Mem W M g h c' d cd G T L'), Calls Try.prog 23 #[.pointer (some ⟨g, 0, none⟩), .int .i64 (pageOf kk)] W fun e w' => e = .returned (getP T (pageOf kk)).v ∧ Below W.heap.size W w' := fun W q => get_c W g h c' T q.tab _
      have lxk := lx.out (pageOf kk)
      generalize peekM G L' kk = pv at PX g1k
      generalize peekM G L kk = qv at FX g1k
      generalize pageOf kk = pk at g1k POC GTC lxk
      replace PX := Lib.hid PX
      replace FX := Lib.hid FX
      replace PGC := Lib.hid PGC
      replace POC := Lib.hid POC
      replace GTC := Lib.hid GTC
      go_wp2_with fail
      refine (PX.out _ M5.out).mono ?_
      rintro en x1 ⟨rfl, hb⟩
      have BW1 := Lib.hid (BW.out.trans (hb.mono BW.out.size))
      clear hb
      go_wp2_with fail
      refine (FX.out _ (F4.out.kept BW1.out)).mono ?_
      rintro en x2 ⟨rfl, hb⟩
      have BW2 := Lib.hid (BW1.out.trans (hb.mono BW1.out.size))
      clear hb
      by_cases heq : pv = qv
      · have hq : ((pv : Int) == (qv : Int)) = true := by rw [heq]; simp
        clear heq g1k
        go_wp2_with fail
        go_roundg (208 - (kk + 1))
        case measure => omega
        case rel => exact ⟨kk + 1, by omega, by omega, by go_num, BW2⟩
      · have hq : ((pv : Int) == (qv : Int)) = false := by rw [beq_eq_false_iff_ne]; omega
        have g1k : nT = true ∧ nA = kk ∧ pv = nW ∧ (getP T pk).wr = true := g1k.resolve_left heq
        obtain ⟨e1, e2, e3, e4⟩ := g1k
        have e5 := lxk e4
        clear lxk heq
        generalize getP T pk = pg at e4 e5 GTC
        obtain ⟨ps, px, pw, po, pe⟩ := pg
        simp only at e4 e5
        subst e4 e5
        have GTC1 : Hid (∀ W (q : Mem W M g h c' d cd G T L'), Calls Try.prog 23 #[.pointer (some ⟨g, 0, none⟩), .int .i64 pk] W fun e w' => e = .returned (.agg #[.int .u8 (ps : Int), .bool false, .bool true, .int .u16 (po : Int), .int .u64 (pe : Int)]) ∧ Below W.heap.size W w') := Lib.hid GTC.out
        have E1 := Lib.hid e1
        have E2 := Lib.hid e2
        have E3 := Lib.hid e3
        clear e1 e2 e3 GTC
        go_wp2_with fail
        refine (PGC.out _ (M4.out.kept BW2.out)).mono ?_
        rintro en wq ⟨rfl, rfl⟩
        go_wp2_with fail
        refine (POC.out _).mono ?_
        rintro en wq ⟨rfl, rfl⟩
        go_wp2_with fail
        refine (GTC1.out _ (M4.out.kept BW2.out)).mono ?_
        rintro en x3 ⟨rfl, hb⟩
        have BW3 := Lib.hid (BW2.out.trans (hb.mono BW2.out.size))
        clear hb
        go_upto_region 10 with fail
        generalize hY : x3.alloc (.cells #[.int .u8 (ps : Int), .bool false, .bool true, .int .u16 (po : Int), .int .u64 (pe : Int)] 59) = Y
        have KP : Hid (Blk Y x3.heap.size 59 #[.int .u8 (ps : Int), .bool false, .bool true, .int .u16 (po : Int), .int .u64 (pe : Int)]) := Lib.hid (hY ▸ Blk.new x3 _ _)
        have BW4 : Hid (Below X3.heap.size X3 Y) := Lib.hid (hY ▸ BW3.out.alloc BW3.out.size _)
        (try rw [hY])
        clear hY
        have KNr := Lib.hid (KN.out.kept BW4.out)
        have TX : Hid (Y.drew.cell? ⟨w3.heap.size + 1, 1, none⟩ = some (.bool true) ∧ Y.drew.cell? ⟨w3.heap.size + 1, 2, none⟩ = some (.int .u32 (kk : Int)) ∧ Y.drew.cell? ⟨w3.heap.size + 1, 3, none⟩ = some (.int .u32 (pv : Int)) ∧ Y.drew.cell? ⟨x3.heap.size, 1, none⟩ = some (.bool false) ∧ Y.drew.cell? ⟨x3.heap.size, 2, none⟩ = some (.bool true)) := Lib.hid ⟨by
          have q := KNr.out.cell 1
          rw [E1.out] at q
          exact q, by
          have q := KNr.out.cell 2
          rw [E2.out] at q
          exact q, by
          have q := KNr.out.cell 3
          rw [← E3.out] at q
          exact q, KP.out.cell 1, KP.out.cell 2⟩
        have kp5 : ∀ w' : World, ∀ hb : Below Y.drew.heap.size Y.drew w', w'.cell? ⟨w3.heap.size + 1, 1, none⟩ = some (.bool true) ∧ w'.cell? ⟨w3.heap.size + 1, 2, none⟩ = some (.int .u32 (kk : Int)) ∧ w'.cell? ⟨w3.heap.size + 1, 3, none⟩ = some (.int .u32 (pv : Int)) ∧ w'.cell? ⟨x3.heap.size, 1, none⟩ = some (.bool false) ∧ w'.cell? ⟨x3.heap.size, 2, none⟩ = some (.bool true) := fun w' hb => ⟨keep1m hb TX.out.1, keep1m hb TX.out.2.1, keep1m hb TX.out.2.2.1, keep1m hb TX.out.2.2.2.1, keep1m hb TX.out.2.2.2.2⟩
        replace kp5 := Lib.hid kp5
        clear KP KNr BW BW1 BW2 BW3
        go_region_held3 (fun w' => w'.cell? ⟨w3.heap.size + 1, 1, none⟩ = some (.bool true) ∧ w'.cell? ⟨w3.heap.size + 1, 2, none⟩ = some (.int .u32 (kk : Int)) ∧ w'.cell? ⟨w3.heap.size + 1, 3, none⟩ = some (.int .u32 (pv : Int)) ∧ w'.cell? ⟨x3.heap.size, 1, none⟩ = some (.bool false) ∧ w'.cell? ⟨x3.heap.size, 2, none⟩ = some (.bool true)) (first | exact TX.out | exact kp5.out _ hb6 | go_keep) ((first
          | (go_at_call 21; (with_reducible refine (PX.out _ ?_).mono ?_); (first | exact M4.out.kept (below_drewN BW4.out 1)); rintro en w6 ⟨rfl, hb6⟩; have B6 := Lib.hid ((below_drewN BW4.out 1).trans (hb6.mono (below_drewN BW4.out 1).size)))))
        clear hb6
        go_wp2_with fail
        go_roundg (208 - (kk + 1))
        case measure => omega
        case rel => exact ⟨kk + 1, by omega, by omega, by go_num, B6⟩
    · have hltz : ¬ (kk : Int) < 208 := by omega
      have BR := Lib.hid (B4.out.trans (BW.out.mono B4.out.size))
      have KXr := Lib.hid (KX.out.kept BW.out)
      have KNr := Lib.hid (KN.out.kept BW.out)
      have KHr := Lib.hid (KH4.out.kept BW.out)
      have hmax : decide ((S'.length : Int) ≤ max (S.length : Int) 16) = true := decide_eq_true (by have := g5.out; omega)
      have hmx : ((S'.length : Int) ≤ max (S.length : Int) 16) := by have := g5.out; omega
      clear PC FC SC SC1 M5 M4 F4 BW hkk hg' KX KN KH4 B4
      cases hns : nS with
      | true =>
        by_cases hy0 : y' = 0
        · obtain ⟨i1, i2, i3, i4⟩ := g2.out hns
          have j2 : S'.length = 0 := by rw [i3]; rfl
          have j3 : S.length = 0 := by rw [i4]; rfl
          have x0 : wr.cell? ⟨w3.heap.size, 0, none⟩ = some (.int .u32 (hm : Int)) := by
            have q := KXr.out.cell 0
            rw [i2] at q
            exact q
          have x4 : wr.cell? ⟨w3.heap.size, 11, none⟩ = some (.int .u64 (epoch : Int)) := by
            have q := KXr.out.cell 11
            rw [i1] at q
            exact q
          have x5 : wr.cell? ⟨w3.heap.size, 12, none⟩ = some (.int .u32 (hm : Int)) := KXr.out.cell 12
          have x2 : wr.cell? ⟨w3.heap.size, 9, none⟩ = some (.slice s3 0 c3) := by
            have q := KXr.out.cell 9
            rw [j2] at q
            exact q
          have x3 : wr.cell? ⟨w3.heap.size, 10, none⟩ = some (.int .u8 (y' : Int)) := KXr.out.cell 10
          have t5 : wr.cell? ⟨(w.heap.size + 1), 12, none⟩ = some (.int .u32 (hm : Int)) := KHr.out.cell 12
          have t2 : wr.cell? ⟨(w.heap.size + 1), 9, none⟩ = some (.slice s 0 c) := by
            have q := KHr.out.cell 9
            rw [j3] at q
            exact q
          have t4 : wr.cell? ⟨(w.heap.size + 1), 11, none⟩ = some (.int .u64 (ep : Int)) := KHr.out.cell 11
          have n0 : wr.cell? ⟨w3.heap.size + 1, 0, none⟩ = some (.bool true) := by
            have q := KNr.out.cell 0
            rw [hns] at q
            exact q
          clear i1 i2 i3 i4 j2 j3
          have hy' : ((y' : Int) == 0) = true := by simp; omega
          clear hns hy0
          go_wp2_with fail
          refine (awake09_c _).mono ?_
          rintro en w9 ⟨rfl, hb⟩
          have B8 := Lib.hid (BR.out.trans (hb.mono BR.out.size))
          clear hb
          go_wp2_with fail
          go_ret
          exact ⟨rfl, B8.out⟩
        · obtain ⟨i1, i2, i3, i4⟩ := g2.out hns
          have j2 : S'.length = 0 := by rw [i3]; rfl
          have j3 : S.length = 0 := by rw [i4]; rfl
          have x0 : wr.cell? ⟨w3.heap.size, 0, none⟩ = some (.int .u32 (hm : Int)) := by
            have q := KXr.out.cell 0
            rw [i2] at q
            exact q
          have x4 : wr.cell? ⟨w3.heap.size, 11, none⟩ = some (.int .u64 (epoch : Int)) := by
            have q := KXr.out.cell 11
            rw [i1] at q
            exact q
          have x5 : wr.cell? ⟨w3.heap.size, 12, none⟩ = some (.int .u32 (hm : Int)) := KXr.out.cell 12
          have x2 : wr.cell? ⟨w3.heap.size, 9, none⟩ = some (.slice s3 0 c3) := by
            have q := KXr.out.cell 9
            rw [j2] at q
            exact q
          have x3 : wr.cell? ⟨w3.heap.size, 10, none⟩ = some (.int .u8 (y' : Int)) := KXr.out.cell 10
          have t5 : wr.cell? ⟨(w.heap.size + 1), 12, none⟩ = some (.int .u32 (hm : Int)) := KHr.out.cell 12
          have t2 : wr.cell? ⟨(w.heap.size + 1), 9, none⟩ = some (.slice s 0 c) := by
            have q := KHr.out.cell 9
            rw [j3] at q
            exact q
          have t4 : wr.cell? ⟨(w.heap.size + 1), 11, none⟩ = some (.int .u64 (ep : Int)) := KHr.out.cell 11
          have n0 : wr.cell? ⟨w3.heap.size + 1, 0, none⟩ = some (.bool true) := by
            have q := KNr.out.cell 0
            rw [hns] at q
            exact q
          clear i1 i2 i3 i4 j2 j3
          have hy' : ((y' : Int) == 0) = false := by rw [beq_eq_false_iff_ne]; omega
          have t0 : wr.cell? ⟨(w.heap.size + 1), 0, none⟩ = some (.int .u32 (p : Int)) := KHr.out.cell 0
          have x0' : wr.cell? ⟨w3.heap.size, 0, none⟩ = some (.int .u32 (p : Int)) := by
            have q := KXr.out.cell 0
            rw [g4.out.resolve_left hy0] at q
            exact q
          have hph : ((hm : Int) == (p : Int)) = true := by
            have q : Value.int .u32 (hm : Int) = Value.int .u32 (p : Int) := Option.some.inj (x0.symm.trans x0')
            injection q with _ q
            simp [q]
          clear x0'
          clear hns hy0
          go_wp2_with fail
          refine (awake09_c _).mono ?_
          rintro en w9 ⟨rfl, hb⟩
          have B8 := Lib.hid (BR.out.trans (hb.mono BR.out.size))
          clear hb
          go_wp2_with fail
          go_ret
          exact ⟨rfl, B8.out⟩
      | false =>
        by_cases hy0 : y' = 0
        · have x0 : wr.cell? ⟨w3.heap.size, 0, none⟩ = some (.int .u32 (p' : Int)) := by
            have q := KXr.out.cell 0
            skip
            exact q
          have x4 : wr.cell? ⟨w3.heap.size, 11, none⟩ = some (.int .u64 (ep : Int)) := by
            have q := KXr.out.cell 11
            rw [g3.out.resolve_left (by rw [hns]; decide)] at q
            exact q
          have x5 : wr.cell? ⟨w3.heap.size, 12, none⟩ = some (.int .u32 (hm : Int)) := KXr.out.cell 12
          have x2 : wr.cell? ⟨w3.heap.size, 9, none⟩ = some (.slice s3 S'.length c3) := by
            have q := KXr.out.cell 9
            skip
            exact q
          have x3 : wr.cell? ⟨w3.heap.size, 10, none⟩ = some (.int .u8 (y' : Int)) := KXr.out.cell 10
          have t5 : wr.cell? ⟨(w.heap.size + 1), 12, none⟩ = some (.int .u32 (hm : Int)) := KHr.out.cell 12
          have t2 : wr.cell? ⟨(w.heap.size + 1), 9, none⟩ = some (.slice s S.length c) := by
            have q := KHr.out.cell 9
            skip
            exact q
          have t4 : wr.cell? ⟨(w.heap.size + 1), 11, none⟩ = some (.int .u64 (ep : Int)) := KHr.out.cell 11
          have n0 : wr.cell? ⟨w3.heap.size + 1, 0, none⟩ = some (.bool false) := by
            have q := KNr.out.cell 0
            rw [hns] at q
            exact q
          skip
          have hy' : ((y' : Int) == 0) = true := by simp; omega
          clear hns hy0
          go_wp2_with fail
          refine (awake09_c _).mono ?_
          rintro en w9 ⟨rfl, hb⟩
          have B8 := Lib.hid (BR.out.trans (hb.mono BR.out.size))
          clear hb
          go_wp2_with fail
          go_ret
          exact ⟨rfl, B8.out⟩
        · have x0 : wr.cell? ⟨w3.heap.size, 0, none⟩ = some (.int .u32 (p' : Int)) := by
            have q := KXr.out.cell 0
            skip
            exact q
          have x4 : wr.cell? ⟨w3.heap.size, 11, none⟩ = some (.int .u64 (ep : Int)) := by
            have q := KXr.out.cell 11
            rw [g3.out.resolve_left (by rw [hns]; decide)] at q
            exact q
          have x5 : wr.cell? ⟨w3.heap.size, 12, none⟩ = some (.int .u32 (hm : Int)) := KXr.out.cell 12
          have x2 : wr.cell? ⟨w3.heap.size, 9, none⟩ = some (.slice s3 S'.length c3) := by
            have q := KXr.out.cell 9
            skip
            exact q
          have x3 : wr.cell? ⟨w3.heap.size, 10, none⟩ = some (.int .u8 (y' : Int)) := KXr.out.cell 10
          have t5 : wr.cell? ⟨(w.heap.size + 1), 12, none⟩ = some (.int .u32 (hm : Int)) := KHr.out.cell 12
          have t2 : wr.cell? ⟨(w.heap.size + 1), 9, none⟩ = some (.slice s S.length c) := by
            have q := KHr.out.cell 9
            skip
            exact q
          have t4 : wr.cell? ⟨(w.heap.size + 1), 11, none⟩ = some (.int .u64 (ep : Int)) := KHr.out.cell 11
          have n0 : wr.cell? ⟨w3.heap.size + 1, 0, none⟩ = some (.bool false) := by
            have q := KNr.out.cell 0
            rw [hns] at q
            exact q
          skip
          have hy' : ((y' : Int) == 0) = false := by rw [beq_eq_false_iff_ne]; omega
          have t0 : wr.cell? ⟨(w.heap.size + 1), 0, none⟩ = some (.int .u32 (p : Int)) := KHr.out.cell 0
          have x0' : wr.cell? ⟨w3.heap.size, 0, none⟩ = some (.int .u32 (p : Int)) := by
            have q := KXr.out.cell 0
            rw [g4.out.resolve_left hy0] at q
            exact q
          clear x0
          clear hns hy0
          go_wp2_with fail
          refine (awake09_c _).mono ?_
          rintro en w9 ⟨rfl, hb⟩
          have B8 := Lib.hid (BR.out.trans (hb.mono BR.out.size))
          clear hb
          go_wp2_with fail
          go_ret
          exact ⟨rfl, B8.out⟩
end Go.Proofs.Ythnbdeibjbicpaa.PM
