/- HartSteps walked. Conditions: the cells; the words are words. -/
import Derived.Test.YthnbdeibjbicpaaGreatLawE0
import Derived.Test.YthnbdeibjbicpaaGreatStepL
import Derived.Deep.Cut
namespace Go.Proofs.YthnbdeibjbicpaaGreat.PM
set_option linter.unusedVariables false
set_option linter.unusedSimpArgs false
open Go.RowKit
theorem note_same (b1 b2 : Bool) (x y : Int) (w : World) : (binOp .neq 44 (.agg #[.bool b1, .bool b2, .int .u32 x, .int .u32 y]) (.agg #[.bool b1, .bool b2, .int .u32 x, .int .u32 y])).run Tryz.prog w = .ok (.bool false) w := by
  cases b1 <;> cases b2 <;> simp [Op.eqFields, go_sem]
set_option maxRecDepth 100000 in
set_option maxHeartbeats 16000000 in
theorem law_hsteps (s1 : Option Addr) (C : List Nat) (c1 : Nat) (s2 : Option Addr) (D : List Nat) (c2 gate : Nat) (ret : Bool) (p : Nat) (R : Nat → Nat) (s : Option Addr) (S : List Nat) (c y ep hm epoch : Nat) (w : World) (h1 : Stk w s1 C) (h2 : Stk w s2 D) (hS : Stk w s S) (n1 : S.length < 35184372088832)
    (hC : ∀ i, i < C.length → C[i]! < 4294967296) (hD : ∀ i, i < D.length → D[i]! < 4294967296) (hg : gate < 4294967296) (hp : p < 4294967296) (hR : ∀ i, i < 8 → R i < 4294967296) :
    Calls Tryz.prog 3 #[.agg #[.slice s1 C.length c1, .slice s2 D.length c2, .int .u32 (gate : Int), .bool ret], .agg #[.int .u32 (p : Int), .int .u32 (R 0 : Int), .int .u32 (R 1 : Int), .int .u32 (R 2 : Int), .int .u32 (R 3 : Int), .int .u32 (R 4 : Int), .int .u32 (R 5 : Int), .int .u32 (R 6 : Int), .int .u32 (R 7 : Int), .slice s S.length c, .int .u8 (y : Int), .int .u64 (ep : Int), .int .u32 (hm : Int)], .int .u64 (epoch : Int)] w fun e w' => e = .returned (.bool true) ∧ Below w.heap.size w w' := by
  have MK : ∀ W, Stk W s1 C → Stk W s2 D → Calls Tryz.prog 5 #[.agg #[.slice s1 C.length c1, .slice s2 D.length c2, .int .u32 (gate : Int), .bool ret]] W fun e w' => Made W C D gate ret e w' := fun W a b => made_c W s1 C c1 s2 D c2 gate ret a b
  have mb := land_mb C D gate hC hD hg
  have CC : ∀ W, Stk W s S → Calls Tryz.prog 6 #[.agg #[.int .u32 (p : Int), .int .u32 (R 0 : Int), .int .u32 (R 1 : Int), .int .u32 (R 2 : Int), .int .u32 (R 3 : Int), .int .u32 (R 4 : Int), .int .u32 (R 5 : Int), .int .u32 (R 6 : Int), .int .u32 (R 7 : Int), .slice s S.length c, .int .u8 (y : Int), .int .u64 (ep : Int), .int .u32 (hm : Int)]] W fun e w' => Copied9 W p R y ep hm S e w' := fun W q => rcopy_c W p R s c y ep hm S q n1
  have ST : ∀ W s c M g h c' d cd, Mem W M g h c' d cd (landG gate) (landT ret) (landL C D) → Stk W s S → Calls Tryz.prog 7 #[.agg #[.int .u32 (p : Int), .int .u32 (R 0 : Int), .int .u32 (R 1 : Int), .int .u32 (R 2 : Int), .int .u32 (R 3 : Int), .int .u32 (R 4 : Int), .int .u32 (R 5 : Int), .int .u32 (R 6 : Int), .int .u32 (R 7 : Int), .slice s S.length c, .int .u8 (y : Int), .int .u64 (ep : Int), .int .u32 (hm : Int)], .pointer (some ⟨M, 0, none⟩), .int .u64 (epoch : Int)] W fun en w' => StepP W M g h c' d cd (landG gate) (landT ret) hm (hstep (landG gate) (landT ret) (landL C D) p R S ep hm epoch y) en w' := fun W s c M g h c' d cd m a =>
    step_c W M g h c' d cd _ _ _ p R S ep hm epoch y s c m a n1 hp hR (mb.fetch p ep)
  have RT : ∀ W b cb e ce, RM W b e (landT ret) (landL C D) → Stk W s S → Calls Tryz.prog 8 #[.agg #[.int .u32 (p : Int), .int .u32 (R 0 : Int), .int .u32 (R 1 : Int), .int .u32 (R 2 : Int), .int .u32 (R 3 : Int), .int .u32 (R 4 : Int), .int .u32 (R 5 : Int), .int .u32 (R 6 : Int), .int .u32 (R 7 : Int), .slice s S.length c, .int .u8 (y : Int), .int .u64 (ep : Int), .int .u32 (hm : Int)], .agg #[.int .u32 ((landG gate) 0 : Int), .int .u32 ((landG gate) 1 : Int), .int .u32 ((landG gate) 2 : Int), .int .u32 ((landG gate) 3 : Int), .int .u32 ((landG gate) 4 : Int), .int .u32 ((landG gate) 5 : Int), .int .u32 ((landG gate) 6 : Int), .int .u32 ((landG gate) 7 : Int), .slice (some ⟨b, 0, none⟩) (landT ret).length cb, .slice (some ⟨e, 0, none⟩) (landL C D).length ce], .int .u64 (epoch : Int)] W fun en w' => RStep W b cb e (landG gate) (landT ret) hm (hstep (landG gate) (landT ret) (landL C D) p R S ep hm epoch y) en w' := fun W b cb e ce m a =>
    rstep_c W b cb e ce _ _ _ p R S ep hm epoch y s c m a n1 hp hR (mb.fetch p ep)
  have n2 : (hstep (landG gate) (landT ret) (landL C D) p R S ep hm epoch y).S.length < 35184372088832 := by
    have := hstep_len (G := landG gate) (T := landT ret) (L := landL C D) (pc := p) (R := R) (S := S) ep hm epoch y
    omega
  generalize hstep (landG gate) (landT ret) (landL C D) p R S ep hm epoch y = oo at ST RT n2
  obtain ⟨p', R', S', y', ep', L', nS, nT, nA, nW⟩ := oo
  simp only at n2
  have SXY : ∀ W s3 c3 s4 c4, Stk W s3 S' → Stk W s4 S' → Calls Tryz.prog 9 #[.agg #[.int .u32 (p' : Int), .int .u32 (R' 0 : Int), .int .u32 (R' 1 : Int), .int .u32 (R' 2 : Int), .int .u32 (R' 3 : Int), .int .u32 (R' 4 : Int), .int .u32 (R' 5 : Int), .int .u32 (R' 6 : Int), .int .u32 (R' 7 : Int), .slice s3 S'.length c3, .int .u8 (y' : Int), .int .u64 (ep' : Int), .int .u32 (hm : Int)], .agg #[.int .u32 (p' : Int), .int .u32 (R' 0 : Int), .int .u32 (R' 1 : Int), .int .u32 (R' 2 : Int), .int .u32 (R' 3 : Int), .int .u32 (R' 4 : Int), .int .u32 (R' 5 : Int), .int .u32 (R' 6 : Int), .int .u32 (R' 7 : Int), .slice s4 S'.length c4, .int .u8 (y' : Int), .int .u64 (ep' : Int), .int .u32 (hm : Int)]] W fun e w' => e = .returned (.bool true) ∧ Below W.heap.size W w' := fun W s3 c3 s4 c4 a b => sameH_refl p' R' S' y' ep' hm ▸ rsame_h W p' R' S' y' ep' hm p' R' S' y' ep' hm s3 s4 c3 c4 a b n2
  have SIN : ∀ W s5 c5, Stk W s5 S → Stk W s S → Calls Tryz.prog 9 #[.agg #[.int .u32 (p : Int), .int .u32 (R 0 : Int), .int .u32 (R 1 : Int), .int .u32 (R 2 : Int), .int .u32 (R 3 : Int), .int .u32 (R 4 : Int), .int .u32 (R 5 : Int), .int .u32 (R 6 : Int), .int .u32 (R 7 : Int), .slice s5 S.length c5, .int .u8 (y : Int), .int .u64 (ep : Int), .int .u32 (hm : Int)], .agg #[.int .u32 (p : Int), .int .u32 (R 0 : Int), .int .u32 (R 1 : Int), .int .u32 (R 2 : Int), .int .u32 (R 3 : Int), .int .u32 (R 4 : Int), .int .u32 (R 5 : Int), .int .u32 (R 6 : Int), .int .u32 (R 7 : Int), .slice s S.length c, .int .u8 (y : Int), .int .u64 (ep : Int), .int .u32 (hm : Int)]] W fun e w' => e = .returned (.bool true) ∧ Below W.heap.size W w' := fun W s5 c5 a b => sameH_refl p R S y ep hm ▸ rsame_h W p R S y ep hm p R S y ep hm s5 s c5 c a b n1
  have SM := fun W M g h c' d cd b cb e ce G T L (m : Mem W M g h c' d cd G T L) (r : RM W b e T L) => same9_c W M g h c' d cd b cb e ce G T L m r
  unfold PM.rm at SM
  have NQ := note_same nS nT (nA : Int) (nW : Int)
  replace MK := Lib.hid MK
  replace CC := Lib.hid CC
  replace ST := Lib.hid ST
  replace RT := Lib.hid RT
  replace SXY := Lib.hid SXY
  replace SIN := Lib.hid SIN
  replace SM := Lib.hid SM
  replace NQ := Lib.hid NQ
  clear mb hC hD hg hp hR
  generalize hW : (w.alloc (.cells #[.slice s1 C.length c1, .slice s2 D.length c2, .int .u32 (gate : Int), .bool ret] 25)).alloc (.cells #[.int .u32 (p : Int), .int .u32 (R 0 : Int), .int .u32 (R 1 : Int), .int .u32 (R 2 : Int), .int .u32 (R 3 : Int), .int .u32 (R 4 : Int), .int .u32 (R 5 : Int), .int .u32 (R 6 : Int), .int .u32 (R 7 : Int), .slice s S.length c, .int .u8 (y : Int), .int .u64 (ep : Int), .int .u32 (hm : Int)] 30) = W0
  have KH : Hid (Blk W0 (w.heap.size + 1) 30 #[.int .u32 (p : Int), .int .u32 (R 0 : Int), .int .u32 (R 1 : Int), .int .u32 (R 2 : Int), .int .u32 (R 3 : Int), .int .u32 (R 4 : Int), .int .u32 (R 5 : Int), .int .u32 (R 6 : Int), .int .u32 (R 7 : Int), .slice s S.length c, .int .u8 (y : Int), .int .u64 (ep : Int), .int .u32 (hm : Int)]) := Lib.hid (by
    have k := Blk.new (w.alloc (.cells #[.slice s1 C.length c1, .slice s2 D.length c2, .int .u32 (gate : Int), .bool ret] 25)) 30 #[.int .u32 (p : Int), .int .u32 (R 0 : Int), .int .u32 (R 1 : Int), .int .u32 (R 2 : Int), .int .u32 (R 3 : Int), .int .u32 (R 4 : Int), .int .u32 (R 5 : Int), .int .u32 (R 6 : Int), .int .u32 (R 7 : Int), .slice s S.length c, .int .u8 (y : Int), .int .u64 (ep : Int), .int .u32 (hm : Int)]
    have e : (w.alloc (.cells #[.slice s1 C.length c1, .slice s2 D.length c2, .int .u32 (gate : Int), .bool ret] 25)).heap.size = w.heap.size + 1 := by simp
    rw [e] at k
    exact hW ▸ k)
  have B0 : Hid (Below w.heap.size w W0) := Lib.hid (hW ▸ ((Below.refl _ w).alloc (Nat.le_refl _) _).alloc (by simp) _)
  have Z0 : Hid (W0.heap.size = w.heap.size + 2) := Lib.hid (hW ▸ by simp)
  have H1 := Lib.hid h1
  have H2 := Lib.hid h2
  have HS := Lib.hid hS
  have N2 := Lib.hid n2
  have KW := Lib.hid hW
  clear h1 h2 hS hW n1 n2
  go_enter Tryz.func3, Tryz.ntmps3
  go_wp2_with fail
  (try rw [KW.out])
  refine (MK.out _ (H1.out.kept B0.out) (H2.out.kept B0.out)).mono ?_
  rintro en w1 ⟨M, g, h, c', d, cd, b, cb, e, ce, rfl, LD⟩
  generalize landG gate = G at ST RT LD ⊢
  generalize landT ret = T at ST RT LD ⊢
  generalize landL C D = L at ST RT LD ⊢
  unfold PM.rm
  go_upto_region 2 with fail
  generalize hX1 : w1.alloc (.cells #[.int .u32 (G 0 : Int), .int .u32 (G 1 : Int), .int .u32 (G 2 : Int), .int .u32 (G 3 : Int), .int .u32 (G 4 : Int), .int .u32 (G 5 : Int), .int .u32 (G 6 : Int), .int .u32 (G 7 : Int), .slice (some ⟨b, 0, none⟩) T.length cb, .slice (some ⟨e, 0, none⟩) L.length ce] 36) = X1
  have SZ : Hid (W0.heap.size ≤ d ∧ d < w1.heap.size ∧ b ≠ d ∧ e ≠ d) := Lib.hid ⟨LD.ld, LD.mem.wds.lt, LD.bd, LD.ed⟩
  have KB1 : Hid (Blk X1 w1.heap.size 36 #[.int .u32 (G 0 : Int), .int .u32 (G 1 : Int), .int .u32 (G 2 : Int), .int .u32 (G 3 : Int), .int .u32 (G 4 : Int), .int .u32 (G 5 : Int), .int .u32 (G 6 : Int), .int .u32 (G 7 : Int), .slice (some ⟨b, 0, none⟩) T.length cb, .slice (some ⟨e, 0, none⟩) L.length ce]) := Lib.hid (hX1 ▸ Blk.new w1 _ _)
  have KH1 : Hid (Blk X1 (w.heap.size + 1) 30 #[.int .u32 (p : Int), .int .u32 (R 0 : Int), .int .u32 (R 1 : Int), .int .u32 (R 2 : Int), .int .u32 (R 3 : Int), .int .u32 (R 4 : Int), .int .u32 (R 5 : Int), .int .u32 (R 6 : Int), .int .u32 (R 7 : Int), .slice s S.length c, .int .u8 (y : Int), .int .u64 (ep : Int), .int .u32 (hm : Int)]) := Lib.hid (hX1 ▸ (KH.out.kept LD.bel).alloc _)
  have M1 : Hid (Mem X1 M g h c' d cd G T L) := Lib.hid (hX1 ▸ LD.mem.alloc _)
  have R1' : Hid (RM X1 b e T L) := Lib.hid (hX1 ▸ LD.rm.alloc _)
  have B1 : Hid (Below w.heap.size w X1) := Lib.hid (hX1 ▸ (B0.out.trans (LD.bel.mono B0.out.size)).alloc (Nat.le_trans B0.out.size LD.bel.size) _)
  have L1 : Hid (w1.heap.size < X1.heap.size) := Lib.hid KB1.out.lt
  (try rw [hX1])
  clear hX1 LD KH KW
  obtain ⟨t0, t1, t2, t3, t4, t5, t6, t7, t8, t9, t10, t11, t12⟩ := blkc13 KH1.out
  go_wp2_with fail
  refine (CC.out _ (HS.out.kept B1.out)).mono ?_
  rintro en w2 ⟨v, rfl, ow, hb⟩
  obtain ⟨s5, c5, rfl, _⟩ := ow.form
  unfold hv
  have KB2 := Lib.hid (KB1.out.kept hb)
  have KH2 := Lib.hid (KH1.out.kept hb)
  have M2 := Lib.hid (M1.out.kept hb)
  have R2 := Lib.hid (R1'.out.kept hb)
  have B2 := Lib.hid (B1.out.trans (hb.mono B1.out.size))
  have L2 : Hid (X1.heap.size ≤ w2.heap.size) := Lib.hid hb.size
  have OI := Lib.hid ow
  clear ow hb KB1 KH1 M1 R1' B1 CC t0 t1 t2 t3 t4 t5 t6 t7 t8 t9 t10 t11 t12
  go_upto_region 3 with fail
  generalize hX2 : w2.alloc (.cells #[.int .u32 (p : Int), .int .u32 (R 0 : Int), .int .u32 (R 1 : Int), .int .u32 (R 2 : Int), .int .u32 (R 3 : Int), .int .u32 (R 4 : Int), .int .u32 (R 5 : Int), .int .u32 (R 6 : Int), .int .u32 (R 7 : Int), .slice s5 S.length c5, .int .u8 (y : Int), .int .u64 (ep : Int), .int .u32 (hm : Int)] 30) = X2
  have BX : Hid (Below w2.heap.size w2 X2) := Lib.hid (hX2 ▸ (Below.refl _ w2).alloc (Nat.le_refl _) _)
  have KI3 : Hid (Blk X2 w2.heap.size 30 #[.int .u32 (p : Int), .int .u32 (R 0 : Int), .int .u32 (R 1 : Int), .int .u32 (R 2 : Int), .int .u32 (R 3 : Int), .int .u32 (R 4 : Int), .int .u32 (R 5 : Int), .int .u32 (R 6 : Int), .int .u32 (R 7 : Int), .slice s5 S.length c5, .int .u8 (y : Int), .int .u64 (ep : Int), .int .u32 (hm : Int)]) := Lib.hid (hX2 ▸ Blk.new w2 _ _)
  have KB3 := Lib.hid (KB2.out.kept BX.out)
  have KH3 := Lib.hid (KH2.out.kept BX.out)
  have M3 := Lib.hid (M2.out.kept BX.out)
  have R3 := Lib.hid (R2.out.kept BX.out)
  have OI3 := Lib.hid (OI.out.kept BX.out)
  have B3 := Lib.hid (B2.out.trans (BX.out.mono B2.out.size))
  have OIL : Hid (∀ k, (Value.slice s5 S.length c5).ownBlock = some k → X1.heap.size ≤ k ∧ k < w2.heap.size) := Lib.hid fun k hk => OI.out.lt k hk
  have L3 : Hid (w2.heap.size < X2.heap.size) := Lib.hid KI3.out.lt
  (try rw [hX2])
  clear hX2 BX KB2 KH2 M2 R2 OI B2
  obtain ⟨i0, i1, i2, i3, i4, i5, i6, i7, i8, i9, i10, i11, i12⟩ := blkc13 KI3.out
  go_wp2_with fail
  refine (ST.out _ _ _ _ _ _ _ _ _ M3.out OI3.out.stk).mono ?_
  rintro en w3 ⟨v, he, ow, m3, u3⟩
  obtain ⟨s3, c3, rfl, _⟩ := ow.form
  simp only at he
  subst he
  obtain ⟨z1, z2, z3, z4⟩ := SZ.out
  have z0 := Z0.out
  have l1 := L1.out
  have l2 := L2.out
  have KI4 := Lib.hid (u3.blk KI3.out (by omega))
  have KB4 := Lib.hid (u3.blk KB3.out (by omega))
  have KH4 := Lib.hid (u3.blk KH3.out (by omega))
  have OI4 := Lib.hid (OI3.out.updx u3 (fun e => by have := OIL.out _ e; omega))
  have R4 := Lib.hid (R3.out.updx u3 z3 z4)
  have B4 := Lib.hid (u3.below B3.out (by omega))
  have M4 := Lib.hid m3
  have O4 := Lib.hid ow
  have L4 : Hid (X2.heap.size ≤ w3.heap.size) := Lib.hid u3.size
  clear ow m3 u3 z0 z1 z2 z3 z4 l1 l2 KI3 KB3 KH3 OI3 R3 B3 M3 ST i0 i1 i2 i3 i4 i5 i6 i7 i8 i9 i10 i11 i12
  unfold hv
  go_upto_region 4 with fail
  generalize hX3 : (w3.alloc (.cells #[.int .u32 (p' : Int), .int .u32 (R' 0 : Int), .int .u32 (R' 1 : Int), .int .u32 (R' 2 : Int), .int .u32 (R' 3 : Int), .int .u32 (R' 4 : Int), .int .u32 (R' 5 : Int), .int .u32 (R' 6 : Int), .int .u32 (R' 7 : Int), .slice s3 S'.length c3, .int .u8 (y' : Int), .int .u64 (ep' : Int), .int .u32 (hm : Int)] 30)).alloc (.cells #[.bool nS, .bool nT, .int .u32 (nA : Int), .int .u32 (nW : Int)] 41) = X3
  have BX : Hid (Below w3.heap.size w3 X3) := Lib.hid (hX3 ▸ ((Below.refl _ w3).alloc (Nat.le_refl _) _).alloc (by simp) _)
  have KX5 : Hid (Blk X3 w3.heap.size 30 #[.int .u32 (p' : Int), .int .u32 (R' 0 : Int), .int .u32 (R' 1 : Int), .int .u32 (R' 2 : Int), .int .u32 (R' 3 : Int), .int .u32 (R' 4 : Int), .int .u32 (R' 5 : Int), .int .u32 (R' 6 : Int), .int .u32 (R' 7 : Int), .slice s3 S'.length c3, .int .u8 (y' : Int), .int .u64 (ep' : Int), .int .u32 (hm : Int)]) := Lib.hid (hX3 ▸ (Blk.new w3 _ _).alloc _)
  have KN5 : Hid (Blk X3 (w3.heap.size + 1) 41 #[.bool nS, .bool nT, .int .u32 (nA : Int), .int .u32 (nW : Int)]) := Lib.hid (by
    have k := Blk.new (w3.alloc (.cells #[.int .u32 (p' : Int), .int .u32 (R' 0 : Int), .int .u32 (R' 1 : Int), .int .u32 (R' 2 : Int), .int .u32 (R' 3 : Int), .int .u32 (R' 4 : Int), .int .u32 (R' 5 : Int), .int .u32 (R' 6 : Int), .int .u32 (R' 7 : Int), .slice s3 S'.length c3, .int .u8 (y' : Int), .int .u64 (ep' : Int), .int .u32 (hm : Int)] 30)) 41 #[.bool nS, .bool nT, .int .u32 (nA : Int), .int .u32 (nW : Int)]
    have e : (w3.alloc (.cells #[.int .u32 (p' : Int), .int .u32 (R' 0 : Int), .int .u32 (R' 1 : Int), .int .u32 (R' 2 : Int), .int .u32 (R' 3 : Int), .int .u32 (R' 4 : Int), .int .u32 (R' 5 : Int), .int .u32 (R' 6 : Int), .int .u32 (R' 7 : Int), .slice s3 S'.length c3, .int .u8 (y' : Int), .int .u64 (ep' : Int), .int .u32 (hm : Int)] 30)).heap.size = w3.heap.size + 1 := by simp
    rw [e] at k
    exact hX3 ▸ k)
  have KI5 := Lib.hid (KI4.out.kept BX.out)
  have KB5 := Lib.hid (KB4.out.kept BX.out)
  have KH5 := Lib.hid (KH4.out.kept BX.out)
  have M5 := Lib.hid (M4.out.kept BX.out)
  have R5 := Lib.hid (R4.out.kept BX.out)
  have OI5 := Lib.hid (OI4.out.kept BX.out)
  have O5 := Lib.hid (O4.out.kept BX.out)
  have OL : Hid (∀ k, (Value.slice s3 S'.length c3).ownBlock = some k → X2.heap.size ≤ k ∧ k < w3.heap.size) := Lib.hid fun k hk => O4.out.lt k hk
  have B5 := Lib.hid (B4.out.trans (BX.out.mono B4.out.size))
  (try rw [hX3])
  clear hX3 BX KI4 KB4 KH4 M4 R4 OI4 O4 B4
  obtain ⟨t0, t1, t2, t3, t4, t5, t6, t7, t8, t9, t10, t11, t12⟩ := blkc13 KH5.out
  obtain ⟨r0, r1, r2, r3, r4, r5, r6, r7, r8, r9⟩ := blkc10 KB5.out
  go_wp2_with fail
  refine (RT.out _ _ _ _ _ R5.out (HS.out.kept B5.out)).mono ?_
  rintro en w4 ⟨v, e', ce', he, ow, rw4, _, hb⟩
  obtain ⟨s4, c4, rfl, _⟩ := ow.form
  simp only at he
  subst he
  have KI6 := Lib.hid (KI5.out.kept hb)
  have KH6 := Lib.hid (KH5.out.kept hb)
  have M6 := Lib.hid (M5.out.kept hb)
  have OI6 := Lib.hid (OI5.out.kept hb)
  have O6 := Lib.hid (O5.out.kept hb)
  have KX6 := Lib.hid (KX5.out.kept hb)
  have KN6 := Lib.hid (KN5.out.kept hb)
  have B6 := Lib.hid (B5.out.trans (hb.mono B5.out.size))
  have R6 := Lib.hid rw4
  have OY6 := Lib.hid ow
  clear ow rw4 hb KI5 KB5 KH5 M5 R5 OI5 O5 KX5 KN5 B5 RT t0 t1 t2 t3 t4 t5 t6 t7 t8 t9 t10 t11 t12 r0 r1 r2 r3 r4 r5 r6 r7 r8 r9
  unfold hv PM.rm
  go_upto_region 5 with fail
  generalize hX4 : ((w4.alloc (.cells #[.int .u32 (p' : Int), .int .u32 (R' 0 : Int), .int .u32 (R' 1 : Int), .int .u32 (R' 2 : Int), .int .u32 (R' 3 : Int), .int .u32 (R' 4 : Int), .int .u32 (R' 5 : Int), .int .u32 (R' 6 : Int), .int .u32 (R' 7 : Int), .slice s4 S'.length c4, .int .u8 (y' : Int), .int .u64 (ep' : Int), .int .u32 (hm : Int)] 30)).alloc (.cells #[.int .u32 (G 0 : Int), .int .u32 (G 1 : Int), .int .u32 (G 2 : Int), .int .u32 (G 3 : Int), .int .u32 (G 4 : Int), .int .u32 (G 5 : Int), .int .u32 (G 6 : Int), .int .u32 (G 7 : Int), .slice (some ⟨b, 0, none⟩) T.length cb, .slice (some ⟨e', 0, none⟩) L'.length ce'] 36)).alloc (.cells #[.bool nS, .bool nT, .int .u32 (nA : Int), .int .u32 (nW : Int)] 44) = X4
  have BX : Hid (Below w4.heap.size w4 X4) := Lib.hid (hX4 ▸ (((Below.refl _ w4).alloc (Nat.le_refl _) _).alloc (by simp) _).alloc (by simp; omega) _)
  have KY7 : Hid (Blk X4 w4.heap.size 30 #[.int .u32 (p' : Int), .int .u32 (R' 0 : Int), .int .u32 (R' 1 : Int), .int .u32 (R' 2 : Int), .int .u32 (R' 3 : Int), .int .u32 (R' 4 : Int), .int .u32 (R' 5 : Int), .int .u32 (R' 6 : Int), .int .u32 (R' 7 : Int), .slice s4 S'.length c4, .int .u8 (y' : Int), .int .u64 (ep' : Int), .int .u32 (hm : Int)]) := Lib.hid (hX4 ▸ ((Blk.new w4 _ _).alloc _).alloc _)
  have KZ7 : Hid (Blk X4 (w4.heap.size + 1) 36 #[.int .u32 (G 0 : Int), .int .u32 (G 1 : Int), .int .u32 (G 2 : Int), .int .u32 (G 3 : Int), .int .u32 (G 4 : Int), .int .u32 (G 5 : Int), .int .u32 (G 6 : Int), .int .u32 (G 7 : Int), .slice (some ⟨b, 0, none⟩) T.length cb, .slice (some ⟨e', 0, none⟩) L'.length ce']) := Lib.hid (by
    have k := Blk.new (w4.alloc (.cells #[.int .u32 (p' : Int), .int .u32 (R' 0 : Int), .int .u32 (R' 1 : Int), .int .u32 (R' 2 : Int), .int .u32 (R' 3 : Int), .int .u32 (R' 4 : Int), .int .u32 (R' 5 : Int), .int .u32 (R' 6 : Int), .int .u32 (R' 7 : Int), .slice s4 S'.length c4, .int .u8 (y' : Int), .int .u64 (ep' : Int), .int .u32 (hm : Int)] 30)) 36 #[.int .u32 (G 0 : Int), .int .u32 (G 1 : Int), .int .u32 (G 2 : Int), .int .u32 (G 3 : Int), .int .u32 (G 4 : Int), .int .u32 (G 5 : Int), .int .u32 (G 6 : Int), .int .u32 (G 7 : Int), .slice (some ⟨b, 0, none⟩) T.length cb, .slice (some ⟨e', 0, none⟩) L'.length ce']
    have e : (w4.alloc (.cells #[.int .u32 (p' : Int), .int .u32 (R' 0 : Int), .int .u32 (R' 1 : Int), .int .u32 (R' 2 : Int), .int .u32 (R' 3 : Int), .int .u32 (R' 4 : Int), .int .u32 (R' 5 : Int), .int .u32 (R' 6 : Int), .int .u32 (R' 7 : Int), .slice s4 S'.length c4, .int .u8 (y' : Int), .int .u64 (ep' : Int), .int .u32 (hm : Int)] 30)).heap.size = w4.heap.size + 1 := by simp
    rw [e] at k
    exact hX4 ▸ (k.alloc _))
  have KK7 : Hid (Blk X4 (w4.heap.size + 2) 44 #[.bool nS, .bool nT, .int .u32 (nA : Int), .int .u32 (nW : Int)]) := Lib.hid (by
    have k := Blk.new ((w4.alloc (.cells #[.int .u32 (p' : Int), .int .u32 (R' 0 : Int), .int .u32 (R' 1 : Int), .int .u32 (R' 2 : Int), .int .u32 (R' 3 : Int), .int .u32 (R' 4 : Int), .int .u32 (R' 5 : Int), .int .u32 (R' 6 : Int), .int .u32 (R' 7 : Int), .slice s4 S'.length c4, .int .u8 (y' : Int), .int .u64 (ep' : Int), .int .u32 (hm : Int)] 30)).alloc (.cells #[.int .u32 (G 0 : Int), .int .u32 (G 1 : Int), .int .u32 (G 2 : Int), .int .u32 (G 3 : Int), .int .u32 (G 4 : Int), .int .u32 (G 5 : Int), .int .u32 (G 6 : Int), .int .u32 (G 7 : Int), .slice (some ⟨b, 0, none⟩) T.length cb, .slice (some ⟨e', 0, none⟩) L'.length ce'] 36)) 44 #[.bool nS, .bool nT, .int .u32 (nA : Int), .int .u32 (nW : Int)]
    have e : ((w4.alloc (.cells #[.int .u32 (p' : Int), .int .u32 (R' 0 : Int), .int .u32 (R' 1 : Int), .int .u32 (R' 2 : Int), .int .u32 (R' 3 : Int), .int .u32 (R' 4 : Int), .int .u32 (R' 5 : Int), .int .u32 (R' 6 : Int), .int .u32 (R' 7 : Int), .slice s4 S'.length c4, .int .u8 (y' : Int), .int .u64 (ep' : Int), .int .u32 (hm : Int)] 30)).alloc (.cells #[.int .u32 (G 0 : Int), .int .u32 (G 1 : Int), .int .u32 (G 2 : Int), .int .u32 (G 3 : Int), .int .u32 (G 4 : Int), .int .u32 (G 5 : Int), .int .u32 (G 6 : Int), .int .u32 (G 7 : Int), .slice (some ⟨b, 0, none⟩) T.length cb, .slice (some ⟨e', 0, none⟩) L'.length ce'] 36)).heap.size = w4.heap.size + 2 := by simp
    rw [e] at k
    exact hX4 ▸ k)
  have KI7 := Lib.hid (KI6.out.kept BX.out)
  have KH7 := Lib.hid (KH6.out.kept BX.out)
  have M7 := Lib.hid (M6.out.kept BX.out)
  have OI7 := Lib.hid (OI6.out.kept BX.out)
  have O7 := Lib.hid (O6.out.kept BX.out)
  have KX7 := Lib.hid (KX6.out.kept BX.out)
  have KN7 := Lib.hid (KN6.out.kept BX.out)
  have R7 := Lib.hid (R6.out.kept BX.out)
  have OY7 := Lib.hid (OY6.out.kept BX.out)
  have B7 := Lib.hid (B6.out.trans (BX.out.mono B6.out.size))
  (try rw [hX4])
  clear hX4 BX KI6 KH6 M6 OI6 O6 KX6 KN6 R6 OY6 B6
  obtain ⟨x0, x1, x2, x3, x4, x5, x6, x7, x8, x9, x10, x11, x12⟩ := blkc13 KX7.out
  obtain ⟨y0, y1, y2, y3, y4, y5, y6, y7, y8, y9, y10, y11, y12⟩ := blkc13 KY7.out
  go_wp2_with fail
  refine (SXY.out _ _ _ _ _ O7.out.stk OY7.out.stk).mono ?_
  rintro en w5 ⟨rfl, hb⟩
  have KI8 := Lib.hid (KI7.out.kept hb)
  have KH8 := Lib.hid (KH7.out.kept hb)
  have M8 := Lib.hid (M7.out.kept hb)
  have OI8 := Lib.hid (OI7.out.kept hb)
  have O8 := Lib.hid (O7.out.kept hb)
  have KX8 := Lib.hid (KX7.out.kept hb)
  have KN8 := Lib.hid (KN7.out.kept hb)
  have R8 := Lib.hid (R7.out.kept hb)
  have KZ8 := Lib.hid (KZ7.out.kept hb)
  have KK8 := Lib.hid (KK7.out.kept hb)
  have B8 := Lib.hid (B7.out.trans (hb.mono B7.out.size))
  clear hb KI7 KH7 M7 OI7 O7 KX7 KN7 R7 KZ7 KK7 OY7 KY7 B7 SXY x0 x1 x2 x3 x4 x5 x6 x7 x8 x9 x10 x11 x12 y0 y1 y2 y3 y4 y5 y6 y7 y8 y9 y10 y11 y12
  obtain ⟨n0, n1, n2, n3⟩ := blkc4 KN8.out
  obtain ⟨k0, k1, k2, k3⟩ := blkc4 KK8.out
  obtain ⟨z0, z1, z2, z3, z4, z5, z6, z7, z8, z9⟩ := blkc10 KZ8.out
  have nq := NQ.out
  go_wp2_with fail
  refine (SM.out _ _ _ _ _ _ _ _ _ _ _ _ _ _ M8.out R8.out).mono ?_
  rintro en w6 ⟨rfl, hb⟩
  have KI9 := Lib.hid (KI8.out.kept hb)
  have KH9 := Lib.hid (KH8.out.kept hb)
  have OI9 := Lib.hid (OI8.out.kept hb)
  have O9 := Lib.hid (O8.out.kept hb)
  have KX9 := Lib.hid (KX8.out.kept hb)
  have B9 := Lib.hid (B8.out.trans (hb.mono B8.out.size))
  clear hb KI8 KH8 M8 OI8 O8 KX8 KN8 R8 KZ8 KK8 B8 SM NQ nq n0 n1 n2 n3 k0 k1 k2 k3 z0 z1 z2 z3 z4 z5 z6 z7 z8 z9
  obtain ⟨i0, i1, i2, i3, i4, i5, i6, i7, i8, i9, i10, i11, i12⟩ := blkc13 KI9.out
  obtain ⟨t0, t1, t2, t3, t4, t5, t6, t7, t8, t9, t10, t11, t12⟩ := blkc13 KH9.out
  go_wp2_with fail
  refine (SIN.out _ _ _ OI9.out.stk (HS.out.kept B9.out)).mono ?_
  rintro en w7 ⟨rfl, hb⟩
  have KI := Lib.hid (KI9.out.kept hb)
  have KH := Lib.hid (KH9.out.kept hb)
  have OI := Lib.hid (OI9.out.kept hb)
  have O := Lib.hid (O9.out.kept hb)
  have KX := Lib.hid (KX9.out.kept hb)
  have B := Lib.hid (B9.out.trans (hb.mono B9.out.size))
  clear hb KI9 KH9 OI9 O9 KX9 B9 i0 i1 i2 i3 i4 i5 i6 i7 i8 i9 i10 i11 i12 t0 t1 t2 t3 t4 t5 t6 t7 t8 t9 t10 t11 t12
  obtain ⟨g9, hgp, hg1, hg2, hg3, hg4, hg5⟩ : ∃ g9, (0 < S'.length → s3 = some ⟨g9, 0, none⟩ ∧ S'.length ≤ c3 ∧ Wds w7 g9 S') ∧ w.heap.size ≤ g9 ∧ (w.heap.size + 1) ≠ g9 ∧ w2.heap.size ≠ g9 ∧ w3.heap.size ≠ g9 ∧ (Value.slice s5 S.length c5).ownBlock ≠ some g9 := by
    have k0 := B.out.size
    have k1 := KH.out.lt
    have k2 := KI.out.lt
    have k3 := KX.out.lt
    have k4 := L4.out
    have k5 := L3.out
    have k6 := L2.out
    have k7 := L1.out
    have k8 := Z0.out
    have k9 := SZ.out
    have ka : X2.heap.size ≤ w7.heap.size := by omega
    rcases Nat.eq_zero_or_pos S'.length with z | q
    · exact ⟨w7.heap.size, fun h => by omega, by omega, by omega, by omega, by omega, fun e => by have := OIL.out _ e; omega⟩
    · obtain ⟨g9, hbg, hp, _⟩ := O.out.seat ka
      obtain ⟨es, hc, _, hW⟩ := hp q
      have q1 := OL.out g9 (by rw [es]; rfl)
      exact ⟨g9, fun _ => ⟨es, hc, hW⟩, by omega, by omega, by omega, by omega, fun e => by have := OIL.out _ e; omega⟩
  have HGP := Lib.hid hgp
  have HG5 := Lib.hid hg5
  clear hgp hg5 O
  go_wp2_with fail
  go_loopg [15] S'.length (fun gg s15 wr => ∃ kk : Nat, kk ≤ S'.length ∧ S'.length - kk ≤ gg ∧ s15 = .int .i64 (kk : Int) ∧ Hid (Upd g9 w7 wr) ∧ Hid (0 < S'.length → ∃ Sx : List Nat, Sx.length = S'.length ∧ Wds wr g9 Sx))
  case atStart => exact ⟨0, Nat.zero_le _, by omega, rfl, Lib.hid (Upd.refl g9 w7), Lib.hid fun h => ⟨S', rfl, (HGP.out h).2.2⟩⟩
  case round =>
    obtain ⟨kk, hkk, hg, rfl, UG, WG⟩ := hrel
    have KXr := UG.out.blk KX.out hg4
    have hn1 := N2.out
    by_cases hlt : kk < S'.length
    · have hltz : (kk : Int) < (S'.length : Int) := by omega
      obtain ⟨es, hcap, _⟩ := HGP.out (by omega)
      obtain ⟨Sx, hSl, hW⟩ := WG.out (by omega)
      have c9 : wr.cell? ⟨w3.heap.size, 9, none⟩ = some (.slice (some ⟨g9, 0, none⟩) S'.length c3) := by
        rw [← es]
        exact KXr.cell 9
      obtain ⟨x, hx⟩ : ∃ x, Sx[kk]! = x := ⟨_, rfl⟩
      have gx : wr.cell? ⟨g9, kk, none⟩ = some (.int .u32 (x : Int)) := hx ▸ hW.cell kk (by omega)
      have fx : wr.frozen? ⟨g9, kk, none⟩ = false := hW.free kk
      have hwx := wrap_inc x
      have REL : Hid (Upd g9 w7 (wr.setCell ⟨g9, kk, none⟩ (.int .u32 (inc x : Int))) ∧ ∃ Sx : List Nat, Sx.length = S'.length ∧ Wds (wr.setCell ⟨g9, kk, none⟩ (.int .u32 (inc x : Int))) g9 Sx) := Lib.hid ⟨UG.out.setCell kk _, hW.bump hSl hlt (inc x)⟩
      clear es hSl hW hx KXr
      go_wp2_with fail
      go_roundg (S'.length - (kk + 1))
      case measure => omega
      case rel => exact ⟨kk + 1, by omega, by omega, by go_num, Lib.hid REL.out.1, Lib.hid fun _ => REL.out.2⟩
    · have hltz : ¬ (kk : Int) < (S'.length : Int) := by omega
      have c9 : wr.cell? ⟨w3.heap.size, 9, none⟩ = some (.slice s3 S'.length c3) := KXr.cell 9
      have BR := Lib.hid (UG.out.below B.out hg1)
      have KHr := Lib.hid (UG.out.blk KH.out hg2)
      have KIr := Lib.hid (UG.out.blk KI.out hg3)
      have OIr := Lib.hid (OI.out.upd UG.out HG5.out)
      obtain ⟨t0, t1, t2, t3, t4, t5, t6, t7, t8, t9, t10, t11, t12⟩ := blkc13 KHr.out
      obtain ⟨i0, i1, i2, i3, i4, i5, i6, i7, i8, i9, i10, i11, i12⟩ := blkc13 KIr.out
      clear KXr UG WG HGP KX OI KH KI B HG5
      go_wp2_with fail
      refine (SIN.out _ _ _ OIr.out.stk (HS.out.kept BR.out)).mono ?_
      rintro e wA ⟨rfl, hbA⟩
      have BA := Lib.hid (BR.out.trans (hbA.mono BR.out.size))
      clear hbA i0 i1 i2 i3 i4 i5 i6 i7 i8 i9 i10 i11 i12 t0 t1 t2 t3 t4 t5 t6 t7 t8 t9 t10 t11 t12 c9
      go_wp2_with fail
      refine (awake09_c _).mono ?_
      rintro e wB ⟨rfl, hbB⟩
      have BB := Lib.hid (BA.out.trans (hbB.mono BA.out.size))
      clear hbB
      go_wp2_with fail
      go_ret
      exact ⟨rfl, BB.out⟩
end Go.Proofs.YthnbdeibjbicpaaGreat.PM
