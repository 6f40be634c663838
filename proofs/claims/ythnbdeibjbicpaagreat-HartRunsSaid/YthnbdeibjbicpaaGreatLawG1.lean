/- HartRuns walked. Conditions: the cells; the words are words. -/
import Derived.Test.YthnbdeibjbicpaaGreatRun4
import Derived.Test.YthnbdeibjbicpaaGreatStepL
import Derived.Test.YthnbdeibjbicpaaGreatKOpen
import Derived.Deep.Cut
import Derived.Deep.CutRange
import Derived.Deep.RegionWith
import Derived.Deep.RegionHeld3
namespace Go.Proofs.YthnbdeibjbicpaaGreat.PM
set_option linter.unusedVariables false
set_option linter.unusedSimpArgs false
open Go.RowKit
theorem round_pre (M g h c' d cd b cb e ce : Nat) (G : Nat → Nat) (T : List Page) (L : List Nat) (p : Nat) (R : Nat → Nat) (S : List Nat) (ep hm x y : Nat) (sx : Option Addr) (cx : Nat) (sy : Option Addr) (cy K : Nat) (hHB : HB p R S) (hMB : MB G L) (hl : S.length ≤ K) (hk : 16 ≤ K) (hK : K < 35184372088832) (hm4 : hm < 4294967296) :
    ∃ (p' : Nat) (R' : Nat → Nat) (S' : List Nat) (y' ep' : Nat) (L' : List Nat) (nS nT : Bool) (nA nW : Nat),
      (∀ W, Mem W M g h c' d cd G T L → Stk W sx S → Calls Tryz.prog 7 #[.agg #[.int .u32 (p : Int), .int .u32 (R 0 : Int), .int .u32 (R 1 : Int), .int .u32 (R 2 : Int), .int .u32 (R 3 : Int), .int .u32 (R 4 : Int), .int .u32 (R 5 : Int), .int .u32 (R 6 : Int), .int .u32 (R 7 : Int), .slice sx S.length cx, .int .u8 (y : Int), .int .u64 (ep : Int), .int .u32 (hm : Int)], .pointer (some ⟨M, 0, none⟩), .int .u64 (x : Int)] W fun en w' => StepP W M g h c' d cd G T hm ⟨p', R', S', y', ep', L', nS, nT, nA, nW⟩ en w') ∧
      (∀ W, RM W b e T L → Stk W sy S → Calls Tryz.prog 8 #[.agg #[.int .u32 (p : Int), .int .u32 (R 0 : Int), .int .u32 (R 1 : Int), .int .u32 (R 2 : Int), .int .u32 (R 3 : Int), .int .u32 (R 4 : Int), .int .u32 (R 5 : Int), .int .u32 (R 6 : Int), .int .u32 (R 7 : Int), .slice sy S.length cy, .int .u8 (y : Int), .int .u64 (ep : Int), .int .u32 (hm : Int)], .agg #[.int .u32 (G 0 : Int), .int .u32 (G 1 : Int), .int .u32 (G 2 : Int), .int .u32 (G 3 : Int), .int .u32 (G 4 : Int), .int .u32 (G 5 : Int), .int .u32 (G 6 : Int), .int .u32 (G 7 : Int), .slice (some ⟨b, 0, none⟩) T.length cb, .slice (some ⟨e, 0, none⟩) L.length ce], .int .u64 (x : Int)] W fun en w' => RStep W b cb e G T hm ⟨p', R', S', y', ep', L', nS, nT, nA, nW⟩ en w') ∧
      (∀ W s3 c3 s4 c4, Stk W s3 S' → Stk W s4 S' → Calls Tryz.prog 9 #[.agg #[.int .u32 (p' : Int), .int .u32 (R' 0 : Int), .int .u32 (R' 1 : Int), .int .u32 (R' 2 : Int), .int .u32 (R' 3 : Int), .int .u32 (R' 4 : Int), .int .u32 (R' 5 : Int), .int .u32 (R' 6 : Int), .int .u32 (R' 7 : Int), .slice s3 S'.length c3, .int .u8 (y' : Int), .int .u64 (ep' : Int), .int .u32 (hm : Int)], .agg #[.int .u32 (p' : Int), .int .u32 (R' 0 : Int), .int .u32 (R' 1 : Int), .int .u32 (R' 2 : Int), .int .u32 (R' 3 : Int), .int .u32 (R' 4 : Int), .int .u32 (R' 5 : Int), .int .u32 (R' 6 : Int), .int .u32 (R' 7 : Int), .slice s4 S'.length c4, .int .u8 (y' : Int), .int .u64 (ep' : Int), .int .u32 (hm : Int)]] W fun e w' => e = .returned (.bool true) ∧ Below W.heap.size W w') ∧
      HB p' R' S' ∧ MB G L' ∧ S'.length ≤ K := by
  have n1 : S.length < 35184372088832 := Nat.lt_of_le_of_lt hl hK
  have ST : ∀ W, Mem W M g h c' d cd G T L → Stk W sx S → Calls Tryz.prog 7 #[.agg #[.int .u32 (p : Int), .int .u32 (R 0 : Int), .int .u32 (R 1 : Int), .int .u32 (R 2 : Int), .int .u32 (R 3 : Int), .int .u32 (R 4 : Int), .int .u32 (R 5 : Int), .int .u32 (R 6 : Int), .int .u32 (R 7 : Int), .slice sx S.length cx, .int .u8 (y : Int), .int .u64 (ep : Int), .int .u32 (hm : Int)], .pointer (some ⟨M, 0, none⟩), .int .u64 (x : Int)] W fun en w' => StepP W M g h c' d cd G T hm (hstep G T L p R S ep hm x y) en w' := fun W m a =>
    step_c W M g h c' d cd _ _ _ p R S ep hm x y sx cx m a n1 hHB.pc hHB.r (hMB.fetch p ep)
  have RT : ∀ W, RM W b e T L → Stk W sy S → Calls Tryz.prog 8 #[.agg #[.int .u32 (p : Int), .int .u32 (R 0 : Int), .int .u32 (R 1 : Int), .int .u32 (R 2 : Int), .int .u32 (R 3 : Int), .int .u32 (R 4 : Int), .int .u32 (R 5 : Int), .int .u32 (R 6 : Int), .int .u32 (R 7 : Int), .slice sy S.length cy, .int .u8 (y : Int), .int .u64 (ep : Int), .int .u32 (hm : Int)], .agg #[.int .u32 (G 0 : Int), .int .u32 (G 1 : Int), .int .u32 (G 2 : Int), .int .u32 (G 3 : Int), .int .u32 (G 4 : Int), .int .u32 (G 5 : Int), .int .u32 (G 6 : Int), .int .u32 (G 7 : Int), .slice (some ⟨b, 0, none⟩) T.length cb, .slice (some ⟨e, 0, none⟩) L.length ce], .int .u64 (x : Int)] W fun en w' => RStep W b cb e G T hm (hstep G T L p R S ep hm x y) en w' := fun W m a =>
    rstep_c W b cb e ce _ _ _ p R S ep hm x y sy cy m a n1 hHB.pc hHB.r (hMB.fetch p ep)
  have n2 : (hstep G T L p R S ep hm x y).S.length ≤ K := Nat.le_trans (hstep_len (G := G) (T := T) (L := L) (pc := p) (R := R) (S := S) ep hm x y) (Nat.max_le.2 ⟨hl, hk⟩)
  have hob : OB G (hstep G T L p R S ep hm x y) := hstep_ob hMB hHB ep hm x y hm4
  have hob1 := hob.h
  have hob2 := hob.m
  clear hob
  generalize hstep G T L p R S ep hm x y = oo at ST RT n2 hob1 hob2
  obtain ⟨p', R', S', y', ep', L', nS, nT, nA, nW⟩ := oo
  have n3 : S'.length < 35184372088832 := Nat.lt_of_le_of_lt n2 hK
  exact ⟨p', R', S', y', ep', L', nS, nT, nA, nW, ST, RT, fun W s3 c3 s4 c4 a b => sameH_refl p' R' S' y' ep' hm ▸ rsame_h W p' R' S' y' ep' hm p' R' S' y' ep' hm s3 s4 c3 c4 a b n3, hob1, hob2, n2⟩
theorem note_same (b1 b2 : Bool) (x y : Int) (w : World) : (binOp .neq 44 (.agg #[.bool b1, .bool b2, .int .u32 x, .int .u32 y]) (.agg #[.bool b1, .bool b2, .int .u32 x, .int .u32 y])).run Tryz.prog w = .ok (.bool false) w := by
  cases b1 <;> cases b2 <;> simp [Op.eqFields, go_sem]
set_option maxRecDepth 100000 in
set_option maxHeartbeats 16000000 in
theorem law_hruns (s1 : Option Addr) (C : List Nat) (c1 : Nat) (s2 : Option Addr) (D : List Nat) (c2 gate : Nat) (ret : Bool) (p0 : Nat) (R0 : Nat → Nat) (s : Option Addr) (S0 : List Nat) (c y0 ep0 hm : Nat) (se : Option Addr) (E : List Nat) (cE : Nat) (w : World) (h1 : Stk w s1 C) (h2 : Stk w s2 D) (hS : Stk w s S0) (hE : Byts w se E) (n1 : S0.length < 35184372088832)
    (hC : ∀ i, i < C.length → C[i]! < 4294967296) (hD : ∀ i, i < D.length → D[i]! < 4294967296) (hg : gate < 4294967296) (hp : p0 < 4294967296) (hR : ∀ i, i < 8 → R0 i < 4294967296) (hSw : ∀ x ∈ S0, x < 4294967296) (hm4 : hm < 4294967296) (hE8 : ∀ i, i < E.length → E[i]! < 256) :
    Calls Tryz.prog 4 #[.agg #[.slice s1 C.length c1, .slice s2 D.length c2, .int .u32 (gate : Int), .bool ret], .agg #[.int .u32 (p0 : Int), .int .u32 (R0 0 : Int), .int .u32 (R0 1 : Int), .int .u32 (R0 2 : Int), .int .u32 (R0 3 : Int), .int .u32 (R0 4 : Int), .int .u32 (R0 5 : Int), .int .u32 (R0 6 : Int), .int .u32 (R0 7 : Int), .slice s S0.length c, .int .u8 (y0 : Int), .int .u64 (ep0 : Int), .int .u32 (hm : Int)], .slice se E.length cE] w fun e w' => e = .returned (.bool true) ∧ Below w.heap.size w w' := by
  have MK : ∀ W, Stk W s1 C → Stk W s2 D → Calls Tryz.prog 5 #[.agg #[.slice s1 C.length c1, .slice s2 D.length c2, .int .u32 (gate : Int), .bool ret]] W fun e w' => Made W C D gate ret e w' := fun W a b => made_c W s1 C c1 s2 D c2 gate ret a b
  have mb := Lib.hid (land_mb C D gate hC hD hg)
  have hb0 : Hid (HB p0 R0 S0) := Lib.hid ⟨hp, hR, hSw⟩
  have CC : ∀ W, Stk W s S0 → Calls Tryz.prog 6 #[.agg #[.int .u32 (p0 : Int), .int .u32 (R0 0 : Int), .int .u32 (R0 1 : Int), .int .u32 (R0 2 : Int), .int .u32 (R0 3 : Int), .int .u32 (R0 4 : Int), .int .u32 (R0 5 : Int), .int .u32 (R0 6 : Int), .int .u32 (R0 7 : Int), .slice s S0.length c, .int .u8 (y0 : Int), .int .u64 (ep0 : Int), .int .u32 (hm : Int)]] W fun e w' => Copied9 W p0 R0 y0 ep0 hm S0 e w' := fun W q => rcopy_c W p0 R0 s c y0 ep0 hm S0 q n1
  have HMAX : Hid (max S0.length 16 < 35184372088832) := Lib.hid (by omega)
  have SM := fun W M g h c' d cd b cb e ce G T L (m : Mem W M g h c' d cd G T L) (r : RM W b e T L) => same9_c W M g h c' d cd b cb e ce G T L m r
  unfold PM.rm at SM
  replace MK := Lib.hid MK
  replace CC := Lib.hid CC
  replace SM := Lib.hid SM
  replace hm4 := Lib.hid hm4
  replace hE8 := Lib.hid hE8
  clear hC hD hg hp hR hSw
  generalize hW : (w.alloc (.cells #[.slice s1 C.length c1, .slice s2 D.length c2, .int .u32 (gate : Int), .bool ret] 25)).alloc (.cells #[.int .u32 (p0 : Int), .int .u32 (R0 0 : Int), .int .u32 (R0 1 : Int), .int .u32 (R0 2 : Int), .int .u32 (R0 3 : Int), .int .u32 (R0 4 : Int), .int .u32 (R0 5 : Int), .int .u32 (R0 6 : Int), .int .u32 (R0 7 : Int), .slice s S0.length c, .int .u8 (y0 : Int), .int .u64 (ep0 : Int), .int .u32 (hm : Int)] 30) = W0
  have KH : Hid (Blk W0 (w.heap.size + 1) 30 #[.int .u32 (p0 : Int), .int .u32 (R0 0 : Int), .int .u32 (R0 1 : Int), .int .u32 (R0 2 : Int), .int .u32 (R0 3 : Int), .int .u32 (R0 4 : Int), .int .u32 (R0 5 : Int), .int .u32 (R0 6 : Int), .int .u32 (R0 7 : Int), .slice s S0.length c, .int .u8 (y0 : Int), .int .u64 (ep0 : Int), .int .u32 (hm : Int)]) := Lib.hid (by
    have k := Blk.new (w.alloc (.cells #[.slice s1 C.length c1, .slice s2 D.length c2, .int .u32 (gate : Int), .bool ret] 25)) 30 #[.int .u32 (p0 : Int), .int .u32 (R0 0 : Int), .int .u32 (R0 1 : Int), .int .u32 (R0 2 : Int), .int .u32 (R0 3 : Int), .int .u32 (R0 4 : Int), .int .u32 (R0 5 : Int), .int .u32 (R0 6 : Int), .int .u32 (R0 7 : Int), .slice s S0.length c, .int .u8 (y0 : Int), .int .u64 (ep0 : Int), .int .u32 (hm : Int)]
    have e : (w.alloc (.cells #[.slice s1 C.length c1, .slice s2 D.length c2, .int .u32 (gate : Int), .bool ret] 25)).heap.size = w.heap.size + 1 := by simp
    rw [e] at k
    exact hW ▸ k)
  have B0 : Hid (Below w.heap.size w W0) := Lib.hid (hW ▸ ((Below.refl _ w).alloc (Nat.le_refl _) _).alloc (by simp) _)
  have Z0 : Hid (W0.heap.size = w.heap.size + 2) := Lib.hid (hW ▸ by simp)
  have H1 := Lib.hid h1
  have H2 := Lib.hid h2
  have HS := Lib.hid hS
  have HE := Lib.hid hE
  have KW := Lib.hid hW
  have N1 := Lib.hid n1
  clear h1 h2 hS hE hW n1
  by_cases h100 : E.length ≤ 100
  rotate_left
  · have h100z : (100 : Int) < (E.length : Int) := by omega
    go_enter Tryz.func4, Tryz.ntmps4
    go_wp2_with fail
    (try rw [KW.out])
    refine (awake09_c _).mono ?_
    rintro e wB ⟨rfl, hbB⟩
    have BB := Lib.hid (B0.out.trans (hbB.mono B0.out.size))
    clear hbB
    go_wp2_with fail
    go_ret
    exact ⟨rfl, BB.out⟩
  have h100z : ¬ (100 : Int) < (E.length : Int) := by omega
  go_enter Tryz.func4, Tryz.ntmps4
  go_wp2_with fail
  (try rw [KW.out])
  refine (MK.out _ (H1.out.kept B0.out) (H2.out.kept B0.out)).mono ?_
  rintro en w1 ⟨M, g, h, c', d, cd, b, cb, e, ce, rfl, LD⟩
  have HMB : Hid (MB (landG gate) (landL C D)) := mb
  generalize landG gate = G at HMB LD ⊢
  generalize landT ret = T at LD ⊢
  generalize landL C D = L at HMB LD ⊢
  unfold PM.rm
  go_upto_region 4 with fail
  generalize hX1 : w1.alloc (.cells #[.int .u32 (G 0 : Int), .int .u32 (G 1 : Int), .int .u32 (G 2 : Int), .int .u32 (G 3 : Int), .int .u32 (G 4 : Int), .int .u32 (G 5 : Int), .int .u32 (G 6 : Int), .int .u32 (G 7 : Int), .slice (some ⟨b, 0, none⟩) T.length cb, .slice (some ⟨e, 0, none⟩) L.length ce] 36) = X1
  have B1 : Hid (Below w.heap.size w X1) := Lib.hid (hX1 ▸ (B0.out.trans (LD.bel.mono B0.out.size)).alloc (Nat.le_trans B0.out.size LD.bel.size) _)
  have KB1 : Hid (Blk X1 w1.heap.size 36 #[.int .u32 (G 0 : Int), .int .u32 (G 1 : Int), .int .u32 (G 2 : Int), .int .u32 (G 3 : Int), .int .u32 (G 4 : Int), .int .u32 (G 5 : Int), .int .u32 (G 6 : Int), .int .u32 (G 7 : Int), .slice (some ⟨b, 0, none⟩) T.length cb, .slice (some ⟨e, 0, none⟩) L.length ce]) := Lib.hid (hX1 ▸ Blk.new w1 _ _)
  have KH1 : Hid (Blk X1 (w.heap.size + 1) 30 #[.int .u32 (p0 : Int), .int .u32 (R0 0 : Int), .int .u32 (R0 1 : Int), .int .u32 (R0 2 : Int), .int .u32 (R0 3 : Int), .int .u32 (R0 4 : Int), .int .u32 (R0 5 : Int), .int .u32 (R0 6 : Int), .int .u32 (R0 7 : Int), .slice s S0.length c, .int .u8 (y0 : Int), .int .u64 (ep0 : Int), .int .u32 (hm : Int)]) := Lib.hid (hX1 ▸ (KH.out.kept LD.bel).alloc _)
  have M1 : Hid (Mem X1 M g h c' d cd G T L) := Lib.hid (hX1 ▸ LD.mem.alloc _)
  have R1' : Hid (RM X1 b e T L) := Lib.hid (hX1 ▸ LD.rm.alloc _)
  have ZX : Hid (X1.heap.size = w1.heap.size + 1) := Lib.hid (hX1 ▸ by simp)
  have AP : Hid (w.heap.size ≤ d ∧ w.heap.size ≤ w1.heap.size ∧ M < w1.heap.size ∧ g < w1.heap.size ∧ h < w1.heap.size ∧ d < w1.heap.size ∧ b < w1.heap.size ∧ e < w1.heap.size ∧ b ≠ d ∧ e ≠ d) := Lib.hid (by
    have z1 := LD.ld
    have z2 := B0.out.size
    have z3 := LD.bel.size
    exact ⟨by omega, by omega, LD.mem.ten.lt, LD.mem.tab.lt, LD.mem.tab.pgs.lt, LD.mem.wds.lt, LD.rm.pgs.lt, LD.rm.wds.lt, LD.bd, LD.ed⟩)
  have BSX : Hid (BS w X1 M g h c' d cd b e w1.heap.size G T L #[.int .u32 (G 0 : Int), .int .u32 (G 1 : Int), .int .u32 (G 2 : Int), .int .u32 (G 3 : Int), .int .u32 (G 4 : Int), .int .u32 (G 5 : Int), .int .u32 (G 6 : Int), .int .u32 (G 7 : Int), .slice (some ⟨b, 0, none⟩) T.length cb, .slice (some ⟨e, 0, none⟩) L.length ce]) := Lib.hid ⟨KB1.out, M1.out, R1'.out, B1.out, ZX.out, AP.out⟩
  (try rw [hX1])
  have KX1 := Lib.hid hX1
  clear hX1 LD KH
  refine reg4_c w X1 p0 R0 s S0 c y0 ep0 hm M g h c' d cd b e w1.heap.size G T L _ N1.out HS.out KH1.out BSX.out _ _ _ _ _ _ _ _ _ _ _ _ _ _ _ _ _ _ _ _ _ _ _ _ _ _ _ _ _ _ _ _ _ _ _ _ _ _ _ _ _ _ _ _ _ _ _ _ _ _ _ _ _ _ _ _ _ _ _ _ _ _ _ _ _ _ _ _ _ _ _ _ _ _ ?_
  intro a9 a10 wc u23 u24 u25 u26 hq
  obtain ⟨sx0, cx0, sy0, cy0, hm0⟩ := hq
  have HR0 := Lib.hid hm0
  clear hm0 CC HS KH1 KB1 M1 R1' B1 AP ZX BSX
  have BX1 := KX1
  clear KX1 KW H1 H2 MK B0 Z0 mb
  go_wp2_with fail
  go_loopg [11] E.length (fun gg s11 wr => ∃ kk : Nat, kk ≤ E.length ∧ E.length - kk ≤ gg ∧ s11 = .int .i64 (kk : Int) ∧ Hid (∃ (p : Nat) (R : Nat → Nat) (S : List Nat) (y ep : Nat) (L : List Nat) (e ce : Nat) (sx : Option Addr) (cx : Nat) (sy : Option Addr) (cy : Nat), HB p R S ∧ MB G L ∧ S.length ≤ max S0.length 16 ∧ HR w wr (w1.heap.size + 1) M g h c' d cd b e w1.heap.size a9 a10 G T L L #[.int .u32 (p : Int), .int .u32 (R 0 : Int), .int .u32 (R 1 : Int), .int .u32 (R 2 : Int), .int .u32 (R 3 : Int), .int .u32 (R 4 : Int), .int .u32 (R 5 : Int), .int .u32 (R 6 : Int), .int .u32 (R 7 : Int), .slice sx S.length cx, .int .u8 (y : Int), .int .u64 (ep : Int), .int .u32 (hm : Int)] #[.int .u32 (p : Int), .int .u32 (R 0 : Int), .int .u32 (R 1 : Int), .int .u32 (R 2 : Int), .int .u32 (R 3 : Int), .int .u32 (R 4 : Int), .int .u32 (R 5 : Int), .int .u32 (R 6 : Int), .int .u32 (R 7 : Int), .slice sy S.length cy, .int .u8 (y : Int), .int .u64 (ep : Int), .int .u32 (hm : Int)] #[.int .u32 (G 0 : Int), .int .u32 (G 1 : Int), .int .u32 (G 2 : Int), .int .u32 (G 3 : Int), .int .u32 (G 4 : Int), .int .u32 (G 5 : Int), .int .u32 (G 6 : Int), .int .u32 (G 7 : Int), .slice (some ⟨b, 0, none⟩) T.length cb, .slice (some ⟨e, 0, none⟩) L.length ce] (.slice sx S.length cx) S (.slice sy S.length cy) S))
  case atStart => exact ⟨0, Nat.zero_le _, by omega, rfl, Lib.hid ⟨p0, R0, S0, y0, ep0, L, e, ce, sx0, cx0, sy0, cy0, hb0.out, HMB.out, Nat.le_max_left _ _, HR0.out⟩⟩
  case round =>
    clear HR0 HMB hb0 BX1
    obtain ⟨kk, hkk, hg, rfl, IV⟩ := hrel
    obtain ⟨p, R, S, y, ep, L, e, ce, sx, cx, sy, cy, hHB, hMB, hLen, hHR⟩ := IV.out
    replace hHB := Lib.hid hHB
    replace hMB := Lib.hid hMB
    replace hLen := Lib.hid hLen
    replace hHR := Lib.hid hHR
    clear IV
    by_cases hlt : kk < E.length
    · have hltz : (kk : Int) < (E.length : Int) := by omega
      obtain ⟨ba, oa, hsrc, hba, hc⟩ := HE.out kk hlt
      subst hsrc
      obtain ⟨x, hx⟩ : ∃ x, E[kk]! = x := ⟨_, rfl⟩
      rw [hx] at hc
      have hx8 : x < 256 := hx ▸ hE8.out kk hlt
      clear hx
      have HC := Lib.hid hc
      have HBA := Lib.hid hba
      clear hc hba
      obtain ⟨p', R', S', y', ep', L', nS, nT, nA, nW, ST, RT, SXY, hob1, hob2, n2⟩ := round_pre M g h c' d cd b cb e ce G T L p R S ep hm x y sx cx sy cy (max S0.length 16) hHB.out hMB.out hLen.out (Nat.le_max_right _ _) HMAX.out hm4.out
      have NQ := note_same nS nT (nA : Int) (nW : Int)
      replace ST := Lib.hid ST
      replace RT := Lib.hid RT
      replace SXY := Lib.hid SXY
      replace NQ := Lib.hid NQ
      replace n2 := Lib.hid n2
      replace hob1 := Lib.hid hob1
      replace hob2 := Lib.hid hob2
      have HLT := Lib.hid hlt
      have HKK := Lib.hid hkk
      have HG := Lib.hid hg
      clear hHB hMB hLen
      have wx : IntKind.u64.wrap (x : Int) = (x : Int) := by
        unfold IntKind.wrap
        simp [IntKind.bits, IntKind.signed]
        omega
      go_upto_region 9 with fail
      generalize hX8 : (wr.alloc (.cells #[.bool false, .bool false, .int .u32 0, .int .u32 0] 41)).alloc (.cells #[.bool false, .bool false, .int .u32 0, .int .u32 0] 44) = X8
      have N8 : Hid (HRN w X8 (w1.heap.size + 1) M g h c' d cd b e w1.heap.size a9 a10 G T L L #[.int .u32 (p : Int), .int .u32 (R 0 : Int), .int .u32 (R 1 : Int), .int .u32 (R 2 : Int), .int .u32 (R 3 : Int), .int .u32 (R 4 : Int), .int .u32 (R 5 : Int), .int .u32 (R 6 : Int), .int .u32 (R 7 : Int), .slice sx S.length cx, .int .u8 (y : Int), .int .u64 (ep : Int), .int .u32 (hm : Int)] #[.int .u32 (p : Int), .int .u32 (R 0 : Int), .int .u32 (R 1 : Int), .int .u32 (R 2 : Int), .int .u32 (R 3 : Int), .int .u32 (R 4 : Int), .int .u32 (R 5 : Int), .int .u32 (R 6 : Int), .int .u32 (R 7 : Int), .slice sy S.length cy, .int .u8 (y : Int), .int .u64 (ep : Int), .int .u32 (hm : Int)] #[.int .u32 (G 0 : Int), .int .u32 (G 1 : Int), .int .u32 (G 2 : Int), .int .u32 (G 3 : Int), .int .u32 (G 4 : Int), .int .u32 (G 5 : Int), .int .u32 (G 6 : Int), .int .u32 (G 7 : Int), .slice (some ⟨b, 0, none⟩) T.length cb, .slice (some ⟨e, 0, none⟩) L.length ce] (.slice sx S.length cx) S (.slice sy S.length cy) S wr.heap.size (wr.heap.size + 1) #[.bool false, .bool false, .int .u32 0, .int .u32 0] #[.bool false, .bool false, .int .u32 0, .int .u32 0]) := Lib.hid (hX8 ▸ hHR.out.enter #[.bool false, .bool false, .int .u32 0, .int .u32 0] #[.bool false, .bool false, .int .u32 0, .int .u32 0])
      (try rw [hX8])
      have ex : X8.cell? ⟨ba, oa + kk, none⟩ = some (.int .u8 (x : Int)) := (N8.out.hr.bel.cell (p := ⟨ba, oa + kk, none⟩) HBA.out).trans HC.out
      obtain ⟨t0, t1, t2, t3, t4, t5, t6, t7, t8, t9, t10, t11, t12⟩ := blkc13 N8.out.hr.x
      have e1 : ¬ a9 = wr.heap.size := Nat.ne_of_lt N8.out.l1.1
      have e1' : ¬ wr.heap.size = a9 := fun h => e1 h.symm
      have e2 : ¬ a10 = w1.heap.size := by
        have := N8.out.hr.ap.l8
        have := N8.out.hr.ap.l10
        omega
      have e2' : ¬ w1.heap.size = a10 := fun h => e2 h.symm
      have e3 : ¬ a10 = wr.heap.size + 1 := by
        have := N8.out.l1.2
        omega
      have e3' : ¬ wr.heap.size + 1 = a10 := fun h => e3 h.symm
      have e4 : ¬ w1.heap.size = wr.heap.size + 1 := by
        have := N8.out.hr.ap.l8
        have := N8.out.hr.ap.l10
        have := N8.out.l1.2
        omega
      have e4' : ¬ wr.heap.size + 1 = w1.heap.size := fun h => e4 h.symm
      clear hX8 hHR
      go_cut [] from 27 to 66 (fun wx => Hid (∃ (s3 : Option Addr) (c3 : Nat), HRN w wx (w1.heap.size + 1) M g h c' d cd b e w1.heap.size a9 a10 G T L' L #[.int .u32 (p' : Int), .int .u32 (R' 0 : Int), .int .u32 (R' 1 : Int), .int .u32 (R' 2 : Int), .int .u32 (R' 3 : Int), .int .u32 (R' 4 : Int), .int .u32 (R' 5 : Int), .int .u32 (R' 6 : Int), .int .u32 (R' 7 : Int), .slice s3 S'.length c3, .int .u8 (y' : Int), .int .u64 (ep' : Int), .int .u32 (hm : Int)] #[.int .u32 (p : Int), .int .u32 (R 0 : Int), .int .u32 (R 1 : Int), .int .u32 (R 2 : Int), .int .u32 (R 3 : Int), .int .u32 (R 4 : Int), .int .u32 (R 5 : Int), .int .u32 (R 6 : Int), .int .u32 (R 7 : Int), .slice sy S.length cy, .int .u8 (y : Int), .int .u64 (ep : Int), .int .u32 (hm : Int)] #[.int .u32 (G 0 : Int), .int .u32 (G 1 : Int), .int .u32 (G 2 : Int), .int .u32 (G 3 : Int), .int .u32 (G 4 : Int), .int .u32 (G 5 : Int), .int .u32 (G 6 : Int), .int .u32 (G 7 : Int), .slice (some ⟨b, 0, none⟩) T.length cb, .slice (some ⟨e, 0, none⟩) L.length ce] (.slice s3 S'.length c3) S' (.slice sy S.length cy) S wr.heap.size (wr.heap.size + 1) #[.bool nS, .bool nT, .int .u32 (nA : Int), .int .u32 (nW : Int)] #[.bool false, .bool false, .int .u32 0, .int .u32 0]))
      case first =>
        go_region_with (go_at_call 7; (with_reducible refine (ST.out _ ?_ ?_).mono ?_); (exact N8.out.drew1.hr.mem); (exact N8.out.drew1.hr.ox.stk); rintro en y4 ⟨v, he, ow, m3, u3⟩; obtain ⟨s3, c3, rfl, _⟩ := ow.form; simp only at he; subst he; have N9 : Hid (HRN w ((y4.setCells a9 0 [.int .u32 (p' : Int), .int .u32 (R' 0 : Int), .int .u32 (R' 1 : Int), .int .u32 (R' 2 : Int), .int .u32 (R' 3 : Int), .int .u32 (R' 4 : Int), .int .u32 (R' 5 : Int), .int .u32 (R' 6 : Int), .int .u32 (R' 7 : Int), .slice s3 S'.length c3, .int .u8 (y' : Int), .int .u64 (ep' : Int), .int .u32 (hm : Int)]).setCells wr.heap.size 0 [.bool nS, .bool nT, .int .u32 (nA : Int), .int .u32 (nW : Int)]) (w1.heap.size + 1) M g h c' d cd b e w1.heap.size a9 a10 G T L' L #[.int .u32 (p' : Int), .int .u32 (R' 0 : Int), .int .u32 (R' 1 : Int), .int .u32 (R' 2 : Int), .int .u32 (R' 3 : Int), .int .u32 (R' 4 : Int), .int .u32 (R' 5 : Int), .int .u32 (R' 6 : Int), .int .u32 (R' 7 : Int), .slice s3 S'.length c3, .int .u8 (y' : Int), .int .u64 (ep' : Int), .int .u32 (hm : Int)] #[.int .u32 (p : Int), .int .u32 (R 0 : Int), .int .u32 (R 1 : Int), .int .u32 (R 2 : Int), .int .u32 (R 3 : Int), .int .u32 (R 4 : Int), .int .u32 (R 5 : Int), .int .u32 (R 6 : Int), .int .u32 (R 7 : Int), .slice sy S.length cy, .int .u8 (y : Int), .int .u64 (ep : Int), .int .u32 (hm : Int)] #[.int .u32 (G 0 : Int), .int .u32 (G 1 : Int), .int .u32 (G 2 : Int), .int .u32 (G 3 : Int), .int .u32 (G 4 : Int), .int .u32 (G 5 : Int), .int .u32 (G 6 : Int), .int .u32 (G 7 : Int), .slice (some ⟨b, 0, none⟩) T.length cb, .slice (some ⟨e, 0, none⟩) L.length ce] (.slice s3 S'.length c3) S' (.slice sy S.length cy) S wr.heap.size (wr.heap.size + 1) #[.bool nS, .bool nT, .int .u32 (nA : Int), .int .u32 (nW : Int)] #[.bool false, .bool false, .int .u32 0, .int .u32 0]) := Lib.hid (N8.out.drew1.roundx u3 m3 ow _ _ _ _ _ _ _ _ _ _ _ _ _ _ _ _ _); have K5 := N8.out.drew1.stepx u3 m3 ow; obtain ⟨a0, fa0, a1, fa1, a2, fa2, a3, fa3, a4, fa4, a5, fa5, a6, fa6, a7, fa7, a8, fa8, a9, fa9, a10, fa10, a11, fa11, a12, fa12⟩ := blkf13 K5.hr.x; obtain ⟨k0, fk0, k1, fk1, k2, fk2, k3, fk3⟩ := blkf4 K5.k; clear K5 ow m3 u3; unfold hv)
        all_goals
          clear t0 t1 t2 t3 t4 t5 t6 t7 t8 t9 t10 t11 t12 a0 fa0 a1 fa1 a2 fa2 a3 fa3 a4 fa4 a5 fa5 a6 fa6 a7 fa7 a8 fa8 a9 fa9 a10 fa10 a11 fa11 a12 fa12 k0 fk0 k1 fk1 k2 fk2 k3 fk3 ex
          go_wp2_with fail
          go_meet
          case rel => exact Lib.hid ⟨s3, c3, N9.out⟩
      case rest =>
      obtain ⟨s3, c3, hq⟩ := hcut.out
      have N9 := Lib.hid hq
      clear hq hcut N8 ST ex t0 t1 t2 t3 t4 t5 t6 t7 t8 t9 t10 t11 t12
      have ex : wc.cell? ⟨ba, oa + kk, none⟩ = some (.int .u8 (x : Int)) := (N9.out.hr.bel.cell (p := ⟨ba, oa + kk, none⟩) HBA.out).trans HC.out
      obtain ⟨t0, t1, t2, t3, t4, t5, t6, t7, t8, t9, t10, t11, t12⟩ := blkc13 N9.out.hr.y
      obtain ⟨r0, r1, r2, r3, r4, r5, r6, r7, r8, r9⟩ := blkc10 N9.out.hr.r
      go_upto_region 10 with fail
      go_cut [] from 27 to 66 (fun wx => Hid (∃ (s4 : Option Addr) (c4 e' ce' : Nat), HRN w wx (w1.heap.size + 1) M g h c' d cd b e' w1.heap.size a9 a10 G T L' L' #[.int .u32 (p' : Int), .int .u32 (R' 0 : Int), .int .u32 (R' 1 : Int), .int .u32 (R' 2 : Int), .int .u32 (R' 3 : Int), .int .u32 (R' 4 : Int), .int .u32 (R' 5 : Int), .int .u32 (R' 6 : Int), .int .u32 (R' 7 : Int), .slice s3 S'.length c3, .int .u8 (y' : Int), .int .u64 (ep' : Int), .int .u32 (hm : Int)] #[.int .u32 (p' : Int), .int .u32 (R' 0 : Int), .int .u32 (R' 1 : Int), .int .u32 (R' 2 : Int), .int .u32 (R' 3 : Int), .int .u32 (R' 4 : Int), .int .u32 (R' 5 : Int), .int .u32 (R' 6 : Int), .int .u32 (R' 7 : Int), .slice s4 S'.length c4, .int .u8 (y' : Int), .int .u64 (ep' : Int), .int .u32 (hm : Int)] #[.int .u32 (G 0 : Int), .int .u32 (G 1 : Int), .int .u32 (G 2 : Int), .int .u32 (G 3 : Int), .int .u32 (G 4 : Int), .int .u32 (G 5 : Int), .int .u32 (G 6 : Int), .int .u32 (G 7 : Int), .slice (some ⟨b, 0, none⟩) T.length cb, .slice (some ⟨e', 0, none⟩) L'.length ce'] (.slice s3 S'.length c3) S' (.slice s4 S'.length c4) S' wr.heap.size (wr.heap.size + 1) #[.bool nS, .bool nT, .int .u32 (nA : Int), .int .u32 (nW : Int)] #[.bool nS, .bool nT, .int .u32 (nA : Int), .int .u32 (nW : Int)]))
      case first =>
        go_region_with (go_at_call 8; (with_reducible refine (RT.out _ ?_ ?_).mono ?_); (exact N9.out.drew1.hr.rm); (exact N9.out.drew1.hr.oy.stk); rintro en y5 ⟨v, e', ce', he, ow, rw4, hee, hb⟩; obtain ⟨s4, c4, rfl, _⟩ := ow.form; simp only at he; subst he; have N10 : Hid (HRN w (((y5.setCells a10 0 [.int .u32 (p' : Int), .int .u32 (R' 0 : Int), .int .u32 (R' 1 : Int), .int .u32 (R' 2 : Int), .int .u32 (R' 3 : Int), .int .u32 (R' 4 : Int), .int .u32 (R' 5 : Int), .int .u32 (R' 6 : Int), .int .u32 (R' 7 : Int), .slice s4 S'.length c4, .int .u8 (y' : Int), .int .u64 (ep' : Int), .int .u32 (hm : Int)]).setCells w1.heap.size 0 [.int .u32 (G 0 : Int), .int .u32 (G 1 : Int), .int .u32 (G 2 : Int), .int .u32 (G 3 : Int), .int .u32 (G 4 : Int), .int .u32 (G 5 : Int), .int .u32 (G 6 : Int), .int .u32 (G 7 : Int), .slice (some ⟨b, 0, none⟩) T.length cb, .slice (some ⟨e', 0, none⟩) L'.length ce']).setCells (wr.heap.size + 1) 0 [.bool nS, .bool nT, .int .u32 (nA : Int), .int .u32 (nW : Int)]) (w1.heap.size + 1) M g h c' d cd b e' w1.heap.size a9 a10 G T L' L' #[.int .u32 (p' : Int), .int .u32 (R' 0 : Int), .int .u32 (R' 1 : Int), .int .u32 (R' 2 : Int), .int .u32 (R' 3 : Int), .int .u32 (R' 4 : Int), .int .u32 (R' 5 : Int), .int .u32 (R' 6 : Int), .int .u32 (R' 7 : Int), .slice s3 S'.length c3, .int .u8 (y' : Int), .int .u64 (ep' : Int), .int .u32 (hm : Int)] #[.int .u32 (p' : Int), .int .u32 (R' 0 : Int), .int .u32 (R' 1 : Int), .int .u32 (R' 2 : Int), .int .u32 (R' 3 : Int), .int .u32 (R' 4 : Int), .int .u32 (R' 5 : Int), .int .u32 (R' 6 : Int), .int .u32 (R' 7 : Int), .slice s4 S'.length c4, .int .u8 (y' : Int), .int .u64 (ep' : Int), .int .u32 (hm : Int)] #[.int .u32 (G 0 : Int), .int .u32 (G 1 : Int), .int .u32 (G 2 : Int), .int .u32 (G 3 : Int), .int .u32 (G 4 : Int), .int .u32 (G 5 : Int), .int .u32 (G 6 : Int), .int .u32 (G 7 : Int), .slice (some ⟨b, 0, none⟩) T.length cb, .slice (some ⟨e', 0, none⟩) L'.length ce'] (.slice s3 S'.length c3) S' (.slice s4 S'.length c4) S' wr.heap.size (wr.heap.size + 1) #[.bool nS, .bool nT, .int .u32 (nA : Int), .int .u32 (nW : Int)] #[.bool nS, .bool nT, .int .u32 (nA : Int), .int .u32 (nW : Int)]) := Lib.hid (N9.out.drew1.roundy hb rw4 hee ow _ _ _ _ _ _ _ _ _ _ _ _ _ _ _ _ _ _ _ _ _ _ _ _ _ _ _); have K5 := N9.out.drew1.stepy hb rw4 hee ow; obtain ⟨a0, fa0, a1, fa1, a2, fa2, a3, fa3, a4, fa4, a5, fa5, a6, fa6, a7, fa7, a8, fa8, a9, fa9, a10, fa10, a11, fa11, a12, fa12⟩ := blkf13 K5.hr.y; obtain ⟨b0, fb0, b1, fb1, b2, fb2, b3, fb3, b4, fb4, b5, fb5, b6, fb6, b7, fb7, b8, fb8, b9, fb9⟩ := blkf10 K5.hr.r; obtain ⟨k0, fk0, k1, fk1, k2, fk2, k3, fk3⟩ := blkf4 K5.z; clear K5 ow rw4 hee hb; unfold hv PM.rm)
        all_goals
          clear t0 t1 t2 t3 t4 t5 t6 t7 t8 t9 t10 t11 t12 r0 r1 r2 r3 r4 r5 r6 r7 r8 r9 a0 fa0 a1 fa1 a2 fa2 a3 fa3 a4 fa4 a5 fa5 a6 fa6 a7 fa7 a8 fa8 a9 fa9 a10 fa10 a11 fa11 a12 fa12 b0 fb0 b1 fb1 b2 fb2 b3 fb3 b4 fb4 b5 fb5 b6 fb6 b7 fb7 b8 fb8 b9 fb9 k0 fk0 k1 fk1 k2 fk2 k3 fk3 ex
          go_wp2_with fail
          go_meet
          case rel => exact Lib.hid ⟨s4, c4, e', ce', N10.out⟩
      case rest =>
      obtain ⟨s4, c4, e', ce', hq⟩ := hcut.out
      have N10 := Lib.hid hq
      clear hq hcut N9 RT ex t0 t1 t2 t3 t4 t5 t6 t7 t8 t9 t10 t11 t12 r0 r1 r2 r3 r4 r5 r6 r7 r8 r9
      obtain ⟨x0, x1, x2, x3, x4, x5, x6, x7, x8, x9, x10, x11, x12⟩ := blkc13 N10.out.hr.x
      obtain ⟨y0, y1, y2, y3, y4, y5, y6, y7, y8, y9, y10, y11, y12⟩ := blkc13 N10.out.hr.y
      go_wp2_with fail
      refine (SXY.out _ _ _ _ _ N10.out.hr.ox.stk N10.out.hr.oy.stk).mono ?_
      rintro en w5 ⟨rfl, hb⟩
      have N11 := Lib.hid (N10.out.kept hb)
      clear hb N10 SXY x0 x1 x2 x3 x4 x5 x6 x7 x8 x9 x10 x11 x12 y0 y1 y2 y3 y4 y5 y6 y7 y8 y9 y10 y11 y12
      obtain ⟨n0, n1, n2, n3⟩ := blkc4 N11.out.k
      obtain ⟨k0, k1, k2, k3⟩ := blkc4 N11.out.z
      have nq := NQ.out
      go_wp2_with fail
      clear n0 n1 n2 n3 k0 k1 k2 k3 nq NQ
      have hlt := HLT.out
      have hkk := HKK.out
      have hg := HG.out
      go_roundg (E.length - (kk + 1))
      case measure => omega
      case rel => exact ⟨kk + 1, by omega, by omega, by go_num, Lib.hid ⟨p', R', S', y', ep', L', e', ce', s3, c3, s4, c4, hob1.out, hob2.out, n2.out, N11.out.hr⟩⟩
    · have hltz : ¬ (kk : Int) < (E.length : Int) := by omega
      obtain ⟨r0, r1, r2, r3, r4, r5, r6, r7, r8, r9⟩ := blkc10 hHR.out.r
      go_wp2_with fail
      refine (SM.out _ _ _ _ _ _ _ _ _ _ _ _ _ _ hHR.out.mem hHR.out.rm).mono ?_
      rintro en w6 ⟨rfl, hb⟩
      have B6 := Lib.hid (hHR.out.bel.trans (hb.mono hHR.out.bel.size))
      clear hb r0 r1 r2 r3 r4 r5 r6 r7 r8 r9
      go_wp2_with fail
      refine (awake09_c _).mono ?_
      rintro e wB ⟨rfl, hbB⟩
      have B7 := Lib.hid (B6.out.trans (hbB.mono B6.out.size))
      clear hbB
      go_wp2_with fail
      go_ret
      exact ⟨rfl, B7.out⟩
end Go.Proofs.YthnbdeibjbicpaaGreat.PM
