/- MemoryStores walked. Conditions: the calls' cells. -/
import Derived.Test.YtjjcmclnjeplkaaLawM8
import Derived.Test.YtjjcmclnjeplkaaOpenM
import Derived.Deep.RegionWith
import Derived.Test.YtjjcmclnjeplkaaLawC6
import Derived.Test.YtjjcmclnjeplkaaMem4
namespace Go.Proofs.Ytjjcmclnjeplkaa.PM
set_option linter.unusedVariables false
set_option linter.unusedSimpArgs false
open Go.RowKit Go.Proofs.Ytjjcmclnjeplkaa.Frame
theorem noxw_step8 (G : Nat → Nat) (T : List Page) (L : List Nat) (a : Act8) (h : NoXW T) : NoXW (step8 G T L a).2.1 := by
  unfold step8
  split
  · exact h
  split
  · exact h
  split
  · exact h
  · exact noxw_step T _ h
/-- What a store that is taken says of the page, and of every word. -/
theorem store_said {T : List Page} {L : List Nat} (hl : L.length = 16 * T.length) (few : T.length ≤ 256) (nx : NoXW T) (G : Nat → Nat) {x v ep o : Nat} (h : (storeM T L x v ep o).2 = true) :
    (∃ s pe, getP T (pageOf x) = ⟨s, false, true, o, pe⟩) ∧ peekM G (storeM T L x v ep o).1 x = v ∧ ∀ i, i ≠ x → peekM G (storeM T L x v ep o).1 i = peekM G L i := by
  unfold storeM at h ⊢
  by_cases hw : wrB (getP T (pageOf x)) ep o = true
  · rw [if_pos hw] at h ⊢
    have hi := wrB_in hl few hw
    unfold inB at hi
    simp only [Bool.and_eq_true, decide_eq_true_eq] at hi
    refine ⟨?_, ?_, ?_⟩
    · have hmem : getP T (pageOf x) = nz ∨ getP T (pageOf x) ∈ T := by
        unfold getP
        split
        · right
          rename_i q
          rw [List.getElem!_eq_getElem?_getD, List.getElem?_eq_getElem (by omega)]
          exact List.getElem_mem _
        · left; rfl
      unfold wrB at hw
      simp only [Bool.and_eq_true, beq_iff_eq] at hw
      obtain ⟨⟨⟨h1, h2⟩, h3⟩, h4⟩ := hw
      have h3 : (getP T (pageOf x)).ow = o := by omega
      rcases hmem with hm | hm
      · rw [hm] at h1; cases h1
      · have hx := nx _ hm
        generalize getP T (pageOf x) = p at h1 h3 hx
        obtain ⟨s, px, pw, po, pe⟩ := p
        simp only at h1 h3 hx
        subst h1 h3
        refine ⟨s, pe, ?_⟩
        cases px
        · rfl
        · exact absurd ⟨rfl, rfl⟩ hx
    · unfold peekM
      rw [if_neg (by omega), if_neg (by omega), if_pos (by simp; omega)]
      simp [List.getElem!_eq_getElem?_getD, hi.2]
    · intro i hne
      unfold peekM
      simp only [List.length_set]
      split
      · rfl
      split
      · rfl
      split
      · rename_i q
        rw [nat_set _ _ _ _ q.2, if_neg (by omega)]
      · rfl
  · rw [if_neg hw] at h; cases h
theorem store_not {T : List Page} {L : List Nat} {x v ep o : Nat} (h : (storeM T L x v ep o).2 = false) : (storeM T L x v ep o).1 = L := by
  unfold storeM at h ⊢
  split
  · rename_i q; rw [if_pos q] at h; cases h
  · rfl
set_option maxRecDepth 100000 in
set_option maxHeartbeats 16000000 in
theorem law_mstores (src : Option Addr) (len cap : Nat) (a : Act8) (w : World) (hx : a.at_ < 4294967296) (hwd : a.wd < 4294967296) (ho : a.ow < 65536) (hs : Acts8 w src len) :
    Calls Try.prog 12 #[.slice src len cap, act8v a] w fun en w' => en = .returned (.bool true) ∧ Below w.heap.size w w' := by
  by_cases hlim : 30 < len
  · have hz : (30 : Int) < (len : Int) := by omega
    clear hs
    unfold act8v
    go_enter Try.func12, Try.ntmps12
    go_wp2_with fail
    refine (awake08_c _).mono ?_
    rintro en w1 ⟨rfl, hb⟩
    go_wp2_with fail
    go_ret
    exact ⟨rfl, ((Below.refl _ w).alloc (Nat.le_refl _) _).trans (hb.mono (by simp))⟩
  have hz : ¬ (30 : Int) < (len : Int) := by omega
  have HS := Lib.hid hs
  clear hs hlim
  obtain ⟨xk, xat, xwd, xpg, xn, xow, xep⟩ := a
  have hx : xat < 4294967296 := hx
  have hwd : xwd < 4294967296 := hwd
  have ho : xow < 65536 := ho
  have HS := Lib.hid (show Acts8 (w.alloc (.cells #[.int .u8 (xk : Int), .int .u32 (xat : Int), .int .u32 (xwd : Int), .int .i64 xpg, .int .i64 xn, .int .u16 (xow : Int), .int .u64 (xep : Int)] 81)) src len from fun i hi => by
    obtain ⟨b, o, e1, e2, a, ha⟩ := HS.out i hi
    have hb : Below w.heap.size w (w.alloc (.cells #[.int .u8 (xk : Int), .int .u32 (xat : Int), .int .u32 (xwd : Int), .int .i64 xpg, .int .i64 xn, .int .u16 (xow : Int), .int .u64 (xep : Int)] 81)) := (Below.refl _ w).alloc (Nat.le_refl _) _
    have q := fun j => hb.cell (p := ⟨b, j, none⟩) e2
    exact ⟨b, o, e1, Nat.lt_of_lt_of_le e2 hb.size, a, ⟨(q _).trans ha.c0, (q _).trans ha.c1, (q _).trans ha.c2, (q _).trans ha.c3, (q _).trans ha.c4, (q _).trans ha.c5, (q _).trans ha.c6, ha.hx, ha.hw, ha.ho⟩⟩)
  have KA := Lib.hid (Blk.new w 81 #[.int .u8 (xk : Int), .int .u32 (xat : Int), .int .u32 (xwd : Int), .int .i64 xpg, .int .i64 xn, .int .u16 (xow : Int), .int .u64 (xep : Int)])
  have BA : Hid (Below w.heap.size w (w.alloc (.cells #[.int .u8 (xk : Int), .int .u32 (xat : Int), .int .u32 (xwd : Int), .int .i64 xpg, .int .i64 xn, .int .u16 (xow : Int), .int .u64 (xep : Int)] 81))) := Lib.hid ((Below.refl _ w).alloc (Nat.le_refl _) _)
  unfold act8v
  simp only
  generalize hW0 : w.alloc (.cells #[.int .u8 (xk : Int), .int .u32 (xat : Int), .int .u32 (xwd : Int), .int .i64 xpg, .int .i64 xn, .int .u16 (xow : Int), .int .u64 (xep : Int)] 81) = W0 at HS KA BA
  have KW := Lib.hid hW0
  clear hW0
  go_enter Try.func12, Try.ntmps12
  go_wp2_with fail
  (try rw [KW.out])
  refine (newmem_c W0 8).mono ?_
  rintro en w1 ⟨MP, g, h, c, d, cd, rfl, hM, hg, hh, hd, m, hb1⟩
  have HM := Lib.hid (And.intro m hb1)
  have HL := Lib.hid (show MP < w1.heap.size ∧ g < w1.heap.size ∧ h < w1.heap.size ∧ d < w1.heap.size from ⟨m.ten.lt, m.tab.lt, m.tab.pgs.lt, m.wds.lt⟩)
  clear m hb1
  go_wp2_with fail
  refine (rnewmem_c w1 8).mono ?_
  rintro en w2 ⟨b, cb, e, ce, rfl, hbb, hbe, hne, r, hb2⟩
  obtain ⟨l1, l2, l3, l4⟩ := HL.out
  have l5 := r.pgs.lt
  have l6 := r.wds.lt
  have s2 := hb2.size
  have s1 := HM.out.2.size
  have ML : MP ≠ w2.heap.size := by omega
  have M0 : Hid (Mid8 (w2.alloc (.cells #[.int .u32 ((fun _ => 0 : Nat → Nat) 0 : Int), .int .u32 ((fun _ => 0 : Nat → Nat) 1 : Int), .int .u32 ((fun _ => 0 : Nat → Nat) 2 : Int), .int .u32 ((fun _ => 0 : Nat → Nat) 3 : Int), .int .u32 ((fun _ => 0 : Nat → Nat) 4 : Int), .int .u32 ((fun _ => 0 : Nat → Nat) 5 : Int), .int .u32 ((fun _ => 0 : Nat → Nat) 6 : Int), .int .u32 ((fun _ => 0 : Nat → Nat) 7 : Int), .slice (some ⟨b, 0, none⟩) (List.replicate (newLen 8) nz).length cb, .slice (some ⟨e, 0, none⟩) (List.replicate (16 * newLen 8) 0).length ce] 64)) MP g h c d cd w2.heap.size (fun _ => 0) (List.replicate (newLen 8) nz) (List.replicate (16 * newLen 8) 0) b cb e ce) := Lib.hid
    ⟨(HM.out.1.kept hb2).alloc _, r.alloc _, ⟨by omega, by omega, by omega, by omega, by omega, by omega⟩, by omega, by omega, by omega, by omega, by omega, by omega, ok_new _, Blk.new _ _ _⟩
  have B0 := Lib.hid ((HM.out.2.trans (hb2.mono HM.out.2.size)).alloc (by omega) (.cells #[.int .u32 ((fun _ => 0 : Nat → Nat) 0 : Int), .int .u32 ((fun _ => 0 : Nat → Nat) 1 : Int), .int .u32 ((fun _ => 0 : Nat → Nat) 2 : Int), .int .u32 ((fun _ => 0 : Nat → Nat) 3 : Int), .int .u32 ((fun _ => 0 : Nat → Nat) 4 : Int), .int .u32 ((fun _ => 0 : Nat → Nat) 5 : Int), .int .u32 ((fun _ => 0 : Nat → Nat) 6 : Int), .int .u32 ((fun _ => 0 : Nat → Nat) 7 : Int), .slice (some ⟨b, 0, none⟩) (List.replicate (newLen 8) nz).length cb, .slice (some ⟨e, 0, none⟩) (List.replicate (16 * newLen 8) 0).length ce] 64))
  have LB : Hid (W0.heap.size ≤ w2.heap.size) := Lib.hid (by omega)
  have GX := Lib.hid (noxw_new (newLen 8))
  generalize List.replicate (newLen 8) nz = T0 at M0 B0 GX ⊢
  generalize List.replicate (16 * newLen 8) 0 = L0 at M0 B0 GX ⊢
  generalize (fun _ => 0 : Nat → Nat) = G0 at M0 B0 GX ⊢
  clear hb2 r HM HL l1 l2 l3 l4 l5 l6 s1 s2 hbb hbe hne
  unfold rm
  go_wp2_with fail
  go_loopg [7] len (fun gg s9 wr => ∃ kk : Nat, kk ≤ len ∧ len - kk ≤ gg ∧ s9 = .int .i64 (kk : Int) ∧ Hid (∃ G T L b cb e ce, Mid8 wr MP g h c d cd w2.heap.size G T L b cb e ce ∧ NoXW T) ∧ Hid (Below W0.heap.size W0 wr))
  case atStart => exact ⟨0, Nat.zero_le _, by omega, rfl, Lib.hid ⟨_, _, _, _, _, _, _, M0.out, GX.out⟩, B0⟩
  case round =>
    obtain ⟨kk, hkk, hg, rfl, MW, BW⟩ := hrel
    by_cases hlt : kk < len
    · have hltz : (kk : Int) < (len : Int) := by omega
      obtain ⟨G, T, L, bt, ct, et, cet, M, GT⟩ := MW.out
      replace M := Lib.hid M
      obtain ⟨ba, oa, rfl, hba, ⟨k, at_, wd, pg, n, ow, ep⟩, AC⟩ := HS.out kk hlt
      have hx : at_ < 4294967296 := AC.hx
      have hwd : wd < 4294967296 := AC.hw
      have ho : ow < 65536 := AC.ho
      replace AC := Lib.hid AC
      have r0 : wr.cell? ⟨w2.heap.size, 0, none⟩ = some (.int .u32 (G 0 : Int)) := M.out.box.cell 0
      have r1 : wr.cell? ⟨w2.heap.size, 1, none⟩ = some (.int .u32 (G 1 : Int)) := M.out.box.cell 1
      have r2 : wr.cell? ⟨w2.heap.size, 2, none⟩ = some (.int .u32 (G 2 : Int)) := M.out.box.cell 2
      have r3 : wr.cell? ⟨w2.heap.size, 3, none⟩ = some (.int .u32 (G 3 : Int)) := M.out.box.cell 3
      have r4 : wr.cell? ⟨w2.heap.size, 4, none⟩ = some (.int .u32 (G 4 : Int)) := M.out.box.cell 4
      have r5 : wr.cell? ⟨w2.heap.size, 5, none⟩ = some (.int .u32 (G 5 : Int)) := M.out.box.cell 5
      have r6 : wr.cell? ⟨w2.heap.size, 6, none⟩ = some (.int .u32 (G 6 : Int)) := M.out.box.cell 6
      have r7 : wr.cell? ⟨w2.heap.size, 7, none⟩ = some (.int .u32 (G 7 : Int)) := M.out.box.cell 7
      have r8 : wr.cell? ⟨w2.heap.size, 8, none⟩ = some (.slice (some ⟨bt, 0, none⟩) T.length ct) := M.out.box.cell 8
      have r9 : wr.cell? ⟨w2.heap.size, 9, none⟩ = some (.slice (some ⟨et, 0, none⟩) L.length cet) := M.out.box.cell 9
      have a0 : wr.cell? ⟨ba, oa + kk * 7, none⟩ = some (.int .u8 (k : Int)) := (BW.out.cell (p := ⟨ba, oa + kk * 7, none⟩) hba).trans AC.out.c0
      have a1 : wr.cell? ⟨ba, oa + kk * 7 + 1, none⟩ = some (.int .u32 (at_ : Int)) := (BW.out.cell (p := ⟨ba, oa + kk * 7 + 1, none⟩) hba).trans AC.out.c1
      have a2 : wr.cell? ⟨ba, oa + kk * 7 + 2, none⟩ = some (.int .u32 (wd : Int)) := (BW.out.cell (p := ⟨ba, oa + kk * 7 + 2, none⟩) hba).trans AC.out.c2
      have a3 : wr.cell? ⟨ba, oa + kk * 7 + 3, none⟩ = some (.int .i64 pg) := (BW.out.cell (p := ⟨ba, oa + kk * 7 + 3, none⟩) hba).trans AC.out.c3
      have a4 : wr.cell? ⟨ba, oa + kk * 7 + 4, none⟩ = some (.int .i64 n) := (BW.out.cell (p := ⟨ba, oa + kk * 7 + 4, none⟩) hba).trans AC.out.c4
      have a5 : wr.cell? ⟨ba, oa + kk * 7 + 5, none⟩ = some (.int .u16 (ow : Int)) := (BW.out.cell (p := ⟨ba, oa + kk * 7 + 5, none⟩) hba).trans AC.out.c5
      have a6 : wr.cell? ⟨ba, oa + kk * 7 + 6, none⟩ = some (.int .u64 (ep : Int)) := (BW.out.cell (p := ⟨ba, oa + kk * 7 + 6, none⟩) hba).trans AC.out.c6
      have OK1 := Lib.hid (ok_step8 G T L ⟨k, at_, wd, pg, n, ow, ep⟩ M.out.ok)
      have GT1 := Lib.hid (noxw_step8 G T L ⟨k, at_, wd, pg, n, ow, ep⟩ GT)
      clear GT
      have DC : ∀ W, Mid8 W MP g h c d cd w2.heap.size G T L bt ct et cet → Calls Try.prog 47 #[.pointer (some ⟨MP, 0, none⟩), .agg #[.int .u32 (G 0 : Int), .int .u32 (G 1 : Int), .int .u32 (G 2 : Int), .int .u32 (G 3 : Int), .int .u32 (G 4 : Int), .int .u32 (G 5 : Int), .int .u32 (G 6 : Int), .int .u32 (G 7 : Int), .slice (some ⟨bt, 0, none⟩) T.length ct, .slice (some ⟨et, 0, none⟩) L.length cet], .agg #[.int .u8 (k : Int), .int .u32 (at_ : Int), .int .u32 (wd : Int), .int .i64 pg, .int .i64 n, .int .u16 (ow : Int), .int .u64 (ep : Int)]] W fun en w' => DoP8 W MP g h c d cd bt et (step8 G T L ⟨k, at_, wd, pg, n, ow, ep⟩) en w' := fun W m =>
        do8_c W MP g h c d cd bt ct et cet G T L m.mem m.rm m.sep m.ok ⟨k, at_, wd, pg, n, ow, ep⟩ hx ho
      replace DC := Lib.hid DC
      generalize step8 G T L ⟨k, at_, wd, pg, n, ow, ep⟩ = S1 at DC OK1 GT1
      obtain ⟨G1, T1, L1⟩ := S1
      simp only at OK1 GT1
      clear MW
      go_wp2_with fail
      go_region_with (go_at_call 47; (with_reducible refine (DC.out _ ?_).mono ?_); (first | exact M.out | exact M.out.drewN 1); rintro en w4 ⟨b', cb', e', ce', rfl, m4, r4, hb4, he4, u4⟩; have kx := (u4.blk M.out.box M.out.BM M.out.Bh M.out.Bd); have z0 : w4.cell? ⟨w2.heap.size, 0, none⟩ = some (.int .u32 (G 0 : Int)) := kx.cell 0; have fz0 : w4.frozen? ⟨w2.heap.size, 0, none⟩ = false := kx.frozen 0; have z1 : w4.cell? ⟨w2.heap.size, 1, none⟩ = some (.int .u32 (G 1 : Int)) := kx.cell 1; have fz1 : w4.frozen? ⟨w2.heap.size, 1, none⟩ = false := kx.frozen 1; have z2 : w4.cell? ⟨w2.heap.size, 2, none⟩ = some (.int .u32 (G 2 : Int)) := kx.cell 2; have fz2 : w4.frozen? ⟨w2.heap.size, 2, none⟩ = false := kx.frozen 2; have z3 : w4.cell? ⟨w2.heap.size, 3, none⟩ = some (.int .u32 (G 3 : Int)) := kx.cell 3; have fz3 : w4.frozen? ⟨w2.heap.size, 3, none⟩ = false := kx.frozen 3; have z4 : w4.cell? ⟨w2.heap.size, 4, none⟩ = some (.int .u32 (G 4 : Int)) := kx.cell 4; have fz4 : w4.frozen? ⟨w2.heap.size, 4, none⟩ = false := kx.frozen 4; have z5 : w4.cell? ⟨w2.heap.size, 5, none⟩ = some (.int .u32 (G 5 : Int)) := kx.cell 5; have fz5 : w4.frozen? ⟨w2.heap.size, 5, none⟩ = false := kx.frozen 5; have z6 : w4.cell? ⟨w2.heap.size, 6, none⟩ = some (.int .u32 (G 6 : Int)) := kx.cell 6; have fz6 : w4.frozen? ⟨w2.heap.size, 6, none⟩ = false := kx.frozen 6; have z7 : w4.cell? ⟨w2.heap.size, 7, none⟩ = some (.int .u32 (G 7 : Int)) := kx.cell 7; have fz7 : w4.frozen? ⟨w2.heap.size, 7, none⟩ = false := kx.frozen 7; have z8 : w4.cell? ⟨w2.heap.size, 8, none⟩ = some (.slice (some ⟨bt, 0, none⟩) T.length ct) := kx.cell 8; have fz8 : w4.frozen? ⟨w2.heap.size, 8, none⟩ = false := kx.frozen 8; have z9 : w4.cell? ⟨w2.heap.size, 9, none⟩ = some (.slice (some ⟨et, 0, none⟩) L.length cet) := kx.cell 9; have fz9 : w4.frozen? ⟨w2.heap.size, 9, none⟩ = false := kx.frozen 9; have M5 := Lib.hid ((M.out.drewN 1).next (cb' := cb') (ce' := ce') m4 r4 hb4 he4 u4 OK1.out); have B5 := Lib.hid (u4.below (BW.out.trans (below_drewN (Below.refl _ _) 1)) hM hh hd); clear m4 r4 hb4 he4 u4 kx; unfold rm)
      all_goals
        have B5 := Lib.hid (below_setCells LB.out [.int .u32 (G1 0 : Int), .int .u32 (G1 1 : Int), .int .u32 (G1 2 : Int), .int .u32 (G1 3 : Int), .int .u32 (G1 4 : Int), .int .u32 (G1 5 : Int), .int .u32 (G1 6 : Int), .int .u32 (G1 7 : Int), .slice (some ⟨b', 0, none⟩) T1.length cb', .slice (some ⟨e', 0, none⟩) L1.length ce'] 0 _ B5.out)
        clear DC z0 fz0 r0 z1 fz1 r1 z2 fz2 r2 z3 fz3 r3 z4 fz4 r4 z5 fz5 r5 z6 fz6 r6 z7 fz7 r7 z8 fz8 r8 z9 fz9 r9 a0 a1 a2 a3 a4 a5 a6
        go_wp2_with fail
        go_roundg (len - (kk + 1))
        case measure => omega
        case rel => exact ⟨kk + 1, by omega, by omega, by go_num, Lib.hid ⟨_, _, _, _, _, _, _, M5.out, GT1.out⟩, B5⟩
    · have hltz : ¬ (kk : Int) < (len : Int) := by omega
      obtain ⟨G, T, L, bt, ct, et, cet, M, GT⟩ := MW.out
      replace M := Lib.hid M
      have hlen := M.out.mem.len
      have few := M.out.mem.tab.few
      have KA_wr := Lib.hid (KA.out.below BW.out KA.out.lt)
      clear HS MW M0 B0 GX
      have v0 : wr.cell? ⟨w.heap.size, 0, none⟩ = some (.int .u8 (xk : Int)) := KA_wr.out.cell 0
      have v1 : wr.cell? ⟨w.heap.size, 1, none⟩ = some (.int .u32 (xat : Int)) := KA_wr.out.cell 1
      have v2 : wr.cell? ⟨w.heap.size, 2, none⟩ = some (.int .u32 (xwd : Int)) := KA_wr.out.cell 2
      have v3 : wr.cell? ⟨w.heap.size, 3, none⟩ = some (.int .i64 xpg) := KA_wr.out.cell 3
      have v4 : wr.cell? ⟨w.heap.size, 4, none⟩ = some (.int .i64 xn) := KA_wr.out.cell 4
      have v5 : wr.cell? ⟨w.heap.size, 5, none⟩ = some (.int .u16 (xow : Int)) := KA_wr.out.cell 5
      have v6 : wr.cell? ⟨w.heap.size, 6, none⟩ = some (.int .u64 (xep : Int)) := KA_wr.out.cell 6
      go_wp2_with fail
      refine (mfork_c M.out.mem).mono ?_
      rintro en w3 ⟨M2, g2, h2, c2, d2, cd2, rfl, hM2, hg2, hh2, hd2, m2, hb3⟩
      have M3 := Lib.hid (M.out.kept hb3)
      have N3 := Lib.hid m2
      have B3 := Lib.hid (BW.out.trans (hb3.mono BW.out.size))
      have K3 := Lib.hid (KA_wr.out.kept hb3)
      have q1 := M.out.mem.wds.lt
      have dn2 : Hid (M2 ≠ d ∧ g2 ≠ d ∧ h2 ≠ d ∧ d2 ≠ d) := Lib.hid ⟨by omega, by omega, by omega, by omega⟩
      clear m2 hb3 v0 v1 v2 v3 v4 v5 v6
      have v0 : w3.cell? ⟨w.heap.size, 0, none⟩ = some (.int .u8 (xk : Int)) := K3.out.cell 0
      have v1 : w3.cell? ⟨w.heap.size, 1, none⟩ = some (.int .u32 (xat : Int)) := K3.out.cell 1
      have v2 : w3.cell? ⟨w.heap.size, 2, none⟩ = some (.int .u32 (xwd : Int)) := K3.out.cell 2
      have v3 : w3.cell? ⟨w.heap.size, 3, none⟩ = some (.int .i64 xpg) := K3.out.cell 3
      have v4 : w3.cell? ⟨w.heap.size, 4, none⟩ = some (.int .i64 xn) := K3.out.cell 4
      have v5 : w3.cell? ⟨w.heap.size, 5, none⟩ = some (.int .u16 (xow : Int)) := K3.out.cell 5
      have v6 : w3.cell? ⟨w.heap.size, 6, none⟩ = some (.int .u64 (xep : Int)) := K3.out.cell 6
      have hnx := store_said (x := xat) (v := xwd) (ep := xep) (o := xow) hlen few GT G
      have hny := store_not (T := T) (L := L) (x := xat) (v := xwd) (ep := xep) (o := xow)
      have hln := len_store T L xat xwd xep xow
      have SC := fun W (q : Mem W MP g h c d cd G T L) => store_c q xat xwd xep xow hx
      have RC := fun W (q : RM W bt et T L) => rstore_c W G bt ct et cet T L q xat xwd xep xow hx
      generalize storeM T L xat xwd xep xow = R at hnx hny hln SC RC
      obtain ⟨L1, R2⟩ := R
      simp only at hnx hny hln SC RC
      replace SC := Lib.hid SC
      unfold rm at RC
      replace RC := Lib.hid RC
      have HX := Lib.hid hnx
      have HY := Lib.hid hny
      clear hnx hny GT
      go_wp2_with fail
      refine (SC.out _ M3.out.mem).mono ?_
      rintro en w4 ⟨rfl, m4, u4⟩
      have M4 := Lib.hid m4
      have N4 := Lib.hid (N3.out.upd u4 dn2.out.1 dn2.out.2.1 dn2.out.2.2.1 dn2.out.2.2.2)
      have R4 := Lib.hid (M3.out.rm.upd u4 M3.out.sep.bd M3.out.sep.ed)
      have X4 := Lib.hid (u4.blk M3.out.box M3.out.Bd)
      have q2 := KA.out.lt
      have K4 := Lib.hid (u4.blk K3.out (by omega))
      have B4 := Lib.hid (u4.below B3.out hd)
      clear m4 u4 v0 v1 v2 v3 v4 v5 v6
      have SZ := Lib.hid (fun W (q : Mem W MP g h c d cd G T L1) => size_c q)
      have PM_ := Lib.hid (fun W (q : Mem W MP g h c d cd G T L1) (i : Nat) (hi : i < 4294967296) => peek_c q i hi)
      have PN := Lib.hid (fun W (q : Mem W M2 g2 h2 c2 d2 cd2 G T L) (i : Nat) (hi : i < 4294967296) => peek_c q i hi)
      have PG := Lib.hid (fun W (q : Mem W MP g h c d cd G T L1) => pages_c q)
      have h4 : L1.length ≤ 4096 := by omega
      replace hln := Lib.hid hln
      replace hlen := Lib.hid hlen
      clear M3 N3 B3 K3 SC M BW KA_wr
      go_wp2_with fail
      go_loopg [10] (80 + L1.length) (fun gg s10 wr => ∃ kk : Nat, kk ≤ 80 + L1.length ∧ 80 + L1.length - kk ≤ gg ∧ s10 = .int .i64 (kk : Int) ∧ Hid (Below w4.heap.size w4 wr))
      case atStart => exact ⟨0, Nat.zero_le _, by omega, rfl, Lib.hid (Below.refl _ _)⟩
      case round =>
        obtain ⟨kk, hkk, hg, rfl, BW⟩ := hrel
        have MK := Lib.hid (M4.out.kept BW.out)
        have NK := Lib.hid (N4.out.kept BW.out)
        have KK := Lib.hid (K4.out.kept BW.out)
        have v0 : wr.cell? ⟨w.heap.size, 0, none⟩ = some (.int .u8 (xk : Int)) := KK.out.cell 0
        have v1 : wr.cell? ⟨w.heap.size, 1, none⟩ = some (.int .u32 (xat : Int)) := KK.out.cell 1
        have v2 : wr.cell? ⟨w.heap.size, 2, none⟩ = some (.int .u32 (xwd : Int)) := KK.out.cell 2
        have v3 : wr.cell? ⟨w.heap.size, 3, none⟩ = some (.int .i64 xpg) := KK.out.cell 3
        have v4 : wr.cell? ⟨w.heap.size, 4, none⟩ = some (.int .i64 xn) := KK.out.cell 4
        have v5 : wr.cell? ⟨w.heap.size, 5, none⟩ = some (.int .u16 (xow : Int)) := KK.out.cell 5
        have v6 : wr.cell? ⟨w.heap.size, 6, none⟩ = some (.int .u64 (xep : Int)) := KK.out.cell 6
        go_wp2_with fail
        refine (SZ.out _ MK.out).mono ?_
        rintro en w5 ⟨rfl, rfl⟩
        by_cases hlt : kk < 80 + L1.length
        · have hltz : (kk : Int) < 80 + (L1.length : Int) := by omega
          have hk32 : kk < 4294967296 := by omega
          have hwr : IntKind.u32.wrap (kk : Int) = (kk : Int) := by unfold IntKind.wrap; simp [IntKind.bits, IntKind.signed]; omega
          by_cases hq : R2 = true ∧ kk = xat
          · obtain ⟨rfl, rfl⟩ := hq
            obtain ⟨⟨sp, pe, hpg⟩, hpk, _⟩ := HX.out rfl
            have PX := fun W q => PM_.out W q kk hk32
            rw [hpk] at PX
            replace PX := Lib.hid PX
            have PO := Lib.hid (fun W => pageof_c W kk hk32)
            have GC : ∀ W, Tab W g h c T → Calls Try.prog 27 #[.pointer (some ⟨g, 0, none⟩), .int .i64 (pageOf kk)] W fun e w' => e = .returned (.agg #[.int .u8 (sp : Int), .bool false, .bool true, .int .u16 (xow : Int), .int .u64 (pe : Int)]) ∧ Below W.heap.size W w' := fun W q => by
              have := get_c W g h c T q (pageOf kk)
              rw [hpg] at this
              exact this
            replace GC := Lib.hid GC
            generalize pageOf kk = pp at PO GC
            clear hpg hpk
            go_wp2_with fail
            refine (PG.out _ MK.out).mono ?_
            rintro en w6 ⟨rfl, rfl⟩
            go_wp2_with fail
            refine (PO.out _).mono ?_
            rintro en w6 ⟨rfl, rfl⟩
            go_wp2_with fail
            refine (GC.out _ MK.out.tab).mono ?_
            rintro en w7 ⟨rfl, hb7⟩
            have PB := Lib.hid (Blk.new w7 26 #[.int .u8 (sp : Int), .bool false, .bool true, .int .u16 (xow : Int), .int .u64 (pe : Int)])
            have BW8 : Hid (Below w4.heap.size w4 (w7.alloc (.cells #[.int .u8 (sp : Int), .bool false, .bool true, .int .u16 (xow : Int), .int .u64 (pe : Int)] 26))) := Lib.hid ((BW.out.trans (hb7.mono BW.out.size)).alloc (by have := hb7.size; have := BW.out.size; omega) _)
            have KK8 := Lib.hid ((KK.out.kept hb7).alloc (.cells #[.int .u8 (sp : Int), .bool false, .bool true, .int .u16 (xow : Int), .int .u64 (pe : Int)] 26))
            have MK8 := Lib.hid ((MK.out.kept hb7).alloc (.cells #[.int .u8 (sp : Int), .bool false, .bool true, .int .u16 (xow : Int), .int .u64 (pe : Int)] 26))
            clear hb7 v0 v1 v2 v3 v4 v5 v6
            generalize hW8 : w7.alloc (.cells #[.int .u8 (sp : Int), .bool false, .bool true, .int .u16 (xow : Int), .int .u64 (pe : Int)] 26) = W8 at PB BW8 KK8 MK8
            have KW8 := Lib.hid hW8
            clear hW8
            have TX : Hid ((W8.drewN 1).cell? ⟨w.heap.size, 2, none⟩ = some (.int .u32 (xwd : Int)) ∧ (W8.drewN 1).cell? ⟨w.heap.size, 5, none⟩ = some (.int .u16 (xow : Int)) ∧ (W8.drewN 1).cell? ⟨w7.heap.size, 1, none⟩ = some (.bool false) ∧ (W8.drewN 1).cell? ⟨w7.heap.size, 2, none⟩ = some (.bool true) ∧ (W8.drewN 1).cell? ⟨w7.heap.size, 3, none⟩ = some (.int .u16 (xow : Int))) := Lib.hid ⟨KK8.out.cell 2, KK8.out.cell 5, PB.out.cell 1, PB.out.cell 2, PB.out.cell 3⟩
            obtain ⟨y1, y2, y3, y4, y5⟩ := TX.out
            go_wp2_with fail
            (try rw [KW8.out])
            go_region_held3 (fun w' => w'.cell? ⟨w.heap.size, 2, none⟩ = some (.int .u32 (xwd : Int)) ∧ w'.cell? ⟨w.heap.size, 5, none⟩ = some (.int .u16 (xow : Int)) ∧ w'.cell? ⟨w7.heap.size, 1, none⟩ = some (.bool false) ∧ w'.cell? ⟨w7.heap.size, 2, none⟩ = some (.bool true) ∧ w'.cell? ⟨w7.heap.size, 3, none⟩ = some (.int .u16 (xow : Int))) (first | (exact TX.out) | ((try dsimp only); (repeat' apply And.intro) <;> (first | (apply keep1m hb9; assumption))) | go_keep) ((first | (go_at_call 46; (with_reducible refine (PX.out _ ?_).mono ?_); (first | exact MK8.out.drewN 1); rintro en w9 ⟨rfl, hb9⟩; have B9 := Lib.hid ((below_drewN BW8.out 1).trans (hb9.mono (below_drewN BW8.out 1).size)))))
            clear hb9
            go_wp2_with fail
            go_roundg (80 + L1.length - (kk + 1))
            case measure => omega
            case rel => exact ⟨kk + 1, by omega, by omega, by go_num, B9⟩
          · have hpk : peekM G L1 kk = peekM G L kk := by
              cases R2
              · rw [HY.out rfl]
              · exact (HX.out rfl).2.2 kk (fun e => hq ⟨rfl, e⟩)
            have PX := fun W q => PM_.out W q kk hk32
            have PY := fun W q => PN.out W q kk hk32
            rw [hpk] at PX
            generalize peekM G L kk = pv at PX PY
            replace PX := Lib.hid PX
            replace PY := Lib.hid PY
            have hq2 : (R2 && ((kk : Int) == (xat : Int))) = false := by
              cases R2
              · rfl
              · have hne : kk ≠ xat := fun e => hq ⟨rfl, e⟩
                simp; omega
            clear hpk hq
            cases R2 <;>
            (first | (have hq3 : ((kk : Int) == (xat : Int)) = false := by simpa using hq2) | skip) <;>
            (clear hq2
             go_wp2_with fail
             refine (PX.out _ MK.out).mono ?_
             rintro en w6 ⟨rfl, hb6⟩
             have NK6 := Lib.hid (NK.out.kept hb6)
             have B6 := Lib.hid (BW.out.trans (hb6.mono BW.out.size))
             clear hb6
             go_wp2_with fail
             refine (PY.out _ NK6.out).mono ?_
             rintro en w7 ⟨rfl, hb7⟩
             have B7 := Lib.hid (B6.out.trans (hb7.mono B6.out.size))
             clear hb7
             go_wp2_with fail
             go_roundg (80 + L1.length - (kk + 1))
             case measure => omega
             case rel => exact ⟨kk + 1, by omega, by omega, by go_num, B7⟩)
        · have hltz : ¬ (kk : Int) < 80 + (L1.length : Int) := by omega
          have XK := Lib.hid (X4.out.kept BW.out)
          have r0 : w5.cell? ⟨w2.heap.size, 0, none⟩ = some (.int .u32 (G 0 : Int)) := XK.out.cell 0
          have r1 : w5.cell? ⟨w2.heap.size, 1, none⟩ = some (.int .u32 (G 1 : Int)) := XK.out.cell 1
          have r2 : w5.cell? ⟨w2.heap.size, 2, none⟩ = some (.int .u32 (G 2 : Int)) := XK.out.cell 2
          have r3 : w5.cell? ⟨w2.heap.size, 3, none⟩ = some (.int .u32 (G 3 : Int)) := XK.out.cell 3
          have r4 : w5.cell? ⟨w2.heap.size, 4, none⟩ = some (.int .u32 (G 4 : Int)) := XK.out.cell 4
          have r5 : w5.cell? ⟨w2.heap.size, 5, none⟩ = some (.int .u32 (G 5 : Int)) := XK.out.cell 5
          have r6 : w5.cell? ⟨w2.heap.size, 6, none⟩ = some (.int .u32 (G 6 : Int)) := XK.out.cell 6
          have r7 : w5.cell? ⟨w2.heap.size, 7, none⟩ = some (.int .u32 (G 7 : Int)) := XK.out.cell 7
          have r8 : w5.cell? ⟨w2.heap.size, 8, none⟩ = some (.slice (some ⟨bt, 0, none⟩) T.length ct) := XK.out.cell 8
          have r9 : w5.cell? ⟨w2.heap.size, 9, none⟩ = some (.slice (some ⟨et, 0, none⟩) L.length cet) := XK.out.cell 9
          have RK := Lib.hid (R4.out.kept BW.out)
          have BK := Lib.hid (BA.out.trans ((B4.out.trans (BW.out.mono B4.out.size)).mono BA.out.size))
          go_wp2_with fail
          with_reducible refine (RC.out _ RK.out).mono ?_
          rintro en w6 ⟨e', ce', rfl, _, _, hb6⟩
          have B6 := Lib.hid (BK.out.trans (hb6.mono BK.out.size))
          clear hb6 RK BK XK KK NK MK BW r0 r1 r2 r3 r4 r5 r6 r7 r8 r9 v0 v1 v2 v3 v4 v5 v6 SZ PM_ PN PG RC HX HY M4 N4 R4 X4 K4 B4 KA BA KW dn2
          unfold rm
          go_wp2_with fail
          refine (awake08_c _).mono ?_
          rintro en w7 ⟨rfl, hb7⟩
          have s6 := B6.out.size
          have B7 := Lib.hid ((B6.out.alloc s6 _).trans (hb7.mono (by simp; omega)))
          clear hb7
          go_wp2_with fail
          go_ret
          exact ⟨rfl, B7.out⟩
end Go.Proofs.Ytjjcmclnjeplkaa.PM
