/- MemoryPlays walked. Conditions: the calls' cells. -/
import Derived.Test.YtjjcmclnjeplkaaLawM8
import Derived.Test.YtjjcmclnjeplkaaOpenM
import Derived.Deep.RegionWith
namespace Go.Proofs.Ytjjcmclnjeplkaa.PM
set_option linter.unusedVariables false
set_option linter.unusedSimpArgs false
open Go.RowKit Go.Proofs.Ytjjcmclnjeplkaa.Frame
theorem idx_act (ba oa kk len cap : Nat) (h : kk < len) (W : World) : (Instr.indexAt 77 (.slice (some ⟨ba, oa, none⟩) len cap) (.int .i64 (kk : Int))).run Try.prog W = .ok (.pointer (some ⟨ba, oa + kk * 7, none⟩)) W := by
  have e : Try.prog.elem 77 = 81 := by kernel_rfl
  have u : Try.prog.underlying 77 = some (.slice (Try.prog.elem 77)) := by rw [e]; exact Try.underlying77
  rw [run_indexAt_slice (h := u), if_pos ⟨by omega, by omega⟩, e, Try.sizeOf81 W]
  simp [Result.andThen, Addr.add_lit]
theorem keep12 {w w2 : World} {p q : Addr} {g : Nat} {u v v0 v1 v2 v3 v4 v5 v6 v7 v8 v9 : Value} (hb : Below w.heap.size w w2) (c : w.cell? p = some u ∧ w.cell? q = some v ∧ w.cell? ⟨g, 0, none⟩ = some v0 ∧ w.cell? ⟨g, 1, none⟩ = some v1 ∧ w.cell? ⟨g, 2, none⟩ = some v2 ∧ w.cell? ⟨g, 3, none⟩ = some v3 ∧ w.cell? ⟨g, 4, none⟩ = some v4 ∧ w.cell? ⟨g, 5, none⟩ = some v5 ∧ w.cell? ⟨g, 6, none⟩ = some v6 ∧ w.cell? ⟨g, 7, none⟩ = some v7 ∧ w.cell? ⟨g, 8, none⟩ = some v8 ∧ w.cell? ⟨g, 9, none⟩ = some v9) : w2.cell? p = some u ∧ w2.cell? q = some v ∧ w2.cell? ⟨g, 0, none⟩ = some v0 ∧ w2.cell? ⟨g, 1, none⟩ = some v1 ∧ w2.cell? ⟨g, 2, none⟩ = some v2 ∧ w2.cell? ⟨g, 3, none⟩ = some v3 ∧ w2.cell? ⟨g, 4, none⟩ = some v4 ∧ w2.cell? ⟨g, 5, none⟩ = some v5 ∧ w2.cell? ⟨g, 6, none⟩ = some v6 ∧ w2.cell? ⟨g, 7, none⟩ = some v7 ∧ w2.cell? ⟨g, 8, none⟩ = some v8 ∧ w2.cell? ⟨g, 9, none⟩ = some v9 :=
  ⟨(hb.cell (World.block_lt_of_cell? _ _ c.1)).trans c.1, (hb.cell (World.block_lt_of_cell? _ _ c.2.1)).trans c.2.1, keep10 hb c.2.2⟩
set_option maxRecDepth 100000 in
set_option maxHeartbeats 16000000 in
theorem law_mplays (nn : Nat) (src : Option Addr) (len cap : Nat) (w : World) (hnn : nn < 256) (hs : Acts8 w src len) :
    Calls Try.prog 13 #[.int .u8 (nn : Int), .slice src len cap] w fun en w' => en = .returned (.bool true) ∧ Below w.heap.size w w' := by
  by_cases hlim : 40 < len
  · have hz : (40 : Int) < (len : Int) := by omega
    clear hs
    go_enter Try.func13, Try.ntmps13
    go_wp2_with fail
    refine (awake08_c _).mono ?_
    rintro en w1 ⟨rfl, hb⟩
    go_wp2_with fail
    go_ret
    exact ⟨rfl, hb⟩
  have hz : ¬ (40 : Int) < (len : Int) := by omega
  have HS := Lib.hid hs
  clear hs hlim
  have htm : Int.tmod (nn : Int) 41 = ((nn % 41 : Nat) : Int) := by rw [Int.tmod_eq_emod_of_nonneg (by omega)]; omega
  have hy41 : nn % 41 < 41 := Nat.mod_lt _ (by decide)
  have hwr : IntKind.i64.wrap ((nn % 41 : Nat) : Int) = ((nn % 41 : Nat) : Int) := by unfold IntKind.wrap; generalize nn % 41 = y at hy41 ⊢; simp [IntKind.bits, IntKind.signed]; omega
  generalize nn % 41 = y at htm hy41 hwr
  go_enter Try.func13, Try.ntmps13
  go_wp2_with fail
  refine (newmem_c w (y : Int)).mono ?_
  rintro en w1 ⟨MP, g, h, c, d, cd, rfl, hM, hg, hh, hd, m, hb1⟩
  have HM := Lib.hid (And.intro m hb1)
  have HL := Lib.hid (show MP < w1.heap.size ∧ g < w1.heap.size ∧ h < w1.heap.size ∧ d < w1.heap.size from ⟨m.ten.lt, m.tab.lt, m.tab.pgs.lt, m.wds.lt⟩)
  clear m hb1
  go_wp2_with fail
  refine (rnewmem_c w1 (y : Int)).mono ?_
  rintro en w2 ⟨b, cb, e, ce, rfl, hbb, hbe, hne, r, hb2⟩
  obtain ⟨l1, l2, l3, l4⟩ := HL.out
  have l5 := r.pgs.lt
  have l6 := r.wds.lt
  have s2 := hb2.size
  have s1 := HM.out.2.size
  have ML : MP ≠ w2.heap.size := by omega
  have M0 : Hid (Mid8 (w2.alloc (.cells #[.int .u32 ((fun _ => 0 : Nat → Nat) 0 : Int), .int .u32 ((fun _ => 0 : Nat → Nat) 1 : Int), .int .u32 ((fun _ => 0 : Nat → Nat) 2 : Int), .int .u32 ((fun _ => 0 : Nat → Nat) 3 : Int), .int .u32 ((fun _ => 0 : Nat → Nat) 4 : Int), .int .u32 ((fun _ => 0 : Nat → Nat) 5 : Int), .int .u32 ((fun _ => 0 : Nat → Nat) 6 : Int), .int .u32 ((fun _ => 0 : Nat → Nat) 7 : Int), .slice (some ⟨b, 0, none⟩) (List.replicate (newLen (y : Int)) nz).length cb, .slice (some ⟨e, 0, none⟩) (List.replicate (16 * newLen (y : Int)) 0).length ce] 64)) MP g h c d cd w2.heap.size (fun _ => 0) (List.replicate (newLen (y : Int)) nz) (List.replicate (16 * newLen (y : Int)) 0) b cb e ce) := Lib.hid
    ⟨(HM.out.1.kept hb2).alloc _, r.alloc _, ⟨by omega, by omega, by omega, by omega, by omega, by omega⟩, by omega, by omega, by omega, by omega, by omega, by omega, ok_new _, Blk.new _ _ _⟩
  have B0 := Lib.hid ((HM.out.2.trans (hb2.mono HM.out.2.size)).alloc (by omega) (.cells #[.int .u32 ((fun _ => 0 : Nat → Nat) 0 : Int), .int .u32 ((fun _ => 0 : Nat → Nat) 1 : Int), .int .u32 ((fun _ => 0 : Nat → Nat) 2 : Int), .int .u32 ((fun _ => 0 : Nat → Nat) 3 : Int), .int .u32 ((fun _ => 0 : Nat → Nat) 4 : Int), .int .u32 ((fun _ => 0 : Nat → Nat) 5 : Int), .int .u32 ((fun _ => 0 : Nat → Nat) 6 : Int), .int .u32 ((fun _ => 0 : Nat → Nat) 7 : Int), .slice (some ⟨b, 0, none⟩) (List.replicate (newLen (y : Int)) nz).length cb, .slice (some ⟨e, 0, none⟩) (List.replicate (16 * newLen (y : Int)) 0).length ce] 64))
  have LB : Hid (w.heap.size ≤ w2.heap.size) := Lib.hid (by omega)
  generalize List.replicate (newLen (y : Int)) nz = T0 at M0 B0 ⊢
  generalize List.replicate (16 * newLen (y : Int)) 0 = L0 at M0 B0 ⊢
  generalize (fun _ => 0 : Nat → Nat) = G0 at M0 B0 ⊢
  clear hb2 r HM HL l1 l2 l3 l4 l5 l6 s1 s2 hbb hbe hne
  unfold rm
  go_wp2_with fail
  refine (same8_c _ MP g h c d cd b cb e ce G0 T0 L0 M0.out.mem M0.out.rm).mono ?_
  rintro en w3 ⟨rfl, hb3⟩
  have M3 := Lib.hid (M0.out.kept hb3)
  have B3 := Lib.hid (B0.out.trans (hb3.mono B0.out.size))
  clear hb3
  go_wp2_with fail
  go_loopg [7, 8] len (fun gg s7 s8 wr => ∃ kk : Nat, kk ≤ len ∧ len - kk ≤ gg ∧ s7 = .bool true ∧ s8 = .int .i64 (kk : Int) ∧ Hid (∃ G T L b cb e ce, Mid8 wr MP g h c d cd w2.heap.size G T L b cb e ce) ∧ Hid (Below w.heap.size w wr))
  case atStart => exact ⟨0, Nat.zero_le _, by omega, rfl, rfl, Lib.hid ⟨_, _, _, _, _, _, _, M3.out⟩, B3⟩
  case round =>
    obtain ⟨kk, hkk, hg, rfl, rfl, MW, BW⟩ := hrel
    by_cases hlt : kk < len
    · have hltz : (kk : Int) < (len : Int) := by omega
      obtain ⟨G, T, L, bt, ct, et, cet, M⟩ := MW.out
      replace M := Lib.hid M
      obtain ⟨ba, oa, rfl, hba, ⟨k, at_, wd, pg, n, ow, ep⟩, AC⟩ := HS.out kk hlt
      have hx : at_ < 4294967296 := AC.hx
      have hwd : wd < 4294967296 := AC.hw
      have ho : ow < 65536 := AC.ho
      replace AC := Lib.hid AC
      have r0 : wr.cell? ⟨w2.heap.size, 0, none⟩ = some (.int .u32 (G 0 : Int)) := M.out.box.cell 0
      have r1 : wr.cell? ⟨w2.heap.size, 1, none⟩ = some (.int .u32 (G 1 : Int)) := M.out.box.cell 1
      have r2 : wr.cell? ⟨w2.heap.size, 2, none⟩ = some (.int .u32 (G 2 : Int)) := M.out.box.cell 2
      have r3 : wr.cell? ⟨w2.heap.size, 3, none⟩ = some (.int .u32 (G 3 : Int)) := M.out.box.cell 3
      have r4 : wr.cell? ⟨w2.heap.size, 4, none⟩ = some (.int .u32 (G 4 : Int)) := M.out.box.cell 4
      have r5 : wr.cell? ⟨w2.heap.size, 5, none⟩ = some (.int .u32 (G 5 : Int)) := M.out.box.cell 5
      have r6 : wr.cell? ⟨w2.heap.size, 6, none⟩ = some (.int .u32 (G 6 : Int)) := M.out.box.cell 6
      have r7 : wr.cell? ⟨w2.heap.size, 7, none⟩ = some (.int .u32 (G 7 : Int)) := M.out.box.cell 7
      have r8 : wr.cell? ⟨w2.heap.size, 8, none⟩ = some (.slice (some ⟨bt, 0, none⟩) T.length ct) := M.out.box.cell 8
      have r9 : wr.cell? ⟨w2.heap.size, 9, none⟩ = some (.slice (some ⟨et, 0, none⟩) L.length cet) := M.out.box.cell 9
      have a0 : wr.cell? ⟨ba, oa + kk * 7, none⟩ = some (.int .u8 (k : Int)) := (BW.out.cell (p := ⟨ba, oa + kk * 7, none⟩) hba).trans AC.out.c0
      have a1 : wr.cell? ⟨ba, oa + kk * 7 + 1, none⟩ = some (.int .u32 (at_ : Int)) := (BW.out.cell (p := ⟨ba, oa + kk * 7 + 1, none⟩) hba).trans AC.out.c1
      have a2 : wr.cell? ⟨ba, oa + kk * 7 + 2, none⟩ = some (.int .u32 (wd : Int)) := (BW.out.cell (p := ⟨ba, oa + kk * 7 + 2, none⟩) hba).trans AC.out.c2
      have a3 : wr.cell? ⟨ba, oa + kk * 7 + 3, none⟩ = some (.int .i64 pg) := (BW.out.cell (p := ⟨ba, oa + kk * 7 + 3, none⟩) hba).trans AC.out.c3
      have a4 : wr.cell? ⟨ba, oa + kk * 7 + 4, none⟩ = some (.int .i64 n) := (BW.out.cell (p := ⟨ba, oa + kk * 7 + 4, none⟩) hba).trans AC.out.c4
      have a5 : wr.cell? ⟨ba, oa + kk * 7 + 5, none⟩ = some (.int .u16 (ow : Int)) := (BW.out.cell (p := ⟨ba, oa + kk * 7 + 5, none⟩) hba).trans AC.out.c5
      have a6 : wr.cell? ⟨ba, oa + kk * 7 + 6, none⟩ = some (.int .u64 (ep : Int)) := (BW.out.cell (p := ⟨ba, oa + kk * 7 + 6, none⟩) hba).trans AC.out.c6
      have OK1 := Lib.hid (ok_step8 G T L ⟨k, at_, wd, pg, n, ow, ep⟩ M.out.ok)
      have DC : ∀ W, Mid8 W MP g h c d cd w2.heap.size G T L bt ct et cet → Calls Try.prog 47 #[.pointer (some ⟨MP, 0, none⟩), .agg #[.int .u32 (G 0 : Int), .int .u32 (G 1 : Int), .int .u32 (G 2 : Int), .int .u32 (G 3 : Int), .int .u32 (G 4 : Int), .int .u32 (G 5 : Int), .int .u32 (G 6 : Int), .int .u32 (G 7 : Int), .slice (some ⟨bt, 0, none⟩) T.length ct, .slice (some ⟨et, 0, none⟩) L.length cet], .agg #[.int .u8 (k : Int), .int .u32 (at_ : Int), .int .u32 (wd : Int), .int .i64 pg, .int .i64 n, .int .u16 (ow : Int), .int .u64 (ep : Int)]] W fun en w' => DoP8 W MP g h c d cd bt et (step8 G T L ⟨k, at_, wd, pg, n, ow, ep⟩) en w' := fun W m =>
        do8_c W MP g h c d cd bt ct et cet G T L m.mem m.rm m.sep m.ok ⟨k, at_, wd, pg, n, ow, ep⟩ hx ho
      replace DC := Lib.hid DC
      generalize step8 G T L ⟨k, at_, wd, pg, n, ow, ep⟩ = S1 at DC OK1
      obtain ⟨G1, T1, L1⟩ := S1
      simp only at OK1
      clear MW
      go_wp2_with fail
      go_region_with (go_at_call 47; (with_reducible refine (DC.out _ ?_).mono ?_); (first | exact M.out | exact M.out.drewN 1); rintro en w4 ⟨b', cb', e', ce', rfl, m4, r4, hb4, he4, u4⟩; have kx := (u4.blk M.out.box M.out.BM M.out.Bh M.out.Bd); have z0 : w4.cell? ⟨w2.heap.size, 0, none⟩ = some (.int .u32 (G 0 : Int)) := kx.cell 0; have fz0 : w4.frozen? ⟨w2.heap.size, 0, none⟩ = false := kx.frozen 0; have z1 : w4.cell? ⟨w2.heap.size, 1, none⟩ = some (.int .u32 (G 1 : Int)) := kx.cell 1; have fz1 : w4.frozen? ⟨w2.heap.size, 1, none⟩ = false := kx.frozen 1; have z2 : w4.cell? ⟨w2.heap.size, 2, none⟩ = some (.int .u32 (G 2 : Int)) := kx.cell 2; have fz2 : w4.frozen? ⟨w2.heap.size, 2, none⟩ = false := kx.frozen 2; have z3 : w4.cell? ⟨w2.heap.size, 3, none⟩ = some (.int .u32 (G 3 : Int)) := kx.cell 3; have fz3 : w4.frozen? ⟨w2.heap.size, 3, none⟩ = false := kx.frozen 3; have z4 : w4.cell? ⟨w2.heap.size, 4, none⟩ = some (.int .u32 (G 4 : Int)) := kx.cell 4; have fz4 : w4.frozen? ⟨w2.heap.size, 4, none⟩ = false := kx.frozen 4; have z5 : w4.cell? ⟨w2.heap.size, 5, none⟩ = some (.int .u32 (G 5 : Int)) := kx.cell 5; have fz5 : w4.frozen? ⟨w2.heap.size, 5, none⟩ = false := kx.frozen 5; have z6 : w4.cell? ⟨w2.heap.size, 6, none⟩ = some (.int .u32 (G 6 : Int)) := kx.cell 6; have fz6 : w4.frozen? ⟨w2.heap.size, 6, none⟩ = false := kx.frozen 6; have z7 : w4.cell? ⟨w2.heap.size, 7, none⟩ = some (.int .u32 (G 7 : Int)) := kx.cell 7; have fz7 : w4.frozen? ⟨w2.heap.size, 7, none⟩ = false := kx.frozen 7; have z8 : w4.cell? ⟨w2.heap.size, 8, none⟩ = some (.slice (some ⟨bt, 0, none⟩) T.length ct) := kx.cell 8; have fz8 : w4.frozen? ⟨w2.heap.size, 8, none⟩ = false := kx.frozen 8; have z9 : w4.cell? ⟨w2.heap.size, 9, none⟩ = some (.slice (some ⟨et, 0, none⟩) L.length cet) := kx.cell 9; have fz9 : w4.frozen? ⟨w2.heap.size, 9, none⟩ = false := kx.frozen 9; have M5 := Lib.hid ((M.out.drewN 1).next (cb' := cb') (ce' := ce') m4 r4 hb4 he4 u4 OK1.out); have B5 := Lib.hid (u4.below (BW.out.trans (below_drewN (Below.refl _ _) 1)) hM hh hd); clear m4 r4 hb4 he4 u4 kx; unfold rm)
      all_goals
        have B5 := Lib.hid (below_setCells LB.out [.int .u32 (G1 0 : Int), .int .u32 (G1 1 : Int), .int .u32 (G1 2 : Int), .int .u32 (G1 3 : Int), .int .u32 (G1 4 : Int), .int .u32 (G1 5 : Int), .int .u32 (G1 6 : Int), .int .u32 (G1 7 : Int), .slice (some ⟨b', 0, none⟩) T1.length cb', .slice (some ⟨e', 0, none⟩) L1.length ce'] 0 _ B5.out)
        clear DC z0 fz0 r0 z1 fz1 r1 z2 fz2 r2 z3 fz3 r3 z4 fz4 r4 z5 fz5 r5 z6 fz6 r6 z7 fz7 r7 z8 fz8 r8 z9 fz9 r9 a0 a1 a2 a3 a4 a5 a6
        generalize hWX : w4.setCells w2.heap.size 0 [.int .u32 (G1 0 : Int), .int .u32 (G1 1 : Int), .int .u32 (G1 2 : Int), .int .u32 (G1 3 : Int), .int .u32 (G1 4 : Int), .int .u32 (G1 5 : Int), .int .u32 (G1 6 : Int), .int .u32 (G1 7 : Int), .slice (some ⟨b', 0, none⟩) T1.length cb', .slice (some ⟨e', 0, none⟩) L1.length ce'] = WX at M5 B5
        simp only [World.setCells, Nat.zero_add, Nat.reduceAdd] at hWX
        (try rw [hWX])
        have KWX := Lib.hid hWX
        clear hWX
        have TX : Hid ((WX.cell? ⟨ba, oa + kk * 7 + 1, none⟩ = some (.int .u32 (at_ : Int)) ∧ WX.cell? ⟨ba, oa + kk * 7 + 6, none⟩ = some (.int .u64 (ep : Int))) ∧ (WX.cell? ⟨w2.heap.size, 0, none⟩ = some (.int .u32 (G1 0 : Int)) ∧ WX.cell? ⟨w2.heap.size, 1, none⟩ = some (.int .u32 (G1 1 : Int)) ∧ WX.cell? ⟨w2.heap.size, 2, none⟩ = some (.int .u32 (G1 2 : Int)) ∧ WX.cell? ⟨w2.heap.size, 3, none⟩ = some (.int .u32 (G1 3 : Int)) ∧ WX.cell? ⟨w2.heap.size, 4, none⟩ = some (.int .u32 (G1 4 : Int)) ∧ WX.cell? ⟨w2.heap.size, 5, none⟩ = some (.int .u32 (G1 5 : Int)) ∧ WX.cell? ⟨w2.heap.size, 6, none⟩ = some (.int .u32 (G1 6 : Int)) ∧ WX.cell? ⟨w2.heap.size, 7, none⟩ = some (.int .u32 (G1 7 : Int)) ∧ WX.cell? ⟨w2.heap.size, 8, none⟩ = some (.slice (some ⟨b', 0, none⟩) T1.length cb') ∧ WX.cell? ⟨w2.heap.size, 9, none⟩ = some (.slice (some ⟨e', 0, none⟩) L1.length ce'))) :=
          Lib.hid ⟨⟨(B5.out.cell (p := ⟨ba, oa + kk * 7 + 1, none⟩) hba).trans AC.out.c1, (B5.out.cell (p := ⟨ba, oa + kk * 7 + 6, none⟩) hba).trans AC.out.c6⟩, ten10 M5.out.box⟩
        have TD : Hid ((WX.drewN 1).cell? ⟨ba, oa + kk * 7 + 1, none⟩ = some (.int .u32 (at_ : Int)) ∧ (WX.drewN 1).cell? ⟨ba, oa + kk * 7 + 6, none⟩ = some (.int .u64 (ep : Int)) ∧ (WX.drewN 1).cell? ⟨w2.heap.size, 0, none⟩ = some (.int .u32 (G1 0 : Int)) ∧ (WX.drewN 1).cell? ⟨w2.heap.size, 1, none⟩ = some (.int .u32 (G1 1 : Int)) ∧ (WX.drewN 1).cell? ⟨w2.heap.size, 2, none⟩ = some (.int .u32 (G1 2 : Int)) ∧ (WX.drewN 1).cell? ⟨w2.heap.size, 3, none⟩ = some (.int .u32 (G1 3 : Int)) ∧ (WX.drewN 1).cell? ⟨w2.heap.size, 4, none⟩ = some (.int .u32 (G1 4 : Int)) ∧ (WX.drewN 1).cell? ⟨w2.heap.size, 5, none⟩ = some (.int .u32 (G1 5 : Int)) ∧ (WX.drewN 1).cell? ⟨w2.heap.size, 6, none⟩ = some (.int .u32 (G1 6 : Int)) ∧ (WX.drewN 1).cell? ⟨w2.heap.size, 7, none⟩ = some (.int .u32 (G1 7 : Int)) ∧ (WX.drewN 1).cell? ⟨w2.heap.size, 8, none⟩ = some (.slice (some ⟨b', 0, none⟩) T1.length cb') ∧ (WX.drewN 1).cell? ⟨w2.heap.size, 9, none⟩ = some (.slice (some ⟨e', 0, none⟩) L1.length ce')) :=
          Lib.hid ⟨TX.out.1.1, TX.out.1.2, TX.out.2⟩
        have LK : ∀ W, Mid8 W MP g h c d cd w2.heap.size G1 T1 L1 b' cb' e' ce' → ∀ pe : Nat, Calls Try.prog 41 #[.pointer (some ⟨MP, 0, none⟩), .agg #[.int .u32 (G1 0 : Int), .int .u32 (G1 1 : Int), .int .u32 (G1 2 : Int), .int .u32 (G1 3 : Int), .int .u32 (G1 4 : Int), .int .u32 (G1 5 : Int), .int .u32 (G1 6 : Int), .int .u32 (G1 7 : Int), .slice (some ⟨b', 0, none⟩) T1.length cb', .slice (some ⟨e', 0, none⟩) L1.length ce'], .int .u32 (at_ : Int), .int .u64 (pe : Int)] W fun en w' => en = .returned (.bool true) ∧ Below W.heap.size W w' := fun W m pe => looks_c W MP g h c d cd b' cb' e' ce' G1 T1 L1 m.mem m.rm at_ pe hx
        have LK1 := Lib.hid (fun W m => LK W m ep)
        have LK0 : Hid (∀ W, Mid8 W MP g h c d cd w2.heap.size G1 T1 L1 b' cb' e' ce' → Calls Try.prog 41 #[.pointer (some ⟨MP, 0, none⟩), .agg #[.int .u32 (G1 0 : Int), .int .u32 (G1 1 : Int), .int .u32 (G1 2 : Int), .int .u32 (G1 3 : Int), .int .u32 (G1 4 : Int), .int .u32 (G1 5 : Int), .int .u32 (G1 6 : Int), .int .u32 (G1 7 : Int), .slice (some ⟨b', 0, none⟩) T1.length cb', .slice (some ⟨e', 0, none⟩) L1.length ce'], .int .u32 (at_ : Int), .int .u64 0] W fun en w' => en = .returned (.bool true) ∧ Below W.heap.size W w') := Lib.hid (fun W m => LK W m 0)
        clear LK
        have HI := fun W => idx_act ba oa kk len cap hlt W
        obtain ⟨⟨x1, x6⟩, y0, y1, y2, y3, y4, y5, y6, y7, y8, y9⟩ := TX.out
        (try simp only [Act.put, List.getElem_toArray, List.getElem_cons_succ, List.getElem_cons_zero, List.setIfInBounds_toArray, List.set_cons_zero, List.set_cons_succ])
        go_wp2_with fail
        go_region_held3 (fun w' => w'.cell? ⟨ba, oa + kk * 7 + 1, none⟩ = some (.int .u32 (at_ : Int)) ∧ w'.cell? ⟨ba, oa + kk * 7 + 6, none⟩ = some (.int .u64 (ep : Int)) ∧ w'.cell? ⟨w2.heap.size, 0, none⟩ = some (.int .u32 (G1 0 : Int)) ∧ w'.cell? ⟨w2.heap.size, 1, none⟩ = some (.int .u32 (G1 1 : Int)) ∧ w'.cell? ⟨w2.heap.size, 2, none⟩ = some (.int .u32 (G1 2 : Int)) ∧ w'.cell? ⟨w2.heap.size, 3, none⟩ = some (.int .u32 (G1 3 : Int)) ∧ w'.cell? ⟨w2.heap.size, 4, none⟩ = some (.int .u32 (G1 4 : Int)) ∧ w'.cell? ⟨w2.heap.size, 5, none⟩ = some (.int .u32 (G1 5 : Int)) ∧ w'.cell? ⟨w2.heap.size, 6, none⟩ = some (.int .u32 (G1 6 : Int)) ∧ w'.cell? ⟨w2.heap.size, 7, none⟩ = some (.int .u32 (G1 7 : Int)) ∧ w'.cell? ⟨w2.heap.size, 8, none⟩ = some (.slice (some ⟨b', 0, none⟩) T1.length cb') ∧ w'.cell? ⟨w2.heap.size, 9, none⟩ = some (.slice (some ⟨e', 0, none⟩) L1.length ce')) (first | (exact TD.out) | (apply keep12 hb7; assumption) | (apply keep12 hb6; assumption) | go_keep) ((first
          | (go_at_call 41; (with_reducible refine (LK1.out _ ?_).mono ?_); (first | exact M5.out.drewN 1); rintro en w6 ⟨rfl, hb6⟩; have M6 := Lib.hid ((M5.out.drewN 1).kept hb6); have B6 := Lib.hid ((below_drewN B5.out 1).trans (hb6.mono (below_drewN B5.out 1).size)))
          | (go_at_call 41; (with_reducible refine (LK0.out _ ?_).mono ?_); (first | exact M6.out); rintro en w7 ⟨rfl, hb7⟩; have M7 := Lib.hid (M6.out.kept hb7); have B7 := Lib.hid (B6.out.trans (hb7.mono B6.out.size)))))
        clear hb6 hb7
        go_wp2_with fail
        go_roundg (len - (kk + 1))
        case measure => omega
        case rel => exact ⟨kk + 1, by omega, by omega, rfl, by go_num, Lib.hid ⟨_, _, _, _, _, _, _, M7.out⟩, B7⟩
    · have hltz : ¬ (kk : Int) < (len : Int) := by omega
      obtain ⟨G, T, L, bt, ct, et, cet, M⟩ := MW.out
      replace M := Lib.hid M
      have r0 : wr.cell? ⟨w2.heap.size, 0, none⟩ = some (.int .u32 (G 0 : Int)) := M.out.box.cell 0
      have r1 : wr.cell? ⟨w2.heap.size, 1, none⟩ = some (.int .u32 (G 1 : Int)) := M.out.box.cell 1
      have r2 : wr.cell? ⟨w2.heap.size, 2, none⟩ = some (.int .u32 (G 2 : Int)) := M.out.box.cell 2
      have r3 : wr.cell? ⟨w2.heap.size, 3, none⟩ = some (.int .u32 (G 3 : Int)) := M.out.box.cell 3
      have r4 : wr.cell? ⟨w2.heap.size, 4, none⟩ = some (.int .u32 (G 4 : Int)) := M.out.box.cell 4
      have r5 : wr.cell? ⟨w2.heap.size, 5, none⟩ = some (.int .u32 (G 5 : Int)) := M.out.box.cell 5
      have r6 : wr.cell? ⟨w2.heap.size, 6, none⟩ = some (.int .u32 (G 6 : Int)) := M.out.box.cell 6
      have r7 : wr.cell? ⟨w2.heap.size, 7, none⟩ = some (.int .u32 (G 7 : Int)) := M.out.box.cell 7
      have r8 : wr.cell? ⟨w2.heap.size, 8, none⟩ = some (.slice (some ⟨bt, 0, none⟩) T.length ct) := M.out.box.cell 8
      have r9 : wr.cell? ⟨w2.heap.size, 9, none⟩ = some (.slice (some ⟨et, 0, none⟩) L.length cet) := M.out.box.cell 9
      clear HS MW
      go_wp2_with fail
      refine (same8_c _ MP g h c d cd bt ct et cet G T L M.out.mem M.out.rm).mono ?_
      rintro en w5 ⟨rfl, hb5⟩
      have B5 := Lib.hid (BW.out.trans (hb5.mono BW.out.size))
      clear hb5
      go_wp2_with fail
      refine (awake08_c _).mono ?_
      rintro en w6 ⟨rfl, hb6⟩
      have B6 := Lib.hid (B5.out.trans (hb6.mono B5.out.size))
      clear hb6
      go_wp2_with fail
      go_ret
      exact ⟨rfl, B6.out⟩
end Go.Proofs.Ytjjcmclnjeplkaa.PM
