/- MemorySlots walked. Conditions: the calls' cells. -/
import Derived.Test.YtjjcmclnjeplkaaLawM8
import Derived.Test.YtjjcmclnjeplkaaOpenM
import Derived.Deep.RegionWith
namespace Go.Proofs.Ytjjcmclnjeplkaa.PM
set_option linter.unusedVariables false
set_option linter.unusedSimpArgs false
open Go.RowKit Go.Proofs.Ytjjcmclnjeplkaa.Frame
set_option maxRecDepth 100000 in
set_option maxHeartbeats 16000000 in
theorem law_mslots (src : Option Addr) (len cap : Nat) (ks ep : Nat) (w : World) (hks : ks < 256) (hs : Acts8 w src len) :
    Calls Try.prog 11 #[.slice src len cap, .int .u8 (ks : Int), .int .u64 (ep : Int)] w fun en w' => en = .returned (.bool true) ∧ Below w.heap.size w w' := by
  by_cases hlim : 40 < len
  · have hz : (40 : Int) < (len : Int) := by omega
    clear hs
    go_enter Try.func11, Try.ntmps11
    go_wp2_with fail
    refine (awake08_c _).mono ?_
    rintro en w1 ⟨rfl, hb⟩
    go_wp2_with fail
    go_ret
    exact ⟨rfl, hb⟩
  have hz : ¬ (40 : Int) < (len : Int) := by omega
  have HS := Lib.hid hs
  clear hs hlim
  have htm : Int.tmod (ks : Int) 64 = ((ks % 64 : Nat) : Int) := by rw [Int.tmod_eq_emod_of_nonneg (by omega)]; omega
  have hy64 : ks % 64 < 64 := Nat.mod_lt _ (by decide)
  have hwr : IntKind.u8.wrap ((ks % 64 : Nat) : Int) = ((ks % 64 : Nat) : Int) := by unfold IntKind.wrap; generalize ks % 64 = y at hy64 ⊢; simp [IntKind.bits, IntKind.signed]; omega
  generalize ks % 64 = y at htm hy64 hwr
  go_enter Try.func11, Try.ntmps11
  go_wp2_with fail
  refine (newmem_c w 8).mono ?_
  rintro en w1 ⟨MP, g, h, c, d, cd, rfl, hM, hg, hh, hd, m, hb1⟩
  have HM := Lib.hid (And.intro m hb1)
  have HL := Lib.hid (show MP < w1.heap.size ∧ g < w1.heap.size ∧ h < w1.heap.size ∧ d < w1.heap.size from ⟨m.ten.lt, m.tab.lt, m.tab.pgs.lt, m.wds.lt⟩)
  clear m hb1
  go_wp2_with fail
  refine (rnewmem_c w1 8).mono ?_
  rintro en w2 ⟨b, cb, e, ce, rfl, hbb, hbe, hne, r, hb2⟩
  obtain ⟨l1, l2, l3, l4⟩ := HL.out
  have l5 := r.pgs.lt
  have l6 := r.wds.lt
  have s2 := hb2.size
  have s1 := HM.out.2.size
  have ML : MP ≠ w2.heap.size := by omega
  have M0 : Hid (Mid8 (w2.alloc (.cells #[.int .u32 ((fun _ => 0 : Nat → Nat) 0 : Int), .int .u32 ((fun _ => 0 : Nat → Nat) 1 : Int), .int .u32 ((fun _ => 0 : Nat → Nat) 2 : Int), .int .u32 ((fun _ => 0 : Nat → Nat) 3 : Int), .int .u32 ((fun _ => 0 : Nat → Nat) 4 : Int), .int .u32 ((fun _ => 0 : Nat → Nat) 5 : Int), .int .u32 ((fun _ => 0 : Nat → Nat) 6 : Int), .int .u32 ((fun _ => 0 : Nat → Nat) 7 : Int), .slice (some ⟨b, 0, none⟩) (List.replicate (newLen 8) nz).length cb, .slice (some ⟨e, 0, none⟩) (List.replicate (16 * newLen 8) 0).length ce] 64)) MP g h c d cd w2.heap.size (fun _ => 0) (List.replicate (newLen 8) nz) (List.replicate (16 * newLen 8) 0) b cb e ce) := Lib.hid
    ⟨(HM.out.1.kept hb2).alloc _, r.alloc _, ⟨by omega, by omega, by omega, by omega, by omega, by omega⟩, by omega, by omega, by omega, by omega, by omega, by omega, ok_new _, Blk.new _ _ _⟩
  have B0 := Lib.hid ((HM.out.2.trans (hb2.mono HM.out.2.size)).alloc (by omega) (.cells #[.int .u32 ((fun _ => 0 : Nat → Nat) 0 : Int), .int .u32 ((fun _ => 0 : Nat → Nat) 1 : Int), .int .u32 ((fun _ => 0 : Nat → Nat) 2 : Int), .int .u32 ((fun _ => 0 : Nat → Nat) 3 : Int), .int .u32 ((fun _ => 0 : Nat → Nat) 4 : Int), .int .u32 ((fun _ => 0 : Nat → Nat) 5 : Int), .int .u32 ((fun _ => 0 : Nat → Nat) 6 : Int), .int .u32 ((fun _ => 0 : Nat → Nat) 7 : Int), .slice (some ⟨b, 0, none⟩) (List.replicate (newLen 8) nz).length cb, .slice (some ⟨e, 0, none⟩) (List.replicate (16 * newLen 8) 0).length ce] 64))
  have LB : Hid (w.heap.size ≤ w2.heap.size) := Lib.hid (by omega)
  generalize List.replicate (newLen 8) nz = T0 at M0 B0 ⊢
  generalize List.replicate (16 * newLen 8) 0 = L0 at M0 B0 ⊢
  generalize (fun _ => 0 : Nat → Nat) = G0 at M0 B0 ⊢
  clear hb2 r HM HL l1 l2 l3 l4 l5 l6 s1 s2 hbb hbe hne
  unfold rm
  go_wp2_with fail
  go_loopg [9] len (fun gg s9 wr => ∃ kk : Nat, kk ≤ len ∧ len - kk ≤ gg ∧ s9 = .int .i64 (kk : Int) ∧ Hid (∃ G T L b cb e ce, Mid8 wr MP g h c d cd w2.heap.size G T L b cb e ce) ∧ Hid (Below w.heap.size w wr))
  case atStart => exact ⟨0, Nat.zero_le _, by omega, rfl, Lib.hid ⟨_, _, _, _, _, _, _, M0.out⟩, B0⟩
  case round =>
    obtain ⟨kk, hkk, hg, rfl, MW, BW⟩ := hrel
    by_cases hlt : kk < len
    · have hltz : (kk : Int) < (len : Int) := by omega
      obtain ⟨G, T, L, bt, ct, et, cet, M⟩ := MW.out
      replace M := Lib.hid M
      obtain ⟨ba, oa, rfl, hba, ⟨k, at_, wd, pg, n, ow, ep⟩, AC⟩ := HS.out kk hlt
      have hx : at_ < 4294967296 := AC.hx
      have hwd : wd < 4294967296 := AC.hw
      have ho : ow < 65536 := AC.ho
      replace AC := Lib.hid AC
      have r0 : wr.cell? ⟨w2.heap.size, 0, none⟩ = some (.int .u32 (G 0 : Int)) := M.out.box.cell 0
      have r1 : wr.cell? ⟨w2.heap.size, 1, none⟩ = some (.int .u32 (G 1 : Int)) := M.out.box.cell 1
      have r2 : wr.cell? ⟨w2.heap.size, 2, none⟩ = some (.int .u32 (G 2 : Int)) := M.out.box.cell 2
      have r3 : wr.cell? ⟨w2.heap.size, 3, none⟩ = some (.int .u32 (G 3 : Int)) := M.out.box.cell 3
      have r4 : wr.cell? ⟨w2.heap.size, 4, none⟩ = some (.int .u32 (G 4 : Int)) := M.out.box.cell 4
      have r5 : wr.cell? ⟨w2.heap.size, 5, none⟩ = some (.int .u32 (G 5 : Int)) := M.out.box.cell 5
      have r6 : wr.cell? ⟨w2.heap.size, 6, none⟩ = some (.int .u32 (G 6 : Int)) := M.out.box.cell 6
      have r7 : wr.cell? ⟨w2.heap.size, 7, none⟩ = some (.int .u32 (G 7 : Int)) := M.out.box.cell 7
      have r8 : wr.cell? ⟨w2.heap.size, 8, none⟩ = some (.slice (some ⟨bt, 0, none⟩) T.length ct) := M.out.box.cell 8
      have r9 : wr.cell? ⟨w2.heap.size, 9, none⟩ = some (.slice (some ⟨et, 0, none⟩) L.length cet) := M.out.box.cell 9
      have a0 : wr.cell? ⟨ba, oa + kk * 7, none⟩ = some (.int .u8 (k : Int)) := (BW.out.cell (p := ⟨ba, oa + kk * 7, none⟩) hba).trans AC.out.c0
      have a1 : wr.cell? ⟨ba, oa + kk * 7 + 1, none⟩ = some (.int .u32 (at_ : Int)) := (BW.out.cell (p := ⟨ba, oa + kk * 7 + 1, none⟩) hba).trans AC.out.c1
      have a2 : wr.cell? ⟨ba, oa + kk * 7 + 2, none⟩ = some (.int .u32 (wd : Int)) := (BW.out.cell (p := ⟨ba, oa + kk * 7 + 2, none⟩) hba).trans AC.out.c2
      have a3 : wr.cell? ⟨ba, oa + kk * 7 + 3, none⟩ = some (.int .i64 pg) := (BW.out.cell (p := ⟨ba, oa + kk * 7 + 3, none⟩) hba).trans AC.out.c3
      have a4 : wr.cell? ⟨ba, oa + kk * 7 + 4, none⟩ = some (.int .i64 n) := (BW.out.cell (p := ⟨ba, oa + kk * 7 + 4, none⟩) hba).trans AC.out.c4
      have a5 : wr.cell? ⟨ba, oa + kk * 7 + 5, none⟩ = some (.int .u16 (ow : Int)) := (BW.out.cell (p := ⟨ba, oa + kk * 7 + 5, none⟩) hba).trans AC.out.c5
      have a6 : wr.cell? ⟨ba, oa + kk * 7 + 6, none⟩ = some (.int .u64 (ep : Int)) := (BW.out.cell (p := ⟨ba, oa + kk * 7 + 6, none⟩) hba).trans AC.out.c6
      have OK1 := Lib.hid (ok_step8 G T L ⟨k, at_, wd, pg, n, ow, ep⟩ M.out.ok)
      have DC : ∀ W, Mid8 W MP g h c d cd w2.heap.size G T L bt ct et cet → Calls Try.prog 47 #[.pointer (some ⟨MP, 0, none⟩), .agg #[.int .u32 (G 0 : Int), .int .u32 (G 1 : Int), .int .u32 (G 2 : Int), .int .u32 (G 3 : Int), .int .u32 (G 4 : Int), .int .u32 (G 5 : Int), .int .u32 (G 6 : Int), .int .u32 (G 7 : Int), .slice (some ⟨bt, 0, none⟩) T.length ct, .slice (some ⟨et, 0, none⟩) L.length cet], .agg #[.int .u8 (k : Int), .int .u32 (at_ : Int), .int .u32 (wd : Int), .int .i64 pg, .int .i64 n, .int .u16 (ow : Int), .int .u64 (ep : Int)]] W fun en w' => DoP8 W MP g h c d cd bt et (step8 G T L ⟨k, at_, wd, pg, n, ow, ep⟩) en w' := fun W m =>
        do8_c W MP g h c d cd bt ct et cet G T L m.mem m.rm m.sep m.ok ⟨k, at_, wd, pg, n, ow, ep⟩ hx ho
      replace DC := Lib.hid DC
      generalize step8 G T L ⟨k, at_, wd, pg, n, ow, ep⟩ = S1 at DC OK1
      obtain ⟨G1, T1, L1⟩ := S1
      simp only at OK1
      clear MW
      go_wp2_with fail
      go_region_with (go_at_call 47; (with_reducible refine (DC.out _ ?_).mono ?_); (first | exact M.out | exact M.out.drewN 1); rintro en w4 ⟨b', cb', e', ce', rfl, m4, r4, hb4, he4, u4⟩; have kx := (u4.blk M.out.box M.out.BM M.out.Bh M.out.Bd); have z0 : w4.cell? ⟨w2.heap.size, 0, none⟩ = some (.int .u32 (G 0 : Int)) := kx.cell 0; have fz0 : w4.frozen? ⟨w2.heap.size, 0, none⟩ = false := kx.frozen 0; have z1 : w4.cell? ⟨w2.heap.size, 1, none⟩ = some (.int .u32 (G 1 : Int)) := kx.cell 1; have fz1 : w4.frozen? ⟨w2.heap.size, 1, none⟩ = false := kx.frozen 1; have z2 : w4.cell? ⟨w2.heap.size, 2, none⟩ = some (.int .u32 (G 2 : Int)) := kx.cell 2; have fz2 : w4.frozen? ⟨w2.heap.size, 2, none⟩ = false := kx.frozen 2; have z3 : w4.cell? ⟨w2.heap.size, 3, none⟩ = some (.int .u32 (G 3 : Int)) := kx.cell 3; have fz3 : w4.frozen? ⟨w2.heap.size, 3, none⟩ = false := kx.frozen 3; have z4 : w4.cell? ⟨w2.heap.size, 4, none⟩ = some (.int .u32 (G 4 : Int)) := kx.cell 4; have fz4 : w4.frozen? ⟨w2.heap.size, 4, none⟩ = false := kx.frozen 4; have z5 : w4.cell? ⟨w2.heap.size, 5, none⟩ = some (.int .u32 (G 5 : Int)) := kx.cell 5; have fz5 : w4.frozen? ⟨w2.heap.size, 5, none⟩ = false := kx.frozen 5; have z6 : w4.cell? ⟨w2.heap.size, 6, none⟩ = some (.int .u32 (G 6 : Int)) := kx.cell 6; have fz6 : w4.frozen? ⟨w2.heap.size, 6, none⟩ = false := kx.frozen 6; have z7 : w4.cell? ⟨w2.heap.size, 7, none⟩ = some (.int .u32 (G 7 : Int)) := kx.cell 7; have fz7 : w4.frozen? ⟨w2.heap.size, 7, none⟩ = false := kx.frozen 7; have z8 : w4.cell? ⟨w2.heap.size, 8, none⟩ = some (.slice (some ⟨bt, 0, none⟩) T.length ct) := kx.cell 8; have fz8 : w4.frozen? ⟨w2.heap.size, 8, none⟩ = false := kx.frozen 8; have z9 : w4.cell? ⟨w2.heap.size, 9, none⟩ = some (.slice (some ⟨et, 0, none⟩) L.length cet) := kx.cell 9; have fz9 : w4.frozen? ⟨w2.heap.size, 9, none⟩ = false := kx.frozen 9; have M5 := Lib.hid ((M.out.drewN 1).next (cb' := cb') (ce' := ce') m4 r4 hb4 he4 u4 OK1.out); have B5 := Lib.hid (u4.below (BW.out.trans (below_drewN (Below.refl _ _) 1)) hM hh hd); clear m4 r4 hb4 he4 u4 kx; unfold rm)
      all_goals
        have B5 := Lib.hid (below_setCells LB.out [.int .u32 (G1 0 : Int), .int .u32 (G1 1 : Int), .int .u32 (G1 2 : Int), .int .u32 (G1 3 : Int), .int .u32 (G1 4 : Int), .int .u32 (G1 5 : Int), .int .u32 (G1 6 : Int), .int .u32 (G1 7 : Int), .slice (some ⟨b', 0, none⟩) T1.length cb', .slice (some ⟨e', 0, none⟩) L1.length ce'] 0 _ B5.out)
        clear DC z0 fz0 r0 z1 fz1 r1 z2 fz2 r2 z3 fz3 r3 z4 fz4 r4 z5 fz5 r5 z6 fz6 r6 z7 fz7 r7 z8 fz8 r8 z9 fz9 r9 a0 a1 a2 a3 a4 a5 a6
        go_wp2_with fail
        go_roundg (len - (kk + 1))
        case measure => omega
        case rel => exact ⟨kk + 1, by omega, by omega, by go_num, Lib.hid ⟨_, _, _, _, _, _, _, M5.out⟩, B5⟩
    · have hltz : ¬ (kk : Int) < (len : Int) := by omega
      obtain ⟨G, T, L, bt, ct, et, cet, M⟩ := MW.out
      have MM_wr := Lib.hid M.mem
      have B_wr := BW
      clear HS MW M BW M0 B0
      have E := fun W => I6.rencode_ok 21 0 0 0 (y : Int) W (by omega) (by omega) (chk_ent y hy64)
      rw [encN_ent y hy64] at E
      have E : ∀ W : World, Calls Try.prog 48 #[.agg #[.int .u8 21, .int .u8 0, .int .u8 0, .int .u8 0, .int .i32 (y : Int)]] W fun e w' => e = .returned (.tuple #[.int .u32 (ent y : Int), .int .i64 0]) ∧ Below W.heap.size W w' := E
      replace E := Lib.hid E
      have hy32 : y < 4294967296 := by omega
      have hpg : getP T (pageOf y) = nz := by
        have e1 : pageOf y = -1 := by unfold pageOf; rw [if_pos (by omega)]
        rw [e1]; unfold getP; rw [if_neg (by omega)]
      have FC : ∀ W, Mem W MP g h c d cd G T L → Calls Try.prog 45 #[.pointer (some ⟨MP, 0, none⟩), .int .u32 (y : Int), .int .u64 (ep : Int)] W fun e w' => e = .returned (.tuple #[.int .u32 (ent y : Int), .int .u16 0, .bool true]) ∧ Below W.heap.size W w' := fun W q => by
        have := fetch_c q y ep hy32
        unfold fetchM at this
        rw [if_pos hy64] at this
        exact this
      have LC : ∀ W, Mem W MP g h c d cd G T L → Calls Try.prog 44 #[.pointer (some ⟨MP, 0, none⟩), .int .u32 (y : Int), .int .u64 (ep : Int)] W fun e w' => e = .returned (.tuple #[.int .u32 (ent y : Int), .bool true]) ∧ Below W.heap.size W w' := fun W q => by
        have := load_c q y ep hy32
        unfold loadM peekM at this
        rw [if_neg (by omega), if_pos hy64] at this
        exact this
      have PK : ∀ W, Mem W MP g h c d cd G T L → Calls Try.prog 46 #[.pointer (some ⟨MP, 0, none⟩), .int .u32 (y : Int)] W fun e w' => e = .returned (.int .u32 (ent y : Int)) ∧ Below W.heap.size W w' := fun W q => by
        have := peek_c q y hy32
        unfold peekM at this
        rw [if_pos hy64] at this
        exact this
      have PT : ∀ W, Mem W MP g h c d cd G T L → Calls Try.prog 49 #[.pointer (some ⟨MP, 0, none⟩), .int .u32 (y : Int), .int .u32 1] W fun e w' => e = .returned (.int .i64 11) ∧ Mem w' MP g h c d cd G T L ∧ Upd d W w' := fun W q => by
        have := put_c q y 1 hy32
        have hi : inB L y = false := by simp [inB]; omega
        unfold putM at this
        rw [hi] at this
        exact this
      have SR : ∀ W, Mem W MP g h c d cd G T L → Calls Try.prog 43 #[.pointer (some ⟨MP, 0, none⟩), .int .u32 (y : Int), .int .u32 1, .int .u64 (ep : Int), .int .u16 1] W fun e w' => e = .returned (.bool false) ∧ Mem w' MP g h c d cd G T L ∧ Upd d W w' := fun W q => by
        have := store_c q y 1 ep 1 hy32
        have hi : wrB (getP T (pageOf y)) ep 1 = false := by rw [hpg]; rfl
        unfold storeM at this
        rw [hi] at this
        exact this
      replace FC := Lib.hid FC
      replace LC := Lib.hid LC
      replace PK := Lib.hid PK
      replace PT := Lib.hid PT
      replace SR := Lib.hid SR
      have hent : ent y < 4294967296 := by unfold ent; omega
      generalize ent y = z at E FC LC PK hent
      clear hpg
      go_wp2_with fail
      refine (E.out _).mono ?_
      rintro en w3 ⟨rfl, hb⟩
      have MM_w3 := Lib.hid (MM_wr.out.kept hb)
      have B_w3 := Lib.hid (B_wr.out.trans (hb.mono B_wr.out.size))
      clear hb
      go_wp2_with fail
      refine (FC.out _ MM_w3.out).mono ?_
      rintro en w4 ⟨rfl, hb⟩
      have MM_w4 := Lib.hid (MM_w3.out.kept hb)
      have B_w4 := Lib.hid (B_w3.out.trans (hb.mono B_w3.out.size))
      clear hb
      go_wp2_with fail
      refine (LC.out _ MM_w4.out).mono ?_
      rintro en w5 ⟨rfl, hb⟩
      have MM_w5 := Lib.hid (MM_w4.out.kept hb)
      have B_w5 := Lib.hid (B_w4.out.trans (hb.mono B_w4.out.size))
      clear hb
      go_wp2_with fail
      refine (PK.out _ MM_w5.out).mono ?_
      rintro en w6 ⟨rfl, hb⟩
      have MM_w6 := Lib.hid (MM_w5.out.kept hb)
      have B_w6 := Lib.hid (B_w5.out.trans (hb.mono B_w5.out.size))
      clear hb
      go_wp2_with fail
      refine (PT.out _ MM_w6.out).mono ?_
      rintro en w7 ⟨rfl, m7, u7⟩
      have MM_w7 := Lib.hid m7
      have B_w7 := Lib.hid (u7.below B_w6.out hd)
      clear m7 u7
      go_wp2_with fail
      refine (SR.out _ MM_w7.out).mono ?_
      rintro en w8 ⟨rfl, m8, u8⟩
      have B_w8 := Lib.hid (u8.below B_w7.out hd)
      clear m8 u8
      go_wp2_with fail
      refine (awake08_c _).mono ?_
      rintro en w9 ⟨rfl, hb⟩
      have B_w9 := Lib.hid (B_w8.out.trans (hb.mono B_w8.out.size))
      clear hb
      go_wp2_with fail
      go_ret
      exact ⟨rfl, B_w9.out⟩
end Go.Proofs.Ytjjcmclnjeplkaa.PM
