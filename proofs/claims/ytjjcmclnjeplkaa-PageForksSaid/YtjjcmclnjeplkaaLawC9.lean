/- PageForks walked. Conditions: the calls' cells. -/
import Derived.Test.YtjjcmclnjeplkaaLawC5
import Derived.Test.YtjjcmclnjeplkaaLawC6
import Derived.Deep.DeepCutAuto
namespace Go.Proofs.Ytjjcmclnjeplkaa.PM
set_option linter.unusedVariables false
open Go.RowKit Go.Proofs.Ytjjcmclnjeplkaa.Frame
/-- Behind a fork: both tables hold the same pages, each with its own reference's table in a box. -/
structure ForkSt (W w : World) (g h c B : Nat) (T : List Page) (b cb : Nat) (g2 h2 c2 B2 : Nat) : Prop where
  old : Mid w g h c B T b cb
  new_ : Mid w g2 h2 c2 B2 T b cb
  below : Below W.heap.size W w
  fg : W.heap.size ≤ g2
  fh : W.heap.size ≤ h2
  fB : W.heap.size ≤ B2
theorem forkA {W w : World} {g h c B : Nat} {T : List Page} {b cb g2 h2 c2 : Nat} (M : Mid W g h c B T b cb) (hb : Below W.heap.size W w) (t : Tab w g2 h2 c2 T) (hg : W.heap.size ≤ g2) (hh : W.heap.size ≤ h2) :
    ForkSt W (w.alloc (.cells #[.slice (some ⟨b, 0, none⟩) T.length cb] 44)) g h c B T b cb g2 h2 c2 w.heap.size := by
  have hbl := M.pgs.lt
  have h1 := hb.size
  have h3 := t.pgs.lt
  have h2 := t.lt
  exact ⟨(M.kept hb).kept ((Below.refl _ _).alloc (Nat.le_refl _) _), ⟨t.alloc _, (M.pgs.kept hb).alloc _, by omega, by omega, by omega, by omega, M.ok, Blk.new _ _ _⟩, hb.alloc hb.size _, hg, hh, hb.size⟩
theorem forkB {W w : World} {g h c B : Nat} {T : List Page} {b cb g2 h2 c2 : Nat} (M : Mid W g h c B T b cb) (hb : Below (W.heap.size + 1) (W.alloc (.cells #[.slice none 0 0] 44)) w) (t : Tab w g2 h2 c2 T) (hg : W.heap.size + 1 ≤ g2) (hh : W.heap.size + 1 ≤ h2) :
    ForkSt W (w.setCell ⟨W.heap.size, 0, none⟩ (.slice (some ⟨b, 0, none⟩) T.length cb)) g h c B T b cb g2 h2 c2 W.heap.size := by
  have hbl := M.pgs.lt
  have hgl := M.tab.lt
  have hhl := M.tab.pgs.lt
  have hBl := M.box.lt
  have hb0 : Below W.heap.size W w := ((Below.refl _ W).alloc (Nat.le_refl _) _).trans (hb.mono (by omega))
  have K := M.kept hb0
  have kx := ((Blk.new W 44 #[.slice none 0 0]).below hb (by omega)).set_ 0 (.slice (some ⟨b, 0, none⟩) T.length cb)
  refine ⟨⟨K.tab.far (by show g ≠ W.heap.size; omega) (by show h ≠ W.heap.size; omega) _, K.pgs.far (by show b ≠ W.heap.size; omega) _, M.bh, M.bB, M.gB, M.hB, M.ok, K.box.far (by show B ≠ W.heap.size; omega) _⟩, ⟨t.far (by show g2 ≠ W.heap.size; omega) (by show h2 ≠ W.heap.size; omega) _, K.pgs.far (by show b ≠ W.heap.size; omega) _, by omega, by omega, by omega, by omega, M.ok, by simpa using kx⟩, hb0.setCell (Nat.le_refl _) _, by omega, by omega, Nat.le_refl _⟩
theorem Mid.upd2 {w w' : World} {g h c B : Nat} {T : List Page} {b cb k B2 : Nat} (M : Mid w g h c B T b cb) (u : Upd k w w') (v : Value) (hd : (g ≠ k ∧ h ≠ k ∧ b ≠ k ∧ B ≠ k) ∧ (g ≠ B2 ∧ h ≠ B2 ∧ b ≠ B2 ∧ B ≠ B2)) : Mid (w'.setCell ⟨B2, 0, none⟩ v) g h c B T b cb :=
  ⟨(M.tab.upd u hd.1.1 hd.1.2.1).far hd.2.1 hd.2.2.1 _, (u.pgs M.pgs hd.1.2.2.1).far hd.2.2.2.1 _, M.bh, M.bB, M.gB, M.hB, M.ok, (u.blk M.box hd.1.2.2.2).far hd.2.2.2.2 _⟩
set_option maxRecDepth 100000 in
set_option maxHeartbeats 16000000 in
theorem law_forks (nn : Nat) (src : Option Addr) (len cap : Nat) (src2 : Option Addr) (len2 cap2 : Nat) (w : World) (hnn : nn < 256) (hs : Acts w src len) (hs2 : Acts w src2 len2) :
    Calls Try.prog 8 #[.int .u8 (nn : Int), .slice src len cap, .slice src2 len2 cap2] w fun e w' => e = .returned (.bool true) ∧ Below w.heap.size w w' := by
  by_cases h100 : 60 < len
  · have hz : (60 : Int) < (len : Int) := by omega
    clear hs hs2
    go_enter Try.func8, Try.ntmps8
    go_wp2_with fail
    refine (awake06_c _).mono ?_
    rintro e w1 ⟨rfl, hb⟩
    go_wp2_with fail
    go_ret
    exact ⟨rfl, hb⟩
  have hz : ¬ (60 : Int) < (len : Int) := by omega
  by_cases h200 : 60 < len2
  · have hz2 : (60 : Int) < (len2 : Int) := by omega
    clear hs hs2
    go_enter Try.func8, Try.ntmps8
    go_wp2_with fail
    refine (awake06_c _).mono ?_
    rintro e w1 ⟨rfl, hb⟩
    go_wp2_with fail
    go_ret
    exact ⟨rfl, hb⟩
  have hz2 : ¬ (60 : Int) < (len2 : Int) := by omega
  have HS2 := Lib.hid hs2
  have HS := Lib.hid hs
  clear h200 hs2
  clear hs h100
  go_enter Try.func8, Try.ntmps8
  go_wp2_with fail
  refine (new_c w (nn : Int)).mono ?_
  rintro e w1 ⟨g, h, c, rfl, hg, hh, t, hb1⟩
  have HT := Lib.hid (And.intro t hb1)
  have hl1 := t.pgs.lt
  have hl2 := t.lt
  clear t hb1
  go_wp2_with fail
  refine (rnew_c w1 (nn : Int)).mono ?_
  rintro e w2 ⟨b, cb, rfl, hbb, hp, hb2⟩
  have hbl := hp.lt
  have M0 : Hid (Mid (w2.alloc (.cells #[.slice (some ⟨b, 0, none⟩) (List.replicate (newLen (nn : Int)) nz).length cb] 44)) g h c w2.heap.size (List.replicate (newLen (nn : Int)) nz) b cb) := Lib.hid
    ⟨(HT.out.1.kept hb2).alloc _, hp.alloc _, by omega, by omega, by have := hb2.size; omega, by have := hb2.size; omega, ok_new _, Blk.new _ _ _⟩
  have B0 := Lib.hid ((HT.out.2.trans (hb2.mono HT.out.2.size)).alloc (by have := hb2.size; have := HT.out.2.size; omega) (.cells #[.slice (some ⟨b, 0, none⟩) (List.replicate (newLen (nn : Int)) nz).length cb] 44))
  have G0 := Lib.hid (noxw_new (newLen (nn : Int)))
  generalize List.replicate (newLen (nn : Int)) nz = T0 at M0 B0 G0 ⊢
  clear hb2 hp HT
  unfold rv
  go_wp2_with fail
  go_loopg [9] len (fun gg s7 wr => ∃ kk : Nat, kk ≤ len ∧ len - kk ≤ gg ∧ s7 = .int .i64 (kk : Int) ∧ Hid (∃ T b cb, Mid wr g h c w2.heap.size T b cb ∧ NoXW T) ∧ Hid (Below w.heap.size w wr))
  case atStart => exact ⟨0, Nat.zero_le _, by omega, rfl, Lib.hid ⟨_, _, _, M0.out, G0.out⟩, B0⟩
  case round =>
    obtain ⟨kk, hkk, hg, rfl, MW, BW⟩ := hrel
    by_cases hlt : kk < len
    · have hltz : (kk : Int) < (len : Int) := by omega
      obtain ⟨T, bt, ct, M, GT⟩ := MW.out
      have M := Lib.hid M
      obtain ⟨ba, oa, rfl, hba, k, fr, n, ow, ep, AC⟩ := HS.out kk hlt
      have r0 : wr.cell? ⟨w2.heap.size, 0, none⟩ = some (.slice (some ⟨bt, 0, none⟩) T.length ct) := M.out.box.cell 0
      have a0 := (BW.out.cell (p := ⟨ba, oa + kk * 5, none⟩) hba).trans AC.c0
      have a1 := (BW.out.cell (p := ⟨ba, oa + kk * 5 + 1, none⟩) hba).trans AC.c1
      have a2 := (BW.out.cell (p := ⟨ba, oa + kk * 5 + 2, none⟩) hba).trans AC.c2
      have a3 := (BW.out.cell (p := ⟨ba, oa + kk * 5 + 3, none⟩) hba).trans AC.c3
      have a4 := (BW.out.cell (p := ⟨ba, oa + kk * 5 + 4, none⟩) hba).trans AC.c4
      have OK1 := Lib.hid (ok_step T ⟨k, fr, n, ow, ep⟩ M.out.ok)
      have GT1 := Lib.hid (noxw_step T ⟨k, fr, n, ow, ep⟩ GT)
      have DC : ∀ W, Mid W g h c w2.heap.size T bt ct → Calls Try.prog 30 #[.pointer (some ⟨g, 0, none⟩), .agg #[.slice (some ⟨bt, 0, none⟩) T.length ct], .agg #[.int .u8 (k : Int), .int .i64 fr, .int .i64 n, .int .u16 (ow : Int), .int .u64 (ep : Int)]] W fun e w' => DoP W g h c bt (stepM T ⟨k, fr, n, ow, ep⟩).1 e w' := fun W m =>
        do_c W g h c bt ct T m.tab m.pgs m.bh m.ok ⟨k, fr, n, ow, ep⟩
      have DC := Lib.hid DC
      generalize (stepM T ⟨k, fr, n, ow, ep⟩).1 = T1 at DC OK1 GT1
      clear AC MW GT
      go_wp2_with fail
      go_region_with (go_at_call 30; (with_reducible refine (DC.out _ ?_).mono ?_); (first | exact M.out | exact M.out.drewN 1); rintro e w4 ⟨b', c', rfl, t4, p4, hb4, u4⟩; have kx := (u4.blk M.out.box (fun e => M.out.hB e.symm)); have z0 : w4.cell? ⟨w2.heap.size, 0, none⟩ = some (.slice (some ⟨bt, 0, none⟩) T.length ct) := kx.cell 0; have z1 : w4.frozen? ⟨w2.heap.size, 0, none⟩ = false := kx.frozen 0; have M5 := Lib.hid ((M.out.drewN 1).next (c' := c') t4 p4 hb4 u4 OK1.out); have B5 := Lib.hid (u4.below (BW.out.trans (below_drewN (Below.refl _ _) 1)) (by omega)); clear t4 p4 hb4 u4 kx; unfold rv)
      all_goals
        have B5 := Lib.hid (B5.out.setCell (p := ⟨w2.heap.size, 0, none⟩) (by show w.heap.size ≤ w2.heap.size; have := M0.out.tab.lt; omega) (.slice (some ⟨b', 0, none⟩) T1.length c'))
        clear z1 r0 a0 a1 a2 a3 a4 DC
        go_wp2_with fail
        go_roundg (len - (kk + 1))
        case measure => omega
        case rel => exact ⟨kk + 1, by omega, by omega, by go_num, Lib.hid ⟨_, _, _, M5.out, GT1.out⟩, B5⟩
    · have hltz : ¬ (kk : Int) < (len : Int) := by omega
      obtain ⟨T, bt, ct, M, GT⟩ := MW.out
      have TW := Lib.hid M.tab
      have few := M.tab.few
      have GT := Lib.hid GT
      have M1 := Lib.hid M
      clear HS MW M M0 B0 G0
      clear TW GT
      obtain ⟨W1, hW1⟩ : ∃ W, W = wr := ⟨_, rfl⟩
      have W1e := Lib.hid hW1
      clear hW1
      have r0 : wr.cell? ⟨w2.heap.size, 0, none⟩ = some (.slice (some ⟨bt, 0, none⟩) T.length ct) := M1.out.box.cell 0
      have y0 : w2.heap.size < wr.heap.size := M1.out.box.lt
      go_upto_region 8 with fail
      go_cut [10, 11, 12] (fun s10 s11 s12 wx => ∃ g2 h2 c2 B2 : Nat, s10 = .pointer (some ⟨g2, 0, none⟩) ∧ s11 = .pointer (some ⟨B2, 0, none⟩) ∧ s12 = .bool true ∧ Hid (ForkSt W1 wx g h c w2.heap.size T bt ct g2 h2 c2 B2))
      case first =>
        go_region_with (go_at_call 32; (with_reducible refine (fork_c _ g h c T ?_).mono ?_); (first | exact M1.out.tab | exact (M1.out.tab.drewN 1) | exact (M1.out.tab.drewN 1).alloc _ | exact (M1.out.tab.alloc _)); rintro e w4 ⟨g2, h2, c2, rfl, hg2, hh2, t4, hb4⟩; have kx : Mid w4 g h c w2.heap.size T bt ct := (by first | exact M1.out.kept hb4 | exact (M1.out.drewN 1).kept hb4 | exact (M1.out.kept (((Below.refl _ _).drew).alloc (Nat.le_refl _) _)).kept hb4); have z0 : w4.cell? ⟨w2.heap.size, 0, none⟩ = some (.slice (some ⟨bt, 0, none⟩) T.length ct) := kx.box.cell 0; (try have z2 : w4.cell? ⟨wr.heap.size, 0, none⟩ = some (.slice none 0 0) := ((Blk.new (wr.drewN 1) 44 #[.slice none 0 0]).kept hb4).cell 0); (try have z3 : w4.frozen? ⟨wr.heap.size, 0, none⟩ = false := ((Blk.new (wr.drewN 1) 44 #[.slice none 0 0]).kept hb4).frozen 0); have y4 : w2.heap.size < w4.heap.size := kx.box.lt; (try have y5 : wr.heap.size < w4.heap.size := (by have := hb4.size; simpa using this)); have KX := Lib.hid kx; have HB4 := Lib.hid hb4; have T4 := Lib.hid t4; have s4 := hb4.size; clear kx hb4 t4)
        all_goals (go_wp2_with fail; go_meet)
        all_goals rw [W1e.out]
        all_goals first
          | exact ⟨g2, h2, c2, w4.heap.size, rfl, rfl, rfl, Lib.hid (forkA M1.out (((Below.refl _ _).drew).trans HB4.out) T4.out hg2 hh2)⟩
          | exact ⟨g2, h2, c2, wr.heap.size, rfl, rfl, rfl, Lib.hid (forkB M1.out (((Below.refl _ _).drew).trans (by have := HB4.out; simpa using this)) T4.out (by simpa using hg2) (by simpa using hh2))⟩
      case rest =>
      obtain ⟨g2, h2, c2, B2, rfl, rfl, rfl, FS⟩ := hcut
      rw [W1e.out] at FS
      have D2 : Hid ((g ≠ h2 ∧ h ≠ h2 ∧ bt ≠ h2 ∧ w2.heap.size ≠ h2) ∧ (g ≠ B2 ∧ h ≠ B2 ∧ bt ≠ B2 ∧ w2.heap.size ≠ B2)) := Lib.hid (by
        have q1 := M1.out.tab.lt
        have q2 := M1.out.tab.pgs.lt
        have q3 := M1.out.pgs.lt
        have q4 := M1.out.box.lt
        have q5 := FS.out.fh
        have q6 := FS.out.fB
        exact ⟨⟨by omega, by omega, by omega, by omega⟩, ⟨by omega, by omega, by omega, by omega⟩⟩)
      have MO := Lib.hid FS.out.old
      have MN := Lib.hid FS.out.new_
      have s9 := BW.out.size
      have BN := Lib.hid (BW.out.trans (FS.out.below.mono s9))
      have fB2 : w.heap.size ≤ B2 := Nat.le_trans s9 FS.out.fB
      have fh2 : w.heap.size ≤ h2 := Nat.le_trans s9 FS.out.fh
      clear FS BW M1 W1e r0 y0 GT hlt hltz hkk hg s9
      go_wp2_with fail
      go_loopg [12, 13] len2 (fun gg s12 s13 wx => ∃ kk : Nat, kk ≤ len2 ∧ len2 - kk ≤ gg ∧ s12 = .bool true ∧ s13 = .int .i64 (kk : Int) ∧ Hid (∃ T b cb, Mid wx g2 h2 c2 B2 T b cb) ∧ Hid (Mid wx g h c w2.heap.size T bt ct) ∧ Hid (Below w.heap.size w wx))
      case atStart => exact ⟨0, Nat.zero_le _, by omega, rfl, rfl, Lib.hid ⟨_, _, _, MN.out⟩, MO, BN⟩
      case round =>
        obtain ⟨kk, hkk, hg, rfl, rfl, MW, MP, BW⟩ := hrel
        by_cases hlt : kk < len2
        · have hltz : (kk : Int) < (len2 : Int) := by omega
          obtain ⟨T2, b2, ct2, M⟩ := MW.out
          have M := Lib.hid M
          obtain ⟨ba, oa, rfl, hba, k, fr, n, ow, ep, AC⟩ := HS2.out kk hlt
          have r0 : wr.cell? ⟨B2, 0, none⟩ = some (.slice (some ⟨b2, 0, none⟩) T2.length ct2) := M.out.box.cell 0
          have a0 := (BW.out.cell (p := ⟨ba, oa + kk * 5, none⟩) hba).trans AC.c0
          have a1 := (BW.out.cell (p := ⟨ba, oa + kk * 5 + 1, none⟩) hba).trans AC.c1
          have a2 := (BW.out.cell (p := ⟨ba, oa + kk * 5 + 2, none⟩) hba).trans AC.c2
          have a3 := (BW.out.cell (p := ⟨ba, oa + kk * 5 + 3, none⟩) hba).trans AC.c3
          have a4 := (BW.out.cell (p := ⟨ba, oa + kk * 5 + 4, none⟩) hba).trans AC.c4
          have OK1 := Lib.hid (ok_step T2 ⟨k, fr, n, ow, ep⟩ M.out.ok)
          have DC : ∀ W, Mid W g2 h2 c2 B2 T2 b2 ct2 → Calls Try.prog 30 #[.pointer (some ⟨g2, 0, none⟩), .agg #[.slice (some ⟨b2, 0, none⟩) T2.length ct2], .agg #[.int .u8 (k : Int), .int .i64 fr, .int .i64 n, .int .u16 (ow : Int), .int .u64 (ep : Int)]] W fun e w' => DoP W g2 h2 c2 b2 (stepM T2 ⟨k, fr, n, ow, ep⟩).1 e w' := fun W m =>
            do_c W g2 h2 c2 b2 ct2 T2 m.tab m.pgs m.bh m.ok ⟨k, fr, n, ow, ep⟩
          have DC := Lib.hid DC
          generalize (stepM T2 ⟨k, fr, n, ow, ep⟩).1 = T1 at DC OK1
          clear AC MW
          go_wp2_with fail
          go_region_with (go_at_call 30; (with_reducible refine (DC.out _ ?_).mono ?_); (first | exact M.out | exact M.out.drewN 1); rintro e w4 ⟨b', c', rfl, t4, p4, hb4, u4⟩; have kx := (u4.blk M.out.box (fun e => M.out.hB e.symm)); have z0 : w4.cell? ⟨B2, 0, none⟩ = some (.slice (some ⟨b2, 0, none⟩) T2.length ct2) := kx.cell 0; have z1 : w4.frozen? ⟨B2, 0, none⟩ = false := kx.frozen 0; have M5 := Lib.hid ((M.out.drewN 1).next (c' := c') t4 p4 hb4 u4 OK1.out); have B5 := Lib.hid (u4.below (BW.out.trans (below_drewN (Below.refl _ _) 1)) fh2); have MP5 := Lib.hid (fun v => (MP.out.drewN 1).upd2 (B2 := B2) u4 v D2.out); clear t4 p4 hb4 u4 kx; unfold rv)
          all_goals
            have B5 := Lib.hid (B5.out.setCell (p := ⟨B2, 0, none⟩) fB2 (.slice (some ⟨b', 0, none⟩) T1.length c'))
            clear z1 r0 a0 a1 a2 a3 a4 DC
            go_wp2_with fail
            go_roundg (len2 - (kk + 1))
            case measure => omega
            case rel => exact ⟨kk + 1, by omega, by omega, rfl, by go_num, Lib.hid ⟨_, _, _, M5.out⟩, Lib.hid (MP5.out _), B5⟩
        · have hltz : ¬ (kk : Int) < (len2 : Int) := by omega
          obtain ⟨T2, b2, ct2, M⟩ := MW.out
          have M := Lib.hid M
          have HE := fun W => P1.eqPg W 0 false false 0 0 0 false false 0 0
          simp only [show P1.eqP 0 false false 0 0 0 false false 0 0 = true from rfl] at HE
          have GN : ∀ W, Calls Try.prog 27 #[.pointer none, .int .i64 0] W fun e w' => e = .returned (.agg #[.int .u8 0, .bool false, .bool false, .int .u16 0, .int .u64 0]) ∧ Below W.heap.size W w' := fun W => get_nil W 0
          have GN := Lib.hid GN
          clear HS2 MW
          go_wp2_with fail
          refine (len_nil_c _).mono ?_
          rintro e w5 ⟨rfl, rfl⟩
          go_wp2_with fail
          refine (GN.out _).mono ?_
          rintro e x1 ⟨rfl, hb_x1⟩
          have M_x1 := Lib.hid (M.out.kept hb_x1)
          have P_x1 := Lib.hid (MP.out.kept hb_x1)
          have B_x1 := Lib.hid (BW.out.trans (hb_x1.mono BW.out.size))
          clear hb_x1
          go_wp2_with fail
          refine (used_nil _).mono ?_
          rintro e x2 ⟨rfl, hb_x2⟩
          have M_x2 := Lib.hid (M_x1.out.kept hb_x2)
          have P_x2 := Lib.hid (P_x1.out.kept hb_x2)
          have B_x2 := Lib.hid (B_x1.out.trans (hb_x2.mono B_x1.out.size))
          clear hb_x2
          go_wp2_with fail
          refine (fork_nil _).mono ?_
          rintro e x3 ⟨rfl, hb_x3⟩
          have M_x3 := Lib.hid (M_x2.out.kept hb_x3)
          have P_x3 := Lib.hid (P_x2.out.kept hb_x3)
          have B_x3 := Lib.hid (B_x2.out.trans (hb_x3.mono B_x2.out.size))
          clear hb_x3
          go_wp2_with fail
          refine (stage_nil _ (.int .i64 0) (.int .i64 1) 1).mono ?_
          rintro e x4 ⟨rfl, hb_x4⟩
          have M_x4 := Lib.hid (M_x3.out.kept hb_x4)
          have P_x4 := Lib.hid (P_x3.out.kept hb_x4)
          have B_x4 := Lib.hid (B_x3.out.trans (hb_x4.mono B_x3.out.size))
          clear hb_x4
          go_wp2_with fail
          refine (pub_nil _ (.int .u16 1) 0).mono ?_
          rintro e x5 ⟨rfl, hb_x5⟩
          have M_x5 := Lib.hid (M_x4.out.kept hb_x5)
          have P_x5 := Lib.hid (P_x4.out.kept hb_x5)
          have B_x5 := Lib.hid (B_x4.out.trans (hb_x5.mono B_x4.out.size))
          clear hb_x5
          go_wp2_with fail
          refine (ret_nil _ (.int .u16 1) 1).mono ?_
          rintro e x6 ⟨rfl, hb_x6⟩
          have M_x6 := Lib.hid (M_x5.out.kept hb_x6)
          have P_x6 := Lib.hid (P_x5.out.kept hb_x6)
          have B_x6 := Lib.hid (B_x5.out.trans (hb_x6.mono B_x5.out.size))
          clear hb_x6
          go_wp2_with fail
          refine (rel_nil _ (.int .u16 1)).mono ?_
          rintro e x7 ⟨rfl, hb_x7⟩
          have M_x7 := Lib.hid (M_x6.out.kept hb_x7)
          have P_x7 := Lib.hid (P_x6.out.kept hb_x7)
          have B_x7 := Lib.hid (B_x6.out.trans (hb_x7.mono B_x6.out.size))
          clear hb_x7
          have y1 : x7.cell? ⟨B2, 0, none⟩ = some (.slice (some ⟨b2, 0, none⟩) T2.length ct2) := M_x7.out.box.cell 0
          go_wp2_with fail
          refine (same_c x7 g2 h2 c2 b2 ct2 T2 M_x7.out.tab M_x7.out.pgs).mono ?_
          rintro e x8 ⟨rfl, hb_x8⟩
          have M_x8 := Lib.hid (M_x7.out.kept hb_x8)
          have P_x8 := Lib.hid (P_x7.out.kept hb_x8)
          have B_x8 := Lib.hid (B_x7.out.trans (hb_x8.mono B_x7.out.size))
          clear hb_x8
          have y2 : x8.cell? ⟨w2.heap.size, 0, none⟩ = some (.slice (some ⟨bt, 0, none⟩) T.length ct) := P_x8.out.box.cell 0
          go_wp2_with fail
          refine (same_c x8 g h c bt ct T P_x8.out.tab P_x8.out.pgs).mono ?_
          rintro e x9 ⟨rfl, hb_x9⟩
          have M_x9 := Lib.hid (M_x8.out.kept hb_x9)
          have P_x9 := Lib.hid (P_x8.out.kept hb_x9)
          have B_x9 := Lib.hid (B_x8.out.trans (hb_x9.mono B_x8.out.size))
          clear hb_x9
          go_wp2_with fail
          refine (awake06_c _).mono ?_
          rintro e y9 ⟨rfl, hb_y9⟩
          have M_y9 := Lib.hid (M_x9.out.kept hb_y9)
          have P_y9 := Lib.hid (P_x9.out.kept hb_y9)
          have B_y9 := Lib.hid (B_x9.out.trans (hb_y9.mono B_x9.out.size))
          clear hb_y9
          go_wp2_with fail
          go_ret
          exact ⟨rfl, B_y9.out⟩
end Go.Proofs.Ytjjcmclnjeplkaa.PM
