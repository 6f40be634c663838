/- PageRuns walked. Conditions: the calls' cells. -/
import Derived.Test.YtjjcmclnjeplkaaLawC5
import Derived.Test.YtjjcmclnjeplkaaLawC6
namespace Go.Proofs.Ytjjcmclnjeplkaa.PM
set_option linter.unusedVariables false
open Go.RowKit Go.Proofs.Ytjjcmclnjeplkaa.Frame
set_option maxRecDepth 100000 in
set_option maxHeartbeats 16000000 in
theorem law_runs (nn : Nat) (src : Option Addr) (len cap : Nat) (w : World) (hnn : nn < 256) (hs : Acts w src len) :
    Calls Try.prog 5 #[.int .u8 (nn : Int), .slice src len cap] w fun e w' => e = .returned (.bool true) ∧ Below w.heap.size w w' := by
  by_cases h100 : 60 < len
  · have hz : (60 : Int) < (len : Int) := by omega
    clear hs
    go_enter Try.func5, Try.ntmps5
    go_wp2_with fail
    refine (awake06_c _).mono ?_
    rintro e w1 ⟨rfl, hb⟩
    go_wp2_with fail
    go_ret
    exact ⟨rfl, hb⟩
  have hz : ¬ (60 : Int) < (len : Int) := by omega
  have HS := Lib.hid hs
  clear hs h100
  go_enter Try.func5, Try.ntmps5
  go_wp2_with fail
  refine (new_c w (nn : Int)).mono ?_
  rintro e w1 ⟨g, h, c, rfl, hg, hh, t, hb1⟩
  have HT := Lib.hid (And.intro t hb1)
  have hl1 := t.pgs.lt
  have hl2 := t.lt
  clear t hb1
  go_wp2_with fail
  refine (rnew_c w1 (nn : Int)).mono ?_
  rintro e w2 ⟨b, cb, rfl, hbb, hp, hb2⟩
  have hbl := hp.lt
  have M0 : Hid (Mid (w2.alloc (.cells #[.slice (some ⟨b, 0, none⟩) (List.replicate (newLen (nn : Int)) nz).length cb] 44)) g h c w2.heap.size (List.replicate (newLen (nn : Int)) nz) b cb) := Lib.hid
    ⟨(HT.out.1.kept hb2).alloc _, hp.alloc _, by omega, by omega, by have := hb2.size; omega, by have := hb2.size; omega, ok_new _, Blk.new _ _ _⟩
  have B0 := Lib.hid ((HT.out.2.trans (hb2.mono HT.out.2.size)).alloc (by have := hb2.size; have := HT.out.2.size; omega) (.cells #[.slice (some ⟨b, 0, none⟩) (List.replicate (newLen (nn : Int)) nz).length cb] 44))
  have G0 := Lib.hid (runs_new (newLen (nn : Int)))
  generalize List.replicate (newLen (nn : Int)) nz = T0 at M0 B0 G0 ⊢
  clear hb2 hp HT
  unfold rv
  go_wp2_with fail
  go_loopg [7] len (fun gg s7 wr => ∃ kk : Nat, kk ≤ len ∧ len - kk ≤ gg ∧ s7 = .int .i64 (kk : Int) ∧ Hid (∃ T b cb, Mid wr g h c w2.heap.size T b cb ∧ Runs T) ∧ Hid (Below w.heap.size w wr))
  case atStart => exact ⟨0, Nat.zero_le _, by omega, rfl, Lib.hid ⟨_, _, _, M0.out, G0.out⟩, B0⟩
  case round =>
    obtain ⟨kk, hkk, hg, rfl, MW, BW⟩ := hrel
    by_cases hlt : kk < len
    · have hltz : (kk : Int) < (len : Int) := by omega
      obtain ⟨T, bt, ct, M, GT⟩ := MW.out
      have M := Lib.hid M
      obtain ⟨ba, oa, rfl, hba, k, fr, n, ow, ep, AC⟩ := HS.out kk hlt
      have r0 : wr.cell? ⟨w2.heap.size, 0, none⟩ = some (.slice (some ⟨bt, 0, none⟩) T.length ct) := M.out.box.cell 0
      have a0 := (BW.out.cell (p := ⟨ba, oa + kk * 5, none⟩) hba).trans AC.c0
      have a1 := (BW.out.cell (p := ⟨ba, oa + kk * 5 + 1, none⟩) hba).trans AC.c1
      have a2 := (BW.out.cell (p := ⟨ba, oa + kk * 5 + 2, none⟩) hba).trans AC.c2
      have a3 := (BW.out.cell (p := ⟨ba, oa + kk * 5 + 3, none⟩) hba).trans AC.c3
      have a4 := (BW.out.cell (p := ⟨ba, oa + kk * 5 + 4, none⟩) hba).trans AC.c4
      have OK1 := Lib.hid (ok_step T ⟨k, fr, n, ow, ep⟩ M.out.ok)
      have GT1 := Lib.hid (runs_step T ⟨k, fr, n, ow, ep⟩ GT)
      have DC : ∀ W, Mid W g h c w2.heap.size T bt ct → Calls Try.prog 30 #[.pointer (some ⟨g, 0, none⟩), .agg #[.slice (some ⟨bt, 0, none⟩) T.length ct], .agg #[.int .u8 (k : Int), .int .i64 fr, .int .i64 n, .int .u16 (ow : Int), .int .u64 (ep : Int)]] W fun e w' => DoP W g h c bt (stepM T ⟨k, fr, n, ow, ep⟩).1 e w' := fun W m =>
        do_c W g h c bt ct T m.tab m.pgs m.bh m.ok ⟨k, fr, n, ow, ep⟩
      have DC := Lib.hid DC
      generalize (stepM T ⟨k, fr, n, ow, ep⟩).1 = T1 at DC OK1 GT1
      clear AC MW GT
      go_wp2_with fail
      go_region_with (go_at_call 30; (with_reducible refine (DC.out _ ?_).mono ?_); (first | exact M.out | exact M.out.drewN 1); rintro e w4 ⟨b', c', rfl, t4, p4, hb4, u4⟩; have kx := (u4.blk M.out.box (fun e => M.out.hB e.symm)); have z0 : w4.cell? ⟨w2.heap.size, 0, none⟩ = some (.slice (some ⟨bt, 0, none⟩) T.length ct) := kx.cell 0; have z1 : w4.frozen? ⟨w2.heap.size, 0, none⟩ = false := kx.frozen 0; have M5 := Lib.hid ((M.out.drewN 1).next (c' := c') t4 p4 hb4 u4 OK1.out); have B5 := Lib.hid (u4.below (BW.out.trans (below_drewN (Below.refl _ _) 1)) (by omega)); clear t4 p4 hb4 u4 kx; unfold rv)
      all_goals
        have B5 := Lib.hid (B5.out.setCell (p := ⟨w2.heap.size, 0, none⟩) (by show w.heap.size ≤ w2.heap.size; have := M0.out.tab.lt; omega) (.slice (some ⟨b', 0, none⟩) T1.length c'))
        clear z1 r0 a0 a1 a2 a3 a4 DC
        go_wp2_with fail
        go_roundg (len - (kk + 1))
        case measure => omega
        case rel => exact ⟨kk + 1, by omega, by omega, by go_num, Lib.hid ⟨_, _, _, M5.out, GT1.out⟩, B5⟩
    · have hltz : ¬ (kk : Int) < (len : Int) := by omega
      obtain ⟨T, bt, ct, M, GT⟩ := MW.out
      have TW := Lib.hid M.tab
      have few := M.tab.few
      have GT := Lib.hid GT
      clear HS MW M M0 B0 G0
      obtain ⟨W1, hW1⟩ : ∃ W, W = wr := ⟨_, rfl⟩
      have B1 : Hid (Below W1.heap.size W1 wr) := Lib.hid (hW1 ▸ Below.refl _ _)
      have TW : Hid (Tab W1 g h c T) := Lib.hid (hW1 ▸ TW.out)
      have BW : Hid (Below w.heap.size w W1) := Lib.hid (hW1 ▸ BW.out)
      clear hW1
      go_wp2_with fail
      go_loopg [8] T.length (fun gg s8 wx => ∃ kk : Nat, kk ≤ T.length ∧ T.length - kk ≤ gg ∧ s8 = .int .i64 ((kk + 1 : Nat) : Int) ∧ Hid (Below W1.heap.size W1 wx))
      case atStart => exact ⟨0, Nat.zero_le _, by omega, rfl, B1⟩
      case round =>
        obtain ⟨kk, hkk, hg, rfl, B2⟩ := hrel
        have TK := Lib.hid (TW.out.kept B2.out)
        by_cases hlt : kk + 1 < T.length
        · have hltz : ((kk + 1 : Nat) : Int) < (T.length : Int) := by omega
          have hltz2 : (kk : Int) + 1 < (T.length : Int) := by omega
          have RK := GT.out kk
          have GP := get_c wr g h c T TK.out (kk : Int)
          have GQ := fun W (hq : Tab W g h c T) => get_c W g h c T hq ((kk : Int) + 1)
          rw [getP_in T kk (by omega)] at GP
          rw [show ((kk : Int) + 1) = ((kk + 1 : Nat) : Int) by omega] at GQ
          rw [getP_in T (kk + 1) hlt] at GQ
          rw [show (((kk + 1 : Nat)) : Int) = (kk : Int) + 1 by omega] at GQ
          generalize T[kk + 1]! = q at RK GQ
          generalize T[kk]! = p at RK GP
          obtain ⟨ps, px, pw, po, pe⟩ := p
          obtain ⟨qs, qx, qw, qo, qe⟩ := q
          simp only at RK
          have RK := Lib.hid RK
          have GP : Hid (Calls Try.prog 27 #[.pointer (some ⟨g, 0, none⟩), .int .i64 (kk : Int)] wr fun e w' => e = .returned (.agg #[.int .u8 (ps : Int), .bool px, .bool pw, .int .u16 (po : Int), .int .u64 (pe : Int)]) ∧ Below wr.heap.size wr w') := Lib.hid GP
          have GQ : Hid (∀ W, Tab W g h c T → Calls Try.prog 27 #[.pointer (some ⟨g, 0, none⟩), .int .i64 ((kk : Int) + 1)] W fun e w' => e = .returned (.agg #[.int .u8 (qs : Int), .bool qx, .bool qw, .int .u16 (qo : Int), .int .u64 (qe : Int)]) ∧ Below W.heap.size W w') := Lib.hid GQ
          go_wp2_with fail
          refine (len_c wr g h c T TK.out).mono ?_
          rintro e w3 ⟨rfl, rfl⟩
          go_wp2_with fail
          refine GP.out.mono ?_
          rintro e w4 ⟨rfl, hb4⟩
          have B4 := Lib.hid (B2.out.trans (hb4.mono B2.out.size))
          have T4 := Lib.hid (TK.out.kept hb4)
          clear hb4
          go_wp2_with fail
          refine (GQ.out _ T4.out).mono ?_
          rintro e w5 ⟨rfl, hb5⟩
          have B5 := Lib.hid (B4.out.trans (hb5.mono B4.out.size))
          have T5 := Lib.hid (T4.out.kept hb5)
          clear hb5
          have B6 := Lib.hid ((B5.out.alloc (B5.out.size) (.cells #[.int .u8 (ps : Int), .bool px, .bool pw, .int .u16 (po : Int), .int .u64 (pe : Int)] 26)).alloc (by have := B5.out.size; simp; omega) (.cells #[.int .u8 (qs : Int), .bool qx, .bool qw, .int .u16 (qo : Int), .int .u64 (qe : Int)] 26))
          have T6 := Lib.hid ((T5.out.alloc (.cells #[.int .u8 (ps : Int), .bool px, .bool pw, .int .u16 (po : Int), .int .u64 (pe : Int)] 26)).alloc (.cells #[.int .u8 (qs : Int), .bool qx, .bool qw, .int .u16 (qo : Int), .int .u64 (qe : Int)] 26))
          have PB := Lib.hid ((Blk.new w5 26 #[.int .u8 (ps : Int), .bool px, .bool pw, .int .u16 (po : Int), .int .u64 (pe : Int)]).alloc (.cells #[.int .u8 (qs : Int), .bool qx, .bool qw, .int .u16 (qo : Int), .int .u64 (qe : Int)] 26))
          have QB : Hid (Blk ((w5.alloc (.cells #[.int .u8 (ps : Int), .bool px, .bool pw, .int .u16 (po : Int), .int .u64 (pe : Int)] 26)).alloc (.cells #[.int .u8 (qs : Int), .bool qx, .bool qw, .int .u16 (qo : Int), .int .u64 (qe : Int)] 26)) (w5.heap.size + 1) 26 #[.int .u8 (qs : Int), .bool qx, .bool qw, .int .u16 (qo : Int), .int .u64 (qe : Int)]) := Lib.hid (by
            have := Blk.new (w5.alloc (.cells #[.int .u8 (ps : Int), .bool px, .bool pw, .int .u16 (po : Int), .int .u64 (pe : Int)] 26)) 26 #[.int .u8 (qs : Int), .bool qx, .bool qw, .int .u16 (qo : Int), .int .u64 (qe : Int)]
            simpa using this)
          cases p0 : ((ps : Int) == 0) with
          | true =>
            go_wp2_with fail
            go_roundg (T.length - (kk + 1))
            case measure => omega
            case rel => exact ⟨kk + 1, by omega, by omega, by go_num, Lib.hid B6.out⟩
          | false =>
            have hps : ps ≠ 0 := by intro h; rw [h] at p0; simp at p0
            have HP0 := Lib.hid hps
            clear hps
            go_wp2_with fail
            go_loopg [11] T.length (fun gg s11 wx => ∃ jj : Nat, kk + 1 ≤ jj ∧ jj ≤ T.length ∧ T.length - jj ≤ gg ∧ s11 = .int .i64 (jj : Int) ∧ Hid (Below ((w5.alloc (.cells #[.int .u8 (ps : Int), .bool px, .bool pw, .int .u16 (po : Int), .int .u64 (pe : Int)] 26)).alloc (.cells #[.int .u8 (qs : Int), .bool qx, .bool qw, .int .u16 (qo : Int), .int .u64 (qe : Int)] 26)).heap.size ((w5.alloc (.cells #[.int .u8 (ps : Int), .bool px, .bool pw, .int .u16 (po : Int), .int .u64 (pe : Int)] 26)).alloc (.cells #[.int .u8 (qs : Int), .bool qx, .bool qw, .int .u16 (qo : Int), .int .u64 (qe : Int)] 26)) wx))
            case atStart => exact ⟨kk + 1, Nat.le_refl _, by omega, by omega, by go_num, Lib.hid (Below.refl _ _)⟩
            case round =>
              obtain ⟨jj, hj1, hj2, hgj, rfl, B7⟩ := hrel
              have T7 := Lib.hid (T6.out.kept B7.out)
              have B8 := Lib.hid (B6.out.trans (B7.out.mono B6.out.size))
              by_cases hlj : jj < T.length
              · have hljz : (jj : Int) < (T.length : Int) := by omega
                have GX := get_c wr g h c T T7.out (jj : Int)
                rw [getP_in T jj hlj] at GX
                have RX := RK.out jj (by omega) hlj
                generalize T[jj]! = x at GX RX
                obtain ⟨xs, xx, xw, xo, xe⟩ := x
                simp only at RX
                have RX := Lib.hid RX
                have GX : Hid (Calls Try.prog 27 #[.pointer (some ⟨g, 0, none⟩), .int .i64 (jj : Int)] wr fun e w' => e = .returned (.agg #[.int .u8 (xs : Int), .bool xx, .bool xw, .int .u16 (xo : Int), .int .u64 (xe : Int)]) ∧ Below wr.heap.size wr w') := Lib.hid GX
                go_wp2_with fail
                refine (len_c wr g h c T T7.out).mono ?_
                rintro e w8 ⟨rfl, rfl⟩
                go_wp2_with fail
                refine GX.out.mono ?_
                rintro e w8 ⟨rfl, hb8⟩
                have B9 := Lib.hid ((B7.out.trans (hb8.mono B7.out.size)).alloc (by have := B7.out.size; have := hb8.size; omega) (.cells #[.int .u8 (xs : Int), .bool xx, .bool xw, .int .u16 (xo : Int), .int .u64 (xe : Int)] 26))
                obtain ⟨p0_, p1_, p2_, p3_, p4_⟩ := ((PB.out.kept B7.out).kept hb8).five
                obtain ⟨q0_, q1_, q2_, q3_, q4_⟩ := ((QB.out.kept B7.out).kept hb8).five
                have z8 : w5.heap.size < w8.heap.size := ((PB.out.kept B7.out).kept hb8).lt
                have z9 : w5.heap.size + 1 < w8.heap.size := ((QB.out.kept B7.out).kept hb8).lt
                clear hb8
                cases x0 : ((xs : Int) == 0) with
                | true =>
                  go_wp2_with fail
                  go_roundg (T.length - (jj + 1))
                  case measure => omega
                  case rel => exact ⟨jj + 1, by omega, by omega, by omega, by go_num, Lib.hid B9.out⟩
                | false =>
                  cases xo_ : ((xo : Int) != (po : Int)) with
                  | true =>
                    go_wp2_with fail
                    go_roundg (T.length - (jj + 1))
                    case measure => omega
                    case rel => exact ⟨jj + 1, by omega, by omega, by omega, by go_num, Lib.hid B9.out⟩
                  | false =>
                    have hxs : xs ≠ 0 := by intro h; rw [h] at x0; simp at x0
                    have hxo : po = xo := by simp at xo_; omega
                    obtain ⟨r1, r2, r3, r4, r5⟩ := RX.out HP0.out hxs hxo
                    have f1 : ((qs : Int) == 0) = false := by simp; omega
                    have f2 : ((qo : Int) != (po : Int)) = false := by simp; omega
                    have f3 : ((xs : Int) != (ps : Int)) = false := by simp; omega
                    have f4 : ((xe : Int) != (pe : Int)) = false := by simp; omega
                    have R3 := Lib.hid r3
                    clear r1 r2 r3 r4 r5 hxs hxo
                    cases xx with
                    | false =>
                      go_wp2_with fail
                      go_roundg (T.length - (jj + 1))
                      case measure => omega
                      case rel => exact ⟨jj + 1, by omega, by omega, by omega, by go_num, Lib.hid B9.out⟩
                    | true =>
                      have hpx := R3.out rfl
                      subst hpx
                      go_wp2_with fail
                      go_roundg (T.length - (jj + 1))
                      case measure => omega
                      case rel => exact ⟨jj + 1, by omega, by omega, by omega, by go_num, Lib.hid B9.out⟩
              · have hljz : ¬ (jj : Int) < (T.length : Int) := by omega
                go_wp2_with fail
                refine (len_c wr g h c T T7.out).mono ?_
                rintro e w8 ⟨rfl, rfl⟩
                go_wp2_with fail
                go_roundg (T.length - (kk + 1))
                case measure => omega
                case rel => exact ⟨kk + 1, by omega, by omega, by go_num, Lib.hid B8.out⟩
        · have hltz : ¬ ((kk + 1 : Nat) : Int) < (T.length : Int) := by omega
          have hltz2 : ¬ (kk : Int) + 1 < (T.length : Int) := by omega
          go_wp2_with fail
          refine (len_c wr g h c T TK.out).mono ?_
          rintro e w3 ⟨rfl, rfl⟩
          go_wp2_with fail
          refine (awake06_c _).mono ?_
          rintro e w6 ⟨rfl, hb6⟩
          have B9 := Lib.hid ((BW.out.trans (B2.out.mono BW.out.size)).trans (hb6.mono (by have := BW.out.size; have := B2.out.size; omega)))
          clear hb6
          go_wp2_with fail
          go_ret
          exact ⟨rfl, B9.out⟩
end Go.Proofs.Ytjjcmclnjeplkaa.PM
