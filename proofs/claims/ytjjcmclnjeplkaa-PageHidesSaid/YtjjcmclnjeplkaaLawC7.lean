/- PageHides walked. Conditions: the calls' cells. -/
import Derived.Test.YtjjcmclnjeplkaaLawC5
import Derived.Test.YtjjcmclnjeplkaaLawC6
namespace Go.Proofs.Ytjjcmclnjeplkaa.PM
set_option linter.unusedVariables false
open Go.RowKit Go.Proofs.Ytjjcmclnjeplkaa.Frame
set_option maxRecDepth 100000 in
set_option maxHeartbeats 16000000 in
theorem law_hides (nn : Nat) (src : Option Addr) (len cap : Nat) (epoch : Nat) (w : World) (hnn : nn < 256) (hs : Acts w src len) :
    Calls Try.prog 6 #[.int .u8 (nn : Int), .slice src len cap, .int .u64 (epoch : Int)] w fun e w' => e = .returned (.bool true) ∧ Below w.heap.size w w' := by
  by_cases h100 : 60 < len
  · have hz : (60 : Int) < (len : Int) := by omega
    clear hs
    go_enter Try.func6, Try.ntmps6
    go_wp2_with fail
    refine (awake06_c _).mono ?_
    rintro e w1 ⟨rfl, hb⟩
    go_wp2_with fail
    go_ret
    exact ⟨rfl, hb⟩
  have hz : ¬ (60 : Int) < (len : Int) := by omega
  have HS := Lib.hid hs
  clear hs h100
  go_enter Try.func6, Try.ntmps6
  go_wp2_with fail
  refine (new_c w (nn : Int)).mono ?_
  rintro e w1 ⟨g, h, c, rfl, hg, hh, t, hb1⟩
  have HT := Lib.hid (And.intro t hb1)
  have hl1 := t.pgs.lt
  have hl2 := t.lt
  clear t hb1
  go_wp2_with fail
  refine (rnew_c w1 (nn : Int)).mono ?_
  rintro e w2 ⟨b, cb, rfl, hbb, hp, hb2⟩
  have hbl := hp.lt
  have M0 : Hid (Mid (w2.alloc (.cells #[.slice (some ⟨b, 0, none⟩) (List.replicate (newLen (nn : Int)) nz).length cb] 44)) g h c w2.heap.size (List.replicate (newLen (nn : Int)) nz) b cb) := Lib.hid
    ⟨(HT.out.1.kept hb2).alloc _, hp.alloc _, by omega, by omega, by have := hb2.size; omega, by have := hb2.size; omega, ok_new _, Blk.new _ _ _⟩
  have B0 := Lib.hid ((HT.out.2.trans (hb2.mono HT.out.2.size)).alloc (by have := hb2.size; have := HT.out.2.size; omega) (.cells #[.slice (some ⟨b, 0, none⟩) (List.replicate (newLen (nn : Int)) nz).length cb] 44))
  have G0 := Lib.hid (noxw_new (newLen (nn : Int)))
  generalize List.replicate (newLen (nn : Int)) nz = T0 at M0 B0 G0 ⊢
  clear hb2 hp HT
  unfold rv
  go_wp2_with fail
  go_loopg [9] len (fun gg s7 wr => ∃ kk : Nat, kk ≤ len ∧ len - kk ≤ gg ∧ s7 = .int .i64 (kk : Int) ∧ Hid (∃ T b cb, Mid wr g h c w2.heap.size T b cb ∧ NoXW T) ∧ Hid (Below w.heap.size w wr))
  case atStart => exact ⟨0, Nat.zero_le _, by omega, rfl, Lib.hid ⟨_, _, _, M0.out, G0.out⟩, B0⟩
  case round =>
    obtain ⟨kk, hkk, hg, rfl, MW, BW⟩ := hrel
    by_cases hlt : kk < len
    · have hltz : (kk : Int) < (len : Int) := by omega
      obtain ⟨T, bt, ct, M, GT⟩ := MW.out
      have M := Lib.hid M
      obtain ⟨ba, oa, rfl, hba, k, fr, n, ow, ep, AC⟩ := HS.out kk hlt
      have r0 : wr.cell? ⟨w2.heap.size, 0, none⟩ = some (.slice (some ⟨bt, 0, none⟩) T.length ct) := M.out.box.cell 0
      have a0 := (BW.out.cell (p := ⟨ba, oa + kk * 5, none⟩) hba).trans AC.c0
      have a1 := (BW.out.cell (p := ⟨ba, oa + kk * 5 + 1, none⟩) hba).trans AC.c1
      have a2 := (BW.out.cell (p := ⟨ba, oa + kk * 5 + 2, none⟩) hba).trans AC.c2
      have a3 := (BW.out.cell (p := ⟨ba, oa + kk * 5 + 3, none⟩) hba).trans AC.c3
      have a4 := (BW.out.cell (p := ⟨ba, oa + kk * 5 + 4, none⟩) hba).trans AC.c4
      have OK1 := Lib.hid (ok_step T ⟨k, fr, n, ow, ep⟩ M.out.ok)
      have GT1 := Lib.hid (noxw_step T ⟨k, fr, n, ow, ep⟩ GT)
      have DC : ∀ W, Mid W g h c w2.heap.size T bt ct → Calls Try.prog 30 #[.pointer (some ⟨g, 0, none⟩), .agg #[.slice (some ⟨bt, 0, none⟩) T.length ct], .agg #[.int .u8 (k : Int), .int .i64 fr, .int .i64 n, .int .u16 (ow : Int), .int .u64 (ep : Int)]] W fun e w' => DoP W g h c bt (stepM T ⟨k, fr, n, ow, ep⟩).1 e w' := fun W m =>
        do_c W g h c bt ct T m.tab m.pgs m.bh m.ok ⟨k, fr, n, ow, ep⟩
      have DC := Lib.hid DC
      generalize (stepM T ⟨k, fr, n, ow, ep⟩).1 = T1 at DC OK1 GT1
      clear AC MW GT
      go_wp2_with fail
      go_region_with (go_at_call 30; (with_reducible refine (DC.out _ ?_).mono ?_); (first | exact M.out | exact M.out.drewN 1); rintro e w4 ⟨b', c', rfl, t4, p4, hb4, u4⟩; have kx := (u4.blk M.out.box (fun e => M.out.hB e.symm)); have z0 : w4.cell? ⟨w2.heap.size, 0, none⟩ = some (.slice (some ⟨bt, 0, none⟩) T.length ct) := kx.cell 0; have z1 : w4.frozen? ⟨w2.heap.size, 0, none⟩ = false := kx.frozen 0; have M5 := Lib.hid ((M.out.drewN 1).next (c' := c') t4 p4 hb4 u4 OK1.out); have B5 := Lib.hid (u4.below (BW.out.trans (below_drewN (Below.refl _ _) 1)) (by omega)); clear t4 p4 hb4 u4 kx; unfold rv)
      all_goals
        have B5 := Lib.hid (B5.out.setCell (p := ⟨w2.heap.size, 0, none⟩) (by show w.heap.size ≤ w2.heap.size; have := M0.out.tab.lt; omega) (.slice (some ⟨b', 0, none⟩) T1.length c'))
        clear z1 r0 a0 a1 a2 a3 a4 DC
        go_wp2_with fail
        go_roundg (len - (kk + 1))
        case measure => omega
        case rel => exact ⟨kk + 1, by omega, by omega, by go_num, Lib.hid ⟨_, _, _, M5.out, GT1.out⟩, B5⟩
    · have hltz : ¬ (kk : Int) < (len : Int) := by omega
      obtain ⟨T, bt, ct, M, GT⟩ := MW.out
      have TW := Lib.hid M.tab
      have few := M.tab.few
      have GT := Lib.hid GT
      clear HS MW M M0 B0 G0
      obtain ⟨W1, hW1⟩ : ∃ W, W = wr := ⟨_, rfl⟩
      have B1 : Hid (Below W1.heap.size W1 wr) := Lib.hid (hW1 ▸ Below.refl _ _)
      have TW : Hid (Tab W1 g h c T) := Lib.hid (hW1 ▸ TW.out)
      have BW : Hid (Below w.heap.size w W1) := Lib.hid (hW1 ▸ BW.out)
      clear hW1
      go_wp2_with fail
      go_loopg [10] T.length (fun gg s10 wx => ∃ kk : Nat, kk ≤ T.length ∧ T.length - kk ≤ gg ∧ s10 = .int .i64 (kk : Int) ∧ Hid (Below W1.heap.size W1 wx))
      case atStart => exact ⟨0, Nat.zero_le _, by omega, rfl, B1⟩
      case round =>
        obtain ⟨kk, hkk, hg, rfl, B2⟩ := hrel
        have TK := Lib.hid (TW.out.kept B2.out)
        by_cases hlt : kk < T.length
        · have hltz : (kk : Int) < (T.length : Int) := by omega
          have XW := GT.out T[kk]! (by simp [hlt])
          have GC := get_c wr g h c T TK.out (kk : Int)
          rw [getP_in T kk hlt] at GC
          generalize T[kk]! = p at XW GC
          obtain ⟨s, x, wq, ow, pe⟩ := p
          have GC : Hid (Calls Try.prog 27 #[.pointer (some ⟨g, 0, none⟩), .int .i64 (kk : Int)] wr fun e w' => e = .returned (.agg #[.int .u8 (s : Int), .bool x, .bool wq, .int .u16 (ow : Int), .int .u64 (pe : Int)]) ∧ Below wr.heap.size wr w') := Lib.hid GC
          simp only at XW
          obtain ⟨E, hEd⟩ : ∃ E, P1.see s epoch pe = E := ⟨_, rfl⟩
          obtain ⟨R, hRd⟩ : ∃ R, (x && E) = R := ⟨_, rfl⟩
          have REA : ∀ W, Calls Try.prog 15 #[.agg #[.int .u8 (s : Int), .bool x, .bool wq, .int .u16 (ow : Int), .int .u64 (pe : Int)], .int .u64 (epoch : Int)] W fun r w' => r = .returned (.bool E) ∧ Below W.heap.size W w' := fun W => by rw [← hEd]; exact P1.reads_c s x wq ow pe epoch W
          have RUN : ∀ W, Calls Try.prog 17 #[.agg #[.int .u8 (s : Int), .bool x, .bool wq, .int .u16 (ow : Int), .int .u64 (pe : Int)], .int .u64 (epoch : Int)] W fun r w' => r = .returned (.bool R) ∧ Below W.heap.size W w' := fun W => by rw [← hRd, ← hEd]; exact P1.runs_c s x wq ow pe epoch W
          have WRI : ∀ o : Nat, ∃ Y : Bool, (Y = true → ((ow : Int) != (o : Int)) = false ∧ R = false) ∧ ∀ W, Calls Try.prog 19 #[.agg #[.int .u8 (s : Int), .bool x, .bool wq, .int .u16 (ow : Int), .int .u64 (pe : Int)], .int .u64 (epoch : Int), .int .u16 (o : Int)] W fun r w' => r = .returned (.bool Y) ∧ Below W.heap.size W w' := fun o => by
            refine ⟨_, fun hy => ?_, fun W => P1.writes_c s x wq ow pe epoch o W⟩
            simp only [Bool.and_eq_true] at hy
            obtain ⟨⟨⟨y1, y2⟩, y3⟩, y4⟩ := hy
            refine ⟨by simpa using y3, ?_⟩
            rw [← hRd]
            cases x with
            | false => rfl
            | true => exact absurd ⟨rfl, y1⟩ XW
          have HR : R = true → wq = false ∧ E = true := fun hr => by
            rw [← hRd] at hr
            simp only [Bool.and_eq_true] at hr
            refine ⟨?_, hr.2⟩
            cases wq with
            | false => rfl
            | true => exact absurd ⟨hr.1, rfl⟩ XW
          have HRE : E = false → R = false := fun he => by rw [← hRd, he, Bool.and_false]
          have HE01 : (((s : Int) == 0) = true ∨ ((s : Int) == 1) = true) → E = false := fun hq => by
            rw [← hEd]
            have hs : s = 0 ∨ s = 1 := by
              rcases hq with hq | hq
              · left; simpa using hq
              · right; simp at hq; omega
            rcases hs with rfl | rfl <;> rfl
          have REA := Lib.hid REA
          have RUN := Lib.hid RUN
          have WRI := Lib.hid WRI
          have HR := Lib.hid HR
          have HRE := Lib.hid HRE
          have HE01 := Lib.hid HE01
          clear hEd hRd XW
          go_wp2_with fail
          refine (len_c wr g h c T TK.out).mono ?_
          rintro e w3 ⟨rfl, rfl⟩
          go_wp2_with fail
          refine GC.out.mono ?_
          rintro e w3 ⟨rfl, hb3⟩
          have B3 := Lib.hid ((B2.out.trans (hb3.mono B2.out.size)).alloc (by have := B2.out.size; have := hb3.size; omega) (.cells #[.int .u8 (s : Int), .bool x, .bool wq, .int .u16 (ow : Int), .int .u64 (pe : Int)] 26))
          have BK := Lib.hid (Blk.new w3 26 #[.int .u8 (s : Int), .bool x, .bool wq, .int .u16 (ow : Int), .int .u64 (pe : Int)])
          clear hb3 GC
          go_wp2_with fail
          go_loopg [12] 6 (fun gg s12 wx => ∃ jj : Nat, jj ≤ 6 ∧ 6 - jj ≤ gg ∧ s12 = .int .u16 (jj : Int) ∧ Hid (Below (w3.alloc (.cells #[.int .u8 (s : Int), .bool x, .bool wq, .int .u16 (ow : Int), .int .u64 (pe : Int)] 26)).heap.size (w3.alloc (.cells #[.int .u8 (s : Int), .bool x, .bool wq, .int .u16 (ow : Int), .int .u64 (pe : Int)] 26)) wx))
          case atStart => exact ⟨0, Nat.zero_le _, by omega, rfl, Lib.hid (Below.refl _ _)⟩
          case round =>
            obtain ⟨jj, hjj, hgj, rfl, B4⟩ := hrel
            have BK4 := Lib.hid (BK.out.kept B4.out)
            obtain ⟨c0, c1, c2, c3, c4⟩ := BK4.out.five
            have B5 := Lib.hid (B3.out.trans (B4.out.mono B3.out.size))
            by_cases hlj : jj < 6
            · have hljz : (jj : Int) < 6 := by omega
              obtain ⟨Y, hY, WR⟩ := WRI.out jj
              have WR := Lib.hid WR
              cases Y with
              | false =>
                clear hY
                go_wp2_with fail
                refine (WR.out _).mono ?_
                rintro e w5 ⟨rfl, hb5⟩
                have B6 := Lib.hid (B4.out.trans (hb5.mono B4.out.size))
                clear hb5
                go_wp2_with fail
                go_roundg (6 - (jj + 1))
                case measure => omega
                case rel => exact ⟨jj + 1, by omega, by omega, by go_num, B6⟩
              | true =>
                obtain ⟨hne, hR⟩ := hY rfl
                clear hY
                rw [hR] at RUN
                go_wp2_with fail
                refine (WR.out _).mono ?_
                rintro e w5 ⟨rfl, hb5⟩
                have B6 := Lib.hid (B4.out.trans (hb5.mono B4.out.size))
                have BK5 := Lib.hid (BK4.out.kept hb5)
                clear hb5 c0 c1 c2 c3 c4
                obtain ⟨c0, c1, c2, c3, c4⟩ := BK5.out.five
                go_wp2_with fail
                refine (RUN.out _).mono ?_
                rintro e w6 ⟨rfl, hb6⟩
                have B7 := Lib.hid (B6.out.trans (hb6.mono B6.out.size))
                clear hb6 c0 c1 c2 c3 c4
                go_wp2_with fail
                go_roundg (6 - (jj + 1))
                case measure => omega
                case rel => exact ⟨jj + 1, by omega, by omega, by go_num, B7⟩
            · have hljz : ¬ (jj : Int) < 6 := by omega
              clear WRI
              cases q0 : ((s : Int) == 0) with
              | true =>
                have hE : E = false := HE01.out (Or.inl q0)
                rw [hE] at REA
                rw [HRE.out hE] at RUN
                have hR := HRE.out hE
                go_wp2_with fail
                refine (REA.out _).mono ?_
                rintro e vxd ⟨rfl, hb_vxd⟩
                have BK_vxd := Lib.hid (BK4.out.kept hb_vxd)
                have BB_vxd := Lib.hid (B5.out.trans (hb_vxd.mono B5.out.size))
                clear c0 c1 c2 c3 c4 hb_vxd
                obtain ⟨c0, c1, c2, c3, c4⟩ := BK_vxd.out.five
                go_wp2_with fail
                refine (RUN.out _).mono ?_
                rintro e vxe ⟨rfl, hb_vxe⟩
                have BK_vxe := Lib.hid (BK_vxd.out.kept hb_vxe)
                have BB_vxe := Lib.hid (BB_vxd.out.trans (hb_vxe.mono BB_vxd.out.size))
                clear c0 c1 c2 c3 c4 hb_vxe
                obtain ⟨c0, c1, c2, c3, c4⟩ := BK_vxe.out.five
                go_wp2_with fail
                refine (RUN.out _).mono ?_
                rintro e vxf ⟨rfl, hb_vxf⟩
                have BK_vxf := Lib.hid (BK_vxe.out.kept hb_vxf)
                have BB_vxf := Lib.hid (BB_vxe.out.trans (hb_vxf.mono BB_vxe.out.size))
                clear c0 c1 c2 c3 c4 hb_vxf
                obtain ⟨c0, c1, c2, c3, c4⟩ := BK_vxf.out.five
                go_wp2_with fail
                go_roundg (T.length - (kk + 1))
                case measure => omega
                case rel => exact ⟨kk + 1, by omega, by omega, by go_num, Lib.hid (BB_vxf.out)⟩
              | false =>
                cases q1 : ((s : Int) == 1) with
                | true =>
                  have hE : E = false := HE01.out (Or.inr q1)
                  rw [hE] at REA
                  rw [HRE.out hE] at RUN
                  have hR := HRE.out hE
                  go_wp2_with fail
                  refine (REA.out _).mono ?_
                  rintro e vyd ⟨rfl, hb_vyd⟩
                  have BK_vyd := Lib.hid (BK4.out.kept hb_vyd)
                  have BB_vyd := Lib.hid (B5.out.trans (hb_vyd.mono B5.out.size))
                  clear c0 c1 c2 c3 c4 hb_vyd
                  obtain ⟨c0, c1, c2, c3, c4⟩ := BK_vyd.out.five
                  go_wp2_with fail
                  refine (RUN.out _).mono ?_
                  rintro e vye ⟨rfl, hb_vye⟩
                  have BK_vye := Lib.hid (BK_vyd.out.kept hb_vye)
                  have BB_vye := Lib.hid (BB_vyd.out.trans (hb_vye.mono BB_vyd.out.size))
                  clear c0 c1 c2 c3 c4 hb_vye
                  obtain ⟨c0, c1, c2, c3, c4⟩ := BK_vye.out.five
                  go_wp2_with fail
                  refine (RUN.out _).mono ?_
                  rintro e vyf ⟨rfl, hb_vyf⟩
                  have BK_vyf := Lib.hid (BK_vye.out.kept hb_vyf)
                  have BB_vyf := Lib.hid (BB_vye.out.trans (hb_vyf.mono BB_vye.out.size))
                  clear c0 c1 c2 c3 c4 hb_vyf
                  obtain ⟨c0, c1, c2, c3, c4⟩ := BK_vyf.out.five
                  go_wp2_with fail
                  go_roundg (T.length - (kk + 1))
                  case measure => omega
                  case rel => exact ⟨kk + 1, by omega, by omega, by go_num, Lib.hid (BB_vyf.out)⟩
                | false =>
                  cases hR : R with
                  | false =>
                    rw [hR] at RUN
                    go_wp2_with fail
                    refine (RUN.out _).mono ?_
                    rintro e vza ⟨rfl, hb_vza⟩
                    have BK_vza := Lib.hid (BK4.out.kept hb_vza)
                    have BB_vza := Lib.hid (B5.out.trans (hb_vza.mono B5.out.size))
                    clear c0 c1 c2 c3 c4 hb_vza
                    obtain ⟨c0, c1, c2, c3, c4⟩ := BK_vza.out.five
                    go_wp2_with fail
                    go_roundg (T.length - (kk + 1))
                    case measure => omega
                    case rel => exact ⟨kk + 1, by omega, by omega, by go_num, Lib.hid (BB_vza.out)⟩
                  | true =>
                    obtain ⟨hwq, hee⟩ := HR.out hR
                    rw [hR] at RUN
                    rw [hee] at REA
                    subst hwq
                    go_wp2_with fail
                    refine (RUN.out _).mono ?_
                    rintro e vzb ⟨rfl, hb_vzb⟩
                    have BK_vzb := Lib.hid (BK4.out.kept hb_vzb)
                    have BB_vzb := Lib.hid (B5.out.trans (hb_vzb.mono B5.out.size))
                    clear c0 c1 c2 c3 c4 hb_vzb
                    obtain ⟨c0, c1, c2, c3, c4⟩ := BK_vzb.out.five
                    go_wp2_with fail
                    refine (REA.out _).mono ?_
                    rintro e vzc ⟨rfl, hb_vzc⟩
                    have BK_vzc := Lib.hid (BK_vzb.out.kept hb_vzc)
                    have BB_vzc := Lib.hid (BB_vzb.out.trans (hb_vzc.mono BB_vzb.out.size))
                    clear c0 c1 c2 c3 c4 hb_vzc
                    obtain ⟨c0, c1, c2, c3, c4⟩ := BK_vzc.out.five
                    go_wp2_with fail
                    go_roundg (T.length - (kk + 1))
                    case measure => omega
                    case rel => exact ⟨kk + 1, by omega, by omega, by go_num, Lib.hid (BB_vzc.out)⟩
        · have hltz : ¬ (kk : Int) < (T.length : Int) := by omega
          go_wp2_with fail
          refine (len_c wr g h c T TK.out).mono ?_
          rintro e w3 ⟨rfl, rfl⟩
          go_wp2_with fail
          refine (awake06_c _).mono ?_
          rintro e w6 ⟨rfl, hb6⟩
          have B9 := Lib.hid ((BW.out.trans (B2.out.mono BW.out.size)).trans (hb6.mono (by have := BW.out.size; have := B2.out.size; omega)))
          clear hb6
          go_wp2_with fail
          go_ret
          exact ⟨rfl, B9.out⟩
end Go.Proofs.Ytjjcmclnjeplkaa.PM
