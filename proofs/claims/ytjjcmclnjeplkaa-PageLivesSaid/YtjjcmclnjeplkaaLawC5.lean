/- PagePlays walked. Conditions: the calls' cells. -/
import Derived.Test.YtjjcmclnjeplkaaLawC4
import Derived.Test.YtjjcmclnjeplkaaOpenPg
import Derived.Deep.RegionWith
namespace Go.Proofs.Ytjjcmclnjeplkaa.PM
set_option linter.unusedVariables false
open Go.RowKit Go.Proofs.Ytjjcmclnjeplkaa.Frame
/-- A row of calls that came in. -/
def Acts (w : World) (src : Option Addr) (len : Nat) : Prop := ∀ i, i < len → ∃ b o, src = some ⟨b, o, none⟩ ∧ b < w.heap.size ∧ ∃ (k : Nat) (fr n : Int) (ow ep : Nat), ActC w b (o + i * 5) k fr n ow ep
/-- What stands in the midst of the calls: both tables hold the same pages; the reference's lies in a box. -/
structure Mid (w : World) (g h c B : Nat) (T : List Page) (b cb : Nat) : Prop where
  tab : Tab w g h c T
  pgs : Pgs w b T
  bh : b ≠ h
  bB : b ≠ B
  gB : g ≠ B
  hB : h ≠ B
  ok : OkT T
  box : Blk w B 44 #[.slice (some ⟨b, 0, none⟩) T.length cb]
theorem Mid.kept {w w' : World} {g h c B : Nat} {T : List Page} {b cb : Nat} (m : Mid w g h c B T b cb) (hb : Below w.heap.size w w') : Mid w' g h c B T b cb :=
  ⟨m.tab.kept hb, m.pgs.kept hb, m.bh, m.bB, m.gB, m.hB, m.ok, m.box.kept hb⟩
theorem Mid.drewN {w : World} {g h c B : Nat} {T : List Page} {b cb : Nat} (m : Mid w g h c B T b cb) (n : Nat) : Mid (w.drewN n) g h c B T b cb := m.kept (below_drewN (Below.refl _ _) n)
/-- Behind a call, with the new table stored into the box. -/
theorem Mid.next {w w' : World} {g h c B : Nat} {T T' : List Page} {b cb b' c' : Nat} (m : Mid w g h c B T b cb) (t : Tab w' g h c T') (p : Pgs w' b' T') (hb : b' = b ∨ w.heap.size ≤ b') (u : Upd h w w') (ok : OkT T') :
    Mid (w'.setCell ⟨B, 0, none⟩ (.slice (some ⟨b', 0, none⟩) T'.length c')) g h c B T' b' c' := by
  have hB := m.box.lt
  have hh := m.tab.pgs.lt
  have hbB : b' ≠ B := by rcases hb with rfl | hb; exact m.bB; omega
  have hbh : b' ≠ h := by rcases hb with rfl | hb; exact m.bh; omega
  refine ⟨t.far m.gB m.hB _, p.far hbB _, hbh, hbB, m.gB, m.hB, ok, ?_⟩
  have := (u.blk m.box (fun e => m.hB e.symm)).set_ 0 (.slice (some ⟨b', 0, none⟩) T'.length c')
  simpa using this
set_option maxHeartbeats 8000000 in
theorem law_plays (nn : Int) (src : Option Addr) (len cap : Nat) (w : World) (hs : Acts w src len) :
    Calls Try.prog 7 #[.int .i64 nn, .slice src len cap] w fun e w' => e = .returned (.bool true) ∧ Below w.heap.size w w' := by
  by_cases h100 : 100 < len
  · have hz : (100 : Int) < (len : Int) := by omega
    clear hs
    go_enter Try.func7, Try.ntmps7
    go_wp2_with fail
    refine (awake06_c _).mono ?_
    rintro e w1 ⟨rfl, hb⟩
    go_wp2_with fail
    go_ret
    exact ⟨rfl, hb⟩
  have hz : ¬ (100 : Int) < (len : Int) := by omega
  have HS := Lib.hid hs
  clear hs h100
  go_enter Try.func7, Try.ntmps7
  go_wp2_with fail
  refine (new_c w nn).mono ?_
  rintro e w1 ⟨g, h, c, rfl, hg, hh, t, hb1⟩
  have HT := Lib.hid (And.intro t hb1)
  have hl1 := t.pgs.lt
  have hl2 := t.lt
  clear t hb1
  go_wp2_with fail
  refine (rnew_c w1 nn).mono ?_
  rintro e w2 ⟨b, cb, rfl, hbb, hp, hb2⟩
  have hbl := hp.lt
  have M0 : Hid (Mid (w2.alloc (.cells #[.slice (some ⟨b, 0, none⟩) (List.replicate (newLen nn) nz).length cb] 44)) g h c w2.heap.size (List.replicate (newLen nn) nz) b cb) := Lib.hid
    ⟨(HT.out.1.kept hb2).alloc _, hp.alloc _, by omega, by omega, by have := hb2.size; omega, by have := hb2.size; omega, ok_new _, Blk.new _ _ _⟩
  have B0 := Lib.hid ((HT.out.2.trans (hb2.mono HT.out.2.size)).alloc (by have := hb2.size; have := HT.out.2.size; omega) (.cells #[.slice (some ⟨b, 0, none⟩) (List.replicate (newLen nn) nz).length cb] 44))
  generalize List.replicate (newLen nn) nz = T0 at M0 B0 ⊢
  clear hb2 hp HT
  unfold rv
  go_wp2_with fail
  refine (same_c _ g h c b cb T0 M0.out.tab M0.out.pgs).mono ?_
  rintro e w3 ⟨rfl, hb3⟩
  have M3 := Lib.hid (M0.out.kept hb3)
  have B3 := Lib.hid (B0.out.trans (hb3.mono B0.out.size))
  clear hb3
  go_wp2_with fail
  go_loopg [7, 8] len (fun gg s7 s8 wr => ∃ kk : Nat, kk ≤ len ∧ len - kk ≤ gg ∧ s7 = .bool true ∧ s8 = .int .i64 (kk : Int) ∧ Hid (∃ T b cb, Mid wr g h c w2.heap.size T b cb) ∧ Hid (Below w.heap.size w wr))
  case atStart => exact ⟨0, Nat.zero_le _, by omega, rfl, rfl, Lib.hid ⟨_, _, _, M3.out⟩, B3⟩
  case round =>
    obtain ⟨kk, hkk, hg, rfl, rfl, MW, BW⟩ := hrel
    by_cases hlt : kk < len
    · have hltz : (kk : Int) < (len : Int) := by omega
      obtain ⟨T, bt, ct, M⟩ := MW.out
      have M := Lib.hid M
      obtain ⟨ba, oa, rfl, hba, k, fr, n, ow, ep, AC⟩ := HS.out kk hlt
      have r0 : wr.cell? ⟨w2.heap.size, 0, none⟩ = some (.slice (some ⟨bt, 0, none⟩) T.length ct) := M.out.box.cell 0
      have a0 := (BW.out.cell (p := ⟨ba, oa + kk * 5, none⟩) hba).trans AC.c0
      have a1 := (BW.out.cell (p := ⟨ba, oa + kk * 5 + 1, none⟩) hba).trans AC.c1
      have a2 := (BW.out.cell (p := ⟨ba, oa + kk * 5 + 2, none⟩) hba).trans AC.c2
      have a3 := (BW.out.cell (p := ⟨ba, oa + kk * 5 + 3, none⟩) hba).trans AC.c3
      have a4 := (BW.out.cell (p := ⟨ba, oa + kk * 5 + 4, none⟩) hba).trans AC.c4
      have OK1 := Lib.hid (ok_step T ⟨k, fr, n, ow, ep⟩ M.out.ok)
      have DC : ∀ W, Mid W g h c w2.heap.size T bt ct → Calls Try.prog 30 #[.pointer (some ⟨g, 0, none⟩), .agg #[.slice (some ⟨bt, 0, none⟩) T.length ct], .agg #[.int .u8 (k : Int), .int .i64 fr, .int .i64 n, .int .u16 (ow : Int), .int .u64 (ep : Int)]] W fun e w' => DoP W g h c bt (stepM T ⟨k, fr, n, ow, ep⟩).1 e w' := fun W m =>
        do_c W g h c bt ct T m.tab m.pgs m.bh m.ok ⟨k, fr, n, ow, ep⟩
      have DC := Lib.hid DC
      generalize (stepM T ⟨k, fr, n, ow, ep⟩).1 = T1 at DC OK1
      clear AC MW
      go_wp2_with fail
      go_region_with (go_at_call 30; (with_reducible refine (DC.out _ ?_).mono ?_); (first | exact M.out | exact M.out.drewN 1); rintro e w4 ⟨b', c', rfl, t4, p4, hb4, u4⟩; have kx := (u4.blk M.out.box (fun e => M.out.hB e.symm)); have z0 : w4.cell? ⟨w2.heap.size, 0, none⟩ = some (.slice (some ⟨bt, 0, none⟩) T.length ct) := kx.cell 0; have z1 : w4.frozen? ⟨w2.heap.size, 0, none⟩ = false := kx.frozen 0; have M5 := Lib.hid ((M.out.drewN 1).next (c' := c') t4 p4 hb4 u4 OK1.out); have B5 := Lib.hid (u4.below (BW.out.trans (below_drewN (Below.refl _ _) 1)) (by omega)); clear t4 p4 hb4 u4 kx; unfold rv)
      all_goals
        have B5 := Lib.hid (B5.out.setCell (p := ⟨w2.heap.size, 0, none⟩) (by show w.heap.size ≤ w2.heap.size; have := M0.out.tab.lt; omega) (.slice (some ⟨b', 0, none⟩) T1.length c'))
        clear z1 r0 a0 a1 a2 a3 a4 DC
        go_wp2_with fail
        refine (same_c _ g h c b' c' T1 M5.out.tab M5.out.pgs).mono ?_
        rintro e w6 ⟨rfl, hb6⟩
        have M6 := Lib.hid (M5.out.kept hb6)
        have B6 := Lib.hid (B5.out.trans (hb6.mono B5.out.size))
        clear hb6
        go_wp2_with fail
        go_roundg (len - (kk + 1))
        case measure => omega
        case rel => exact ⟨kk + 1, by omega, by omega, rfl, by go_num, Lib.hid ⟨_, _, _, M6.out⟩, B6⟩
    · have hltz : ¬ (kk : Int) < (len : Int) := by omega
      clear HS
      go_wp2_with fail
      refine (awake06_c _).mono ?_
      rintro e w6 ⟨rfl, hb6⟩
      have B6 := Lib.hid (BW.out.trans (hb6.mono BW.out.size))
      clear hb6
      go_wp2_with fail
      go_ret
      exact ⟨rfl, B6.out⟩
end Go.Proofs.Ytjjcmclnjeplkaa.PM
