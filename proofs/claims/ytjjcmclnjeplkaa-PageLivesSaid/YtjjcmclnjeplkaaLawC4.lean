/- law06's same. Conditions: the tables' cells. -/
import Derived.Test.YtjjcmclnjeplkaaLawC3
namespace Go.Proofs.Ytjjcmclnjeplkaa.PM
set_option linter.unusedVariables false
open Go.RowKit
theorem len_q (w : World) (g h c : Nat) (T : List Page) (t : Tab w g h c T) :
    Calls Try.prog 26 #[.pointer (some ⟨g, 0, none⟩)] w fun e w' => e = .returned (.int .i64 (T.length : Int)) ∧ Drew w w' :=
  (len_c w g h c T t).mono (fun e w' ⟨h1, h2⟩ => ⟨h1, by rw [h2]; exact Drew.refl _⟩)
theorem eqP_self (s : Int) (x wr : Bool) (ow ep : Int) : P1.eqP s x wr ow ep s x wr ow ep = true := by unfold P1.eqP; simp
theorem keep1f {w w' : World} {v : Value} {t N : Nat} (hb : Below ((w.alloc (.cells #[v] t)).drewN N).heap.size ((w.alloc (.cells #[v] t)).drewN N) w') : w'.cell? ⟨w.heap.size, 0, none⟩ = some v :=
  (((Blk.new w t #[v]).drewN N).kept hb).cell 0
theorem keep1c {w w' : World} {g : Nat} {v : Value} (hb : Below w.heap.size w w') (c : w.cell? ⟨g, 0, none⟩ = some v) : w'.cell? ⟨g, 0, none⟩ = some v := kept_cell5 hb c
set_option maxHeartbeats 8000000 in
theorem same_c (w : World) (g h c b cb : Nat) (T : List Page) (t : Tab w g h c T) (hp : Pgs w b T) :
    Calls Try.prog 31 #[.pointer (some ⟨g, 0, none⟩), rv b cb T] w fun e w' => e = .returned (.bool true) ∧ Below w.heap.size w w' := by
  have few := t.few
  have hgl := t.lt
  have hhl := t.pgs.lt
  have hbl := hp.lt
  have T0 := Lib.hid (t.alloc (.cells #[.slice (some ⟨b, 0, none⟩) T.length cb] 44))
  have P0 := Lib.hid (hp.alloc (.cells #[.slice (some ⟨b, 0, none⟩) T.length cb] 44))
  have RU := Lib.hid (fun W (hq : Pgs W b T) => rused_c W b cb T hq few)
  clear t hp
  unfold rv at RU ⊢
  go_enter Try.func31, Try.ntmps31
  go_wp2_with fail
  go_region_held3 (fun w' => w'.cell? ⟨w.heap.size, 0, none⟩ = some (.slice (some ⟨b, 0, none⟩) T.length cb)) (first | go_keep | (apply keep1f; assumption) | (apply keep1c; assumption; assumption)) ((first | (go_at_call 33; (with_reducible refine (used_c _ g h c T ?_).mono ?_); (exact T0.out.drewN 1); rintro e w1 ⟨rfl, hro, hb1⟩) | (go_at_call 70; (with_reducible refine (RU.out _ ?_).mono ?_); (exact (P0.out.drewN 1).kept hb1); rintro e W2 ⟨v, rfl, hown, hb2⟩)))
  have B01 : Below w.heap.size w w1 := ((((Below.refl _ w).alloc (Nat.le_refl _) _).drew).trans (hb1.mono (by simp)))
  have B02 : Below w.heap.size w W2 := B01.trans (hb2.mono (by have := B01.size; omega))
  have s1 : w.heap.size + 2 ≤ w1.heap.size := by have := hro.lt; simp at this; omega
  have s2 := hb2.size
  have RW : W2.rowIs (w.heap.size + 1) 4 T.length (fun i => .bool (usedB T[i]!)) := by
    have := hro.of_block (hb2.block _ hro.lt)
    simpa using this
  have TW := (((T0.out.drewN 1).kept hb1).kept hb2)
  have PW := (((P0.out.drewN 1).kept hb1).kept hb2)
  have BX := ((((Blk.new w 44 #[.slice (some ⟨b, 0, none⟩) T.length cb]).drewN 1).kept hb1).kept hb2)
  obtain ⟨vo, cap, rfl, hv⟩ : ∃ vo cap, v = .slice vo T.length cap ∧ ∀ i, i < T.length → ∃ q, vo = some ⟨q, 0, none⟩ ∧ w1.heap.size + 1 ≤ q ∧ q < W2.heap.size ∧ W2.cell? ⟨q, i, none⟩ = some (.bool (usedB T[i]!)) := by
    have ho := hown
    obtain ⟨hlen, ⟨rfl, hn⟩ | ⟨q, cap, cur, rfl, hq, hh, _, _, _, htk⟩⟩ := ho
    · exact ⟨none, 0, by rw [hn], fun i hi => by omega⟩
    · refine ⟨_, cap, rfl, fun i hi => ⟨q, rfl, hq, (hown.lt q rfl).2, ?_⟩⟩
      have := hown.cells (g := q) rfl i (.bool (usedB T[i]!)) (by simp [bools, hi])
      rw [add_row] at this
      exact this
  have k0 : W2.cell? ⟨w.heap.size, 0, none⟩ = some (.slice (some ⟨b, 0, none⟩) T.length cb) := BX.cell 0
  have TW := Lib.hid TW
  have PW := Lib.hid PW
  have BX := Lib.hid BX
  have RW := Lib.hid RW
  have HV := Lib.hid hv
  have B02 := Lib.hid B02
  clear hro hb1 hown hb2 hv T0 P0 RU B01
  go_wp2_with fail
  go_quiet (first | (go_at_call 26; (with_reducible refine (len_q _ g h c T ?_).mono ?_); (first | exact TW.out | exact TW.out.drewN 1 | exact TW.out.drewN _); rintro e w' ⟨rfl, ⟨nd, rfl⟩⟩; (try first | exact ⟨rfl, _, World.drewN_drewN _ _ _⟩ | exact ⟨rfl, _, Eq.trans (World.drewN_drewN _ _ _) (congrArg (World.drewN _) (Nat.add_assoc _ _ _))⟩)))
  go_wp2_with fail
  go_loopg [7] (T.length + 2) (fun gg s7 wr => ∃ kk : Nat, kk ≤ T.length + 2 ∧ T.length + 2 - kk ≤ gg ∧ s7 = .int .i64 ((kk : Int) - 1) ∧ Hid (Below W2.heap.size W2 wr))
  case atStart => exact ⟨0, Nat.zero_le _, by omega, rfl, Lib.hid (below_drewN (Below.refl _ _) _)⟩
  case round =>
    obtain ⟨kk, hkk, hg, rfl, BW⟩ := hrel
    have r0 : wr.cell? ⟨w.heap.size, 0, none⟩ = some (.slice (some ⟨b, 0, none⟩) T.length cb) := (BX.out.kept BW.out).cell 0
    by_cases hlt : kk < T.length + 2
    · have hltz : (kk : Int) - 1 ≤ (T.length : Int) := by omega
      obtain ⟨p, hpp⟩ : ∃ p, getP T ((kk : Int) - 1) = p := ⟨_, rfl⟩
      obtain ⟨s, x, wq, ow, ep⟩ := p
      have GC : ∀ W, Tab W g h c T → Calls Try.prog 27 #[.pointer (some ⟨g, 0, none⟩), .int .i64 ((kk : Int) - 1)] W fun e w' => e = .returned (.agg #[.int .u8 (s : Int), .bool x, .bool wq, .int .u16 (ow : Int), .int .u64 (ep : Int)]) ∧ Below W.heap.size W w' := fun W ht => by
        have := get_c W g h c T ht ((kk : Int) - 1); rw [hpp] at this; exact this
      have RC : ∀ W, Pgs W b T → Calls Try.prog 71 #[.agg #[.slice (some ⟨b, 0, none⟩) T.length cb], .int .i64 ((kk : Int) - 1)] W fun e w' => e = .returned (.agg #[.int .u8 (s : Int), .bool x, .bool wq, .int .u16 (ow : Int), .int .u64 (ep : Int)]) ∧ Below W.heap.size W w' := fun W ht => by
        have := rget_c W b cb T ht ((kk : Int) - 1); rw [hpp] at this; exact this
      have GC := Lib.hid GC
      have RC := Lib.hid RC
      have TK := Lib.hid (TW.out.kept BW.out)
      have PK := Lib.hid (PW.out.kept BW.out)
      have HE := fun W => P1.eqPg W (s : Int) x wq (ow : Int) (ep : Int) (s : Int) x wq (ow : Int) (ep : Int)
      simp only [eqP_self] at HE
      clear hpp
      go_wp2_with fail
      go_region_held3 (fun w' => w'.cell? ⟨w.heap.size, 0, none⟩ = some (.slice (some ⟨b, 0, none⟩) T.length cb)) (first | go_keep | (apply keep1c; assumption; assumption)) ((first | (go_at_call 27; (with_reducible refine (GC.out _ ?_).mono ?_); (first | exact TK.out | exact TK.out.drewN 1); rintro e w3 ⟨rfl, hb1⟩) | (go_at_call 71; (with_reducible refine (RC.out _ ?_).mono ?_); (exact (PK.out.drewN 1).kept hb1); rintro e w4 ⟨rfl, hb2⟩)))
      have HB := Lib.hid (BW.out.trans (((((Below.refl _ wr).drew).trans hb1).trans (hb2.mono hb1.size)).mono (by show W2.heap.size ≤ wr.heap.size; exact BW.out.size)))
      clear hb1 hb2 HE
      go_wp2_with fail
      go_roundg (T.length + 2 - (kk + 1))
      case measure => omega
      case rel => exact ⟨kk + 1, by omega, by omega, by go_num, HB⟩
    · have hltz : ¬ (kk : Int) - 1 ≤ (T.length : Int) := by omega
      have s3 := BW.out.size
      have RW3 := Lib.hid (RW.out.of_block (BW.out.block _ RW.out.lt))
      have HV3 : Hid (∀ i, i < T.length → ∃ q, vo = some ⟨q, 0, none⟩ ∧ q ≠ w.heap.size + 1 ∧ q < wr.heap.size ∧ wr.cell? ⟨q, i, none⟩ = some (.bool (usedB T[i]!))) := Lib.hid (fun i hi => by
        obtain ⟨q, h1, h2, h3, h4⟩ := HV.out i hi
        exact ⟨q, h1, by omega, by omega, (BW.out.cell (p := ⟨q, i, none⟩) h3).trans h4⟩)
      have B03 := Lib.hid (B02.out.trans (BW.out.mono (by omega)))
      clear BW RW HV TW PW BX B02 k0
      go_wp2_with fail
      go_loopg [8] T.length (fun gg s8 wx => ∃ kk : Nat, kk ≤ T.length ∧ T.length - kk ≤ gg ∧ s8 = .int .i64 (kk : Int) ∧ Hid (wx.rowIs (w.heap.size + 1) 4 T.length (fun i => if i < kk then .bool (!usedB T[i]!) else .bool (usedB T[i]!))) ∧ Hid (Upd (w.heap.size + 1) wr wx))
      case atStart => exact ⟨0, Nat.zero_le _, by omega, rfl, Lib.hid (RW3.out.congr (fun i hi => by simp)), Lib.hid (Upd.refl _ _)⟩
      case round =>
        obtain ⟨kk, hkk, hg, rfl, RR, UW⟩ := hrel
        by_cases hlt : kk < T.length
        · have hltz : (kk : Int) < (T.length : Int) := by omega
          obtain ⟨q, rfl, hq1, hq2, hq3⟩ := HV3.out kk hlt
          have cv : wr.cell? ⟨q, kk, none⟩ = some (.bool (usedB T[kk]!)) := (UW.out.cell (p := ⟨q, kk, none⟩) hq2 hq1).trans hq3
          have cu := RR.out.cell hlt
          simp only [Nat.lt_irrefl, if_false] at cu
          have fu := RR.out.frozen kk
          have RN : Hid (∀ n, ((wr.drewN n).setCell ⟨w.heap.size + 1, kk, none⟩ (.bool (!usedB T[kk]!))).rowIs (w.heap.size + 1) 4 T.length (fun i => if i < kk + 1 then .bool (!usedB T[i]!) else .bool (usedB T[i]!))) := Lib.hid (fun n => ((RR.out.of_block (w' := wr.drewN n) rfl).set kk _).congr (fun i hi => by
            by_cases e : i = kk
            · subst e; rw [if_pos rfl, if_pos (by omega)]
            · rw [if_neg e]
              by_cases e2 : i < kk
              · rw [if_pos e2, if_pos (by omega)]
              · rw [if_neg e2, if_neg (by omega)]))
          have UN := Lib.hid (fun n => (UW.out.drewN n).setCell kk (.bool (!usedB T[kk]!)))
          generalize usedB T[kk]! = z at cv cu RN UN
          clear hq3
          go_wp2_with fail
          go_quiet (fail)
          go_wp2_with fail
          go_roundg (T.length - (kk + 1))
          case measure => omega
          case rel => exact ⟨kk + 1, by omega, by omega, by go_num, Lib.hid (RN.out _), Lib.hid (UN.out _)⟩
        · have hltz : ¬ (kk : Int) < (T.length : Int) := by omega
          have : kk = T.length := by omega
          subst this
          have F := Lib.hid (UW.out.below B03.out (by omega))
          go_wp2_with fail
          go_ret
          exact ⟨rfl, F.out⟩
end Go.Proofs.Ytjjcmclnjeplkaa.PM
