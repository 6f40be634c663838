/- Contracts of the reference's copied and of. Conditions: the slice's cells. -/
import Derived.Test.YtjjcmclnjeplkaaRef1
import Derived.Test.YtjjcmclnjeplkaaTab6
import Derived.OwnWalk
set_option linter.unusedSimpArgs false
namespace Go.Proofs.Ytjjcmclnjeplkaa.PM
set_option linter.unusedVariables false
open Go.RowKit
theorem info_page : (Try.prog.info? 26).map (fun i => (i.zero, i.size, i.bytes)) = some (some nz.v, 5, 16) := by kernel_rfl
theorem info_int : (Try.prog.info? 3).map (fun i => (i.zero, i.size, i.bytes)) = some (some (.int .i64 0), 1, 8) := by kernel_rfl
def Copied (w : World) (T : List Page) (e : Ending) (w' : World) : Prop := ∃ b c, e = .returned (rv b c T) ∧ w.heap.size ≤ b ∧ Pgs w' b T ∧ Below w.heap.size w w'
set_option maxHeartbeats 2000000 in
set_option maxRecDepth 100000 in
theorem copied_c (w : World) (b c : Nat) (T : List Page) (hp : Pgs w b T) (few : T.length ≤ 256) :
    Calls Try.prog 92 #[rv b c T] w fun e w' => Copied w T e w' := by
  obtain ⟨i0, hi, hz0, hz1, hz2⟩ := info_parts info_page
  have HP := Lib.hid hp
  have hb := hp.lt
  clear hp
  have HM : (((w.alloc (.cells #[.slice (some ⟨b, 0, none⟩) T.length c] 44)).alloc (.cells #[.slice none 0 0] 44)).alloc (.cells #[] 26)).ownsRow (w.heap.size + 2) 26 5 (.slice (some ⟨w.heap.size + 2, 0, none⟩) 0 0) 0 [] := by
    have := World.ownsRow_made (base := w.heap.size + 2) (e := 26) (size := 5) ((w.alloc (.cells #[.slice (some ⟨b, 0, none⟩) T.length c] 44)).alloc (.cells #[.slice none 0 0] 44)) #[] 0 (by simp) (Nat.zero_le _) (by simp)
    simpa using this
  unfold rv
  go_enter Try.func92, Try.ntmps92
  go_wp2_with (at_builtin; refine wpList_append_own _ rfl _ _ 42 rfl (w.heap.size + 2) 26 i0 nz.v 5 16 Try.underlying42 hi hz0 hz1 hz2 (by kernel_rfl) (by decide) _ _ _ rfl HM ⟨b, 0, none⟩ T.length c (flat T) rfl ?qc1 ?qc2 ?qc3 ?qc4 ?qc5 ?qc6 ?_)
  case qc1 => exact flat_length T
  case qc2 =>
    intro j u hj
    rw [add_row]
    exact (((HP.out.alloc _).alloc _).alloc _).cells j u hj
  case qc3 =>
    intro u hu
    simp only [flat, List.mem_flatMap] at hu
    obtain ⟨p, _, hu⟩ := hu
    simp [Page.c] at hu
    rcases hu with rfl | rfl | rfl | rfl | rfl <;> rfl
  case qc4 => simp [maxLen]; omega
  case qc5 => omega
  case qc6 => simp
  intro v' w1 hown hgrow hnil
  obtain ⟨h', c', rfl, hg, hp, hc⟩ := Pgs.own hown hnil
  have hsz := hgrow.size
  simp only [World.size_alloc] at hsz
  have e1 : w1.heap[w.heap.size + 1]? = (((w.alloc (.cells #[.slice (some ⟨b, 0, none⟩) T.length c] 44)).alloc (.cells #[.slice none 0 0] 44)).alloc (.cells #[] 26)).heap[w.heap.size + 1]? := hgrow.block _ (by simp) (by simp [Value.ownBlock])
  have k1 : w1.cell? ⟨w.heap.size + 1, 0, none⟩ = some (.slice none 0 0) := (World.cell?_of_block (a := ⟨w.heap.size + 1, 0, none⟩) e1).trans (by rw [World.cell?_alloc_past _ _ _ (by simp), World.cell?_alloc_at _ _ _ _ (by simp)]; rfl)
  have f1 : w1.frozen? ⟨w.heap.size + 1, 0, none⟩ = false := (World.frozen?_of_block (a := ⟨w.heap.size + 1, 0, none⟩) e1).trans (by rw [World.frozen?_alloc_old _ _ _ (by simp)]; exact World.frozen?_alloc_at _ _ _ _ (by simp))
  have F : Hid (∀ u, Copied w T (.returned (rv h' c' T)) (w1.setCell ⟨w.heap.size + 1, 0, none⟩ u)) := Lib.hid (fun u => ⟨h', c', rfl, by omega, hp.far (by show h' ≠ w.heap.size + 1; omega) _,
    (((((Below.refl _ _).alloc (Nat.le_refl _) _).alloc (by simp) _).alloc (by simp; omega) _).grown hgrow (by simp; omega) (by intro k hk; simp [Value.ownBlock] at hk; omega)).setCell (by show w.heap.size ≤ w.heap.size + 1; omega) _⟩)
  clear hown hgrow hnil e1 hp HM
  go_wp2
  refine bodyPost_ret (v := rv h' c' T) (by simp [rv, results, Try.results92, go_sem, *]) rfl ?_
  exact F.out _
def nums (l : List Nat) : List Value := l.map (fun j : Nat => Value.int .i64 (j : Int))
theorem nums_append (l m : List Nat) : nums (l ++ m) = nums l ++ nums m := List.map_append
def OfP (w : World) (T : List Page) (sl : Page → Bool) (e : Ending) (w' : World) : Prop := ∃ v, e = .returned v ∧ w'.ownsRow (w.heap.size + 1) 3 1 v (T.countP sl) (nums (idx sl 0 T)) ∧ Below w.heap.size w w'
set_option maxHeartbeats 4000000 in
set_option maxRecDepth 100000 in
theorem of_c (w : World) (b c : Nat) (T : List Page) (hp : Pgs w b T) (few : T.length ≤ 256) (ow qa qb : Nat) (inp : Nat → Bool) (hinp : ∀ s : Nat, inp s = (((s : Int) == (qa : Int)) || ((s : Int) == (qb : Int)))) :
    Calls Try.prog 93 #[rv b c T, .int .u16 (ow : Int), .int .u8 (qa : Int), .int .u8 (qb : Int)] w fun e w' => OfP w T (sel ow inp) e w' := by
  obtain ⟨i0, hi, hz0, hz1, hz2⟩ := info_parts info_int
  have HP := Lib.hid hp
  have HI := Lib.hid hinp
  have hb := hp.lt
  clear hp hinp
  unfold rv
  go_enter Try.func93, Try.ntmps93
  go_wp2
  go_loopg [9, 10] T.length (fun gg s9 s10 wr => ∃ kk : Nat, kk ≤ T.length ∧ T.length - kk ≤ gg ∧ s10 = .int .i64 (kk : Int) ∧ Hid (wr.ownsRow (w.heap.size + 1) 3 1 s9 ((T.take kk).countP (sel ow inp)) (nums (idx (sel ow inp) 0 (T.take kk)))) ∧ Hid (Below (w.heap.size + 1) (w.alloc (.cells #[.slice (some ⟨b, 0, none⟩) T.length c] 44)) wr))
  case atStart => exact ⟨0, Nat.zero_le _, by omega, rfl, Lib.hid (World.ownsRow_nil _ _ _ _), Lib.hid (Below.refl _ _)⟩
  case round =>
    obtain ⟨kk, hkk, hg, rfl, OW, BW⟩ := hrel
    have r0 : wr.cell? ⟨w.heap.size, 0, none⟩ = some (.slice (some ⟨b, 0, none⟩) T.length c) := (BW.out.cell (p := ⟨w.heap.size, 0, none⟩) (by show w.heap.size < w.heap.size + 1; omega)).trans (by simp)
    have hws : w.heap.size + 1 ≤ wr.heap.size := by have := BW.out.size; simpa using this
    by_cases hlt : kk < T.length
    · have hltz : (kk : Int) < (T.length : Int) := by omega
      have hl := ((HP.out.alloc (.cells #[.slice (some ⟨b, 0, none⟩) T.length c] 44)).kept (BW.out.mono (by simp) : Below (w.alloc (.cells #[.slice (some ⟨b, 0, none⟩) T.length c] 44)).heap.size _ wr)).lies hlt
      have hbw : b < wr.heap.size := by omega
      have ihit := idx_hit (sel ow inp) T kk hlt
      have imiss := idx_miss (sel ow inp) T kk hlt
      have chit := count_hit (sel ow inp) T kk hlt
      have cmiss := count_miss (sel ow inp) T kk hlt
      have hcle : (T.take kk).countP (sel ow inp) ≤ 256 := by
        have := List.countP_le_length (p := sel ow inp) (l := T.take kk)
        simp at this; omega
      generalize T[kk]! = y at hl ihit imiss chit cmiss
      obtain ⟨c0, c1, c2, c3, c4⟩ := hl
      have hsl : sel ow inp y = (((y.ow : Int) == (ow : Int)) && (((y.s : Int) != 0) && (((y.s : Int) == (qa : Int)) || ((y.s : Int) == (qb : Int))))) := by
        unfold sel
        have e1 : (y.ow == ow) = ((y.ow : Int) == (ow : Int)) := by rw [Bool.eq_iff_iff]; simp; omega
        have e2 : (y.s != 0) = ((y.s : Int) != 0) := by rw [Bool.eq_iff_iff]; simp
        rw [e1, e2, HI.out]
      have IH := Lib.hid ihit
      have IM := Lib.hid imiss
      have CH := Lib.hid chit
      have CM := Lib.hid cmiss
      clear ihit imiss chit cmiss
      have finF : sel ow inp y = false → ∀ o : Obj, Hid ((wr.alloc o).ownsRow (w.heap.size + 1) 3 1 u9 ((T.take (kk + 1)).countP (sel ow inp)) (nums (idx (sel ow inp) 0 (T.take (kk + 1))))) ∧ Hid (Below (w.heap.size + 1) (w.alloc (.cells #[.slice (some ⟨b, 0, none⟩) T.length c] 44)) (wr.alloc o)) := fun hf o =>
        ⟨Lib.hid (by rw [IM.out hf, CM.out hf]; exact OW.out.alloc o), Lib.hid (BW.out.alloc hws o)⟩
      have FF := Lib.hid finF
      clear finF
      cases ho : ((y.ow : Int) == (ow : Int)) with
      | false =>
        have HF := FF.out (by rw [hsl, ho]; rfl)
        clear hsl FF
        go_wp2
        go_roundg (T.length - (kk + 1))
        case measure => omega
        case rel => exact ⟨kk + 1, by omega, by omega, by go_num, (HF _).1, (HF _).2⟩
      | true =>
        cases hs : ((y.s : Int) != 0) with
        | false =>
          have HF := FF.out (by rw [hsl, ho, hs]; rfl)
          clear hsl FF
          go_wp2
          go_roundg (T.length - (kk + 1))
          case measure => omega
          case rel => exact ⟨kk + 1, by omega, by omega, by go_num, (HF _).1, (HF _).2⟩
        | true =>
          cases ha : ((y.s : Int) == (qa : Int)) with
          | true =>
            have HT : Hid (sel ow inp y = true) := Lib.hid (by rw [hsl, ho, hs, ha]; rfl)
            clear hsl FF
            go_wp2_with (at_builtin; refine wpList_append_own _ rfl _ _ 130 rfl (w.heap.size + 1) 3 i0 (.int .i64 0) 1 8 Try.underlying130 hi hz0 hz1 hz2 rfl (by decide) _ _ _ rfl ((OW.out.alloc _).alloc _) ⟨wr.heap.size + 1, 0, none⟩ 1 1 [.int .i64 (kk : Int)] rfl rfl ?c1 ?c2 ?c3 ?c4 ?c5 ?_)
            case c1 =>
              intro j u hj
              match j, hj with
              | 0, hj => simp at hj; subst hj; simp [Addr.add]
            case c2 => intro u hu; simp at hu; subst hu; rfl
            case c3 => unfold maxLen; omega
            case c4 => omega
            case c5 => simp; omega
            intro v' w1 hown hgrow _
            have HB := Lib.hid (((BW.out.alloc hws _).alloc (by simp; omega) _).grown hgrow (by simp; omega) (fun g hg => (OW.out.lt g hg).1))
            have HO : Hid (w1.ownsRow (w.heap.size + 1) 3 1 v' ((T.take (kk + 1)).countP (sel ow inp)) (nums (idx (sel ow inp) 0 (T.take (kk + 1))))) := Lib.hid (by rw [IH.out HT.out, CH.out HT.out, nums_append]; exact hown)
            clear hown hgrow
            go_wp2
            go_roundg (T.length - (kk + 1))
            case measure => omega
            case rel => exact ⟨kk + 1, by omega, by omega, by go_num, HO, HB⟩
          | false =>
            cases hb2 : ((y.s : Int) == (qb : Int)) with
            | true =>
              have HT : Hid (sel ow inp y = true) := Lib.hid (by rw [hsl, ho, hs, ha, hb2]; rfl)
              clear hsl FF
              go_wp2_with (at_builtin; refine wpList_append_own _ rfl _ _ 130 rfl (w.heap.size + 1) 3 i0 (.int .i64 0) 1 8 Try.underlying130 hi hz0 hz1 hz2 rfl (by decide) _ _ _ rfl ((OW.out.alloc _).alloc _) ⟨wr.heap.size + 1, 0, none⟩ 1 1 [.int .i64 (kk : Int)] rfl rfl ?c1 ?c2 ?c3 ?c4 ?c5 ?_)
              case c1 =>
                intro j u hj
                match j, hj with
                | 0, hj => simp at hj; subst hj; simp [Addr.add]
              case c2 => intro u hu; simp at hu; subst hu; rfl
              case c3 => unfold maxLen; omega
              case c4 => omega
              case c5 => simp; omega
              intro v' w1 hown hgrow _
              have HB := Lib.hid (((BW.out.alloc hws _).alloc (by simp; omega) _).grown hgrow (by simp; omega) (fun g hg => (OW.out.lt g hg).1))
              have HO : Hid (w1.ownsRow (w.heap.size + 1) 3 1 v' ((T.take (kk + 1)).countP (sel ow inp)) (nums (idx (sel ow inp) 0 (T.take (kk + 1))))) := Lib.hid (by rw [IH.out HT.out, CH.out HT.out, nums_append]; exact hown)
              clear hown hgrow
              go_wp2
              go_roundg (T.length - (kk + 1))
              case measure => omega
              case rel => exact ⟨kk + 1, by omega, by omega, by go_num, HO, HB⟩
            | false =>
              have HF := FF.out (by rw [hsl, ho, hs, ha, hb2]; rfl)
              clear hsl FF
              go_wp2
              go_roundg (T.length - (kk + 1))
              case measure => omega
              case rel => exact ⟨kk + 1, by omega, by omega, by go_num, (HF _).1, (HF _).2⟩
    · have hltz : ¬ (kk : Int) < (T.length : Int) := by omega
      have : kk = T.length := by omega
      subst this
      have F : Hid (OfP w T (sel ow inp) (.returned u9) wr) := Lib.hid ⟨u9, rfl, by simpa using OW.out, ((Below.refl _ _).alloc (Nat.le_refl _) _).trans (BW.out.mono (by omega))⟩
      clear OW BW
      go_wp2
      go_ret
      exact F.out
end Go.Proofs.Ytjjcmclnjeplkaa.PM
