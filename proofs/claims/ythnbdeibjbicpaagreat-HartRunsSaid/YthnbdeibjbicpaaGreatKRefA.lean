/- Contracts of the reference's copied and of. Conditions: the slice's cells. -/
import Derived.Test.YthnbdeibjbicpaaGreatRef1
import Derived.Test.YthnbdeibjbicpaaGreatKTabC
import Derived.OwnWalk
import Derived.BigRegion
set_option linter.unusedSimpArgs false
namespace Go.Proofs.YthnbdeibjbicpaaGreat.PM
set_option linter.unusedVariables false
open Go.RowKit
theorem info_page : (Tryz.prog.info? 109).map (fun i => (i.zero, i.size, i.bytes)) = some (some nz.v, 5, 16) := by kernel_rfl
theorem info_int : (Tryz.prog.info? 3).map (fun i => (i.zero, i.size, i.bytes)) = some (some (.int .i64 0), 1, 8) := by kernel_rfl
def Copied (w : World) (T : List Page) (e : Ending) (w' : World) : Prop := ∃ b c, e = .returned (rv b c T) ∧ w.heap.size ≤ b ∧ Pgs w' b T ∧ Below w.heap.size w w'
set_option maxHeartbeats 2000000 in
set_option maxRecDepth 100000 in
theorem copied_c (w : World) (b c : Nat) (T : List Page) (hp : Pgs w b T) (few : T.length ≤ 256) :
    Calls Tryz.prog 58 #[rv b c T] w fun e w' => Copied w T e w' := by
  obtain ⟨i0, hi, hz0, hz1, hz2⟩ := info_parts info_page
  have HP := Lib.hid hp
  have hb := hp.lt
  clear hp
  have HM : (((w.alloc (.cells #[.slice (some ⟨b, 0, none⟩) T.length c] 34)).alloc (.cells #[.slice none 0 0] 34)).alloc (.cells #[] 109)).ownsRow (w.heap.size + 2) 109 5 (.slice (some ⟨w.heap.size + 2, 0, none⟩) 0 0) 0 [] := by
    have := World.ownsRow_made (base := w.heap.size + 2) (e := 109) (size := 5) ((w.alloc (.cells #[.slice (some ⟨b, 0, none⟩) T.length c] 34)).alloc (.cells #[.slice none 0 0] 34)) #[] 0 (by simp) (Nat.zero_le _) (by simp)
    simpa using this
  unfold rv
  go_enter Tryz.func58, Tryz.ntmps58
  go_wp2_with (at_builtin; refine wpList_append_own _ rfl _ _ 32 rfl (w.heap.size + 2) 109 i0 nz.v 5 16 Tryz.underlying32 hi hz0 hz1 hz2 (by kernel_rfl) (by decide) _ _ _ rfl HM ⟨b, 0, none⟩ T.length c (flat T) rfl ?qc1 ?qc2 ?qc3 ?qc4 ?qc5 ?qc6 ?_)
  case qc1 => exact flat_length T
  case qc2 =>
    intro j u hj
    rw [add_row]
    exact (((HP.out.alloc _).alloc _).alloc _).cells j u hj
  case qc3 =>
    intro u hu
    simp only [flat, List.mem_flatMap] at hu
    obtain ⟨p, _, hu⟩ := hu
    simp [Page.c] at hu
    rcases hu with rfl | rfl | rfl | rfl | rfl <;> rfl
  case qc4 => simp [maxLen]; omega
  case qc5 => omega
  case qc6 => simp
  intro v' w1 hown hgrow hnil
  obtain ⟨h', c', rfl, hg, hp, hc⟩ := Pgs.own hown hnil
  have hsz := hgrow.size
  simp only [World.size_alloc] at hsz
  have e1 : w1.heap[w.heap.size + 1]? = (((w.alloc (.cells #[.slice (some ⟨b, 0, none⟩) T.length c] 34)).alloc (.cells #[.slice none 0 0] 34)).alloc (.cells #[] 109)).heap[w.heap.size + 1]? := hgrow.block _ (by simp) (by simp [Value.ownBlock])
  have k1 : w1.cell? ⟨w.heap.size + 1, 0, none⟩ = some (.slice none 0 0) := (World.cell?_of_block (a := ⟨w.heap.size + 1, 0, none⟩) e1).trans (by rw [World.cell?_alloc_past _ _ _ (by simp), World.cell?_alloc_at _ _ _ _ (by simp)]; rfl)
  have f1 : w1.frozen? ⟨w.heap.size + 1, 0, none⟩ = false := (World.frozen?_of_block (a := ⟨w.heap.size + 1, 0, none⟩) e1).trans (by rw [World.frozen?_alloc_old _ _ _ (by simp)]; exact World.frozen?_alloc_at _ _ _ _ (by simp))
  have F : Hid (∀ u, Copied w T (.returned (rv h' c' T)) (w1.setCell ⟨w.heap.size + 1, 0, none⟩ u)) := Lib.hid (fun u => ⟨h', c', rfl, by omega, hp.far (by show h' ≠ w.heap.size + 1; omega) _,
    (((((Below.refl _ _).alloc (Nat.le_refl _) _).alloc (by simp) _).alloc (by simp; omega) _).grown hgrow (by simp; omega) (by intro k hk; simp [Value.ownBlock] at hk; omega)).setCell (by show w.heap.size ≤ w.heap.size + 1; omega) _⟩)
  clear hown hgrow hnil e1 hp HM
  go_wp2
  refine bodyPost_ret (v := rv h' c' T) (by simp [rv, results, Tryz.results58, go_sem, *]) rfl ?_
  exact F.out _
def nums (l : List Nat) : List Value := l.map (fun j : Nat => Value.int .i64 (j : Int))
theorem nums_append (l m : List Nat) : nums (l ++ m) = nums l ++ nums m := List.map_append
def OfP (w : World) (T : List Page) (sl : Page → Bool) (e : Ending) (w' : World) : Prop := ∃ v, e = .returned v ∧ w'.ownsRow (w.heap.size + 1) 3 1 v (T.countP sl) (nums (idx sl 0 T)) ∧ Below w.heap.size w w'
set_option maxHeartbeats 4000000 in
set_option maxRecDepth 100000 in
theorem of_c (w : World) (b c : Nat) (T : List Page) (hp : Pgs w b T) (few : T.length ≤ 256) (ow qa qb : Nat) (inp : Nat → Bool) (hinp : ∀ s : Nat, inp s = (((s : Int) == (qa : Int)) || ((s : Int) == (qb : Int)))) :
    Calls Tryz.prog 69 #[rv b c T, .int .u16 (ow : Int), .int .u8 (qa : Int), .int .u8 (qb : Int)] w fun e w' => OfP w T (sel ow inp) e w' := by
  obtain ⟨i0, hi, hz0, hz1, hz2⟩ := info_parts info_int
  have HP := Lib.hid hp
  have HI := Lib.hid hinp
  have hb := hp.lt
  clear hp hinp
  unfold rv
  go_enter Tryz.func69, Tryz.ntmps69
  go_wp2
  go_loopg [9, 10] T.length (fun gg s9 s10 wr => ∃ kk : Nat, kk ≤ T.length ∧ T.length - kk ≤ gg ∧ s10 = .int .i64 (kk : Int) ∧ Hid (wr.ownsRow (w.heap.size + 1) 3 1 s9 ((T.take kk).countP (sel ow inp)) (nums (idx (sel ow inp) 0 (T.take kk)))) ∧ Hid (Below (w.heap.size + 1) (w.alloc (.cells #[.slice (some ⟨b, 0, none⟩) T.length c] 34)) wr))
  case atStart => exact ⟨0, Nat.zero_le _, by omega, rfl, Lib.hid (World.ownsRow_nil _ _ _ _), Lib.hid (Below.refl _ _)⟩
  case round =>
    obtain ⟨kk, hkk, hg, rfl, OW, BW⟩ := hrel
    have r0 : wr.cell? ⟨w.heap.size, 0, none⟩ = some (.slice (some ⟨b, 0, none⟩) T.length c) := (BW.out.cell (p := ⟨w.heap.size, 0, none⟩) (by show w.heap.size < w.heap.size + 1; omega)).trans (by simp)
    have hws : w.heap.size + 1 ≤ wr.heap.size := by have := BW.out.size; simpa using this
    by_cases hlt : kk < T.length
    · have hltz : (kk : Int) < (T.length : Int) := by omega
      have hl := ((HP.out.alloc (.cells #[.slice (some ⟨b, 0, none⟩) T.length c] 34)).kept (BW.out.mono (by simp) : Below (w.alloc (.cells #[.slice (some ⟨b, 0, none⟩) T.length c] 34)).heap.size _ wr)).lies hlt
      have hbw : b < wr.heap.size := by omega
      have ihit := idx_hit (sel ow inp) T kk hlt
      have imiss := idx_miss (sel ow inp) T kk hlt
      have chit := count_hit (sel ow inp) T kk hlt
      have cmiss := count_miss (sel ow inp) T kk hlt
      have hcle : (T.take kk).countP (sel ow inp) ≤ 256 := by
        have := List.countP_le_length (p := sel ow inp) (l := T.take kk)
        simp at this; omega
      generalize T[kk]! = y at hl ihit imiss chit cmiss
      obtain ⟨c0, c1, c2, c3, c4⟩ := hl
      have hsl : sel ow inp y = (((y.ow : Int) == (ow : Int)) && (((y.s : Int) != 0) && (((y.s : Int) == (qa : Int)) || ((y.s : Int) == (qb : Int))))) := by
        unfold sel
        have e1 : (y.ow == ow) = ((y.ow : Int) == (ow : Int)) := by rw [Bool.eq_iff_iff]; simp; omega
        have e2 : (y.s != 0) = ((y.s : Int) != 0) := by rw [Bool.eq_iff_iff]; simp
        rw [e1, e2, HI.out]
      have IH := Lib.hid ihit
      have IM := Lib.hid imiss
      have CH := Lib.hid chit
      have CM := Lib.hid cmiss
      clear ihit imiss chit cmiss
      have finF : sel ow inp y = false → ∀ o : Obj, Hid ((wr.alloc o).ownsRow (w.heap.size + 1) 3 1 u9 ((T.take (kk + 1)).countP (sel ow inp)) (nums (idx (sel ow inp) 0 (T.take (kk + 1))))) ∧ Hid (Below (w.heap.size + 1) (w.alloc (.cells #[.slice (some ⟨b, 0, none⟩) T.length c] 34)) (wr.alloc o)) := fun hf o =>
        ⟨Lib.hid (by rw [IM.out hf, CM.out hf]; exact OW.out.alloc o), Lib.hid (BW.out.alloc hws o)⟩
      have FF := Lib.hid finF
      clear finF
      cases ho : ((y.ow : Int) == (ow : Int)) with
      | false =>
        have HF := FF.out (by rw [hsl, ho]; rfl)
        clear hsl FF
        go_wp2
        go_roundg (T.length - (kk + 1))
        case measure => omega
        case rel => exact ⟨kk + 1, by omega, by omega, by go_num, (HF _).1, (HF _).2⟩
      | true =>
        cases hs : ((y.s : Int) != 0) with
        | false =>
          have HF := FF.out (by rw [hsl, ho, hs]; rfl)
          clear hsl FF
          go_wp2
          go_roundg (T.length - (kk + 1))
          case measure => omega
          case rel => exact ⟨kk + 1, by omega, by omega, by go_num, (HF _).1, (HF _).2⟩
        | true =>
          cases ha : ((y.s : Int) == (qa : Int)) with
          | true =>
            have HT : Hid (sel ow inp y = true) := Lib.hid (by rw [hsl, ho, hs, ha]; rfl)
            clear hsl FF
            go_wp2_with (at_builtin; refine wpList_append_own _ rfl _ _ 125 rfl (w.heap.size + 1) 3 i0 (.int .i64 0) 1 8 Tryz.underlying125 hi hz0 hz1 hz2 rfl (by decide) _ _ _ rfl ((OW.out.alloc _).alloc _) ⟨wr.heap.size + 1, 0, none⟩ 1 1 [.int .i64 (kk : Int)] rfl rfl ?c1 ?c2 ?c3 ?c4 ?c5 ?_)
            case c1 =>
              intro j u hj
              match j, hj with
              | 0, hj => simp at hj; subst hj; simp [Addr.add]
            case c2 => intro u hu; simp at hu; subst hu; rfl
            case c3 => unfold maxLen; omega
            case c4 => omega
            case c5 => simp; omega
            intro v' w1 hown hgrow _
            have HB := Lib.hid (((BW.out.alloc hws _).alloc (by simp; omega) _).grown hgrow (by simp; omega) (fun g hg => (OW.out.lt g hg).1))
            have HO : Hid (w1.ownsRow (w.heap.size + 1) 3 1 v' ((T.take (kk + 1)).countP (sel ow inp)) (nums (idx (sel ow inp) 0 (T.take (kk + 1))))) := Lib.hid (by rw [IH.out HT.out, CH.out HT.out, nums_append]; exact hown)
            clear hown hgrow
            go_wp2
            go_roundg (T.length - (kk + 1))
            case measure => omega
            case rel => exact ⟨kk + 1, by omega, by omega, by go_num, HO, HB⟩
          | false =>
            cases hb2 : ((y.s : Int) == (qb : Int)) with
            | true =>
              have HT : Hid (sel ow inp y = true) := Lib.hid (by rw [hsl, ho, hs, ha, hb2]; rfl)
              clear hsl FF
              go_wp2_with (at_builtin; refine wpList_append_own _ rfl _ _ 125 rfl (w.heap.size + 1) 3 i0 (.int .i64 0) 1 8 Tryz.underlying125 hi hz0 hz1 hz2 rfl (by decide) _ _ _ rfl ((OW.out.alloc _).alloc _) ⟨wr.heap.size + 1, 0, none⟩ 1 1 [.int .i64 (kk : Int)] rfl rfl ?c1 ?c2 ?c3 ?c4 ?c5 ?_)
              case c1 =>
                intro j u hj
                match j, hj with
                | 0, hj => simp at hj; subst hj; simp [Addr.add]
              case c2 => intro u hu; simp at hu; subst hu; rfl
              case c3 => unfold maxLen; omega
              case c4 => omega
              case c5 => simp; omega
              intro v' w1 hown hgrow _
              have HB := Lib.hid (((BW.out.alloc hws _).alloc (by simp; omega) _).grown hgrow (by simp; omega) (fun g hg => (OW.out.lt g hg).1))
              have HO : Hid (w1.ownsRow (w.heap.size + 1) 3 1 v' ((T.take (kk + 1)).countP (sel ow inp)) (nums (idx (sel ow inp) 0 (T.take (kk + 1))))) := Lib.hid (by rw [IH.out HT.out, CH.out HT.out, nums_append]; exact hown)
              clear hown hgrow
              go_wp2
              go_roundg (T.length - (kk + 1))
              case measure => omega
              case rel => exact ⟨kk + 1, by omega, by omega, by go_num, HO, HB⟩
            | false =>
              have HF := FF.out (by rw [hsl, ho, hs, ha, hb2]; rfl)
              clear hsl FF
              go_wp2
              go_roundg (T.length - (kk + 1))
              case measure => omega
              case rel => exact ⟨kk + 1, by omega, by omega, by go_num, (HF _).1, (HF _).2⟩
    · have hltz : ¬ (kk : Int) < (T.length : Int) := by omega
      have : kk = T.length := by omega
      subst this
      have F : Hid (OfP w T (sel ow inp) (.returned u9) wr) := Lib.hid ⟨u9, rfl, by simpa using OW.out, ((Below.refl _ _).alloc (Nat.le_refl _) _).trans (BW.out.mono (by omega))⟩
      clear OW BW
      go_wp2
      go_ret
      exact F.out
end Go.Proofs.YthnbdeibjbicpaaGreat.PM

/- Contract of the reference's Stage. Conditions: the slice's cells. -/
set_option linter.unusedSimpArgs false
namespace Go.Proofs.YthnbdeibjbicpaaGreat.PM
set_option linter.unusedVariables false
open Go.RowKit
/-- What a call of the reference's table leaves. -/
def RDone (w : World) (b : Nat) (T : List Page) (k : Nat) (e : Ending) (w' : World) : Prop := ∃ b' c', e = .returned (.tuple #[rv b' c' T, .int .i64 (k : Int)]) ∧ Pgs w' b' T ∧ (b' = b ∨ w.heap.size ≤ b') ∧ Below w.heap.size w w'
def hitB (ow f m i : Nat) (p : Page) : Bool := p.s != 0 && (p.ow == ow || (decide (f ≤ i) && decide (i < f + m)))
theorem hit_any (ow f m : Nat) (T : List Page) (i : Nat) (hi : i < T.length) (h : hitB ow f m i T[i]! = true) : (T.any (mineB ow) || ((T.drop f).take m).any takenB) = true := by
  unfold hitB at h
  simp only [Bool.and_eq_true, Bool.or_eq_true, decide_eq_true_eq] at h
  obtain ⟨h1, h2 | ⟨h2, h3⟩⟩ := h
  · rw [Bool.or_eq_true]; left
    rw [List.any_eq_true]
    exact ⟨T[i]!, by simp [hi], by unfold mineB; rw [h1, h2]; rfl⟩
  · rw [Bool.or_eq_true]; right
    rw [List.any_eq_true]
    refine ⟨T[i]!, ?_, h1⟩
    rw [List.mem_take_iff_getElem]
    refine ⟨i - f, by simp; omega, ?_⟩
    have e : f + (i - f) = i := by omega
    simp [hi, e]
theorem hit_none (ow f m : Nat) (T : List Page) (h : ∀ i, i < T.length → hitB ow f m i T[i]! = false) : (T.any (mineB ow) || ((T.drop f).take m).any takenB) = false := by
  rw [Bool.or_eq_false_iff]
  constructor
  · rw [List.any_eq_false]
    intro p hp
    obtain ⟨i, hi, rfl⟩ := List.getElem_of_mem hp
    have := h i hi
    have e : T[i]! = T[i] := by simp [hi]
    rw [e] at this
    unfold hitB at this
    unfold mineB
    intro hc
    simp only [Bool.and_eq_true] at hc
    rw [hc.1, hc.2] at this
    simp at this
  · rw [List.any_eq_false]
    intro p hp
    rw [List.mem_take_iff_getElem] at hp
    obtain ⟨j, hj, rfl⟩ := hp
    simp only [List.getElem_drop]
    have hlt : f + j < T.length := by simp at hj; omega
    have := h (f + j) hlt
    have e : T[f + j]! = T[f + j] := by simp [hlt]
    rw [e] at this
    unfold hitB at this
    unfold takenB
    intro hc
    rw [hc] at this
    simp at this hj
    omega
set_option maxHeartbeats 4000000 in
theorem rstage_c (w : World) (b c : Nat) (T : List Page) (hp : Pgs w b T) (few : T.length ≤ 256) (fr n : Int) (ow : Nat) :
    Calls Tryz.prog 16 #[rv b c T, .int .i64 fr, .int .i64 n, .int .u16 (ow : Int)] w fun e w' => RDone w b (stageM T fr n ow).1 (stageM T fr n ow).2 e w' := by
  have hb := hp.lt
  have KA : ∀ k : Nat, ∀ u, Hid (RDone w b T k (.returned (.tuple #[rv b c T, .int .i64 (k : Int)])) ((w.alloc (.cells #[.slice (some ⟨b, 0, none⟩) T.length c] 34)).alloc (.cells u 34))) := fun k u =>
    Lib.hid ⟨b, c, rfl, (hp.alloc _).alloc _, Or.inl rfl, ((Below.refl _ _).alloc (Nat.le_refl _) _).alloc (by simp) _⟩
  have HP := Lib.hid hp
  clear hp
  have hog : ((ow : Int) == 0) = (ow == 0) := by rw [Bool.eq_iff_iff]; simp
  unfold stageM
  by_cases h0 : ow = 0
  · rw [if_pos (Or.inl h0)]
    subst h0
    unfold rv at KA ⊢
    go_enter Tryz.func16, Tryz.ntmps16
    go_wp2_with fail
    (try simp only [Exit.inBlock, Exit.then])
    refine bodyPost_ret (v := .tuple #[.agg #[.slice (some ⟨b, 0, none⟩) T.length c], .int .i64 2]) (by simp [results, Tryz.results16, go_sem, *]) rfl ?_
    exact (KA 2 _).out
  have hob : ((ow : Int) == 0) = false := by rw [hog]; simpa using h0
  clear hog
  by_cases h1 : n < 1
  · rw [if_pos (Or.inr h1)]
    unfold rv at KA ⊢
    go_enter Tryz.func16, Tryz.ntmps16
    go_wp2_with fail
    (try simp only [Exit.inBlock, Exit.then])
    refine bodyPost_ret (v := .tuple #[.agg #[.slice (some ⟨b, 0, none⟩) T.length c], .int .i64 2]) (by simp [results, Tryz.results16, go_sem, *]) rfl ?_
    exact (KA 2 _).out
  rw [if_neg (by omega)]
  by_cases h2 : fr < 0
  · rw [if_pos (by omega)]
    unfold rv at KA ⊢
    go_enter Tryz.func16, Tryz.ntmps16
    go_wp2_with fail
    (try simp only [Exit.inBlock, Exit.then])
    refine bodyPost_ret (v := .tuple #[.agg #[.slice (some ⟨b, 0, none⟩) T.length c], .int .i64 11]) (by simp [results, Tryz.results16, go_sem, *]) rfl ?_
    exact (KA 11 _).out
  by_cases h3 : (T.length : Int) < fr
  · rw [if_pos (by omega)]
    unfold rv at KA ⊢
    go_enter Tryz.func16, Tryz.ntmps16
    go_wp2_with fail
    (try simp only [Exit.inBlock, Exit.then])
    refine bodyPost_ret (v := .tuple #[.agg #[.slice (some ⟨b, 0, none⟩) T.length c], .int .i64 11]) (by simp [results, Tryz.results16, go_sem, *]) rfl ?_
    exact (KA 11 _).out
  obtain ⟨f, rfl⟩ : ∃ f : Nat, fr = (f : Int) := ⟨fr.toNat, by omega⟩
  by_cases h4 : (T.length : Int) - (f : Int) < n
  · rw [if_pos (by omega)]
    unfold rv at KA ⊢
    go_enter Tryz.func16, Tryz.ntmps16
    go_wp2_with fail
    (try simp only [Exit.inBlock, Exit.then])
    refine bodyPost_ret (v := .tuple #[.agg #[.slice (some ⟨b, 0, none⟩) T.length c], .int .i64 11]) (by simp [results, Tryz.results16, go_sem, *]) rfl ?_
    exact (KA 11 _).out
  rw [if_neg (by omega)]
  obtain ⟨m, rfl⟩ : ∃ m : Nat, n = (m : Int) := ⟨n.toNat, by omega⟩
  simp only [Int.toNat_natCast]
  clear KA
  have HA := Lib.hid (hit_any ow f m T)
  have HN := Lib.hid (hit_none ow f m T)
  generalize (T.any (mineB ow) || ((T.drop f).take m).any takenB) = any_ at HA HN ⊢
  have R1 : any_ = true → (if any_ = true then (T, 9) else (fillN ow T f m, 0)) = (T, 9) := fun h => if_pos h
  have R2 : any_ = false → (if any_ = true then (T, 9) else (fillN ow T f m, 0)) = (fillN ow T f m, 0) := fun h => if_neg (by rw [h]; decide)
  generalize (if any_ = true then (T, 9) else (fillN ow T f m, 0)) = R at R1 R2 ⊢
  have R1 := Lib.hid R1
  have R2 := Lib.hid R2
  generalize hW0 : (w.alloc (.cells #[.slice (some ⟨b, 0, none⟩) T.length c] 34)).alloc (.cells #[.slice none 0 0] 34) = W0
  have BA : Blk W0 w.heap.size 34 #[.slice (some ⟨b, 0, none⟩) T.length c] := by rw [← hW0]; exact (Blk.new w _ _).alloc _
  have BZ : Blk W0 (w.heap.size + 1) 34 #[.slice none 0 0] := by
    rw [← hW0]
    have := Blk.new (w.alloc (.cells #[.slice (some ⟨b, 0, none⟩) T.length c] 34)) 34 #[.slice none 0 0]
    simpa using this
  have PW0 : Pgs W0 b T := by rw [← hW0]; exact (HP.out.alloc _).alloc _
  have S0 : W0.heap.size = w.heap.size + 2 := by rw [← hW0]; simp
  have B0 : Below w.heap.size w W0 := by rw [← hW0]; exact ((Below.refl _ _).alloc (Nat.le_refl _) _).alloc (by simp) _
  have KW := Lib.hid hW0
  have BA := Lib.hid BA
  have BZ := Lib.hid BZ
  have PW0 := Lib.hid PW0
  have S0 := Lib.hid S0
  have B0 := Lib.hid B0
  clear hW0
  unfold rv
  go_enter Tryz.func16, Tryz.ntmps16
  go_wp2_with fail
  rw [KW.out]
  go_loopg [10] T.length (fun gg s10 wr => ∃ kk : Nat, kk ≤ T.length ∧ T.length - kk ≤ gg ∧ s10 = .int .i64 (kk : Int) ∧ Hid (∀ j, j < kk → hitB ow f m j T[j]! = false) ∧ Hid (Below W0.heap.size W0 wr))
  case atStart => exact ⟨0, Nat.zero_le _, by omega, rfl, Lib.hid (fun j hj => absurd hj (Nat.not_lt_zero _)), Lib.hid (Below.refl _ _)⟩
  case round =>
    obtain ⟨kk, hkk, hg, rfl, AN, BW⟩ := hrel
    have r0 : wr.cell? ⟨w.heap.size, 0, none⟩ = some (.slice (some ⟨b, 0, none⟩) T.length c) := (BA.out.kept BW.out).cell 0
    have r1 : wr.cell? ⟨w.heap.size + 1, 0, none⟩ = some (.slice none 0 0) := (BZ.out.kept BW.out).cell 0
    have r2 : wr.frozen? ⟨w.heap.size + 1, 0, none⟩ = false := (BZ.out.kept BW.out).frozen 0
    have hws : w.heap.size + 2 ≤ wr.heap.size := by have := BW.out.size; rw [S0.out] at this; exact this
    have hw0 : w.heap.size < wr.heap.size := by omega
    have hw1 : w.heap.size + 1 < wr.heap.size := by omega
    by_cases hlt : kk < T.length
    · have hltz : (kk : Int) < (T.length : Int) := by omega
      have hl := (PW0.out.kept BW.out).lies hlt
      have hhit := HA.out kk hlt
      have BH : Hid (T[kk]! = T[kk]!) := Lib.hid rfl
      have hnext : hitB ow f m kk T[kk]! = false → Hid (∀ j, j < kk + 1 → hitB ow f m j T[j]! = false) := fun hf => Lib.hid (fun j hj => by
        by_cases e : j = kk
        · subst e; exact hf
        · exact AN.out j (by omega))
      have hbw : b < wr.heap.size := by omega
      generalize T[kk]! = y at hl hhit hnext
      obtain ⟨c0, c1, c2, c3, c4⟩ := hl
      have hsl : hitB ow f m kk y = (((y.s : Int) != 0) && (((y.ow : Int) == (ow : Int)) || (decide (f ≤ kk) && decide (kk < f + m)))) := by
        unfold hitB
        have e1 : (y.ow == ow) = ((y.ow : Int) == (ow : Int)) := by rw [Bool.eq_iff_iff]; simp; omega
        have e2 : (y.s != 0) = ((y.s : Int) != 0) := by rw [Bool.eq_iff_iff]; simp
        rw [e1, e2]
      have FN := Lib.hid hnext
      have FH := Lib.hid hhit
      clear hnext hhit
      cases hs : ((y.s : Int) != 0) with
      | false =>
        have HF := FN.out (by rw [hsl, hs]; rfl)
        have HB := Lib.hid (BW.out.alloc (by rw [S0.out]; exact hws) (Obj.cells #[.int .u8 (y.s : Int), .bool y.x, .bool y.wr, .int .u16 (y.ow : Int), .int .u64 (y.ep : Int)] 109))
        clear hsl FN FH
        go_wp2_with fail
        go_roundg (T.length - (kk + 1))
        case measure => omega
        case rel => exact ⟨kk + 1, by omega, by omega, by go_num, HF, HB⟩
      | true =>
        cases ho : ((y.ow : Int) == (ow : Int)) with
        | true =>
          have HT : any_ = true := FH.out (by rw [hsl, hs, ho]; rfl)
          have HR := Lib.hid (R1.out HT)
          have FD : ∀ (u : Value) (o : Obj), Hid (RDone w b T 9 (.returned (.tuple #[rv b c T, .int .i64 ((9 : Nat) : Int)])) ((wr.setCell ⟨w.heap.size + 1, 0, none⟩ u).alloc o)) := fun u o => Lib.hid ⟨b, c, rfl, ((PW0.out.kept BW.out).far (by show b ≠ w.heap.size + 1; omega) _).alloc _, Or.inl rfl, (((B0.out.trans (BW.out.mono (by rw [S0.out]; omega))).setCell (by show w.heap.size ≤ w.heap.size + 1; omega) _).alloc (by simp [World.setCell]; omega) _)⟩
          clear hsl FN FH HT
          go_wp2_with fail
          (try simp only [Exit.inBlock, Exit.then])
          refine bodyPost_ret (v := .tuple #[.agg #[.slice (some ⟨b, 0, none⟩) T.length c], .int .i64 9]) (by simp [results, Tryz.results16, go_sem, *]) rfl ?_
          rw [HR.out]
          exact (FD _ _).out
        | false =>
          by_cases hf : f ≤ kk
          · have hfi : (f : Int) ≤ (kk : Int) := by omega
            by_cases hkm : kk < f + m
            · have hki : (kk : Int) < (f : Int) + (m : Int) := by omega
              have HT : any_ = true := FH.out (by rw [hsl, hs, ho]; simp [hf, hkm])
              have HR := Lib.hid (R1.out HT)
              have FD : ∀ (u : Value) (o : Obj), Hid (RDone w b T 9 (.returned (.tuple #[rv b c T, .int .i64 ((9 : Nat) : Int)])) ((wr.setCell ⟨w.heap.size + 1, 0, none⟩ u).alloc o)) := fun u o => Lib.hid ⟨b, c, rfl, ((PW0.out.kept BW.out).far (by show b ≠ w.heap.size + 1; omega) _).alloc _, Or.inl rfl, (((B0.out.trans (BW.out.mono (by rw [S0.out]; omega))).setCell (by show w.heap.size ≤ w.heap.size + 1; omega) _).alloc (by simp [World.setCell]; omega) _)⟩
              clear hsl FN FH HT
              go_wp2_with fail
              (try simp only [Exit.inBlock, Exit.then])
              refine bodyPost_ret (v := .tuple #[.agg #[.slice (some ⟨b, 0, none⟩) T.length c], .int .i64 9]) (by simp [results, Tryz.results16, go_sem, *]) rfl ?_
              rw [HR.out]
              exact (FD _ _).out
            · have hki : ¬ (kk : Int) < (f : Int) + (m : Int) := by omega
              have HF := FN.out (by rw [hsl, hs, ho]; simp [hkm])
              have HB := Lib.hid (BW.out.alloc (by rw [S0.out]; exact hws) (Obj.cells #[.int .u8 (y.s : Int), .bool y.x, .bool y.wr, .int .u16 (y.ow : Int), .int .u64 (y.ep : Int)] 109))
              clear hsl FN FH
              go_wp2_with fail
              go_roundg (T.length - (kk + 1))
              case measure => omega
              case rel => exact ⟨kk + 1, by omega, by omega, by go_num, HF, HB⟩
          · have hfi : ¬ (f : Int) ≤ (kk : Int) := by omega
            have HF := FN.out (by rw [hsl, hs, ho]; simp [hf])
            have HB := Lib.hid (BW.out.alloc (by rw [S0.out]; exact hws) (Obj.cells #[.int .u8 (y.s : Int), .bool y.x, .bool y.wr, .int .u16 (y.ow : Int), .int .u64 (y.ep : Int)] 109))
            clear hsl FN FH
            go_wp2_with fail
            go_roundg (T.length - (kk + 1))
            case measure => omega
            case rel => exact ⟨kk + 1, by omega, by omega, by go_num, HF, HB⟩
    · have hltz : ¬ (kk : Int) < (T.length : Int) := by omega
      have : kk = T.length := by omega
      subst this
      have HT : any_ = false := HN.out (fun i hi => AN.out i hi)
      have HR := Lib.hid (R2.out HT)
      have CC := Lib.hid (copied_c wr b c T (PW0.out.kept BW.out) few)
      clear HT HN HA R1 R2
      go_wp2_with fail
      refine CC.out.mono ?_
      rintro e w3 ⟨b', c', rfl, hb', hp', hbel⟩
      have s3 := hbel.size
      have HP3 := Lib.hid hp'
      have BZ3 := Lib.hid (((BZ.out.kept BW.out).kept hbel).alloc (.cells #[.slice (some ⟨b', 0, none⟩) T.length c'] 34))
      have BX3 := Lib.hid (Blk.new w3 34 #[.slice (some ⟨b', 0, none⟩) T.length c'])
      have HB3 := Lib.hid ((B0.out.trans ((BW.out.trans (hbel.mono BW.out.size)).mono (by rw [S0.out]; omega))).alloc (by omega) (.cells #[.slice (some ⟨b', 0, none⟩) T.length c'] 34))
      have hp3 := hp'.lt
      have HX := Lib.hid hb'
      clear hp' hbel r0 r1 r2 hw0 hw1
      go_wp2_with fail
      go_loopg [13] m (fun gg s13 wx => ∃ kk : Nat, kk ≤ m ∧ m - kk ≤ gg ∧ s13 = .int .i64 ((f + kk : Nat) : Int) ∧ Hid (Pgs wx b' (fillN ow T f kk)) ∧ Hid (Upd b' (w3.alloc (.cells #[.slice (some ⟨b', 0, none⟩) T.length c'] 34)) wx))
      case atStart => exact ⟨0, Nat.zero_le _, by omega, rfl, Lib.hid (HP3.out.alloc _), Lib.hid (Upd.refl _ _)⟩
      case round =>
        obtain ⟨kk, hkk, hg, rfl, PW, UW⟩ := hrel
        have x0 : wr.cell? ⟨w3.heap.size, 0, none⟩ = some (.slice (some ⟨b', 0, none⟩) T.length c') := (UW.out.blk BX3.out (by omega)).cell 0
        by_cases hlt : kk < m
        · have hltz : ((f + kk : Nat) : Int) < (f : Int) + (m : Int) := by omega
          have hfk : f + kk < T.length := by omega
          have hfl : f + kk < (fillN ow T f kk).length := by rw [fillN_length]; exact hfk
          have hfz : ((f + kk : Nat) : Int) < (T.length : Int) := by omega
          have hl := PW.out.lies hfl
          have fz := PW.out.free
          have HS := Lib.hid (PW.out.set hfl (stg ow))
          have HU := Lib.hid (UW.out.store ((f + kk) * 5) (stg ow))
          generalize (fillN ow T f kk)[f + kk]! = y at hl
          obtain ⟨c0, c1, c2, c3, c4⟩ := hl
          have f0 := fz ((f + kk) * 5)
          have f1 := fz ((f + kk) * 5 + 1)
          have f2 := fz ((f + kk) * 5 + 2)
          have f3 := fz ((f + kk) * 5 + 3)
          have f4 := fz ((f + kk) * 5 + 4)
          clear fz PW
          go_wp2_with fail
          go_roundg (m - (kk + 1))
          case measure => omega
          case rel => exact ⟨kk + 1, by omega, by omega, by go_num, HS, HU⟩
        · have hltz : ¬ ((f + kk : Nat) : Int) < (f : Int) + (m : Int) := by omega
          have : kk = m := by omega
          subst this
          have x1 : wr.cell? ⟨w.heap.size + 1, 0, none⟩ = some (.slice none 0 0) := (UW.out.blk BZ3.out (by omega)).cell 0
          have x2 : wr.frozen? ⟨w.heap.size + 1, 0, none⟩ = false := (UW.out.blk BZ3.out (by omega)).frozen 0
          have FD : ∀ (u : Value), Hid (RDone w b (fillN ow T f kk) 0 (.returned (.tuple #[rv b' c' (fillN ow T f kk), .int .i64 ((0 : Nat) : Int)])) (wr.setCell ⟨w.heap.size + 1, 0, none⟩ u)) := fun u => Lib.hid ⟨b', c', rfl, PW.out.far (by show b' ≠ w.heap.size + 1; omega) _, Or.inr (by omega), (UW.out.below HB3.out (by omega)).setCell (by show w.heap.size ≤ w.heap.size + 1; omega) _⟩
          have FL := Lib.hid (fillN_length ow T f kk)
          clear PW
          go_wp2_with fail
          (try simp only [Exit.inBlock, Exit.then])
          refine bodyPost_ret (v := .tuple #[.agg #[.slice (some ⟨b', 0, none⟩) T.length c'], .int .i64 0]) (by simp [results, Tryz.results16, go_sem, *]) rfl ?_
          rw [HR.out]
          have := (FD (.slice (some ⟨b', 0, none⟩) T.length c')).out
          unfold rv at this
          rw [FL.out] at this
          exact this
end Go.Proofs.YthnbdeibjbicpaaGreat.PM

/- Contracts of the reference's Publish, Retire, Release. Conditions: the slice's cells. -/
set_option linter.unusedSimpArgs false
namespace Go.Proofs.YthnbdeibjbicpaaGreat.PM
set_option linter.unusedVariables false
open Go.RowKit
/-- What the reference's Publish does with the n-th page of an owner. -/
def pubFr (ow : Nat) (code : Int) (n : Nat) (_ : Page) : Page := ⟨2, decide ((n : Int) < code), decide (code ≤ (n : Int)), ow, 0⟩
def rpubM (T : List Page) (ow : Nat) (code : Int) : List Page × Nat :=
  if T.countP (sel ow (isS 1)) = 0 then (T, 8)
  else if code < 0 ∨ (T.countP (sel ow (isS 1)) : Int) < code then (T, 2)
  else (go (sel ow (isS 1)) (pubFr ow code) 0 T, 0)
theorem nums_at (l : List Nat) (r j : Nat) (h : l[r]? = some j) : (nums l)[r]? = some (.int .i64 (j : Int)) := by simp [nums, h]
theorem isS_or (q : Nat) (s : Nat) : isS q s = (((s : Int) == (q : Int)) || ((s : Int) == (q : Int))) := by
  unfold isS; rw [Bool.or_self, Bool.eq_iff_iff]; simp; omega
set_option maxHeartbeats 8000000 in
theorem rret_c (w : World) (b c : Nat) (T : List Page) (hp : Pgs w b T) (few : T.length ≤ 256) (ow ep : Nat) :
    Calls Tryz.prog 24 #[rv b c T, .int .u16 (ow : Int), .int .u64 (ep : Int)] w fun e w' => RDone w b (retM T ow ep).1 (retM T ow ep).2 e w' := by
  have hb := hp.lt
  generalize hW0 : (w.alloc (.cells #[.slice (some ⟨b, 0, none⟩) T.length c] 34)).alloc (.cells #[.slice none 0 0] 34) = W0
  have BA : Blk W0 w.heap.size 34 #[.slice (some ⟨b, 0, none⟩) T.length c] := by rw [← hW0]; exact (Blk.new w _ _).alloc _
  have BZ : Blk W0 (w.heap.size + 1) 34 #[.slice none 0 0] := by
    rw [← hW0]
    have := Blk.new (w.alloc (.cells #[.slice (some ⟨b, 0, none⟩) T.length c] 34)) 34 #[.slice none 0 0]
    simpa using this
  have PW0 : Pgs W0 b T := by rw [← hW0]; exact (hp.alloc _).alloc _
  have S0 : W0.heap.size = w.heap.size + 2 := by rw [← hW0]; simp
  have B0 : Below w.heap.size w W0 := by rw [← hW0]; exact ((Below.refl _ _).alloc (Nat.le_refl _) _).alloc (by simp) _
  have OF := Lib.hid (of_c W0 b c T PW0 few ow 2 2 (isS 2) (isS_or 2))
  have NX := Lib.hid (goN_next (sel ow (isS 2)) (retF ep) T)
  have NZ := Lib.hid (goN_low (sel ow (isS 2)) (retF ep) 0 0 (Nat.le_refl _) T)
  have NF := Lib.hid (goN_high (sel ow (isS 2)) (retF ep) (T.countP (sel ow (isS 2))) 0 T (by omega))
  have NL := Lib.hid (fun r => goN_length (sel ow (isS 2)) (retF ep) r 0 T)
  have GL := Lib.hid (go_length (sel ow (isS 2)) (retF ep) 0 T)
  have hcl : T.countP (sel ow (isS 2)) ≤ T.length := List.countP_le_length
  have IX := Lib.hid (idx_length (sel ow (isS 2)) 0 T)
  unfold retM
  generalize hcn : T.countP (sel ow (isS 2)) = n at hcl NX NF OF IX ⊢
  have CN := Lib.hid hcn
  clear hcn
  have KW := Lib.hid hW0
  have BA := Lib.hid BA
  have BZ := Lib.hid BZ
  have PW0 := Lib.hid PW0
  have S0 := Lib.hid S0
  have B0 := Lib.hid B0
  clear hW0 hp
  unfold rv
  by_cases h0 : n = 0
  · rw [if_pos h0]
    subst h0
    go_enter Tryz.func24, Tryz.ntmps24
    go_wp2_with fail
    rw [KW.out]
    refine OF.out.mono ?_
    rintro e w1 ⟨v, rfl, hown, hb1⟩
    have s1 := hb1.size
    rw [S0.out] at s1
    have r0 : w1.cell? ⟨w.heap.size, 0, none⟩ = some (.slice (some ⟨b, 0, none⟩) T.length c) := (BA.out.kept hb1).cell 0
    have r1 : w1.cell? ⟨w.heap.size + 1, 0, none⟩ = some (.slice none 0 0) := (BZ.out.kept hb1).cell 0
    have r2 : w1.frozen? ⟨w.heap.size + 1, 0, none⟩ = false := (BZ.out.kept hb1).frozen 0
    have FD : ∀ (k : Nat) (u : Value), Hid (RDone w b T k (.returned (.tuple #[rv b c T, .int .i64 (k : Int)])) (w1.setCell ⟨w.heap.size + 1, 0, none⟩ u)) := fun k u => Lib.hid ⟨b, c, rfl, (PW0.out.kept hb1).far (by show b ≠ w.heap.size + 1; omega) _, Or.inl rfl, (B0.out.trans (hb1.mono (by rw [S0.out]; omega))).setCell (by show w.heap.size ≤ w.heap.size + 1; omega) _⟩
    obtain ⟨hlen, hv⟩ := hown
    rw [CN.out] at hv hlen
    clear hb1
    rcases hv with ⟨rfl, hn0⟩ | ⟨q, cap, cur, rfl, hq, hh, hcap, hmax, hsz, htk⟩
    · clear hlen
      go_wp2_with fail
      (try simp only [Exit.inBlock, Exit.then])
      refine bodyPost_ret (v := .tuple #[.agg #[.slice (some ⟨b, 0, none⟩) T.length c], .int .i64 8]) (by simp [results, Tryz.results24, go_sem, *]) rfl ?_
      exact (FD 8 _).out
    · clear hlen hh hsz htk
      go_wp2_with fail
      (try simp only [Exit.inBlock, Exit.then])
      refine bodyPost_ret (v := .tuple #[.agg #[.slice (some ⟨b, 0, none⟩) T.length c], .int .i64 8]) (by simp [results, Tryz.results24, go_sem, *]) rfl ?_
      exact (FD 8 _).out
  rw [if_neg h0]
  have hnz : ¬ (n : Int) = 0 := by omega
  go_enter Tryz.func24, Tryz.ntmps24
  go_wp2_with fail
  rw [KW.out]
  refine OF.out.mono ?_
  rintro e w1 ⟨v, rfl, hown, hb1⟩
  have s1 := hb1.size
  rw [S0.out] at s1
  have r0 : w1.cell? ⟨w.heap.size, 0, none⟩ = some (.slice (some ⟨b, 0, none⟩) T.length c) := (BA.out.kept hb1).cell 0
  have r1 : w1.cell? ⟨w.heap.size + 1, 0, none⟩ = some (.slice none 0 0) := (BZ.out.kept hb1).cell 0
  have r2 : w1.frozen? ⟨w.heap.size + 1, 0, none⟩ = false := (BZ.out.kept hb1).frozen 0
  have FD : ∀ (k : Nat) (u : Value), Hid (RDone w b T k (.returned (.tuple #[rv b c T, .int .i64 (k : Int)])) (w1.setCell ⟨w.heap.size + 1, 0, none⟩ u)) := fun k u => Lib.hid ⟨b, c, rfl, (PW0.out.kept hb1).far (by show b ≠ w.heap.size + 1; omega) _, Or.inl rfl, (B0.out.trans (hb1.mono (by rw [S0.out]; omega))).setCell (by show w.heap.size ≤ w.heap.size + 1; omega) _⟩
  rw [CN.out] at hown
  obtain ⟨q, cap, rfl⟩ : ∃ q cap, v = .slice (some ⟨q, 0, none⟩) n cap := by
    rcases hown.2 with ⟨_, hn0⟩ | ⟨q, cap, _, hv, _⟩
    · exact absurd hn0 h0
    · exact ⟨q, cap, hv⟩
  have hq := (hown.lt q rfl)
  rw [S0.out] at hq
  have CQ : ∀ r j : Nat, (idx (sel ow (isS 2)) 0 T)[r]? = some j → w1.cell? ⟨q, r, none⟩ = some (.int .i64 (j : Int)) := fun r j hj => by
    have := hown.cells rfl r _ (nums_at _ _ _ hj)
    rw [add_row] at this
    exact this
  have CQ := Lib.hid CQ
  have CC := Lib.hid (copied_c w1 b c T (PW0.out.kept hb1) few)
  have BZ1 := Lib.hid (BZ.out.kept hb1)
  have HB1 := Lib.hid (B0.out.trans (hb1.mono (by rw [S0.out]; omega)))
  clear hown hb1 FD
  go_wp2_with fail
  refine CC.out.mono ?_
  rintro e w2 ⟨b', c', rfl, hb', hp', hbel⟩
  have s2 := hbel.size
  have HP3 := Lib.hid hp'
  have BZ3 := Lib.hid ((BZ1.out.kept hbel).alloc (.cells #[.slice (some ⟨b', 0, none⟩) T.length c'] 34))
  have BX3 := Lib.hid (Blk.new w2 34 #[.slice (some ⟨b', 0, none⟩) T.length c'])
  have HB3 := Lib.hid ((HB1.out.trans (hbel.mono (by omega))).alloc (by omega) (.cells #[.slice (some ⟨b', 0, none⟩) T.length c'] 34))
  have CQ3 : ∀ r j : Nat, (idx (sel ow (isS 2)) 0 T)[r]? = some j → (w2.alloc (.cells #[.slice (some ⟨b', 0, none⟩) T.length c'] 34)).cell? ⟨q, r, none⟩ = some (.int .i64 (j : Int)) := fun r j hj => by
    rw [World.cell?_alloc_past _ _ _ (by omega)]
    exact (hbel.cell (p := ⟨q, r, none⟩) hq.2).trans (CQ.out r j hj)
  have CQ3 := Lib.hid CQ3
  have hp3 := hp'.lt
  have hqb : q ≠ b' := by omega
  have hq2 : q < w2.heap.size := by omega
  clear hp' hbel r0 r1 r2 CQ
  go_wp2_with fail
  go_loopg [10] n (fun gg si wr => ∃ kk : Nat, kk ≤ n ∧ n - kk ≤ gg ∧ si = .int .i64 (kk : Int) ∧ Hid (Pgs wr b' (goN (sel ow (isS 2)) (retF ep) kk 0 T)) ∧ Hid (Upd b' (w2.alloc (.cells #[.slice (some ⟨b', 0, none⟩) T.length c'] 34)) wr))
  case atStart => exact ⟨0, Nat.zero_le _, by omega, rfl, Lib.hid (by rw [NZ.out]; exact HP3.out.alloc _), Lib.hid (Upd.refl _ _)⟩
  case round =>
    obtain ⟨kk, hkk, hg, rfl, PW, UW⟩ := hrel
    have x0 : wr.cell? ⟨w2.heap.size, 0, none⟩ = some (.slice (some ⟨b', 0, none⟩) T.length c') := (UW.out.blk BX3.out (by omega)).cell 0
    by_cases hlt : kk < n
    · have hltz : (kk : Int) < (n : Int) := by omega
      obtain ⟨j, hj, hjl, hjs, hje, hjn⟩ := NX.out kk hlt
      have l0 : wr.cell? ⟨q, kk, none⟩ = some (.int .i64 (j : Int)) := (UW.out.cell (p := ⟨q, kk, none⟩) (by simp; omega) hqb).trans (CQ3.out kk j hj)
      have hjz : (j : Int) < (T.length : Int) := by omega
      have hjl2 : j < (goN (sel ow (isS 2)) (retF ep) kk 0 T).length := by rw [NL.out]; exact hjl
      have hl := PW.out.lies hjl2
      have fz := PW.out.free
      have HS := Lib.hid (PW.out.set04 hjl2 3 ep _ hje)
      have HU := Lib.hid ((UW.out.setCell (j * 5) (.int .u8 3)).setCell (j * 5 + 4) (.int .u64 (ep : Int)))
      have HS : Hid (Pgs ((wr.setCell ⟨b', j * 5, none⟩ (.int .u8 ((3 : Nat) : Int))).setCell ⟨b', j * 5 + 4, none⟩ (.int .u64 (ep : Int))) b' (goN (sel ow (isS 2)) (retF ep) (kk + 1) 0 T)) := by
        rw [hjn]; exact HS
      clear hj hjs hje hjn
      generalize (goN (sel ow (isS 2)) (retF ep) kk 0 T)[j]! = y at hl
      obtain ⟨c0, c1, c2, c3, c4⟩ := hl
      have f0 := fz (j * 5)
      have f1 := fz (j * 5 + 1)
      have f2 := fz (j * 5 + 2)
      have f3 := fz (j * 5 + 3)
      have f4 := fz (j * 5 + 4)
      have n1 : ¬ q = b' := hqb
      have n2 : ¬ w2.heap.size = b' := by omega
      clear fz PW
      go_wp2_with fail
      go_region
      all_goals go_wp2_with fail
      go_roundg (n - (kk + 1))
      case measure => omega
      case rel => exact ⟨kk + 1, by omega, by omega, by go_num, Lib.hid (HS.out.drewN 1), Lib.hid (HU.out.drewN 1)⟩
    · have hltz : ¬ (kk : Int) < (n : Int) := by omega
      have : kk = n := by omega
      subst this
      have x1 : wr.cell? ⟨w.heap.size + 1, 0, none⟩ = some (.slice none 0 0) := (UW.out.blk BZ3.out (by omega)).cell 0
      have x2 : wr.frozen? ⟨w.heap.size + 1, 0, none⟩ = false := (UW.out.blk BZ3.out (by omega)).frozen 0
      have PF : Pgs wr b' (go (sel ow (isS 2)) (retF ep) 0 T) := by rw [← NF.out]; exact PW.out
      have FD : ∀ (u : Value), Hid (RDone w b (go (sel ow (isS 2)) (retF ep) 0 T) 0 (.returned (.tuple #[rv b' c' (go (sel ow (isS 2)) (retF ep) 0 T), .int .i64 ((0 : Nat) : Int)])) (wr.setCell ⟨w.heap.size + 1, 0, none⟩ u)) := fun u => Lib.hid ⟨b', c', rfl, PF.far (by show b' ≠ w.heap.size + 1; omega) _, Or.inr (by omega), (UW.out.below HB3.out (by omega)).setCell (by show w.heap.size ≤ w.heap.size + 1; omega) _⟩
      clear PW PF
      go_wp2_with fail
      (try simp only [Exit.inBlock, Exit.then])
      refine bodyPost_ret (v := .tuple #[.agg #[.slice (some ⟨b', 0, none⟩) T.length c'], .int .i64 0]) (by simp [results, Tryz.results24, go_sem, *]) rfl ?_
      have := (FD (.slice (some ⟨b', 0, none⟩) T.length c')).out
      unfold rv at this
      rw [GL.out] at this
      exact this
set_option maxHeartbeats 8000000 in
theorem rpub_c (w : World) (b c : Nat) (T : List Page) (hp : Pgs w b T) (few : T.length ≤ 256) (ow : Nat) (code : Int) :
    Calls Tryz.prog 20 #[rv b c T, .int .u16 (ow : Int), .int .i64 code] w fun e w' => RDone w b (rpubM T ow code).1 (rpubM T ow code).2 e w' := by
  have hb := hp.lt
  generalize hW0 : (w.alloc (.cells #[.slice (some ⟨b, 0, none⟩) T.length c] 34)).alloc (.cells #[.slice none 0 0] 34) = W0
  have BA : Blk W0 w.heap.size 34 #[.slice (some ⟨b, 0, none⟩) T.length c] := by rw [← hW0]; exact (Blk.new w _ _).alloc _
  have BZ : Blk W0 (w.heap.size + 1) 34 #[.slice none 0 0] := by
    rw [← hW0]
    have := Blk.new (w.alloc (.cells #[.slice (some ⟨b, 0, none⟩) T.length c] 34)) 34 #[.slice none 0 0]
    simpa using this
  have PW0 : Pgs W0 b T := by rw [← hW0]; exact (hp.alloc _).alloc _
  have S0 : W0.heap.size = w.heap.size + 2 := by rw [← hW0]; simp
  have B0 : Below w.heap.size w W0 := by rw [← hW0]; exact ((Below.refl _ _).alloc (Nat.le_refl _) _).alloc (by simp) _
  have OF := Lib.hid (of_c W0 b c T PW0 few ow 1 1 (isS 1) (isS_or 1))
  have NX := Lib.hid (goN_next (sel ow (isS 1)) (pubFr ow code) T)
  have NZ := Lib.hid (goN_low (sel ow (isS 1)) (pubFr ow code) 0 0 (Nat.le_refl _) T)
  have NF := Lib.hid (goN_high (sel ow (isS 1)) (pubFr ow code) (T.countP (sel ow (isS 1))) 0 T (by omega))
  have NL := Lib.hid (fun r => goN_length (sel ow (isS 1)) (pubFr ow code) r 0 T)
  have GL := Lib.hid (go_length (sel ow (isS 1)) (pubFr ow code) 0 T)
  have hcl : T.countP (sel ow (isS 1)) ≤ T.length := List.countP_le_length
  have IX := Lib.hid (idx_length (sel ow (isS 1)) 0 T)
  unfold rpubM
  generalize hcn : T.countP (sel ow (isS 1)) = n at hcl NX NF OF IX ⊢
  have CN := Lib.hid hcn
  clear hcn
  have KW := Lib.hid hW0
  have BA := Lib.hid BA
  have BZ := Lib.hid BZ
  have PW0 := Lib.hid PW0
  have S0 := Lib.hid S0
  have B0 := Lib.hid B0
  clear hW0 hp
  unfold rv
  by_cases h0 : n = 0
  · rw [if_pos h0]
    subst h0
    go_enter Tryz.func20, Tryz.ntmps20
    go_wp2_with fail
    rw [KW.out]
    refine OF.out.mono ?_
    rintro e w1 ⟨v, rfl, hown, hb1⟩
    have s1 := hb1.size
    rw [S0.out] at s1
    have r0 : w1.cell? ⟨w.heap.size, 0, none⟩ = some (.slice (some ⟨b, 0, none⟩) T.length c) := (BA.out.kept hb1).cell 0
    have r1 : w1.cell? ⟨w.heap.size + 1, 0, none⟩ = some (.slice none 0 0) := (BZ.out.kept hb1).cell 0
    have r2 : w1.frozen? ⟨w.heap.size + 1, 0, none⟩ = false := (BZ.out.kept hb1).frozen 0
    have FD : ∀ (k : Nat) (u : Value), Hid (RDone w b T k (.returned (.tuple #[rv b c T, .int .i64 (k : Int)])) (w1.setCell ⟨w.heap.size + 1, 0, none⟩ u)) := fun k u => Lib.hid ⟨b, c, rfl, (PW0.out.kept hb1).far (by show b ≠ w.heap.size + 1; omega) _, Or.inl rfl, (B0.out.trans (hb1.mono (by rw [S0.out]; omega))).setCell (by show w.heap.size ≤ w.heap.size + 1; omega) _⟩
    obtain ⟨hlen, hv⟩ := hown
    rw [CN.out] at hv hlen
    clear hb1
    rcases hv with ⟨rfl, hn0⟩ | ⟨q, cap, cur, rfl, hq, hh, hcap, hmax, hsz, htk⟩
    · clear hlen
      go_wp2_with fail
      (try simp only [Exit.inBlock, Exit.then])
      refine bodyPost_ret (v := .tuple #[.agg #[.slice (some ⟨b, 0, none⟩) T.length c], .int .i64 8]) (by simp [results, Tryz.results20, go_sem, *]) rfl ?_
      exact (FD 8 _).out
    · clear hlen hh hsz htk
      go_wp2_with fail
      (try simp only [Exit.inBlock, Exit.then])
      refine bodyPost_ret (v := .tuple #[.agg #[.slice (some ⟨b, 0, none⟩) T.length c], .int .i64 8]) (by simp [results, Tryz.results20, go_sem, *]) rfl ?_
      exact (FD 8 _).out
  rw [if_neg h0]
  have hnz : ¬ (n : Int) = 0 := by omega
  by_cases h1 : code < 0
  · rw [if_pos (Or.inl h1)]
    go_enter Tryz.func20, Tryz.ntmps20
    go_wp2_with fail
    rw [KW.out]
    refine OF.out.mono ?_
    rintro e w1 ⟨v, rfl, hown, hb1⟩
    have s1 := hb1.size
    rw [S0.out] at s1
    have r0 : w1.cell? ⟨w.heap.size, 0, none⟩ = some (.slice (some ⟨b, 0, none⟩) T.length c) := (BA.out.kept hb1).cell 0
    have r1 : w1.cell? ⟨w.heap.size + 1, 0, none⟩ = some (.slice none 0 0) := (BZ.out.kept hb1).cell 0
    have r2 : w1.frozen? ⟨w.heap.size + 1, 0, none⟩ = false := (BZ.out.kept hb1).frozen 0
    have FD : ∀ (k : Nat) (u : Value), Hid (RDone w b T k (.returned (.tuple #[rv b c T, .int .i64 (k : Int)])) (w1.setCell ⟨w.heap.size + 1, 0, none⟩ u)) := fun k u => Lib.hid ⟨b, c, rfl, (PW0.out.kept hb1).far (by show b ≠ w.heap.size + 1; omega) _, Or.inl rfl, (B0.out.trans (hb1.mono (by rw [S0.out]; omega))).setCell (by show w.heap.size ≤ w.heap.size + 1; omega) _⟩
    obtain ⟨hlen, hv⟩ := hown
    rw [CN.out] at hv hlen
    clear hb1
    rcases hv with ⟨rfl, hn0⟩ | ⟨q, cap, cur, rfl, hq, hh, hcap, hmax, hsz, htk⟩
    · exact absurd hn0 h0
    clear hlen hh hsz htk
    go_wp2_with fail
    (try simp only [Exit.inBlock, Exit.then])
    refine bodyPost_ret (v := .tuple #[.agg #[.slice (some ⟨b, 0, none⟩) T.length c], .int .i64 2]) (by simp [results, Tryz.results20, go_sem, *]) rfl ?_
    exact (FD 2 _).out
  by_cases h2 : (n : Int) < code
  · rw [if_pos (Or.inr h2)]
    go_enter Tryz.func20, Tryz.ntmps20
    go_wp2_with fail
    rw [KW.out]
    refine OF.out.mono ?_
    rintro e w1 ⟨v, rfl, hown, hb1⟩
    have s1 := hb1.size
    rw [S0.out] at s1
    have r0 : w1.cell? ⟨w.heap.size, 0, none⟩ = some (.slice (some ⟨b, 0, none⟩) T.length c) := (BA.out.kept hb1).cell 0
    have r1 : w1.cell? ⟨w.heap.size + 1, 0, none⟩ = some (.slice none 0 0) := (BZ.out.kept hb1).cell 0
    have r2 : w1.frozen? ⟨w.heap.size + 1, 0, none⟩ = false := (BZ.out.kept hb1).frozen 0
    have FD : ∀ (k : Nat) (u : Value), Hid (RDone w b T k (.returned (.tuple #[rv b c T, .int .i64 (k : Int)])) (w1.setCell ⟨w.heap.size + 1, 0, none⟩ u)) := fun k u => Lib.hid ⟨b, c, rfl, (PW0.out.kept hb1).far (by show b ≠ w.heap.size + 1; omega) _, Or.inl rfl, (B0.out.trans (hb1.mono (by rw [S0.out]; omega))).setCell (by show w.heap.size ≤ w.heap.size + 1; omega) _⟩
    obtain ⟨hlen, hv⟩ := hown
    rw [CN.out] at hv hlen
    clear hb1
    rcases hv with ⟨rfl, hn0⟩ | ⟨q, cap, cur, rfl, hq, hh, hcap, hmax, hsz, htk⟩
    · exact absurd hn0 h0
    clear hlen hh hsz htk
    go_wp2_with fail
    (try simp only [Exit.inBlock, Exit.then])
    refine bodyPost_ret (v := .tuple #[.agg #[.slice (some ⟨b, 0, none⟩) T.length c], .int .i64 2]) (by simp [results, Tryz.results20, go_sem, *]) rfl ?_
    exact (FD 2 _).out
  rw [if_neg (by omega)]
  go_enter Tryz.func20, Tryz.ntmps20
  go_wp2_with fail
  rw [KW.out]
  refine OF.out.mono ?_
  rintro e w1 ⟨v, rfl, hown, hb1⟩
  have s1 := hb1.size
  rw [S0.out] at s1
  have r0 : w1.cell? ⟨w.heap.size, 0, none⟩ = some (.slice (some ⟨b, 0, none⟩) T.length c) := (BA.out.kept hb1).cell 0
  have r1 : w1.cell? ⟨w.heap.size + 1, 0, none⟩ = some (.slice none 0 0) := (BZ.out.kept hb1).cell 0
  have r2 : w1.frozen? ⟨w.heap.size + 1, 0, none⟩ = false := (BZ.out.kept hb1).frozen 0
  have FD : ∀ (k : Nat) (u : Value), Hid (RDone w b T k (.returned (.tuple #[rv b c T, .int .i64 (k : Int)])) (w1.setCell ⟨w.heap.size + 1, 0, none⟩ u)) := fun k u => Lib.hid ⟨b, c, rfl, (PW0.out.kept hb1).far (by show b ≠ w.heap.size + 1; omega) _, Or.inl rfl, (B0.out.trans (hb1.mono (by rw [S0.out]; omega))).setCell (by show w.heap.size ≤ w.heap.size + 1; omega) _⟩
  rw [CN.out] at hown
  obtain ⟨q, cap, rfl⟩ : ∃ q cap, v = .slice (some ⟨q, 0, none⟩) n cap := by
    rcases hown.2 with ⟨_, hn0⟩ | ⟨q, cap, _, hv, _⟩
    · exact absurd hn0 h0
    · exact ⟨q, cap, hv⟩
  have hq := (hown.lt q rfl)
  rw [S0.out] at hq
  have CQ : ∀ r j : Nat, (idx (sel ow (isS 1)) 0 T)[r]? = some j → w1.cell? ⟨q, r, none⟩ = some (.int .i64 (j : Int)) := fun r j hj => by
    have := hown.cells rfl r _ (nums_at _ _ _ hj)
    rw [add_row] at this
    exact this
  have CQ := Lib.hid CQ
  have CC := Lib.hid (copied_c w1 b c T (PW0.out.kept hb1) few)
  have BZ1 := Lib.hid (BZ.out.kept hb1)
  have HB1 := Lib.hid (B0.out.trans (hb1.mono (by rw [S0.out]; omega)))
  clear hown hb1 FD
  go_wp2_with fail
  refine CC.out.mono ?_
  rintro e w2 ⟨b', c', rfl, hb', hp', hbel⟩
  have s2 := hbel.size
  have HP3 := Lib.hid hp'
  have BZ3 := Lib.hid ((BZ1.out.kept hbel).alloc (.cells #[.slice (some ⟨b', 0, none⟩) T.length c'] 34))
  have BX3 := Lib.hid (Blk.new w2 34 #[.slice (some ⟨b', 0, none⟩) T.length c'])
  have HB3 := Lib.hid ((HB1.out.trans (hbel.mono (by omega))).alloc (by omega) (.cells #[.slice (some ⟨b', 0, none⟩) T.length c'] 34))
  have CQ3 : ∀ r j : Nat, (idx (sel ow (isS 1)) 0 T)[r]? = some j → (w2.alloc (.cells #[.slice (some ⟨b', 0, none⟩) T.length c'] 34)).cell? ⟨q, r, none⟩ = some (.int .i64 (j : Int)) := fun r j hj => by
    rw [World.cell?_alloc_past _ _ _ (by omega)]
    exact (hbel.cell (p := ⟨q, r, none⟩) hq.2).trans (CQ.out r j hj)
  have CQ3 := Lib.hid CQ3
  have hp3 := hp'.lt
  have hqb : q ≠ b' := by omega
  have hq2 : q < w2.heap.size := by omega
  clear hp' hbel r0 r1 r2 CQ
  go_wp2_with fail
  go_loopg [10] n (fun gg si wr => ∃ kk : Nat, kk ≤ n ∧ n - kk ≤ gg ∧ si = .int .i64 (kk : Int) ∧ Hid (Pgs wr b' (goN (sel ow (isS 1)) (pubFr ow code) kk 0 T)) ∧ Hid (Upd b' (w2.alloc (.cells #[.slice (some ⟨b', 0, none⟩) T.length c'] 34)) wr))
  case atStart => exact ⟨0, Nat.zero_le _, by omega, rfl, Lib.hid (by rw [NZ.out]; exact HP3.out.alloc _), Lib.hid (Upd.refl _ _)⟩
  case round =>
    obtain ⟨kk, hkk, hg, rfl, PW, UW⟩ := hrel
    have x0 : wr.cell? ⟨w2.heap.size, 0, none⟩ = some (.slice (some ⟨b', 0, none⟩) T.length c') := (UW.out.blk BX3.out (by omega)).cell 0
    by_cases hlt : kk < n
    · have hltz : (kk : Int) < (n : Int) := by omega
      obtain ⟨j, hj, hjl, hjs, hje, hjn⟩ := NX.out kk hlt
      have l0 : wr.cell? ⟨q, kk, none⟩ = some (.int .i64 (j : Int)) := (UW.out.cell (p := ⟨q, kk, none⟩) (by simp; omega) hqb).trans (CQ3.out kk j hj)
      have hjz : (j : Int) < (T.length : Int) := by omega
      have hjl2 : j < (goN (sel ow (isS 1)) (pubFr ow code) kk 0 T).length := by rw [NL.out]; exact hjl
      have hl := PW.out.lies hjl2
      have fz := PW.out.free
      have HS := Lib.hid (PW.out.set hjl2 (pubFr ow code kk T[j]!))
      have HU := Lib.hid (UW.out.store (j * 5) (pubFr ow code kk T[j]!))
      rw [← hjn] at HS
      clear hj hjs hje hjn
      generalize (goN (sel ow (isS 1)) (pubFr ow code) kk 0 T)[j]! = y at hl
      obtain ⟨c0, c1, c2, c3, c4⟩ := hl
      have f0 := fz (j * 5)
      have f1 := fz (j * 5 + 1)
      have f2 := fz (j * 5 + 2)
      have f3 := fz (j * 5 + 3)
      have f4 := fz (j * 5 + 4)
      have n1 : ¬ q = b' := hqb
      have n2 : ¬ w2.heap.size = b' := by omega
      clear fz PW
      go_wp2_with fail
      go_region
      all_goals go_wp2_with fail
      go_roundg (n - (kk + 1))
      case measure => omega
      case rel => exact ⟨kk + 1, by omega, by omega, by go_num, Lib.hid (HS.out.drewN 1), Lib.hid (HU.out.drewN 1)⟩
    · have hltz : ¬ (kk : Int) < (n : Int) := by omega
      have : kk = n := by omega
      subst this
      have x1 : wr.cell? ⟨w.heap.size + 1, 0, none⟩ = some (.slice none 0 0) := (UW.out.blk BZ3.out (by omega)).cell 0
      have x2 : wr.frozen? ⟨w.heap.size + 1, 0, none⟩ = false := (UW.out.blk BZ3.out (by omega)).frozen 0
      have PF : Pgs wr b' (go (sel ow (isS 1)) (pubFr ow code) 0 T) := by rw [← NF.out]; exact PW.out
      have FD : ∀ (u : Value), Hid (RDone w b (go (sel ow (isS 1)) (pubFr ow code) 0 T) 0 (.returned (.tuple #[rv b' c' (go (sel ow (isS 1)) (pubFr ow code) 0 T), .int .i64 ((0 : Nat) : Int)])) (wr.setCell ⟨w.heap.size + 1, 0, none⟩ u)) := fun u => Lib.hid ⟨b', c', rfl, PF.far (by show b' ≠ w.heap.size + 1; omega) _, Or.inr (by omega), (UW.out.below HB3.out (by omega)).setCell (by show w.heap.size ≤ w.heap.size + 1; omega) _⟩
      clear PW PF
      go_wp2_with fail
      (try simp only [Exit.inBlock, Exit.then])
      refine bodyPost_ret (v := .tuple #[.agg #[.slice (some ⟨b', 0, none⟩) T.length c'], .int .i64 0]) (by simp [results, Tryz.results20, go_sem, *]) rfl ?_
      have := (FD (.slice (some ⟨b', 0, none⟩) T.length c')).out
      unfold rv at this
      rw [GL.out] at this
      exact this
end Go.Proofs.YthnbdeibjbicpaaGreat.PM
