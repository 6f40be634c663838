/- Contract of the reference's Stage. Conditions: the slice's cells. -/
import Derived.Test.YtjjcmclnjeplkaaRef2
import Derived.Test.YtjjcmclnjeplkaaTab8
set_option linter.unusedSimpArgs false
namespace Go.Proofs.Ytjjcmclnjeplkaa.PM
set_option linter.unusedVariables false
open Go.RowKit
/-- What a call of the reference's table leaves. -/
def RDone (w : World) (b : Nat) (T : List Page) (k : Nat) (e : Ending) (w' : World) : Prop := ∃ b' c', e = .returned (.tuple #[rv b' c' T, .int .i64 (k : Int)]) ∧ Pgs w' b' T ∧ (b' = b ∨ w.heap.size ≤ b') ∧ Below w.heap.size w w'
def hitB (ow f m i : Nat) (p : Page) : Bool := p.s != 0 && (p.ow == ow || (decide (f ≤ i) && decide (i < f + m)))
theorem hit_any (ow f m : Nat) (T : List Page) (i : Nat) (hi : i < T.length) (h : hitB ow f m i T[i]! = true) : (T.any (mineB ow) || ((T.drop f).take m).any takenB) = true := by
  unfold hitB at h
  simp only [Bool.and_eq_true, Bool.or_eq_true, decide_eq_true_eq] at h
  obtain ⟨h1, h2 | ⟨h2, h3⟩⟩ := h
  · rw [Bool.or_eq_true]; left
    rw [List.any_eq_true]
    exact ⟨T[i]!, by simp [hi], by unfold mineB; rw [h1, h2]; rfl⟩
  · rw [Bool.or_eq_true]; right
    rw [List.any_eq_true]
    refine ⟨T[i]!, ?_, h1⟩
    rw [List.mem_take_iff_getElem]
    refine ⟨i - f, by simp; omega, ?_⟩
    have e : f + (i - f) = i := by omega
    simp [hi, e]
theorem hit_none (ow f m : Nat) (T : List Page) (h : ∀ i, i < T.length → hitB ow f m i T[i]! = false) : (T.any (mineB ow) || ((T.drop f).take m).any takenB) = false := by
  rw [Bool.or_eq_false_iff]
  constructor
  · rw [List.any_eq_false]
    intro p hp
    obtain ⟨i, hi, rfl⟩ := List.getElem_of_mem hp
    have := h i hi
    have e : T[i]! = T[i] := by simp [hi]
    rw [e] at this
    unfold hitB at this
    unfold mineB
    intro hc
    simp only [Bool.and_eq_true] at hc
    rw [hc.1, hc.2] at this
    simp at this
  · rw [List.any_eq_false]
    intro p hp
    rw [List.mem_take_iff_getElem] at hp
    obtain ⟨j, hj, rfl⟩ := hp
    simp only [List.getElem_drop]
    have hlt : f + j < T.length := by simp at hj; omega
    have := h (f + j) hlt
    have e : T[f + j]! = T[f + j] := by simp [hlt]
    rw [e] at this
    unfold hitB at this
    unfold takenB
    intro hc
    rw [hc] at this
    simp at this hj
    omega
set_option maxHeartbeats 4000000 in
theorem rstage_c (w : World) (b c : Nat) (T : List Page) (hp : Pgs w b T) (few : T.length ≤ 256) (fr n : Int) (ow : Nat) :
    Calls Try.prog 66 #[rv b c T, .int .i64 fr, .int .i64 n, .int .u16 (ow : Int)] w fun e w' => RDone w b (stageM T fr n ow).1 (stageM T fr n ow).2 e w' := by
  have hb := hp.lt
  have KA : ∀ k : Nat, ∀ u, Hid (RDone w b T k (.returned (.tuple #[rv b c T, .int .i64 (k : Int)])) ((w.alloc (.cells #[.slice (some ⟨b, 0, none⟩) T.length c] 44)).alloc (.cells u 44))) := fun k u =>
    Lib.hid ⟨b, c, rfl, (hp.alloc _).alloc _, Or.inl rfl, ((Below.refl _ _).alloc (Nat.le_refl _) _).alloc (by simp) _⟩
  have HP := Lib.hid hp
  clear hp
  have hog : ((ow : Int) == 0) = (ow == 0) := by rw [Bool.eq_iff_iff]; simp
  unfold stageM
  by_cases h0 : ow = 0
  · rw [if_pos (Or.inl h0)]
    subst h0
    unfold rv at KA ⊢
    go_enter Try.func66, Try.ntmps66
    go_wp2_with fail
    (try simp only [Exit.inBlock, Exit.then])
    refine bodyPost_ret (v := .tuple #[.agg #[.slice (some ⟨b, 0, none⟩) T.length c], .int .i64 2]) (by simp [results, Try.results66, go_sem, *]) rfl ?_
    exact (KA 2 _).out
  have hob : ((ow : Int) == 0) = false := by rw [hog]; simpa using h0
  clear hog
  by_cases h1 : n < 1
  · rw [if_pos (Or.inr h1)]
    unfold rv at KA ⊢
    go_enter Try.func66, Try.ntmps66
    go_wp2_with fail
    (try simp only [Exit.inBlock, Exit.then])
    refine bodyPost_ret (v := .tuple #[.agg #[.slice (some ⟨b, 0, none⟩) T.length c], .int .i64 2]) (by simp [results, Try.results66, go_sem, *]) rfl ?_
    exact (KA 2 _).out
  rw [if_neg (by omega)]
  by_cases h2 : fr < 0
  · rw [if_pos (by omega)]
    unfold rv at KA ⊢
    go_enter Try.func66, Try.ntmps66
    go_wp2_with fail
    (try simp only [Exit.inBlock, Exit.then])
    refine bodyPost_ret (v := .tuple #[.agg #[.slice (some ⟨b, 0, none⟩) T.length c], .int .i64 11]) (by simp [results, Try.results66, go_sem, *]) rfl ?_
    exact (KA 11 _).out
  by_cases h3 : (T.length : Int) < fr
  · rw [if_pos (by omega)]
    unfold rv at KA ⊢
    go_enter Try.func66, Try.ntmps66
    go_wp2_with fail
    (try simp only [Exit.inBlock, Exit.then])
    refine bodyPost_ret (v := .tuple #[.agg #[.slice (some ⟨b, 0, none⟩) T.length c], .int .i64 11]) (by simp [results, Try.results66, go_sem, *]) rfl ?_
    exact (KA 11 _).out
  obtain ⟨f, rfl⟩ : ∃ f : Nat, fr = (f : Int) := ⟨fr.toNat, by omega⟩
  by_cases h4 : (T.length : Int) - (f : Int) < n
  · rw [if_pos (by omega)]
    unfold rv at KA ⊢
    go_enter Try.func66, Try.ntmps66
    go_wp2_with fail
    (try simp only [Exit.inBlock, Exit.then])
    refine bodyPost_ret (v := .tuple #[.agg #[.slice (some ⟨b, 0, none⟩) T.length c], .int .i64 11]) (by simp [results, Try.results66, go_sem, *]) rfl ?_
    exact (KA 11 _).out
  rw [if_neg (by omega)]
  obtain ⟨m, rfl⟩ : ∃ m : Nat, n = (m : Int) := ⟨n.toNat, by omega⟩
  simp only [Int.toNat_natCast]
  clear KA
  have HA := Lib.hid (hit_any ow f m T)
  have HN := Lib.hid (hit_none ow f m T)
  generalize (T.any (mineB ow) || ((T.drop f).take m).any takenB) = any_ at HA HN ⊢
  have R1 : any_ = true → (if any_ = true then (T, 9) else (fillN ow T f m, 0)) = (T, 9) := fun h => if_pos h
  have R2 : any_ = false → (if any_ = true then (T, 9) else (fillN ow T f m, 0)) = (fillN ow T f m, 0) := fun h => if_neg (by rw [h]; decide)
  generalize (if any_ = true then (T, 9) else (fillN ow T f m, 0)) = R at R1 R2 ⊢
  have R1 := Lib.hid R1
  have R2 := Lib.hid R2
  generalize hW0 : (w.alloc (.cells #[.slice (some ⟨b, 0, none⟩) T.length c] 44)).alloc (.cells #[.slice none 0 0] 44) = W0
  have BA : Blk W0 w.heap.size 44 #[.slice (some ⟨b, 0, none⟩) T.length c] := by rw [← hW0]; exact (Blk.new w _ _).alloc _
  have BZ : Blk W0 (w.heap.size + 1) 44 #[.slice none 0 0] := by
    rw [← hW0]
    have := Blk.new (w.alloc (.cells #[.slice (some ⟨b, 0, none⟩) T.length c] 44)) 44 #[.slice none 0 0]
    simpa using this
  have PW0 : Pgs W0 b T := by rw [← hW0]; exact (HP.out.alloc _).alloc _
  have S0 : W0.heap.size = w.heap.size + 2 := by rw [← hW0]; simp
  have B0 : Below w.heap.size w W0 := by rw [← hW0]; exact ((Below.refl _ _).alloc (Nat.le_refl _) _).alloc (by simp) _
  have KW := Lib.hid hW0
  have BA := Lib.hid BA
  have BZ := Lib.hid BZ
  have PW0 := Lib.hid PW0
  have S0 := Lib.hid S0
  have B0 := Lib.hid B0
  clear hW0
  unfold rv
  go_enter Try.func66, Try.ntmps66
  go_wp2_with fail
  rw [KW.out]
  go_loopg [10] T.length (fun gg s10 wr => ∃ kk : Nat, kk ≤ T.length ∧ T.length - kk ≤ gg ∧ s10 = .int .i64 (kk : Int) ∧ Hid (∀ j, j < kk → hitB ow f m j T[j]! = false) ∧ Hid (Below W0.heap.size W0 wr))
  case atStart => exact ⟨0, Nat.zero_le _, by omega, rfl, Lib.hid (fun j hj => absurd hj (Nat.not_lt_zero _)), Lib.hid (Below.refl _ _)⟩
  case round =>
    obtain ⟨kk, hkk, hg, rfl, AN, BW⟩ := hrel
    have r0 : wr.cell? ⟨w.heap.size, 0, none⟩ = some (.slice (some ⟨b, 0, none⟩) T.length c) := (BA.out.kept BW.out).cell 0
    have r1 : wr.cell? ⟨w.heap.size + 1, 0, none⟩ = some (.slice none 0 0) := (BZ.out.kept BW.out).cell 0
    have r2 : wr.frozen? ⟨w.heap.size + 1, 0, none⟩ = false := (BZ.out.kept BW.out).frozen 0
    have hws : w.heap.size + 2 ≤ wr.heap.size := by have := BW.out.size; rw [S0.out] at this; exact this
    have hw0 : w.heap.size < wr.heap.size := by omega
    have hw1 : w.heap.size + 1 < wr.heap.size := by omega
    by_cases hlt : kk < T.length
    · have hltz : (kk : Int) < (T.length : Int) := by omega
      have hl := (PW0.out.kept BW.out).lies hlt
      have hhit := HA.out kk hlt
      have BH : Hid (T[kk]! = T[kk]!) := Lib.hid rfl
      have hnext : hitB ow f m kk T[kk]! = false → Hid (∀ j, j < kk + 1 → hitB ow f m j T[j]! = false) := fun hf => Lib.hid (fun j hj => by
        by_cases e : j = kk
        · subst e; exact hf
        · exact AN.out j (by omega))
      have hbw : b < wr.heap.size := by omega
      generalize T[kk]! = y at hl hhit hnext
      obtain ⟨c0, c1, c2, c3, c4⟩ := hl
      have hsl : hitB ow f m kk y = (((y.s : Int) != 0) && (((y.ow : Int) == (ow : Int)) || (decide (f ≤ kk) && decide (kk < f + m)))) := by
        unfold hitB
        have e1 : (y.ow == ow) = ((y.ow : Int) == (ow : Int)) := by rw [Bool.eq_iff_iff]; simp; omega
        have e2 : (y.s != 0) = ((y.s : Int) != 0) := by rw [Bool.eq_iff_iff]; simp
        rw [e1, e2]
      have FN := Lib.hid hnext
      have FH := Lib.hid hhit
      clear hnext hhit
      cases hs : ((y.s : Int) != 0) with
      | false =>
        have HF := FN.out (by rw [hsl, hs]; rfl)
        have HB := Lib.hid (BW.out.alloc (by rw [S0.out]; exact hws) (Obj.cells #[.int .u8 (y.s : Int), .bool y.x, .bool y.wr, .int .u16 (y.ow : Int), .int .u64 (y.ep : Int)] 26))
        clear hsl FN FH
        go_wp2_with fail
        go_roundg (T.length - (kk + 1))
        case measure => omega
        case rel => exact ⟨kk + 1, by omega, by omega, by go_num, HF, HB⟩
      | true =>
        cases ho : ((y.ow : Int) == (ow : Int)) with
        | true =>
          have HT : any_ = true := FH.out (by rw [hsl, hs, ho]; rfl)
          have HR := Lib.hid (R1.out HT)
          have FD : ∀ (u : Value) (o : Obj), Hid (RDone w b T 9 (.returned (.tuple #[rv b c T, .int .i64 ((9 : Nat) : Int)])) ((wr.setCell ⟨w.heap.size + 1, 0, none⟩ u).alloc o)) := fun u o => Lib.hid ⟨b, c, rfl, ((PW0.out.kept BW.out).far (by show b ≠ w.heap.size + 1; omega) _).alloc _, Or.inl rfl, (((B0.out.trans (BW.out.mono (by rw [S0.out]; omega))).setCell (by show w.heap.size ≤ w.heap.size + 1; omega) _).alloc (by simp [World.setCell]; omega) _)⟩
          clear hsl FN FH HT
          go_wp2_with fail
          (try simp only [Exit.inBlock, Exit.then])
          refine bodyPost_ret (v := .tuple #[.agg #[.slice (some ⟨b, 0, none⟩) T.length c], .int .i64 9]) (by simp [results, Try.results66, go_sem, *]) rfl ?_
          rw [HR.out]
          exact (FD _ _).out
        | false =>
          by_cases hf : f ≤ kk
          · have hfi : (f : Int) ≤ (kk : Int) := by omega
            by_cases hkm : kk < f + m
            · have hki : (kk : Int) < (f : Int) + (m : Int) := by omega
              have HT : any_ = true := FH.out (by rw [hsl, hs, ho]; simp [hf, hkm])
              have HR := Lib.hid (R1.out HT)
              have FD : ∀ (u : Value) (o : Obj), Hid (RDone w b T 9 (.returned (.tuple #[rv b c T, .int .i64 ((9 : Nat) : Int)])) ((wr.setCell ⟨w.heap.size + 1, 0, none⟩ u).alloc o)) := fun u o => Lib.hid ⟨b, c, rfl, ((PW0.out.kept BW.out).far (by show b ≠ w.heap.size + 1; omega) _).alloc _, Or.inl rfl, (((B0.out.trans (BW.out.mono (by rw [S0.out]; omega))).setCell (by show w.heap.size ≤ w.heap.size + 1; omega) _).alloc (by simp [World.setCell]; omega) _)⟩
              clear hsl FN FH HT
              go_wp2_with fail
              (try simp only [Exit.inBlock, Exit.then])
              refine bodyPost_ret (v := .tuple #[.agg #[.slice (some ⟨b, 0, none⟩) T.length c], .int .i64 9]) (by simp [results, Try.results66, go_sem, *]) rfl ?_
              rw [HR.out]
              exact (FD _ _).out
            · have hki : ¬ (kk : Int) < (f : Int) + (m : Int) := by omega
              have HF := FN.out (by rw [hsl, hs, ho]; simp [hkm])
              have HB := Lib.hid (BW.out.alloc (by rw [S0.out]; exact hws) (Obj.cells #[.int .u8 (y.s : Int), .bool y.x, .bool y.wr, .int .u16 (y.ow : Int), .int .u64 (y.ep : Int)] 26))
              clear hsl FN FH
              go_wp2_with fail
              go_roundg (T.length - (kk + 1))
              case measure => omega
              case rel => exact ⟨kk + 1, by omega, by omega, by go_num, HF, HB⟩
          · have hfi : ¬ (f : Int) ≤ (kk : Int) := by omega
            have HF := FN.out (by rw [hsl, hs, ho]; simp [hf])
            have HB := Lib.hid (BW.out.alloc (by rw [S0.out]; exact hws) (Obj.cells #[.int .u8 (y.s : Int), .bool y.x, .bool y.wr, .int .u16 (y.ow : Int), .int .u64 (y.ep : Int)] 26))
            clear hsl FN FH
            go_wp2_with fail
            go_roundg (T.length - (kk + 1))
            case measure => omega
            case rel => exact ⟨kk + 1, by omega, by omega, by go_num, HF, HB⟩
    · have hltz : ¬ (kk : Int) < (T.length : Int) := by omega
      have : kk = T.length := by omega
      subst this
      have HT : any_ = false := HN.out (fun i hi => AN.out i hi)
      have HR := Lib.hid (R2.out HT)
      have CC := Lib.hid (copied_c wr b c T (PW0.out.kept BW.out) few)
      clear HT HN HA R1 R2
      go_wp2_with fail
      refine CC.out.mono ?_
      rintro e w3 ⟨b', c', rfl, hb', hp', hbel⟩
      have s3 := hbel.size
      have HP3 := Lib.hid hp'
      have BZ3 := Lib.hid (((BZ.out.kept BW.out).kept hbel).alloc (.cells #[.slice (some ⟨b', 0, none⟩) T.length c'] 44))
      have BX3 := Lib.hid (Blk.new w3 44 #[.slice (some ⟨b', 0, none⟩) T.length c'])
      have HB3 := Lib.hid ((B0.out.trans ((BW.out.trans (hbel.mono BW.out.size)).mono (by rw [S0.out]; omega))).alloc (by omega) (.cells #[.slice (some ⟨b', 0, none⟩) T.length c'] 44))
      have hp3 := hp'.lt
      have HX := Lib.hid hb'
      clear hp' hbel r0 r1 r2 hw0 hw1
      go_wp2_with fail
      go_loopg [13] m (fun gg s13 wx => ∃ kk : Nat, kk ≤ m ∧ m - kk ≤ gg ∧ s13 = .int .i64 ((f + kk : Nat) : Int) ∧ Hid (Pgs wx b' (fillN ow T f kk)) ∧ Hid (Upd b' (w3.alloc (.cells #[.slice (some ⟨b', 0, none⟩) T.length c'] 44)) wx))
      case atStart => exact ⟨0, Nat.zero_le _, by omega, rfl, Lib.hid (HP3.out.alloc _), Lib.hid (Upd.refl _ _)⟩
      case round =>
        obtain ⟨kk, hkk, hg, rfl, PW, UW⟩ := hrel
        have x0 : wr.cell? ⟨w3.heap.size, 0, none⟩ = some (.slice (some ⟨b', 0, none⟩) T.length c') := (UW.out.blk BX3.out (by omega)).cell 0
        by_cases hlt : kk < m
        · have hltz : ((f + kk : Nat) : Int) < (f : Int) + (m : Int) := by omega
          have hfk : f + kk < T.length := by omega
          have hfl : f + kk < (fillN ow T f kk).length := by rw [fillN_length]; exact hfk
          have hfz : ((f + kk : Nat) : Int) < (T.length : Int) := by omega
          have hl := PW.out.lies hfl
          have fz := PW.out.free
          have HS := Lib.hid (PW.out.set hfl (stg ow))
          have HU := Lib.hid (UW.out.store ((f + kk) * 5) (stg ow))
          generalize (fillN ow T f kk)[f + kk]! = y at hl
          obtain ⟨c0, c1, c2, c3, c4⟩ := hl
          have f0 := fz ((f + kk) * 5)
          have f1 := fz ((f + kk) * 5 + 1)
          have f2 := fz ((f + kk) * 5 + 2)
          have f3 := fz ((f + kk) * 5 + 3)
          have f4 := fz ((f + kk) * 5 + 4)
          clear fz PW
          go_wp2_with fail
          go_roundg (m - (kk + 1))
          case measure => omega
          case rel => exact ⟨kk + 1, by omega, by omega, by go_num, HS, HU⟩
        · have hltz : ¬ ((f + kk : Nat) : Int) < (f : Int) + (m : Int) := by omega
          have : kk = m := by omega
          subst this
          have x1 : wr.cell? ⟨w.heap.size + 1, 0, none⟩ = some (.slice none 0 0) := (UW.out.blk BZ3.out (by omega)).cell 0
          have x2 : wr.frozen? ⟨w.heap.size + 1, 0, none⟩ = false := (UW.out.blk BZ3.out (by omega)).frozen 0
          have FD : ∀ (u : Value), Hid (RDone w b (fillN ow T f kk) 0 (.returned (.tuple #[rv b' c' (fillN ow T f kk), .int .i64 ((0 : Nat) : Int)])) (wr.setCell ⟨w.heap.size + 1, 0, none⟩ u)) := fun u => Lib.hid ⟨b', c', rfl, PW.out.far (by show b' ≠ w.heap.size + 1; omega) _, Or.inr (by omega), (UW.out.below HB3.out (by omega)).setCell (by show w.heap.size ≤ w.heap.size + 1; omega) _⟩
          have FL := Lib.hid (fillN_length ow T f kk)
          clear PW
          go_wp2_with fail
          (try simp only [Exit.inBlock, Exit.then])
          refine bodyPost_ret (v := .tuple #[.agg #[.slice (some ⟨b', 0, none⟩) T.length c'], .int .i64 0]) (by simp [results, Try.results66, go_sem, *]) rfl ?_
          rw [HR.out]
          have := (FD (.slice (some ⟨b', 0, none⟩) T.length c')).out
          unfold rv at this
          rw [FL.out] at this
          exact this
end Go.Proofs.Ytjjcmclnjeplkaa.PM
