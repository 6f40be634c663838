/- PageLives walked; three bytes that come in as an array. No condition. -/
import Derived.Test.YtjjcmclnjeplkaaLawC5
import Derived.Test.YtjjcmclnjeplkaaLawC10
namespace Go.Proofs.Ytjjcmclnjeplkaa.Frame
open Go.ChangeShapes Go.WideShapes Go.ChangeAt Go.RowKit
section
variable {H : Type} {enc : TypeId × Value → H} {P : Program} {w : World} {base : Nat} {spare : Nat → Bool} {held : Bool}
/-- An array of three whole numbers, by value. -/
theorem open_arr3_int {r : Reach} {b0 : Nat} {t e : TypeId} {k : IntKind} {v : Value} {d : DataW H} {p : List MemPlace} (ht : P.underlying t = some (.array 3 e)) (he : P.underlying e = some (.int k)) (hC : P.cellsOf t = 3) (hE : P.cellsOf e = 1)
    (hv : Value.okWide P w r b0 t v) (h : DataW.Trod enc P w base spare held t v d p) : ∃ a b c : Int, v = .agg #[.int k a, .int k b, .int k c] ∧ (Lit.int k a).wf = true ∧ (Lit.int k b).wf = true ∧ (Lit.int k c).wf = true := by
  simp only [Value.okWide, ht] at hv
  obtain ⟨cs, rfl, hsz, _⟩ := hv
  obtain ⟨l⟩ := cs
  match l, hsz.trans hC with
  | [c0, c1, c2], _ =>
    obtain ⟨fuel, hf⟩ := h
    obtain ⟨xs, m, _, _, _, hlen, hg⟩ := DataW.trod_array ht hf
    rw [hE] at hg
    match xs, hlen with
    | [y0, y1, y2], _ =>
      have h0 : DataW.trod enc P w base spare held m e [c0] = some y0 := hg 0 (by decide)
      have h1 : DataW.trod enc P w base spare held m e [c1] = some y1 := hg 1 (by decide)
      have h2 : DataW.trod enc P w base spare held m e [c2] = some y2 := hg 2 (by decide)
      obtain ⟨a, e0, _, wa⟩ := DataW.trod_int he h0
      obtain ⟨b, e1, _, wb⟩ := DataW.trod_int he h1
      obtain ⟨c, e2, _, wc⟩ := DataW.trod_int he h2
      simp at e0 e1 e2
      subst e0 e1 e2
      exact ⟨a, b, c, rfl, wa, wb, wc⟩
end
end Go.Proofs.Ytjjcmclnjeplkaa.Frame
namespace Go.Proofs.Ytjjcmclnjeplkaa.PM
set_option linter.unusedVariables false
open Go.RowKit Go.Proofs.Ytjjcmclnjeplkaa.Frame
theorem new_len (m : Nat) (h : m ≤ 256) : newLen (m : Int) = m := by
  unfold newLen
  by_cases h0 : (m : Int) ≤ 0
  · rw [if_pos h0]; omega
  · rw [if_neg h0, if_neg (by omega)]; simp
set_option maxRecDepth 100000 in
set_option maxHeartbeats 16000000 in
theorem law_lives (x0 x1 x2 ep : Nat) (w : World) (hx0 : x0 < 256) (hx1 : x1 < 256) (hx2 : x2 < 256) :
    Calls Try.prog 4 #[.agg #[.int .u8 (x0 : Int), .int .u8 (x1 : Int), .int .u8 (x2 : Int)], .int .u64 (ep : Int)] w fun e w' => e = .returned (.bool true) ∧ Below w.heap.size w w' := by
  obtain ⟨m, hm⟩ : ∃ m : Nat, Int.tmod (x0 : Int) 41 = (m : Int) ∧ m ≤ 40 := ⟨x0 % 41, by rw [Int.tmod_eq_emod_of_nonneg (by omega)]; omega, by omega⟩
  obtain ⟨a, ha⟩ : ∃ a : Nat, Int.tmod (x1 : Int) 41 = (a : Int) ∧ a ≤ 40 := ⟨x1 % 41, by rw [Int.tmod_eq_emod_of_nonneg (by omega)]; omega, by omega⟩
  obtain ⟨kc, hkc⟩ : ∃ kc : Nat, Int.tmod (x2 : Int) 8 = (kc : Int) ∧ kc ≤ 7 := ⟨x2 % 8, by rw [Int.tmod_eq_emod_of_nonneg (by omega)]; omega, by omega⟩
  obtain ⟨hm, hm40⟩ := hm
  obtain ⟨ha, ha40⟩ := ha
  obtain ⟨hkc, hk7⟩ := hkc
  obtain ⟨T1, hS1, hL1, hT1⟩ := first9 m
  have hkd : Int.tdiv (1 + (kc : Int)) 2 = (((kc + 1) / 2 : Nat) : Int) := by rw [Int.tdiv_eq_ediv_of_nonneg (by omega)]; omega
  have NC := fun W => new_c W (m : Int)
  rw [new_len m (by omega)] at NC
  have NC := Lib.hid NC
  have S1 : ∀ (W : World) (g h c : Nat), Tab W g h c (List.replicate m nz) → Calls Try.prog 23 #[.pointer (some ⟨g, 0, none⟩), .int .i64 0, .int .i64 1, .int .u16 9] W fun e w' => e = .returned (.int .i64 ((if m = 0 then 11 else 0 : Nat) : Int)) ∧ Tab w' g h c T1 ∧ Upd h W w' := fun W g h c t => by
    have := stage_c W g h c _ t 0 1 9
    rw [hS1] at this
    exact this
  have S1 := Lib.hid S1
  have HT1 : Hid (∀ i, i < T1.length → T1[i]! = if i = 0 then stg 9 else nz) := Lib.hid (fun i hi => hT1 i (by omega))
  have HL1 := Lib.hid hL1
  obtain ⟨other, hot⟩ : ∃ other : Nat, (if m = 0 then 11 else 0 : Nat) = other := ⟨_, rfl⟩
  rw [hot] at S1
  have HOT := Lib.hid hot
  clear hS1 hL1 hT1 hot
  go_enter Try.func4, Try.ntmps4
  go_wp2_with fail
  go_quiet (fail)
  go_wp2_with fail
  refine (NC.out _).mono ?_
  rintro e w1 ⟨g, h, c, rfl, hg, hh, t, hb1⟩
  have hh : w.heap.size ≤ h := by have : w.heap.size + 1 ≤ h := by simpa using hh
                                  omega
  have hb1 : Below w.heap.size w w1 := (below_drewN ((Below.refl _ w).alloc (Nat.le_refl _) _) _).trans (hb1.mono (by simp))
  have SC := Lib.hid (S1.out _ g h c t)
  have B1 := Lib.hid hb1
  clear t hb1 NC S1
  go_wp2_with fail
  refine SC.out.mono ?_
  rintro e w2 ⟨rfl, t2, u2⟩
  have B2 := Lib.hid (u2.below B1.out hh)
  have T2 := Lib.hid t2
  clear t2 u2 B1 SC
  rcases second5 T1 a (kc + 1) HT1.out (by omega) with ⟨he, hsame⟩ | ⟨hs, ha1, hak⟩
  · have S2 : Calls Try.prog 23 #[.pointer (some ⟨g, 0, none⟩), .int .i64 (a : Int), .int .i64 (1 + (kc : Int)), .int .u16 5] w2 fun e w' => e = .returned (.int .i64 ((stageM T1 (a : Int) ((kc + 1 : Nat) : Int) 5).2 : Int)) ∧ Tab w' g h c T1 ∧ Upd h w2 w' := by
      have := stage_c w2 g h c _ T2.out (a : Int) ((kc + 1 : Nat) : Int) 5
      rw [hsame, show ((kc + 1 : Nat) : Int) = 1 + (kc : Int) by omega] at this
      rw [show ((kc + 1 : Nat) : Int) = 1 + (kc : Int) by omega]
      exact this
    generalize (stageM T1 (a : Int) ((kc + 1 : Nat) : Int) 5).2 = er at he S2
    have hez : ((er : Int) != 0) = true := by simp; omega
    have S2 := Lib.hid S2
    have NF : ∀ i, i < T1.length → T1[i]!.ow ≠ 5 := fun i hi => by rw [HT1.out i hi]; split <;> decide
    have NN := Lib.hid (none_of T1 5 NF ep)
    clear he hsame NF
    go_wp2_with fail
    refine S2.out.mono ?_
    rintro e w3 ⟨rfl, t3, u3⟩
    have B3 := Lib.hid (u3.below B2.out hh)
    have P3 : Calls Try.prog 24 #[.pointer (some ⟨g, 0, none⟩), .int .u16 5, .int .i64 0] w3 fun e w' => e = .returned (.int .i64 8) ∧ Tab w' g h c T1 ∧ Upd h w3 w' := by
      have := pub_c w3 g h c _ t3 5 0
      rw [NN.out.1] at this
      exact this
    have P3 := Lib.hid P3
    clear t3 u3 B2 S2
    go_wp2_with fail
    refine P3.out.mono ?_
    rintro e w4 ⟨rfl, t4, u4⟩
    have B4 := Lib.hid (u4.below B3.out hh)
    have R4 : Calls Try.prog 25 #[.pointer (some ⟨g, 0, none⟩), .int .u16 5, .int .u64 (ep : Int)] w4 fun e w' => e = .returned (.int .i64 8) ∧ Tab w' g h c T1 ∧ Upd h w4 w' := by
      have := ret_c w4 g h c _ t4 5 ep
      rw [NN.out.2] at this
      exact this
    have R4 := Lib.hid R4
    clear t4 u4 B3 P3
    go_wp2_with fail
    refine R4.out.mono ?_
    rintro e w5 ⟨rfl, t5, u5⟩
    have B5 := Lib.hid (u5.below B4.out hh)
    clear t5 u5 B4 R4
    go_wp2_with fail
    refine (awake06_c _).mono ?_
    rintro e w6 ⟨rfl, hb6⟩
    have B6 := Lib.hid (B5.out.trans (hb6.mono B5.out.size))
    clear hb6
    go_wp2_with fail
    go_ret
    exact ⟨rfl, B6.out⟩
  · have S2 : Calls Try.prog 23 #[.pointer (some ⟨g, 0, none⟩), .int .i64 (a : Int), .int .i64 (1 + (kc : Int)), .int .u16 5] w2 fun e w' => e = .returned (.int .i64 0) ∧ Tab w' g h c (fillN 5 T1 a (kc + 1)) ∧ Upd h w2 w' := by
      have := stage_c w2 g h c _ T2.out (a : Int) ((kc + 1 : Nat) : Int) 5
      rw [hs, show ((kc + 1 : Nat) : Int) = 1 + (kc : Int) by omega] at this
      exact this
    have S2 := Lib.hid S2
    obtain ⟨T3, T4, T5, e3, e4, e5, e6, hin, hfree, hl4, hl5⟩ := lives T1 a (kc + 1) ep HT1.out ha1 (by omega) hak
    have hoz : other = 0 := by
      have h1 := HOT.out
      have h2 := HL1.out
      rw [if_neg (by omega)] at h1
      exact h1.symm
    subst hoz
    obtain ⟨cd, hcd⟩ : ∃ cd : Nat, (kc + 1) / 2 = cd := ⟨_, rfl⟩
    rw [hcd] at hkd e3 hin
    have hcd9 : cd ≤ 8 := by omega
    have hakz := hak
    have HIN := Lib.hid hin
    have HFR := Lib.hid hfree
    have E3 := Lib.hid e3
    have E4 := Lib.hid e4
    have E5 := Lib.hid e5
    have E6 := Lib.hid e6
    have HL4 := Lib.hid hl4
    have HL5 := Lib.hid hl5
    have hl40 : T1.length ≤ 40 := by have := HL1.out; omega
    clear hs hin hfree e3 e4 e5 e6 hl4 hl5 hcd HOT
    go_wp2_with fail
    refine S2.out.mono ?_
    rintro e w3 ⟨rfl, t3, u3⟩
    have B3 := Lib.hid (u3.below B2.out hh)
    have P3 : Calls Try.prog 24 #[.pointer (some ⟨g, 0, none⟩), .int .u16 5, .int .i64 (cd : Int)] w3 fun e w' => e = .returned (.int .i64 0) ∧ Tab w' g h c T3 ∧ Upd h w3 w' := by
      have := pub_c w3 g h c _ t3 5 (cd : Int)
      rw [E3.out] at this
      exact this
    have P3 := Lib.hid P3
    clear t3 u3 B2 S2 T2
    go_wp2_with fail
    refine P3.out.mono ?_
    rintro e w4 ⟨rfl, t4, u4⟩
    have B4 := Lib.hid (u4.below B3.out hh)
    have R4 : Calls Try.prog 25 #[.pointer (some ⟨g, 0, none⟩), .int .u16 5, .int .u64 (ep : Int)] w4 fun e w' => e = .returned (.int .i64 0) ∧ Tab w' g h c T4 ∧ Upd h w4 w' := by
      have := ret_c w4 g h c _ t4 5 ep
      rw [E4.out] at this
      exact this
    have R4 := Lib.hid R4
    clear t4 u4 B3 P3
    go_wp2_with fail
    refine R4.out.mono ?_
    rintro e w5 ⟨rfl, t5, u5⟩
    have B5 := Lib.hid (u5.below B4.out hh)
    have P5 : Calls Try.prog 24 #[.pointer (some ⟨g, 0, none⟩), .int .u16 5, .int .i64 0] w5 fun e w' => e = .returned (.int .i64 8) ∧ Tab w' g h c T4 ∧ Upd h w5 w' := by
      have := pub_c w5 g h c _ t5 5 0
      rw [E5.out] at this
      exact this
    have P5 := Lib.hid P5
    clear t5 u5 B4 R4
    go_wp2_with fail
    refine P5.out.mono ?_
    rintro e w6 ⟨rfl, t6, u6⟩
    have B6 := Lib.hid (u6.below B5.out hh)
    have T6 := Lib.hid t6
    clear t6 u6 B5 P5
    go_wp2_with fail
    go_loopg [14] T1.length (fun gg s14 wx => ∃ kk : Nat, kk ≤ T1.length ∧ T1.length - kk ≤ gg ∧ s14 = .int .i64 (kk : Int) ∧ Hid (Below w6.heap.size w6 wx))
    case atStart => exact ⟨0, Nat.zero_le _, by omega, rfl, Lib.hid (Below.refl _ _)⟩
    case round =>
      obtain ⟨kk, hkk, hgk, rfl, B7⟩ := hrel
      have T7 := Lib.hid (T6.out.kept B7.out)
      have LC : Calls Try.prog 26 #[.pointer (some ⟨g, 0, none⟩)] wr fun e w' => e = .returned (.int .i64 (T1.length : Int)) ∧ w' = wr := by
        have := len_c wr g h c T4 T7.out
        rw [HL4.out] at this
        exact this
      have LC := Lib.hid LC
      by_cases hlt : kk < T1.length
      · have hltz : (kk : Int) < (T1.length : Int) := by omega
        have hlt4 : kk < T4.length := by rw [HL4.out]; exact hlt
        have GC := get_c wr g h c T4 T7.out (kk : Int)
        rw [getP_in T4 kk hlt4] at GC
        obtain ⟨qi, qo⟩ := HIN.out kk hlt
        generalize T4[kk]! = p at GC qi qo
        obtain ⟨s, x, wq, ow, pe⟩ := p
        have GC : Hid (Calls Try.prog 27 #[.pointer (some ⟨g, 0, none⟩), .int .i64 (kk : Int)] wr fun e w' => e = .returned (.agg #[.int .u8 (s : Int), .bool x, .bool wq, .int .u16 (ow : Int), .int .u64 (pe : Int)]) ∧ Below wr.heap.size wr w') := Lib.hid GC
        simp only at qi qo
        by_cases ha2 : a ≤ kk
        · have hz1 : (a : Int) ≤ (kk : Int) := by omega
          by_cases hk2 : kk < a + (kc + 1)
          · have hz2 : (kk : Int) < (a : Int) + (1 + (kc : Int)) := by omega
            obtain ⟨i1, i2, i3⟩ := qi ⟨ha2, hk2⟩
            subst i1
            rw [i2] at GC
            rw [i3] at GC
            clear qi qo i2 i3
            by_cases hc2 : kk < a + cd
            · have hz3 : (kk : Int) < (a : Int) + (cd : Int) := by omega
              have GC : Hid (Calls Try.prog 27 #[.pointer (some ⟨g, 0, none⟩), .int .i64 (kk : Int)] wr fun e w' => e = .returned (.agg #[.int .u8 3, .bool true, .bool wq, .int .u16 (ow : Int), .int .u64 (ep : Int)]) ∧ Below wr.heap.size wr w') := by
                rw [decide_eq_true hc2] at GC; exact GC
              go_wp2_with fail
              refine LC.out.mono ?_
              rintro e w7 ⟨rfl, rfl⟩
              go_wp2_with fail
              refine GC.out.mono ?_
              rintro e w8 ⟨rfl, hb8⟩
              have B8 := Lib.hid ((B7.out.trans (hb8.mono B7.out.size)).alloc (by have := B7.out.size; have := hb8.size; omega) (.cells #[.int .u8 3, .bool true, .bool wq, .int .u16 (ow : Int), .int .u64 (ep : Int)] 26))
              clear hb8
              go_wp2_with fail
              go_roundg (T1.length - (kk + 1))
              case measure => omega
              case rel => exact ⟨kk + 1, by omega, by omega, by go_num, Lib.hid B8.out⟩
            · have hz3 : ¬ (kk : Int) < (a : Int) + (cd : Int) := by omega
              have GC : Hid (Calls Try.prog 27 #[.pointer (some ⟨g, 0, none⟩), .int .i64 (kk : Int)] wr fun e w' => e = .returned (.agg #[.int .u8 3, .bool false, .bool wq, .int .u16 (ow : Int), .int .u64 (ep : Int)]) ∧ Below wr.heap.size wr w') := by
                rw [decide_eq_false hc2] at GC; exact GC
              go_wp2_with fail
              refine LC.out.mono ?_
              rintro e w7 ⟨rfl, rfl⟩
              go_wp2_with fail
              refine GC.out.mono ?_
              rintro e w8 ⟨rfl, hb8⟩
              have B8 := Lib.hid ((B7.out.trans (hb8.mono B7.out.size)).alloc (by have := B7.out.size; have := hb8.size; omega) (.cells #[.int .u8 3, .bool false, .bool wq, .int .u16 (ow : Int), .int .u64 (ep : Int)] 26))
              clear hb8
              go_wp2_with fail
              go_roundg (T1.length - (kk + 1))
              case measure => omega
              case rel => exact ⟨kk + 1, by omega, by omega, by go_num, Lib.hid B8.out⟩
          · have hz2 : ¬ (kk : Int) < (a : Int) + (1 + (kc : Int)) := by omega
            have v3 : ((ow : Int) == 5) = false := by have := qo (by omega); simp; omega
            clear qi qo
            go_wp2_with fail
            refine LC.out.mono ?_
            rintro e w7 ⟨rfl, rfl⟩
            go_wp2_with fail
            refine GC.out.mono ?_
            rintro e w8 ⟨rfl, hb8⟩
            have B8 := Lib.hid ((B7.out.trans (hb8.mono B7.out.size)).alloc (by have := B7.out.size; have := hb8.size; omega) (.cells #[.int .u8 (s : Int), .bool x, .bool wq, .int .u16 (ow : Int), .int .u64 (pe : Int)] 26))
            clear hb8
            go_wp2_with fail
            go_roundg (T1.length - (kk + 1))
            case measure => omega
            case rel => exact ⟨kk + 1, by omega, by omega, by go_num, Lib.hid B8.out⟩
        · have hz1 : ¬ (a : Int) ≤ (kk : Int) := by omega
          have v3 : ((ow : Int) == 5) = false := by have := qo (by omega); simp; omega
          clear qi qo
          go_wp2_with fail
          refine LC.out.mono ?_
          rintro e w7 ⟨rfl, rfl⟩
          go_wp2_with fail
          refine GC.out.mono ?_
          rintro e w8 ⟨rfl, hb8⟩
          have B8 := Lib.hid ((B7.out.trans (hb8.mono B7.out.size)).alloc (by have := B7.out.size; have := hb8.size; omega) (.cells #[.int .u8 (s : Int), .bool x, .bool wq, .int .u16 (ow : Int), .int .u64 (pe : Int)] 26))
          clear hb8
          go_wp2_with fail
          go_roundg (T1.length - (kk + 1))
          case measure => omega
          case rel => exact ⟨kk + 1, by omega, by omega, by go_num, Lib.hid B8.out⟩
      · have hltz : ¬ (kk : Int) < (T1.length : Int) := by omega
        have RC : Calls Try.prog 28 #[.pointer (some ⟨g, 0, none⟩), .int .u16 5] wr fun e w' => e = .returned (.int .i64 0) ∧ Tab w' g h c T5 ∧ Upd h wr w' := by
          have := rel_c wr g h c _ T7.out 5
          rw [E6.out] at this
          exact this
        have RC := Lib.hid RC
        have B8 := Lib.hid (B6.out.trans (B7.out.mono B6.out.size))
        clear HIN
        go_wp2_with fail
        refine LC.out.mono ?_
        rintro e w7 ⟨rfl, rfl⟩
        go_wp2_with fail
        refine RC.out.mono ?_
        rintro e w8 ⟨rfl, t8, u8⟩
        have B9 := Lib.hid (u8.below B8.out hh)
        have T8 := Lib.hid t8
        clear t8 u8 B8 RC
        go_wp2_with fail
        go_loopg [17] T1.length (fun gg s17 wx => ∃ kk : Nat, kk ≤ T1.length ∧ T1.length - kk ≤ gg ∧ s17 = .int .i64 (kk : Int) ∧ Hid (Below w8.heap.size w8 wx))
        case atStart => exact ⟨0, Nat.zero_le _, by omega, rfl, Lib.hid (Below.refl _ _)⟩
        case round =>
          obtain ⟨jj, hjj, hgj, rfl, C7⟩ := hrel
          have T9 := Lib.hid (T8.out.kept C7.out)
          have LD : Calls Try.prog 26 #[.pointer (some ⟨g, 0, none⟩)] wr fun e w' => e = .returned (.int .i64 (T1.length : Int)) ∧ w' = wr := by
            have := len_c wr g h c T5 T9.out
            rw [HL5.out] at this
            exact this
          have LD := Lib.hid LD
          by_cases hlj : jj < T1.length
          · have hljz : (jj : Int) < (T1.length : Int) := by omega
            have hlt5 : jj < T5.length := by rw [HL5.out]; exact hlj
            have GC := get_c wr g h c T5 T9.out (jj : Int)
            rw [getP_in T5 jj hlt5] at GC
            have qf := HFR.out jj hlj
            generalize T5[jj]! = p at GC qf
            obtain ⟨s, x, wq, ow, pe⟩ := p
            have GC : Hid (Calls Try.prog 27 #[.pointer (some ⟨g, 0, none⟩), .int .i64 (jj : Int)] wr fun e w' => e = .returned (.agg #[.int .u8 (s : Int), .bool x, .bool wq, .int .u16 (ow : Int), .int .u64 (pe : Int)]) ∧ Below wr.heap.size wr w') := Lib.hid GC
            simp only at qf
            have v1 : ((s : Int) == 0) = ((jj : Int) != 0) := by
              have e1 : ((s : Int) == 0) = (s == 0) := by rw [Bool.eq_iff_iff]; simp
              have e2 : ((jj : Int) != 0) = (jj != 0) := by rw [Bool.eq_iff_iff]; simp
              rw [e1, e2, qf]
            clear qf
            cases v2 : ((jj : Int) != 0)
            all_goals
              rw [v2] at v1
              go_wp2_with fail
              refine LD.out.mono ?_
              rintro e w10 ⟨rfl, rfl⟩
              go_wp2_with fail
              refine GC.out.mono ?_
              rintro e w10 ⟨rfl, hb10⟩
              have C8 := Lib.hid ((C7.out.trans (hb10.mono C7.out.size)).alloc (by have := C7.out.size; have := hb10.size; omega) (.cells #[.int .u8 (s : Int), .bool x, .bool wq, .int .u16 (ow : Int), .int .u64 (pe : Int)] 26))
              clear hb10
              go_wp2_with fail
              go_roundg (T1.length - (jj + 1))
              case measure => omega
              case rel => exact ⟨jj + 1, by omega, by omega, by go_num, Lib.hid C8.out⟩
          · have hljz : ¬ (jj : Int) < (T1.length : Int) := by omega
            have B10 := Lib.hid (B9.out.trans (C7.out.mono B9.out.size))
            go_wp2_with fail
            refine LD.out.mono ?_
            rintro e w10 ⟨rfl, rfl⟩
            go_wp2_with fail
            refine (awake06_c _).mono ?_
            rintro e w11 ⟨rfl, hb11⟩
            have B11 := Lib.hid (B10.out.trans (hb11.mono B10.out.size))
            clear hb11
            go_wp2_with fail
            go_ret
            exact ⟨rfl, B11.out⟩
end Go.Proofs.Ytjjcmclnjeplkaa.PM
