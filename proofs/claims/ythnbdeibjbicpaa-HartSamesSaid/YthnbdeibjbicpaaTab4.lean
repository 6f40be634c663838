/- Contracts of a table's inner function each and of the function values that it is handed. Conditions: as each says. -/
import Derived.Test.YthnbdeibjbicpaaTab3
import Derived.BigRegion
set_option linter.unusedSimpArgs false
namespace Go.Proofs.Ythnbdeibjbicpaa.PM
set_option linter.unusedVariables false
open Go.RowKit
/-- What a test of a state does. -/
def InC (gi : Nat) (li : Array Value) (inp : Nat → Bool) (h : Nat) (w : World) : Prop :=
  ∀ (W : World) (s : Nat), Upd h w W → Calls Try.prog gi (#[.int .u8 (s : Int)] ++ li) W fun e w' => e = .returned (.bool (inp s)) ∧ Below W.heap.size W w'
/-- What is done with a page. -/
def DoC (gd : Nat) (ld : Array Value) (f : Nat → Page → Page) (h : Nat) (w : World) : Prop :=
  ∀ (W : World) (T : List Page) (i n : Nat), Upd h w W → Pgs W h T → i < T.length → n ≤ 256 → Calls Try.prog gd (#[.int .i64 (n : Int), .pointer (some ⟨h, i * 5, none⟩)] ++ ld) W fun e w' => e = .returned (.tuple #[]) ∧ Pgs w' h (T.set i (f n T[i]!)) ∧ Upd h W w'
set_option maxHeartbeats 4000000 in
theorem each_c (w : World) (g h c : Nat) (T : List Page) (t : Tab w g h c T) (ow : Nat) (gi gd : Nat) (li ld : Array Value) (inp : Nat → Bool) (f : Nat → Page → Page)
    (ei : ∀ args w, (callFunc gi args).run Try.prog w = .ok (.enter gi args) w) (ed : ∀ args w, (callFunc gd args).run Try.prog w = .ok (.enter gd args) w)
    (hin : InC gi li inp h w) (hdo : DoC gd ld f h w) :
    Calls Try.prog 64 #[.pointer (some ⟨g, 0, none⟩), .int .u16 (ow : Int), .func (.func gi) #[] li, .func (.func gd) #[] ld] w fun e w' =>
      e = .returned (.int .i64 (T.countP (sel ow inp) : Int)) ∧ Pgs w' h (go (sel ow inp) f 0 T) ∧ Upd h w w' := by
  have r0 := t.row
  have few := t.few
  have hgl := t.lt
  have hne := t.ne
  have P0 := Lib.hid t.pgs
  have IN := Lib.hid hin
  have DO := Lib.hid hdo
  clear t hin hdo
  go_enter Try.func64, Try.ntmps64
  go_wp2
  go_loopg [9, 17] T.length (fun gg s9 s17 wr => ∃ kk : Nat, kk ≤ T.length ∧ T.length - kk ≤ gg ∧ s9 = .int .i64 ((T.take kk).countP (sel ow inp) : Int) ∧ s17 = .int .i64 (kk : Int) ∧ Hid (Pgs wr h (mid (sel ow inp) f T kk)) ∧ Hid (Upd h w wr))
  case atStart => exact ⟨0, Nat.zero_le _, by omega, by simp, rfl, Lib.hid (by rw [mid_zero]; exact P0.out), Lib.hid (Upd.refl _ _)⟩
  case round =>
    obtain ⟨kk, hkk, hg, rfl, rfl, PW, UW⟩ := hrel
    have r1 : wr.cell? ⟨g, 0, none⟩ = some (.slice (some ⟨h, 0, none⟩) T.length c) := (UW.out.cell (p := ⟨g, 0, none⟩) hgl hne).trans r0
    clear r0
    by_cases hlt : kk < T.length
    · have hltz : (kk : Int) < (T.length : Int) := by omega
      have hl := PW.out.lies (i := kk) (by rw [mid_length]; exact hlt)
      have hat := mid_at (sel ow inp) f T kk hlt
      have hhit := mid_hit (sel ow inp) f T kk hlt
      have hmiss := mid_miss (sel ow inp) f T kk hlt
      have chit := count_hit (sel ow inp) T kk hlt
      have cmiss := count_miss (sel ow inp) T kk hlt
      rw [hat] at hl
      have hcle : (T.take kk).countP (sel ow inp) ≤ 256 := by
        have := List.countP_le_length (p := sel ow inp) (l := T.take kk)
        simp at this; omega
      have hin := IN.out wr T[kk]!.s UW.out
      generalize hy : T[kk]! = y at hl hin hhit hmiss chit cmiss
      have B : Hid (T[kk]! = y) := Lib.hid hy
      have A : Hid ((mid (sel ow inp) f T kk)[kk]! = y) := Lib.hid (by rw [hat]; exact hy)
      clear hy hat
      have c0 := hl.c0
      have c3 := hl.c3
      clear hl
      have hsl : sel ow inp y = (((y.ow : Int) == (ow : Int)) && (((y.s : Int) != 0) && inp y.s)) := by
        unfold sel
        have e1 : (y.ow == ow) = ((y.ow : Int) == (ow : Int)) := by rw [Bool.eq_iff_iff]; simp; omega
        have e2 : (y.s != 0) = ((y.s : Int) != 0) := by rw [Bool.eq_iff_iff]; simp
        rw [e1, e2]
      have CW := Lib.hid PW.out
      clear PW
      have finF : sel ow inp y = false → ∀ W, Below wr.heap.size wr W → (T.take kk).countP (sel ow inp) = (T.take (kk + 1)).countP (sel ow inp) ∧ Pgs W h (mid (sel ow inp) f T (kk + 1)) ∧ Upd h w W := fun hf W hb =>
        ⟨(cmiss hf).symm, by rw [hmiss hf]; exact CW.out.kept hb, UW.out.then_ hb⟩
      have FF := Lib.hid finF
      have H1 := Lib.hid hhit
      have H3 := Lib.hid chit
      have HI := Lib.hid hin
      have hkl : (mid (sel ow inp) f T kk).length = T.length := mid_length _ _ _ _
      have HK := Lib.hid hkl
      clear hhit hmiss chit cmiss hin finF hkl
      generalize hcn : (T.take kk).countP (sel ow inp) = cn at hcle H1 H3 FF
      have HC := Lib.hid hcn
      clear hcn
      cases ho : ((y.ow : Int) == (ow : Int)) with
      | false =>
        have hf : sel ow inp y = false := by rw [hsl, ho]; rfl
        have HH := Lib.hid hf
        clear hsl hf
        go_wp2
        go_roundg (T.length - (kk + 1))
        case measure => omega
        case rel =>
          obtain ⟨f1, f2, f3⟩ := FF.out HH.out _ (Below.refl _ _)
          exact ⟨kk + 1, by omega, by omega, by rw [f1], by go_num, Lib.hid f2, Lib.hid f3⟩
      | true =>
        cases hs : ((y.s : Int) != 0) with
        | false =>
          have hf : sel ow inp y = false := by rw [hsl, ho, hs]; rfl
          have HH := Lib.hid hf
          clear hsl hf
          go_wp2
          go_roundg (T.length - (kk + 1))
          case measure => omega
          case rel =>
            obtain ⟨f1, f2, f3⟩ := FF.out HH.out _ (Below.refl _ _)
            exact ⟨kk + 1, by omega, by omega, by rw [f1], by go_num, Lib.hid f2, Lib.hid f3⟩
        | true =>
          cases hq : inp y.s with
          | false =>
            have hf : sel ow inp y = false := by rw [hsl, ho, hs, hq]; rfl
            have HH := Lib.hid hf
            have HQ := Lib.hid hq
            clear hsl hf hq
            go_wp2
            refine HI.out.mono ?_
            rw [HQ.out]
            rintro e w1 ⟨rfl, hb⟩
            go_wp2
            go_roundg (T.length - (kk + 1))
            case measure => omega
            case rel =>
              obtain ⟨f1, f2, f3⟩ := FF.out HH.out _ hb
              exact ⟨kk + 1, by omega, by omega, by rw [f1], by go_num, Lib.hid f2, Lib.hid f3⟩
          | true =>
            have hf : sel ow inp y = true := by rw [hsl, ho, hs, hq]; rfl
            have HH := Lib.hid hf
            have HQ := Lib.hid hq
            clear hsl hf hq
            go_wp2
            refine HI.out.mono ?_
            rw [HQ.out]
            rintro e w1 ⟨rfl, hb⟩
            have hdo := DO.out w1 _ kk cn (UW.out.then_ hb) (CW.out.kept hb) (by rw [HK.out]; exact hlt) hcle
            rw [A.out, ← H1.out HH.out] at hdo
            have HD := Lib.hid hdo
            clear hdo
            go_wp2
            refine HD.out.mono ?_
            rintro e w2 ⟨rfl, hp2, hu2⟩
            have HP2 := Lib.hid hp2
            have HU2 := Lib.hid hu2
            clear hp2 hu2
            go_wp2
            go_roundg (T.length - (kk + 1))
            case measure => omega
            case rel =>
              exact ⟨kk + 1, by omega, by omega, by rw [H3.out HH.out]; go_num, by go_num, HP2, Lib.hid ((UW.out.then_ hb).trans HU2.out)⟩
    · have hltz : ¬ (kk : Int) < (T.length : Int) := by omega
      have : kk = T.length := by omega
      subst this
      go_wp2
      go_ret
      refine ⟨?_, ?_, UW.out⟩
      · simp
      · rw [← mid_full]; exact PW.out
end Go.Proofs.Ythnbdeibjbicpaa.PM
