/- Contracts of a table's inner function each and of the function values that it is handed. Conditions: as each says. -/
import Derived.Test.YthnbdeibjbicpaaGreatKTabA
import Derived.BigRegion
set_option linter.unusedSimpArgs false
namespace Go.Proofs.YthnbdeibjbicpaaGreat.PM
set_option linter.unusedVariables false
open Go.RowKit
/-- What a test of a state does. -/
def InC (gi : Nat) (li : Array Value) (inp : Nat → Bool) (h : Nat) (w : World) : Prop :=
  ∀ (W : World) (s : Nat), Upd h w W → Calls Tryz.prog gi (#[.int .u8 (s : Int)] ++ li) W fun e w' => e = .returned (.bool (inp s)) ∧ Below W.heap.size W w'
/-- What is done with a page. -/
def DoC (gd : Nat) (ld : Array Value) (f : Nat → Page → Page) (h : Nat) (w : World) : Prop :=
  ∀ (W : World) (T : List Page) (i n : Nat), Upd h w W → Pgs W h T → i < T.length → n ≤ 256 → Calls Tryz.prog gd (#[.int .i64 (n : Int), .pointer (some ⟨h, i * 5, none⟩)] ++ ld) W fun e w' => e = .returned (.tuple #[]) ∧ Pgs w' h (T.set i (f n T[i]!)) ∧ Upd h W w'
set_option maxHeartbeats 4000000 in
theorem each_c (w : World) (g h c : Nat) (T : List Page) (t : Tab w g h c T) (ow : Nat) (gi gd : Nat) (li ld : Array Value) (inp : Nat → Bool) (f : Nat → Page → Page)
    (ei : ∀ args w, (callFunc gi args).run Tryz.prog w = .ok (.enter gi args) w) (ed : ∀ args w, (callFunc gd args).run Tryz.prog w = .ok (.enter gd args) w)
    (hin : InC gi li inp h w) (hdo : DoC gd ld f h w) :
    Calls Tryz.prog 65 #[.pointer (some ⟨g, 0, none⟩), .int .u16 (ow : Int), .func (.func gi) #[] li, .func (.func gd) #[] ld] w fun e w' =>
      e = .returned (.int .i64 (T.countP (sel ow inp) : Int)) ∧ Pgs w' h (go (sel ow inp) f 0 T) ∧ Upd h w w' := by
  have r0 := t.row
  have few := t.few
  have hgl := t.lt
  have hne := t.ne
  have P0 := Lib.hid t.pgs
  have IN := Lib.hid hin
  have DO := Lib.hid hdo
  clear t hin hdo
  go_enter Tryz.func65, Tryz.ntmps65
  go_wp2
  go_loopg [9, 17] T.length (fun gg s9 s17 wr => ∃ kk : Nat, kk ≤ T.length ∧ T.length - kk ≤ gg ∧ s9 = .int .i64 ((T.take kk).countP (sel ow inp) : Int) ∧ s17 = .int .i64 (kk : Int) ∧ Hid (Pgs wr h (mid (sel ow inp) f T kk)) ∧ Hid (Upd h w wr))
  case atStart => exact ⟨0, Nat.zero_le _, by omega, by simp, rfl, Lib.hid (by rw [mid_zero]; exact P0.out), Lib.hid (Upd.refl _ _)⟩
  case round =>
    obtain ⟨kk, hkk, hg, rfl, rfl, PW, UW⟩ := hrel
    have r1 : wr.cell? ⟨g, 0, none⟩ = some (.slice (some ⟨h, 0, none⟩) T.length c) := (UW.out.cell (p := ⟨g, 0, none⟩) hgl hne).trans r0
    clear r0
    by_cases hlt : kk < T.length
    · have hltz : (kk : Int) < (T.length : Int) := by omega
      have hl := PW.out.lies (i := kk) (by rw [mid_length]; exact hlt)
      have hat := mid_at (sel ow inp) f T kk hlt
      have hhit := mid_hit (sel ow inp) f T kk hlt
      have hmiss := mid_miss (sel ow inp) f T kk hlt
      have chit := count_hit (sel ow inp) T kk hlt
      have cmiss := count_miss (sel ow inp) T kk hlt
      rw [hat] at hl
      have hcle : (T.take kk).countP (sel ow inp) ≤ 256 := by
        have := List.countP_le_length (p := sel ow inp) (l := T.take kk)
        simp at this; omega
      have hin := IN.out wr T[kk]!.s UW.out
      generalize hy : T[kk]! = y at hl hin hhit hmiss chit cmiss
      have B : Hid (T[kk]! = y) := Lib.hid hy
      have A : Hid ((mid (sel ow inp) f T kk)[kk]! = y) := Lib.hid (by rw [hat]; exact hy)
      clear hy hat
      have c0 := hl.c0
      have c3 := hl.c3
      clear hl
      have hsl : sel ow inp y = (((y.ow : Int) == (ow : Int)) && (((y.s : Int) != 0) && inp y.s)) := by
        unfold sel
        have e1 : (y.ow == ow) = ((y.ow : Int) == (ow : Int)) := by rw [Bool.eq_iff_iff]; simp; omega
        have e2 : (y.s != 0) = ((y.s : Int) != 0) := by rw [Bool.eq_iff_iff]; simp
        rw [e1, e2]
      have CW := Lib.hid PW.out
      clear PW
      have finF : sel ow inp y = false → ∀ W, Below wr.heap.size wr W → (T.take kk).countP (sel ow inp) = (T.take (kk + 1)).countP (sel ow inp) ∧ Pgs W h (mid (sel ow inp) f T (kk + 1)) ∧ Upd h w W := fun hf W hb =>
        ⟨(cmiss hf).symm, by rw [hmiss hf]; exact CW.out.kept hb, UW.out.then_ hb⟩
      have FF := Lib.hid finF
      have H1 := Lib.hid hhit
      have H3 := Lib.hid chit
      have HI := Lib.hid hin
      have hkl : (mid (sel ow inp) f T kk).length = T.length := mid_length _ _ _ _
      have HK := Lib.hid hkl
      clear hhit hmiss chit cmiss hin finF hkl
      generalize hcn : (T.take kk).countP (sel ow inp) = cn at hcle H1 H3 FF
      have HC := Lib.hid hcn
      clear hcn
      cases ho : ((y.ow : Int) == (ow : Int)) with
      | false =>
        have hf : sel ow inp y = false := by rw [hsl, ho]; rfl
        have HH := Lib.hid hf
        clear hsl hf
        go_wp2
        go_roundg (T.length - (kk + 1))
        case measure => omega
        case rel =>
          obtain ⟨f1, f2, f3⟩ := FF.out HH.out _ (Below.refl _ _)
          exact ⟨kk + 1, by omega, by omega, by rw [f1], by go_num, Lib.hid f2, Lib.hid f3⟩
      | true =>
        cases hs : ((y.s : Int) != 0) with
        | false =>
          have hf : sel ow inp y = false := by rw [hsl, ho, hs]; rfl
          have HH := Lib.hid hf
          clear hsl hf
          go_wp2
          go_roundg (T.length - (kk + 1))
          case measure => omega
          case rel =>
            obtain ⟨f1, f2, f3⟩ := FF.out HH.out _ (Below.refl _ _)
            exact ⟨kk + 1, by omega, by omega, by rw [f1], by go_num, Lib.hid f2, Lib.hid f3⟩
        | true =>
          cases hq : inp y.s with
          | false =>
            have hf : sel ow inp y = false := by rw [hsl, ho, hs, hq]; rfl
            have HH := Lib.hid hf
            have HQ := Lib.hid hq
            clear hsl hf hq
            go_wp2
            refine HI.out.mono ?_
            rw [HQ.out]
            rintro e w1 ⟨rfl, hb⟩
            go_wp2
            go_roundg (T.length - (kk + 1))
            case measure => omega
            case rel =>
              obtain ⟨f1, f2, f3⟩ := FF.out HH.out _ hb
              exact ⟨kk + 1, by omega, by omega, by rw [f1], by go_num, Lib.hid f2, Lib.hid f3⟩
          | true =>
            have hf : sel ow inp y = true := by rw [hsl, ho, hs, hq]; rfl
            have HH := Lib.hid hf
            have HQ := Lib.hid hq
            clear hsl hf hq
            go_wp2
            refine HI.out.mono ?_
            rw [HQ.out]
            rintro e w1 ⟨rfl, hb⟩
            have hdo := DO.out w1 _ kk cn (UW.out.then_ hb) (CW.out.kept hb) (by rw [HK.out]; exact hlt) hcle
            rw [A.out, ← H1.out HH.out] at hdo
            have HD := Lib.hid hdo
            clear hdo
            go_wp2
            refine HD.out.mono ?_
            rintro e w2 ⟨rfl, hp2, hu2⟩
            have HP2 := Lib.hid hp2
            have HU2 := Lib.hid hu2
            clear hp2 hu2
            go_wp2
            go_roundg (T.length - (kk + 1))
            case measure => omega
            case rel =>
              exact ⟨kk + 1, by omega, by omega, by rw [H3.out HH.out]; go_num, by go_num, HP2, Lib.hid ((UW.out.then_ hb).trans HU2.out)⟩
    · have hltz : ¬ (kk : Int) < (T.length : Int) := by omega
      have : kk = T.length := by omega
      subst this
      go_wp2
      go_ret
      refine ⟨?_, ?_, UW.out⟩
      · simp
      · rw [← mid_full]; exact PW.out
end Go.Proofs.YthnbdeibjbicpaaGreat.PM

/- What Publish, Retire and Release hand to each. Conditions: the captured boxes' cells. -/
set_option linter.unusedSimpArgs false
namespace Go.Proofs.YthnbdeibjbicpaaGreat.PM
set_option linter.unusedVariables false
open Go.RowKit
theorem is_c (w : World) (q : Nat) :
    Calls Tryz.prog 66 #[.int .u8 (q : Int)] w fun e w' => e = .returned (.func (.func 95) #[] #[.pointer (some ⟨w.heap.size, 0, none⟩)]) ∧ w' = w.alloc (.cells #[.int .u8 (q : Int)] 107) := by
  go_enter Tryz.func66, Tryz.ntmps66
  go_wp2_with fail
  go_ret
  exact ⟨rfl, rfl⟩
theorem Pgs.written {w w' : World} {h : Nat} {T : List Page} (hp : Pgs w h T) {i : Nat} (hi : i < T.length) (q : Page) (hs : h < w'.heap.size) (hf : ∀ o, w'.frozen? ⟨h, o, none⟩ = w.frozen? ⟨h, o, none⟩)
    (hc : ∀ o, (o < i * 5 ∨ i * 5 + 5 ≤ o) → w'.cell? ⟨h, o, none⟩ = w.cell? ⟨h, o, none⟩) (hl : Lies w' h (i * 5) q) : Pgs w' h (T.set i q) := by
  refine Pgs.mk' hs (fun o => (hf o).trans (hp.free o)) ?_
  intro j hj
  rw [List.length_set] at hj
  rw [set_bang T i j _ hj]
  by_cases e : j = i
  · subst e
    rw [if_pos rfl]; exact hl
  · rw [if_neg e]
    have lj := hp.lies hj
    exact ⟨(hc _ (by omega)).trans lj.c0, (hc _ (by omega)).trans lj.c1, (hc _ (by omega)).trans lj.c2, (hc _ (by omega)).trans lj.c3, (hc _ (by omega)).trans lj.c4⟩
theorem cell_near {w : World} {h o x : Nat} {u : Value} (hne : x ≠ o) : (w.setCell ⟨h, o, none⟩ u).cell? ⟨h, x, none⟩ = w.cell? ⟨h, x, none⟩ :=
  World.cell?_setCell_other _ _ _ _ (by intro q; injection q with _ q; exact hne q.symm)
theorem Pgs.set012 {w : World} {h : Nat} {T : List Page} (hp : Pgs w h T) {i : Nat} (hi : i < T.length) (s : Nat) (x wr : Bool) (p : Page) (hT : T[i]! = p) :
    Pgs (((w.setCell ⟨h, i * 5, none⟩ (.int .u8 (s : Int))).setCell ⟨h, i * 5 + 1, none⟩ (.bool x)).setCell ⟨h, i * 5 + 2, none⟩ (.bool wr)) h (T.set i ⟨s, x, wr, p.ow, p.ep⟩) := by
  have hl := hp.lies hi
  rw [hT] at hl
  refine hp.written hi _ (by simpa [World.setCell] using hp.lt) (fun o => by rw [World.frozen?_setCell, World.frozen?_setCell, World.frozen?_setCell]) (fun o ho => by rw [cell_near (by omega), cell_near (by omega), cell_near (by omega)]) ⟨?_, ?_, ?_, ?_, ?_⟩
  · rw [cell_near (by omega), cell_near (by omega)]; exact World.cell?_setCell_same _ _ _ hl.c0
  · rw [cell_near (by omega)]; exact World.cell?_setCell_same _ _ _ ((cell_near (by omega)).trans hl.c1)
  · exact World.cell?_setCell_same _ _ _ ((cell_near (by omega)).trans ((cell_near (by omega)).trans hl.c2))
  · rw [cell_near (by omega), cell_near (by omega), cell_near (by omega)]; exact hl.c3
  · rw [cell_near (by omega), cell_near (by omega), cell_near (by omega)]; exact hl.c4
theorem is_in (w : World) (B h q : Nat) (hc : w.cell? ⟨B, 0, none⟩ = some (.int .u8 (q : Int))) (hB : B < w.heap.size) (hne : B ≠ h) :
    InC 95 #[.pointer (some ⟨B, 0, none⟩)] (fun s => s == q) h w := by
  intro W s hu
  have c0 : W.cell? ⟨B, 0, none⟩ = some (.int .u8 (q : Int)) := (hu.cell (p := ⟨B, 0, none⟩) hB hne).trans hc
  clear hc
  have e : (s == q) = ((s : Int) == (q : Int)) := by rw [Bool.eq_iff_iff]; simp; omega
  show Calls Tryz.prog 95 #[.int .u8 (s : Int), .pointer (some ⟨B, 0, none⟩)] W _
  simp only []
  rw [e]
  go_enter Tryz.func95, Tryz.ntmps95
  go_wp2_with fail
  go_ret
  exact ⟨rfl, Below.refl _ _⟩
theorem set_self (T : List Page) (i : Nat) (hi : i < T.length) : T.set i T[i]! = T := by
  apply List.ext_getElem (by simp)
  intro j h1 h2
  rw [List.getElem_set]
  split
  · subst_vars; simp [h2]
  · rfl
theorem none_do (w : World) (h : Nat) : DoC 67 #[] (fun _ p => p) h w := by
  intro W T i n hu hp hi hn
  rw [set_self T i hi]
  show Calls Tryz.prog 67 #[.int .i64 (n : Int), .pointer (some ⟨h, i * 5, none⟩)] W _
  go_enter Tryz.func67, Tryz.ntmps67
  go_wp2_with fail
  go_end0
  exact ⟨rfl, hp, Upd.refl _ _⟩
def relF (_ : Nat) (_ : Page) : Page := nz
/-- What Publish does with the n-th page of an owner. -/
def pubF (code : Int) (n : Nat) (p : Page) : Page := ⟨2, decide ((n : Int) < code), decide (code ≤ (n : Int)), p.ow, p.ep⟩
def retF (ep : Nat) (_ : Nat) (p : Page) : Page := { p with s := 3, ep := ep }
set_option maxHeartbeats 2000000 in
theorem pub_do (w : World) (h B : Nat) (code : Int) (hc : w.cell? ⟨B, 0, none⟩ = some (.int .i64 code)) (hB : B < w.heap.size) (hne : B ≠ h) :
    DoC 68 #[.pointer (some ⟨B, 0, none⟩)] (pubF code) h w := by
  intro W T i n hu hp hi hn
  have cb : W.cell? ⟨B, 0, none⟩ = some (.int .i64 code) := (hu.cell (p := ⟨B, 0, none⟩) hB hne).trans hc
  have hl := hp.lies hi
  obtain ⟨c0, c1, c2, c3, c4⟩ := hl
  have f0 := hp.free (i * 5)
  have f1 := hp.free (i * 5 + 1)
  have f2 := hp.free (i * 5 + 2)
  have hne1 : ¬ h = B := fun e => hne e.symm
  have hW : B < W.heap.size := Nat.lt_of_lt_of_le hB hu.size
  have HS := Lib.hid ((hp.set012 hi 2 (decide ((n : Int) < code)) (decide (code ≤ (n : Int))) _ rfl).drewN 1)
  have HU := Lib.hid (((((Upd.refl h W).setCell (i * 5) (.int .u8 2)).setCell (i * 5 + 1) (.bool (decide ((n : Int) < code)))).setCell (i * 5 + 2) (.bool (decide (code ≤ (n : Int))))).drewN 1)
  show Calls Tryz.prog 68 #[.int .i64 (n : Int), .pointer (some ⟨h, i * 5, none⟩), .pointer (some ⟨B, 0, none⟩)] W _
  clear hp hi hu hc hB
  generalize T[i]! = p at c0 c1 c2 c3 c4 HS HU
  go_enter Tryz.func68, Tryz.ntmps68
  go_wp2
  go_region
  all_goals go_wp2
  all_goals go_end0
  all_goals exact ⟨rfl, HS.out, HU.out⟩
set_option maxHeartbeats 2000000 in
theorem ret_do (w : World) (h B : Nat) (ep : Nat) (hc : w.cell? ⟨B, 0, none⟩ = some (.int .u64 (ep : Int))) (hB : B < w.heap.size) (hne : B ≠ h) :
    DoC 70 #[.pointer (some ⟨B, 0, none⟩)] (retF ep) h w := by
  intro W T i n hu hp hi hn
  have cb : W.cell? ⟨B, 0, none⟩ = some (.int .u64 (ep : Int)) := (hu.cell (p := ⟨B, 0, none⟩) hB hne).trans hc
  have hl := hp.lies hi
  obtain ⟨c0, c1, c2, c3, c4⟩ := hl
  have f0 := hp.free (i * 5)
  have f4 := hp.free (i * 5 + 4)
  have hne1 : ¬ h = B := fun e => hne e.symm
  have hW : B < W.heap.size := Nat.lt_of_lt_of_le hB hu.size
  have HS := Lib.hid ((hp.set04 hi 3 ep _ rfl).drewN 1)
  have HU := Lib.hid ((((Upd.refl h W).setCell (i * 5) (.int .u8 3)).setCell (i * 5 + 4) (.int .u64 (ep : Int))).drewN 1)
  show Calls Tryz.prog 70 #[.int .i64 (n : Int), .pointer (some ⟨h, i * 5, none⟩), .pointer (some ⟨B, 0, none⟩)] W _
  clear hp hi hu hc hB
  generalize T[i]! = p at c0 c1 c2 c3 c4 HS
  go_enter Tryz.func70, Tryz.ntmps70
  go_wp2
  go_region
  all_goals go_wp2
  all_goals go_end0
  all_goals exact ⟨rfl, HS.out, HU.out⟩
end Go.Proofs.YthnbdeibjbicpaaGreat.PM
