/- Contract of Stage. Conditions: the table's cells. -/
import Derived.Test.YthnbdeibjbicpaaTab7
set_option linter.unusedSimpArgs false
namespace Go.Proofs.Ythnbdeibjbicpaa.PM
set_option linter.unusedVariables false
open Go.RowKit
/-- A page that is staged. -/
def stg (ow : Nat) : Page := ⟨1, false, false, ow, 0⟩
/-- The first k of the pages from some place on are staged. -/
def fillN (ow : Nat) (T : List Page) (f : Nat) : Nat → List Page
  | 0 => T
  | k + 1 => (fillN ow T f k).set (f + k) (stg ow)
theorem fillN_length (ow : Nat) (T : List Page) (f k : Nat) : (fillN ow T f k).length = T.length := by
  induction k with
  | zero => rfl
  | succ k ih => unfold fillN; rw [List.length_set, ih]
def mineB (ow : Nat) (p : Page) : Bool := p.s != 0 && p.ow == ow
def takenB (p : Page) : Bool := p.s != 0
/-- What Stage makes of pages, and its answer. -/
def stageM (T : List Page) (fr n : Int) (ow : Nat) : List Page × Nat :=
  if ow = 0 ∨ n < 1 then (T, 2)
  else if fr < 0 ∨ (T.length : Int) < fr ∨ (T.length : Int) - fr < n then (T, 11)
  else if T.any (mineB ow) || ((T.drop fr.toNat).take n.toNat).any takenB then (T, 9)
  else (fillN ow T fr.toNat n.toNat, 0)
theorem mine_p (ow B : Nat) (w : World) (hB : B < w.heap.size) (hcell : w.cell? ⟨B, 0, none⟩ = some (.int .u16 (ow : Int))) :
    PredBelow Try.prog 55 #[.pointer (some ⟨B, 0, none⟩)] Page.v (mineB ow) w := fun W p hb => by
  have hc : W.cell? ⟨B, 0, none⟩ = some (.int .u16 (ow : Int)) := (hb.cell (p := ⟨B, 0, none⟩) hB).trans hcell
  have hBW : B < W.heap.size := Nat.lt_of_lt_of_le hB hb.size
  have hne : B ≠ W.heap.size := by omega
  have e : mineB ow p = (((p.s : Int) != 0) && ((p.ow : Int) == (ow : Int))) := by
    unfold mineB
    have e1 : (p.ow == ow) = ((p.ow : Int) == (ow : Int)) := by rw [Bool.eq_iff_iff]; simp; omega
    have e2 : (p.s != 0) = ((p.s : Int) != 0) := by rw [Bool.eq_iff_iff]; simp
    rw [e1, e2]
  show Calls Try.prog 55 #[.agg #[.int .u8 (p.s : Int), .bool p.x, .bool p.wr, .int .u16 (p.ow : Int), .int .u64 (p.ep : Int)], .pointer (some ⟨B, 0, none⟩)] W _
  rw [e]
  have HF := Lib.hid (hb.alloc (o := Obj.cells #[.int .u8 (p.s : Int), .bool p.x, .bool p.wr, .int .u16 (p.ow : Int), .int .u64 (p.ep : Int)] 59) hb.size)
  clear hb hcell hB e
  cases q1 : ((p.s : Int) != 0) <;> cases q2 : ((p.ow : Int) == (ow : Int))
  all_goals
    go_enter Try.func55, Try.ntmps55
    go_wp2_with fail
    go_ret
    exact ⟨rfl, HF.out⟩
theorem taken_p (w : World) :
    PredBelow Try.prog 56 #[] Page.v takenB w := fun W p hb => by
  have e : takenB p = ((p.s : Int) != 0) := by
    unfold takenB
    rw [Bool.eq_iff_iff]; simp
  show Calls Try.prog 56 #[.agg #[.int .u8 (p.s : Int), .bool p.x, .bool p.wr, .int .u16 (p.ow : Int), .int .u64 (p.ep : Int)]] W _
  rw [e]
  have HF := Lib.hid (hb.alloc (o := Obj.cells #[.int .u8 (p.s : Int), .bool p.x, .bool p.wr, .int .u16 (p.ow : Int), .int .u64 (p.ep : Int)] 59) hb.size)
  clear hb e
  go_enter Try.func56, Try.ntmps56
  go_wp2_with fail
  go_ret
  exact ⟨rfl, HF.out⟩
theorem e56 : ∀ args w, (callFunc 55 args).run Try.prog w = .ok (.enter 55 args) w := enters_of Try.func55 (by kernel_rfl) rfl
theorem e57 : ∀ args w, (callFunc 56 args).run Try.prog w = .ok (.enter 56 args) w := enters_of Try.func56 (by kernel_rfl) rfl
set_option maxHeartbeats 4000000 in
theorem stage_c (w : World) (g h c : Nat) (T : List Page) (t : Tab w g h c T) (fr n : Int) (ow : Nat) :
    Calls Try.prog 29 #[.pointer (some ⟨g, 0, none⟩), .int .i64 fr, .int .i64 n, .int .u16 (ow : Int)] w fun e w' =>
      e = .returned (.int .i64 ((stageM T fr n ow).2 : Int)) ∧ Tab w' g h c (stageM T fr n ow).1 ∧ Upd h w w' := by
  have hh := t.pgs.lt
  have r0 := t.row
  have hgl := t.lt
  have few := t.few
  have cap := t.cap
  have FA := Lib.hid (fun o => And.intro (t.alloc o) ((Upd.refl h w).alloc o))
  have hog : ((ow : Int) == 0) = (ow == 0) := by rw [Bool.eq_iff_iff]; simp
  unfold stageM
  by_cases h0 : ow = 0
  · rw [if_pos (Or.inl h0)]
    subst h0
    clear t
    go_enter Try.func29, Try.ntmps29
    go_wp2_with fail
    go_ret
    exact ⟨rfl, (FA.out _).1, (FA.out _).2⟩
  have hob : ((ow : Int) == 0) = false := by rw [hog]; simpa using h0
  clear hog
  by_cases h1 : n < 1
  · rw [if_pos (Or.inr h1)]
    clear t
    go_enter Try.func29, Try.ntmps29
    go_wp2_with fail
    go_ret
    exact ⟨rfl, (FA.out _).1, (FA.out _).2⟩
  rw [if_neg (by omega)]
  by_cases h2 : fr < 0
  · rw [if_pos (by omega)]
    clear t
    go_enter Try.func29, Try.ntmps29
    go_wp2_with fail
    go_ret
    exact ⟨rfl, (FA.out _).1, (FA.out _).2⟩
  by_cases h3 : (T.length : Int) < fr
  · rw [if_pos (by omega)]
    clear t
    generalize T.length = len at r0 few h3 cap
    go_enter Try.func29, Try.ntmps29
    go_wp2_with fail
    go_ret
    exact ⟨rfl, (FA.out _).1, (FA.out _).2⟩
  obtain ⟨f, rfl⟩ : ∃ f : Nat, fr = (f : Int) := ⟨fr.toNat, by omega⟩
  by_cases h4 : (T.length : Int) - (f : Int) < n
  · rw [if_pos (by omega)]
    clear t
    generalize T.length = len at r0 few h3 h4 cap
    go_enter Try.func29, Try.ntmps29
    go_wp2_with fail
    go_ret
    exact ⟨rfl, (FA.out _).1, (FA.out _).2⟩
  rw [if_neg (by omega)]
  obtain ⟨m, rfl⟩ : ∃ m : Nat, n = (m : Int) := ⟨n.toNat, by omega⟩
  simp only [Int.toNat_natCast]
  have t1 := t.alloc (.cells #[.int .u16 (ow : Int)] 57)
  have C1 : Calls Try.prog 57 #[.slice (some ⟨h, 0, none⟩) T.length c, .func (.func 55) #[] #[.pointer (some ⟨w.heap.size, 0, none⟩)]] (w.alloc (.cells #[.int .u16 (ow : Int)] 57)) fun e w' => e = .returned (.bool (T.any (mineB ow))) ∧ Below (w.alloc (.cells #[.int .u16 (ow : Int)] 57)).heap.size (w.alloc (.cells #[.int .u16 (ow : Int)] 57)) w' := by
    have := contains_c (mineB ow) _ #[.pointer (some ⟨w.heap.size, 0, none⟩)] e56 h 0 T.length c T (w.alloc (.cells #[.int .u16 (ow : Int)] 57)) (mine_p ow _ _ (by simp) (by simp)) t1.pgs (by omega) (by omega)
    simpa using this
  have C2 : ∀ W : World, Below (w.alloc (.cells #[.int .u16 (ow : Int)] 57)).heap.size (w.alloc (.cells #[.int .u16 (ow : Int)] 57)) W →
      (Calls Try.prog 57 #[.slice (some ⟨h, f * 5, none⟩) m (c - f), .func (.func 56) #[] #[]] W fun e w' => e = .returned (.bool (((T.drop f).take m).any takenB)) ∧ Below W.heap.size W w') ∧ W.cell? ⟨g, 0, none⟩ = some (.slice (some ⟨h, 0, none⟩) T.length c) ∧ (Tab W g h c T ∧ Upd h w W) ∧ W.cell? ⟨w.heap.size, 0, none⟩ = some (.int .u16 (ow : Int)) := fun W hb =>
    ⟨contains_c takenB _ #[] e57 h f m (c - f) T W (taken_p W) (t1.kept hb).pgs (by omega) (by omega), (t1.kept hb).row, ⟨t1.kept hb, ((Upd.refl h w).alloc _).then_ hb⟩, (hb.cell (p := ⟨w.heap.size, 0, none⟩) (by simp)).trans (by simp)⟩
  have C1 := Lib.hid C1
  have C2 := Lib.hid C2
  have D := Lib.hid t
  clear t t1
  cases hm : T.any (mineB ow) with
  | true =>
    rw [Bool.true_or, if_pos rfl]
    rw [hm] at C1
    clear hm
    generalize T.length = len at r0 few h3 h4 cap C1
    go_enter Try.func29, Try.ntmps29
    go_wp2_with fail
    refine C1.out.mono ?_
    rintro e w1 ⟨rfl, hb⟩
    obtain ⟨_, q1, q2, q3⟩ := C2.out _ hb
    have Q2 := Lib.hid q2
    clear hb q2
    go_wp2_with fail
    go_ret
    exact ⟨rfl, Q2.out.1, Q2.out.2⟩
  | false =>
    rw [Bool.false_or]
    rw [hm] at C1
    clear hm
    cases ht : ((T.drop f).take m).any takenB with
    | true =>
      rw [if_pos rfl]
      rw [ht] at C2
      clear ht
      have HL := Lib.hid (rfl : T.length = T.length)
      go_enter Try.func29, Try.ntmps29
      go_wp2_with fail
      refine C1.out.mono ?_
      rintro e w1 ⟨rfl, hb⟩
      obtain ⟨q0, q1, q2, q3⟩ := C2.out _ hb
      have C3 := Lib.hid q0
      have Q2 := Lib.hid q2
      clear q2 hb q0
      go_wp2_with fail
      refine C3.out.mono ?_
      rintro e w2 ⟨rfl, hb⟩
      have Q2 := Lib.hid (And.intro (Q2.out.1.kept hb) (Q2.out.2.then_ hb))
      clear hb
      go_wp2_with fail
      go_ret
      exact ⟨rfl, Q2.out.1, Q2.out.2⟩
    | false =>
      rw [if_neg (by decide)]
      rw [ht] at C2
      clear ht
      go_enter Try.func29, Try.ntmps29
      go_wp2_with fail
      refine C1.out.mono ?_
      rintro e w1 ⟨rfl, hb⟩
      obtain ⟨q0, q1, q2, q3⟩ := C2.out _ hb
      have C3 := Lib.hid q0
      have Q2 := Lib.hid q2
      have HB := Lib.hid hb
      clear q2 hb q0
      go_wp2_with fail
      refine C3.out.mono ?_
      rintro e w2 ⟨rfl, hb⟩
      have Q2 := Lib.hid (And.intro (Q2.out.1.kept hb) (Q2.out.2.then_ hb))
      have hs1 : w.heap.size + 1 ≤ w1.heap.size := by have := HB.out.size; simpa using this
      have hs2 : w.heap.size + 1 ≤ w2.heap.size := Nat.le_trans hs1 hb.size
      have q3 : w2.cell? ⟨w.heap.size, 0, none⟩ = some (.int .u16 (ow : Int)) := (hb.cell (p := ⟨w.heap.size, 0, none⟩) (by simp; omega)).trans q3
      clear hb q1 C1 C2 C3 HB FA
      have q1 := Q2.out.1.row
      go_wp2_with fail
      go_loopg [66] m (fun gg s66 wr => ∃ kk : Nat, kk ≤ m ∧ m - kk ≤ gg ∧ s66 = .int .i64 (kk : Int) ∧ Hid (Pgs wr h (fillN ow T f kk)) ∧ Hid (Upd h w2 wr))
      case atStart => exact ⟨0, Nat.zero_le _, by omega, rfl, Lib.hid Q2.out.1.pgs, Lib.hid (Upd.refl _ _)⟩
      case round =>
        obtain ⟨kk, hkk, hg, rfl, PW, UW⟩ := hrel
        have r1 : wr.cell? ⟨g, 0, none⟩ = some (.slice (some ⟨h, 0, none⟩) T.length c) := (UW.out.cell (p := ⟨g, 0, none⟩) (by show g < w2.heap.size; omega) D.out.ne).trans q1
        have r3 : wr.cell? ⟨w.heap.size, 0, none⟩ = some (.int .u16 (ow : Int)) := (UW.out.cell (p := ⟨w.heap.size, 0, none⟩) (by show w.heap.size < w2.heap.size; omega) (by show w.heap.size ≠ h; omega)).trans q3
        by_cases hlt : kk < m
        · have hltz : (kk : Int) < (m : Int) := by omega
          have hfk : f + kk < T.length := by omega
          have hfl : f + kk < (fillN ow T f kk).length := by rw [fillN_length]; exact hfk
          have hfz : ((f + kk : Nat) : Int) < (T.length : Int) := by omega
          have hl := PW.out.lies hfl
          have fz := PW.out.free
          have HS := Lib.hid (PW.out.set hfl (stg ow))
          have HU := Lib.hid (UW.out.store ((f + kk) * 5) (stg ow))
          generalize (fillN ow T f kk)[f + kk]! = y at hl
          obtain ⟨c0, c1, c2, c3, c4⟩ := hl
          have f0 := fz ((f + kk) * 5)
          have f1 := fz ((f + kk) * 5 + 1)
          have f2 := fz ((f + kk) * 5 + 2)
          have f3 := fz ((f + kk) * 5 + 3)
          have f4 := fz ((f + kk) * 5 + 4)
          clear fz PW
          go_wp2_with fail
          go_region
          all_goals go_wp2_with fail
          go_roundg (m - (kk + 1))
          case measure => omega
          case rel => exact ⟨kk + 1, by omega, by omega, by go_num, Lib.hid (HS.out.drewN 1), Lib.hid (HU.out.drewN 1)⟩
        · have hltz : ¬ (kk : Int) < (m : Int) := by omega
          have : kk = m := by omega
          subst this
          go_wp2_with fail
          go_ret
          exact ⟨rfl, Q2.out.1.turned UW.out PW.out (fillN_length _ _ _ _), Q2.out.2.trans UW.out⟩
theorem stage_nil (w : World) (a b : Value) (u : Int) : Calls Try.prog 29 #[.pointer none, a, b, .int .u16 u] w fun e w' => e = .returned (.int .i64 1) ∧ Below w.heap.size w w' := by
  go_enter Try.func29, Try.ntmps29
  go_wp2_with fail
  go_ret
  exact ⟨rfl, (Below.refl _ _).alloc (Nat.le_refl _) _⟩
end Go.Proofs.Ythnbdeibjbicpaa.PM
