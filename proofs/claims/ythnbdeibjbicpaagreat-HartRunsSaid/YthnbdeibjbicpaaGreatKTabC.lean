/- Contracts of Publish, Retire, Release. Conditions: the table's cells. -/
import Derived.Test.YthnbdeibjbicpaaGreatKTabB
import Derived.Test.YthnbdeibjbicpaaGreatTab2
set_option linter.unusedSimpArgs false
namespace Go.Proofs.YthnbdeibjbicpaaGreat.PM
set_option linter.unusedVariables false
open Go.RowKit
def isS (q : Nat) (s : Nat) : Bool := s == q
def isI (s : Nat) : Bool := s == 1 || s == 3
/-- What Publish makes of pages, and its answer. -/
def pubM (T : List Page) (ow : Nat) (code : Int) : List Page × Nat :=
  if T.countP (sel ow (isS 1)) = 0 then (T, 8)
  else if code < 0 ∨ (T.countP (sel ow (isS 1)) : Int) < code then (T, 2)
  else (go (sel ow (isS 1)) (pubF code) 0 T, 0)
def retM (T : List Page) (ow : Nat) (ep : Nat) : List Page × Nat :=
  if T.countP (sel ow (isS 2)) = 0 then (T, 8) else (go (sel ow (isS 2)) (retF ep) 0 T, 0)
def relM (T : List Page) (ow : Nat) : List Page × Nat :=
  if T.countP (sel ow isI) = 0 then (T, 8) else (go (sel ow isI) relF 0 T, 0)
theorem go_same (sl : Page → Bool) (k : Nat) (T : List Page) : go sl (fun _ p => p) k T = T := by
  induction T generalizing k with
  | nil => rfl
  | cons p T ih => unfold go; simp [ih]
theorem go_none (sl : Page → Bool) (f : Nat → Page → Page) (k : Nat) (T : List Page) (h : T.countP sl = 0) : go sl f k T = T := by
  rw [List.countP_eq_zero] at h
  induction T generalizing k with
  | nil => rfl
  | cons p T ih =>
    unfold go
    have hp : sl p = false := by simpa using h p (by simp)
    rw [hp, ih k (fun q hq => h q (by simp [hq]))]
    rfl
theorem e91 : ∀ args w, (callFunc 95 args).run Tryz.prog w = .ok (.enter 95 args) w := enters_of Tryz.func95 (by kernel_rfl) rfl
theorem e61 : ∀ args w, (callFunc 67 args).run Tryz.prog w = .ok (.enter 67 args) w := enters_of Tryz.func67 (by kernel_rfl) rfl
theorem e62 : ∀ args w, (callFunc 68 args).run Tryz.prog w = .ok (.enter 68 args) w := enters_of Tryz.func68 (by kernel_rfl) rfl
theorem e63 : ∀ args w, (callFunc 70 args).run Tryz.prog w = .ok (.enter 70 args) w := enters_of Tryz.func70 (by kernel_rfl) rfl
theorem Upd.count {T : List Page} (sl : Page → Bool) : T.countP sl ≤ T.length := List.countP_le_length
set_option maxHeartbeats 2000000 in
theorem ret_c (w : World) (g h c : Nat) (T : List Page) (t : Tab w g h c T) (ow ep : Nat) :
    Calls Tryz.prog 23 #[.pointer (some ⟨g, 0, none⟩), .int .u16 (ow : Int), .int .u64 (ep : Int)] w fun e w' =>
      e = .returned (.int .i64 ((retM T ow ep).2 : Int)) ∧ Tab w' g h c (retM T ow ep).1 ∧ Upd h w w' := by
  have hh := t.pgs.lt
  have E := Lib.hid (each_c ((w.alloc (.cells #[.int .u64 (ep : Int)] 28)).alloc (.cells #[.int .u8 (2 : Nat)] 107)) g h c T ((t.alloc _).alloc _) ow _ _ #[.pointer (some ⟨w.heap.size + 1, 0, none⟩)] #[.pointer (some ⟨w.heap.size, 0, none⟩)] (isS 2) (retF ep) e91 e63
    (is_in _ _ h 2 (by simp) (by simp) (by omega)) (ret_do _ h _ ep (by simp) (by simp; omega) (by omega)))
  have D := Lib.hid t
  have hcl := Upd.count (T := T) (sel ow (isS 2))
  have few := t.few
  clear t
  unfold retM
  by_cases h0 : T.countP (sel ow (isS 2)) = 0
  · rw [if_pos h0]
    rw [h0] at E
    have G := Lib.hid (go_none (sel ow (isS 2)) (retF ep) 0 T h0)
    clear h0 hcl
    go_enter Tryz.func23, Tryz.ntmps23
    go_wp2_with fail
    refine (is_c _ 2).mono ?_
    rintro e w1 ⟨rfl, rfl⟩
    go_wp2_with fail
    refine E.out.mono ?_
    rintro e w1 ⟨rfl, hp, hu⟩
    rw [G.out] at hp
    have HP := Lib.hid hp
    have HU := Lib.hid ((((Upd.refl h w).alloc _).alloc _).trans hu)
    clear hp hu
    go_wp2_with fail
    go_ret
    exact ⟨rfl, D.out.turned HU.out HP.out rfl, HU.out⟩
  · rw [if_neg h0]
    have G := Lib.hid (go_length (sel ow (isS 2)) (retF ep) 0 T)
    generalize hc : T.countP (sel ow (isS 2)) = k at E h0 hcl
    have hk : ¬ (k : Int) = 0 := by omega
    clear hc h0
    go_enter Tryz.func23, Tryz.ntmps23
    go_wp2_with fail
    refine (is_c _ 2).mono ?_
    rintro e w1 ⟨rfl, rfl⟩
    go_wp2_with fail
    refine E.out.mono ?_
    rintro e w1 ⟨rfl, hp, hu⟩
    have HP := Lib.hid hp
    have HU := Lib.hid ((((Upd.refl h w).alloc _).alloc _).trans hu)
    clear hp hu
    go_wp2_with fail
    go_ret
    exact ⟨rfl, D.out.turned HU.out HP.out G.out, HU.out⟩
end Go.Proofs.YthnbdeibjbicpaaGreat.PM

/- Contracts of Publish and Fork. Conditions: the table's cells. -/
set_option linter.unusedSimpArgs false
namespace Go.Proofs.YthnbdeibjbicpaaGreat.PM
set_option linter.unusedVariables false
open Go.RowKit
set_option maxHeartbeats 4000000 in
theorem pub_c (w : World) (g h c : Nat) (T : List Page) (t : Tab w g h c T) (ow : Nat) (code : Int) :
    Calls Tryz.prog 19 #[.pointer (some ⟨g, 0, none⟩), .int .u16 (ow : Int), .int .i64 code] w fun e w' =>
      e = .returned (.int .i64 ((pubM T ow code).2 : Int)) ∧ Tab w' g h c (pubM T ow code).1 ∧ Upd h w w' := by
  have hh := t.pgs.lt
  have t1 := (t.alloc (.cells #[.int .i64 code] 3)).alloc (.cells #[.int .u8 (1 : Nat)] 107)
  have E1 := Lib.hid (each_c ((w.alloc (.cells #[.int .i64 code] 3)).alloc (.cells #[.int .u8 (1 : Nat)] 107)) g h c T t1 ow _ _ #[.pointer (some ⟨w.heap.size + 1, 0, none⟩)] #[] (isS 1) (fun _ p => p) e91 e61
    (is_in _ _ h 1 (by simp) (by simp) (by omega)) (none_do _ h))
  have E2 : ∀ W : World, Pgs W h (go (sel ow (isS 1)) (fun _ p => p) 0 T) → Upd h ((w.alloc (.cells #[.int .i64 code] 3)).alloc (.cells #[.int .u8 (1 : Nat)] 107)) W →
      Calls Tryz.prog 65 #[.pointer (some ⟨g, 0, none⟩), .int .u16 (ow : Int), .func (.func 95) #[] #[.pointer (some ⟨W.heap.size, 0, none⟩)], .func (.func 68) #[] #[.pointer (some ⟨w.heap.size, 0, none⟩)]] (W.alloc (.cells #[.int .u8 (1 : Nat)] 107)) fun e w' =>
        e = .returned (.int .i64 (T.countP (sel ow (isS 1)) : Int)) ∧ Pgs w' h (go (sel ow (isS 1)) (pubF code) 0 T) ∧ Upd h (W.alloc (.cells #[.int .u8 (1 : Nat)] 107)) w' := by
    intro W hp hu
    rw [go_same] at hp
    have t2 : Tab W g h c T := t1.turned hu hp rfl
    have hs : w.heap.size + 2 ≤ W.heap.size := by have := hu.size; simpa using this
    have hc : W.cell? ⟨w.heap.size, 0, none⟩ = some (.int .i64 code) := (hu.cell (p := ⟨w.heap.size, 0, none⟩) (by simp; omega) (by show w.heap.size ≠ h; omega)).trans (by simp)
    exact each_c _ g h c T (t2.alloc _) ow _ _ _ _ (isS 1) (pubF code) e91 e62 (is_in _ _ h 1 (by simp) (by simp) (by have := hp.lt; omega)) (pub_do _ h _ code (by rw [World.cell?_alloc_past _ _ _ (by omega)]; exact hc) (by simp; omega) (by omega))
  have E2 := Lib.hid E2
  have D := Lib.hid t1
  have hcl := Upd.count (T := T) (sel ow (isS 1))
  have few := t.few
  have HB : ∀ W : World, Upd h ((w.alloc (.cells #[.int .i64 code] 3)).alloc (.cells #[.int .u8 (1 : Nat)] 107)) W → W.cell? ⟨w.heap.size, 0, none⟩ = some (.int .i64 code) := fun W hu =>
    (hu.cell (p := ⟨w.heap.size, 0, none⟩) (by simp; omega) (by show w.heap.size ≠ h; omega)).trans (by simp)
  have HB := Lib.hid HB
  have G := Lib.hid (go_length (sel ow (isS 1)) (pubF code) 0 T)
  have GS := Lib.hid (go_same (sel ow (isS 1)) 0 T)
  have fin : ∀ W, Pgs W h (go (sel ow (isS 1)) (fun _ p => p) 0 T) → Upd h ((w.alloc (.cells #[.int .i64 code] 3)).alloc (.cells #[.int .u8 (1 : Nat)] 107)) W → Tab W g h c T ∧ Upd h w W := fun W hp hu =>
    ⟨D.out.turned hu (by rw [GS.out] at hp; exact hp) rfl, (((Upd.refl h w).alloc _).alloc _).trans hu⟩
  have FI := Lib.hid fin
  clear t t1 fin
  unfold pubM
  generalize hc : T.countP (sel ow (isS 1)) = k at E1 E2 hcl
  clear hc
  by_cases h0 : k = 0
  · rw [if_pos h0]
    subst h0
    go_enter Tryz.func19, Tryz.ntmps19
    go_wp2_with fail
    refine (is_c _ 1).mono ?_
    rintro e w1 ⟨rfl, rfl⟩
    go_wp2_with fail
    refine E1.out.mono ?_
    rintro e w1 ⟨rfl, hp, hu⟩
    obtain ⟨f1, f2⟩ := FI.out _ hp hu
    have F1 := Lib.hid f1
    have F2 := Lib.hid f2
    clear hp hu f1 f2
    go_wp2_with fail
    go_ret
    exact ⟨rfl, F1.out, F2.out⟩
  rw [if_neg h0]
  have hk : ¬ (k : Int) = 0 := by omega
  by_cases h1 : code < 0
  · rw [if_pos (Or.inl h1)]
    go_enter Tryz.func19, Tryz.ntmps19
    go_wp2_with fail
    refine (is_c _ 1).mono ?_
    rintro e w1 ⟨rfl, rfl⟩
    go_wp2_with fail
    refine E1.out.mono ?_
    rintro e w1 ⟨rfl, hp, hu⟩
    obtain ⟨f1, f2⟩ := FI.out _ hp hu
    have F1 := Lib.hid f1
    have F2 := Lib.hid f2
    have cb := HB.out _ hu
    clear hp hu f1 f2
    go_wp2_with fail
    go_ret
    exact ⟨rfl, F1.out, F2.out⟩
  by_cases h2 : (k : Int) < code
  · rw [if_pos (Or.inr h2)]
    go_enter Tryz.func19, Tryz.ntmps19
    go_wp2_with fail
    refine (is_c _ 1).mono ?_
    rintro e w1 ⟨rfl, rfl⟩
    go_wp2_with fail
    refine E1.out.mono ?_
    rintro e w1 ⟨rfl, hp, hu⟩
    obtain ⟨f1, f2⟩ := FI.out _ hp hu
    have F1 := Lib.hid f1
    have F2 := Lib.hid f2
    have cb := HB.out _ hu
    clear hp hu f1 f2
    go_wp2_with fail
    go_ret
    exact ⟨rfl, F1.out, F2.out⟩
  rw [if_neg (by omega)]
  go_enter Tryz.func19, Tryz.ntmps19
  go_wp2_with fail
  refine (is_c _ 1).mono ?_
  rintro e w1 ⟨rfl, rfl⟩
  go_wp2_with fail
  refine E1.out.mono ?_
  rintro e w1 ⟨rfl, hp, hu⟩
  obtain ⟨f1, f2⟩ := FI.out _ hp hu
  have F1 := Lib.hid f1
  have F2 := Lib.hid f2
  have cb := HB.out _ hu
  have E2 := Lib.hid (E2.out _ hp hu)
  clear hp hu f1 f2
  go_wp2_with fail
  refine (is_c _ 1).mono ?_
  rintro e w2 ⟨rfl, rfl⟩
  go_wp2_with fail
  refine E2.out.mono ?_
  rintro e w3 ⟨rfl, hp, hu⟩
  have HP := Lib.hid hp
  have HU := Lib.hid hu
  clear hp hu
  go_wp2_with fail
  go_ret
  exact ⟨rfl, (F1.out.alloc _).turned HU.out HP.out G.out, (F2.out.alloc _).trans HU.out⟩
end Go.Proofs.YthnbdeibjbicpaaGreat.PM

/- Contract of Stage. Conditions: the table's cells. -/
set_option linter.unusedSimpArgs false
namespace Go.Proofs.YthnbdeibjbicpaaGreat.PM
set_option linter.unusedVariables false
open Go.RowKit
/-- A page that is staged. -/
def stg (ow : Nat) : Page := ⟨1, false, false, ow, 0⟩
/-- The first k of the pages from some place on are staged. -/
def fillN (ow : Nat) (T : List Page) (f : Nat) : Nat → List Page
  | 0 => T
  | k + 1 => (fillN ow T f k).set (f + k) (stg ow)
theorem fillN_length (ow : Nat) (T : List Page) (f k : Nat) : (fillN ow T f k).length = T.length := by
  induction k with
  | zero => rfl
  | succ k ih => unfold fillN; rw [List.length_set, ih]
def mineB (ow : Nat) (p : Page) : Bool := p.s != 0 && p.ow == ow
def takenB (p : Page) : Bool := p.s != 0
/-- What Stage makes of pages, and its answer. -/
def stageM (T : List Page) (fr n : Int) (ow : Nat) : List Page × Nat :=
  if ow = 0 ∨ n < 1 then (T, 2)
  else if fr < 0 ∨ (T.length : Int) < fr ∨ (T.length : Int) - fr < n then (T, 11)
  else if T.any (mineB ow) || ((T.drop fr.toNat).take n.toNat).any takenB then (T, 9)
  else (fillN ow T fr.toNat n.toNat, 0)
theorem mine_p (ow B : Nat) (w : World) (hB : B < w.heap.size) (hcell : w.cell? ⟨B, 0, none⟩ = some (.int .u16 (ow : Int))) :
    PredBelow Tryz.prog 55 #[.pointer (some ⟨B, 0, none⟩)] Page.v (mineB ow) w := fun W p hb => by
  have hc : W.cell? ⟨B, 0, none⟩ = some (.int .u16 (ow : Int)) := (hb.cell (p := ⟨B, 0, none⟩) hB).trans hcell
  have hBW : B < W.heap.size := Nat.lt_of_lt_of_le hB hb.size
  have hne : B ≠ W.heap.size := by omega
  have e : mineB ow p = (((p.s : Int) != 0) && ((p.ow : Int) == (ow : Int))) := by
    unfold mineB
    have e1 : (p.ow == ow) = ((p.ow : Int) == (ow : Int)) := by rw [Bool.eq_iff_iff]; simp; omega
    have e2 : (p.s != 0) = ((p.s : Int) != 0) := by rw [Bool.eq_iff_iff]; simp
    rw [e1, e2]
  show Calls Tryz.prog 55 #[.agg #[.int .u8 (p.s : Int), .bool p.x, .bool p.wr, .int .u16 (p.ow : Int), .int .u64 (p.ep : Int)], .pointer (some ⟨B, 0, none⟩)] W _
  rw [e]
  have HF := Lib.hid (hb.alloc (o := Obj.cells #[.int .u8 (p.s : Int), .bool p.x, .bool p.wr, .int .u16 (p.ow : Int), .int .u64 (p.ep : Int)] 109) hb.size)
  clear hb hcell hB e
  cases q1 : ((p.s : Int) != 0) <;> cases q2 : ((p.ow : Int) == (ow : Int))
  all_goals
    go_enter Tryz.func55, Tryz.ntmps55
    go_wp2_with fail
    go_ret
    exact ⟨rfl, HF.out⟩
theorem taken_p (w : World) :
    PredBelow Tryz.prog 56 #[] Page.v takenB w := fun W p hb => by
  have e : takenB p = ((p.s : Int) != 0) := by
    unfold takenB
    rw [Bool.eq_iff_iff]; simp
  show Calls Tryz.prog 56 #[.agg #[.int .u8 (p.s : Int), .bool p.x, .bool p.wr, .int .u16 (p.ow : Int), .int .u64 (p.ep : Int)]] W _
  rw [e]
  have HF := Lib.hid (hb.alloc (o := Obj.cells #[.int .u8 (p.s : Int), .bool p.x, .bool p.wr, .int .u16 (p.ow : Int), .int .u64 (p.ep : Int)] 109) hb.size)
  clear hb e
  go_enter Tryz.func56, Tryz.ntmps56
  go_wp2_with fail
  go_ret
  exact ⟨rfl, HF.out⟩
theorem e56 : ∀ args w, (callFunc 55 args).run Tryz.prog w = .ok (.enter 55 args) w := enters_of Tryz.func55 (by kernel_rfl) rfl
theorem e57 : ∀ args w, (callFunc 56 args).run Tryz.prog w = .ok (.enter 56 args) w := enters_of Tryz.func56 (by kernel_rfl) rfl
set_option maxHeartbeats 4000000 in
theorem stage_c (w : World) (g h c : Nat) (T : List Page) (t : Tab w g h c T) (fr n : Int) (ow : Nat) :
    Calls Tryz.prog 15 #[.pointer (some ⟨g, 0, none⟩), .int .i64 fr, .int .i64 n, .int .u16 (ow : Int)] w fun e w' =>
      e = .returned (.int .i64 ((stageM T fr n ow).2 : Int)) ∧ Tab w' g h c (stageM T fr n ow).1 ∧ Upd h w w' := by
  have hh := t.pgs.lt
  have r0 := t.row
  have hgl := t.lt
  have few := t.few
  have cap := t.cap
  have FA := Lib.hid (fun o => And.intro (t.alloc o) ((Upd.refl h w).alloc o))
  have hog : ((ow : Int) == 0) = (ow == 0) := by rw [Bool.eq_iff_iff]; simp
  unfold stageM
  by_cases h0 : ow = 0
  · rw [if_pos (Or.inl h0)]
    subst h0
    clear t
    go_enter Tryz.func15, Tryz.ntmps15
    go_wp2_with fail
    go_ret
    exact ⟨rfl, (FA.out _).1, (FA.out _).2⟩
  have hob : ((ow : Int) == 0) = false := by rw [hog]; simpa using h0
  clear hog
  by_cases h1 : n < 1
  · rw [if_pos (Or.inr h1)]
    clear t
    go_enter Tryz.func15, Tryz.ntmps15
    go_wp2_with fail
    go_ret
    exact ⟨rfl, (FA.out _).1, (FA.out _).2⟩
  rw [if_neg (by omega)]
  by_cases h2 : fr < 0
  · rw [if_pos (by omega)]
    clear t
    go_enter Tryz.func15, Tryz.ntmps15
    go_wp2_with fail
    go_ret
    exact ⟨rfl, (FA.out _).1, (FA.out _).2⟩
  by_cases h3 : (T.length : Int) < fr
  · rw [if_pos (by omega)]
    clear t
    generalize T.length = len at r0 few h3 cap
    go_enter Tryz.func15, Tryz.ntmps15
    go_wp2_with fail
    go_ret
    exact ⟨rfl, (FA.out _).1, (FA.out _).2⟩
  obtain ⟨f, rfl⟩ : ∃ f : Nat, fr = (f : Int) := ⟨fr.toNat, by omega⟩
  by_cases h4 : (T.length : Int) - (f : Int) < n
  · rw [if_pos (by omega)]
    clear t
    generalize T.length = len at r0 few h3 h4 cap
    go_enter Tryz.func15, Tryz.ntmps15
    go_wp2_with fail
    go_ret
    exact ⟨rfl, (FA.out _).1, (FA.out _).2⟩
  rw [if_neg (by omega)]
  obtain ⟨m, rfl⟩ : ∃ m : Nat, n = (m : Int) := ⟨n.toNat, by omega⟩
  simp only [Int.toNat_natCast]
  have t1 := t.alloc (.cells #[.int .u16 (ow : Int)] 59)
  have C1 : Calls Tryz.prog 57 #[.slice (some ⟨h, 0, none⟩) T.length c, .func (.func 55) #[] #[.pointer (some ⟨w.heap.size, 0, none⟩)]] (w.alloc (.cells #[.int .u16 (ow : Int)] 59)) fun e w' => e = .returned (.bool (T.any (mineB ow))) ∧ Below (w.alloc (.cells #[.int .u16 (ow : Int)] 59)).heap.size (w.alloc (.cells #[.int .u16 (ow : Int)] 59)) w' := by
    have := contains_c (mineB ow) _ #[.pointer (some ⟨w.heap.size, 0, none⟩)] e56 h 0 T.length c T (w.alloc (.cells #[.int .u16 (ow : Int)] 59)) (mine_p ow _ _ (by simp) (by simp)) t1.pgs (by omega) (by omega)
    simpa using this
  have C2 : ∀ W : World, Below (w.alloc (.cells #[.int .u16 (ow : Int)] 59)).heap.size (w.alloc (.cells #[.int .u16 (ow : Int)] 59)) W →
      (Calls Tryz.prog 57 #[.slice (some ⟨h, f * 5, none⟩) m (c - f), .func (.func 56) #[] #[]] W fun e w' => e = .returned (.bool (((T.drop f).take m).any takenB)) ∧ Below W.heap.size W w') ∧ W.cell? ⟨g, 0, none⟩ = some (.slice (some ⟨h, 0, none⟩) T.length c) ∧ (Tab W g h c T ∧ Upd h w W) ∧ W.cell? ⟨w.heap.size, 0, none⟩ = some (.int .u16 (ow : Int)) := fun W hb =>
    ⟨contains_c takenB _ #[] e57 h f m (c - f) T W (taken_p W) (t1.kept hb).pgs (by omega) (by omega), (t1.kept hb).row, ⟨t1.kept hb, ((Upd.refl h w).alloc _).then_ hb⟩, (hb.cell (p := ⟨w.heap.size, 0, none⟩) (by simp)).trans (by simp)⟩
  have C1 := Lib.hid C1
  have C2 := Lib.hid C2
  have D := Lib.hid t
  clear t t1
  cases hm : T.any (mineB ow) with
  | true =>
    rw [Bool.true_or, if_pos rfl]
    rw [hm] at C1
    clear hm
    generalize T.length = len at r0 few h3 h4 cap C1
    go_enter Tryz.func15, Tryz.ntmps15
    go_wp2_with fail
    refine C1.out.mono ?_
    rintro e w1 ⟨rfl, hb⟩
    obtain ⟨_, q1, q2, q3⟩ := C2.out _ hb
    have Q2 := Lib.hid q2
    clear hb q2
    go_wp2_with fail
    go_ret
    exact ⟨rfl, Q2.out.1, Q2.out.2⟩
  | false =>
    rw [Bool.false_or]
    rw [hm] at C1
    clear hm
    cases ht : ((T.drop f).take m).any takenB with
    | true =>
      rw [if_pos rfl]
      rw [ht] at C2
      clear ht
      have HL := Lib.hid (rfl : T.length = T.length)
      go_enter Tryz.func15, Tryz.ntmps15
      go_wp2_with fail
      refine C1.out.mono ?_
      rintro e w1 ⟨rfl, hb⟩
      obtain ⟨q0, q1, q2, q3⟩ := C2.out _ hb
      have C3 := Lib.hid q0
      have Q2 := Lib.hid q2
      clear q2 hb q0
      go_wp2_with fail
      refine C3.out.mono ?_
      rintro e w2 ⟨rfl, hb⟩
      have Q2 := Lib.hid (And.intro (Q2.out.1.kept hb) (Q2.out.2.then_ hb))
      clear hb
      go_wp2_with fail
      go_ret
      exact ⟨rfl, Q2.out.1, Q2.out.2⟩
    | false =>
      rw [if_neg (by decide)]
      rw [ht] at C2
      clear ht
      go_enter Tryz.func15, Tryz.ntmps15
      go_wp2_with fail
      refine C1.out.mono ?_
      rintro e w1 ⟨rfl, hb⟩
      obtain ⟨q0, q1, q2, q3⟩ := C2.out _ hb
      have C3 := Lib.hid q0
      have Q2 := Lib.hid q2
      have HB := Lib.hid hb
      clear q2 hb q0
      go_wp2_with fail
      refine C3.out.mono ?_
      rintro e w2 ⟨rfl, hb⟩
      have Q2 := Lib.hid (And.intro (Q2.out.1.kept hb) (Q2.out.2.then_ hb))
      have hs1 : w.heap.size + 1 ≤ w1.heap.size := by have := HB.out.size; simpa using this
      have hs2 : w.heap.size + 1 ≤ w2.heap.size := Nat.le_trans hs1 hb.size
      have q3 : w2.cell? ⟨w.heap.size, 0, none⟩ = some (.int .u16 (ow : Int)) := (hb.cell (p := ⟨w.heap.size, 0, none⟩) (by simp; omega)).trans q3
      clear hb q1 C1 C2 C3 HB FA
      have q1 := Q2.out.1.row
      go_wp2_with fail
      go_loopg [66] m (fun gg s66 wr => ∃ kk : Nat, kk ≤ m ∧ m - kk ≤ gg ∧ s66 = .int .i64 (kk : Int) ∧ Hid (Pgs wr h (fillN ow T f kk)) ∧ Hid (Upd h w2 wr))
      case atStart => exact ⟨0, Nat.zero_le _, by omega, rfl, Lib.hid Q2.out.1.pgs, Lib.hid (Upd.refl _ _)⟩
      case round =>
        obtain ⟨kk, hkk, hg, rfl, PW, UW⟩ := hrel
        have r1 : wr.cell? ⟨g, 0, none⟩ = some (.slice (some ⟨h, 0, none⟩) T.length c) := (UW.out.cell (p := ⟨g, 0, none⟩) (by show g < w2.heap.size; omega) D.out.ne).trans q1
        have r3 : wr.cell? ⟨w.heap.size, 0, none⟩ = some (.int .u16 (ow : Int)) := (UW.out.cell (p := ⟨w.heap.size, 0, none⟩) (by show w.heap.size < w2.heap.size; omega) (by show w.heap.size ≠ h; omega)).trans q3
        by_cases hlt : kk < m
        · have hltz : (kk : Int) < (m : Int) := by omega
          have hfk : f + kk < T.length := by omega
          have hfl : f + kk < (fillN ow T f kk).length := by rw [fillN_length]; exact hfk
          have hfz : ((f + kk : Nat) : Int) < (T.length : Int) := by omega
          have hl := PW.out.lies hfl
          have fz := PW.out.free
          have HS := Lib.hid (PW.out.set hfl (stg ow))
          have HU := Lib.hid (UW.out.store ((f + kk) * 5) (stg ow))
          generalize (fillN ow T f kk)[f + kk]! = y at hl
          obtain ⟨c0, c1, c2, c3, c4⟩ := hl
          have f0 := fz ((f + kk) * 5)
          have f1 := fz ((f + kk) * 5 + 1)
          have f2 := fz ((f + kk) * 5 + 2)
          have f3 := fz ((f + kk) * 5 + 3)
          have f4 := fz ((f + kk) * 5 + 4)
          clear fz PW
          go_wp2_with fail
          go_region
          all_goals go_wp2_with fail
          go_roundg (m - (kk + 1))
          case measure => omega
          case rel => exact ⟨kk + 1, by omega, by omega, by go_num, Lib.hid (HS.out.drewN 1), Lib.hid (HU.out.drewN 1)⟩
        · have hltz : ¬ (kk : Int) < (m : Int) := by omega
          have : kk = m := by omega
          subst this
          go_wp2_with fail
          go_ret
          exact ⟨rfl, Q2.out.1.turned UW.out PW.out (fillN_length _ _ _ _), Q2.out.2.trans UW.out⟩
end Go.Proofs.YthnbdeibjbicpaaGreat.PM
