/- Contracts of Publish and Fork. Conditions: the table's cells. -/
import Derived.Test.YthnbdeibjbicpaaTab6
set_option linter.unusedSimpArgs false
namespace Go.Proofs.Ythnbdeibjbicpaa.PM
set_option linter.unusedVariables false
open Go.RowKit
set_option maxHeartbeats 4000000 in
theorem pub_c (w : World) (g h c : Nat) (T : List Page) (t : Tab w g h c T) (ow : Nat) (code : Int) :
    Calls Try.prog 33 #[.pointer (some ⟨g, 0, none⟩), .int .u16 (ow : Int), .int .i64 code] w fun e w' =>
      e = .returned (.int .i64 ((pubM T ow code).2 : Int)) ∧ Tab w' g h c (pubM T ow code).1 ∧ Upd h w w' := by
  have hh := t.pgs.lt
  have t1 := (t.alloc (.cells #[.int .i64 code] 3)).alloc (.cells #[.int .u8 (1 : Nat)] 56)
  have E1 := Lib.hid (each_c ((w.alloc (.cells #[.int .i64 code] 3)).alloc (.cells #[.int .u8 (1 : Nat)] 56)) g h c T t1 ow _ _ #[.pointer (some ⟨w.heap.size + 1, 0, none⟩)] #[] (isS 1) (fun _ p => p) e91 e61
    (is_in _ _ h 1 (by simp) (by simp) (by omega)) (none_do _ h))
  have E2 : ∀ W : World, Pgs W h (go (sel ow (isS 1)) (fun _ p => p) 0 T) → Upd h ((w.alloc (.cells #[.int .i64 code] 3)).alloc (.cells #[.int .u8 (1 : Nat)] 56)) W →
      Calls Try.prog 64 #[.pointer (some ⟨g, 0, none⟩), .int .u16 (ow : Int), .func (.func 83) #[] #[.pointer (some ⟨W.heap.size, 0, none⟩)], .func (.func 67) #[] #[.pointer (some ⟨w.heap.size, 0, none⟩)]] (W.alloc (.cells #[.int .u8 (1 : Nat)] 56)) fun e w' =>
        e = .returned (.int .i64 (T.countP (sel ow (isS 1)) : Int)) ∧ Pgs w' h (go (sel ow (isS 1)) (pubF code) 0 T) ∧ Upd h (W.alloc (.cells #[.int .u8 (1 : Nat)] 56)) w' := by
    intro W hp hu
    rw [go_same] at hp
    have t2 : Tab W g h c T := t1.turned hu hp rfl
    have hs : w.heap.size + 2 ≤ W.heap.size := by have := hu.size; simpa using this
    have hc : W.cell? ⟨w.heap.size, 0, none⟩ = some (.int .i64 code) := (hu.cell (p := ⟨w.heap.size, 0, none⟩) (by simp; omega) (by show w.heap.size ≠ h; omega)).trans (by simp)
    exact each_c _ g h c T (t2.alloc _) ow _ _ _ _ (isS 1) (pubF code) e91 e62 (is_in _ _ h 1 (by simp) (by simp) (by have := hp.lt; omega)) (pub_do _ h _ code (by rw [World.cell?_alloc_past _ _ _ (by omega)]; exact hc) (by simp; omega) (by omega))
  have E2 := Lib.hid E2
  have D := Lib.hid t1
  have hcl := Upd.count (T := T) (sel ow (isS 1))
  have few := t.few
  have HB : ∀ W : World, Upd h ((w.alloc (.cells #[.int .i64 code] 3)).alloc (.cells #[.int .u8 (1 : Nat)] 56)) W → W.cell? ⟨w.heap.size, 0, none⟩ = some (.int .i64 code) := fun W hu =>
    (hu.cell (p := ⟨w.heap.size, 0, none⟩) (by simp; omega) (by show w.heap.size ≠ h; omega)).trans (by simp)
  have HB := Lib.hid HB
  have G := Lib.hid (go_length (sel ow (isS 1)) (pubF code) 0 T)
  have GS := Lib.hid (go_same (sel ow (isS 1)) 0 T)
  have fin : ∀ W, Pgs W h (go (sel ow (isS 1)) (fun _ p => p) 0 T) → Upd h ((w.alloc (.cells #[.int .i64 code] 3)).alloc (.cells #[.int .u8 (1 : Nat)] 56)) W → Tab W g h c T ∧ Upd h w W := fun W hp hu =>
    ⟨D.out.turned hu (by rw [GS.out] at hp; exact hp) rfl, (((Upd.refl h w).alloc _).alloc _).trans hu⟩
  have FI := Lib.hid fin
  clear t t1 fin
  unfold pubM
  generalize hc : T.countP (sel ow (isS 1)) = k at E1 E2 hcl
  clear hc
  by_cases h0 : k = 0
  · rw [if_pos h0]
    subst h0
    go_enter Try.func33, Try.ntmps33
    go_wp2_with fail
    refine (is_c _ 1).mono ?_
    rintro e w1 ⟨rfl, rfl⟩
    go_wp2_with fail
    refine E1.out.mono ?_
    rintro e w1 ⟨rfl, hp, hu⟩
    obtain ⟨f1, f2⟩ := FI.out _ hp hu
    have F1 := Lib.hid f1
    have F2 := Lib.hid f2
    clear hp hu f1 f2
    go_wp2_with fail
    go_ret
    exact ⟨rfl, F1.out, F2.out⟩
  rw [if_neg h0]
  have hk : ¬ (k : Int) = 0 := by omega
  by_cases h1 : code < 0
  · rw [if_pos (Or.inl h1)]
    go_enter Try.func33, Try.ntmps33
    go_wp2_with fail
    refine (is_c _ 1).mono ?_
    rintro e w1 ⟨rfl, rfl⟩
    go_wp2_with fail
    refine E1.out.mono ?_
    rintro e w1 ⟨rfl, hp, hu⟩
    obtain ⟨f1, f2⟩ := FI.out _ hp hu
    have F1 := Lib.hid f1
    have F2 := Lib.hid f2
    have cb := HB.out _ hu
    clear hp hu f1 f2
    go_wp2_with fail
    go_ret
    exact ⟨rfl, F1.out, F2.out⟩
  by_cases h2 : (k : Int) < code
  · rw [if_pos (Or.inr h2)]
    go_enter Try.func33, Try.ntmps33
    go_wp2_with fail
    refine (is_c _ 1).mono ?_
    rintro e w1 ⟨rfl, rfl⟩
    go_wp2_with fail
    refine E1.out.mono ?_
    rintro e w1 ⟨rfl, hp, hu⟩
    obtain ⟨f1, f2⟩ := FI.out _ hp hu
    have F1 := Lib.hid f1
    have F2 := Lib.hid f2
    have cb := HB.out _ hu
    clear hp hu f1 f2
    go_wp2_with fail
    go_ret
    exact ⟨rfl, F1.out, F2.out⟩
  rw [if_neg (by omega)]
  go_enter Try.func33, Try.ntmps33
  go_wp2_with fail
  refine (is_c _ 1).mono ?_
  rintro e w1 ⟨rfl, rfl⟩
  go_wp2_with fail
  refine E1.out.mono ?_
  rintro e w1 ⟨rfl, hp, hu⟩
  obtain ⟨f1, f2⟩ := FI.out _ hp hu
  have F1 := Lib.hid f1
  have F2 := Lib.hid f2
  have cb := HB.out _ hu
  have E2 := Lib.hid (E2.out _ hp hu)
  clear hp hu f1 f2
  go_wp2_with fail
  refine (is_c _ 1).mono ?_
  rintro e w2 ⟨rfl, rfl⟩
  go_wp2_with fail
  refine E2.out.mono ?_
  rintro e w3 ⟨rfl, hp, hu⟩
  have HP := Lib.hid hp
  have HU := Lib.hid hu
  clear hp hu
  go_wp2_with fail
  go_ret
  exact ⟨rfl, (F1.out.alloc _).turned HU.out HP.out G.out, (F2.out.alloc _).trans HU.out⟩
theorem pub_nil (w : World) (v : Value) (u : Int) : Calls Try.prog 33 #[.pointer none, v, .int .i64 u] w fun e w' => e = .returned (.int .i64 1) ∧ Below w.heap.size w w' := by
  go_enter Try.func33, Try.ntmps33
  go_wp2_with fail
  go_ret
  exact ⟨rfl, (Below.refl _ _).alloc (Nat.le_refl _) _⟩
end Go.Proofs.Ythnbdeibjbicpaa.PM
