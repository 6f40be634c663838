/- Contracts of Publish, Retire, Release. Conditions: the table's cells. -/
import Derived.Test.YthnbdeibjbicpaaTab5
import Derived.Test.YthnbdeibjbicpaaTab2
set_option linter.unusedSimpArgs false
namespace Go.Proofs.Ythnbdeibjbicpaa.PM
set_option linter.unusedVariables false
open Go.RowKit
def isS (q : Nat) (s : Nat) : Bool := s == q
def isI (s : Nat) : Bool := s == 1 || s == 3
/-- What Publish makes of pages, and its answer. -/
def pubM (T : List Page) (ow : Nat) (code : Int) : List Page × Nat :=
  if T.countP (sel ow (isS 1)) = 0 then (T, 8)
  else if code < 0 ∨ (T.countP (sel ow (isS 1)) : Int) < code then (T, 2)
  else (go (sel ow (isS 1)) (pubF code) 0 T, 0)
def retM (T : List Page) (ow : Nat) (ep : Nat) : List Page × Nat :=
  if T.countP (sel ow (isS 2)) = 0 then (T, 8) else (go (sel ow (isS 2)) (retF ep) 0 T, 0)
def relM (T : List Page) (ow : Nat) : List Page × Nat :=
  if T.countP (sel ow isI) = 0 then (T, 8) else (go (sel ow isI) relF 0 T, 0)
theorem go_same (sl : Page → Bool) (k : Nat) (T : List Page) : go sl (fun _ p => p) k T = T := by
  induction T generalizing k with
  | nil => rfl
  | cons p T ih => unfold go; simp [ih]
theorem go_none (sl : Page → Bool) (f : Nat → Page → Page) (k : Nat) (T : List Page) (h : T.countP sl = 0) : go sl f k T = T := by
  rw [List.countP_eq_zero] at h
  induction T generalizing k with
  | nil => rfl
  | cons p T ih =>
    unfold go
    have hp : sl p = false := by simpa using h p (by simp)
    rw [hp, ih k (fun q hq => h q (by simp [hq]))]
    rfl
theorem e91 : ∀ args w, (callFunc 83 args).run Try.prog w = .ok (.enter 83 args) w := enters_of Try.func83 (by kernel_rfl) rfl
theorem e61 : ∀ args w, (callFunc 66 args).run Try.prog w = .ok (.enter 66 args) w := enters_of Try.func66 (by kernel_rfl) rfl
theorem e62 : ∀ args w, (callFunc 67 args).run Try.prog w = .ok (.enter 67 args) w := enters_of Try.func67 (by kernel_rfl) rfl
theorem e63 : ∀ args w, (callFunc 69 args).run Try.prog w = .ok (.enter 69 args) w := enters_of Try.func69 (by kernel_rfl) rfl
theorem Upd.count {T : List Page} (sl : Page → Bool) : T.countP sl ≤ T.length := List.countP_le_length
set_option maxHeartbeats 2000000 in
theorem ret_c (w : World) (g h c : Nat) (T : List Page) (t : Tab w g h c T) (ow ep : Nat) :
    Calls Try.prog 37 #[.pointer (some ⟨g, 0, none⟩), .int .u16 (ow : Int), .int .u64 (ep : Int)] w fun e w' =>
      e = .returned (.int .i64 ((retM T ow ep).2 : Int)) ∧ Tab w' g h c (retM T ow ep).1 ∧ Upd h w w' := by
  have hh := t.pgs.lt
  have E := Lib.hid (each_c ((w.alloc (.cells #[.int .u64 (ep : Int)] 26)).alloc (.cells #[.int .u8 (2 : Nat)] 56)) g h c T ((t.alloc _).alloc _) ow _ _ #[.pointer (some ⟨w.heap.size + 1, 0, none⟩)] #[.pointer (some ⟨w.heap.size, 0, none⟩)] (isS 2) (retF ep) e91 e63
    (is_in _ _ h 2 (by simp) (by simp) (by omega)) (ret_do _ h _ ep (by simp) (by simp; omega) (by omega)))
  have D := Lib.hid t
  have hcl := Upd.count (T := T) (sel ow (isS 2))
  have few := t.few
  clear t
  unfold retM
  by_cases h0 : T.countP (sel ow (isS 2)) = 0
  · rw [if_pos h0]
    rw [h0] at E
    have G := Lib.hid (go_none (sel ow (isS 2)) (retF ep) 0 T h0)
    clear h0 hcl
    go_enter Try.func37, Try.ntmps37
    go_wp2_with fail
    refine (is_c _ 2).mono ?_
    rintro e w1 ⟨rfl, rfl⟩
    go_wp2_with fail
    refine E.out.mono ?_
    rintro e w1 ⟨rfl, hp, hu⟩
    rw [G.out] at hp
    have HP := Lib.hid hp
    have HU := Lib.hid ((((Upd.refl h w).alloc _).alloc _).trans hu)
    clear hp hu
    go_wp2_with fail
    go_ret
    exact ⟨rfl, D.out.turned HU.out HP.out rfl, HU.out⟩
  · rw [if_neg h0]
    have G := Lib.hid (go_length (sel ow (isS 2)) (retF ep) 0 T)
    generalize hc : T.countP (sel ow (isS 2)) = k at E h0 hcl
    have hk : ¬ (k : Int) = 0 := by omega
    clear hc h0
    go_enter Try.func37, Try.ntmps37
    go_wp2_with fail
    refine (is_c _ 2).mono ?_
    rintro e w1 ⟨rfl, rfl⟩
    go_wp2_with fail
    refine E.out.mono ?_
    rintro e w1 ⟨rfl, hp, hu⟩
    have HP := Lib.hid hp
    have HU := Lib.hid ((((Upd.refl h w).alloc _).alloc _).trans hu)
    clear hp hu
    go_wp2_with fail
    go_ret
    exact ⟨rfl, D.out.turned HU.out HP.out G.out, HU.out⟩
theorem ret_nil (w : World) (v : Value) (u : Int) : Calls Try.prog 37 #[.pointer none, v, .int .u64 u] w fun e w' => e = .returned (.int .i64 1) ∧ Below w.heap.size w w' := by
  go_enter Try.func37, Try.ntmps37
  go_wp2_with fail
  go_ret
  exact ⟨rfl, (Below.refl _ _).alloc (Nat.le_refl _) _⟩
end Go.Proofs.Ythnbdeibjbicpaa.PM
