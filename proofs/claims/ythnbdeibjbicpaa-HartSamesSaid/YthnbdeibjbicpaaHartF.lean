/- Contracts of slices.Equal at words and of hart's New. Conditions: the cells. -/
import Derived.Test.YthnbdeibjbicpaaHart9
namespace Go.Proofs.Ythnbdeibjbicpaa.PM
set_option linter.unusedVariables false
set_option linter.unusedSimpArgs false
open Go.RowKit
theorem bang_ext {S1 S2 : List Nat} (hl : S1.length = S2.length) (h : ∀ j, j < S1.length → S1[j]! = S2[j]!) : S1 = S2 := by
  apply List.ext_getElem hl
  intro i h1 h2
  have := h i h1
  rw [List.getElem!_eq_getElem?_getD, List.getElem!_eq_getElem?_getD, List.getElem?_eq_getElem h1, List.getElem?_eq_getElem h2] at this
  exact this
set_option maxRecDepth 100000 in
set_option maxHeartbeats 4000000 in
theorem equal_c (w : World) (s1 : Option Addr) (c1 : Nat) (S1 : List Nat) (s2 : Option Addr) (c2 : Nat) (S2 : List Nat) (h1 : Stk w s1 S1) (h2 : Stk w s2 S2) (hn : S1.length < 35184372088832) :
    Calls Try.prog 26 #[.slice s1 S1.length c1, .slice s2 S2.length c2] w fun e w' => e = .returned (.bool (decide (S1 = S2))) ∧ Below w.heap.size w w' := by
  by_cases hnm : S1.length = S2.length
  · have H1 := Lib.hid h1
    have H2 := Lib.hid h2
    generalize hn1 : S1.length = n at hnm hn
    have N1 := Lib.hid hn1
    have N2 := Lib.hid hnm
    rw [← hnm]
    clear h1 h2 hn1 hnm
    go_enter Try.func26, Try.ntmps26
    go_wp2
    go_loopg [13] n (fun g s13 wr => ∃ kk q : Nat, kk ≤ n ∧ n - kk ≤ g ∧ s13 = .int .i64 (kk : Int) ∧ wr = w.drewN q ∧ Hid (∀ j, j < kk → S1[j]! = S2[j]!))
    case atStart => exact ⟨0, 0, Nat.zero_le _, by omega, rfl, rfl, Lib.hid fun j hj => absurd hj (Nat.not_lt_zero _)⟩
    case round =>
      obtain ⟨kk, q, hkk, hg, rfl, rfl, A⟩ := hrel
      by_cases hlt : kk < n
      · have hltz : (kk : Int) < (n : Int) := by omega
        obtain ⟨b1, o1, rfl, hl1, g1⟩ := H1.out kk (by rw [N1.out]; exact hlt)
        obtain ⟨b2, o2, rfl, hl2, g2⟩ := H2.out kk (by rw [← N2.out]; exact hlt)
        obtain ⟨x, hx⟩ : ∃ x, S1[kk]! = x := ⟨_, rfl⟩
        obtain ⟨y, hy⟩ : ∃ y, S2[kk]! = y := ⟨_, rfl⟩
        rw [hx] at g1
        rw [hy] at g2
        have g1 : (w.drewN q).cell? ⟨b1, o1 + kk, none⟩ = some (.int .u32 (x : Int)) := g1
        have g2 : (w.drewN q).cell? ⟨b2, o2 + kk, none⟩ = some (.int .u32 (y : Int)) := g2
        generalize hwq : w.drewN q = wq at g1 g2 ⊢
        have W := Lib.hid hwq
        have X := Lib.hid hx
        have Y := Lib.hid hy
        clear hx hy hwq
        cases hxy : ((x : Int) == (y : Int)) with
        | true =>
          have hne : ((x : Int) != (y : Int)) = false := by simp [bne, hxy]
          have E := Lib.hid hxy
          clear hxy
          go_wp2_with fail
          go_quiet (fail)
          go_wp2
          go_roundg (n - (kk + 1))
          case measure => omega
          case rel =>
            refine ⟨kk + 1, q + nq, by omega, by omega, by go_num, by rw [← W.out, World.drewN_drewN], Lib.hid fun j hj => ?_⟩
            by_cases e : j = kk
            · subst e
              rw [X.out, Y.out]
              have := E.out
              simp at this
              omega
            · exact A.out j (by omega)
        | false =>
          have hne : ((x : Int) != (y : Int)) = true := by simp [bne, hxy]
          have E := Lib.hid hxy
          clear hxy
          go_wp2_with fail
          go_quiet (fail)
          go_wp2
          go_ret
          refine ⟨?_, by rw [← W.out]; exact below_drewN (below_drewN (Below.refl _ _) _) _⟩
          have hd : decide (S1 = S2) = false := decide_eq_false (fun e => by
            have := E.out
            rw [← X.out, ← Y.out, e] at this
            simp at this)
          rw [hd]
          rfl
      · have : kk = n := by omega
        subst this
        go_wp2
        go_ret
        refine ⟨?_, below_drewN (Below.refl _ _) _⟩
        rw [decide_eq_true (bang_ext (by rw [N1.out]; exact N2.out) (fun j hj => A.out j (by rw [N1.out] at hj; exact hj)))]
        rfl
  · have hz : ((S1.length : Int) != (S2.length : Int)) = true := by simp; omega
    have hd : decide (S1 = S2) = false := decide_eq_false (fun e => hnm (by rw [e]))
    rw [hd]
    clear h1 h2 hd
    generalize S1.length = n1 at hnm hz ⊢
    generalize S2.length = n2 at hnm hz ⊢
    go_enter Try.func26, Try.ntmps26
    go_wp2
    go_ret
    exact ⟨rfl, Below.refl _ _⟩
def hnewv (n : Nat) : Value := hv n (fun _ => 0) (.slice none 0 0) 0 0 n
set_option maxRecDepth 100000 in
theorem hnew_c (w : World) (n : Nat) : Calls Try.prog 12 #[.int .u32 (n : Int)] w fun e w' => e = .returned (hnewv n) ∧ Below w.heap.size w w' := by
  have F : Hid (∀ cs, Below w.heap.size w (w.alloc (.cells cs 28))) := Lib.hid fun cs => (Below.refl _ w).alloc (Nat.le_refl _) _
  go_enter Try.func12, Try.ntmps12
  go_wp2_with fail
  refine bodyPost_ret (v := .agg #[.int .u32 (n : Int), .int .u32 0, .int .u32 0, .int .u32 0, .int .u32 0, .int .u32 0, .int .u32 0, .int .u32 0, .int .u32 0, .slice none 0 0, .int .u8 0, .int .u64 0, .int .u32 (n : Int)]) (by simp [results, Try.results12, go_sem, *]) rfl ?_
  exact ⟨rfl, F.out _⟩
end Go.Proofs.Ythnbdeibjbicpaa.PM
