/- Contracts of the reference's table: New, Get, copied. Conditions: the slice's cells. -/
import Derived.Test.YthnbdeibjbicpaaGreatKTabA
import Derived.Laws.AppendOwn
set_option linter.unusedSimpArgs false
namespace Go.Proofs.YthnbdeibjbicpaaGreat.PM
set_option linter.unusedVariables false
open Go.RowKit
/-- The reference's table as a value. -/
abbrev rv (b c : Nat) (T : List Page) : Value := .agg #[.slice (some ⟨b, 0, none⟩) T.length c]
set_option maxRecDepth 100000 in
set_option maxHeartbeats 1000000 in
theorem rnew_w (w : World) (n : Int) (m : Nat) (hm : newLen n = m) (cs : Array Value) (mk : ∀ (W : World), (Instr.makeSlice 32 (.int .i64 (m : Int)) (.int .i64 (m : Int))).run Tryz.prog W = .ok (.slice (some ⟨W.heap.size, 0, none⟩) m m) (W.alloc (.cells cs 109))) :
    Calls Tryz.prog 54 #[.int .i64 n] w fun e w' => e = .returned (.agg #[.slice (some ⟨w.heap.size + 1, 0, none⟩) m m]) ∧ w' = (w.alloc (.cells #[.slice (some ⟨w.heap.size + 1, 0, none⟩) m m] 34)).alloc (.cells cs 109) := by
  unfold newLen at hm
  by_cases h0 : n ≤ 0
  · rw [if_pos h0] at hm
    subst hm
    simp only [Int.natCast_zero] at mk
    go_enter Tryz.func54, Tryz.ntmps54
    go_wp2_with fail
    refine bodyPost_ret (v := .agg #[.slice (some ⟨w.heap.size + 1, 0, none⟩) 0 0]) (by simp [results, Tryz.results54, go_sem, *]) rfl ?_
    exact ⟨rfl, rfl⟩
  rw [if_neg h0] at hm
  by_cases h1 : 256 < n
  · rw [if_pos h1] at hm
    subst hm
    have mk' : ∀ (W : World), (Instr.makeSlice 32 (.int .i64 256) (.int .i64 256)).run Tryz.prog W = .ok (.slice (some ⟨W.heap.size, 0, none⟩) 256 256) (W.alloc (.cells cs 109)) := mk
    clear mk
    go_enter Tryz.func54, Tryz.ntmps54
    go_wp2_with fail
    refine bodyPost_ret (v := .agg #[.slice (some ⟨w.heap.size + 1, 0, none⟩) 256 256]) (by simp [results, Tryz.results54, go_sem, *]) rfl ?_
    exact ⟨rfl, rfl⟩
  rw [if_neg h1] at hm
  obtain rfl : n = (m : Int) := by omega
  clear hm
  go_enter Tryz.func54, Tryz.ntmps54
  go_wp2_with fail
  refine bodyPost_ret (v := .agg #[.slice (some ⟨w.heap.size + 1, 0, none⟩) m m]) (by simp [results, Tryz.results54, go_sem, *]) rfl ?_
  exact ⟨rfl, rfl⟩
theorem rnew_c (w : World) (n : Int) :
    Calls Tryz.prog 54 #[.int .i64 n] w fun e w' => ∃ b c, e = .returned (rv b c (List.replicate (newLen n) nz)) ∧ w.heap.size ≤ b ∧ Pgs w' b (List.replicate (newLen n) nz) ∧ Below w.heap.size w w' := by
  have hm := newLen_le n
  refine (rnew_w w n _ rfl _ (make_pages (newLen n) hm)).mono ?_
  rintro e w' ⟨rfl, rfl⟩
  have h := pgs_new (w.alloc (.cells #[.slice (some ⟨w.heap.size + 1, 0, none⟩) (newLen n) (newLen n)] 34)) (newLen n) 109
  have e : (w.alloc (.cells #[.slice (some ⟨w.heap.size + 1, 0, none⟩) (newLen n) (newLen n)] 34)).heap.size = w.heap.size + 1 := by simp
  rw [e] at h
  exact ⟨_, newLen n, by simp [rv], by omega, h, ((Below.refl _ _).alloc (Nat.le_refl _) _).alloc (by simp) _⟩
set_option maxHeartbeats 1000000 in
theorem rget_c (w : World) (b c : Nat) (T : List Page) (hp : Pgs w b T) (i : Int) :
    Calls Tryz.prog 62 #[rv b c T, .int .i64 i] w fun e w' => e = .returned (getP T i).v ∧ Below w.heap.size w w' := by
  by_cases h0 : i < 0
  · rw [getP, if_neg (by omega)]
    clear hp
    unfold rv
    go_enter Tryz.func62, Tryz.ntmps62
    go_wp2_with fail
    refine bodyPost_ret (v := .agg #[.int .u8 0, .bool false, .bool false, .int .u16 0, .int .u64 0]) (by simp [results, Tryz.results62, go_sem, *]) rfl ?_
    exact ⟨rfl, ((Below.refl _ _).alloc (Nat.le_refl _) _).alloc (by simp) _⟩
  by_cases h1 : (T.length : Int) ≤ i
  · rw [getP, if_neg (by omega)]
    clear hp
    unfold rv
    generalize T.length = n at h1
    go_enter Tryz.func62, Tryz.ntmps62
    go_wp2_with fail
    refine bodyPost_ret (v := .agg #[.int .u8 0, .bool false, .bool false, .int .u16 0, .int .u64 0]) (by simp [results, Tryz.results62, go_sem, *]) rfl ?_
    exact ⟨rfl, ((Below.refl _ _).alloc (Nat.le_refl _) _).alloc (by simp) _⟩
  obtain ⟨k, rfl⟩ : ∃ k : Nat, i = (k : Int) := ⟨i.toNat, by omega⟩
  have hk : k < T.length := by omega
  rw [getP_in T k hk]
  have hl := hp.lies hk
  have hb := hp.lt
  clear hp h0 h1
  generalize T[k]! = p at hl ⊢
  obtain ⟨s, x, wr, ow, ep⟩ := p
  obtain ⟨c0, c1, c2, c3, c4⟩ := hl
  simp only at c0 c1 c2 c3 c4
  have hki : (k : Int) < (T.length : Int) := by omega
  unfold rv
  generalize T.length = n at hk hki
  go_enter Tryz.func62, Tryz.ntmps62
  go_wp2_with fail
  refine bodyPost_ret (v := .agg #[.int .u8 (s : Int), .bool x, .bool wr, .int .u16 (ow : Int), .int .u64 (ep : Int)]) (by simp [results, Tryz.results62, go_sem, *]) rfl ?_
  exact ⟨rfl, ((Below.refl _ _).alloc (Nat.le_refl _) _).alloc (by simp) _⟩
end Go.Proofs.YthnbdeibjbicpaaGreat.PM
