/- Contracts of package isa's Uses and Check, and of the reference's. Conditions: the bounds of the fields' kinds. -/
import Derived.Test.YthnbdeibjbicpaaWalk1
import Derived.Test.YthnbdeibjbicpaaIsaM
set_option linter.unusedVariables false
set_option linter.unusedSimpArgs false
namespace Go.Proofs.Ythnbdeibjbicpaa.I1
open Go.RowKit Go.Proofs.Ythnbdeibjbicpaa.WM Go.Proofs.Ythnbdeibjbicpaa.IM Go.Proofs.Ythnbdeibjbicpaa.W1
theorem results_tmp4 {fn : Func} {t u v x : Tmp} (h : fn.results = #[.tmp t, .tmp u, .tmp v, .tmp x]) (tmps : Array Value) (P : Program) (w : World) :
    (results fn tmps).run P w = .ok (.tuple #[tmps.getD t undef, tmps.getD u undef, tmps.getD v undef, tmps.getD x undef]) w := by simp [results, h]
theorem op_cases (op : Nat) : op = 0 ∨ op = 1 ∨ op = 2 ∨ (3 ≤ op ∧ op ≤ 10) ∨ op = 11 ∨ op = 12 ∨ op = 13 ∨ op = 14 ∨ op = 15 ∨ op = 16 ∨ op = 17 ∨ op = 18 ∨ op = 19 ∨ op = 20 ∨ op = 21 ∨ 21 < op := by omega
theorem uses_c (op : Nat) (w : World) :
    Calls Try.prog 72 #[.int .u8 (op : Int)] w fun e w' => e = .returned (.tuple #[.bool (ud op), .bool (ua op), .bool (ub op), .bool (ui op)]) ∧ Drew w w' := by
  rcases op_cases op with rfl | rfl | rfl | h | rfl | rfl | rfl | rfl | rfl | rfl | rfl | rfl | rfl | rfl | rfl | h
  case inr.inr.inr.inl =>
    obtain ⟨h1, h2⟩ := h
    have HU := Lib.hid (show ud op = true ∧ ua op = true ∧ ub op = true ∧ ui op = false from by simp [ud, ua, ub, ui, three]; omega)
    go_enter Try.func72, Try.ntmps72
    go_wp2
    refine bodyPost_ret (results_tmp4 rfl _ _ _) rfl ?_
    obtain ⟨e1, e2, e3, e4⟩ := HU.out
    rw [e1, e2, e3, e4]
    exact ⟨rfl, Drew.refl _⟩
  case inr.inr.inr.inr.inr.inr.inr.inr.inr.inr.inr.inr.inr.inr.inr =>
    have HU := Lib.hid (show ud op = false ∧ ua op = false ∧ ub op = false ∧ ui op = false from by simp [ud, ua, ub, ui, three]; omega)
    go_enter Try.func72, Try.ntmps72
    go_wp2
    refine bodyPost_ret (results_tmp4 rfl _ _ _) rfl ?_
    obtain ⟨e1, e2, e3, e4⟩ := HU.out
    rw [e1, e2, e3, e4]
    exact ⟨rfl, Drew.refl _⟩
  all_goals
    go_enter Try.func72, Try.ntmps72
    go_wp2
    refine bodyPost_ret (results_tmp4 rfl _ _ _) rfl ?_
    exact ⟨rfl, Drew.refl _⟩
theorem rres (x0 x1 x2 x3 : Value) (tmps : Array Value) (W : World) (h : tmps[2]?.getD undef = .pointer (some ⟨W.heap.size, 0, none⟩)) :
    (results Try.f93 tmps).run Try.prog (W.alloc (.cells #[x0, x1, x2, x3] 139)) = .ok (.agg #[x0, x1, x2, x3]) (W.alloc (.cells #[x0, x1, x2, x3] 139)) := by
  simp [results, Try.results93, go_sem, h]
set_option maxHeartbeats 2000000 in
theorem ruses_c (op : Nat) (w : World) :
    Calls Try.prog 93 #[.int .u8 (op : Int)] w fun e w' => e = .returned (.agg #[.bool (ud op), .bool (ua op), .bool (ub op), .bool (ui op)]) ∧ w.alloc (.cells #[.bool (ud op), .bool (ua op), .bool (ub op), .bool (ui op)] 139) = w' := by
  rcases op_cases op with rfl | rfl | rfl | h | rfl | rfl | rfl | rfl | rfl | rfl | rfl | rfl | rfl | rfl | rfl | h
  case inr.inr.inr.inl =>
    have hc : op = 3 ∨ op = 4 ∨ op = 5 ∨ op = 6 ∨ op = 7 ∨ op = 8 ∨ op = 9 ∨ op = 10 := by omega
    clear h
    rcases hc with rfl | rfl | rfl | rfl | rfl | rfl | rfl | rfl
    all_goals
      go_enter Try.func93, Try.ntmps93
      go_wp2
      refine bodyPost_ret (rres _ _ _ _ _ _ rfl) rfl ?_
      exact ⟨rfl, rfl⟩
  case inr.inr.inr.inr.inr.inr.inr.inr.inr.inr.inr.inr.inr.inr.inr =>
    have HU := Lib.hid (show ud op = false ∧ ua op = false ∧ ub op = false ∧ ui op = false from by simp [ud, ua, ub, ui, three]; omega)
    go_enter Try.func93, Try.ntmps93
    go_wp2
    refine bodyPost_ret (rres _ _ _ _ _ _ rfl) rfl ?_
    obtain ⟨e1, e2, e3, e4⟩ := HU.out
    rw [e1, e2, e3, e4]
    exact ⟨rfl, rfl⟩
  all_goals
    go_enter Try.func93, Try.ntmps93
    go_wp2
    refine bodyPost_ret (rres _ _ _ _ _ _ rfl) rfl ?_
    exact ⟨rfl, rfl⟩
theorem reg_c (r : Nat) (u : Bool) (w : World) :
    Calls Try.prog 95 #[.int .u8 (r : Int), .bool u] w fun e w' => e = .returned (.bool (regB r u)) ∧ Drew w w' := by
  by_cases h0 : r = 0
  · subst h0
    go_enter Try.func95, Try.ntmps95
    go_wp2
    go_ret
    exact ⟨rfl, Drew.refl _⟩
  · have h0' : ((r : Int) == 0) = false := by rw [beq_eq_false_iff_ne]; omega
    have HR := Lib.hid (show regB r u = (u && decide (r < 8)) from by simp [regB, h0])
    clear h0
    cases u
    · go_enter Try.func95, Try.ntmps95
      go_wp2
      go_ret
      exact ⟨by rw [HR.out]; rfl, Drew.refl _⟩
    · by_cases h8 : r < 8
      · go_enter Try.func95, Try.ntmps95
        go_wp2
        go_ret
        exact ⟨by rw [HR.out]; simp [h8]; omega, Drew.refl _⟩
      · go_enter Try.func95, Try.ntmps95
        go_wp2
        go_ret
        exact ⟨by rw [HR.out]; simp [h8]; omega, Drew.refl _⟩
theorem reg_at {r : Nat} {u v : Bool} (w : World) (h : regB r u = v) : Calls Try.prog 95 #[.int .u8 (r : Int), .bool u] w fun e w' => e = .returned (.bool v) ∧ Drew w w' := h ▸ reg_c r u w
theorem fits_at {v : Int} {u : Bool} (w : World) (h : fitsB v 21 = u) : Calls Try.prog 96 #[.int .i64 v, .int .i64 21] w fun e w' => e = .returned (.bool u) ∧ Drew w w' := h ▸ fits_yes v 21 w (by decide) (by decide)
theorem rfits_at {v : Int} {u : Bool} (w : World) (h : fitsB v 21 = u) : Calls Try.prog 97 #[.int .i64 v, .int .i64 21] w fun e w' => e = .returned (.bool u) ∧ Drew w w' := h ▸ rfits_yes v 21 w (by decide) (by decide)
end Go.Proofs.Ythnbdeibjbicpaa.I1
