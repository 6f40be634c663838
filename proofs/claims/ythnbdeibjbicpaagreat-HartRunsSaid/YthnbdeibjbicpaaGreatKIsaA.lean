/- Instructions as plain numbers: which parts are used, whether one may be, its word, what a word is. No Go in sight. -/
import Derived.Test.YthnbdeibjbicpaaGreatMath
import Derived.Test.YthnbdeibjbicpaaGreatWalk1
set_option linter.unusedVariables false
set_option linter.unusedSimpArgs false
namespace Go.Proofs.YthnbdeibjbicpaaGreat.IM
open Go.RowKit Go.Proofs.YthnbdeibjbicpaaGreat.WM
def three (op : Nat) : Bool := decide (3 ≤ op ∧ op ≤ 10)
def ud (op : Nat) : Bool := three op || op == 2 || op == 11 || op == 12 || op == 13 || op == 15 || op == 16
def ua (op : Nat) : Bool := three op || op == 11 || op == 12 || op == 13 || op == 15 || op == 16 || op == 19
def ub (op : Nat) : Bool := three op
def ui (op : Nat) : Bool := op == 2 || op == 11 || op == 12 || op == 13 || op == 14 || op == 15 || op == 16 || op == 17 || op == 21
/-- May a register stand there? -/
def regB (r : Nat) (u : Bool) : Bool := r == 0 || u && decide (r < 8)
/-- Check's answer. -/
def chk (op d a b : Nat) (imm : Int) : Int :=
  if 21 < op ∨ regB d (ud op) = false ∨ regB a (ua op) = false ∨ regB b (ub op) = false ∨ (ui op = false ∧ imm ≠ 0) then 10
  else if fitsB imm 21 = false then 11
  else if op = 17 ∧ imm < 0 then 11
  else if op = 21 ∧ (imm < 0 ∨ 63 < imm) then 11
  else 0
theorem chk_10 {op d a b : Nat} {imm : Int} (h : 21 < op ∨ regB d (ud op) = false ∨ regB a (ua op) = false ∨ regB b (ub op) = false ∨ (ui op = false ∧ imm ≠ 0)) : chk op d a b imm = 10 := by
  unfold chk; rw [if_pos h]
structure Good (op d a b : Nat) (imm : Int) : Prop where
  ho : op ≤ 21
  hd : regB d (ud op) = true
  ha : regB a (ua op) = true
  hb : regB b (ub op) = true
  hi : ui op = true ∨ imm = 0
theorem Good.not {op d a b : Nat} {imm : Int} (h : Good op d a b imm) : ¬ (21 < op ∨ regB d (ud op) = false ∨ regB a (ua op) = false ∨ regB b (ub op) = false ∨ (ui op = false ∧ imm ≠ 0)) := by
  obtain ⟨h1, h2, h3, h4, h5⟩ := h
  rw [h2, h3, h4]
  rcases h5 with h5 | h5
  · rw [h5]; simp; omega
  · simp [h5]; omega
theorem chk_11a {op d a b : Nat} {imm : Int} (h : Good op d a b imm) (hf : fitsB imm 21 = false) : chk op d a b imm = 11 := by
  unfold chk; rw [if_neg h.not, if_pos hf]
theorem chk_11b {op d a b : Nat} {imm : Int} (h : Good op d a b imm) (hf : fitsB imm 21 = true) (hc : op = 17) (hi : imm < 0) : chk op d a b imm = 11 := by
  unfold chk; rw [if_neg h.not, if_neg (by rw [hf]; decide), if_pos ⟨hc, hi⟩]
theorem chk_11c {op d a b : Nat} {imm : Int} (h : Good op d a b imm) (hf : fitsB imm 21 = true) (hc : op = 21) (hi : imm < 0 ∨ 63 < imm) : chk op d a b imm = 11 := by
  unfold chk; rw [if_neg h.not, if_neg (by rw [hf]; decide), if_neg (by omega), if_pos ⟨hc, hi⟩]
theorem chk_0 {op d a b : Nat} {imm : Int} (h : Good op d a b imm) (hf : fitsB imm 21 = true) (hc : op = 17 → 0 ≤ imm) (he : op = 21 → 0 ≤ imm ∧ imm ≤ 63) : chk op d a b imm = 0 := by
  unfold chk; rw [if_neg h.not, if_neg (by rw [hf]; decide), if_neg (by omega), if_neg (by omega)]
theorem regB_big {r : Nat} {u : Bool} (h : 7 < r) : regB r u = false := by
  unfold regB
  rw [show (r == 0) = false from by rw [beq_eq_false_iff_ne]; omega, show decide (r < 8) = false from decide_eq_false (by omega)]
  simp
theorem regB_none {r : Nat} {u : Bool} (h : r ≠ 0) (hu : u = false) : regB r u = false := by
  unfold regB
  rw [show (r == 0) = false from by rw [beq_eq_false_iff_ne]; omega, hu]
  simp
theorem regB_ok {r : Nat} {u : Bool} (h : r ≤ 7) (hu : u = true) : regB r u = true := by
  unfold regB
  rw [hu, show decide (r < 8) = true from decide_eq_true (by omega)]
  simp
theorem regB_zero {r : Nat} {u : Bool} (h : r = 0) : regB r u = true := by subst h; rfl
end Go.Proofs.YthnbdeibjbicpaaGreat.IM

/- The word of an instruction, and what a word is. No Go in sight. -/
set_option linter.unusedSimpArgs false
namespace Go.Proofs.YthnbdeibjbicpaaGreat.IM
set_option linter.unusedVariables false
open Go.RowKit Go.Proofs.YthnbdeibjbicpaaGreat.WM
/-! ### The word of an instruction -/
theorem regB_le {r : Nat} {u : Bool} (h : regB r u = true) : r ≤ 7 := by
  unfold regB at h
  simp only [Bool.or_eq_true, beq_iff_eq, Bool.and_eq_true, decide_eq_true_eq] at h
  omega
theorem regB_u {r : Nat} {u : Bool} (h : regB r u = true) (hu : u = false) : r = 0 := by
  subst hu
  simpa [regB] using h
/-- What an instruction that may be is like. -/
structure May (op d a b : Nat) (imm : Int) : Prop where
  good : Good op d a b imm
  fits : fitsB imm 21 = true
  call : op = 17 → 0 ≤ imm
  enter : op = 21 → 0 ≤ imm ∧ imm ≤ 63
theorem chk_may {op d a b : Nat} {imm : Int} (h : chk op d a b imm = 0) : May op d a b imm := by
  unfold chk at h
  split at h
  · omega
  · rename_i h1
    split at h
    · omega
    · rename_i h2
      split at h
      · omega
      · rename_i h3
        split at h
        · omega
        · rename_i h4
          have hb : ∀ x : Bool, ¬ x = false → x = true := by decide
          refine ⟨⟨by omega, hb _ (fun e => h1 (.inr (.inl e))), hb _ (fun e => h1 (.inr (.inr (.inl e)))), hb _ (fun e => h1 (.inr (.inr (.inr (.inl e))))), ?_⟩, hb _ h2, by omega, by omega⟩
          by_cases e : imm = 0
          · exact .inr e
          · exact .inl (hb _ (fun e2 => h1 (.inr (.inr (.inr (.inr ⟨e2, e⟩))))))
theorem ub_ui (op : Nat) (h : ub op = true) : ui op = false ∧ ud op = true ∧ ua op = true := by
  simp [ub, three] at h
  simp [ui, ud, ua, three]
  omega
theorem May.b_or {op d a b : Nat} {imm : Int} (h : May op d a b imm) : (ub op = true ∧ imm = 0) ∨ (ub op = false ∧ b = 0) := by
  cases hu : ub op with
  | false => exact .inr ⟨rfl, regB_u h.good.hb hu⟩
  | true =>
    refine .inl ⟨rfl, ?_⟩
    rcases h.good.hi with e | e
    · rw [(ub_ui op hu).1] at e; cases e
    · exact e
theorem May.range {op d a b : Nat} {imm : Int} (h : May op d a b imm) : -1048576 ≤ imm ∧ imm < 1048576 := by
  have := h.fits
  unfold fitsB at this
  simpa using this
/-- The word of an instruction that may be. -/
def encN (op d a b : Nat) (imm : Int) : Nat := op * 134217728 + d * 16777216 + a * 2097152 + (imm % 2097152).toNat + b
/-- The low part. -/
def low (b : Nat) (imm : Int) : Nat := (imm % 2097152).toNat + b
theorem low_lt {op d a b : Nat} {imm : Int} (h : May op d a b imm) : low b imm < 2097152 := by
  unfold low
  have := regB_le h.good.hb
  rcases h.b_or with ⟨_, e⟩ | ⟨_, e⟩
  · rw [e]; simp; omega
  · omega
theorem low_or {op d a b : Nat} {imm : Int} (h : May op d a b imm) : Go.bits .or .u32 (((imm % 4294967296).toNat % 2 ^ min 21 32 : Nat) : Int) (b : Int) = ((low b imm : Nat) : Int) := by
  have hb := regB_le h.good.hb
  have e21 : (2 : Nat) ^ min 21 32 = 2097152 := rfl
  rw [e21]
  have e1 : (imm % 4294967296).toNat % 2097152 = (imm % 2097152).toNat := by omega
  rw [e1, u32_or_nat _ _ (by omega) (by omega)]
  unfold low
  rcases h.b_or with ⟨_, e⟩ | ⟨_, e⟩
  · rw [e]; simp
  · rw [e]; simp
theorem put27 (x v : Nat) (hx : x < 2097152) (hv : v < 32) : put x 27 5 v = v * 134217728 + x := by unfold put; simp only [Nat.reduceAdd, Nat.reducePow]; omega
theorem put24 (x o v : Nat) (hx : x < 2097152) (ho : o < 32) (hv : v < 8) : put (o * 134217728 + x) 24 3 v = o * 134217728 + v * 16777216 + x := by unfold put; simp only [Nat.reduceAdd, Nat.reducePow]; omega
theorem put21 (x o d v : Nat) (hx : x < 2097152) (ho : o < 32) (hd : d < 8) (hv : v < 8) : put (o * 134217728 + d * 16777216 + x) 21 3 v = o * 134217728 + d * 16777216 + v * 2097152 + x := by unfold put; simp only [Nat.reduceAdd, Nat.reducePow]; omega
theorem put0 (o d a v : Nat) (ho : o < 32) (hd : d < 8) (ha : a < 8) (hv : v < 2097152) : put (o * 134217728 + d * 16777216 + a * 2097152) 0 21 v = o * 134217728 + d * 16777216 + a * 2097152 + v := by unfold put; simp only [Nat.reduceAdd, Nat.reducePow]; omega
theorem encN_low (op d a b : Nat) (imm : Int) : encN op d a b imm = op * 134217728 + d * 16777216 + a * 2097152 + low b imm := by unfold encN low; omega
/-! ### What a word is -/
def dOp (x : Nat) : Nat := x / 134217728
def dD (x : Nat) : Nat := x / 16777216 % 8
def dA (x : Nat) : Nat := x / 2097152 % 8
def dB (x : Nat) : Nat := if ub (dOp x) = true then x % 8 else 0
def dI (x : Nat) : Int := if ub (dOp x) = true then 0 else sgn x 21
/-- Is it the word of one? -/
def okD (x : Nat) : Prop := chk (dOp x) (dD x) (dA x) (dB x) (dI x) = 0 ∧ encN (dOp x) (dD x) (dA x) (dB x) (dI x) = x
end Go.Proofs.YthnbdeibjbicpaaGreat.IM

/- Contracts of package isa's Uses and Check, and of the reference's. Conditions: the bounds of the fields' kinds. -/
set_option linter.unusedVariables false
set_option linter.unusedSimpArgs false
namespace Go.Proofs.YthnbdeibjbicpaaGreat.I1
open Go.RowKit Go.Proofs.YthnbdeibjbicpaaGreat.WM Go.Proofs.YthnbdeibjbicpaaGreat.IM Go.Proofs.YthnbdeibjbicpaaGreat.W1
theorem results_tmp4 {fn : Func} {t u v x : Tmp} (h : fn.results = #[.tmp t, .tmp u, .tmp v, .tmp x]) (tmps : Array Value) (P : Program) (w : World) :
    (results fn tmps).run P w = .ok (.tuple #[tmps.getD t undef, tmps.getD u undef, tmps.getD v undef, tmps.getD x undef]) w := by simp [results, h]
theorem op_cases (op : Nat) : op = 0 ∨ op = 1 ∨ op = 2 ∨ (3 ≤ op ∧ op ≤ 10) ∨ op = 11 ∨ op = 12 ∨ op = 13 ∨ op = 14 ∨ op = 15 ∨ op = 16 ∨ op = 17 ∨ op = 18 ∨ op = 19 ∨ op = 20 ∨ op = 21 ∨ 21 < op := by omega
theorem uses_c (op : Nat) (w : World) :
    Calls Tryz.prog 75 #[.int .u8 (op : Int)] w fun e w' => e = .returned (.tuple #[.bool (ud op), .bool (ua op), .bool (ub op), .bool (ui op)]) ∧ Drew w w' := by
  rcases op_cases op with rfl | rfl | rfl | h | rfl | rfl | rfl | rfl | rfl | rfl | rfl | rfl | rfl | rfl | rfl | h
  case inr.inr.inr.inl =>
    obtain ⟨h1, h2⟩ := h
    have HU := Lib.hid (show ud op = true ∧ ua op = true ∧ ub op = true ∧ ui op = false from by simp [ud, ua, ub, ui, three]; omega)
    go_enter Tryz.func75, Tryz.ntmps75
    go_wp2
    refine bodyPost_ret (results_tmp4 rfl _ _ _) rfl ?_
    obtain ⟨e1, e2, e3, e4⟩ := HU.out
    rw [e1, e2, e3, e4]
    exact ⟨rfl, Drew.refl _⟩
  case inr.inr.inr.inr.inr.inr.inr.inr.inr.inr.inr.inr.inr.inr.inr =>
    have HU := Lib.hid (show ud op = false ∧ ua op = false ∧ ub op = false ∧ ui op = false from by simp [ud, ua, ub, ui, three]; omega)
    go_enter Tryz.func75, Tryz.ntmps75
    go_wp2
    refine bodyPost_ret (results_tmp4 rfl _ _ _) rfl ?_
    obtain ⟨e1, e2, e3, e4⟩ := HU.out
    rw [e1, e2, e3, e4]
    exact ⟨rfl, Drew.refl _⟩
  all_goals
    go_enter Tryz.func75, Tryz.ntmps75
    go_wp2
    refine bodyPost_ret (results_tmp4 rfl _ _ _) rfl ?_
    exact ⟨rfl, Drew.refl _⟩
theorem rres (x0 x1 x2 x3 : Value) (tmps : Array Value) (W : World) (h : tmps[2]?.getD undef = .pointer (some ⟨W.heap.size, 0, none⟩)) :
    (results Tryz.f85 tmps).run Tryz.prog (W.alloc (.cells #[x0, x1, x2, x3] 137)) = .ok (.agg #[x0, x1, x2, x3]) (W.alloc (.cells #[x0, x1, x2, x3] 137)) := by
  simp [results, Tryz.results85, go_sem, h]
set_option maxHeartbeats 2000000 in
theorem ruses_c (op : Nat) (w : World) :
    Calls Tryz.prog 85 #[.int .u8 (op : Int)] w fun e w' => e = .returned (.agg #[.bool (ud op), .bool (ua op), .bool (ub op), .bool (ui op)]) ∧ w.alloc (.cells #[.bool (ud op), .bool (ua op), .bool (ub op), .bool (ui op)] 137) = w' := by
  rcases op_cases op with rfl | rfl | rfl | h | rfl | rfl | rfl | rfl | rfl | rfl | rfl | rfl | rfl | rfl | rfl | h
  case inr.inr.inr.inl =>
    have hc : op = 3 ∨ op = 4 ∨ op = 5 ∨ op = 6 ∨ op = 7 ∨ op = 8 ∨ op = 9 ∨ op = 10 := by omega
    clear h
    rcases hc with rfl | rfl | rfl | rfl | rfl | rfl | rfl | rfl
    all_goals
      go_enter Tryz.func85, Tryz.ntmps85
      go_wp2
      refine bodyPost_ret (rres _ _ _ _ _ _ rfl) rfl ?_
      exact ⟨rfl, rfl⟩
  case inr.inr.inr.inr.inr.inr.inr.inr.inr.inr.inr.inr.inr.inr.inr =>
    have HU := Lib.hid (show ud op = false ∧ ua op = false ∧ ub op = false ∧ ui op = false from by simp [ud, ua, ub, ui, three]; omega)
    go_enter Tryz.func85, Tryz.ntmps85
    go_wp2
    refine bodyPost_ret (rres _ _ _ _ _ _ rfl) rfl ?_
    obtain ⟨e1, e2, e3, e4⟩ := HU.out
    rw [e1, e2, e3, e4]
    exact ⟨rfl, rfl⟩
  all_goals
    go_enter Tryz.func85, Tryz.ntmps85
    go_wp2
    refine bodyPost_ret (rres _ _ _ _ _ _ rfl) rfl ?_
    exact ⟨rfl, rfl⟩
theorem reg_c (r : Nat) (u : Bool) (w : World) :
    Calls Tryz.prog 109 #[.int .u8 (r : Int), .bool u] w fun e w' => e = .returned (.bool (regB r u)) ∧ Drew w w' := by
  by_cases h0 : r = 0
  · subst h0
    go_enter Tryz.func109, Tryz.ntmps109
    go_wp2
    go_ret
    exact ⟨rfl, Drew.refl _⟩
  · have h0' : ((r : Int) == 0) = false := by rw [beq_eq_false_iff_ne]; omega
    have HR := Lib.hid (show regB r u = (u && decide (r < 8)) from by simp [regB, h0])
    clear h0
    cases u
    · go_enter Tryz.func109, Tryz.ntmps109
      go_wp2
      go_ret
      exact ⟨by rw [HR.out]; rfl, Drew.refl _⟩
    · by_cases h8 : r < 8
      · go_enter Tryz.func109, Tryz.ntmps109
        go_wp2
        go_ret
        exact ⟨by rw [HR.out]; simp [h8]; omega, Drew.refl _⟩
      · go_enter Tryz.func109, Tryz.ntmps109
        go_wp2
        go_ret
        exact ⟨by rw [HR.out]; simp [h8]; omega, Drew.refl _⟩
theorem reg_at {r : Nat} {u v : Bool} (w : World) (h : regB r u = v) : Calls Tryz.prog 109 #[.int .u8 (r : Int), .bool u] w fun e w' => e = .returned (.bool v) ∧ Drew w w' := h ▸ reg_c r u w
theorem fits_at {v : Int} {u : Bool} (w : World) (h : fitsB v 21 = u) : Calls Tryz.prog 110 #[.int .i64 v, .int .i64 21] w fun e w' => e = .returned (.bool u) ∧ Drew w w' := h ▸ fits_yes v 21 w (by decide) (by decide)
theorem rfits_at {v : Int} {u : Bool} (w : World) (h : fitsB v 21 = u) : Calls Tryz.prog 108 #[.int .i64 v, .int .i64 21] w fun e w' => e = .returned (.bool u) ∧ Drew w w' := h ▸ rfits_yes v 21 w (by decide) (by decide)
end Go.Proofs.YthnbdeibjbicpaaGreat.I1
