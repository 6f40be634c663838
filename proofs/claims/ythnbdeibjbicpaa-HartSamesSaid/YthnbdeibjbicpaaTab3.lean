/- Contracts of a table of pages: New, Len, Get. Conditions: the table's cells. -/
import Derived.Test.YthnbdeibjbicpaaTab1
set_option linter.unusedSimpArgs false
namespace Go.Proofs.Ythnbdeibjbicpaa.PM
set_option linter.unusedVariables false
open Go.RowKit
/-- A table: a block of one cell that holds a slice of pages. -/
structure Tab (w : World) (g h c : Nat) (T : List Page) : Prop where
  row : w.cell? ⟨g, 0, none⟩ = some (.slice (some ⟨h, 0, none⟩) T.length c)
  lt : g < w.heap.size
  ne : g ≠ h
  pgs : Pgs w h T
  few : T.length ≤ 256
  cap : T.length ≤ c
section
variable {w w' : World} {g h c : Nat} {T T' : List Page}
theorem Tab.kept (t : Tab w g h c T) (hb : Below w.heap.size w w') : Tab w' g h c T :=
  ⟨(hb.cell (p := ⟨g, 0, none⟩) t.lt).trans t.row, Nat.lt_of_lt_of_le t.lt hb.size, t.ne, t.pgs.kept hb, t.few, t.cap⟩
theorem Tab.alloc (t : Tab w g h c T) (o : Obj) : Tab (w.alloc o) g h c T := t.kept ((Below.refl _ _).alloc (Nat.le_refl _) o)
theorem Tab.drewN (t : Tab w g h c T) (n : Nat) : Tab (w.drewN n) g h c T := t.kept (below_drewN (Below.refl _ _) n)
theorem Tab.upd (t : Tab w g h c T) {k : Nat} (hu : Upd k w w') (h1 : g ≠ k) (h2 : h ≠ k) : Tab w' g h c T :=
  ⟨(hu.cell (p := ⟨g, 0, none⟩) t.lt h1).trans t.row, Nat.lt_of_lt_of_le t.lt hu.size, t.ne, hu.pgs t.pgs h2, t.few, t.cap⟩
theorem Tab.turned (t : Tab w g h c T) (hu : Upd h w w') (hp : Pgs w' h T') (hl : T'.length = T.length) : Tab w' g h c T' :=
  ⟨by rw [hl]; exact (hu.cell (p := ⟨g, 0, none⟩) t.lt t.ne).trans t.row, Nat.lt_of_lt_of_le t.lt hu.size, t.ne, hp, by rw [hl]; exact t.few, by rw [hl]; exact t.cap⟩
end
theorem len_c (w : World) (g h c : Nat) (T : List Page) (t : Tab w g h c T) :
    Calls Try.prog 52 #[.pointer (some ⟨g, 0, none⟩)] w fun e w' => e = .returned (.int .i64 (T.length : Int)) ∧ w' = w := by
  have c0 := t.row
  clear t
  generalize T.length = n at c0 ⊢
  go_enter Try.func52, Try.ntmps52
  go_wp2_with fail
  go_ret
  exact ⟨rfl, rfl⟩
theorem len_nil_c (w : World) :
    Calls Try.prog 52 #[.pointer none] w fun e w' => e = .returned (.int .i64 0) ∧ w' = w := by
  go_enter Try.func52, Try.ntmps52
  go_wp2_with fail
  go_ret
  exact ⟨rfl, rfl⟩
theorem getP_in (T : List Page) (k : Nat) (hk : k < T.length) : getP T (k : Int) = T[k]! := by
  unfold getP
  rw [if_pos ⟨by omega, by omega⟩]
  simp
set_option maxHeartbeats 1000000 in
theorem get_c (w : World) (g h c : Nat) (T : List Page) (t : Tab w g h c T) (i : Int) :
    Calls Try.prog 23 #[.pointer (some ⟨g, 0, none⟩), .int .i64 i] w fun e w' => e = .returned (getP T i).v ∧ Below w.heap.size w w' := by
  have HL := Lib.hid (fun o => len_c (w.alloc o) g h c T (t.alloc o))
  by_cases h0 : i < 0
  · rw [getP, if_neg (by omega)]
    clear t HL
    go_enter Try.func23, Try.ntmps23
    go_wp2_with fail
    refine bodyPost_ret (v := .agg #[.int .u8 0, .bool false, .bool false, .int .u16 0, .int .u64 0]) (by simp [results, Try.results23, go_sem, *]) rfl ?_
    exact ⟨rfl, (Below.refl _ _).alloc (Nat.le_refl _) _⟩
  by_cases h1 : (T.length : Int) ≤ i
  · rw [getP, if_neg (by omega)]
    clear t
    generalize T.length = n at HL h1
    go_enter Try.func23, Try.ntmps23
    go_wp2_with (go_at_call 52; (with_reducible refine (HL.out _).mono ?_); rintro e w' ⟨rfl, rfl⟩)
    refine bodyPost_ret (v := .agg #[.int .u8 0, .bool false, .bool false, .int .u16 0, .int .u64 0]) (by simp [results, Try.results23, go_sem, *]) rfl ?_
    exact ⟨rfl, (Below.refl _ _).alloc (Nat.le_refl _) _⟩
  obtain ⟨k, rfl⟩ : ∃ k : Nat, i = (k : Int) := ⟨i.toNat, by omega⟩
  have hk : k < T.length := by omega
  rw [getP_in T k hk]
  have hl := t.pgs.lies hk
  have r0 := t.row
  have hg := t.lt
  have hh := t.pgs.lt
  clear t h0 h1
  generalize T[k]! = p at hl ⊢
  obtain ⟨s, x, wr, ow, ep⟩ := p
  obtain ⟨c0, c1, c2, c3, c4⟩ := hl
  simp only at c0 c1 c2 c3 c4
  have hki : (k : Int) < (T.length : Int) := by omega
  generalize T.length = n at HL r0 hk hki
  go_enter Try.func23, Try.ntmps23
  go_wp2_with (go_at_call 52; (with_reducible refine (HL.out _).mono ?_); rintro e w' ⟨rfl, rfl⟩)
  refine bodyPost_ret (v := .agg #[.int .u8 (s : Int), .bool x, .bool wr, .int .u16 (ow : Int), .int .u64 (ep : Int)]) (by simp [results, Try.results23, go_sem, *]) rfl ?_
  exact ⟨rfl, (Below.refl _ _).alloc (Nat.le_refl _) _⟩
/-- How many pages a table has. -/
def newLen (n : Int) : Nat := if n ≤ 0 then 0 else if 256 < n then 256 else n.toNat
theorem newLen_le (n : Int) : newLen n ≤ 256 := by unfold newLen; split <;> (try split) <;> omega
theorem made_at (k j : Nat) (hk : k < 5) (m : Nat) (hj : j < m) : (madeCells nz.v.cells (m * 5))[j * 5 + k]? = some nz.v.cells[k]! := by
  have e : (j * 5 + k) % nz.v.cells.size = k := by
    have : nz.v.cells.size = 5 := by decide
    rw [this]; omega
  have hlt : j * 5 + k < m * 5 := by omega
  simp only [madeCells, Array.getElem?_map]
  rw [Array.getElem?_eq_getElem (by simpa using hlt)]
  simp only [Array.getElem_range, Option.map_some, e]
theorem pgs_new (w : World) (m : Nat) (t : TypeId) : Pgs (w.alloc (.cells (madeCells nz.v.cells (m * 5)) t)) w.heap.size (List.replicate m nz) := by
  have hB := Blk.new w t (madeCells nz.v.cells (m * 5))
  refine Pgs.mk' hB.lt hB.frozen ?_
  intro i hi
  have hi' : i < m := by simpa using hi
  have e : (List.replicate m nz)[i]! = nz := by simp [List.getElem!_eq_getElem?_getD, hi']
  rw [e]
  exact ⟨(hB.cell _).trans (made_at 0 i (by decide) m hi'), (hB.cell _).trans (made_at 1 i (by decide) m hi'), (hB.cell _).trans (made_at 2 i (by decide) m hi'), (hB.cell _).trans (made_at 3 i (by decide) m hi'), (hB.cell _).trans (made_at 4 i (by decide) m hi')⟩
/-- make of m pages. -/
theorem make_pages (m : Nat) (hm : m ≤ 256) (W : World) : (Instr.makeSlice 36 (.int .i64 (m : Int)) (.int .i64 (m : Int))).run Try.prog W = .ok (.slice (some ⟨W.heap.size, 0, none⟩) m m) (W.alloc (.cells (madeCells nz.v.cells (m * 5)) 59)) := by
  have h := run_make (P := Try.prog) W 36 59 Try.t59 nz.v Try.underlying36 (by kernel_rfl) (by kernel_rfl) .i64 .i64 (m : Int) (m : Int) (by omega) (by omega)
    (by have e : Try.t59.bytes = 16 := by kernel_rfl
        rw [e]; omega) (by omega)
  have e5 : Try.t59.size = 5 := by kernel_rfl
  rw [e5] at h
  simpa using h
set_option maxRecDepth 100000 in
set_option maxHeartbeats 1000000 in
theorem new_w (w : World) (n : Int) (m : Nat) (hm : newLen n = m) (cs : Array Value) (mk : ∀ (W : World), (Instr.makeSlice 36 (.int .i64 (m : Int)) (.int .i64 (m : Int))).run Try.prog W = .ok (.slice (some ⟨W.heap.size, 0, none⟩) m m) (W.alloc (.cells cs 59))) :
    Calls Try.prog 53 #[.int .i64 n] w fun e w' => e = .returned (.pointer (some ⟨w.heap.size + 1, 0, none⟩)) ∧ w' = (w.alloc (.cells cs 59)).alloc (.cells #[.slice (some ⟨w.heap.size, 0, none⟩) m m] 100) := by
  unfold newLen at hm
  by_cases h0 : n ≤ 0
  · rw [if_pos h0] at hm
    subst hm
    simp only [Int.natCast_zero] at mk
    go_enter Try.func53, Try.ntmps53
    go_wp2_with fail
    go_ret
    exact ⟨rfl, rfl⟩
  rw [if_neg h0] at hm
  by_cases h1 : 256 < n
  · rw [if_pos h1] at hm
    subst hm
    have mk' : ∀ (W : World), (Instr.makeSlice 36 (.int .i64 256) (.int .i64 256)).run Try.prog W = .ok (.slice (some ⟨W.heap.size, 0, none⟩) 256 256) (W.alloc (.cells cs 59)) := mk
    clear mk
    go_enter Try.func53, Try.ntmps53
    go_wp2_with fail
    go_ret
    exact ⟨rfl, rfl⟩
  rw [if_neg h1] at hm
  obtain rfl : n = (m : Int) := by omega
  clear hm
  go_enter Try.func53, Try.ntmps53
  go_wp2_with fail
  go_ret
  exact ⟨rfl, rfl⟩
theorem new_c (w : World) (n : Int) :
    Calls Try.prog 53 #[.int .i64 n] w fun e w' => ∃ g h c, e = .returned (.pointer (some ⟨g, 0, none⟩)) ∧ w.heap.size ≤ g ∧ w.heap.size ≤ h ∧ Tab w' g h c (List.replicate (newLen n) nz) ∧ Below w.heap.size w w' := by
  have hm := newLen_le n
  refine (new_w w n _ rfl _ (make_pages (newLen n) hm)).mono ?_
  rintro e w' ⟨rfl, rfl⟩
  refine ⟨_, w.heap.size, newLen n, rfl, by omega, Nat.le_refl _, ⟨?_, by simp, by omega, (pgs_new w _ _).alloc _, by simpa using hm, by simp⟩, ((Below.refl _ _).alloc (Nat.le_refl _) _).alloc (by simp) _⟩
  simp
end Go.Proofs.Ythnbdeibjbicpaa.PM
