/- What Publish, Retire and Release hand to each. Conditions: the captured boxes' cells. -/
import Derived.Test.YtjjcmclnjeplkaaTab4
set_option linter.unusedSimpArgs false
namespace Go.Proofs.Ytjjcmclnjeplkaa.PM
set_option linter.unusedVariables false
open Go.RowKit
theorem is_c (w : World) (q : Nat) :
    Calls Try.prog 60 #[.int .u8 (q : Int)] w fun e w' => e = .returned (.func (.func 91) #[] #[.pointer (some ⟨w.heap.size, 0, none⟩)]) ∧ w' = w.alloc (.cells #[.int .u8 (q : Int)] 22) := by
  go_enter Try.func60, Try.ntmps60
  go_wp2_with fail
  go_ret
  exact ⟨rfl, rfl⟩
theorem Pgs.written {w w' : World} {h : Nat} {T : List Page} (hp : Pgs w h T) {i : Nat} (hi : i < T.length) (q : Page) (hs : h < w'.heap.size) (hf : ∀ o, w'.frozen? ⟨h, o, none⟩ = w.frozen? ⟨h, o, none⟩)
    (hc : ∀ o, (o < i * 5 ∨ i * 5 + 5 ≤ o) → w'.cell? ⟨h, o, none⟩ = w.cell? ⟨h, o, none⟩) (hl : Lies w' h (i * 5) q) : Pgs w' h (T.set i q) := by
  refine Pgs.mk' hs (fun o => (hf o).trans (hp.free o)) ?_
  intro j hj
  rw [List.length_set] at hj
  rw [set_bang T i j _ hj]
  by_cases e : j = i
  · subst e
    rw [if_pos rfl]; exact hl
  · rw [if_neg e]
    have lj := hp.lies hj
    exact ⟨(hc _ (by omega)).trans lj.c0, (hc _ (by omega)).trans lj.c1, (hc _ (by omega)).trans lj.c2, (hc _ (by omega)).trans lj.c3, (hc _ (by omega)).trans lj.c4⟩
theorem cell_near {w : World} {h o x : Nat} {u : Value} (hne : x ≠ o) : (w.setCell ⟨h, o, none⟩ u).cell? ⟨h, x, none⟩ = w.cell? ⟨h, x, none⟩ :=
  World.cell?_setCell_other _ _ _ _ (by intro q; injection q with _ q; exact hne q.symm)
theorem Pgs.set012 {w : World} {h : Nat} {T : List Page} (hp : Pgs w h T) {i : Nat} (hi : i < T.length) (s : Nat) (x wr : Bool) (p : Page) (hT : T[i]! = p) :
    Pgs (((w.setCell ⟨h, i * 5, none⟩ (.int .u8 (s : Int))).setCell ⟨h, i * 5 + 1, none⟩ (.bool x)).setCell ⟨h, i * 5 + 2, none⟩ (.bool wr)) h (T.set i ⟨s, x, wr, p.ow, p.ep⟩) := by
  have hl := hp.lies hi
  rw [hT] at hl
  refine hp.written hi _ (by simpa [World.setCell] using hp.lt) (fun o => by rw [World.frozen?_setCell, World.frozen?_setCell, World.frozen?_setCell]) (fun o ho => by rw [cell_near (by omega), cell_near (by omega), cell_near (by omega)]) ⟨?_, ?_, ?_, ?_, ?_⟩
  · rw [cell_near (by omega), cell_near (by omega)]; exact World.cell?_setCell_same _ _ _ hl.c0
  · rw [cell_near (by omega)]; exact World.cell?_setCell_same _ _ _ ((cell_near (by omega)).trans hl.c1)
  · exact World.cell?_setCell_same _ _ _ ((cell_near (by omega)).trans ((cell_near (by omega)).trans hl.c2))
  · rw [cell_near (by omega), cell_near (by omega), cell_near (by omega)]; exact hl.c3
  · rw [cell_near (by omega), cell_near (by omega), cell_near (by omega)]; exact hl.c4
theorem is_in (w : World) (B h q : Nat) (hc : w.cell? ⟨B, 0, none⟩ = some (.int .u8 (q : Int))) (hB : B < w.heap.size) (hne : B ≠ h) :
    InC 91 #[.pointer (some ⟨B, 0, none⟩)] (fun s => s == q) h w := by
  intro W s hu
  have c0 : W.cell? ⟨B, 0, none⟩ = some (.int .u8 (q : Int)) := (hu.cell (p := ⟨B, 0, none⟩) hB hne).trans hc
  clear hc
  have e : (s == q) = ((s : Int) == (q : Int)) := by rw [Bool.eq_iff_iff]; simp; omega
  show Calls Try.prog 91 #[.int .u8 (s : Int), .pointer (some ⟨B, 0, none⟩)] W _
  simp only []
  rw [e]
  go_enter Try.func91, Try.ntmps91
  go_wp2_with fail
  go_ret
  exact ⟨rfl, Below.refl _ _⟩
theorem idle_in (w : World) (h : Nat) : InC 64 #[] (fun s => s == 1 || s == 3) h w := by
  intro W s hu
  have e : (s == 1 || s == 3) = (((s : Int) == 1) || ((s : Int) == 3)) := by rw [Bool.eq_iff_iff]; simp; omega
  show Calls Try.prog 64 #[.int .u8 (s : Int)] W _
  simp only []
  rw [e]
  cases q1 : ((s : Int) == 1) <;> cases q3 : ((s : Int) == 3)
  all_goals
    go_enter Try.func64, Try.ntmps64
    go_wp2_with fail
    go_ret
    exact ⟨rfl, Below.refl _ _⟩
theorem set_self (T : List Page) (i : Nat) (hi : i < T.length) : T.set i T[i]! = T := by
  apply List.ext_getElem (by simp)
  intro j h1 h2
  rw [List.getElem_set]
  split
  · subst_vars; simp [h2]
  · rfl
theorem none_do (w : World) (h : Nat) : DoC 61 #[] (fun _ p => p) h w := by
  intro W T i n hu hp hi hn
  rw [set_self T i hi]
  show Calls Try.prog 61 #[.int .i64 (n : Int), .pointer (some ⟨h, i * 5, none⟩)] W _
  go_enter Try.func61, Try.ntmps61
  go_wp2_with fail
  go_end0
  exact ⟨rfl, hp, Upd.refl _ _⟩
def relF (_ : Nat) (_ : Page) : Page := nz
theorem rel_do (w : World) (h : Nat) : DoC 65 #[] relF h w := by
  intro W T i n hu hp hi hn
  have hl := hp.lies hi
  obtain ⟨c0, c1, c2, c3, c4⟩ := hl
  have f0 := hp.free (i * 5)
  have f1 := hp.free (i * 5 + 1)
  have f2 := hp.free (i * 5 + 2)
  have f3 := hp.free (i * 5 + 3)
  have f4 := hp.free (i * 5 + 4)
  have HS := Lib.hid (hp.set hi nz)
  have HU := Lib.hid ((Upd.refl h W).store (i * 5) nz)
  show Calls Try.prog 65 #[.int .i64 (n : Int), .pointer (some ⟨h, i * 5, none⟩)] W _
  clear hp hi hu
  generalize T[i]! = p at c0 c1 c2 c3 c4
  go_enter Try.func65, Try.ntmps65
  go_wp2_with fail
  go_end0
  exact ⟨rfl, HS.out, HU.out⟩
/-- What Publish does with the n-th page of an owner. -/
def pubF (code : Int) (n : Nat) (p : Page) : Page := ⟨2, decide ((n : Int) < code), decide (code ≤ (n : Int)), p.ow, p.ep⟩
def retF (ep : Nat) (_ : Nat) (p : Page) : Page := { p with s := 3, ep := ep }
set_option maxHeartbeats 2000000 in
theorem pub_do (w : World) (h B : Nat) (code : Int) (hc : w.cell? ⟨B, 0, none⟩ = some (.int .i64 code)) (hB : B < w.heap.size) (hne : B ≠ h) :
    DoC 62 #[.pointer (some ⟨B, 0, none⟩)] (pubF code) h w := by
  intro W T i n hu hp hi hn
  have cb : W.cell? ⟨B, 0, none⟩ = some (.int .i64 code) := (hu.cell (p := ⟨B, 0, none⟩) hB hne).trans hc
  have hl := hp.lies hi
  obtain ⟨c0, c1, c2, c3, c4⟩ := hl
  have f0 := hp.free (i * 5)
  have f1 := hp.free (i * 5 + 1)
  have f2 := hp.free (i * 5 + 2)
  have hne1 : ¬ h = B := fun e => hne e.symm
  have hW : B < W.heap.size := Nat.lt_of_lt_of_le hB hu.size
  have HS := Lib.hid ((hp.set012 hi 2 (decide ((n : Int) < code)) (decide (code ≤ (n : Int))) _ rfl).drewN 1)
  have HU := Lib.hid (((((Upd.refl h W).setCell (i * 5) (.int .u8 2)).setCell (i * 5 + 1) (.bool (decide ((n : Int) < code)))).setCell (i * 5 + 2) (.bool (decide (code ≤ (n : Int))))).drewN 1)
  show Calls Try.prog 62 #[.int .i64 (n : Int), .pointer (some ⟨h, i * 5, none⟩), .pointer (some ⟨B, 0, none⟩)] W _
  clear hp hi hu hc hB
  generalize T[i]! = p at c0 c1 c2 c3 c4 HS HU
  go_enter Try.func62, Try.ntmps62
  go_wp2
  go_region
  all_goals go_wp2
  all_goals go_end0
  all_goals exact ⟨rfl, HS.out, HU.out⟩
set_option maxHeartbeats 2000000 in
theorem ret_do (w : World) (h B : Nat) (ep : Nat) (hc : w.cell? ⟨B, 0, none⟩ = some (.int .u64 (ep : Int))) (hB : B < w.heap.size) (hne : B ≠ h) :
    DoC 63 #[.pointer (some ⟨B, 0, none⟩)] (retF ep) h w := by
  intro W T i n hu hp hi hn
  have cb : W.cell? ⟨B, 0, none⟩ = some (.int .u64 (ep : Int)) := (hu.cell (p := ⟨B, 0, none⟩) hB hne).trans hc
  have hl := hp.lies hi
  obtain ⟨c0, c1, c2, c3, c4⟩ := hl
  have f0 := hp.free (i * 5)
  have f4 := hp.free (i * 5 + 4)
  have hne1 : ¬ h = B := fun e => hne e.symm
  have hW : B < W.heap.size := Nat.lt_of_lt_of_le hB hu.size
  have HS := Lib.hid ((hp.set04 hi 3 ep _ rfl).drewN 1)
  have HU := Lib.hid ((((Upd.refl h W).setCell (i * 5) (.int .u8 3)).setCell (i * 5 + 4) (.int .u64 (ep : Int))).drewN 1)
  show Calls Try.prog 63 #[.int .i64 (n : Int), .pointer (some ⟨h, i * 5, none⟩), .pointer (some ⟨B, 0, none⟩)] W _
  clear hp hi hu hc hB
  generalize T[i]! = p at c0 c1 c2 c3 c4 HS
  go_enter Try.func63, Try.ntmps63
  go_wp2
  go_region
  all_goals go_wp2
  all_goals go_end0
  all_goals exact ⟨rfl, HS.out, HU.out⟩
end Go.Proofs.Ytjjcmclnjeplkaa.PM
