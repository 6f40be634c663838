/- What Publish, Retire and Release hand to each. Conditions: the captured boxes' cells. -/
import Derived.Test.YthnbdeibjbicpaaTab4
set_option linter.unusedSimpArgs false
namespace Go.Proofs.Ythnbdeibjbicpaa.PM
set_option linter.unusedVariables false
open Go.RowKit
theorem is_c (w : World) (q : Nat) :
    Calls Try.prog 65 #[.int .u8 (q : Int)] w fun e w' => e = .returned (.func (.func 83) #[] #[.pointer (some ⟨w.heap.size, 0, none⟩)]) ∧ w' = w.alloc (.cells #[.int .u8 (q : Int)] 56) := by
  go_enter Try.func65, Try.ntmps65
  go_wp2_with fail
  go_ret
  exact ⟨rfl, rfl⟩
theorem Pgs.written {w w' : World} {h : Nat} {T : List Page} (hp : Pgs w h T) {i : Nat} (hi : i < T.length) (q : Page) (hs : h < w'.heap.size) (hf : ∀ o, w'.frozen? ⟨h, o, none⟩ = w.frozen? ⟨h, o, none⟩)
    (hc : ∀ o, (o < i * 5 ∨ i * 5 + 5 ≤ o) → w'.cell? ⟨h, o, none⟩ = w.cell? ⟨h, o, none⟩) (hl : Lies w' h (i * 5) q) : Pgs w' h (T.set i q) := by
  refine Pgs.mk' hs (fun o => (hf o).trans (hp.free o)) ?_
  intro j hj
  rw [List.length_set] at hj
  rw [set_bang T i j _ hj]
  by_cases e : j = i
  · subst e
    rw [if_pos rfl]; exact hl
  · rw [if_neg e]
    have lj := hp.lies hj
    exact ⟨(hc _ (by omega)).trans lj.c0, (hc _ (by omega)).trans lj.c1, (hc _ (by omega)).trans lj.c2, (hc _ (by omega)).trans lj.c3, (hc _ (by omega)).trans lj.c4⟩
theorem cell_near {w : World} {h o x : Nat} {u : Value} (hne : x ≠ o) : (w.setCell ⟨h, o, none⟩ u).cell? ⟨h, x, none⟩ = w.cell? ⟨h, x, none⟩ :=
  World.cell?_setCell_other _ _ _ _ (by intro q; injection q with _ q; exact hne q.symm)
theorem Pgs.set012 {w : World} {h : Nat} {T : List Page} (hp : Pgs w h T) {i : Nat} (hi : i < T.length) (s : Nat) (x wr : Bool) (p : Page) (hT : T[i]! = p) :
    Pgs (((w.setCell ⟨h, i * 5, none⟩ (.int .u8 (s : Int))).setCell ⟨h, i * 5 + 1, none⟩ (.bool x)).setCell ⟨h, i * 5 + 2, none⟩ (.bool wr)) h (T.set i ⟨s, x, wr, p.ow, p.ep⟩) := by
  have hl := hp.lies hi
  rw [hT] at hl
  refine hp.written hi _ (by simpa [World.setCell] using hp.lt) (fun o => by rw [World.frozen?_setCell, World.frozen?_setCell, World.frozen?_setCell]) (fun o ho => by rw [cell_near (by omega), cell_near (by omega), cell_near (by omega)]) ⟨?_, ?_, ?_, ?_, ?_⟩
  · rw [cell_near (by omega), cell_near (by omega)]; exact World.cell?_setCell_same _ _ _ hl.c0
  · rw [cell_near (by omega)]; exact World.cell?_setCell_same _ _ _ ((cell_near (by omega)).trans hl.c1)
  · exact World.cell?_setCell_same _ _ _ ((cell_near (by omega)).trans ((cell_near (by omega)).trans hl.c2))
  · rw [cell_near (by omega), cell_near (by omega), cell_near (by omega)]; exact hl.c3
  · rw [cell_near (by omega), cell_near (by omega), cell_near (by omega)]; exact hl.c4
theorem is_in (w : World) (B h q : Nat) (hc : w.cell? ⟨B, 0, none⟩ = some (.int .u8 (q : Int))) (hB : B < w.heap.size) (hne : B ≠ h) :
    InC 83 #[.pointer (some ⟨B, 0, none⟩)] (fun s => s == q) h w := by
  intro W s hu
  have c0 : W.cell? ⟨B, 0, none⟩ = some (.int .u8 (q : Int)) := (hu.cell (p := ⟨B, 0, none⟩) hB hne).trans hc
  clear hc
  have e : (s == q) = ((s : Int) == (q : Int)) := by rw [Bool.eq_iff_iff]; simp; omega
  show Calls Try.prog 83 #[.int .u8 (s : Int), .pointer (some ⟨B, 0, none⟩)] W _
  simp only []
  rw [e]
  go_enter Try.func83, Try.ntmps83
  go_wp2_with fail
  go_ret
  exact ⟨rfl, Below.refl _ _⟩
theorem set_self (T : List Page) (i : Nat) (hi : i < T.length) : T.set i T[i]! = T := by
  apply List.ext_getElem (by simp)
  intro j h1 h2
  rw [List.getElem_set]
  split
  · subst_vars; simp [h2]
  · rfl
theorem none_do (w : World) (h : Nat) : DoC 66 #[] (fun _ p => p) h w := by
  intro W T i n hu hp hi hn
  rw [set_self T i hi]
  show Calls Try.prog 66 #[.int .i64 (n : Int), .pointer (some ⟨h, i * 5, none⟩)] W _
  go_enter Try.func66, Try.ntmps66
  go_wp2_with fail
  go_end0
  exact ⟨rfl, hp, Upd.refl _ _⟩
def relF (_ : Nat) (_ : Page) : Page := nz
/-- What Publish does with the n-th page of an owner. -/
def pubF (code : Int) (n : Nat) (p : Page) : Page := ⟨2, decide ((n : Int) < code), decide (code ≤ (n : Int)), p.ow, p.ep⟩
def retF (ep : Nat) (_ : Nat) (p : Page) : Page := { p with s := 3, ep := ep }
set_option maxHeartbeats 2000000 in
theorem pub_do (w : World) (h B : Nat) (code : Int) (hc : w.cell? ⟨B, 0, none⟩ = some (.int .i64 code)) (hB : B < w.heap.size) (hne : B ≠ h) :
    DoC 67 #[.pointer (some ⟨B, 0, none⟩)] (pubF code) h w := by
  intro W T i n hu hp hi hn
  have cb : W.cell? ⟨B, 0, none⟩ = some (.int .i64 code) := (hu.cell (p := ⟨B, 0, none⟩) hB hne).trans hc
  have hl := hp.lies hi
  obtain ⟨c0, c1, c2, c3, c4⟩ := hl
  have f0 := hp.free (i * 5)
  have f1 := hp.free (i * 5 + 1)
  have f2 := hp.free (i * 5 + 2)
  have hne1 : ¬ h = B := fun e => hne e.symm
  have hW : B < W.heap.size := Nat.lt_of_lt_of_le hB hu.size
  have HS := Lib.hid ((hp.set012 hi 2 (decide ((n : Int) < code)) (decide (code ≤ (n : Int))) _ rfl).drewN 1)
  have HU := Lib.hid (((((Upd.refl h W).setCell (i * 5) (.int .u8 2)).setCell (i * 5 + 1) (.bool (decide ((n : Int) < code)))).setCell (i * 5 + 2) (.bool (decide (code ≤ (n : Int))))).drewN 1)
  show Calls Try.prog 67 #[.int .i64 (n : Int), .pointer (some ⟨h, i * 5, none⟩), .pointer (some ⟨B, 0, none⟩)] W _
  clear hp hi hu hc hB
  generalize T[i]! = p at c0 c1 c2 c3 c4 HS HU
  go_enter Try.func67, Try.ntmps67
  go_wp2
  go_region
  all_goals go_wp2
  all_goals go_end0
  all_goals exact ⟨rfl, HS.out, HU.out⟩
set_option maxHeartbeats 2000000 in
theorem ret_do (w : World) (h B : Nat) (ep : Nat) (hc : w.cell? ⟨B, 0, none⟩ = some (.int .u64 (ep : Int))) (hB : B < w.heap.size) (hne : B ≠ h) :
    DoC 69 #[.pointer (some ⟨B, 0, none⟩)] (retF ep) h w := by
  intro W T i n hu hp hi hn
  have cb : W.cell? ⟨B, 0, none⟩ = some (.int .u64 (ep : Int)) := (hu.cell (p := ⟨B, 0, none⟩) hB hne).trans hc
  have hl := hp.lies hi
  obtain ⟨c0, c1, c2, c3, c4⟩ := hl
  have f0 := hp.free (i * 5)
  have f4 := hp.free (i * 5 + 4)
  have hne1 : ¬ h = B := fun e => hne e.symm
  have hW : B < W.heap.size := Nat.lt_of_lt_of_le hB hu.size
  have HS := Lib.hid ((hp.set04 hi 3 ep _ rfl).drewN 1)
  have HU := Lib.hid ((((Upd.refl h W).setCell (i * 5) (.int .u8 3)).setCell (i * 5 + 4) (.int .u64 (ep : Int))).drewN 1)
  show Calls Try.prog 69 #[.int .i64 (n : Int), .pointer (some ⟨h, i * 5, none⟩), .pointer (some ⟨B, 0, none⟩)] W _
  clear hp hi hu hc hB
  generalize T[i]! = p at c0 c1 c2 c3 c4 HS
  go_enter Try.func69, Try.ntmps69
  go_wp2
  go_region
  all_goals go_wp2
  all_goals go_end0
  all_goals exact ⟨rfl, HS.out, HU.out⟩
end Go.Proofs.Ythnbdeibjbicpaa.PM
