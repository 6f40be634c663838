/- Contracts of Used and Fork. Conditions: the table's cells. -/
import Derived.Test.YtjjcmclnjeplkaaTab8
import Derived.Deep.OwnRows
set_option linter.unusedSimpArgs false
namespace Go.Proofs.Ytjjcmclnjeplkaa.PM
set_option linter.unusedVariables false
open Go.RowKit
def usedB (p : Page) : Bool := p.s != 0
theorem usedB_eq (p : Page) : usedB p = ((p.s : Int) != 0) := by unfold usedB; rw [Bool.eq_iff_iff]; simp
theorem info_bool : (Try.prog.info? 4).map (fun i => (i.zero, i.size, i.bytes)) = some (some (.bool false), 1, 1) := by kernel_rfl
set_option maxHeartbeats 2000000 in
theorem used_c (w : World) (g h c : Nat) (T : List Page) (t : Tab w g h c T) :
    Calls Try.prog 33 #[.pointer (some ⟨g, 0, none⟩)] w fun e w' =>
      e = .returned (.slice (some ⟨w.heap.size, 0, none⟩) T.length T.length) ∧ w'.rowIs w.heap.size 4 T.length (fun i => .bool (usedB T[i]!)) ∧ Below w.heap.size w w' := by
  have r0 := t.row
  have few := t.few
  have hgl := t.lt
  have hh := t.pgs.lt
  have hmk := run_make_row' (P := Try.prog) 55 4 (.bool false) 1 Try.underlying55 info_bool rfl .i64 .i64 T.length (by omega) (by omega)
  have D := Lib.hid t
  have hro := World.rowIs_made w (.bool false) T.length 4
  have RO := Lib.hid hro
  clear t hro
  have hgn : g ≠ w.heap.size := by omega
  go_enter Try.func33, Try.ntmps33
  go_wp2_with fail
  go_loopg [19] T.length (fun gg s19 wr => ∃ kk : Nat, kk ≤ T.length ∧ T.length - kk ≤ gg ∧ s19 = .int .i64 (kk : Int) ∧ Hid (wr.rowIs w.heap.size 4 T.length (fun i => if i < kk then .bool (usedB T[i]!) else .bool false)) ∧ Hid (Below w.heap.size w wr))
  case atStart => exact ⟨0, Nat.zero_le _, by omega, rfl, Lib.hid (RO.out.congr (fun i hi => by simp)), Lib.hid ((Below.refl _ _).alloc (Nat.le_refl _) _)⟩
  case round =>
    obtain ⟨kk, hkk, hg, rfl, RW, BW⟩ := hrel
    by_cases hlt : kk < T.length
    · have hltz : (kk : Int) < (T.length : Int) := by omega
      have hl := (D.out.kept BW.out).pgs.lies hlt
      have fr := RW.out.frozen kk
      have cu := RW.out.cell hlt
      have hw : w.heap.size < wr.heap.size := RW.out.lt
      have hB := usedB_eq T[kk]!
      have RN : Hid (∀ o : Obj, ((wr.setCell ⟨w.heap.size, kk, none⟩ (.bool ((T[kk]!.s : Int) != 0))).alloc o).rowIs w.heap.size 4 T.length (fun i => if i < kk + 1 then .bool (usedB T[i]!) else .bool false)) := Lib.hid (fun o => ((RW.out.set kk _).alloc o).congr (fun i hi => by
        by_cases e : i = kk
        · subst e; rw [if_pos rfl, if_pos (by omega), hB]
        · rw [if_neg e]
          by_cases e2 : i < kk
          · rw [if_pos e2, if_pos (by omega)]
          · rw [if_neg e2, if_neg (by omega)]))
      have BN : Hid (∀ (o : Obj) (u : Value), Below w.heap.size w ((wr.setCell ⟨w.heap.size, kk, none⟩ u).alloc o)) := Lib.hid (fun o u => (BW.out.setCell (Nat.le_refl _) _).alloc (by simp [World.setCell]; omega) _)
      generalize T[kk]! = y at hl hB RN
      obtain ⟨c0, c1, c2, c3, c4⟩ := hl
      have hh2 : h < wr.heap.size := by omega
      go_wp2_with fail
      go_roundg (T.length - (kk + 1))
      case measure => omega
      case rel => exact ⟨kk + 1, by omega, by omega, by go_num, Lib.hid (RN.out _), Lib.hid (BN.out _ _)⟩
    · have hltz : ¬ (kk : Int) < (T.length : Int) := by omega
      have : kk = T.length := by omega
      subst this
      go_wp2_with fail
      go_ret
      exact ⟨rfl, RW.out.congr (fun i hi => by simp [hi]), BW.out⟩
theorem used_nil (w : World) : Calls Try.prog 33 #[.pointer none] w fun e w' => e = .returned (.slice none 0 0) ∧ Below w.heap.size w w' := by
  go_enter Try.func33, Try.ntmps33
  go_wp2_with fail
  go_ret
  exact ⟨rfl, Below.refl _ _⟩
def Forked (w : World) (T : List Page) (e : Ending) (w' : World) : Prop := ∃ g h c, e = .returned (.pointer (some ⟨g, 0, none⟩)) ∧ w.heap.size ≤ g ∧ w.heap.size ≤ h ∧ Tab w' g h c T ∧ Below w.heap.size w w'
theorem fork_c (w : World) (g h c : Nat) (T : List Page) (t : Tab w g h c T) :
    Calls Try.prog 32 #[.pointer (some ⟨g, 0, none⟩)] w fun e w' => Forked w T e w' := by
  have r0 := t.row
  have few := t.few
  have C := Lib.hid (clone_c h c T w t.pgs few)
  clear t
  go_enter Try.func32, Try.ntmps32
  go_wp2_with fail
  refine C.out.mono ?_
  rintro e w1 ⟨h', c', rfl, hh, hp, hc, hb⟩
  have F : Hid (Forked w T (.returned (.pointer (some ⟨w1.heap.size, 0, none⟩))) (w1.alloc (.cells #[.slice (some ⟨h', 0, none⟩) T.length c'] 98))) :=
    Lib.hid ⟨_, h', c', rfl, hb.size, hh, ⟨by simp, by simp, by have := hp.lt; omega, hp.alloc _, few, hc⟩, hb.alloc hb.size _⟩
  clear hp hb hc hh
  go_wp2_with fail
  go_ret
  exact F.out
theorem fork_nil (w : World) : Calls Try.prog 32 #[.pointer none] w fun e w' => e = .returned (.pointer none) ∧ Below w.heap.size w w' := by
  go_enter Try.func32, Try.ntmps32
  go_wp2_with fail
  go_ret
  exact ⟨rfl, Below.refl _ _⟩
theorem get_nil (w : World) (i : Int) : Calls Try.prog 27 #[.pointer none, .int .i64 i] w fun e w' => e = .returned nz.v ∧ Below w.heap.size w w' := by
  by_cases h0 : i < 0
  · go_enter Try.func27, Try.ntmps27
    go_wp2_with fail
    refine bodyPost_ret (v := .agg #[.int .u8 0, .bool false, .bool false, .int .u16 0, .int .u64 0]) (by simp [results, Try.results27, go_sem, *]) rfl ?_
    exact ⟨rfl, (Below.refl _ _).alloc (Nat.le_refl _) _⟩
  · go_enter Try.func27, Try.ntmps27
    go_wp2_with (go_at_call 26; (with_reducible refine (len_nil_c _).mono ?_); rintro e w' ⟨rfl, rfl⟩)
    refine bodyPost_ret (v := .agg #[.int .u8 0, .bool false, .bool false, .int .u16 0, .int .u64 0]) (by simp [results, Try.results27, go_sem, *]) rfl ?_
    exact ⟨rfl, (Below.refl _ _).alloc (Nat.le_refl _) _⟩
end Go.Proofs.Ytjjcmclnjeplkaa.PM
