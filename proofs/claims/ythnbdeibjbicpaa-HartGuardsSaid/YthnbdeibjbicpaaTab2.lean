/- The kit's contracts of slices.ContainsFunc and slices.Clone, at pages. Conditions: as each says. -/
import Derived.Test.YthnbdeibjbicpaaKTabA
import Derived.Shelf.SlicesQ.IndexFunc
import Derived.Shelf.SlicesE.Clone
set_option linter.unusedSimpArgs false
namespace Go.Proofs.Ythnbdeibjbicpaa.PM
set_option linter.unusedVariables false
open Go.Shelf Go.RowKit Go.Lib
def renC : Ren := ⟨fun | 6 => 82 | 8 => 57 | n => n, fun | 0 => 0 | 3 => 3 | 4 => 4 | 22 => 36 | 23 => 59 | 25 => 103 | n => n, fun n => n⟩
theorem laysC : SlLaysH0.n8 Try.prog renC where
  mixed := by kernel_rfl
  f6 := ⟨"slices.IndexFunc[[]budwood/api.Page,budwood/api.Page]", by decide, Try.func82.trans (congrArg some (by kernel_rfl))⟩
  f8 := ⟨"slices.ContainsFunc[[]budwood/api.Page,budwood/api.Page]", by decide, Try.func57.trans (congrArg some (by kernel_rfl))⟩
  t0 := Try.underlying0
  a0 := Try.isAgg0
  z0 := Try.sizeOf0
  v0 := Try.zeroValue0
  t3 := Try.underlying3
  a3 := Try.isAgg3
  z3 := Try.sizeOf3
  v3 := Try.zeroValue3
  t4 := Try.underlying4
  a4 := Try.isAgg4
  z4 := Try.sizeOf4
  v4 := Try.zeroValue4
  t22 := Try.underlying36
  a22 := Try.isAgg36
  z22 := Try.sizeOf36
  v22 := Try.zeroValue36
  t25 := Try.underlying103
  a25 := Try.isAgg103
  z25 := Try.sizeOf103
  v25 := Try.zeroValue103
/-- slices.ContainsFunc over a stretch of pages. -/
theorem contains_c (p : Page → Bool) (g : Nat) (lb : Array Value) (eg : ∀ args w, (callFunc g args).run Try.prog w = .ok (.enter g args) w) (h off n c : Nat) (T : List Page) (w : World)
    (hp : PredBelow Try.prog g lb Page.v p w) (hT : Pgs w h T) (hn : off + n ≤ T.length) (hbig : n ≤ 9223372036854775807) :
    Calls Try.prog 57 #[.slice (some ⟨h, off * 5, none⟩) n c, .func (.func g) #[] lb] w fun e w' => e = .returned (.bool (((T.drop off).take n).any p)) ∧ Below w.heap.size w w' := by
  have key := AnyQ.slices_ContainsFunc laysC 5 Try.isAgg59 Try.sizeOf59 Page.c (fun _ => rfl) p g lb eg h (off * 5) n c (T.drop off) w hp (by simp; omega) hbig hT.lt
    (fun j hj i v hi => by
      have hj' : off + j < T.length := by simp at hj; omega
      have e : (T.drop off)[j]! = T[off + j]! := by simp [List.getElem!_eq_getElem?_getD]
      rw [e] at hi
      have hi5 : i < 5 := by
        rcases Nat.lt_or_ge i 5 with q | q
        · exact q
        · rw [List.getElem?_eq_none (by show 5 ≤ i; exact q)] at hi; cases hi
      have := hT.cells ((off + j) * 5 + i) v (by rw [flat_at T _ hj' i hi5]; exact hi)
      rw [show off * 5 + j * 5 + i = (off + j) * 5 + i by omega]
      exact this)
  exact key
def renK : Ren := ⟨fun | 41 => 81 | n => n, fun | 4 => 4 | 22 => 36 | 23 => 59 | n => n, fun n => n⟩
theorem laysK : SlLaysE0.n41 Try.prog renK where
  mixed := by kernel_rfl
  f41 := ⟨"slices.Clone[[]budwood/api.Page,budwood/api.Page]", by decide, Try.func81.trans (congrArg some (by kernel_rfl))⟩
  t4 := Try.underlying4
  a4 := Try.isAgg4
  z4 := Try.sizeOf4
  v4 := Try.zeroValue4
  t22 := Try.underlying36
  a22 := Try.isAgg36
  z22 := Try.sizeOf36
  v22 := Try.zeroValue36
/-- What a row of the call's own holds, as pages. -/
theorem Pgs.own {w : World} {base : Nat} {e : TypeId} {v : Value} {T : List Page} (ho : w.ownsRow base e 5 v T.length (flat T)) (hv : v ≠ .slice none 0 0) : ∃ h c, v = .slice (some ⟨h, 0, none⟩) T.length c ∧ base ≤ h ∧ Pgs w h T ∧ T.length ≤ c := by
  obtain ⟨hl, ⟨rfl, _⟩ | ⟨g, cap, cur, rfl, hg, hb, hn, hm, hs, hx⟩⟩ := ho
  · exact absurd rfl hv
  refine ⟨g, cap, rfl, hg, ⟨Blk.lt hb, fun j u hj => ?_, fun o => Blk.frozen hb o⟩, hn⟩
  rw [Blk.cell hb j]
  rw [← hx, List.getElem?_take] at hj
  split at hj
  · rw [← hj]; simp
  · cases hj
/-- slices.Clone of pages. -/
theorem clone_c (h c : Nat) (T : List Page) (w : World) (hT : Pgs w h T) (hn : T.length ≤ 256) :
    Calls Try.prog 81 #[.slice (some ⟨h, 0, none⟩) T.length c] w fun e w' => ∃ h' c', e = .returned (.slice (some ⟨h', 0, none⟩) T.length c') ∧ w.heap.size ≤ h' ∧ Pgs w' h' T ∧ T.length ≤ c' ∧ Below w.heap.size w w' := by
  have key := AnyE.slices_Clone laysK Try.t59 nz.v 5 16 (by kernel_rfl) (by kernel_rfl) (by kernel_rfl) (by kernel_rfl) (by kernel_rfl) (by decide) Try.sizeOf59 h 0 T.length c (flat T) w (flat_length T) (by simp [maxLen]; omega) (by omega)
    (fun j u hj => by rw [Nat.zero_add]; exact hT.cells j u hj)
    (fun u hu => by
      simp only [flat, List.mem_flatMap] at hu
      obtain ⟨p, _, hu⟩ := hu
      simp [Page.c] at hu
      rcases hu with rfl | rfl | rfl | rfl | rfl <;> rfl)
  refine key.mono fun e w' ⟨v, he, ho, hv, hb⟩ => ?_
  obtain ⟨h', c', rfl, hg, hp, hc⟩ := Pgs.own ho hv
  exact ⟨h', c', he, hg, hp, hc, hb⟩
end Go.Proofs.Ythnbdeibjbicpaa.PM
