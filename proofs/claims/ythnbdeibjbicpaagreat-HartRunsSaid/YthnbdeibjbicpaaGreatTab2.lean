/- The kit's contracts of slices.ContainsFunc and slices.Clone, at pages. Conditions: as each says. -/
import Derived.Test.YthnbdeibjbicpaaGreatKTabA
import Derived.Shelf.SlicesQ.IndexFunc
import Derived.Shelf.SlicesE.Clone
set_option linter.unusedSimpArgs false
namespace Go.Proofs.YthnbdeibjbicpaaGreat.PM
set_option linter.unusedVariables false
open Go.Shelf Go.RowKit Go.Lib
def renC : Ren := ⟨fun | 6 => 92 | 8 => 57 | n => n, fun | 0 => 0 | 3 => 3 | 4 => 4 | 22 => 32 | 23 => 109 | 25 => 110 | n => n, fun n => n⟩
theorem laysC : SlLaysH0.n8 Tryz.prog renC where
  mixed := by kernel_rfl
  f6 := ⟨"slices.IndexFunc[[]budwood/api.Page,budwood/api.Page]", by decide, Tryz.func92.trans (congrArg some (by kernel_rfl))⟩
  f8 := ⟨"slices.ContainsFunc[[]budwood/api.Page,budwood/api.Page]", by decide, Tryz.func57.trans (congrArg some (by kernel_rfl))⟩
  t0 := Tryz.underlying0
  a0 := Tryz.isAgg0
  z0 := Tryz.sizeOf0
  v0 := Tryz.zeroValue0
  t3 := Tryz.underlying3
  a3 := Tryz.isAgg3
  z3 := Tryz.sizeOf3
  v3 := Tryz.zeroValue3
  t4 := Tryz.underlying4
  a4 := Tryz.isAgg4
  z4 := Tryz.sizeOf4
  v4 := Tryz.zeroValue4
  t22 := Tryz.underlying32
  a22 := Tryz.isAgg32
  z22 := Tryz.sizeOf32
  v22 := Tryz.zeroValue32
  t25 := Tryz.underlying110
  a25 := Tryz.isAgg110
  z25 := Tryz.sizeOf110
  v25 := Tryz.zeroValue110
/-- slices.ContainsFunc over a stretch of pages. -/
theorem contains_c (p : Page → Bool) (g : Nat) (lb : Array Value) (eg : ∀ args w, (callFunc g args).run Tryz.prog w = .ok (.enter g args) w) (h off n c : Nat) (T : List Page) (w : World)
    (hp : PredBelow Tryz.prog g lb Page.v p w) (hT : Pgs w h T) (hn : off + n ≤ T.length) (hbig : n ≤ 9223372036854775807) :
    Calls Tryz.prog 57 #[.slice (some ⟨h, off * 5, none⟩) n c, .func (.func g) #[] lb] w fun e w' => e = .returned (.bool (((T.drop off).take n).any p)) ∧ Below w.heap.size w w' := by
  have key := AnyQ.slices_ContainsFunc laysC 5 Tryz.isAgg109 Tryz.sizeOf109 Page.c (fun _ => rfl) p g lb eg h (off * 5) n c (T.drop off) w hp (by simp; omega) hbig hT.lt
    (fun j hj i v hi => by
      have hj' : off + j < T.length := by simp at hj; omega
      have e : (T.drop off)[j]! = T[off + j]! := by simp [List.getElem!_eq_getElem?_getD]
      rw [e] at hi
      have hi5 : i < 5 := by
        rcases Nat.lt_or_ge i 5 with q | q
        · exact q
        · rw [List.getElem?_eq_none (by show 5 ≤ i; exact q)] at hi; cases hi
      have := hT.cells ((off + j) * 5 + i) v (by rw [flat_at T _ hj' i hi5]; exact hi)
      rw [show off * 5 + j * 5 + i = (off + j) * 5 + i by omega]
      exact this)
  exact key
/-- What a row of the call's own holds, as pages. -/
theorem Pgs.own {w : World} {base : Nat} {e : TypeId} {v : Value} {T : List Page} (ho : w.ownsRow base e 5 v T.length (flat T)) (hv : v ≠ .slice none 0 0) : ∃ h c, v = .slice (some ⟨h, 0, none⟩) T.length c ∧ base ≤ h ∧ Pgs w h T ∧ T.length ≤ c := by
  obtain ⟨hl, ⟨rfl, _⟩ | ⟨g, cap, cur, rfl, hg, hb, hn, hm, hs, hx⟩⟩ := ho
  · exact absurd rfl hv
  refine ⟨g, cap, rfl, hg, ⟨Blk.lt hb, fun j u hj => ?_, fun o => Blk.frozen hb o⟩, hn⟩
  rw [Blk.cell hb j]
  rw [← hx, List.getElem?_take] at hj
  split at hj
  · rw [← hj]; simp
  · cases hj
end Go.Proofs.YthnbdeibjbicpaaGreat.PM
