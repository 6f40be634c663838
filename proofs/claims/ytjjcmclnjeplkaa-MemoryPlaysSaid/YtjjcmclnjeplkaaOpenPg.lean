/- A page that comes in by value, and a row of calls, opened. No condition. -/
import Derived.Test.YtjjcmclnjeplkaaFrame
import Derived.Test.YtjjcmclnjeplkaaBase
set_option linter.unusedVariables false
set_option linter.unusedSimpArgs false
namespace Go.Proofs.Ytjjcmclnjeplkaa.Frame
open Go.Joins Go.ChangeShapes Go.WideShapes Go.RowKit Go.Deep
section
variable {H : Type} {enc : TypeId × Value → H} {P : Program} {w : World} {base : Nat} {spare : Nat → Bool} {held : Bool}
theorem open_agg5 {r : Reach} {b0 : Nat} {t : TypeId} {f0 f1 f2 f3 f4 : Field} {v : Value} {d : DataW H} {p : List MemPlace} (hs : P.underlying t = some (.struct #[f0, f1, f2, f3, f4])) (hone : oneCellFields P #[f0, f1, f2, f3, f4] = true) (hC : P.cellsOf t = 5)
    (hv : Value.okWide P w r b0 t v) (h : DataW.Trod enc P w base spare held t v d p) :
    ∃ (v0 v1 v2 v3 v4 : Value) (y0 y1 y2 y3 y4 : DataW H × List MemPlace) (n : Nat), v = .agg #[v0, v1, v2, v3, v4] ∧
      DataW.trod enc P w base spare held n f0.type [v0] = some y0 ∧ DataW.trod enc P w base spare held n f1.type [v1] = some y1 ∧ DataW.trod enc P w base spare held n f2.type [v2] = some y2 ∧ DataW.trod enc P w base spare held n f3.type [v3] = some y3 ∧ DataW.trod enc P w base spare held n f4.type [v4] = some y4 := by
  obtain ⟨cs, rfl, hsz⟩ := okWide_struct hs hv
  obtain ⟨l⟩ := cs
  match l, hsz.trans hC with
  | [c0, c1, c2, c3, c4], _ =>
    obtain ⟨fuel, hf⟩ := h
    obtain ⟨xs, n, _, hx, _, hlen, hg⟩ := DataW.trod_struct hs hf
    obtain ⟨o0, k0⟩ := hone_of hone 0 f0 rfl
    obtain ⟨o1, k1⟩ := hone_of hone 1 f1 rfl
    obtain ⟨o2, k2⟩ := hone_of hone 2 f2 rfl
    obtain ⟨o3, k3⟩ := hone_of hone 3 f3 rfl
    obtain ⟨o4, k4⟩ := hone_of hone 4 f4 rfl
    match xs, hlen with
    | [y0, y1, y2, y3, y4], _ =>
      exact ⟨c0, c1, c2, c3, c4, y0, y1, y2, y3, y4, n, rfl, by simpa [Value.cells, o0, k0] using hg 0 f0 rfl, by simpa [Value.cells, o1, k1] using hg 1 f1 rfl, by simpa [Value.cells, o2, k2] using hg 2 f2 rfl, by simpa [Value.cells, o3, k3] using hg 3 f3 rfl, by simpa [Value.cells, o4, k4] using hg 4 f4 rfl⟩
end
set_option maxRecDepth 100000 in
theorem open_page {H : Type} {enc : TypeId × Value → H} {w : World} {base : Nat} {spare : Nat → Bool} {held : Bool} {r : Reach} {b0 : Nat} {v : Value} {d : DataW H} {p : List MemPlace}
    (hv : Value.okWide Try.prog w r b0 26 v) (h : DataW.Trod enc Try.prog w base spare held 26 v d p) :
    ∃ (s : Nat) (x wr : Bool) (ow ep : Nat), v = .agg #[.int .u8 (s : Int), .bool x, .bool wr, .int .u16 (ow : Int), .int .u64 (ep : Int)] := by
  obtain ⟨v0, v1, v2, v3, v4, y0, y1, y2, y3, y4, n, rfl, h0, h1, h2, h3, h4⟩ := open_agg5 Try.underlying26 (by kernel_rfl) (by kernel_rfl) hv h
  obtain ⟨a0, e0, _, w0⟩ := DataW.trod_int (k := .u8) Try.underlying22 h0
  obtain ⟨a1, e1, _⟩ := DataW.trod_bool Try.underlying4 h1
  obtain ⟨a2, e2, _⟩ := DataW.trod_bool Try.underlying4 h2
  obtain ⟨a3, e3, _, w3⟩ := DataW.trod_int (k := .u16) Try.underlying23 h3
  obtain ⟨a4, e4, _, w4⟩ := DataW.trod_int (k := .u64) Try.underlying24 h4
  simp at e0 e1 e2 e3 e4
  subst e0 e1 e2 e3 e4
  obtain ⟨a0, rfl⟩ := Int.eq_ofNat_of_zero_le (bounds_u8 w0).1
  obtain ⟨a3, rfl⟩ := Int.eq_ofNat_of_zero_le (bounds_u16 w3).1
  obtain ⟨a4, rfl⟩ := Int.eq_ofNat_of_zero_le (bounds_u64 w4).1
  exact ⟨a0, a1, a2, a3, a4, rfl⟩
/-- A call, its five cells. -/
structure ActC (w : World) (b o : Nat) (k : Nat) (fr n : Int) (ow ep : Nat) : Prop where
  c0 : w.cell? ⟨b, o, none⟩ = some (.int .u8 (k : Int))
  c1 : w.cell? ⟨b, o + 1, none⟩ = some (.int .i64 fr)
  c2 : w.cell? ⟨b, o + 2, none⟩ = some (.int .i64 n)
  c3 : w.cell? ⟨b, o + 3, none⟩ = some (.int .u16 (ow : Int))
  c4 : w.cell? ⟨b, o + 4, none⟩ = some (.int .u64 (ep : Int))
theorem spot_none {w : World} {a : Addr} {v : Value} (h : w.cell? a = some v) : a.spot = none := by
  unfold World.cell? at h
  split at h
  · split at h
    · cases h
    · rename_i q; simpa using q
  · cases h
theorem add_at (b o j : Nat) : (⟨b, o, none⟩ : Addr).add j = ⟨b, o + j, none⟩ := Addr.add_lit b o j
theorem five_cells {w : World} {base : Nat} {a : Addr} {cs : List Value} (h : w.cells? base a 5 = some cs) (hb : base ≤ a.block) :
    ∃ x0 x1 x2 x3 x4, cs = [x0, x1, x2, x3, x4] ∧ a.spot = none ∧ w.cell? ⟨a.block, a.off, none⟩ = some x0 ∧ w.cell? ⟨a.block, a.off + 1, none⟩ = some x1 ∧ w.cell? ⟨a.block, a.off + 2, none⟩ = some x2 ∧ w.cell? ⟨a.block, a.off + 3, none⟩ = some x3 ∧ w.cell? ⟨a.block, a.off + 4, none⟩ = some x4 := by
  unfold World.cells? at h
  rw [if_pos hb] at h
  simp only [List.range_succ, List.range_zero, List.nil_append, List.cons_append, List.mapM_cons, List.mapM_nil, Option.bind_eq_bind, Option.pure_def, Option.bind_eq_some_iff, Option.some.injEq] at h
  obtain ⟨x0, k0, t0, ⟨x1, k1, t1, ⟨x2, k2, t2, ⟨x3, k3, t3, ⟨x4, k4, t4, rfl, rfl⟩, rfl⟩, rfl⟩, rfl⟩, rfl⟩ := h
  rw [Addr.add_zero'] at k0
  have hs := spot_none k0
  obtain ⟨b, o, sp⟩ := a
  simp only at hs
  subst hs
  rw [add_at] at k1 k2 k3 k4
  exact ⟨x0, x1, x2, x3, x4, rfl, rfl, k0, k1, k2, k3, k4⟩
set_option maxRecDepth 100000 in
theorem open_acts {H : Type} {enc : TypeId × Value → H} {w : World} {base : Nat} {held : Bool} {r : Reach} {b0 : Nat} {v : Value} {d : DataW H} {p : List MemPlace}
    (hv : Value.okWide Try.prog w r b0 41 v) (h : DataW.Trod enc Try.prog w base (fun _ => true) held 41 v d p) :
    ∃ (src : Option Addr) (len cap : Nat), v = .slice src len cap ∧ ∀ i, i < len → ∃ b o, src = some ⟨b, o, none⟩ ∧ b < w.heap.size ∧ ∃ (k : Nat) (fr n : Int) (ow ep : Nat), ActC w b (o + i * 5) k fr n ow ep := by
  obtain ⟨a0, len, cap, rfl⟩ := okWide_slice Try.underlying41 hv
  obtain ⟨fuel, hf⟩ := h
  rcases DataW.trod_slice Try.underlying41 hf with ⟨hcs, hx⟩ | ⟨a, len', cap', elems, rest, n, hfu, hcs, hx, hba, hlc, hcm, hel, hcell, _⟩
  · simp [Value.cells] at hcs
    obtain ⟨rfl, rfl, rfl⟩ := hcs
    exact ⟨none, 0, 0, rfl, fun i hi => by omega⟩
  · simp [Value.cells] at hcs
    obtain ⟨rfl, rfl, rfl⟩ := hcs
    refine ⟨some a, len, cap, rfl, fun i hi => ?_⟩
    have hC : (Try.prog).cellsOf 49 = 5 := by kernel_rfl
    have key := hcell i hi
    rw [List.getElem?_eq_getElem (by omega), hC] at key
    obtain ⟨cs, hcs, htr⟩ := Option.bind_eq_some_iff.1 key
    have key0 := hcell 0 (by omega)
    rw [List.getElem?_eq_getElem (by omega), hC, Nat.zero_mul, Addr.add_zero'] at key0
    obtain ⟨cs0, hcs0, _⟩ := Option.bind_eq_some_iff.1 key0
    obtain ⟨_, _, _, _, _, _, hsp, _⟩ := five_cells hcs0 hba
    obtain ⟨b, o, sp⟩ := a
    simp only at hsp hba
    subst hsp
    rw [add_at] at hcs
    obtain ⟨x0, x1, x2, x3, x4, rfl, _, k0, k1, k2, k3, k4⟩ := five_cells hcs hba
    simp only at k0 k1 k2 k3 k4
    obtain ⟨xs, m, _, _, _, hlen, hg⟩ := DataW.trod_struct Try.underlying49 htr
    match xs, hlen with
    | [y0, y1, y2, y3, y4], _ =>
      have e5 : (Try.prog).cellsOf 5 = 1 := by kernel_rfl
      have e3 : (Try.prog).cellsOf 3 = 1 := by kernel_rfl
      have e23 : (Try.prog).cellsOf 23 = 1 := by kernel_rfl
      have e24 : (Try.prog).cellsOf 24 = 1 := by kernel_rfl
      have h0 : DataW.trod enc Try.prog w base (fun _ => true) held m 5 [x0] = some y0 := by simpa [e5] using hg 0 _ rfl
      have h1 : DataW.trod enc Try.prog w base (fun _ => true) held m 3 [x1] = some y1 := by simpa [e3] using hg 1 _ rfl
      have h2 : DataW.trod enc Try.prog w base (fun _ => true) held m 3 [x2] = some y2 := by simpa [e3] using hg 2 _ rfl
      have h3 : DataW.trod enc Try.prog w base (fun _ => true) held m 23 [x3] = some y3 := by simpa [e23] using hg 3 _ rfl
      have h4 : DataW.trod enc Try.prog w base (fun _ => true) held m 24 [x4] = some y4 := by simpa [e24] using hg 4 _ rfl
      obtain ⟨a0, q0, _, w0⟩ := DataW.trod_int (k := .u8) Try.underlying5 h0
      obtain ⟨a1, q1, _, w1⟩ := DataW.trod_int (k := .i64) Try.underlying3 h1
      obtain ⟨a2, q2, _, w2⟩ := DataW.trod_int (k := .i64) Try.underlying3 h2
      obtain ⟨a3, q3, _, w3⟩ := DataW.trod_int (k := .u16) Try.underlying23 h3
      obtain ⟨a4, q4, _, w4⟩ := DataW.trod_int (k := .u64) Try.underlying24 h4
      simp at q0 q1 q2 q3 q4
      subst q0 q1 q2 q3 q4
      obtain ⟨a0, rfl⟩ := Int.eq_ofNat_of_zero_le (bounds_u8 w0).1
      obtain ⟨a3, rfl⟩ := Int.eq_ofNat_of_zero_le (bounds_u16 w3).1
      obtain ⟨a4, rfl⟩ := Int.eq_ofNat_of_zero_le (bounds_u64 w4).1
      exact ⟨b, o, rfl, World.block_lt_of_cell? _ _ k0, a0, a1, a2, a3, a4, ⟨k0, k1, k2, k3, k4⟩⟩
end Go.Proofs.Ytjjcmclnjeplkaa.Frame
