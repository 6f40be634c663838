/- A call on a memory, by value, and a row of such calls, opened. No condition. -/
import Derived.Test.YtjjcmclnjeplkaaOpenPg
import Derived.Test.YtjjcmclnjeplkaaLawM5
set_option linter.unusedVariables false
set_option linter.unusedSimpArgs false
namespace Go.Proofs.Ytjjcmclnjeplkaa.Frame
open Go.Joins Go.ChangeShapes Go.WideShapes Go.RowKit Go.Deep
/-- A call on a memory, its seven cells. -/
structure ActC8 (w : World) (b o : Nat) (a : PM.Act8) : Prop where
  c0 : w.cell? ⟨b, o, none⟩ = some (.int .u8 (a.k : Int))
  c1 : w.cell? ⟨b, o + 1, none⟩ = some (.int .u32 (a.at_ : Int))
  c2 : w.cell? ⟨b, o + 2, none⟩ = some (.int .u32 (a.wd : Int))
  c3 : w.cell? ⟨b, o + 3, none⟩ = some (.int .i64 a.pg)
  c4 : w.cell? ⟨b, o + 4, none⟩ = some (.int .i64 a.n)
  c5 : w.cell? ⟨b, o + 5, none⟩ = some (.int .u16 (a.ow : Int))
  c6 : w.cell? ⟨b, o + 6, none⟩ = some (.int .u64 (a.ep : Int))
  hx : a.at_ < 4294967296
  hw : a.wd < 4294967296
  ho : a.ow < 65536
theorem seven_cells {w : World} {base : Nat} {a : Addr} {cs : List Value} (h : w.cells? base a 7 = some cs) (hb : base ≤ a.block) :
    ∃ x0 x1 x2 x3 x4 x5 x6, cs = [x0, x1, x2, x3, x4, x5, x6] ∧ a.spot = none ∧ w.cell? ⟨a.block, a.off, none⟩ = some x0 ∧ w.cell? ⟨a.block, a.off + 1, none⟩ = some x1 ∧ w.cell? ⟨a.block, a.off + 2, none⟩ = some x2 ∧ w.cell? ⟨a.block, a.off + 3, none⟩ = some x3 ∧ w.cell? ⟨a.block, a.off + 4, none⟩ = some x4 ∧ w.cell? ⟨a.block, a.off + 5, none⟩ = some x5 ∧ w.cell? ⟨a.block, a.off + 6, none⟩ = some x6 := by
  unfold World.cells? at h
  rw [if_pos hb] at h
  simp only [List.range_succ, List.range_zero, List.nil_append, List.cons_append, List.mapM_cons, List.mapM_nil, Option.bind_eq_bind, Option.pure_def, Option.bind_eq_some_iff, Option.some.injEq] at h
  obtain ⟨x0, k0, t0, ⟨x1, k1, t1, ⟨x2, k2, t2, ⟨x3, k3, t3, ⟨x4, k4, t4, ⟨x5, k5, t5, ⟨x6, k6, t6, rfl, rfl⟩, rfl⟩, rfl⟩, rfl⟩, rfl⟩, rfl⟩, rfl⟩ := h
  rw [Addr.add_zero'] at k0
  have hs := spot_none k0
  obtain ⟨b, o, sp⟩ := a
  simp only at hs
  subst hs
  rw [add_at] at k1 k2 k3 k4 k5 k6
  exact ⟨x0, x1, x2, x3, x4, x5, x6, rfl, rfl, k0, k1, k2, k3, k4, k5, k6⟩
set_option maxRecDepth 100000 in
/-- The cells of a call, opened. -/
theorem act_of {H : Type} {enc : TypeId × Value → H} {w : World} {base : Nat} {spare : Nat → Bool} {held : Bool} {m : Nat} {x0 x1 x2 x3 x4 x5 x6 : Value} {y : DataW H × List MemPlace}
    (htr : DataW.trod enc Try.prog w base spare held (m + 1) 81 [x0, x1, x2, x3, x4, x5, x6] = some y) :
    ∃ a : PM.Act8, x0 = .int .u8 (a.k : Int) ∧ x1 = .int .u32 (a.at_ : Int) ∧ x2 = .int .u32 (a.wd : Int) ∧ x3 = .int .i64 a.pg ∧ x4 = .int .i64 a.n ∧ x5 = .int .u16 (a.ow : Int) ∧ x6 = .int .u64 (a.ep : Int) ∧ a.at_ < 4294967296 ∧ a.wd < 4294967296 ∧ a.ow < 65536 := by
  obtain ⟨xs, m, _, _, _, hlen, hg⟩ := DataW.trod_struct Try.underlying81 htr
  match xs, hlen with
  | [y0, y1, y2, y3, y4, y5, y6], _ =>
    have e0 : (Try.prog).cellsOf 5 = 1 := by kernel_rfl
    have e1 : (Try.prog).cellsOf 58 = 1 := by kernel_rfl
    have e3 : (Try.prog).cellsOf 3 = 1 := by kernel_rfl
    have e5 : (Try.prog).cellsOf 23 = 1 := by kernel_rfl
    have e6 : (Try.prog).cellsOf 24 = 1 := by kernel_rfl
    have h0 : DataW.trod enc Try.prog w base spare held m 5 [x0] = some y0 := by simpa [e0] using hg 0 _ rfl
    have h1 : DataW.trod enc Try.prog w base spare held m 58 [x1] = some y1 := by simpa [e1] using hg 1 _ rfl
    have h2 : DataW.trod enc Try.prog w base spare held m 58 [x2] = some y2 := by simpa [e1] using hg 2 _ rfl
    have h3 : DataW.trod enc Try.prog w base spare held m 3 [x3] = some y3 := by simpa [e3] using hg 3 _ rfl
    have h4 : DataW.trod enc Try.prog w base spare held m 3 [x4] = some y4 := by simpa [e3] using hg 4 _ rfl
    have h5 : DataW.trod enc Try.prog w base spare held m 23 [x5] = some y5 := by simpa [e5] using hg 5 _ rfl
    have h6 : DataW.trod enc Try.prog w base spare held m 24 [x6] = some y6 := by simpa [e6] using hg 6 _ rfl
    obtain ⟨a0, q0, _, w0⟩ := DataW.trod_int (k := .u8) Try.underlying5 h0
    obtain ⟨a1, q1, _, w1⟩ := DataW.trod_int (k := .u32) Try.underlying58 h1
    obtain ⟨a2, q2, _, w2⟩ := DataW.trod_int (k := .u32) Try.underlying58 h2
    obtain ⟨a3, q3, _, w3⟩ := DataW.trod_int (k := .i64) Try.underlying3 h3
    obtain ⟨a4, q4, _, w4⟩ := DataW.trod_int (k := .i64) Try.underlying3 h4
    obtain ⟨a5, q5, _, w5⟩ := DataW.trod_int (k := .u16) Try.underlying23 h5
    obtain ⟨a6, q6, _, w6⟩ := DataW.trod_int (k := .u64) Try.underlying24 h6
    simp at q0 q1 q2 q3 q4 q5 q6
    subst q0 q1 q2 q3 q4 q5 q6
    have b1 := bounds_u32 w1
    have b2 := bounds_u32 w2
    have b5 := bounds_u16 w5
    obtain ⟨a0, rfl⟩ := Int.eq_ofNat_of_zero_le (bounds_u8 w0).1
    obtain ⟨a1, rfl⟩ := Int.eq_ofNat_of_zero_le b1.1
    obtain ⟨a2, rfl⟩ := Int.eq_ofNat_of_zero_le b2.1
    obtain ⟨a5, rfl⟩ := Int.eq_ofNat_of_zero_le b5.1
    obtain ⟨a6, rfl⟩ := Int.eq_ofNat_of_zero_le (bounds_u64 w6).1
    exact ⟨⟨a0, a1, a2, a3, a4, a5, a6⟩, rfl, rfl, rfl, rfl, rfl, rfl, rfl, by show a1 < 4294967296; omega, by show a2 < 4294967296; omega, by show a5 < 65536; omega⟩
/-- A row of calls that came in. -/
def Acts8 (w : World) (src : Option Addr) (len : Nat) : Prop := ∀ i, i < len → ∃ b o, src = some ⟨b, o, none⟩ ∧ b < w.heap.size ∧ ∃ a : PM.Act8, ActC8 w b (o + i * 7) a
set_option maxRecDepth 100000 in
theorem open_acts8 {H : Type} {enc : TypeId × Value → H} {w : World} {base : Nat} {held : Bool} {r : Reach} {b0 : Nat} {v : Value} {d : DataW H} {p : List MemPlace}
    (hv : Value.okWide Try.prog w r b0 77 v) (h : DataW.Trod enc Try.prog w base (fun _ => true) held 77 v d p) :
    ∃ (src : Option Addr) (len cap : Nat), v = .slice src len cap ∧ Acts8 w src len := by
  obtain ⟨a0, len, cap, rfl⟩ := okWide_slice Try.underlying77 hv
  obtain ⟨fuel, hf⟩ := h
  rcases DataW.trod_slice Try.underlying77 hf with ⟨hcs, hx⟩ | ⟨a, len', cap', elems, rest, n, hfu, hcs, hx, hba, hlc, hcm, hel, hcell, _⟩
  · simp [Value.cells] at hcs
    obtain ⟨rfl, rfl, rfl⟩ := hcs
    exact ⟨none, 0, 0, rfl, fun i hi => by omega⟩
  · simp [Value.cells] at hcs
    obtain ⟨rfl, rfl, rfl⟩ := hcs
    refine ⟨some a, len, cap, rfl, fun i hi => ?_⟩
    have hC : (Try.prog).cellsOf 81 = 7 := by kernel_rfl
    have key := hcell i hi
    rw [List.getElem?_eq_getElem (by omega), hC] at key
    obtain ⟨cs, hcs, htr⟩ := Option.bind_eq_some_iff.1 key
    have key0 := hcell 0 (by omega)
    rw [List.getElem?_eq_getElem (by omega), hC, Nat.zero_mul, Addr.add_zero'] at key0
    obtain ⟨cs0, hcs0, _⟩ := Option.bind_eq_some_iff.1 key0
    obtain ⟨_, _, _, _, _, _, _, _, hsp, _⟩ := seven_cells hcs0 hba
    obtain ⟨b, o, sp⟩ := a
    simp only at hsp hba
    subst hsp
    rw [add_at] at hcs
    obtain ⟨x0, x1, x2, x3, x4, x5, x6, rfl, _, k0, k1, k2, k3, k4, k5, k6⟩ := seven_cells hcs hba
    simp only at k0 k1 k2 k3 k4 k5 k6
    cases n with
    | zero => simp [DataW.trod] at htr
    | succ n =>
      obtain ⟨c, rfl, rfl, rfl, rfl, rfl, rfl, rfl, hx, hw, ho⟩ := act_of htr
      exact ⟨b, o, rfl, World.block_lt_of_cell? _ _ k0, c, ⟨k0, k1, k2, k3, k4, k5, k6, hx, hw, ho⟩⟩
set_option maxRecDepth 100000 in
theorem open_act8 {H : Type} {enc : TypeId × Value → H} {w : World} {base : Nat} {spare : Nat → Bool} {held : Bool} {r : Reach} {b0 : Nat} {v : Value} {d : DataW H} {p : List MemPlace}
    (hv : Value.okWide Try.prog w r b0 81 v) (h : DataW.Trod enc Try.prog w base spare held 81 v d p) :
    ∃ a : PM.Act8, v = PM.act8v a ∧ a.at_ < 4294967296 ∧ a.wd < 4294967296 ∧ a.ow < 65536 := by
  obtain ⟨cs, rfl, hsz⟩ := okWide_struct Try.underlying81 hv
  obtain ⟨l⟩ := cs
  have hC : (Try.prog).cellsOf 81 = 7 := by kernel_rfl
  match l, hsz.trans hC with
  | [c0, c1, c2, c3, c4, c5, c6], _ =>
    obtain ⟨fuel, hf⟩ := h
    cases fuel with
    | zero => simp [DataW.trod] at hf
    | succ n =>
      obtain ⟨c, rfl, rfl, rfl, rfl, rfl, rfl, rfl, hx, hw, ho⟩ := act_of (by simpa [Value.cells] using hf)
      exact ⟨c, rfl, hx, hw, ho⟩
end Go.Proofs.Ytjjcmclnjeplkaa.Frame
