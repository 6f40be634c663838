/- What a relocation, a place and a row of words that come in are. No condition. -/
import Derived.Test.YtgnminoiddnheaaFrame
import Derived.Test.YtgnminoiddnheaaBase
import Derived.ChangeSlices
namespace Go.Proofs.Ytgnminoiddnheaa.Frame
open Go.Joins Go.ChangeShapes Go.WideShapes Go.RowKit Go.Deep
section
variable {H : Type} {enc : TypeId × Value → H} {w : World} {base : Nat} {held : Bool} {r : Reach} {b0 : Nat} {v : Value} {d : DataW H} {p : List MemPlace}
theorem open_words (hv : Value.okWide Try.prog w r b0 56 v) (h : DataW.Trod enc Try.prog w base (fun _ => true) held 56 v d p) :
    v = .slice none 0 0 ∨ ∃ (a : Addr) (len cap : Nat), v = .slice (some a) len cap ∧ ∀ n, n < len → ∃ z : Int, w.cell? (a.add n) = some (.int .u32 z) := by
  obtain ⟨a0, len, cap, rfl⟩ := okWide_slice Try.underlying56 hv
  obtain ⟨fuel, hf⟩ := h
  rcases open_ints Try.underlying56 Try.underlying34 (by kernel_rfl) hf with ⟨hcs, hx⟩ | ⟨a, len', cap', zs, hcs, _, hl, hm, hz, hx, hcell, hwz⟩
  · left
    simp [Value.cells] at hcs
    obtain ⟨rfl, rfl, rfl⟩ := hcs
    rfl
  · right
    simp [Value.cells] at hcs
    obtain ⟨rfl, rfl, rfl⟩ := hcs
    simp only [if_true] at hz
    exact ⟨a, len, cap, rfl, fun n hn => ⟨_, hcell n (by omega)⟩⟩
variable {spare : Nat → Bool}
theorem open_reloc (hv : Value.okWide Try.prog w r b0 53 v) (h : DataW.Trod enc Try.prog w base spare held 53 v d p) :
    ∃ k t n : Nat, v = .agg #[.int .u8 (k : Int), .int .u16 (t : Int), .int .u16 (n : Int)] ∧ n < 65536 := by
  obtain ⟨v0, v1, v2, y0, y1, y2, n, rfl, _, _, h0, h1, h2⟩ := open_agg3 Try.underlying53 (by kernel_rfl) (by kernel_rfl) hv h
  obtain ⟨a0, e0, _, w0⟩ := DataW.trod_int (k := .u8) (by kernel_rfl) h0
  obtain ⟨a1, e1, _, w1⟩ := DataW.trod_int (k := .u16) (by kernel_rfl) h1
  obtain ⟨a2, e2, _, w2⟩ := DataW.trod_int (k := .u16) (by kernel_rfl) h2
  simp at e0 e1 e2
  subst e0 e1 e2
  obtain ⟨a0, rfl⟩ := Int.eq_ofNat_of_zero_le (bounds_u8 w0).1
  obtain ⟨a1, rfl⟩ := Int.eq_ofNat_of_zero_le (bounds_u16 w1).1
  have b2 := bounds_u16 w2
  obtain ⟨a2, rfl⟩ := Int.eq_ofNat_of_zero_le b2.1
  exact ⟨a0, a1, a2, rfl, by omega⟩
theorem open_place (hv : Value.okWide Try.prog w r b0 55 v) (h : DataW.Trod enc Try.prog w base spare held 55 v d p) :
    ∃ pc pd : Nat, v = .agg #[.int .u32 (pc : Int), .int .u32 (pd : Int)] ∧ pc < 4294967296 ∧ pd < 4294967296 := by
  obtain ⟨v0, v1, y0, y1, n, rfl, _, _, h0, h1⟩ := open_agg2 Try.underlying55 (by kernel_rfl) (by kernel_rfl) hv h
  obtain ⟨a0, e0, _, w0⟩ := DataW.trod_int (k := .u32) (by kernel_rfl) h0
  obtain ⟨a1, e1, _, w1⟩ := DataW.trod_int (k := .u32) (by kernel_rfl) h1
  simp at e0 e1
  subst e0 e1
  have b0 := bounds_u32 w0
  have b1 := bounds_u32 w1
  obtain ⟨a0, rfl⟩ := Int.eq_ofNat_of_zero_le b0.1
  obtain ⟨a1, rfl⟩ := Int.eq_ofNat_of_zero_le b1.1
  exact ⟨a0, a1, rfl, by omega, by omega⟩
end
end Go.Proofs.Ytgnminoiddnheaa.Frame
