/- A hart that comes in by value, opened. No condition. -/
import Derived.Test.YthnbdeibjbicpaaGreatFrame
import Derived.Test.YthnbdeibjbicpaaGreatHartG
import Derived.SizedLaws
set_option linter.unusedVariables false
set_option linter.unusedSimpArgs false
namespace Go.Proofs.YthnbdeibjbicpaaGreat.Frame
open Go.Joins Go.ChangeShapes Go.WideShapes Go.RowKit Go.Deep
theorem spot_none9 {w : World} {a : Addr} {v : Value} (h : w.cell? a = some v) : a.spot = none := by
  unfold World.cell? at h
  split at h
  · split at h
    · cases h
    · rename_i q; simpa using q
  · cases h
theorem one_cell9 {w : World} {base : Nat} {a : Addr} {cs : List Value} (h : w.cells? base a 1 = some cs) (hb : base ≤ a.block) : ∃ x, cs = [x] ∧ w.cell? a = some x := by
  unfold World.cells? at h
  rw [if_pos hb] at h
  simp only [List.range_succ, List.range_zero, List.nil_append, List.mapM_cons, List.mapM_nil, Option.bind_eq_bind, Option.pure_def, Option.bind_eq_some_iff, Option.some.injEq] at h
  obtain ⟨x, k, t, rfl, rfl⟩ := h
  rw [Addr.add_zero'] at k
  exact ⟨x, rfl, k⟩
theorem add_block9 (a : Addr) (i : Nat) : (a.add i).block = a.block := by
  unfold Addr.add
  split
  · rfl
  · first | rfl | (split <;> rfl)
set_option maxRecDepth 100000 in
/-- A row of words. -/
theorem open_words {H : Type} {enc : TypeId × Value → H} {w : World} {base : Nat} {held : Bool} {m : Nat} {v : Value} {y : DataW H × List MemPlace}
    (hsl : ∃ a0 len cap, v = .slice a0 len cap) (h : DataW.trod enc Tryz.prog w base (fun _ => true) held m 22 [v] = some y) :
    ∃ (src : Option Addr) (S : List Nat) (cap : Nat), v = .slice src S.length cap ∧ PM.Stk w src S ∧ S.length ≤ maxLen ∧ (∀ i, i < S.length → S[i]! < 4294967296) ∧ (S.length = 0 ∨ ∃ n ∈ DataW.weights Tryz.prog 22 y.1, 4 * S.length ≤ n) := by
  obtain ⟨a0, len, cap, rfl⟩ := hsl
  rcases DataW.trod_slice Tryz.underlying22 h with ⟨hcs, hx⟩ | ⟨a, len', cap', elems, rest, n, hfu, hcs, hx, hba, hlc, hcm, hel, hcell, _⟩
  · simp at hcs
    obtain ⟨rfl, rfl, rfl⟩ := hcs
    exact ⟨none, [], 0, rfl, (fun i hi => by cases hi), (by simp), (fun i hi => by cases hi), .inl rfl⟩
  · simp at hcs
    obtain ⟨rfl, rfl, rfl⟩ := hcs
    have hC : (Tryz.prog).cellsOf 23 = 1 := by kernel_rfl
    have key : ∀ i, i < len → ∃ x : Nat, x < 4294967296 ∧ w.cell? (a.add i) = some (.int .u32 (x : Int)) := fun i hi => by
      have k := hcell i hi
      rw [List.getElem?_eq_getElem (by omega), hC, Nat.mul_one] at k
      obtain ⟨cs, hcs, htr⟩ := Option.bind_eq_some_iff.1 k
      obtain ⟨x, rfl, hx⟩ := one_cell9 hcs (by rw [add_block9]; exact hba)
      obtain ⟨z, q, _, wz⟩ := DataW.trod_int (k := .u32) Tryz.underlying23 htr
      simp at q
      subst q
      have bz := bounds_u32 wz
      obtain ⟨z, rfl⟩ := Int.eq_ofNat_of_zero_le bz.1
      exact ⟨z, by omega, hx⟩
    refine ⟨some a, (List.range len).map (fun i => if h : i < len then Classical.choose (key i h) else 0), cap, by simp, fun i hi => ?_, by simp; omega, fun i hi => ?_, .inr ⟨(elems.length + rest.length) * 4, ?_, by simp; omega⟩⟩
    · have hi' : i < len := by simpa using hi
      have hk := Classical.choose_spec (key i hi')
      have h0 := Classical.choose_spec (key 0 (by omega))
      have sp : a.spot = none := by
        have := spot_none9 h0.2
        rw [Addr.add_zero'] at this
        exact this
      obtain ⟨b, o, s⟩ := a
      simp only at sp
      subst sp
      have hb := World.block_lt_of_cell? _ _ hk.2
      refine ⟨b, o, rfl, by rw [add_block9] at hb; exact hb, ?_⟩
      rw [List.getElem!_eq_getElem?_getD, List.getElem?_eq_getElem (by simpa using hi)]
      simp only [List.getElem_map, List.getElem_range, dif_pos hi', Option.getD_some]
      rw [← Addr.add_lit]
      exact hk.2
    · have hi' : i < len := by simpa using hi
      rw [List.getElem!_eq_getElem?_getD, List.getElem?_eq_getElem hi]
      simp only [List.getElem_map, List.getElem_range, dif_pos hi', Option.getD_some]
      exact (Classical.choose_spec (key i hi')).1
    · rw [hx]
      have hB : (Tryz.prog).bytesOf 23 = 4 := by kernel_rfl
      simp [DataW.weights, Tryz.underlying22, hB]
set_option maxRecDepth 100000 in
theorem open_hart {H : Type} {enc : TypeId × Value → H} {w : World} {base : Nat} {held : Bool} {r : Reach} {b0 : Nat} {v : Value} {d : DataW H} {p : List MemPlace}
    (hv : Value.okWide Tryz.prog w r b0 30 v) (h : DataW.Trod enc Tryz.prog w base (fun _ => true) held 30 v d p) :
    ∃ (pc : Nat) (R : Nat → Nat) (src : Option Addr) (S : List Nat) (cap why ep home : Nat), v = PM.hv pc R (.slice src S.length cap) why ep home ∧ PM.Stk w src S ∧ S.length ≤ maxLen ∧ pc < 4294967296 ∧ (∀ i, i < 8 → R i < 4294967296) ∧ (∀ i, i < S.length → S[i]! < 4294967296) ∧ (S.length = 0 ∨ ∃ n ∈ DataW.weights Tryz.prog 30 d, 4 * S.length ≤ n) := by
  obtain ⟨cs, rfl, hsz⟩ := okWide_struct Tryz.underlying30 hv
  obtain ⟨l⟩ := cs
  have hC : (Tryz.prog).cellsOf 30 = 13 := by kernel_rfl
  match l, hsz.trans hC with
  | [x0, x1, x2, x3, x4, x5, x6, x7, x8, x9, x10, x11, x12], _ =>
    obtain ⟨fuel, hf⟩ := h
    obtain ⟨xs, m, _, hxs, _, hlen, hg⟩ := DataW.trod_struct Tryz.underlying30 hf
    match xs, hlen with
    | [y0, y1, y2, y3, y4, y5], _ =>
      have e22 : (Tryz.prog).cellsOf 23 = 1 := by kernel_rfl
      have e23 : (Tryz.prog).cellsOf 26 = 8 := by kernel_rfl
      have e24 : (Tryz.prog).cellsOf 22 = 1 := by kernel_rfl
      have e25 : (Tryz.prog).cellsOf 27 = 1 := by kernel_rfl
      have e26 : (Tryz.prog).cellsOf 28 = 1 := by kernel_rfl
      have h0 : DataW.trod enc Tryz.prog w base (fun _ => true) held m 23 [x0] = some y0 := by simpa [e22, Value.cells] using hg 0 _ rfl
      have h1 : DataW.trod enc Tryz.prog w base (fun _ => true) held m 26 [x1, x2, x3, x4, x5, x6, x7, x8] = some y1 := by simpa [e22, e23, Value.cells] using hg 1 _ rfl
      have h2 : DataW.trod enc Tryz.prog w base (fun _ => true) held m 22 [x9] = some y2 := by simpa [e22, e23, e24, Value.cells] using hg 2 _ rfl
      have h3 : DataW.trod enc Tryz.prog w base (fun _ => true) held m 27 [x10] = some y3 := by simpa [e22, e23, e24, e25, Value.cells] using hg 3 _ rfl
      have h4 : DataW.trod enc Tryz.prog w base (fun _ => true) held m 28 [x11] = some y4 := by simpa [e22, e23, e24, e25, e26, Value.cells] using hg 4 _ rfl
      have h5 : DataW.trod enc Tryz.prog w base (fun _ => true) held m 23 [x12] = some y5 := by simpa [e22, e23, e24, e25, e26, Value.cells] using hg 5 _ rfl
      have nat32 : ∀ {m : Nat} {x : Value} {y : DataW H × List MemPlace}, DataW.trod enc Tryz.prog w base (fun _ => true) held m 23 [x] = some y → ∃ n : Nat, x = .int .u32 (n : Int) ∧ n < 4294967296 := fun h => by
        obtain ⟨a, q, _, wa⟩ := DataW.trod_int (k := .u32) Tryz.underlying23 h
        simp at q
        subst q
        have b := bounds_u32 wa
        obtain ⟨a, rfl⟩ := Int.eq_ofNat_of_zero_le b.1
        exact ⟨a, rfl, by omega⟩
      obtain ⟨pc, rfl, hpc⟩ := nat32 h0
      obtain ⟨home, rfl, _⟩ := nat32 h5
      obtain ⟨ys, m', _, _, _, hlen2, hg2⟩ := DataW.trod_array Tryz.underlying26 h1
      rw [e22] at hg2
      match ys, hlen2 with
      | [z0, z1, z2, z3, z4, z5, z6, z7], _ =>
        obtain ⟨r0, rfl, q0⟩ := nat32 (show DataW.trod enc Tryz.prog w base (fun _ => true) held m' 23 [x1] = some z0 from hg2 0 (by decide))
        obtain ⟨r1, rfl, q1⟩ := nat32 (show DataW.trod enc Tryz.prog w base (fun _ => true) held m' 23 [x2] = some z1 from hg2 1 (by decide))
        obtain ⟨r2, rfl, q2⟩ := nat32 (show DataW.trod enc Tryz.prog w base (fun _ => true) held m' 23 [x3] = some z2 from hg2 2 (by decide))
        obtain ⟨r3, rfl, q3⟩ := nat32 (show DataW.trod enc Tryz.prog w base (fun _ => true) held m' 23 [x4] = some z3 from hg2 3 (by decide))
        obtain ⟨r4, rfl, q4⟩ := nat32 (show DataW.trod enc Tryz.prog w base (fun _ => true) held m' 23 [x5] = some z4 from hg2 4 (by decide))
        obtain ⟨r5, rfl, q5⟩ := nat32 (show DataW.trod enc Tryz.prog w base (fun _ => true) held m' 23 [x6] = some z5 from hg2 5 (by decide))
        obtain ⟨r6, rfl, q6⟩ := nat32 (show DataW.trod enc Tryz.prog w base (fun _ => true) held m' 23 [x7] = some z6 from hg2 6 (by decide))
        obtain ⟨r7, rfl, q7⟩ := nat32 (show DataW.trod enc Tryz.prog w base (fun _ => true) held m' 23 [x8] = some z7 from hg2 7 (by decide))
        obtain ⟨why, qw, _, ww⟩ := DataW.trod_int (k := .u8) Tryz.underlying27 h3
        obtain ⟨ep, qe, _, we⟩ := DataW.trod_int (k := .u64) Tryz.underlying28 h4
        simp at qw qe
        subst qw qe
        obtain ⟨why, rfl⟩ := Int.eq_ofNat_of_zero_le (bounds_u8 ww).1
        obtain ⟨ep, rfl⟩ := Int.eq_ofNat_of_zero_le (bounds_u64 we).1
        have hsl : ∃ a0 len cap, x9 = .slice a0 len cap := by
          rcases DataW.trod_slice Tryz.underlying22 h2 with ⟨hcs, _⟩ | ⟨a, len, cap, _, _, _, _, hcs, _⟩
          · exact ⟨none, 0, 0, by simpa using hcs⟩
          · exact ⟨some a, len, cap, by simpa using hcs⟩
        obtain ⟨src, S, cap, rfl, hS, hm, hb, hwt⟩ := open_words hsl h2
        refine ⟨pc, fun i => [r0, r1, r2, r3, r4, r5, r6, r7].getD i 0, src, S, cap, why, ep, home, rfl, hS, hm, hpc, fun i hi => ?_, hb, ?_⟩
        rotate_left
        · rcases hwt with e | ⟨n, hn, hl⟩
          · exact .inl e
          · refine .inr ⟨n, ?_, hl⟩
            have hd : d = .agg ([y0, y1, y2, y3, y4, y5].map (·.1)) := by injection hxs
            rw [hd]
            simp only [DataW.weights, Tryz.underlying30, List.map, DataW.weightsEach, List.mem_append]
            exact .inr (.inr (.inl hn))
        match i, hi with
        | 0, _ => exact q0
        | 1, _ => exact q1
        | 2, _ => exact q2
        | 3, _ => exact q3
        | 4, _ => exact q4
        | 5, _ => exact q5
        | 6, _ => exact q6
        | 7, _ => exact q7
end Go.Proofs.YthnbdeibjbicpaaGreat.Frame

/- How long the stack of a hart that comes in may be. No condition. -/
set_option linter.unusedVariables false
set_option linter.unusedSimpArgs false
namespace Go.Proofs.YthnbdeibjbicpaaGreat.Frame
theorem hart_len {H : Type} {ts : List TypeId} {ds : List (DataW H)} (h : (DataW.weightsEach Tryz.prog ts ds).all (· ≤ reachBytes) = true) {j : Nat} {d : DataW H} {S : List Nat} (ht : ts[j]? = some 30) (hd : ds[j]? = some d)
    (hw : S.length = 0 ∨ ∃ n ∈ DataW.weights Tryz.prog 30 d, 4 * S.length ≤ n) : S.length < 35184372088832 := by
  rcases hw with e | ⟨n, hn, hl⟩
  · omega
  · have h1 := List.all_eq_true.1 h _ (DataW.weights_mem_each ht hd n hn)
    have h2 := reachBytes_lt
    simp only [decide_eq_true_eq] at h1
    omega
end Go.Proofs.YthnbdeibjbicpaaGreat.Frame

/- The land of law09, and a row of registers, that come in, opened. No condition. -/
set_option linter.unusedVariables false
set_option linter.unusedSimpArgs false
namespace Go.Proofs.YthnbdeibjbicpaaGreat.Frame
open Go.Joins Go.ChangeShapes Go.WideShapes Go.RowKit Go.Deep
set_option maxRecDepth 100000 in
theorem open_land {H : Type} {enc : TypeId × Value → H} {w : World} {base : Nat} {held : Bool} {r : Reach} {b0 : Nat} {v : Value} {d : DataW H} {p : List MemPlace}
    (hv : Value.okWide Tryz.prog w r b0 25 v) (h : DataW.Trod enc Tryz.prog w base (fun _ => true) held 25 v d p) :
    ∃ (s1 : Option Addr) (C : List Nat) (c1 : Nat) (s2 : Option Addr) (D : List Nat) (c2 gate : Nat) (ret : Bool), v = .agg #[.slice s1 C.length c1, .slice s2 D.length c2, .int .u32 (gate : Int), .bool ret] ∧ PM.Stk w s1 C ∧ PM.Stk w s2 D ∧ (∀ i, i < C.length → C[i]! < 4294967296) ∧ (∀ i, i < D.length → D[i]! < 4294967296) ∧ gate < 4294967296 := by
  obtain ⟨cs, rfl, hsz⟩ := okWide_struct Tryz.underlying25 hv
  obtain ⟨l⟩ := cs
  have hC : (Tryz.prog).cellsOf 25 = 4 := by kernel_rfl
  match l, hsz.trans hC with
  | [x0, x1, x2, x3], _ =>
    obtain ⟨fuel, hf⟩ := h
    obtain ⟨xs, m, _, hxs, _, hlen, hg⟩ := DataW.trod_struct Tryz.underlying25 hf
    match xs, hlen with
    | [y0, y1, y2, y3], _ =>
      have e22 : (Tryz.prog).cellsOf 23 = 1 := by kernel_rfl
      have e24 : (Tryz.prog).cellsOf 22 = 1 := by kernel_rfl
      have e4 : (Tryz.prog).cellsOf 4 = 1 := by kernel_rfl
      have h0 : DataW.trod enc Tryz.prog w base (fun _ => true) held m 22 [x0] = some y0 := by simpa [e24, Value.cells] using hg 0 _ rfl
      have h1 : DataW.trod enc Tryz.prog w base (fun _ => true) held m 22 [x1] = some y1 := by simpa [e24, Value.cells] using hg 1 _ rfl
      have h2 : DataW.trod enc Tryz.prog w base (fun _ => true) held m 23 [x2] = some y2 := by simpa [e22, e24, Value.cells] using hg 2 _ rfl
      have h3 : DataW.trod enc Tryz.prog w base (fun _ => true) held m 4 [x3] = some y3 := by simpa [e22, e24, e4, Value.cells] using hg 3 _ rfl
      obtain ⟨a, q, _, wa⟩ := DataW.trod_int (k := .u32) Tryz.underlying23 h2
      simp at q
      subst q
      have ba := bounds_u32 wa
      obtain ⟨a, rfl⟩ := Int.eq_ofNat_of_zero_le ba.1
      obtain ⟨b, q, _⟩ := DataW.trod_bool Tryz.underlying4 h3
      simp at q
      subst q
      have hsl : ∀ {x : Value} {y : DataW H × List MemPlace}, DataW.trod enc Tryz.prog w base (fun _ => true) held m 22 [x] = some y → ∃ a0 len cap, x = .slice a0 len cap := fun h2 => by
        rcases DataW.trod_slice Tryz.underlying22 h2 with ⟨hcs, _⟩ | ⟨a, len, cap, _, _, _, _, hcs, _⟩
        · exact ⟨none, 0, 0, by simpa using hcs⟩
        · exact ⟨some a, len, cap, by simpa using hcs⟩
      obtain ⟨s1, C, c1, rfl, k1, _, q1, _⟩ := open_words (hsl h0) h0
      obtain ⟨s2, D, c2, rfl, k2, _, q2, _⟩ := open_words (hsl h1) h1
      exact ⟨s1, C, c1, s2, D, c2, a, b, rfl, k1, k2, q1, q2, by omega⟩
end Go.Proofs.YthnbdeibjbicpaaGreat.Frame

/- A row of bytes that comes in, opened (for HartRuns). No condition. -/
set_option linter.unusedVariables false
set_option linter.unusedSimpArgs false
namespace Go.Proofs.YthnbdeibjbicpaaGreat.PM
open Go.RowKit
/-- A row of bytes. -/
def Byts (w : World) (src : Option Addr) (S : List Nat) : Prop := ∀ i, i < S.length → ∃ b q, src = some ⟨b, q, none⟩ ∧ b < w.heap.size ∧ w.cell? ⟨b, q + i, none⟩ = some (.int .u8 ((S[i]! : Nat) : Int))
theorem Byts.kept {w w' : World} {src : Option Addr} {S : List Nat} (h : Byts w src S) (hb : Below w.heap.size w w') : Byts w' src S := fun i hi => by
  obtain ⟨b, q, e, hl, hc⟩ := h i hi
  exact ⟨b, q, e, Nat.lt_of_lt_of_le hl hb.size, (hb.cell (p := ⟨b, q + i, none⟩) hl).trans hc⟩
end Go.Proofs.YthnbdeibjbicpaaGreat.PM
namespace Go.Proofs.YthnbdeibjbicpaaGreat.Frame
open Go.Joins Go.ChangeShapes Go.WideShapes Go.RowKit Go.Deep
set_option maxRecDepth 100000 in
/-- A row of bytes. -/
theorem open_bytes {H : Type} {enc : TypeId × Value → H} {w : World} {base : Nat} {held : Bool} {m : Nat} {v : Value} {y : DataW H × List MemPlace}
    (hsl : ∃ a0 len cap, v = .slice a0 len cap) (h : DataW.trod enc Tryz.prog w base (fun _ => true) held m 51 [v] = some y) :
    ∃ (src : Option Addr) (S : List Nat) (cap : Nat), v = .slice src S.length cap ∧ PM.Byts w src S ∧ S.length ≤ maxLen ∧ (∀ i, i < S.length → S[i]! < 256) ∧ (S.length = 0 ∨ ∃ n ∈ DataW.weights Tryz.prog 51 y.1, 1 * S.length ≤ n) := by
  obtain ⟨a0, len, cap, rfl⟩ := hsl
  rcases DataW.trod_slice Tryz.underlying51 h with ⟨hcs, hx⟩ | ⟨a, len', cap', elems, rest, n, hfu, hcs, hx, hba, hlc, hcm, hel, hcell, _⟩
  · simp at hcs
    obtain ⟨rfl, rfl, rfl⟩ := hcs
    exact ⟨none, [], 0, rfl, (fun i hi => by cases hi), (by simp), (fun i hi => by cases hi), .inl rfl⟩
  · simp at hcs
    obtain ⟨rfl, rfl, rfl⟩ := hcs
    have hC : (Tryz.prog).cellsOf 5 = 1 := by kernel_rfl
    have key : ∀ i, i < len → ∃ x : Nat, x < 256 ∧ w.cell? (a.add i) = some (.int .u8 (x : Int)) := fun i hi => by
      have k := hcell i hi
      rw [List.getElem?_eq_getElem (by omega), hC, Nat.mul_one] at k
      obtain ⟨cs, hcs, htr⟩ := Option.bind_eq_some_iff.1 k
      obtain ⟨x, rfl, hx⟩ := one_cell9 hcs (by rw [add_block9]; exact hba)
      obtain ⟨z, q, _, wz⟩ := DataW.trod_int (k := .u8) Tryz.underlying5 htr
      simp at q
      subst q
      have bz := bounds_u8 wz
      obtain ⟨z, rfl⟩ := Int.eq_ofNat_of_zero_le bz.1
      exact ⟨z, by omega, hx⟩
    refine ⟨some a, (List.range len).map (fun i => if h : i < len then Classical.choose (key i h) else 0), cap, by simp, fun i hi => ?_, by simp; omega, fun i hi => ?_, .inr ⟨(elems.length + rest.length) * 1, ?_, by simp; omega⟩⟩
    · have hi' : i < len := by simpa using hi
      have hk := Classical.choose_spec (key i hi')
      have h0 := Classical.choose_spec (key 0 (by omega))
      have sp : a.spot = none := by
        have := spot_none9 h0.2
        rw [Addr.add_zero'] at this
        exact this
      obtain ⟨b, o, s⟩ := a
      simp only at sp
      subst sp
      have hb := World.block_lt_of_cell? _ _ hk.2
      refine ⟨b, o, rfl, by rw [add_block9] at hb; exact hb, ?_⟩
      rw [List.getElem!_eq_getElem?_getD, List.getElem?_eq_getElem (by simpa using hi)]
      simp only [List.getElem_map, List.getElem_range, dif_pos hi', Option.getD_some]
      rw [← Addr.add_lit]
      exact hk.2
    · have hi' : i < len := by simpa using hi
      rw [List.getElem!_eq_getElem?_getD, List.getElem?_eq_getElem hi]
      simp only [List.getElem_map, List.getElem_range, dif_pos hi', Option.getD_some]
      exact (Classical.choose_spec (key i hi')).1
    · rw [hx]
      have hB : (Tryz.prog).bytesOf 5 = 1 := by kernel_rfl
      simp [DataW.weights, Tryz.underlying51, hB]
set_option maxRecDepth 100000 in
theorem open_byte_row {H : Type} {enc : TypeId × Value → H} {w : World} {base : Nat} {held : Bool} {r : Reach} {b0 : Nat} {v : Value} {d : DataW H} {p : List MemPlace}
    (hv : Value.okWide Tryz.prog w r b0 51 v) (h : DataW.Trod enc Tryz.prog w base (fun _ => true) held 51 v d p) :
    ∃ (src : Option Addr) (S : List Nat) (cap : Nat), v = .slice src S.length cap ∧ PM.Byts w src S ∧ (∀ i, i < S.length → S[i]! < 256) := by
  obtain ⟨a0, len, cap, rfl⟩ := okWide_slice Tryz.underlying51 hv
  obtain ⟨fuel, hf⟩ := h
  obtain ⟨src, S, cap', e, h1, _, h2, _⟩ := open_bytes (y := (d, p)) ⟨a0, len, cap, rfl⟩ (by simpa [Value.cells] using hf)
  exact ⟨src, S, cap', e, h1, h2⟩
theorem mem_of_get {S : List Nat} {k : Nat} (h : ∀ i, i < S.length → S[i]! < k) : ∀ x ∈ S, x < k := fun x hx => by
  obtain ⟨i, hi, rfl⟩ := List.getElem_of_mem hx
  have := h i hi
  rw [List.getElem!_eq_getElem?_getD, List.getElem?_eq_getElem hi] at this
  exact this
set_option maxRecDepth 100000 in
theorem home_lt {H : Type} {enc : TypeId × Value → H} {w : World} {base : Nat} {held : Bool} {pc : Nat} {R : Nat → Nat} {s : Value} {why ep home : Nat} {d : DataW H} {p : List MemPlace}
    (h : DataW.Trod enc Tryz.prog w base (fun _ => true) held 30 (PM.hv pc R s why ep home) d p) : home < 4294967296 := by
  obtain ⟨fuel, hf⟩ := h
  unfold PM.hv at hf
  obtain ⟨xs, m, _, hxs, _, hlen, hg⟩ := DataW.trod_struct Tryz.underlying30 hf
  match xs, hlen with
  | [y0, y1, y2, y3, y4, y5], _ =>
    have e22 : (Tryz.prog).cellsOf 23 = 1 := by kernel_rfl
    have e23 : (Tryz.prog).cellsOf 26 = 8 := by kernel_rfl
    have e24 : (Tryz.prog).cellsOf 22 = 1 := by kernel_rfl
    have e25 : (Tryz.prog).cellsOf 27 = 1 := by kernel_rfl
    have e26 : (Tryz.prog).cellsOf 28 = 1 := by kernel_rfl
    have h5 : DataW.trod enc Tryz.prog w base (fun _ => true) held m 23 [.int .u32 (home : Int)] = some y5 := by simpa [e22, e23, e24, e25, e26, Value.cells] using hg 5 _ rfl
    obtain ⟨a, q, _, wa⟩ := DataW.trod_int (k := .u32) Tryz.underlying23 h5
    simp at q
    subst q
    have b := bounds_u32 wa
    omega
end Go.Proofs.YthnbdeibjbicpaaGreat.Frame
