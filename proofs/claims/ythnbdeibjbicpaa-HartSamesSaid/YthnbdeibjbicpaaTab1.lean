/- A block that holds pages, what a store of a page makes of it; worlds that part in one block alone. No condition. -/
import Derived.Test.YthnbdeibjbicpaaBlk
import Derived.Test.YthnbdeibjbicpaaTabM
import Derived.Laws.IdiomCopy
import Derived.Laws.OwnMore
set_option linter.unusedSimpArgs false
namespace Go.Proofs.Ythnbdeibjbicpaa.PM
set_option linter.unusedVariables false
open Go.RowKit
/-- Block h holds the pages T, one behind the other. -/
structure Pgs (w : World) (h : Nat) (T : List Page) : Prop where
  lt : h < w.heap.size
  cells : ∀ j u, (flat T)[j]? = some u → w.cell? ⟨h, j, none⟩ = some u
  free : ∀ o, w.frozen? ⟨h, o, none⟩ = false
/-- Five cells hold a page. -/
structure Lies (w : World) (h o : Nat) (p : Page) : Prop where
  c0 : w.cell? ⟨h, o, none⟩ = some (.int .u8 (p.s : Int))
  c1 : w.cell? ⟨h, o + 1, none⟩ = some (.bool p.x)
  c2 : w.cell? ⟨h, o + 2, none⟩ = some (.bool p.wr)
  c3 : w.cell? ⟨h, o + 3, none⟩ = some (.int .u16 (p.ow : Int))
  c4 : w.cell? ⟨h, o + 4, none⟩ = some (.int .u64 (p.ep : Int))
/-- The worlds part in block h alone, and in what is new. -/
structure Upd (h : Nat) (w w' : World) : Prop where
  os : w'.os = w.os
  tape : w'.tape = w.tape
  output : w'.output = w.output
  size : w.heap.size ≤ w'.heap.size
  block : ∀ k, k < w.heap.size → k ≠ h → w'.heap[k]? = w.heap[k]?
section
variable {w w' w'' : World} {h : Nat} {T : List Page}
theorem Upd.refl (h : Nat) (w : World) : Upd h w w := ⟨rfl, rfl, rfl, Nat.le_refl _, fun _ _ _ => rfl⟩
theorem Upd.of (hb : Below w.heap.size w w') : Upd h w w' := ⟨hb.os, hb.tape, hb.output, hb.size, fun k hk _ => hb.block k hk⟩
theorem Upd.trans (a : Upd h w w') (b : Upd h w' w'') : Upd h w w'' :=
  ⟨b.os.trans a.os, b.tape.trans a.tape, b.output.trans a.output, Nat.le_trans a.size b.size, fun k hk hne => (b.block k (Nat.lt_of_lt_of_le hk a.size) hne).trans (a.block k hk hne)⟩
theorem Upd.then_ (a : Upd h w w') (b : Below w'.heap.size w' w'') : Upd h w w'' := a.trans (Upd.of b)
theorem Upd.then_low (a : Upd h w w') (b : Below w.heap.size w' w'') : Upd h w w'' :=
  ⟨b.os.trans a.os, b.tape.trans a.tape, b.output.trans a.output, Nat.le_trans a.size b.size, fun k hk hne => (b.block k hk).trans (a.block k hk hne)⟩
theorem Upd.alloc (a : Upd h w w') (o : Obj) : Upd h w (w'.alloc o) := a.then_ ((Below.refl _ _).alloc (Nat.le_refl _) o)
theorem Upd.drewN (a : Upd h w w') (n : Nat) : Upd h w (w'.drewN n) := a.then_ (below_drewN (Below.refl _ _) n)
theorem Upd.setCell (a : Upd h w w') (o : Nat) (u : Value) : Upd h w (w'.setCell ⟨h, o, none⟩ u) :=
  a.trans ⟨rfl, rfl, rfl, by simp [World.setCell], fun k hk hne => Below.heap_setCell _ _ _ _ hne⟩
theorem Upd.setFar (a : Upd h w w') {g : Nat} (hg : w.heap.size ≤ g) (o : Nat) (u : Value) : Upd h w (w'.setCell ⟨g, o, none⟩ u) :=
  ⟨a.os, a.tape, a.output, by simpa [World.setCell] using a.size, fun k hk hne => (Below.heap_setCell _ _ _ _ (by show k ≠ g; omega)).trans (a.block k hk hne)⟩
theorem Upd.cell (a : Upd h w w') {p : Addr} (hp : p.block < w.heap.size) (hne : p.block ≠ h) : w'.cell? p = w.cell? p := World.cell?_of_block (w := w) (a.block _ hp hne)
theorem Upd.blk (a : Upd h w w') {k : Nat} {t : TypeId} {cs : Array Value} (hk : Blk w k t cs) (hne : k ≠ h) : Blk w' k t cs := (a.block k hk.lt hne).trans hk
theorem Upd.pgs (a : Upd h w w') {k : Nat} (hk : Pgs w k T) (hne : k ≠ h) : Pgs w' k T :=
  ⟨Nat.lt_of_lt_of_le hk.lt a.size, fun j u hj => (a.cell (p := ⟨k, j, none⟩) hk.lt hne).trans (hk.cells j u hj), fun o => (World.frozen?_of_block (w := w) (a.block k hk.lt hne)).trans (hk.free o)⟩
/-- From one that is new a change of an old block is none. -/
theorem Upd.below (a : Upd h w' w'') (b : Below w.heap.size w w') (hh : w.heap.size ≤ h) : Below w.heap.size w w'' :=
  b.trans ⟨a.os, a.tape, a.output, a.size, fun k hk => a.block k (Nat.lt_of_lt_of_le hk b.size) (by omega)⟩
theorem Pgs.kept (hp : Pgs w h T) (hb : Below w.heap.size w w') : Pgs w' h T :=
  ⟨Nat.lt_of_lt_of_le hp.lt hb.size, fun j u hj => (hb.cell (p := ⟨h, j, none⟩) hp.lt).trans (hp.cells j u hj), fun o => (hb.frozen (p := ⟨h, o, none⟩) hp.lt).trans (hp.free o)⟩
theorem Pgs.alloc (hp : Pgs w h T) (o : Obj) : Pgs (w.alloc o) h T := hp.kept ((Below.refl _ _).alloc (Nat.le_refl _) o)
theorem Pgs.drewN (hp : Pgs w h T) (n : Nat) : Pgs (w.drewN n) h T := hp.kept (below_drewN (Below.refl _ _) n)
theorem Pgs.far (hp : Pgs w h T) {p : Addr} (hne : h ≠ p.block) (u : Value) : Pgs (w.setCell p u) h T := by
  have e := Below.heap_setCell w p u h hne
  exact ⟨by simpa [World.setCell] using hp.lt, fun j v hj => (World.cell?_of_block (w := w) e).trans (hp.cells j v hj), fun o => (World.frozen?_of_block (w := w) e).trans (hp.free o)⟩
theorem Pgs.lies (hp : Pgs w h T) {i : Nat} (hi : i < T.length) : Lies w h (i * 5) T[i]! :=
  ⟨hp.cells _ _ (flat_at T i hi 0 (by omega)), hp.cells _ _ (flat_at T i hi 1 (by omega)), hp.cells _ _ (flat_at T i hi 2 (by omega)), hp.cells _ _ (flat_at T i hi 3 (by omega)), hp.cells _ _ (flat_at T i hi 4 (by omega))⟩
/-- Pages whose five cells are known each. -/
theorem Pgs.mk' (hlt : h < w.heap.size) (hf : ∀ o, w.frozen? ⟨h, o, none⟩ = false) (hc : ∀ i, i < T.length → Lies w h (i * 5) T[i]!) : Pgs w h T := by
  refine ⟨hlt, fun j u hj => ?_, hf⟩
  have hjl : j < T.length * 5 := by
    rw [← flat_length]
    rcases Nat.lt_or_ge j (flat T).length with hl | hl
    · exact hl
    · rw [List.getElem?_eq_none hl] at hj; cases hj
  have hq : j / 5 < T.length := by omega
  have hr : j % 5 < 5 := Nat.mod_lt _ (by decide)
  have he : j = j / 5 * 5 + j % 5 := by omega
  have hl := hc _ hq
  rw [he, flat_at T _ hq _ hr] at hj
  rw [he]
  generalize j % 5 = r at hj hr ⊢
  generalize T[j / 5]! = p at hj hl
  match r, hr, hj with
  | 0, _, hj => cases hj; exact hl.c0
  | 1, _, hj => cases hj; exact hl.c1
  | 2, _, hj => cases hj; exact hl.c2
  | 3, _, hj => cases hj; exact hl.c3
  | 4, _, hj => cases hj; exact hl.c4
theorem set_bang (T : List Page) (i j : Nat) (p : Page) (hj : j < T.length) : (T.set i p)[j]! = if j = i then p else T[j]! := by
  simp only [List.getElem!_eq_getElem?_getD, List.getElem?_set]
  by_cases e : j = i
  · subst e; simp [hj]
  · rw [if_neg (fun h => e h.symm), if_neg e]
/-- A page is stored. -/
theorem Pgs.set (hp : Pgs w h T) {i : Nat} (hi : i < T.length) (p : Page) : Pgs (w.setCells h (i * 5) p.c) h (T.set i p) := by
  have hl := hp.lies hi
  have hcl : p.c.length = 5 := rfl
  refine Pgs.mk' ?_ (fun o => (World.frozen?_setCells _ _ _ _ _).trans (hp.free o)) ?_
  · show h < (((((w.setCell ⟨h, i * 5, none⟩ _).setCell _ _).setCell _ _).setCell _ _).setCell _ _).heap.size
    simpa [World.setCell] using hp.lt
  · intro j hj
    rw [List.length_set] at hj
    rw [set_bang T i j p hj]
    by_cases e : j = i
    · subst e
      rw [if_pos rfl]
      have key := World.cell?_setCells_in h p.c (j * 5) w (by
        intro k hk
        rw [hcl] at hk
        match k, hk with
        | 0, _ => exact Option.isSome_of_eq_some hl.c0
        | 1, _ => exact Option.isSome_of_eq_some hl.c1
        | 2, _ => exact Option.isSome_of_eq_some hl.c2
        | 3, _ => exact Option.isSome_of_eq_some hl.c3
        | 4, _ => exact Option.isSome_of_eq_some hl.c4)
      exact ⟨key 0 (by rw [hcl]; decide), key 1 (by rw [hcl]; decide), key 2 (by rw [hcl]; decide), key 3 (by rw [hcl]; decide), key 4 (by rw [hcl]; decide)⟩
    · rw [if_neg e]
      have lj := hp.lies hj
      have out : ∀ k, k < 5 → (w.setCells h (i * 5) p.c).cell? ⟨h, j * 5 + k, none⟩ = w.cell? ⟨h, j * 5 + k, none⟩ := fun k hk =>
        World.cell?_setCells_out h p.c (i * 5) w ⟨h, j * 5 + k, none⟩ (fun _ _ => by
          show j * 5 + k < i * 5 ∨ i * 5 + p.c.length ≤ j * 5 + k
          rw [hcl]; omega)
      exact ⟨(out 0 (by decide)).trans lj.c0, (out 1 (by decide)).trans lj.c1, (out 2 (by decide)).trans lj.c2, (out 3 (by decide)).trans lj.c3, (out 4 (by decide)).trans lj.c4⟩
theorem Upd.store (a : Upd h w w') (o : Nat) (p : Page) : Upd h w (w'.setCells h o p.c) := ((((a.setCell _ _).setCell _ _).setCell _ _).setCell _ _).setCell _ _
/-- Two cells of a page are stored. -/
theorem Pgs.set04 (hp : Pgs w h T) {i : Nat} (hi : i < T.length) (s e : Nat) (p : Page) (hT : T[i]! = p) : Pgs ((w.setCell ⟨h, i * 5, none⟩ (.int .u8 (s : Int))).setCell ⟨h, i * 5 + 4, none⟩ (.int .u64 (e : Int))) h (T.set i { p with s := s, ep := e }) := by
  have hl := hp.lies hi
  have f1 : ∀ o u o' u' x, ((w.setCell ⟨h, o, none⟩ u).setCell ⟨h, o', none⟩ u').frozen? x = w.frozen? x := fun o u o' u' x => by rw [World.frozen?_setCell, World.frozen?_setCell]
  refine Pgs.mk' (by simpa [World.setCell] using hp.lt) (fun o => (f1 _ _ _ _ _).trans (hp.free o)) ?_
  have oth : ∀ x, x ≠ i * 5 → x ≠ i * 5 + 4 → ((w.setCell ⟨h, i * 5, none⟩ (.int .u8 (s : Int))).setCell ⟨h, i * 5 + 4, none⟩ (.int .u64 (e : Int))).cell? ⟨h, x, none⟩ = w.cell? ⟨h, x, none⟩ := by
    intro x hx hx4
    rw [World.cell?_setCell_other _ _ _ _ (by intro q; injection q with _ q; exact hx4 q.symm), World.cell?_setCell_other _ _ _ _ (by intro q; injection q with _ q; exact hx q.symm)]
  have at0 : ((w.setCell ⟨h, i * 5, none⟩ (.int .u8 (s : Int))).setCell ⟨h, i * 5 + 4, none⟩ (.int .u64 (e : Int))).cell? ⟨h, i * 5, none⟩ = some (.int .u8 (s : Int)) := by
    rw [World.cell?_setCell_other _ _ _ _ (by intro q; injection q with _ q; omega)]
    exact World.cell?_setCell_same _ _ _ hl.c0
  have at4 : ((w.setCell ⟨h, i * 5, none⟩ (.int .u8 (s : Int))).setCell ⟨h, i * 5 + 4, none⟩ (.int .u64 (e : Int))).cell? ⟨h, i * 5 + 4, none⟩ = some (.int .u64 (e : Int)) := by
    have k4 : (w.setCell ⟨h, i * 5, none⟩ (.int .u8 (s : Int))).cell? ⟨h, i * 5 + 4, none⟩ = some (.int .u64 (T[i]!.ep : Int)) := by
      rw [World.cell?_setCell_other _ _ _ _ (by intro q; injection q with _ q; omega)]
      exact hl.c4
    exact World.cell?_setCell_same _ _ _ k4
  intro j hj
  rw [List.length_set] at hj
  rw [set_bang T i j _ hj]
  have lj := hp.lies hj
  by_cases e : j = i
  · subst e
    rw [if_pos rfl]
    rw [hT] at hl
    exact ⟨at0, (oth _ (by omega) (by omega)).trans hl.c1, (oth _ (by omega) (by omega)).trans hl.c2, (oth _ (by omega) (by omega)).trans hl.c3, at4⟩
  · rw [if_neg e]
    exact ⟨(oth _ (by omega) (by omega)).trans lj.c0, (oth _ (by omega) (by omega)).trans lj.c1, (oth _ (by omega) (by omega)).trans lj.c2, (oth _ (by omega) (by omega)).trans lj.c3, (oth _ (by omega) (by omega)).trans lj.c4⟩
end
end Go.Proofs.Ythnbdeibjbicpaa.PM
