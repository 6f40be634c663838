/- Pages as plain lists: what the calls of a table make of them. No program in sight. No condition. -/
import Derived.Test.YthnbdeibjbicpaaGreatKBase
import Derived.Laws.IdiomCopy
import Derived.Laws.OwnMore
set_option linter.unusedSimpArgs false
namespace Go.Proofs.YthnbdeibjbicpaaGreat.PM
set_option linter.unusedVariables false
structure Page where
  s : Nat
  x : Bool
  wr : Bool
  ow : Nat
  ep : Nat
/-- The free page. -/
def nz : Page := ⟨0, false, false, 0, 0⟩
instance : Inhabited Page := ⟨nz⟩
/-- A page's five cells. -/
def Page.c (p : Page) : List Value := [.int .u8 (p.s : Int), .bool p.x, .bool p.wr, .int .u16 (p.ow : Int), .int .u64 (p.ep : Int)]
/-- A page as one value. -/
def Page.v (p : Page) : Value := .agg #[.int .u8 (p.s : Int), .bool p.x, .bool p.wr, .int .u16 (p.ow : Int), .int .u64 (p.ep : Int)]
def flat (T : List Page) : List Value := T.flatMap Page.c
theorem flat_length (T : List Page) : (flat T).length = T.length * 5 := by
  induction T with
  | nil => rfl
  | cons p T ih => simp [flat, Page.c] at ih ⊢; omega
theorem flat_at (T : List Page) (i : Nat) (hi : i < T.length) (j : Nat) (hj : j < 5) : (flat T)[i * 5 + j]? = T[i]!.c[j]? := by
  induction T generalizing i with
  | nil => simp at hi
  | cons p T ih =>
    have hc : p.c.length = 5 := rfl
    cases i with
    | zero =>
      show (p.c ++ flat T)[0 * 5 + j]? = _
      rw [List.getElem?_append_left (by omega)]
      simp
    | succ i =>
      show (p.c ++ flat T)[(i + 1) * 5 + j]? = _
      rw [List.getElem?_append_right (by omega)]
      have e : (i + 1) * 5 + j - p.c.length = i * 5 + j := by omega
      rw [e, ih i (by simpa using hi)]
      simp
/-- A page of a table. -/
def getP (T : List Page) (i : Int) : Page := if 0 ≤ i ∧ i < (T.length : Int) then T[i.toNat]! else nz
/-- Is a page an owner's, and in some state? -/
def sel (ow : Nat) (inp : Nat → Bool) (p : Page) : Bool := p.ow == ow && (p.s != 0 && inp p.s)
/-- Something is done with the pages of some kind, one behind the other. -/
def go (sl : Page → Bool) (f : Nat → Page → Page) : Nat → List Page → List Page
  | _, [] => []
  | k, p :: T => if sl p then f k p :: go sl f (k + 1) T else p :: go sl f k T
section
variable (sl : Page → Bool) (f : Nat → Page → Page)
theorem go_length (k : Nat) (T : List Page) : (go sl f k T).length = T.length := by
  induction T generalizing k with
  | nil => rfl
  | cons p T ih => unfold go; split <;> simp [ih]
theorem go_append (k : Nat) (A B : List Page) : go sl f k (A ++ B) = go sl f k A ++ go sl f (k + A.countP sl) B := by
  induction A generalizing k with
  | nil => simp [go]
  | cons p A ih =>
    cases h : sl p with
    | true => simp [go, h, ih, Nat.add_assoc, Nat.add_comm 1]
    | false => simp [go, h, ih]
/-- The table in the midst of the work. -/
def mid (T : List Page) (i : Nat) : List Page := go sl f 0 (T.take i) ++ T.drop i
theorem mid_zero (T : List Page) : mid sl f T 0 = T := by simp [mid, go]
theorem mid_full (T : List Page) : mid sl f T T.length = go sl f 0 T := by simp [mid]
theorem mid_length (T : List Page) (i : Nat) : (mid sl f T i).length = T.length := by simp [mid, go_length]; omega
theorem mid_at (T : List Page) (i : Nat) (hi : i < T.length) : (mid sl f T i)[i]! = T[i]! := by
  have h : (go sl f 0 (T.take i)).length = i := by simp [go_length]; omega
  simp only [mid, List.getElem!_eq_getElem?_getD]
  rw [List.getElem?_append_right (by omega), h]
  simp
theorem take_succ_eq (T : List Page) (i : Nat) (hi : i < T.length) : T.take (i + 1) = T.take i ++ [T[i]!] := by
  rw [List.take_add_one, List.getElem?_eq_getElem hi]
  simp [hi]
theorem drop_eq_bang (T : List Page) (i : Nat) (hi : i < T.length) : T.drop i = T[i]! :: T.drop (i + 1) := by
  rw [List.drop_eq_getElem_cons hi]; simp [hi]
theorem mid_hit (T : List Page) (i : Nat) (hi : i < T.length) (h : sl T[i]! = true) : mid sl f T (i + 1) = (mid sl f T i).set i (f ((T.take i).countP sl) T[i]!) := by
  have hl : (go sl f 0 (T.take i)).length = i := by simp [go_length]; omega
  unfold mid
  rw [List.set_append_right _ _ (by omega), hl, take_succ_eq T i hi, go_append, Nat.sub_self, drop_eq_bang T i hi, Nat.zero_add]
  generalize T[i]! = y at h ⊢
  simp [go, h]
theorem mid_miss (T : List Page) (i : Nat) (hi : i < T.length) (h : sl T[i]! = false) : mid sl f T (i + 1) = mid sl f T i := by
  unfold mid
  rw [take_succ_eq T i hi, go_append, Nat.zero_add, drop_eq_bang T i hi]
  generalize T[i]! = y at h ⊢
  simp [go, h]
theorem count_hit (T : List Page) (i : Nat) (hi : i < T.length) (h : sl T[i]! = true) : (T.take (i + 1)).countP sl = (T.take i).countP sl + 1 := by
  rw [take_succ_eq T i hi, List.countP_append]; generalize T[i]! = y at h ⊢; simp [h]
theorem count_miss (T : List Page) (i : Nat) (hi : i < T.length) (h : sl T[i]! = false) : (T.take (i + 1)).countP sl = (T.take i).countP sl := by
  rw [take_succ_eq T i hi, List.countP_append]; generalize T[i]! = y at h ⊢; simp [h]
/-- The numbers of the pages of some kind. -/
def idx : Nat → List Page → List Nat
  | _, [] => []
  | o, p :: T => if sl p then o :: idx (o + 1) T else idx (o + 1) T
theorem idx_length (o : Nat) (T : List Page) : (idx sl o T).length = T.countP sl := by
  induction T generalizing o with
  | nil => rfl
  | cons p T ih => cases h : sl p <;> simp [idx, h, ih, List.countP_cons]
theorem idx_append (o : Nat) (A B : List Page) : idx sl o (A ++ B) = idx sl o A ++ idx sl (o + A.length) B := by
  induction A generalizing o with
  | nil => simp [idx]
  | cons p A ih => cases h : sl p <;> simp [idx, h, ih, Nat.add_assoc, Nat.add_comm 1]
theorem idx_hit (T : List Page) (i : Nat) (hi : i < T.length) (h : sl T[i]! = true) : idx sl 0 (T.take (i + 1)) = idx sl 0 (T.take i) ++ [i] := by
  rw [take_succ_eq T i hi, idx_append]; generalize T[i]! = y at h ⊢; simp [idx, h]; omega
theorem idx_miss (T : List Page) (i : Nat) (hi : i < T.length) (h : sl T[i]! = false) : idx sl 0 (T.take (i + 1)) = idx sl 0 (T.take i) := by
  rw [take_succ_eq T i hi, idx_append]; generalize T[i]! = y at h ⊢; simp [idx, h]
/-- Done with the first m of them alone. -/
def goN (m : Nat) : Nat → List Page → List Page := go sl (fun k p => if k < m then f k p else p)
theorem goN_length (m k : Nat) (T : List Page) : (goN sl f m k T).length = T.length := go_length _ _ _ _
theorem goN_low (m k : Nat) (hm : m ≤ k) (T : List Page) : goN sl f m k T = T := by
  unfold goN
  induction T generalizing k with
  | nil => rfl
  | cons p T ih =>
    unfold go
    rw [if_neg (show ¬ k < m by omega), ih k hm, ih (k + 1) (by omega)]
    simp
theorem goN_high (m k : Nat) (T : List Page) (hm : k + T.countP sl ≤ m) : goN sl f m k T = go sl f k T := by
  unfold goN
  induction T generalizing k with
  | nil => rfl
  | cons p T ih =>
    unfold go
    cases h : sl p with
    | true =>
      simp [List.countP_cons, h] at hm
      rw [if_pos (show k < m by omega), ih (k + 1) (by omega)]
      simp
    | false =>
      simp [List.countP_cons, h] at hm
      simp [ih k hm]
theorem goN_step (r : Nat) (k o : Nat) (T : List Page) (hk : k ≤ r) (hr : r < k + T.countP sl) :
    ∃ j, (idx sl o T)[r - k]? = some (o + j) ∧ j < T.length ∧ sl T[j]! = true ∧ (goN sl f r k T)[j]! = T[j]! ∧ goN sl f (r + 1) k T = (goN sl f r k T).set j (f r T[j]!) := by
  induction T generalizing k o with
  | nil => simp at hr; omega
  | cons p T ih =>
    cases h : sl p with
    | true =>
      by_cases e : r = k
      · subst e
        refine ⟨0, by simp [idx, h], by simp, by simpa using h, ?_, ?_⟩
        · simp [goN, go, h]
        · show go sl _ _ _ = (go sl _ _ _).set 0 _
          simp only [go, h, if_true, List.set_cons_zero, Nat.lt_irrefl, if_false]
          have h1 := goN_low sl f (r + 1) (r + 1) (Nat.le_refl _) T
          have h2 := goN_low sl f r (r + 1) (by omega) T
          unfold goN at h1 h2
          rw [h1, h2, if_pos (by omega)]
          rfl
      · simp [List.countP_cons, h] at hr
        obtain ⟨j, h1, h2, h2b, h3, h4⟩ := ih (k + 1) (o + 1) (by omega) (by omega)
        refine ⟨j + 1, ?_, by simpa using h2, by simpa using h2b, ?_, ?_⟩
        · simp only [idx, h, if_true]
          rw [show r - k = (r - (k + 1)) + 1 by omega, List.getElem?_cons_succ, h1]
          congr 1; omega
        · simpa [goN, go, h] using h3
        · unfold goN at h4 ⊢
          simp only [go, h, if_true, List.set_cons_succ]
          rw [h4, if_pos (by omega), if_pos (by omega)]
          simp
    | false =>
      simp [List.countP_cons, h] at hr
      obtain ⟨j, h1, h2, h2b, h3, h4⟩ := ih k (o + 1) hk hr
      refine ⟨j + 1, ?_, by simpa using h2, by simpa using h2b, ?_, ?_⟩
      · simp only [idx, h]
        simp only [Bool.false_eq_true, if_false]
        rw [h1]; congr 1; omega
      · simpa [goN, go, h] using h3
      · unfold goN at h4 ⊢
        simp only [go, h, Bool.false_eq_true, if_false, List.set_cons_succ]
        rw [h4]
        simp
/-- The next of them. -/
theorem goN_next (T : List Page) (r : Nat) (hr : r < T.countP sl) :
    ∃ j, (idx sl 0 T)[r]? = some j ∧ j < T.length ∧ sl T[j]! = true ∧ (goN sl f r 0 T)[j]! = T[j]! ∧ goN sl f (r + 1) 0 T = (goN sl f r 0 T).set j (f r T[j]!) := by
  obtain ⟨j, h⟩ := goN_step sl f r 0 0 T (Nat.zero_le _) (by omega)
  refine ⟨j, by simpa using h.1, h.2⟩
end
end Go.Proofs.YthnbdeibjbicpaaGreat.PM

/- A block that holds pages, what a store of a page makes of it; worlds that part in one block alone. No condition. -/
set_option linter.unusedSimpArgs false
namespace Go.Proofs.YthnbdeibjbicpaaGreat.PM
set_option linter.unusedVariables false
open Go.RowKit
/-- Block h holds the pages T, one behind the other. -/
structure Pgs (w : World) (h : Nat) (T : List Page) : Prop where
  lt : h < w.heap.size
  cells : ∀ j u, (flat T)[j]? = some u → w.cell? ⟨h, j, none⟩ = some u
  free : ∀ o, w.frozen? ⟨h, o, none⟩ = false
/-- Five cells hold a page. -/
structure Lies (w : World) (h o : Nat) (p : Page) : Prop where
  c0 : w.cell? ⟨h, o, none⟩ = some (.int .u8 (p.s : Int))
  c1 : w.cell? ⟨h, o + 1, none⟩ = some (.bool p.x)
  c2 : w.cell? ⟨h, o + 2, none⟩ = some (.bool p.wr)
  c3 : w.cell? ⟨h, o + 3, none⟩ = some (.int .u16 (p.ow : Int))
  c4 : w.cell? ⟨h, o + 4, none⟩ = some (.int .u64 (p.ep : Int))
/-- The worlds part in block h alone, and in what is new. -/
structure Upd (h : Nat) (w w' : World) : Prop where
  os : w'.os = w.os
  tape : w'.tape = w.tape
  output : w'.output = w.output
  size : w.heap.size ≤ w'.heap.size
  block : ∀ k, k < w.heap.size → k ≠ h → w'.heap[k]? = w.heap[k]?
section
variable {w w' w'' : World} {h : Nat} {T : List Page}
theorem Upd.refl (h : Nat) (w : World) : Upd h w w := ⟨rfl, rfl, rfl, Nat.le_refl _, fun _ _ _ => rfl⟩
theorem Upd.of (hb : Below w.heap.size w w') : Upd h w w' := ⟨hb.os, hb.tape, hb.output, hb.size, fun k hk _ => hb.block k hk⟩
theorem Upd.trans (a : Upd h w w') (b : Upd h w' w'') : Upd h w w'' :=
  ⟨b.os.trans a.os, b.tape.trans a.tape, b.output.trans a.output, Nat.le_trans a.size b.size, fun k hk hne => (b.block k (Nat.lt_of_lt_of_le hk a.size) hne).trans (a.block k hk hne)⟩
theorem Upd.then_ (a : Upd h w w') (b : Below w'.heap.size w' w'') : Upd h w w'' := a.trans (Upd.of b)
theorem Upd.alloc (a : Upd h w w') (o : Obj) : Upd h w (w'.alloc o) := a.then_ ((Below.refl _ _).alloc (Nat.le_refl _) o)
theorem Upd.drewN (a : Upd h w w') (n : Nat) : Upd h w (w'.drewN n) := a.then_ (below_drewN (Below.refl _ _) n)
theorem Upd.setCell (a : Upd h w w') (o : Nat) (u : Value) : Upd h w (w'.setCell ⟨h, o, none⟩ u) :=
  a.trans ⟨rfl, rfl, rfl, by simp [World.setCell], fun k hk hne => Below.heap_setCell _ _ _ _ hne⟩
theorem Upd.cell (a : Upd h w w') {p : Addr} (hp : p.block < w.heap.size) (hne : p.block ≠ h) : w'.cell? p = w.cell? p := World.cell?_of_block (w := w) (a.block _ hp hne)
theorem Upd.blk (a : Upd h w w') {k : Nat} {t : TypeId} {cs : Array Value} (hk : Blk w k t cs) (hne : k ≠ h) : Blk w' k t cs := (a.block k hk.lt hne).trans hk
theorem Upd.pgs (a : Upd h w w') {k : Nat} (hk : Pgs w k T) (hne : k ≠ h) : Pgs w' k T :=
  ⟨Nat.lt_of_lt_of_le hk.lt a.size, fun j u hj => (a.cell (p := ⟨k, j, none⟩) hk.lt hne).trans (hk.cells j u hj), fun o => (World.frozen?_of_block (w := w) (a.block k hk.lt hne)).trans (hk.free o)⟩
/-- From one that is new a change of an old block is none. -/
theorem Upd.below (a : Upd h w' w'') (b : Below w.heap.size w w') (hh : w.heap.size ≤ h) : Below w.heap.size w w'' :=
  b.trans ⟨a.os, a.tape, a.output, a.size, fun k hk => a.block k (Nat.lt_of_lt_of_le hk b.size) (by omega)⟩
theorem Pgs.kept (hp : Pgs w h T) (hb : Below w.heap.size w w') : Pgs w' h T :=
  ⟨Nat.lt_of_lt_of_le hp.lt hb.size, fun j u hj => (hb.cell (p := ⟨h, j, none⟩) hp.lt).trans (hp.cells j u hj), fun o => (hb.frozen (p := ⟨h, o, none⟩) hp.lt).trans (hp.free o)⟩
theorem Pgs.alloc (hp : Pgs w h T) (o : Obj) : Pgs (w.alloc o) h T := hp.kept ((Below.refl _ _).alloc (Nat.le_refl _) o)
theorem Pgs.drewN (hp : Pgs w h T) (n : Nat) : Pgs (w.drewN n) h T := hp.kept (below_drewN (Below.refl _ _) n)
theorem Pgs.far (hp : Pgs w h T) {p : Addr} (hne : h ≠ p.block) (u : Value) : Pgs (w.setCell p u) h T := by
  have e := Below.heap_setCell w p u h hne
  exact ⟨by simpa [World.setCell] using hp.lt, fun j v hj => (World.cell?_of_block (w := w) e).trans (hp.cells j v hj), fun o => (World.frozen?_of_block (w := w) e).trans (hp.free o)⟩
theorem Pgs.lies (hp : Pgs w h T) {i : Nat} (hi : i < T.length) : Lies w h (i * 5) T[i]! :=
  ⟨hp.cells _ _ (flat_at T i hi 0 (by omega)), hp.cells _ _ (flat_at T i hi 1 (by omega)), hp.cells _ _ (flat_at T i hi 2 (by omega)), hp.cells _ _ (flat_at T i hi 3 (by omega)), hp.cells _ _ (flat_at T i hi 4 (by omega))⟩
/-- Pages whose five cells are known each. -/
theorem Pgs.mk' (hlt : h < w.heap.size) (hf : ∀ o, w.frozen? ⟨h, o, none⟩ = false) (hc : ∀ i, i < T.length → Lies w h (i * 5) T[i]!) : Pgs w h T := by
  refine ⟨hlt, fun j u hj => ?_, hf⟩
  have hjl : j < T.length * 5 := by
    rw [← flat_length]
    rcases Nat.lt_or_ge j (flat T).length with hl | hl
    · exact hl
    · rw [List.getElem?_eq_none hl] at hj; cases hj
  have hq : j / 5 < T.length := by omega
  have hr : j % 5 < 5 := Nat.mod_lt _ (by decide)
  have he : j = j / 5 * 5 + j % 5 := by omega
  have hl := hc _ hq
  rw [he, flat_at T _ hq _ hr] at hj
  rw [he]
  generalize j % 5 = r at hj hr ⊢
  generalize T[j / 5]! = p at hj hl
  match r, hr, hj with
  | 0, _, hj => cases hj; exact hl.c0
  | 1, _, hj => cases hj; exact hl.c1
  | 2, _, hj => cases hj; exact hl.c2
  | 3, _, hj => cases hj; exact hl.c3
  | 4, _, hj => cases hj; exact hl.c4
theorem set_bang (T : List Page) (i j : Nat) (p : Page) (hj : j < T.length) : (T.set i p)[j]! = if j = i then p else T[j]! := by
  simp only [List.getElem!_eq_getElem?_getD, List.getElem?_set]
  by_cases e : j = i
  · subst e; simp [hj]
  · rw [if_neg (fun h => e h.symm), if_neg e]
/-- A page is stored. -/
theorem Pgs.set (hp : Pgs w h T) {i : Nat} (hi : i < T.length) (p : Page) : Pgs (w.setCells h (i * 5) p.c) h (T.set i p) := by
  have hl := hp.lies hi
  have hcl : p.c.length = 5 := rfl
  refine Pgs.mk' ?_ (fun o => (World.frozen?_setCells _ _ _ _ _).trans (hp.free o)) ?_
  · show h < (((((w.setCell ⟨h, i * 5, none⟩ _).setCell _ _).setCell _ _).setCell _ _).setCell _ _).heap.size
    simpa [World.setCell] using hp.lt
  · intro j hj
    rw [List.length_set] at hj
    rw [set_bang T i j p hj]
    by_cases e : j = i
    · subst e
      rw [if_pos rfl]
      have key := World.cell?_setCells_in h p.c (j * 5) w (by
        intro k hk
        rw [hcl] at hk
        match k, hk with
        | 0, _ => exact Option.isSome_of_eq_some hl.c0
        | 1, _ => exact Option.isSome_of_eq_some hl.c1
        | 2, _ => exact Option.isSome_of_eq_some hl.c2
        | 3, _ => exact Option.isSome_of_eq_some hl.c3
        | 4, _ => exact Option.isSome_of_eq_some hl.c4)
      exact ⟨key 0 (by rw [hcl]; decide), key 1 (by rw [hcl]; decide), key 2 (by rw [hcl]; decide), key 3 (by rw [hcl]; decide), key 4 (by rw [hcl]; decide)⟩
    · rw [if_neg e]
      have lj := hp.lies hj
      have out : ∀ k, k < 5 → (w.setCells h (i * 5) p.c).cell? ⟨h, j * 5 + k, none⟩ = w.cell? ⟨h, j * 5 + k, none⟩ := fun k hk =>
        World.cell?_setCells_out h p.c (i * 5) w ⟨h, j * 5 + k, none⟩ (fun _ _ => by
          show j * 5 + k < i * 5 ∨ i * 5 + p.c.length ≤ j * 5 + k
          rw [hcl]; omega)
      exact ⟨(out 0 (by decide)).trans lj.c0, (out 1 (by decide)).trans lj.c1, (out 2 (by decide)).trans lj.c2, (out 3 (by decide)).trans lj.c3, (out 4 (by decide)).trans lj.c4⟩
theorem Upd.store (a : Upd h w w') (o : Nat) (p : Page) : Upd h w (w'.setCells h o p.c) := ((((a.setCell _ _).setCell _ _).setCell _ _).setCell _ _).setCell _ _
/-- Two cells of a page are stored. -/
theorem Pgs.set04 (hp : Pgs w h T) {i : Nat} (hi : i < T.length) (s e : Nat) (p : Page) (hT : T[i]! = p) : Pgs ((w.setCell ⟨h, i * 5, none⟩ (.int .u8 (s : Int))).setCell ⟨h, i * 5 + 4, none⟩ (.int .u64 (e : Int))) h (T.set i { p with s := s, ep := e }) := by
  have hl := hp.lies hi
  have f1 : ∀ o u o' u' x, ((w.setCell ⟨h, o, none⟩ u).setCell ⟨h, o', none⟩ u').frozen? x = w.frozen? x := fun o u o' u' x => by rw [World.frozen?_setCell, World.frozen?_setCell]
  refine Pgs.mk' (by simpa [World.setCell] using hp.lt) (fun o => (f1 _ _ _ _ _).trans (hp.free o)) ?_
  have oth : ∀ x, x ≠ i * 5 → x ≠ i * 5 + 4 → ((w.setCell ⟨h, i * 5, none⟩ (.int .u8 (s : Int))).setCell ⟨h, i * 5 + 4, none⟩ (.int .u64 (e : Int))).cell? ⟨h, x, none⟩ = w.cell? ⟨h, x, none⟩ := by
    intro x hx hx4
    rw [World.cell?_setCell_other _ _ _ _ (by intro q; injection q with _ q; exact hx4 q.symm), World.cell?_setCell_other _ _ _ _ (by intro q; injection q with _ q; exact hx q.symm)]
  have at0 : ((w.setCell ⟨h, i * 5, none⟩ (.int .u8 (s : Int))).setCell ⟨h, i * 5 + 4, none⟩ (.int .u64 (e : Int))).cell? ⟨h, i * 5, none⟩ = some (.int .u8 (s : Int)) := by
    rw [World.cell?_setCell_other _ _ _ _ (by intro q; injection q with _ q; omega)]
    exact World.cell?_setCell_same _ _ _ hl.c0
  have at4 : ((w.setCell ⟨h, i * 5, none⟩ (.int .u8 (s : Int))).setCell ⟨h, i * 5 + 4, none⟩ (.int .u64 (e : Int))).cell? ⟨h, i * 5 + 4, none⟩ = some (.int .u64 (e : Int)) := by
    have k4 : (w.setCell ⟨h, i * 5, none⟩ (.int .u8 (s : Int))).cell? ⟨h, i * 5 + 4, none⟩ = some (.int .u64 (T[i]!.ep : Int)) := by
      rw [World.cell?_setCell_other _ _ _ _ (by intro q; injection q with _ q; omega)]
      exact hl.c4
    exact World.cell?_setCell_same _ _ _ k4
  intro j hj
  rw [List.length_set] at hj
  rw [set_bang T i j _ hj]
  have lj := hp.lies hj
  by_cases e : j = i
  · subst e
    rw [if_pos rfl]
    rw [hT] at hl
    exact ⟨at0, (oth _ (by omega) (by omega)).trans hl.c1, (oth _ (by omega) (by omega)).trans hl.c2, (oth _ (by omega) (by omega)).trans hl.c3, at4⟩
  · rw [if_neg e]
    exact ⟨(oth _ (by omega) (by omega)).trans lj.c0, (oth _ (by omega) (by omega)).trans lj.c1, (oth _ (by omega) (by omega)).trans lj.c2, (oth _ (by omega) (by omega)).trans lj.c3, (oth _ (by omega) (by omega)).trans lj.c4⟩
end
end Go.Proofs.YthnbdeibjbicpaaGreat.PM

/- Contracts of a table of pages: New, Len, Get. Conditions: the table's cells. -/
set_option linter.unusedSimpArgs false
namespace Go.Proofs.YthnbdeibjbicpaaGreat.PM
set_option linter.unusedVariables false
open Go.RowKit
/-- A table: a block of one cell that holds a slice of pages. -/
structure Tab (w : World) (g h c : Nat) (T : List Page) : Prop where
  row : w.cell? ⟨g, 0, none⟩ = some (.slice (some ⟨h, 0, none⟩) T.length c)
  lt : g < w.heap.size
  ne : g ≠ h
  pgs : Pgs w h T
  few : T.length ≤ 256
  cap : T.length ≤ c
section
variable {w w' : World} {g h c : Nat} {T T' : List Page}
theorem Tab.kept (t : Tab w g h c T) (hb : Below w.heap.size w w') : Tab w' g h c T :=
  ⟨(hb.cell (p := ⟨g, 0, none⟩) t.lt).trans t.row, Nat.lt_of_lt_of_le t.lt hb.size, t.ne, t.pgs.kept hb, t.few, t.cap⟩
theorem Tab.alloc (t : Tab w g h c T) (o : Obj) : Tab (w.alloc o) g h c T := t.kept ((Below.refl _ _).alloc (Nat.le_refl _) o)
theorem Tab.drewN (t : Tab w g h c T) (n : Nat) : Tab (w.drewN n) g h c T := t.kept (below_drewN (Below.refl _ _) n)
theorem Tab.upd (t : Tab w g h c T) {k : Nat} (hu : Upd k w w') (h1 : g ≠ k) (h2 : h ≠ k) : Tab w' g h c T :=
  ⟨(hu.cell (p := ⟨g, 0, none⟩) t.lt h1).trans t.row, Nat.lt_of_lt_of_le t.lt hu.size, t.ne, hu.pgs t.pgs h2, t.few, t.cap⟩
theorem Tab.turned (t : Tab w g h c T) (hu : Upd h w w') (hp : Pgs w' h T') (hl : T'.length = T.length) : Tab w' g h c T' :=
  ⟨by rw [hl]; exact (hu.cell (p := ⟨g, 0, none⟩) t.lt t.ne).trans t.row, Nat.lt_of_lt_of_le t.lt hu.size, t.ne, hp, by rw [hl]; exact t.few, by rw [hl]; exact t.cap⟩
end
theorem len_c (w : World) (g h c : Nat) (T : List Page) (t : Tab w g h c T) :
    Calls Tryz.prog 53 #[.pointer (some ⟨g, 0, none⟩)] w fun e w' => e = .returned (.int .i64 (T.length : Int)) ∧ w' = w := by
  have c0 := t.row
  clear t
  generalize T.length = n at c0 ⊢
  go_enter Tryz.func53, Tryz.ntmps53
  go_wp2_with fail
  go_ret
  exact ⟨rfl, rfl⟩
theorem getP_in (T : List Page) (k : Nat) (hk : k < T.length) : getP T (k : Int) = T[k]! := by
  unfold getP
  rw [if_pos ⟨by omega, by omega⟩]
  simp
set_option maxHeartbeats 1000000 in
theorem get_c (w : World) (g h c : Nat) (T : List Page) (t : Tab w g h c T) (i : Int) :
    Calls Tryz.prog 94 #[.pointer (some ⟨g, 0, none⟩), .int .i64 i] w fun e w' => e = .returned (getP T i).v ∧ Below w.heap.size w w' := by
  have HL := Lib.hid (fun o => len_c (w.alloc o) g h c T (t.alloc o))
  by_cases h0 : i < 0
  · rw [getP, if_neg (by omega)]
    clear t HL
    go_enter Tryz.func94, Tryz.ntmps94
    go_wp2_with fail
    refine bodyPost_ret (v := .agg #[.int .u8 0, .bool false, .bool false, .int .u16 0, .int .u64 0]) (by simp [results, Tryz.results94, go_sem, *]) rfl ?_
    exact ⟨rfl, (Below.refl _ _).alloc (Nat.le_refl _) _⟩
  by_cases h1 : (T.length : Int) ≤ i
  · rw [getP, if_neg (by omega)]
    clear t
    generalize T.length = n at HL h1
    go_enter Tryz.func94, Tryz.ntmps94
    go_wp2_with (go_at_call 53; (with_reducible refine (HL.out _).mono ?_); rintro e w' ⟨rfl, rfl⟩)
    refine bodyPost_ret (v := .agg #[.int .u8 0, .bool false, .bool false, .int .u16 0, .int .u64 0]) (by simp [results, Tryz.results94, go_sem, *]) rfl ?_
    exact ⟨rfl, (Below.refl _ _).alloc (Nat.le_refl _) _⟩
  obtain ⟨k, rfl⟩ : ∃ k : Nat, i = (k : Int) := ⟨i.toNat, by omega⟩
  have hk : k < T.length := by omega
  rw [getP_in T k hk]
  have hl := t.pgs.lies hk
  have r0 := t.row
  have hg := t.lt
  have hh := t.pgs.lt
  clear t h0 h1
  generalize T[k]! = p at hl ⊢
  obtain ⟨s, x, wr, ow, ep⟩ := p
  obtain ⟨c0, c1, c2, c3, c4⟩ := hl
  simp only at c0 c1 c2 c3 c4
  have hki : (k : Int) < (T.length : Int) := by omega
  generalize T.length = n at HL r0 hk hki
  go_enter Tryz.func94, Tryz.ntmps94
  go_wp2_with (go_at_call 53; (with_reducible refine (HL.out _).mono ?_); rintro e w' ⟨rfl, rfl⟩)
  refine bodyPost_ret (v := .agg #[.int .u8 (s : Int), .bool x, .bool wr, .int .u16 (ow : Int), .int .u64 (ep : Int)]) (by simp [results, Tryz.results94, go_sem, *]) rfl ?_
  exact ⟨rfl, (Below.refl _ _).alloc (Nat.le_refl _) _⟩
/-- How many pages a table has. -/
def newLen (n : Int) : Nat := if n ≤ 0 then 0 else if 256 < n then 256 else n.toNat
theorem newLen_le (n : Int) : newLen n ≤ 256 := by unfold newLen; split <;> (try split) <;> omega
theorem made_at (k j : Nat) (hk : k < 5) (m : Nat) (hj : j < m) : (madeCells nz.v.cells (m * 5))[j * 5 + k]? = some nz.v.cells[k]! := by
  have e : (j * 5 + k) % nz.v.cells.size = k := by
    have : nz.v.cells.size = 5 := by decide
    rw [this]; omega
  have hlt : j * 5 + k < m * 5 := by omega
  simp only [madeCells, Array.getElem?_map]
  rw [Array.getElem?_eq_getElem (by simpa using hlt)]
  simp only [Array.getElem_range, Option.map_some, e]
theorem pgs_new (w : World) (m : Nat) (t : TypeId) : Pgs (w.alloc (.cells (madeCells nz.v.cells (m * 5)) t)) w.heap.size (List.replicate m nz) := by
  have hB := Blk.new w t (madeCells nz.v.cells (m * 5))
  refine Pgs.mk' hB.lt hB.frozen ?_
  intro i hi
  have hi' : i < m := by simpa using hi
  have e : (List.replicate m nz)[i]! = nz := by simp [List.getElem!_eq_getElem?_getD, hi']
  rw [e]
  exact ⟨(hB.cell _).trans (made_at 0 i (by decide) m hi'), (hB.cell _).trans (made_at 1 i (by decide) m hi'), (hB.cell _).trans (made_at 2 i (by decide) m hi'), (hB.cell _).trans (made_at 3 i (by decide) m hi'), (hB.cell _).trans (made_at 4 i (by decide) m hi')⟩
/-- make of m pages. -/
theorem make_pages (m : Nat) (hm : m ≤ 256) (W : World) : (Instr.makeSlice 32 (.int .i64 (m : Int)) (.int .i64 (m : Int))).run Tryz.prog W = .ok (.slice (some ⟨W.heap.size, 0, none⟩) m m) (W.alloc (.cells (madeCells nz.v.cells (m * 5)) 109)) := by
  have h := run_make (P := Tryz.prog) W 32 109 Tryz.t109 nz.v Tryz.underlying32 (by kernel_rfl) (by kernel_rfl) .i64 .i64 (m : Int) (m : Int) (by omega) (by omega)
    (by have e : Tryz.t109.bytes = 16 := by kernel_rfl
        rw [e]; omega) (by omega)
  have e5 : Tryz.t109.size = 5 := by kernel_rfl
  rw [e5] at h
  simpa using h
set_option maxRecDepth 100000 in
set_option maxHeartbeats 1000000 in
theorem new_w (w : World) (n : Int) (m : Nat) (hm : newLen n = m) (cs : Array Value) (mk : ∀ (W : World), (Instr.makeSlice 32 (.int .i64 (m : Int)) (.int .i64 (m : Int))).run Tryz.prog W = .ok (.slice (some ⟨W.heap.size, 0, none⟩) m m) (W.alloc (.cells cs 109))) :
    Calls Tryz.prog 52 #[.int .i64 n] w fun e w' => e = .returned (.pointer (some ⟨w.heap.size + 1, 0, none⟩)) ∧ w' = (w.alloc (.cells cs 109)).alloc (.cells #[.slice (some ⟨w.heap.size, 0, none⟩) m m] 106) := by
  unfold newLen at hm
  by_cases h0 : n ≤ 0
  · rw [if_pos h0] at hm
    subst hm
    simp only [Int.natCast_zero] at mk
    go_enter Tryz.func52, Tryz.ntmps52
    go_wp2_with fail
    go_ret
    exact ⟨rfl, rfl⟩
  rw [if_neg h0] at hm
  by_cases h1 : 256 < n
  · rw [if_pos h1] at hm
    subst hm
    have mk' : ∀ (W : World), (Instr.makeSlice 32 (.int .i64 256) (.int .i64 256)).run Tryz.prog W = .ok (.slice (some ⟨W.heap.size, 0, none⟩) 256 256) (W.alloc (.cells cs 109)) := mk
    clear mk
    go_enter Tryz.func52, Tryz.ntmps52
    go_wp2_with fail
    go_ret
    exact ⟨rfl, rfl⟩
  rw [if_neg h1] at hm
  obtain rfl : n = (m : Int) := by omega
  clear hm
  go_enter Tryz.func52, Tryz.ntmps52
  go_wp2_with fail
  go_ret
  exact ⟨rfl, rfl⟩
theorem new_c (w : World) (n : Int) :
    Calls Tryz.prog 52 #[.int .i64 n] w fun e w' => ∃ g h c, e = .returned (.pointer (some ⟨g, 0, none⟩)) ∧ w.heap.size ≤ g ∧ w.heap.size ≤ h ∧ Tab w' g h c (List.replicate (newLen n) nz) ∧ Below w.heap.size w w' := by
  have hm := newLen_le n
  refine (new_w w n _ rfl _ (make_pages (newLen n) hm)).mono ?_
  rintro e w' ⟨rfl, rfl⟩
  refine ⟨_, w.heap.size, newLen n, rfl, by omega, Nat.le_refl _, ⟨?_, by simp, by omega, (pgs_new w _ _).alloc _, by simpa using hm, by simp⟩, ((Below.refl _ _).alloc (Nat.le_refl _) _).alloc (by simp) _⟩
  simp
end Go.Proofs.YthnbdeibjbicpaaGreat.PM
