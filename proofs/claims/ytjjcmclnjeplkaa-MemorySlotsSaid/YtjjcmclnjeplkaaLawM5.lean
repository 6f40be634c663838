/- The calls on a memory, plainly, and law08's pages. Conditions: the memories' cells. -/
import Derived.Test.YtjjcmclnjeplkaaLawM3
import Derived.Test.YtjjcmclnjeplkaaLawC3
namespace Go.Proofs.Ytjjcmclnjeplkaa.PM
set_option linter.unusedVariables false
set_option linter.unusedSimpArgs false
open Go.RowKit
/-- A call on a memory. -/
structure Act8 where
  k : Nat
  at_ : Nat
  wd : Nat
  pg : Int
  n : Int
  ow : Nat
  ep : Nat
abbrev act8v (a : Act8) : Value := .agg #[.int .u8 (a.k : Int), .int .u32 (a.at_ : Int), .int .u32 (a.wd : Int), .int .i64 a.pg, .int .i64 a.n, .int .u16 (a.ow : Int), .int .u64 (a.ep : Int)]
def pagesM (T : List Page) (a : Act8) : List Page := (stepM T ⟨a.k, a.pg, a.n, a.ow, a.ep⟩).1
def step8 (G : Nat → Nat) (T : List Page) (L : List Nat) (a : Act8) : (Nat → Nat) × List Page × List Nat :=
  if a.k % 8 = 0 ∨ a.k % 8 = 1 then (G, T, (putM T L a.at_ a.wd).1)
  else if a.k % 8 = 2 then ((setM G ((a.ow : Int) - 1) a.wd).1, T, L)
  else if a.k % 8 = 3 then (G, T, (storeM T L a.at_ a.wd a.ep a.ow).1)
  else (G, pagesM T a, L)
/-- The reference's blocks are none of those that the memory turns. -/
structure Sep8 (M h d b e : Nat) : Prop where
  bM : b ≠ M
  bh : b ≠ h
  bd : b ≠ d
  eM : e ≠ M
  eh : e ≠ h
  ed : e ≠ d
def DoP8 (w : World) (M g h c d cd b e : Nat) (S : (Nat → Nat) × List Page × List Nat) (en : Ending) (w' : World) : Prop :=
  ∃ b' cb' e' ce', en = .returned (.tuple #[rm S.1 b' cb' S.2.1 e' ce' S.2.2, .bool true]) ∧ Mem w' M g h c d cd S.1 S.2.1 S.2.2 ∧ RM w' b' e' S.2.1 S.2.2 ∧ (b' = b ∨ w.heap.size ≤ b') ∧ (e' = e ∨ w.heap.size ≤ e') ∧ Upd3 M h d w w'
theorem upd_setCells (g : Nat) : ∀ (vs : List Value) (o : Nat) (w : World), Upd g w (w.setCells g o vs)
  | [], _, w => Upd.refl g w
  | v :: vs, o, w => by
    have := upd_setCells g vs (o + 1) (w.setCell ⟨g, o, none⟩ v)
    exact (((Upd.refl g w).setCell o v)).trans this
theorem len_stage (T : List Page) (pg n : Int) (ow : Nat) : (stageM T pg n ow).1.length = T.length := by
  have h := len_step T ⟨0, pg, n, ow, 0⟩
  unfold stepM at h
  dsimp only at h
  rw [if_pos (by decide)] at h
  exact h
theorem len_pub (T : List Page) (ow : Nat) (n : Int) : (pubM T ow n).1.length = T.length := by
  have h := len_step T ⟨1, 0, n, ow, 0⟩
  unfold stepM at h
  dsimp only at h
  rw [if_neg (by decide), if_pos (by decide)] at h
  exact h
theorem len_ret (T : List Page) (ow ep : Nat) : (retM T ow ep).1.length = T.length := by
  have h := len_step T ⟨2, 0, 0, ow, ep⟩
  unfold stepM at h
  dsimp only at h
  rw [if_neg (by decide), if_neg (by decide), if_pos (by decide)] at h
  exact h
theorem len_rel (T : List Page) (ow : Nat) : (relM T ow).1.length = T.length := by
  have h := len_step T ⟨3, 0, 0, ow, 0⟩
  unfold stepM at h
  dsimp only at h
  rw [if_neg (by decide), if_neg (by decide), if_neg (by decide)] at h
  exact h
theorem Mem.upd {w w' : World} {M g h c d cd : Nat} {G : Nat → Nat} {T : List Page} {L : List Nat} (m : Mem w M g h c d cd G T L) {k : Nat} (u : Upd k w w') (h1 : M ≠ k) (h2 : g ≠ k) (h3 : h ≠ k) (h4 : d ≠ k) : Mem w' M g h c d cd G T L :=
  ⟨m.ten.upd u h1, m.tab.upd u h2 h3, m.wds.upd u h4, m.len, m.cap, m.Mg, m.Mh, m.Md, m.gd, m.hd⟩
theorem RM.upd {w w' : World} {b e : Nat} {T : List Page} {L : List Nat} (r : RM w b e T L) {k : Nat} (u : Upd k w w') (h1 : b ≠ k) (h2 : e ≠ k) : RM w' b e T L :=
  ⟨u.pgs r.pgs h1, r.wds.upd u h2, r.few, r.len⟩
end Go.Proofs.Ytjjcmclnjeplkaa.PM
