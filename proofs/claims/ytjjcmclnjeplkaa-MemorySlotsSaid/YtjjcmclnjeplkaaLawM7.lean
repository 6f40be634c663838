/- What stands in the midst of the calls. Conditions: the memories' cells. -/
import Derived.Test.YtjjcmclnjeplkaaLawM6
namespace Go.Proofs.Ytjjcmclnjeplkaa.PM
set_option linter.unusedVariables false
set_option linter.unusedSimpArgs false
open Go.RowKit
theorem ok_step8 (G : Nat → Nat) (T : List Page) (L : List Nat) (a : Act8) (ok : OkT T) : OkT (step8 G T L a).2.1 := by
  unfold step8
  split
  · exact ok
  split
  · exact ok
  split
  · exact ok
  · exact ok_step T _ ok
/-- Ten cells, all stored anew. -/
theorem Blk.ten_set {w : World} {g : Nat} {t : TypeId} {a0 a1 a2 a3 a4 a5 a6 a7 a8 a9 : Value} (h : Blk w g t #[a0, a1, a2, a3, a4, a5, a6, a7, a8, a9]) (v0 v1 v2 v3 v4 v5 v6 v7 v8 v9 : Value) :
    Blk (w.setCells g 0 [v0, v1, v2, v3, v4, v5, v6, v7, v8, v9]) g t #[v0, v1, v2, v3, v4, v5, v6, v7, v8, v9] := by
  have := (((((((((h.set_ 0 v0).set_ 1 v1).set_ 2 v2).set_ 3 v3).set_ 4 v4).set_ 5 v5).set_ 6 v6).set_ 7 v7).set_ 8 v8).set_ 9 v9
  simpa [World.setCells] using this
/-- What stands in the midst of the calls: both memories hold the same; the reference's lies in a box. -/
structure Mid8 (w : World) (M g h c d cd B : Nat) (G : Nat → Nat) (T : List Page) (L : List Nat) (b cb e ce : Nat) : Prop where
  mem : Mem w M g h c d cd G T L
  rm : RM w b e T L
  sep : Sep8 M h d b e
  BM : B ≠ M
  Bg : B ≠ g
  Bh : B ≠ h
  Bd : B ≠ d
  Bb : B ≠ b
  Be : B ≠ e
  ok : OkT T
  box : Blk w B 64 #[.int .u32 (G 0 : Int), .int .u32 (G 1 : Int), .int .u32 (G 2 : Int), .int .u32 (G 3 : Int), .int .u32 (G 4 : Int), .int .u32 (G 5 : Int), .int .u32 (G 6 : Int), .int .u32 (G 7 : Int), .slice (some ⟨b, 0, none⟩) T.length cb, .slice (some ⟨e, 0, none⟩) L.length ce]
section
variable {w w' : World} {M g h c d cd B : Nat} {G : Nat → Nat} {T : List Page} {L : List Nat} {b cb e ce : Nat}
theorem Mid8.kept (m : Mid8 w M g h c d cd B G T L b cb e ce) (hb : Below w.heap.size w w') : Mid8 w' M g h c d cd B G T L b cb e ce :=
  ⟨m.mem.kept hb, m.rm.kept hb, m.sep, m.BM, m.Bg, m.Bh, m.Bd, m.Bb, m.Be, m.ok, m.box.kept hb⟩
theorem Mid8.drewN (m : Mid8 w M g h c d cd B G T L b cb e ce) (n : Nat) : Mid8 (w.drewN n) M g h c d cd B G T L b cb e ce := m.kept (below_drewN (Below.refl _ _) n)
/-- Behind a call, with the new value stored into the box. -/
theorem Mid8.next (m : Mid8 w M g h c d cd B G T L b cb e ce) {G' : Nat → Nat} {T' : List Page} {L' : List Nat} {b' cb' e' ce' : Nat} (m' : Mem w' M g h c d cd G' T' L') (r' : RM w' b' e' T' L') (hb : b' = b ∨ w.heap.size ≤ b') (he : e' = e ∨ w.heap.size ≤ e') (u : Upd3 M h d w w') (ok : OkT T') :
    Mid8 (w'.setCells B 0 [.int .u32 (G' 0 : Int), .int .u32 (G' 1 : Int), .int .u32 (G' 2 : Int), .int .u32 (G' 3 : Int), .int .u32 (G' 4 : Int), .int .u32 (G' 5 : Int), .int .u32 (G' 6 : Int), .int .u32 (G' 7 : Int), .slice (some ⟨b', 0, none⟩) T'.length cb', .slice (some ⟨e', 0, none⟩) L'.length ce']) M g h c d cd B G' T' L' b' cb' e' ce' := by
  have hB := m.box.lt
  have hM := m.mem.ten.lt
  have hh := m.mem.tab.pgs.lt
  have hd := m.mem.wds.lt
  have q1 := m.Bb
  have q2 := m.Be
  have q3 := m.sep.bM
  have q4 := m.sep.bh
  have q5 := m.sep.bd
  have q6 := m.sep.eM
  have q7 := m.sep.eh
  have q8 := m.sep.ed
  have hbB : B ≠ b' := by omega
  have heB : B ≠ e' := by omega
  have us := fun vs => upd_setCells B vs 0 w'
  exact ⟨m'.upd (us _) m.BM.symm m.Bg.symm m.Bh.symm m.Bd.symm, r'.upd (us _) hbB.symm heB.symm, ⟨by omega, by omega, by omega, by omega, by omega, by omega⟩, m.BM, m.Bg, m.Bh, m.Bd, hbB, heB, ok, Blk.ten_set (u.blk m.box m.BM m.Bh m.Bd) _ _ _ _ _ _ _ _ _ _⟩
end
end Go.Proofs.Ytjjcmclnjeplkaa.PM
