/- Words for the walks of law09's laws. No condition. -/
import Derived.Test.YthnbdeibjbicpaaGreatKLand
import Derived.Test.YthnbdeibjbicpaaGreatLawD6
import Derived.Test.YthnbdeibjbicpaaGreatLawD2
import Derived.Test.YthnbdeibjbicpaaGreatHartE
namespace Go.Proofs.YthnbdeibjbicpaaGreat.PM
set_option linter.unusedVariables false
set_option linter.unusedSimpArgs false
open Go.RowKit
section
variable {w0 w w' : World} {base d : Nat}
theorem UpdX.below (u : UpdX w.heap.size d w w') (b : Below w0.heap.size w0 w) (hd : w0.heap.size ≤ d) : Below w0.heap.size w0 w' :=
  ⟨u.os.trans b.os, u.tape.trans b.tape, u.output.trans b.output, Nat.le_trans b.size u.size, fun k hk => (u.block k (Nat.lt_of_lt_of_le hk b.size) (by omega)).trans (b.block k hk)⟩
theorem UpdX.blk (u : UpdX w.heap.size d w w') {k : Nat} {t : TypeId} {cs : Array Value} (h : Blk w k t cs) (hne : k ≠ d) : Blk w' k t cs := (u.block k h.lt hne).trans h
theorem RM.updx {b e : Nat} {T : List Page} {L : List Nat} (r : RM w b e T L) (u : UpdX w.heap.size d w w') (h1 : b ≠ d) (h2 : e ≠ d) : RM w' b e T L :=
  ⟨⟨Nat.lt_of_lt_of_le r.pgs.lt u.size, fun j v hj => (World.cell?_of_block (w := w) (a := ⟨b, j, none⟩) (u.block b r.pgs.lt h1)).trans (r.pgs.cells j v hj), fun o => (World.frozen?_of_block (w := w) (a := ⟨b, o, none⟩) (u.block b r.pgs.lt h1)).trans (r.pgs.free o)⟩, r.wds.block u.size (u.block e r.wds.lt h2), r.few, r.len⟩
theorem Own.updx {s : Value} {S : List Nat} (o : Own w base s S) (u : UpdX w.heap.size d w w') (h : s.ownBlock ≠ some d) : Own w' base s S :=
  o.block fun k hk => u.block k (o.lt k hk).2 (fun e => h (by rw [hk, e]))
end
theorem Blk.all13 {w : World} {g : Nat} {t : TypeId} {a0 a1 a2 a3 a4 a5 a6 a7 a8 a9 a10 a11 a12 : Value} (h : Blk w g t #[a0, a1, a2, a3, a4, a5, a6, a7, a8, a9, a10, a11, a12]) (v0 v1 v2 v3 v4 v5 v6 v7 v8 v9 v10 v11 v12 : Value) : Blk (w.setCells g 0 [v0, v1, v2, v3, v4, v5, v6, v7, v8, v9, v10, v11, v12]) g t #[v0, v1, v2, v3, v4, v5, v6, v7, v8, v9, v10, v11, v12] := by
  have := (((((((((((((h.set_ 0 v0).set_ 1 v1).set_ 2 v2).set_ 3 v3).set_ 4 v4).set_ 5 v5).set_ 6 v6).set_ 7 v7).set_ 8 v8).set_ 9 v9).set_ 10 v10).set_ 11 v11).set_ 12 v12)
  simpa [World.setCells] using this
theorem note_ne (w : World) : (binOp .neq 41 (.agg #[.bool false, .bool false, .int .u32 0, .int .u32 0]) (.agg #[.bool false, .bool false, .int .u32 0, .int .u32 0])).run Tryz.prog w = .ok (.bool false) w := by kernel_rfl
theorem note_eq (w : World) : (binOp .eql 41 (.agg #[.bool false, .bool false, .int .u32 0, .int .u32 0]) (.agg #[.bool false, .bool false, .int .u32 0, .int .u32 0])).run Tryz.prog w = .ok (.bool true) w := by kernel_rfl
end Go.Proofs.YthnbdeibjbicpaaGreat.PM
