/- PageCans walked; what a page is that comes in by value. No condition. -/
import Derived.Test.YtjjcmclnjeplkaaLawC1
set_option linter.unusedSimpArgs false
namespace Go.Proofs.Ytjjcmclnjeplkaa.PM
set_option linter.unusedVariables false
open Go.RowKit
theorem kept_cell5 {w w' : World} {a : Addr} {v : Value} (hb : Below w.heap.size w w') (h : w.cell? a = some v) : w'.cell? a = some v := (hb.cell (World.block_lt_of_cell? _ _ h)).trans h
theorem keep5c {w w' : World} {g : Nat} {v0 v1 v2 v3 v4 : Value} (hb : Below w.heap.size w w') (c : w.cell? ⟨g, 0, none⟩ = some v0 ∧ w.cell? ⟨g, 1, none⟩ = some v1 ∧ w.cell? ⟨g, 2, none⟩ = some v2 ∧ w.cell? ⟨g, 3, none⟩ = some v3 ∧ w.cell? ⟨g, 4, none⟩ = some v4) :
    w'.cell? ⟨g, 0, none⟩ = some v0 ∧ w'.cell? ⟨g, 1, none⟩ = some v1 ∧ w'.cell? ⟨g, 2, none⟩ = some v2 ∧ w'.cell? ⟨g, 3, none⟩ = some v3 ∧ w'.cell? ⟨g, 4, none⟩ = some v4 :=
  ⟨kept_cell5 hb c.1, kept_cell5 hb c.2.1, kept_cell5 hb c.2.2.1, kept_cell5 hb c.2.2.2.1, kept_cell5 hb c.2.2.2.2⟩
theorem keep5f {w w' : World} {v0 v1 v2 v3 v4 : Value} {t N : Nat} (hb : Below ((w.alloc (.cells #[v0, v1, v2, v3, v4] t)).drewN N).heap.size ((w.alloc (.cells #[v0, v1, v2, v3, v4] t)).drewN N) w') :
    w'.cell? ⟨w.heap.size, 0, none⟩ = some v0 ∧ w'.cell? ⟨w.heap.size, 1, none⟩ = some v1 ∧ w'.cell? ⟨w.heap.size, 2, none⟩ = some v2 ∧ w'.cell? ⟨w.heap.size, 3, none⟩ = some v3 ∧ w'.cell? ⟨w.heap.size, 4, none⟩ = some v4 :=
  keep5c hb ((Blk.new w t #[v0, v1, v2, v3, v4]).drewN N).five
set_option maxHeartbeats 4000000 in
theorem law_cans (s : Nat) (x wr : Bool) (ow ep e o : Nat) (w : World) :
    Calls Try.prog 3 #[P1.pg s x wr ow ep, .int .u64 (e : Int), .int .u16 (o : Int)] w fun r w' => r = .returned (.bool true) ∧ Below w.heap.size w w' := by
  have H1 := Lib.hid (fun W => P1.reads_c s x wr ow ep e W)
  have H2 := Lib.hid (fun W => P1.rreads_c s x wr ow ep e W)
  have H3 := Lib.hid (fun W => P1.runs_c s x wr ow ep e W)
  have H4 := Lib.hid (fun W => P1.rruns_c s x wr ow ep e W)
  have H5 := Lib.hid (fun W => P1.writes_c s x wr ow ep e o W)
  have H6 := Lib.hid (fun W => P1.rwrites_c s x wr ow ep e o W)
  generalize (wr && ((o : Int) != 0) && ((ow : Int) == (o : Int)) && P1.see s e ep) = y3 at H5 H6
  generalize (x && P1.see s e ep) = y2 at H3 H4
  generalize P1.see s e ep = y1 at H1 H2
  go_enter Try.func3, Try.ntmps3
  go_wp2_with fail
  go_region_held3 (fun w' => w'.cell? ⟨w.heap.size, 0, none⟩ = some (.int .u8 (s : Int)) ∧ w'.cell? ⟨w.heap.size, 1, none⟩ = some (.bool x) ∧ w'.cell? ⟨w.heap.size, 2, none⟩ = some (.bool wr) ∧ w'.cell? ⟨w.heap.size, 3, none⟩ = some (.int .u16 (ow : Int)) ∧ w'.cell? ⟨w.heap.size, 4, none⟩ = some (.int .u64 (ep : Int))) (first | go_keep | (apply keep5f; assumption) | (apply keep5c; assumption; assumption)) ((first | (go_at_call 15; (with_reducible refine (H1.out _).mono ?_); rintro e w' ⟨rfl, hb1⟩) | (go_at_call 16; (with_reducible refine (H2.out _).mono ?_); rintro e w' ⟨rfl, hb2⟩) | (go_at_call 17; (with_reducible refine (H3.out _).mono ?_); rintro e w' ⟨rfl, hb3⟩) | (go_at_call 18; (with_reducible refine (H4.out _).mono ?_); rintro e w' ⟨rfl, hb4⟩) | (go_at_call 19; (with_reducible refine (H5.out _).mono ?_); rintro e w' ⟨rfl, hb5⟩) | (go_at_call 20; (with_reducible refine (H6.out _).mono ?_); rintro e w' ⟨rfl, hb6⟩) | (go_at_call 21; (with_reducible refine (awake06_c _).mono ?_); rintro e w' ⟨rfl, hb7⟩)))
  go_wp2
  go_ret
  exact ⟨rfl, below_then (below_then (below_then (below_then (below_then (below_then (below_then (((Below.refl _ _).alloc (Nat.le_refl _) _).drew) hb1) hb2) hb3) hb4) hb5) hb6) hb7⟩
end Go.Proofs.Ytjjcmclnjeplkaa.PM
