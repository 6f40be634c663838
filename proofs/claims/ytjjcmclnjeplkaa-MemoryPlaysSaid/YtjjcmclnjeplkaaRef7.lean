/- Contracts of the reference's memory: Peek, Fetch, Load. Conditions: the memory's cells. -/
import Derived.Test.YtjjcmclnjeplkaaRef6
set_option linter.unusedSimpArgs false
namespace Go.Proofs.Ytjjcmclnjeplkaa.PM
set_option linter.unusedVariables false
open Go.RowKit
set_option maxRecDepth 100000 in
set_option maxHeartbeats 4000000 in
theorem rpeek_c (w : World) (G : Nat → Nat) (b cb d cd : Nat) (T : List Page) (L : List Nat) (r : RM w b d T L) (x : Nat) (hx : x < 4294967296) :
    Calls Try.prog 75 #[rm G b cb T d cd L, .int .u32 (x : Int)] w fun e w' => e = .returned (.int .u32 (peekM G L x : Int)) ∧ Below w.heap.size w w' := by
  unfold peekM
  by_cases h0 : x < 64
  · rw [if_pos h0]
    have hz : (x : Int) < 64 := by omega
    have E := fun W => I6.rencode_ok 21 0 0 0 (x : Int) W (by omega) (by omega) (chk_ent x h0)
    rw [encN_ent x h0] at E
    have E : ∀ W : World, Calls Try.prog 48 #[.agg #[.int .u8 21, .int .u8 0, .int .u8 0, .int .u8 0, .int .i32 (x : Int)]] W fun e w' => e = .returned (.tuple #[.int .u32 (ent x : Int), .int .i64 0]) ∧ Below W.heap.size W w' := E
    have E := Lib.hid E
    generalize ent x = z at E ⊢
    unfold rm
    clear r h0 hx
    go_enter Try.func75, Try.ntmps75
    go_wp2_with fail
    refine (E.out _).mono ?_
    rintro e w1 ⟨rfl, hb⟩
    have B := Lib.hid (((Below.refl _ w).alloc (Nat.le_refl _) _).trans (hb.mono (by simp)))
    clear hb
    go_wp2_with fail
    go_ret
    exact ⟨rfl, B.out⟩
  rw [if_neg h0]
  have hz0 : ¬ (x : Int) < 64 := by omega
  by_cases h1 : x < 72
  · rw [if_pos h1]
    obtain ⟨y, rfl⟩ : ∃ y : Nat, x = 64 + y := ⟨x - 64, by omega⟩
    have e2 : 64 + y - 64 = y := by omega
    rw [e2]
    have hy : (y : Int) < 8 := by omega
    have hy8 : y < 8 := by omega
    have cv := rgate_v G (.slice (some ⟨b, 0, none⟩) T.length cb) (.slice (some ⟨d, 0, none⟩) L.length cd) y hy8
    unfold tenc at cv
    unfold rm
    clear r h0 h1 hx e2 hz0
    go_enter Try.func75, Try.ntmps75
    go_wp2_with fail
    go_ret
    exact ⟨rfl, (Below.refl _ _).alloc (Nat.le_refl _) _⟩
  rw [if_neg h1]
  have hz1 : ¬ (x : Int) < 72 := by omega
  have TH := fun W => there_c W G b cb d cd T L (by have := r.len; have := r.few; omega) x hx
  have hiff : inB L x = true ↔ 80 ≤ x ∧ x - 80 < L.length := by unfold inB; simp
  unfold rm at TH ⊢
  by_cases h2 : 80 ≤ x ∧ x - 80 < L.length
  · rw [if_pos h2]
    rw [hiff.2 h2] at TH
    have TH := Lib.hid TH
    obtain ⟨y, rfl⟩ : ∃ y : Nat, x = 80 + y := ⟨x - 80, by omega⟩
    have e2 : 80 + y - 80 = y := by omega
    rw [e2] at h2 ⊢
    have hyl : y < L.length := h2.2
    have hyz : (y : Int) < (L.length : Int) := by omega
    have cw := r.wds.cell y hyl
    have hdl := r.wds.lt
    have hy4 : y < 4096 := by have := r.len; have := r.few; omega
    have hy4z : (y : Int) < 4096 := by omega
    generalize L[y]! = z at cw ⊢
    clear r h0 h1 h2 hx e2 hiff hz0 hz1
    go_enter Try.func75, Try.ntmps75
    go_wp2_with fail
    refine (TH.out _).mono ?_
    rintro e w1 ⟨rfl, hb⟩
    have B := Lib.hid (((Below.refl _ w).alloc (Nat.le_refl _) (.cells #[.int .u32 (G 0 : Int), .int .u32 (G 1 : Int), .int .u32 (G 2 : Int), .int .u32 (G 3 : Int), .int .u32 (G 4 : Int), .int .u32 (G 5 : Int), .int .u32 (G 6 : Int), .int .u32 (G 7 : Int), .slice (some ⟨b, 0, none⟩) T.length cb, .slice (some ⟨d, 0, none⟩) L.length cd] 64)).trans (hb.mono (by simp)))
    have cw1 : w1.cell? ⟨d, y, none⟩ = some (.int .u32 (z : Int)) := (B.out.cell (p := ⟨d, y, none⟩) hdl).trans cw
    have TC := (Blk.new w 64 #[.int .u32 (G 0 : Int), .int .u32 (G 1 : Int), .int .u32 (G 2 : Int), .int .u32 (G 3 : Int), .int .u32 (G 4 : Int), .int .u32 (G 5 : Int), .int .u32 (G 6 : Int), .int .u32 (G 7 : Int), .slice (some ⟨b, 0, none⟩) T.length cb, .slice (some ⟨d, 0, none⟩) L.length cd]).kept hb
    have t0 : w1.cell? ⟨w.heap.size, 0, none⟩ = some (.int .u32 (G 0 : Int)) := TC.cell 0
    have t1 : w1.cell? ⟨w.heap.size, 1, none⟩ = some (.int .u32 (G 1 : Int)) := TC.cell 1
    have t2 : w1.cell? ⟨w.heap.size, 2, none⟩ = some (.int .u32 (G 2 : Int)) := TC.cell 2
    have t3 : w1.cell? ⟨w.heap.size, 3, none⟩ = some (.int .u32 (G 3 : Int)) := TC.cell 3
    have t4 : w1.cell? ⟨w.heap.size, 4, none⟩ = some (.int .u32 (G 4 : Int)) := TC.cell 4
    have t5 : w1.cell? ⟨w.heap.size, 5, none⟩ = some (.int .u32 (G 5 : Int)) := TC.cell 5
    have t6 : w1.cell? ⟨w.heap.size, 6, none⟩ = some (.int .u32 (G 6 : Int)) := TC.cell 6
    have t7 : w1.cell? ⟨w.heap.size, 7, none⟩ = some (.int .u32 (G 7 : Int)) := TC.cell 7
    have t8 : w1.cell? ⟨w.heap.size, 8, none⟩ = some (.slice (some ⟨b, 0, none⟩) T.length cb) := TC.cell 8
    have t9 : w1.cell? ⟨w.heap.size, 9, none⟩ = some (.slice (some ⟨d, 0, none⟩) L.length cd) := TC.cell 9
    have tl := TC.lt
    clear TC
    clear hb cw
    go_wp2_with fail
    go_ret
    exact ⟨rfl, B.out⟩
  · rw [if_neg h2]
    rw [show inB L x = false from by cases h : inB L x; rfl; exact absurd (hiff.1 h) h2] at TH
    have TH := Lib.hid TH
    clear r h0 h1 h2 hx hiff
    go_enter Try.func75, Try.ntmps75
    go_wp2_with fail
    refine (TH.out _).mono ?_
    rintro e w1 ⟨rfl, hb⟩
    have B := Lib.hid (((Below.refl _ w).alloc (Nat.le_refl _) _).trans (hb.mono (by simp)))
    clear hb
    go_wp2_with fail
    go_ret
    exact ⟨rfl, B.out⟩
end Go.Proofs.Ytjjcmclnjeplkaa.PM
