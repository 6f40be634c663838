/- law09's same. Conditions: the memories' cells. -/
import Derived.Test.YthnbdeibjbicpaaGreatKLand
import Derived.Test.YthnbdeibjbicpaaGreatKRefB
namespace Go.Proofs.YthnbdeibjbicpaaGreat.PM
set_option linter.unusedVariables false
set_option linter.unusedSimpArgs false
open Go.RowKit
theorem keep10d {w w' : World} {g : Nat} {v0 v1 v2 v3 v4 v5 v6 v7 v8 v9 : Value} (hb : Below w.heap.size w w') (c : w.cell? ⟨g, 0, none⟩ = some v0 ∧ w.cell? ⟨g, 1, none⟩ = some v1 ∧ w.cell? ⟨g, 2, none⟩ = some v2 ∧ w.cell? ⟨g, 3, none⟩ = some v3 ∧ w.cell? ⟨g, 4, none⟩ = some v4 ∧ w.cell? ⟨g, 5, none⟩ = some v5 ∧ w.cell? ⟨g, 6, none⟩ = some v6 ∧ w.cell? ⟨g, 7, none⟩ = some v7 ∧ w.cell? ⟨g, 8, none⟩ = some v8 ∧ w.cell? ⟨g, 9, none⟩ = some v9) : w'.cell? ⟨g, 0, none⟩ = some v0 ∧ w'.cell? ⟨g, 1, none⟩ = some v1 ∧ w'.cell? ⟨g, 2, none⟩ = some v2 ∧ w'.cell? ⟨g, 3, none⟩ = some v3 ∧ w'.cell? ⟨g, 4, none⟩ = some v4 ∧ w'.cell? ⟨g, 5, none⟩ = some v5 ∧ w'.cell? ⟨g, 6, none⟩ = some v6 ∧ w'.cell? ⟨g, 7, none⟩ = some v7 ∧ w'.cell? ⟨g, 8, none⟩ = some v8 ∧ w'.cell? ⟨g, 9, none⟩ = some v9 := by
  obtain ⟨k0, k1, k2, k3, k4, k5, k6, k7, k8, k9⟩ := c
  exact ⟨keep1m hb k0, keep1m hb k1, keep1m hb k2, keep1m hb k3, keep1m hb k4, keep1m hb k5, keep1m hb k6, keep1m hb k7, keep1m hb k8, keep1m hb k9⟩
theorem ten10d {w : World} {g : Nat} {t : TypeId} {v0 v1 v2 v3 v4 v5 v6 v7 v8 v9 : Value} (h : Blk w g t #[v0, v1, v2, v3, v4, v5, v6, v7, v8, v9]) : w.cell? ⟨g, 0, none⟩ = some v0 ∧ w.cell? ⟨g, 1, none⟩ = some v1 ∧ w.cell? ⟨g, 2, none⟩ = some v2 ∧ w.cell? ⟨g, 3, none⟩ = some v3 ∧ w.cell? ⟨g, 4, none⟩ = some v4 ∧ w.cell? ⟨g, 5, none⟩ = some v5 ∧ w.cell? ⟨g, 6, none⟩ = some v6 ∧ w.cell? ⟨g, 7, none⟩ = some v7 ∧ w.cell? ⟨g, 8, none⟩ = some v8 ∧ w.cell? ⟨g, 9, none⟩ = some v9 :=
  ⟨h.cell 0, h.cell 1, h.cell 2, h.cell 3, h.cell 4, h.cell 5, h.cell 6, h.cell 7, h.cell 8, h.cell 9⟩
set_option maxRecDepth 100000 in
set_option maxHeartbeats 8000000 in
theorem same9_c (w : World) (M g h c d cd b cb e ce : Nat) (G : Nat → Nat) (T : List Page) (L : List Nat) (m : Mem w M g h c d cd G T L) (r : RM w b e T L) :
    Calls Tryz.prog 10 #[.pointer (some ⟨M, 0, none⟩), rm G b cb T e ce L] w fun en w' => en = .returned (.bool true) ∧ Below w.heap.size w w' := by
  have few := r.few
  have h4 : L.length ≤ 4096 := by have := r.len; omega
  have SC := Lib.hid (fun W (q : Mem W M g h c d cd G T L) => size_c q)
  have RS := fun W => rsize_c W G b cb e ce T L h4
  have RP := fun W (q : RM W b e T L) (x : Nat) (hx : x < 4294967296) => rpeek_c W G b cb e ce T L q x hx
  have PC := Lib.hid (fun W (q : Mem W M g h c d cd G T L) (x : Nat) (hx : x < 4294967296) => peek_c q x hx)
  unfold rm at RS RP ⊢
  replace RS := Lib.hid RS
  replace RP := Lib.hid RP
  generalize hW : w.alloc (.cells #[.int .u32 (G 0 : Int), .int .u32 (G 1 : Int), .int .u32 (G 2 : Int), .int .u32 (G 3 : Int), .int .u32 (G 4 : Int), .int .u32 (G 5 : Int), .int .u32 (G 6 : Int), .int .u32 (G 7 : Int), .slice (some ⟨b, 0, none⟩) T.length cb, .slice (some ⟨e, 0, none⟩) L.length ce] 36) = W2
  have KT : Hid (Blk W2 w.heap.size 36 #[.int .u32 (G 0 : Int), .int .u32 (G 1 : Int), .int .u32 (G 2 : Int), .int .u32 (G 3 : Int), .int .u32 (G 4 : Int), .int .u32 (G 5 : Int), .int .u32 (G 6 : Int), .int .u32 (G 7 : Int), .slice (some ⟨b, 0, none⟩) T.length cb, .slice (some ⟨e, 0, none⟩) L.length ce]) := Lib.hid (hW ▸ Blk.new w 36 #[.int .u32 (G 0 : Int), .int .u32 (G 1 : Int), .int .u32 (G 2 : Int), .int .u32 (G 3 : Int), .int .u32 (G 4 : Int), .int .u32 (G 5 : Int), .int .u32 (G 6 : Int), .int .u32 (G 7 : Int), .slice (some ⟨b, 0, none⟩) T.length cb, .slice (some ⟨e, 0, none⟩) L.length ce])
  have M2 : Hid (Mem W2 M g h c d cd G T L) := Lib.hid (hW ▸ m.alloc _)
  have R2 : Hid (RM W2 b e T L) := Lib.hid (hW ▸ r.alloc _)
  have B2 : Hid (Below w.heap.size w W2) := Lib.hid (hW ▸ (Below.refl _ w).alloc (Nat.le_refl _) _)
  clear m r
  have KW := Lib.hid hW
  clear hW
  go_enter Tryz.func10, Tryz.ntmps10
  go_wp2_with fail
  (try rw [KW.out])
  go_loopg [5] (81 + L.length) (fun gg s5 wr => ∃ kk : Nat, kk ≤ 80 + L.length ∧ 80 + L.length - kk ≤ gg ∧ s5 = .int .i64 (kk : Int) ∧ Hid (Below W2.heap.size W2 wr))
  case atStart => exact ⟨0, Nat.zero_le _, by omega, rfl, Lib.hid (Below.refl _ _)⟩
  case round =>
    obtain ⟨kk, hkk, hg, rfl, BW⟩ := hrel
    have MK := Lib.hid (M2.out.kept BW.out)
    have RK := Lib.hid (R2.out.kept BW.out)
    have KK := Lib.hid (KT.out.kept BW.out)
    have BK := Lib.hid (B2.out.trans (BW.out.mono B2.out.size))
    obtain ⟨t0, t1, t2, t3, t4, t5, t6, t7, t8, t9⟩ := blkc10 KK.out
    have hk32 : kk < 4294967296 := by omega
    have hwr : IntKind.u32.wrap (kk : Int) = (kk : Int) := by unfold IntKind.wrap; simp [IntKind.bits, IntKind.signed]; omega
    have PX := fun W q => PC.out W q kk hk32
    have RX := fun W q => RP.out W q kk hk32
    generalize peekM G L kk = pv at PX RX
    replace PX := Lib.hid PX
    replace RX := Lib.hid RX
    go_wp2_with fail
    refine (RS.out _).mono ?_
    rintro en x5 ⟨rfl, hb5⟩
    have M5 := Lib.hid (MK.out.kept hb5)
    have R5 := Lib.hid (RK.out.kept hb5)
    have K5 := Lib.hid (KK.out.kept hb5)
    have B5 := Lib.hid (BK.out.trans (hb5.mono BK.out.size))
    have BW5 := Lib.hid (BW.out.trans (hb5.mono BW.out.size))
    clear hb5 t0 t1 t2 t3 t4 t5 t6 t7 t8 t9
    have TX := Lib.hid (ten10d (K5.out.drewN 1))
    obtain ⟨t0, t1, t2, t3, t4, t5, t6, t7, t8, t9⟩ := blkc10 K5.out
    by_cases hlt : kk < 80 + L.length
    · have hltz : (kk : Int) < 80 + (L.length : Int) := by omega
      go_wp2_with fail
      go_region_held3 (fun w' => w'.cell? ⟨w.heap.size, 0, none⟩ = some (.int .u32 (G 0 : Int)) ∧ w'.cell? ⟨w.heap.size, 1, none⟩ = some (.int .u32 (G 1 : Int)) ∧ w'.cell? ⟨w.heap.size, 2, none⟩ = some (.int .u32 (G 2 : Int)) ∧ w'.cell? ⟨w.heap.size, 3, none⟩ = some (.int .u32 (G 3 : Int)) ∧ w'.cell? ⟨w.heap.size, 4, none⟩ = some (.int .u32 (G 4 : Int)) ∧ w'.cell? ⟨w.heap.size, 5, none⟩ = some (.int .u32 (G 5 : Int)) ∧ w'.cell? ⟨w.heap.size, 6, none⟩ = some (.int .u32 (G 6 : Int)) ∧ w'.cell? ⟨w.heap.size, 7, none⟩ = some (.int .u32 (G 7 : Int)) ∧ w'.cell? ⟨w.heap.size, 8, none⟩ = some (.slice (some ⟨b, 0, none⟩) T.length cb) ∧ w'.cell? ⟨w.heap.size, 9, none⟩ = some (.slice (some ⟨e, 0, none⟩) L.length ce)) (first | (exact TX.out) | (apply keep10d hb6; assumption) | (apply keep10d hb7; assumption) | go_keep) ((first
        | (go_at_call 47; (with_reducible refine (PX.out _ ?_).mono ?_); (first | exact M5.out.drewN 1); rintro en w6 ⟨rfl, hb6⟩; have R6 := Lib.hid ((R5.out.drewN 1).kept hb6); have B6 := Lib.hid ((below_drewN BW5.out 1).trans (hb6.mono (below_drewN BW5.out 1).size)))
        | (go_at_call 48; (with_reducible refine (RX.out _ ?_).mono ?_); (first | exact R6.out); rintro en w7 ⟨rfl, hb7⟩; have B7 := Lib.hid (B6.out.trans (hb7.mono B6.out.size)))))
      clear hb6 hb7
      go_wp2_with fail
      go_roundg (80 + L.length - (kk + 1))
      case measure => omega
      case rel => exact ⟨kk + 1, by omega, by omega, by go_num, B7⟩
    · have hltz : ¬ (kk : Int) < 80 + (L.length : Int) := by omega
      go_wp2_with fail
      go_region_held3 (fun w' => w'.cell? ⟨w.heap.size, 0, none⟩ = some (.int .u32 (G 0 : Int)) ∧ w'.cell? ⟨w.heap.size, 1, none⟩ = some (.int .u32 (G 1 : Int)) ∧ w'.cell? ⟨w.heap.size, 2, none⟩ = some (.int .u32 (G 2 : Int)) ∧ w'.cell? ⟨w.heap.size, 3, none⟩ = some (.int .u32 (G 3 : Int)) ∧ w'.cell? ⟨w.heap.size, 4, none⟩ = some (.int .u32 (G 4 : Int)) ∧ w'.cell? ⟨w.heap.size, 5, none⟩ = some (.int .u32 (G 5 : Int)) ∧ w'.cell? ⟨w.heap.size, 6, none⟩ = some (.int .u32 (G 6 : Int)) ∧ w'.cell? ⟨w.heap.size, 7, none⟩ = some (.int .u32 (G 7 : Int)) ∧ w'.cell? ⟨w.heap.size, 8, none⟩ = some (.slice (some ⟨b, 0, none⟩) T.length cb) ∧ w'.cell? ⟨w.heap.size, 9, none⟩ = some (.slice (some ⟨e, 0, none⟩) L.length ce)) (first | (exact TX.out) | (apply keep10d hb7; assumption) | go_keep) ((first
        | (go_at_call 49; (with_reducible refine (SC.out _ ?_).mono ?_); (first | exact M5.out.drewN 1); rintro en w6 ⟨rfl, rfl⟩)
        | (go_at_call 46; (with_reducible refine (RS.out _).mono ?_); rintro en w7 ⟨rfl, hb7⟩; have B7 := Lib.hid ((below_drewN B5.out 1).trans (hb7.mono (below_drewN B5.out 1).size)))))
      go_wp2_with fail
      go_ret
      exact ⟨rfl, B7.out⟩
end Go.Proofs.YthnbdeibjbicpaaGreat.PM
