/- Both memories are told the same of an address (looks). Conditions: the memories' cells. -/
import Derived.Test.YtjjcmclnjeplkaaLawM1
import Derived.Test.YtjjcmclnjeplkaaRefD
import Derived.Test.YtjjcmclnjeplkaaRefC
import Derived.Test.YtjjcmclnjeplkaaRef8
namespace Go.Proofs.Ytjjcmclnjeplkaa.PM
set_option linter.unusedVariables false
set_option linter.unusedSimpArgs false
open Go.RowKit
set_option maxRecDepth 100000 in
set_option maxHeartbeats 8000000 in
theorem looks_c (w : World) (M g h c d cd b cb e ce : Nat) (G : Nat → Nat) (T : List Page) (L : List Nat) (m : Mem w M g h c d cd G T L) (r : RM w b e T L) (x ep : Nat) (hx : x < 4294967296) :
    Calls Try.prog 41 #[.pointer (some ⟨M, 0, none⟩), rm G b cb T e ce L, .int .u32 (x : Int), .int .u64 (ep : Int)] w fun en w' => en = .returned (.bool true) ∧ Below w.heap.size w w' := by
  have FC := fun W (q : Mem W M g h c d cd G T L) => fetch_c q x ep hx
  have RF := fun W (q : RM W b e T L) => rfetch_c W G b cb e ce T L q x ep hx
  have LC := fun W (q : Mem W M g h c d cd G T L) => load_c q x ep hx
  have RL := fun W (q : RM W b e T L) => rload_c W G b cb e ce T L q x ep hx
  have PC := fun W (q : Mem W M g h c d cd G T L) => peek_c q x hx
  have RP := fun W (q : RM W b e T L) => rpeek_c W G b cb e ce T L q x hx
  have GC := fun W (q : Mem W M g h c d cd G T L) => gate_c q ((x % 9 : Nat) : Int)
  have RG := fun W => rgate_c W G b cb e ce T L ((x % 9 : Nat) : Int)
  have htm : Int.tmod (x : Int) 9 = ((x % 9 : Nat) : Int) := by rw [Int.tmod_eq_emod_of_nonneg (by omega)]; omega
  have hy9 : x % 9 < 9 := Nat.mod_lt _ (by decide)
  have hwr : IntKind.i64.wrap ((x % 9 : Nat) : Int) = ((x % 9 : Nat) : Int) := by unfold IntKind.wrap; generalize x % 9 = y at hy9 ⊢; simp [IntKind.bits, IntKind.signed]; omega
  generalize fetchM G T L x ep = F at FC RF
  generalize loadM G T L x ep = Lo at LC RL
  generalize peekM G L x = P at PC RP
  generalize x % 9 = y at GC RG htm hy9 hwr
  generalize (if 0 ≤ (y : Int) ∧ (y : Int) < 8 then G (y : Int).toNat else 0 : Nat) = Q at GC RG
  obtain ⟨f0, f1, f2⟩ := F
  obtain ⟨l0, l1⟩ := Lo
  unfold rm at RF RL RP RG ⊢
  unfold f3 at FC RF
  unfold PM.f2 at LC RL
  simp only at FC RF LC RL
  have FC := Lib.hid FC
  have RF := Lib.hid RF
  have LC := Lib.hid LC
  have RL := Lib.hid RL
  have PC := Lib.hid PC
  have RP := Lib.hid RP
  have GC := Lib.hid GC
  have RG := Lib.hid RG
  have M_w0 := Lib.hid (m.alloc (.cells #[.int .u32 (G 0 : Int), .int .u32 (G 1 : Int), .int .u32 (G 2 : Int), .int .u32 (G 3 : Int), .int .u32 (G 4 : Int), .int .u32 (G 5 : Int), .int .u32 (G 6 : Int), .int .u32 (G 7 : Int), .slice (some ⟨b, 0, none⟩) T.length cb, .slice (some ⟨e, 0, none⟩) L.length ce] 64))
  have R_w0 := Lib.hid (r.alloc (.cells #[.int .u32 (G 0 : Int), .int .u32 (G 1 : Int), .int .u32 (G 2 : Int), .int .u32 (G 3 : Int), .int .u32 (G 4 : Int), .int .u32 (G 5 : Int), .int .u32 (G 6 : Int), .int .u32 (G 7 : Int), .slice (some ⟨b, 0, none⟩) T.length cb, .slice (some ⟨e, 0, none⟩) L.length ce] 64))
  have K_w0 := Lib.hid (Blk.new w 64 #[.int .u32 (G 0 : Int), .int .u32 (G 1 : Int), .int .u32 (G 2 : Int), .int .u32 (G 3 : Int), .int .u32 (G 4 : Int), .int .u32 (G 5 : Int), .int .u32 (G 6 : Int), .int .u32 (G 7 : Int), .slice (some ⟨b, 0, none⟩) T.length cb, .slice (some ⟨e, 0, none⟩) L.length ce])
  have B_w0 : Hid (Below w.heap.size w (w.alloc (.cells #[.int .u32 (G 0 : Int), .int .u32 (G 1 : Int), .int .u32 (G 2 : Int), .int .u32 (G 3 : Int), .int .u32 (G 4 : Int), .int .u32 (G 5 : Int), .int .u32 (G 6 : Int), .int .u32 (G 7 : Int), .slice (some ⟨b, 0, none⟩) T.length cb, .slice (some ⟨e, 0, none⟩) L.length ce] 64))) := Lib.hid ((Below.refl _ w).alloc (Nat.le_refl _) _)
  clear m r
  go_enter Try.func41, Try.ntmps41
  go_wp2_with fail
  refine (FC.out _ M_w0.out).mono ?_
  rintro en w1 ⟨rfl, hb⟩
  have M_w1 := Lib.hid (M_w0.out.kept hb)
  have R_w1 := Lib.hid (R_w0.out.kept hb)
  have K_w1 := Lib.hid (K_w0.out.kept hb)
  have B_w1 := Lib.hid (B_w0.out.trans (hb.mono B_w0.out.size))
  clear hb
  have TC := K_w1.out
  have t0 : w1.cell? ⟨w.heap.size, 0, none⟩ = some (.int .u32 (G 0 : Int)) := TC.cell 0
  have t1 : w1.cell? ⟨w.heap.size, 1, none⟩ = some (.int .u32 (G 1 : Int)) := TC.cell 1
  have t2 : w1.cell? ⟨w.heap.size, 2, none⟩ = some (.int .u32 (G 2 : Int)) := TC.cell 2
  have t3 : w1.cell? ⟨w.heap.size, 3, none⟩ = some (.int .u32 (G 3 : Int)) := TC.cell 3
  have t4 : w1.cell? ⟨w.heap.size, 4, none⟩ = some (.int .u32 (G 4 : Int)) := TC.cell 4
  have t5 : w1.cell? ⟨w.heap.size, 5, none⟩ = some (.int .u32 (G 5 : Int)) := TC.cell 5
  have t6 : w1.cell? ⟨w.heap.size, 6, none⟩ = some (.int .u32 (G 6 : Int)) := TC.cell 6
  have t7 : w1.cell? ⟨w.heap.size, 7, none⟩ = some (.int .u32 (G 7 : Int)) := TC.cell 7
  have t8 : w1.cell? ⟨w.heap.size, 8, none⟩ = some (.slice (some ⟨b, 0, none⟩) T.length cb) := TC.cell 8
  have t9 : w1.cell? ⟨w.heap.size, 9, none⟩ = some (.slice (some ⟨e, 0, none⟩) L.length ce) := TC.cell 9
  have tl := TC.lt
  clear TC
  go_wp2_with fail
  refine (RF.out _ R_w1.out).mono ?_
  rintro en w2 ⟨rfl, hb⟩
  have M_w2 := Lib.hid (M_w1.out.kept hb)
  have R_w2 := Lib.hid (R_w1.out.kept hb)
  have K_w2 := Lib.hid (K_w1.out.kept hb)
  have B_w2 := Lib.hid (B_w1.out.trans (hb.mono B_w1.out.size))
  clear hb
  clear t0 t1 t2 t3 t4 t5 t6 t7 t8 t9 tl
  go_wp2_with fail
  refine (LC.out _ M_w2.out).mono ?_
  rintro en w3 ⟨rfl, hb⟩
  have M_w3 := Lib.hid (M_w2.out.kept hb)
  have R_w3 := Lib.hid (R_w2.out.kept hb)
  have K_w3 := Lib.hid (K_w2.out.kept hb)
  have B_w3 := Lib.hid (B_w2.out.trans (hb.mono B_w2.out.size))
  clear hb
  have TC := K_w3.out
  have t0 : w3.cell? ⟨w.heap.size, 0, none⟩ = some (.int .u32 (G 0 : Int)) := TC.cell 0
  have t1 : w3.cell? ⟨w.heap.size, 1, none⟩ = some (.int .u32 (G 1 : Int)) := TC.cell 1
  have t2 : w3.cell? ⟨w.heap.size, 2, none⟩ = some (.int .u32 (G 2 : Int)) := TC.cell 2
  have t3 : w3.cell? ⟨w.heap.size, 3, none⟩ = some (.int .u32 (G 3 : Int)) := TC.cell 3
  have t4 : w3.cell? ⟨w.heap.size, 4, none⟩ = some (.int .u32 (G 4 : Int)) := TC.cell 4
  have t5 : w3.cell? ⟨w.heap.size, 5, none⟩ = some (.int .u32 (G 5 : Int)) := TC.cell 5
  have t6 : w3.cell? ⟨w.heap.size, 6, none⟩ = some (.int .u32 (G 6 : Int)) := TC.cell 6
  have t7 : w3.cell? ⟨w.heap.size, 7, none⟩ = some (.int .u32 (G 7 : Int)) := TC.cell 7
  have t8 : w3.cell? ⟨w.heap.size, 8, none⟩ = some (.slice (some ⟨b, 0, none⟩) T.length cb) := TC.cell 8
  have t9 : w3.cell? ⟨w.heap.size, 9, none⟩ = some (.slice (some ⟨e, 0, none⟩) L.length ce) := TC.cell 9
  have tl := TC.lt
  clear TC
  go_wp2_with fail
  refine (RL.out _ R_w3.out).mono ?_
  rintro en w4 ⟨rfl, hb⟩
  have M_w4 := Lib.hid (M_w3.out.kept hb)
  have R_w4 := Lib.hid (R_w3.out.kept hb)
  have K_w4 := Lib.hid (K_w3.out.kept hb)
  have B_w4 := Lib.hid (B_w3.out.trans (hb.mono B_w3.out.size))
  clear hb
  clear t0 t1 t2 t3 t4 t5 t6 t7 t8 t9 tl
  have TC := K_w4.out
  have t0 : w4.cell? ⟨w.heap.size, 0, none⟩ = some (.int .u32 (G 0 : Int)) := TC.cell 0
  have t1 : w4.cell? ⟨w.heap.size, 1, none⟩ = some (.int .u32 (G 1 : Int)) := TC.cell 1
  have t2 : w4.cell? ⟨w.heap.size, 2, none⟩ = some (.int .u32 (G 2 : Int)) := TC.cell 2
  have t3 : w4.cell? ⟨w.heap.size, 3, none⟩ = some (.int .u32 (G 3 : Int)) := TC.cell 3
  have t4 : w4.cell? ⟨w.heap.size, 4, none⟩ = some (.int .u32 (G 4 : Int)) := TC.cell 4
  have t5 : w4.cell? ⟨w.heap.size, 5, none⟩ = some (.int .u32 (G 5 : Int)) := TC.cell 5
  have t6 : w4.cell? ⟨w.heap.size, 6, none⟩ = some (.int .u32 (G 6 : Int)) := TC.cell 6
  have t7 : w4.cell? ⟨w.heap.size, 7, none⟩ = some (.int .u32 (G 7 : Int)) := TC.cell 7
  have t8 : w4.cell? ⟨w.heap.size, 8, none⟩ = some (.slice (some ⟨b, 0, none⟩) T.length cb) := TC.cell 8
  have t9 : w4.cell? ⟨w.heap.size, 9, none⟩ = some (.slice (some ⟨e, 0, none⟩) L.length ce) := TC.cell 9
  have tl := TC.lt
  clear TC
  have KT := Lib.hid (ten10 (K_w4.out.drewN 1))
  go_wp2_with fail
  go_region_held3 (fun w' => w'.cell? ⟨w.heap.size, 0, none⟩ = some (.int .u32 (G 0 : Int)) ∧ w'.cell? ⟨w.heap.size, 1, none⟩ = some (.int .u32 (G 1 : Int)) ∧ w'.cell? ⟨w.heap.size, 2, none⟩ = some (.int .u32 (G 2 : Int)) ∧ w'.cell? ⟨w.heap.size, 3, none⟩ = some (.int .u32 (G 3 : Int)) ∧ w'.cell? ⟨w.heap.size, 4, none⟩ = some (.int .u32 (G 4 : Int)) ∧ w'.cell? ⟨w.heap.size, 5, none⟩ = some (.int .u32 (G 5 : Int)) ∧ w'.cell? ⟨w.heap.size, 6, none⟩ = some (.int .u32 (G 6 : Int)) ∧ w'.cell? ⟨w.heap.size, 7, none⟩ = some (.int .u32 (G 7 : Int)) ∧ w'.cell? ⟨w.heap.size, 8, none⟩ = some (.slice (some ⟨b, 0, none⟩) T.length cb) ∧ w'.cell? ⟨w.heap.size, 9, none⟩ = some (.slice (some ⟨e, 0, none⟩) L.length ce)) (first | (exact KT.out) | (apply keep10 hb8; assumption) | (apply keep10 hb7; assumption) | (apply keep10 hb6; assumption) | (apply keep10 hb5; assumption) | go_keep) ((first
    | (go_at_call 46; (with_reducible refine (PC.out _ ?_).mono ?_); (first | exact M_w4.out.drewN 1); rintro en w5 ⟨rfl, hb5⟩; have M_w5 := Lib.hid ((M_w4.out.drewN 1).kept hb5); have R_w5 := Lib.hid ((R_w4.out.drewN 1).kept hb5); have B_w5 := Lib.hid ((below_drewN B_w4.out 1).trans (hb5.mono (below_drewN B_w4.out 1).size)))
    | (go_at_call 75; (with_reducible refine (RP.out _ ?_).mono ?_); (first | exact R_w5.out); rintro en w6 ⟨rfl, hb6⟩; have M_w6 := Lib.hid (M_w5.out.kept hb6); have B_w6 := Lib.hid (B_w5.out.trans (hb6.mono B_w5.out.size)))
    | (go_at_call 53; (with_reducible refine (GC.out _ ?_).mono ?_); (first | exact M_w6.out); rintro en w7 ⟨rfl, rfl⟩)
    | (go_at_call 76; (with_reducible refine (RG.out _).mono ?_); rintro en w8 ⟨rfl, hb8⟩; have B_w8 := Lib.hid (B_w6.out.trans (hb8.mono B_w6.out.size)))))
  go_wp2_with fail
  go_ret
  exact ⟨rfl, B_w8.out⟩
end Go.Proofs.Ytjjcmclnjeplkaa.PM
