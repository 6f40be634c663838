/- Contracts of hart.Step: jumps, plain instructions. Conditions: the cells. -/
import Derived.Test.YthnbdeibjbicpaaGreatHartA
namespace Go.Proofs.YthnbdeibjbicpaaGreat.PM
set_option linter.unusedVariables false
set_option linter.unusedSimpArgs false
open Go.RowKit Go.Shelf Go.Lib
set_option maxRecDepth 100000 in
set_option maxHeartbeats 16000000 in
theorem step_jump (w : World) (M g h c d cd : Nat) (G : Nat → Nat) (T : List Page) (L : List Nat) (pc : Nat) (R : Nat → Nat) (S : List Nat) (ep home epoch why : Nat) (src : Option Addr) (cap : Nat) (m : Mem w M g h c d cd G T L) (hS : Stk w src S) (hn : S.length < 35184372088832) (hw : ((why : Int) != 0) = false) (hpc : pc < 4294967296) (hz : why = 0) (f0 f1 : Nat) (hf : fetchM G T L pc ep = (f0, f1, true)) (op rd ra rb : Nat) (imm : Int) (DO : ∀ W, Calls Tryz.prog 27 #[.int .u32 (f0 : Int)] W fun e w' => e = .returned (.tuple #[.agg #[.int .u8 (op : Int), .int .u8 (rd : Int), .int .u8 (ra : Int), .int .u8 (rb : Int), .int .i32 imm], .int .i64 0]) ∧ Below W.heap.size W w') (oo : Out) (q3 : (3 : Int) ≤ (op : Int)) (q10 : ¬ (op : Int) ≤ 10) (q12 : ((op : Int) == 12) = false) (q13 : ((op : Int) == 13) = false) (q14 : (14 : Int) ≤ (op : Int)) (GC : ∀ W B s, Pre W (w.heap.size + 3) B pc R s S ep home M g h c d cd G T L epoch f1 → Calls Tryz.prog 32 #[.pointer (some ⟨B, 0, none⟩), .agg #[.int .u8 (op : Int), .int .u8 (rd : Int), .int .u8 (ra : Int), .int .u8 (rb : Int), .int .i32 imm]] W fun e w' => GP W (w.heap.size + 3) B M g h c d cd G T home epoch f1 oo e w') :
    Calls Tryz.prog 7 #[hv pc R (.slice src S.length cap) why ep home, .pointer (some ⟨M, 0, none⟩), .int .u64 (epoch : Int)] w fun e w' => StepP w M g h c d cd G T home (oo) e w' := by
  have lM := m.ten.lt
  have lg := m.tab.lt
  have lh := m.tab.pgs.lt
  have ld := m.wds.lt
  have FC := fun W (q : Mem W M g h c d cd G T L) => fetch_c q pc ep hpc
  rw [hf] at FC
  unfold f3 at FC
  simp only at FC
  replace FC := Lib.hid FC
  replace DO := Lib.hid DO
  replace hz := Lib.hid hz
  replace hf := Lib.hid hf
  replace GC := Lib.hid GC
  have K3 := Lib.hid (((Blk.new w 30 #[.int .u32 (pc : Int), .int .u32 (R 0 : Int), .int .u32 (R 1 : Int), .int .u32 (R 2 : Int), .int .u32 (R 3 : Int), .int .u32 (R 4 : Int), .int .u32 (R 5 : Int), .int .u32 (R 6 : Int), .int .u32 (R 7 : Int), (.slice src S.length cap), .int .u8 (why : Int), .int .u64 (ep : Int), .int .u32 (home : Int)]).alloc (.cells #[.int .u32 0, .int .u32 0, .int .u32 0, .int .u32 0, .int .u32 0, .int .u32 0, .int .u32 0, .int .u32 0, .int .u32 0, .slice none 0 0, .int .u8 0, .int .u64 0, .int .u32 0] 30)).alloc (.cells #[.bool false, .bool false, .int .u32 0, .int .u32 0] 41))
  have K6 := Lib.hid ((Blk.new (w.alloc (.cells #[.int .u32 (pc : Int), .int .u32 (R 0 : Int), .int .u32 (R 1 : Int), .int .u32 (R 2 : Int), .int .u32 (R 3 : Int), .int .u32 (R 4 : Int), .int .u32 (R 5 : Int), .int .u32 (R 6 : Int), .int .u32 (R 7 : Int), (.slice src S.length cap), .int .u8 (why : Int), .int .u64 (ep : Int), .int .u32 (home : Int)] 30)) 30 #[.int .u32 0, .int .u32 0, .int .u32 0, .int .u32 0, .int .u32 0, .int .u32 0, .int .u32 0, .int .u32 0, .int .u32 0, .slice none 0 0, .int .u8 0, .int .u64 0, .int .u32 0]).alloc (.cells #[.bool false, .bool false, .int .u32 0, .int .u32 0] 41))
  have K7 := Lib.hid (Blk.new ((w.alloc (.cells #[.int .u32 (pc : Int), .int .u32 (R 0 : Int), .int .u32 (R 1 : Int), .int .u32 (R 2 : Int), .int .u32 (R 3 : Int), .int .u32 (R 4 : Int), .int .u32 (R 5 : Int), .int .u32 (R 6 : Int), .int .u32 (R 7 : Int), (.slice src S.length cap), .int .u8 (why : Int), .int .u64 (ep : Int), .int .u32 (home : Int)] 30)).alloc (.cells #[.int .u32 0, .int .u32 0, .int .u32 0, .int .u32 0, .int .u32 0, .int .u32 0, .int .u32 0, .int .u32 0, .int .u32 0, .slice none 0 0, .int .u8 0, .int .u64 0, .int .u32 0] 30)) 41 #[.bool false, .bool false, .int .u32 0, .int .u32 0])
  have C : Hid (Stk (((w.alloc (.cells #[.int .u32 (pc : Int), .int .u32 (R 0 : Int), .int .u32 (R 1 : Int), .int .u32 (R 2 : Int), .int .u32 (R 3 : Int), .int .u32 (R 4 : Int), .int .u32 (R 5 : Int), .int .u32 (R 6 : Int), .int .u32 (R 7 : Int), (.slice src S.length cap), .int .u8 (why : Int), .int .u64 (ep : Int), .int .u32 (home : Int)] 30)).alloc (.cells #[.int .u32 0, .int .u32 0, .int .u32 0, .int .u32 0, .int .u32 0, .int .u32 0, .int .u32 0, .int .u32 0, .int .u32 0, .slice none 0 0, .int .u8 0, .int .u64 0, .int .u32 0] 30)).alloc (.cells #[.bool false, .bool false, .int .u32 0, .int .u32 0] 41)) src S) := Lib.hid (((hS.kept ((Below.refl _ w).alloc (Nat.le_refl _) _)).kept ((Below.refl _ _).alloc (Nat.le_refl _) _)).kept ((Below.refl _ _).alloc (Nat.le_refl _) _))
  have B0 : Hid (Below w.heap.size w (((w.alloc (.cells #[.int .u32 (pc : Int), .int .u32 (R 0 : Int), .int .u32 (R 1 : Int), .int .u32 (R 2 : Int), .int .u32 (R 3 : Int), .int .u32 (R 4 : Int), .int .u32 (R 5 : Int), .int .u32 (R 6 : Int), .int .u32 (R 7 : Int), (.slice src S.length cap), .int .u8 (why : Int), .int .u64 (ep : Int), .int .u32 (home : Int)] 30)).alloc (.cells #[.int .u32 0, .int .u32 0, .int .u32 0, .int .u32 0, .int .u32 0, .int .u32 0, .int .u32 0, .int .u32 0, .int .u32 0, .slice none 0 0, .int .u8 0, .int .u64 0, .int .u32 0] 30)).alloc (.cells #[.bool false, .bool false, .int .u32 0, .int .u32 0] 41))) := Lib.hid ((((Below.refl _ w).alloc (Nat.le_refl _) _).alloc (by simp) _).alloc (by simp; omega) _)
  have M0 : Hid (Mem (((w.alloc (.cells #[.int .u32 (pc : Int), .int .u32 (R 0 : Int), .int .u32 (R 1 : Int), .int .u32 (R 2 : Int), .int .u32 (R 3 : Int), .int .u32 (R 4 : Int), .int .u32 (R 5 : Int), .int .u32 (R 6 : Int), .int .u32 (R 7 : Int), (.slice src S.length cap), .int .u8 (why : Int), .int .u64 (ep : Int), .int .u32 (home : Int)] 30)).alloc (.cells #[.int .u32 0, .int .u32 0, .int .u32 0, .int .u32 0, .int .u32 0, .int .u32 0, .int .u32 0, .int .u32 0, .int .u32 0, .slice none 0 0, .int .u8 0, .int .u64 0, .int .u32 0] 30)).alloc (.cells #[.bool false, .bool false, .int .u32 0, .int .u32 0] 41)) M g h c d cd G T L) := Lib.hid (((m.alloc _).alloc _).alloc _)
  generalize hW : ((w.alloc (.cells #[.int .u32 (pc : Int), .int .u32 (R 0 : Int), .int .u32 (R 1 : Int), .int .u32 (R 2 : Int), .int .u32 (R 3 : Int), .int .u32 (R 4 : Int), .int .u32 (R 5 : Int), .int .u32 (R 6 : Int), .int .u32 (R 7 : Int), (.slice src S.length cap), .int .u8 (why : Int), .int .u64 (ep : Int), .int .u32 (home : Int)] 30)).alloc (.cells #[.int .u32 0, .int .u32 0, .int .u32 0, .int .u32 0, .int .u32 0, .int .u32 0, .int .u32 0, .int .u32 0, .int .u32 0, .slice none 0 0, .int .u8 0, .int .u64 0, .int .u32 0] 30)).alloc (.cells #[.bool false, .bool false, .int .u32 0, .int .u32 0] 41) = W at K3 K6 K7 C B0 M0
  have hsz : W.heap.size = w.heap.size + 3 := by rw [← hW]; simp
  replace K6 : Hid (Blk W (w.heap.size + 1) 30 #[.int .u32 0, .int .u32 0, .int .u32 0, .int .u32 0, .int .u32 0, .int .u32 0, .int .u32 0, .int .u32 0, .int .u32 0, .slice none 0 0, .int .u8 0, .int .u64 0, .int .u32 0]) := Lib.hid (by have := K6.out; simpa using this)
  replace K7 : Hid (Blk W (w.heap.size + 1 + 1) 41 #[.bool false, .bool false, .int .u32 0, .int .u32 0]) := Lib.hid (by have := K7.out; simpa using this)
  have CC := Lib.hid (copy_c W pc R src cap why ep home S C.out (by omega))
  have KW := Lib.hid hW
  clear hW hS C m
  obtain ⟨t0, t1, t2, t3, t4, t5, t6, t7, t8, t9, t10, t11, t12⟩ := blkc13 K3.out
  unfold hv at CC ⊢
  go_enter Tryz.func7, Tryz.ntmps7
  go_wp2_with fail
  (try rw [KW.out])
  refine CC.out.mono ?_
  rintro e w1 ⟨s, rfl, ow, hb⟩
  obtain ⟨src2, cap2, rfl, _⟩ := ow.form
  rw [hsz] at ow
  have k3 := K3.out.kept hb
  have k6 := K6.out.kept hb
  have k7 := K7.out.kept hb
  have hl3 : w.heap.size < w1.heap.size := k3.lt
  have hl6 : w.heap.size + 1 < w1.heap.size := k6.lt
  have hl7 : w.heap.size + 1 + 1 < w1.heap.size := k7.lt
  have SP1 : Hid (SP w (w.heap.size + 3) M g h c d cd G T L S (.slice src2 S.length cap2) w1) := Lib.hid ⟨ow, M0.out.kept hb, UpdX.of (B0.out.trans (hb.mono B0.out.size))⟩
  clear ow hb K3 K6 K7 B0 M0 CC KW t0 t1 t2 t3 t4 t5 t6 t7 t8 t9 t10 t11 t12
  have t0 : w1.cell? ⟨w.heap.size, 0, none⟩ = some (.int .u32 (pc : Int)) := k3.cell 0
  have t10 : w1.cell? ⟨w.heap.size, 10, none⟩ = some (.int .u8 (why : Int)) := k3.cell 10
  have t11 : w1.cell? ⟨w.heap.size, 11, none⟩ = some (.int .u64 (ep : Int)) := k3.cell 11
  have KB : Hid (RunB (w1.alloc (.cells #[.int .u32 (pc : Int), .int .u32 (R 0 : Int), .int .u32 (R 1 : Int), .int .u32 (R 2 : Int), .int .u32 (R 3 : Int), .int .u32 (R 4 : Int), .int .u32 (R 5 : Int), .int .u32 (R 6 : Int), .int .u32 (R 7 : Int), (.slice src2 S.length cap2), .int .u8 (why : Int), .int .u64 (ep : Int), .int .u32 (home : Int), .pointer (some ⟨M, 0, none⟩), .int .u64 (epoch : Int), .int .u16 0, .bool false, .bool false, .int .u32 0, .int .u32 0] 73)) w1.heap.size pc R (.slice src2 S.length cap2) why ep home (.pointer (some ⟨M, 0, none⟩)) epoch 0 false false 0 0) := Lib.hid (Blk.new w1 73 #[.int .u32 (pc : Int), .int .u32 (R 0 : Int), .int .u32 (R 1 : Int), .int .u32 (R 2 : Int), .int .u32 (R 3 : Int), .int .u32 (R 4 : Int), .int .u32 (R 5 : Int), .int .u32 (R 6 : Int), .int .u32 (R 7 : Int), (.slice src2 S.length cap2), .int .u8 (why : Int), .int .u64 (ep : Int), .int .u32 (home : Int), .pointer (some ⟨M, 0, none⟩), .int .u64 (epoch : Int), .int .u16 0, .bool false, .bool false, .int .u32 0, .int .u32 0])
  have SP2 := Lib.hid (SP1.out.alloc (.cells #[.int .u32 (pc : Int), .int .u32 (R 0 : Int), .int .u32 (R 1 : Int), .int .u32 (R 2 : Int), .int .u32 (R 3 : Int), .int .u32 (R 4 : Int), .int .u32 (R 5 : Int), .int .u32 (R 6 : Int), .int .u32 (R 7 : Int), (.slice src2 S.length cap2), .int .u8 (why : Int), .int .u64 (ep : Int), .int .u32 (home : Int), .pointer (some ⟨M, 0, none⟩), .int .u64 (epoch : Int), .int .u16 0, .bool false, .bool false, .int .u32 0, .int .u32 0] 73))
  have A6 := Lib.hid (k6.alloc (.cells #[.int .u32 (pc : Int), .int .u32 (R 0 : Int), .int .u32 (R 1 : Int), .int .u32 (R 2 : Int), .int .u32 (R 3 : Int), .int .u32 (R 4 : Int), .int .u32 (R 5 : Int), .int .u32 (R 6 : Int), .int .u32 (R 7 : Int), (.slice src2 S.length cap2), .int .u8 (why : Int), .int .u64 (ep : Int), .int .u32 (home : Int), .pointer (some ⟨M, 0, none⟩), .int .u64 (epoch : Int), .int .u16 0, .bool false, .bool false, .int .u32 0, .int .u32 0] 73))
  have A7 := Lib.hid (k7.alloc (.cells #[.int .u32 (pc : Int), .int .u32 (R 0 : Int), .int .u32 (R 1 : Int), .int .u32 (R 2 : Int), .int .u32 (R 3 : Int), .int .u32 (R 4 : Int), .int .u32 (R 5 : Int), .int .u32 (R 6 : Int), .int .u32 (R 7 : Int), (.slice src2 S.length cap2), .int .u8 (why : Int), .int .u64 (ep : Int), .int .u32 (home : Int), .pointer (some ⟨M, 0, none⟩), .int .u64 (epoch : Int), .int .u16 0, .bool false, .bool false, .int .u32 0, .int .u32 0] 73))
  generalize hW2 : w1.alloc (.cells #[.int .u32 (pc : Int), .int .u32 (R 0 : Int), .int .u32 (R 1 : Int), .int .u32 (R 2 : Int), .int .u32 (R 3 : Int), .int .u32 (R 4 : Int), .int .u32 (R 5 : Int), .int .u32 (R 6 : Int), .int .u32 (R 7 : Int), (.slice src2 S.length cap2), .int .u8 (why : Int), .int .u64 (ep : Int), .int .u32 (home : Int), .pointer (some ⟨M, 0, none⟩), .int .u64 (epoch : Int), .int .u16 0, .bool false, .bool false, .int .u32 0, .int .u32 0] 73) = W2 at KB SP2 A6 A7
  have KW2 := Lib.hid hW2
  have sz2 : W2.heap.size = w1.heap.size + 1 := by rw [← hW2]; simp
  clear hW2 SP1 k3 k6 k7
  go_wp2_with fail
  (try rw [KW2.out])
  refine (FC.out _ SP2.out.2.1).mono ?_
  rintro e w3 ⟨rfl, hb3⟩
  have K3b : Hid (RunB w3 w1.heap.size pc R (.slice src2 S.length cap2) why ep home (.pointer (some ⟨M, 0, none⟩)) epoch 0 false false 0 0) := Lib.hid (Blk.kept KB.out hb3)
  have SP3 : Hid (SP w (w.heap.size + 3) M g h c d cd G T L S (.slice src2 S.length cap2) w3) := Lib.hid ⟨SP2.out.1.kept hb3, SP2.out.2.1.kept hb3, SP2.out.2.2.trans (UpdX.of (hb3.mono SP2.out.2.2.size))⟩
  have C6 := A6.out.kept hb3
  have C7 := A7.out.kept hb3
  have hlB : w1.heap.size < w3.heap.size := K3b.out.lt
  clear KB SP2 A6 A7 hb3 FC KW2 t0 t10 t11
  go_wp2_with fail
  refine (DO.out _).mono ?_
  rintro e w4 ⟨rfl, hb4⟩
  have K4b : Hid (RunB w4 w1.heap.size pc R (.slice src2 S.length cap2) why ep home (.pointer (some ⟨M, 0, none⟩)) epoch 0 false false 0 0) := Lib.hid (Blk.kept K3b.out hb4)
  have SP4 : Hid (SP w (w.heap.size + 3) M g h c d cd G T L S (.slice src2 S.length cap2) w4) := Lib.hid ⟨SP3.out.1.kept hb4, SP3.out.2.1.kept hb4, SP3.out.2.2.trans (UpdX.of (hb4.mono SP3.out.2.2.size))⟩
  have D6 := C6.kept hb4
  have D7 := C7.kept hb4
  have hlB4 : w1.heap.size < w4.heap.size := K4b.out.lt
  clear K3b SP3 C6 C7 hb4 DO
  have r15 : w4.cell? ⟨w1.heap.size, 15, none⟩ = some (.int .u16 (0 : Int)) := K4b.out.cell 15
  have fr15 : w4.frozen? ⟨w1.heap.size, 15, none⟩ = false := K4b.out.frozen 15
  have K5 : Hid (RunB ((w4.setCell ⟨w1.heap.size, 15, none⟩ (.int .u16 (f1 : Int))).alloc (.cells #[.int .u8 (op : Int), .int .u8 (rd : Int), .int .u8 (ra : Int), .int .u8 (rb : Int), .int .i32 imm] 78)) w1.heap.size pc R (.slice src2 S.length cap2) why ep home (.pointer (some ⟨M, 0, none⟩)) epoch f1 false false 0 0) := Lib.hid (by
    have k := Blk.alloc (Blk.set_ K4b.out 15 (.int .u16 (f1 : Int))) (.cells #[.int .u8 (op : Int), .int .u8 (rd : Int), .int .u8 (ra : Int), .int .u8 (rb : Int), .int .i32 imm] 78)
    unfold RunB
    simpa using k)
  have u15 : Upd w1.heap.size w4 (w4.setCell ⟨w1.heap.size, 15, none⟩ (.int .u16 (f1 : Int))) := (Upd.refl _ w4).setCell 15 _
  have SP5 := Lib.hid ((SP4.out.upd u15 (by omega) (SP4.out.1.apart K4b.out) lM lg lh ld).alloc (.cells #[.int .u8 (op : Int), .int .u8 (rd : Int), .int .u8 (ra : Int), .int .u8 (rb : Int), .int .i32 imm] 78))
  have E6 := Lib.hid (Blk.alloc (u15.blk D6 (by omega)) (.cells #[.int .u8 (op : Int), .int .u8 (rd : Int), .int .u8 (ra : Int), .int .u8 (rb : Int), .int .i32 imm] 78))
  have E7 := Lib.hid (Blk.alloc (u15.blk D7 (by omega)) (.cells #[.int .u8 (op : Int), .int .u8 (rd : Int), .int .u8 (ra : Int), .int .u8 (rb : Int), .int .i32 imm] 78))
  have I5 : Hid (Blk ((w4.setCell ⟨w1.heap.size, 15, none⟩ (.int .u16 (f1 : Int))).alloc (.cells #[.int .u8 (op : Int), .int .u8 (rd : Int), .int .u8 (ra : Int), .int .u8 (rb : Int), .int .i32 imm] 78)) w4.heap.size 78 #[.int .u8 (op : Int), .int .u8 (rd : Int), .int .u8 (ra : Int), .int .u8 (rb : Int), .int .i32 imm]) := Lib.hid (by have := Blk.new (w4.setCell ⟨w1.heap.size, 15, none⟩ (.int .u16 (f1 : Int))) 78 #[.int .u8 (op : Int), .int .u8 (rd : Int), .int .u8 (ra : Int), .int .u8 (rb : Int), .int .i32 imm]; simpa [World.setCell] using this)
  generalize hW5 : (w4.setCell ⟨w1.heap.size, 15, none⟩ (.int .u16 (f1 : Int))).alloc (.cells #[.int .u8 (op : Int), .int .u8 (rd : Int), .int .u8 (ra : Int), .int .u8 (rb : Int), .int .i32 imm] 78) = W5 at K5 SP5 E6 E7 I5
  have PR : Hid (Pre W5 (w.heap.size + 3) w1.heap.size pc R (.slice src2 S.length cap2) S ep home M g h c d cd G T L epoch f1) := Lib.hid ⟨by have := K5.out; rw [hz.out] at this; exact this, SP5.out.1, SP5.out.2.1, by omega, by omega, by omega, by omega, by omega⟩
  have KW5 := Lib.hid hW5
  clear hW5 K4b SP4 D6 D7 u15 K5
  go_wp2_with fail
  (try rw [KW5.out])
  refine (GC.out _ _ _ PR.out).mono ?_
  intro e w7 gp
  obtain ⟨pc7, R7, S7, why7, ep7, L7, nS7, nT7, nA7, nW7⟩ := oo
  obtain ⟨rfl, s7, k7, o7, m7, u7⟩ := gp
  obtain ⟨src7, cap7, rfl, _⟩ := o7.form
  simp only at k7 o7 m7
  have q6 : Blk w7 (w.heap.size + 1) 30 #[.int .u32 0, .int .u32 0, .int .u32 0, .int .u32 0, .int .u32 0, .int .u32 0, .int .u32 0, .int .u32 0, .int .u32 0, .slice none 0 0, .int .u8 0, .int .u64 0, .int .u32 0] := (u7.block _ (by omega) (by omega)).trans E6.out
  have q7 : Blk w7 (w.heap.size + 1 + 1) 41 #[.bool false, .bool false, .int .u32 0, .int .u32 0] := (u7.block _ (by omega) (by omega)).trans E7.out
  have SP7 : SP w (w.heap.size + 3) M g h c d cd G T L7 S7 (.slice src7 S7.length cap7) w7 := ⟨o7, m7, SP5.out.2.2.trans ⟨u7.os, u7.tape, u7.output, u7.size, fun k h1 h2 => u7.block k (by omega) h2⟩⟩
  have r0 : w7.cell? ⟨w1.heap.size, 0, none⟩ = some (.int .u32 (pc7 : Int)) := k7.cell 0
  have r1 : w7.cell? ⟨w1.heap.size, 1, none⟩ = some (.int .u32 (R7 0 : Int)) := k7.cell 1
  have r2 : w7.cell? ⟨w1.heap.size, 2, none⟩ = some (.int .u32 (R7 1 : Int)) := k7.cell 2
  have r3 : w7.cell? ⟨w1.heap.size, 3, none⟩ = some (.int .u32 (R7 2 : Int)) := k7.cell 3
  have r4 : w7.cell? ⟨w1.heap.size, 4, none⟩ = some (.int .u32 (R7 3 : Int)) := k7.cell 4
  have r5 : w7.cell? ⟨w1.heap.size, 5, none⟩ = some (.int .u32 (R7 4 : Int)) := k7.cell 5
  have r6 : w7.cell? ⟨w1.heap.size, 6, none⟩ = some (.int .u32 (R7 5 : Int)) := k7.cell 6
  have r7 : w7.cell? ⟨w1.heap.size, 7, none⟩ = some (.int .u32 (R7 6 : Int)) := k7.cell 7
  have r8 : w7.cell? ⟨w1.heap.size, 8, none⟩ = some (.int .u32 (R7 7 : Int)) := k7.cell 8
  have r9 : w7.cell? ⟨w1.heap.size, 9, none⟩ = some ((.slice src7 S7.length cap7)) := k7.cell 9
  have r10 : w7.cell? ⟨w1.heap.size, 10, none⟩ = some (.int .u8 (why7 : Int)) := k7.cell 10
  have r11 : w7.cell? ⟨w1.heap.size, 11, none⟩ = some (.int .u64 (ep7 : Int)) := k7.cell 11
  have r12 : w7.cell? ⟨w1.heap.size, 12, none⟩ = some (.int .u32 (home : Int)) := k7.cell 12
  have r16 : w7.cell? ⟨w1.heap.size, 16, none⟩ = some (.bool nS7) := k7.cell 16
  have r17 : w7.cell? ⟨w1.heap.size, 17, none⟩ = some (.bool nT7) := k7.cell 17
  have r18 : w7.cell? ⟨w1.heap.size, 18, none⟩ = some (.int .u32 (nA7 : Int)) := k7.cell 18
  have r19 : w7.cell? ⟨w1.heap.size, 19, none⟩ = some (.int .u32 (nW7 : Int)) := k7.cell 19
  obtain ⟨z0, fz0, z1, fz1, z2, fz2, z3, fz3, z4, fz4, z5, fz5, z6, fz6, z7, fz7, z8, fz8, z9, fz9, z10, fz10, z11, fz11, z12, fz12⟩ := blkf13 q6
  obtain ⟨y0, fy0, y1, fy1, y2, fy2, y3, fy3⟩ := blkf4 q7
  have n1 : w.heap.size + 1 ≠ w1.heap.size := by omega
  have n2 : w.heap.size + 1 + 1 ≠ w1.heap.size := by omega
  have F1 : Hid (∀ vs1 vs2, StepP w M g h c d cd G T home ⟨pc7, R7, S7, why7, ep7, L7, nS7, nT7, nA7, nW7⟩ (.returned (.tuple #[.agg #[.int .u32 (pc7 : Int), .int .u32 (R7 0 : Int), .int .u32 (R7 1 : Int), .int .u32 (R7 2 : Int), .int .u32 (R7 3 : Int), .int .u32 (R7 4 : Int), .int .u32 (R7 5 : Int), .int .u32 (R7 6 : Int), .int .u32 (R7 7 : Int), (.slice src7 S7.length cap7), .int .u8 (why7 : Int), .int .u64 (ep7 : Int), .int .u32 (home : Int)], .agg #[.bool nS7, .bool nT7, .int .u32 (nA7 : Int), .int .u32 (nW7 : Int)]])) (((w7.setCells (w.heap.size + 1) 0 vs1).setCells (w.heap.size + 1 + 1) 0 vs2).drew)) := Lib.hid fun vs1 vs2 =>
    ⟨(.slice src7 S7.length cap7), rfl, (((SP7.upd (upd_cells _ vs1 0 _) (by omega) (SP7.low (by omega)) lM lg lh ld).upd (upd_cells _ vs2 0 _) (by omega) (SP7.low (by omega)) lM lg lh ld).upd ((Upd.refl (w.heap.size + 1) _).drewN 1) (by omega) (SP7.low (by omega)) lM lg lh ld).mono (by omega)⟩
  have F2 : Hid (∀ vs1 vs2, StepP w M g h c d cd G T home ⟨pc7, R7, S7, why7, ep7, L7, nS7, nT7, nA7, nW7⟩ (.returned (.tuple #[.agg #[.int .u32 (pc7 : Int), .int .u32 (R7 0 : Int), .int .u32 (R7 1 : Int), .int .u32 (R7 2 : Int), .int .u32 (R7 3 : Int), .int .u32 (R7 4 : Int), .int .u32 (R7 5 : Int), .int .u32 (R7 6 : Int), .int .u32 (R7 7 : Int), (.slice src7 S7.length cap7), .int .u8 (why7 : Int), .int .u64 (ep7 : Int), .int .u32 (home : Int)], .agg #[.bool nS7, .bool nT7, .int .u32 (nA7 : Int), .int .u32 (nW7 : Int)]])) (((w7.setCells (w.heap.size + 1 + 1) 0 vs2).setCells (w.heap.size + 1) 0 vs1).drew)) := Lib.hid fun vs1 vs2 =>
    ⟨(.slice src7 S7.length cap7), rfl, (((SP7.upd (upd_cells _ vs2 0 _) (by omega) (SP7.low (by omega)) lM lg lh ld).upd (upd_cells _ vs1 0 _) (by omega) (SP7.low (by omega)) lM lg lh ld).upd ((Upd.refl (w.heap.size + 1) _).drewN 1) (by omega) (SP7.low (by omega)) lM lg lh ld).mono (by omega)⟩
  clear SP7 k7 o7 m7 u7 q6 q7 E6 E7 SP5
  go_wp2_with fail
  go_region_with (fail)
  all_goals
    go_wp2_with fail
    refine bodyPost_ret (v := .tuple #[.agg #[.int .u32 (pc7 : Int), .int .u32 (R7 0 : Int), .int .u32 (R7 1 : Int), .int .u32 (R7 2 : Int), .int .u32 (R7 3 : Int), .int .u32 (R7 4 : Int), .int .u32 (R7 5 : Int), .int .u32 (R7 6 : Int), .int .u32 (R7 7 : Int), (.slice src7 S7.length cap7), .int .u8 (why7 : Int), .int .u64 (ep7 : Int), .int .u32 (home : Int)], .agg #[.bool nS7, .bool nT7, .int .u32 (nA7 : Int), .int .u32 (nW7 : Int)]]) (by simp [results, Tryz.results7, go_sem, *]) rfl ?_
    first
      | (have Z := F1.out [.int .u32 (pc7 : Int), .int .u32 (R7 0 : Int), .int .u32 (R7 1 : Int), .int .u32 (R7 2 : Int), .int .u32 (R7 3 : Int), .int .u32 (R7 4 : Int), .int .u32 (R7 5 : Int), .int .u32 (R7 6 : Int), .int .u32 (R7 7 : Int), (.slice src7 S7.length cap7), .int .u8 (why7 : Int), .int .u64 (ep7 : Int), .int .u32 (home : Int)] [.bool nS7, .bool nT7, .int .u32 (nA7 : Int), .int .u32 (nW7 : Int)]; simp only [World.setCells, Nat.zero_add, Nat.reduceAdd] at Z; with_reducible exact Z)
      | (have Z := F2.out [.int .u32 (pc7 : Int), .int .u32 (R7 0 : Int), .int .u32 (R7 1 : Int), .int .u32 (R7 2 : Int), .int .u32 (R7 3 : Int), .int .u32 (R7 4 : Int), .int .u32 (R7 5 : Int), .int .u32 (R7 6 : Int), .int .u32 (R7 7 : Int), (.slice src7 S7.length cap7), .int .u8 (why7 : Int), .int .u64 (ep7 : Int), .int .u32 (home : Int)] [.bool nS7, .bool nT7, .int .u32 (nA7 : Int), .int .u32 (nW7 : Int)]; simp only [World.setCells, Nat.zero_add, Nat.reduceAdd] at Z; with_reducible exact Z)
set_option maxRecDepth 100000 in
set_option maxHeartbeats 16000000 in
theorem step_plain (w : World) (M g h c d cd : Nat) (G : Nat → Nat) (T : List Page) (L : List Nat) (pc : Nat) (R : Nat → Nat) (S : List Nat) (ep home epoch why : Nat) (src : Option Addr) (cap : Nat) (m : Mem w M g h c d cd G T L) (hS : Stk w src S) (hn : S.length < 35184372088832) (hw : ((why : Int) != 0) = false) (hpc : pc < 4294967296) (hz : why = 0) (f0 f1 : Nat) (hf : fetchM G T L pc ep = (f0, f1, true)) (op rd ra rb : Nat) (imm : Int) (DO : ∀ W, Calls Tryz.prog 27 #[.int .u32 (f0 : Int)] W fun e w' => e = .returned (.tuple #[.agg #[.int .u8 (op : Int), .int .u8 (rd : Int), .int .u8 (ra : Int), .int .u8 (rb : Int), .int .i32 imm], .int .i64 0]) ∧ Below W.heap.size W w') (oo : Out) (q3 : ¬ (3 : Int) ≤ (op : Int)) (q12 : ((op : Int) == 12) = false) (q13 : ((op : Int) == 13) = false) (q14 : ¬ (14 : Int) ≤ (op : Int)) (GC : ∀ W B s, Pre W (w.heap.size + 3) B pc R s S ep home M g h c d cd G T L epoch f1 → Calls Tryz.prog 33 #[.pointer (some ⟨B, 0, none⟩), .agg #[.int .u8 (op : Int), .int .u8 (rd : Int), .int .u8 (ra : Int), .int .u8 (rb : Int), .int .i32 imm]] W fun e w' => GP W (w.heap.size + 3) B M g h c d cd G T home epoch f1 oo e w') :
    Calls Tryz.prog 7 #[hv pc R (.slice src S.length cap) why ep home, .pointer (some ⟨M, 0, none⟩), .int .u64 (epoch : Int)] w fun e w' => StepP w M g h c d cd G T home (oo) e w' := by
  have lM := m.ten.lt
  have lg := m.tab.lt
  have lh := m.tab.pgs.lt
  have ld := m.wds.lt
  have FC := fun W (q : Mem W M g h c d cd G T L) => fetch_c q pc ep hpc
  rw [hf] at FC
  unfold f3 at FC
  simp only at FC
  replace FC := Lib.hid FC
  replace DO := Lib.hid DO
  replace hz := Lib.hid hz
  replace hf := Lib.hid hf
  replace GC := Lib.hid GC
  have K3 := Lib.hid (((Blk.new w 30 #[.int .u32 (pc : Int), .int .u32 (R 0 : Int), .int .u32 (R 1 : Int), .int .u32 (R 2 : Int), .int .u32 (R 3 : Int), .int .u32 (R 4 : Int), .int .u32 (R 5 : Int), .int .u32 (R 6 : Int), .int .u32 (R 7 : Int), (.slice src S.length cap), .int .u8 (why : Int), .int .u64 (ep : Int), .int .u32 (home : Int)]).alloc (.cells #[.int .u32 0, .int .u32 0, .int .u32 0, .int .u32 0, .int .u32 0, .int .u32 0, .int .u32 0, .int .u32 0, .int .u32 0, .slice none 0 0, .int .u8 0, .int .u64 0, .int .u32 0] 30)).alloc (.cells #[.bool false, .bool false, .int .u32 0, .int .u32 0] 41))
  have K6 := Lib.hid ((Blk.new (w.alloc (.cells #[.int .u32 (pc : Int), .int .u32 (R 0 : Int), .int .u32 (R 1 : Int), .int .u32 (R 2 : Int), .int .u32 (R 3 : Int), .int .u32 (R 4 : Int), .int .u32 (R 5 : Int), .int .u32 (R 6 : Int), .int .u32 (R 7 : Int), (.slice src S.length cap), .int .u8 (why : Int), .int .u64 (ep : Int), .int .u32 (home : Int)] 30)) 30 #[.int .u32 0, .int .u32 0, .int .u32 0, .int .u32 0, .int .u32 0, .int .u32 0, .int .u32 0, .int .u32 0, .int .u32 0, .slice none 0 0, .int .u8 0, .int .u64 0, .int .u32 0]).alloc (.cells #[.bool false, .bool false, .int .u32 0, .int .u32 0] 41))
  have K7 := Lib.hid (Blk.new ((w.alloc (.cells #[.int .u32 (pc : Int), .int .u32 (R 0 : Int), .int .u32 (R 1 : Int), .int .u32 (R 2 : Int), .int .u32 (R 3 : Int), .int .u32 (R 4 : Int), .int .u32 (R 5 : Int), .int .u32 (R 6 : Int), .int .u32 (R 7 : Int), (.slice src S.length cap), .int .u8 (why : Int), .int .u64 (ep : Int), .int .u32 (home : Int)] 30)).alloc (.cells #[.int .u32 0, .int .u32 0, .int .u32 0, .int .u32 0, .int .u32 0, .int .u32 0, .int .u32 0, .int .u32 0, .int .u32 0, .slice none 0 0, .int .u8 0, .int .u64 0, .int .u32 0] 30)) 41 #[.bool false, .bool false, .int .u32 0, .int .u32 0])
  have C : Hid (Stk (((w.alloc (.cells #[.int .u32 (pc : Int), .int .u32 (R 0 : Int), .int .u32 (R 1 : Int), .int .u32 (R 2 : Int), .int .u32 (R 3 : Int), .int .u32 (R 4 : Int), .int .u32 (R 5 : Int), .int .u32 (R 6 : Int), .int .u32 (R 7 : Int), (.slice src S.length cap), .int .u8 (why : Int), .int .u64 (ep : Int), .int .u32 (home : Int)] 30)).alloc (.cells #[.int .u32 0, .int .u32 0, .int .u32 0, .int .u32 0, .int .u32 0, .int .u32 0, .int .u32 0, .int .u32 0, .int .u32 0, .slice none 0 0, .int .u8 0, .int .u64 0, .int .u32 0] 30)).alloc (.cells #[.bool false, .bool false, .int .u32 0, .int .u32 0] 41)) src S) := Lib.hid (((hS.kept ((Below.refl _ w).alloc (Nat.le_refl _) _)).kept ((Below.refl _ _).alloc (Nat.le_refl _) _)).kept ((Below.refl _ _).alloc (Nat.le_refl _) _))
  have B0 : Hid (Below w.heap.size w (((w.alloc (.cells #[.int .u32 (pc : Int), .int .u32 (R 0 : Int), .int .u32 (R 1 : Int), .int .u32 (R 2 : Int), .int .u32 (R 3 : Int), .int .u32 (R 4 : Int), .int .u32 (R 5 : Int), .int .u32 (R 6 : Int), .int .u32 (R 7 : Int), (.slice src S.length cap), .int .u8 (why : Int), .int .u64 (ep : Int), .int .u32 (home : Int)] 30)).alloc (.cells #[.int .u32 0, .int .u32 0, .int .u32 0, .int .u32 0, .int .u32 0, .int .u32 0, .int .u32 0, .int .u32 0, .int .u32 0, .slice none 0 0, .int .u8 0, .int .u64 0, .int .u32 0] 30)).alloc (.cells #[.bool false, .bool false, .int .u32 0, .int .u32 0] 41))) := Lib.hid ((((Below.refl _ w).alloc (Nat.le_refl _) _).alloc (by simp) _).alloc (by simp; omega) _)
  have M0 : Hid (Mem (((w.alloc (.cells #[.int .u32 (pc : Int), .int .u32 (R 0 : Int), .int .u32 (R 1 : Int), .int .u32 (R 2 : Int), .int .u32 (R 3 : Int), .int .u32 (R 4 : Int), .int .u32 (R 5 : Int), .int .u32 (R 6 : Int), .int .u32 (R 7 : Int), (.slice src S.length cap), .int .u8 (why : Int), .int .u64 (ep : Int), .int .u32 (home : Int)] 30)).alloc (.cells #[.int .u32 0, .int .u32 0, .int .u32 0, .int .u32 0, .int .u32 0, .int .u32 0, .int .u32 0, .int .u32 0, .int .u32 0, .slice none 0 0, .int .u8 0, .int .u64 0, .int .u32 0] 30)).alloc (.cells #[.bool false, .bool false, .int .u32 0, .int .u32 0] 41)) M g h c d cd G T L) := Lib.hid (((m.alloc _).alloc _).alloc _)
  generalize hW : ((w.alloc (.cells #[.int .u32 (pc : Int), .int .u32 (R 0 : Int), .int .u32 (R 1 : Int), .int .u32 (R 2 : Int), .int .u32 (R 3 : Int), .int .u32 (R 4 : Int), .int .u32 (R 5 : Int), .int .u32 (R 6 : Int), .int .u32 (R 7 : Int), (.slice src S.length cap), .int .u8 (why : Int), .int .u64 (ep : Int), .int .u32 (home : Int)] 30)).alloc (.cells #[.int .u32 0, .int .u32 0, .int .u32 0, .int .u32 0, .int .u32 0, .int .u32 0, .int .u32 0, .int .u32 0, .int .u32 0, .slice none 0 0, .int .u8 0, .int .u64 0, .int .u32 0] 30)).alloc (.cells #[.bool false, .bool false, .int .u32 0, .int .u32 0] 41) = W at K3 K6 K7 C B0 M0
  have hsz : W.heap.size = w.heap.size + 3 := by rw [← hW]; simp
  replace K6 : Hid (Blk W (w.heap.size + 1) 30 #[.int .u32 0, .int .u32 0, .int .u32 0, .int .u32 0, .int .u32 0, .int .u32 0, .int .u32 0, .int .u32 0, .int .u32 0, .slice none 0 0, .int .u8 0, .int .u64 0, .int .u32 0]) := Lib.hid (by have := K6.out; simpa using this)
  replace K7 : Hid (Blk W (w.heap.size + 1 + 1) 41 #[.bool false, .bool false, .int .u32 0, .int .u32 0]) := Lib.hid (by have := K7.out; simpa using this)
  have CC := Lib.hid (copy_c W pc R src cap why ep home S C.out (by omega))
  have KW := Lib.hid hW
  clear hW hS C m
  obtain ⟨t0, t1, t2, t3, t4, t5, t6, t7, t8, t9, t10, t11, t12⟩ := blkc13 K3.out
  unfold hv at CC ⊢
  go_enter Tryz.func7, Tryz.ntmps7
  go_wp2_with fail
  (try rw [KW.out])
  refine CC.out.mono ?_
  rintro e w1 ⟨s, rfl, ow, hb⟩
  obtain ⟨src2, cap2, rfl, _⟩ := ow.form
  rw [hsz] at ow
  have k3 := K3.out.kept hb
  have k6 := K6.out.kept hb
  have k7 := K7.out.kept hb
  have hl3 : w.heap.size < w1.heap.size := k3.lt
  have hl6 : w.heap.size + 1 < w1.heap.size := k6.lt
  have hl7 : w.heap.size + 1 + 1 < w1.heap.size := k7.lt
  have SP1 : Hid (SP w (w.heap.size + 3) M g h c d cd G T L S (.slice src2 S.length cap2) w1) := Lib.hid ⟨ow, M0.out.kept hb, UpdX.of (B0.out.trans (hb.mono B0.out.size))⟩
  clear ow hb K3 K6 K7 B0 M0 CC KW t0 t1 t2 t3 t4 t5 t6 t7 t8 t9 t10 t11 t12
  have t0 : w1.cell? ⟨w.heap.size, 0, none⟩ = some (.int .u32 (pc : Int)) := k3.cell 0
  have t10 : w1.cell? ⟨w.heap.size, 10, none⟩ = some (.int .u8 (why : Int)) := k3.cell 10
  have t11 : w1.cell? ⟨w.heap.size, 11, none⟩ = some (.int .u64 (ep : Int)) := k3.cell 11
  have KB : Hid (RunB (w1.alloc (.cells #[.int .u32 (pc : Int), .int .u32 (R 0 : Int), .int .u32 (R 1 : Int), .int .u32 (R 2 : Int), .int .u32 (R 3 : Int), .int .u32 (R 4 : Int), .int .u32 (R 5 : Int), .int .u32 (R 6 : Int), .int .u32 (R 7 : Int), (.slice src2 S.length cap2), .int .u8 (why : Int), .int .u64 (ep : Int), .int .u32 (home : Int), .pointer (some ⟨M, 0, none⟩), .int .u64 (epoch : Int), .int .u16 0, .bool false, .bool false, .int .u32 0, .int .u32 0] 73)) w1.heap.size pc R (.slice src2 S.length cap2) why ep home (.pointer (some ⟨M, 0, none⟩)) epoch 0 false false 0 0) := Lib.hid (Blk.new w1 73 #[.int .u32 (pc : Int), .int .u32 (R 0 : Int), .int .u32 (R 1 : Int), .int .u32 (R 2 : Int), .int .u32 (R 3 : Int), .int .u32 (R 4 : Int), .int .u32 (R 5 : Int), .int .u32 (R 6 : Int), .int .u32 (R 7 : Int), (.slice src2 S.length cap2), .int .u8 (why : Int), .int .u64 (ep : Int), .int .u32 (home : Int), .pointer (some ⟨M, 0, none⟩), .int .u64 (epoch : Int), .int .u16 0, .bool false, .bool false, .int .u32 0, .int .u32 0])
  have SP2 := Lib.hid (SP1.out.alloc (.cells #[.int .u32 (pc : Int), .int .u32 (R 0 : Int), .int .u32 (R 1 : Int), .int .u32 (R 2 : Int), .int .u32 (R 3 : Int), .int .u32 (R 4 : Int), .int .u32 (R 5 : Int), .int .u32 (R 6 : Int), .int .u32 (R 7 : Int), (.slice src2 S.length cap2), .int .u8 (why : Int), .int .u64 (ep : Int), .int .u32 (home : Int), .pointer (some ⟨M, 0, none⟩), .int .u64 (epoch : Int), .int .u16 0, .bool false, .bool false, .int .u32 0, .int .u32 0] 73))
  have A6 := Lib.hid (k6.alloc (.cells #[.int .u32 (pc : Int), .int .u32 (R 0 : Int), .int .u32 (R 1 : Int), .int .u32 (R 2 : Int), .int .u32 (R 3 : Int), .int .u32 (R 4 : Int), .int .u32 (R 5 : Int), .int .u32 (R 6 : Int), .int .u32 (R 7 : Int), (.slice src2 S.length cap2), .int .u8 (why : Int), .int .u64 (ep : Int), .int .u32 (home : Int), .pointer (some ⟨M, 0, none⟩), .int .u64 (epoch : Int), .int .u16 0, .bool false, .bool false, .int .u32 0, .int .u32 0] 73))
  have A7 := Lib.hid (k7.alloc (.cells #[.int .u32 (pc : Int), .int .u32 (R 0 : Int), .int .u32 (R 1 : Int), .int .u32 (R 2 : Int), .int .u32 (R 3 : Int), .int .u32 (R 4 : Int), .int .u32 (R 5 : Int), .int .u32 (R 6 : Int), .int .u32 (R 7 : Int), (.slice src2 S.length cap2), .int .u8 (why : Int), .int .u64 (ep : Int), .int .u32 (home : Int), .pointer (some ⟨M, 0, none⟩), .int .u64 (epoch : Int), .int .u16 0, .bool false, .bool false, .int .u32 0, .int .u32 0] 73))
  generalize hW2 : w1.alloc (.cells #[.int .u32 (pc : Int), .int .u32 (R 0 : Int), .int .u32 (R 1 : Int), .int .u32 (R 2 : Int), .int .u32 (R 3 : Int), .int .u32 (R 4 : Int), .int .u32 (R 5 : Int), .int .u32 (R 6 : Int), .int .u32 (R 7 : Int), (.slice src2 S.length cap2), .int .u8 (why : Int), .int .u64 (ep : Int), .int .u32 (home : Int), .pointer (some ⟨M, 0, none⟩), .int .u64 (epoch : Int), .int .u16 0, .bool false, .bool false, .int .u32 0, .int .u32 0] 73) = W2 at KB SP2 A6 A7
  have KW2 := Lib.hid hW2
  have sz2 : W2.heap.size = w1.heap.size + 1 := by rw [← hW2]; simp
  clear hW2 SP1 k3 k6 k7
  go_wp2_with fail
  (try rw [KW2.out])
  refine (FC.out _ SP2.out.2.1).mono ?_
  rintro e w3 ⟨rfl, hb3⟩
  have K3b : Hid (RunB w3 w1.heap.size pc R (.slice src2 S.length cap2) why ep home (.pointer (some ⟨M, 0, none⟩)) epoch 0 false false 0 0) := Lib.hid (Blk.kept KB.out hb3)
  have SP3 : Hid (SP w (w.heap.size + 3) M g h c d cd G T L S (.slice src2 S.length cap2) w3) := Lib.hid ⟨SP2.out.1.kept hb3, SP2.out.2.1.kept hb3, SP2.out.2.2.trans (UpdX.of (hb3.mono SP2.out.2.2.size))⟩
  have C6 := A6.out.kept hb3
  have C7 := A7.out.kept hb3
  have hlB : w1.heap.size < w3.heap.size := K3b.out.lt
  clear KB SP2 A6 A7 hb3 FC KW2 t0 t10 t11
  go_wp2_with fail
  refine (DO.out _).mono ?_
  rintro e w4 ⟨rfl, hb4⟩
  have K4b : Hid (RunB w4 w1.heap.size pc R (.slice src2 S.length cap2) why ep home (.pointer (some ⟨M, 0, none⟩)) epoch 0 false false 0 0) := Lib.hid (Blk.kept K3b.out hb4)
  have SP4 : Hid (SP w (w.heap.size + 3) M g h c d cd G T L S (.slice src2 S.length cap2) w4) := Lib.hid ⟨SP3.out.1.kept hb4, SP3.out.2.1.kept hb4, SP3.out.2.2.trans (UpdX.of (hb4.mono SP3.out.2.2.size))⟩
  have D6 := C6.kept hb4
  have D7 := C7.kept hb4
  have hlB4 : w1.heap.size < w4.heap.size := K4b.out.lt
  clear K3b SP3 C6 C7 hb4 DO
  have r15 : w4.cell? ⟨w1.heap.size, 15, none⟩ = some (.int .u16 (0 : Int)) := K4b.out.cell 15
  have fr15 : w4.frozen? ⟨w1.heap.size, 15, none⟩ = false := K4b.out.frozen 15
  have K5 : Hid (RunB ((w4.setCell ⟨w1.heap.size, 15, none⟩ (.int .u16 (f1 : Int))).alloc (.cells #[.int .u8 (op : Int), .int .u8 (rd : Int), .int .u8 (ra : Int), .int .u8 (rb : Int), .int .i32 imm] 78)) w1.heap.size pc R (.slice src2 S.length cap2) why ep home (.pointer (some ⟨M, 0, none⟩)) epoch f1 false false 0 0) := Lib.hid (by
    have k := Blk.alloc (Blk.set_ K4b.out 15 (.int .u16 (f1 : Int))) (.cells #[.int .u8 (op : Int), .int .u8 (rd : Int), .int .u8 (ra : Int), .int .u8 (rb : Int), .int .i32 imm] 78)
    unfold RunB
    simpa using k)
  have u15 : Upd w1.heap.size w4 (w4.setCell ⟨w1.heap.size, 15, none⟩ (.int .u16 (f1 : Int))) := (Upd.refl _ w4).setCell 15 _
  have SP5 := Lib.hid ((SP4.out.upd u15 (by omega) (SP4.out.1.apart K4b.out) lM lg lh ld).alloc (.cells #[.int .u8 (op : Int), .int .u8 (rd : Int), .int .u8 (ra : Int), .int .u8 (rb : Int), .int .i32 imm] 78))
  have E6 := Lib.hid (Blk.alloc (u15.blk D6 (by omega)) (.cells #[.int .u8 (op : Int), .int .u8 (rd : Int), .int .u8 (ra : Int), .int .u8 (rb : Int), .int .i32 imm] 78))
  have E7 := Lib.hid (Blk.alloc (u15.blk D7 (by omega)) (.cells #[.int .u8 (op : Int), .int .u8 (rd : Int), .int .u8 (ra : Int), .int .u8 (rb : Int), .int .i32 imm] 78))
  have I5 : Hid (Blk ((w4.setCell ⟨w1.heap.size, 15, none⟩ (.int .u16 (f1 : Int))).alloc (.cells #[.int .u8 (op : Int), .int .u8 (rd : Int), .int .u8 (ra : Int), .int .u8 (rb : Int), .int .i32 imm] 78)) w4.heap.size 78 #[.int .u8 (op : Int), .int .u8 (rd : Int), .int .u8 (ra : Int), .int .u8 (rb : Int), .int .i32 imm]) := Lib.hid (by have := Blk.new (w4.setCell ⟨w1.heap.size, 15, none⟩ (.int .u16 (f1 : Int))) 78 #[.int .u8 (op : Int), .int .u8 (rd : Int), .int .u8 (ra : Int), .int .u8 (rb : Int), .int .i32 imm]; simpa [World.setCell] using this)
  generalize hW5 : (w4.setCell ⟨w1.heap.size, 15, none⟩ (.int .u16 (f1 : Int))).alloc (.cells #[.int .u8 (op : Int), .int .u8 (rd : Int), .int .u8 (ra : Int), .int .u8 (rb : Int), .int .i32 imm] 78) = W5 at K5 SP5 E6 E7 I5
  have PR : Hid (Pre W5 (w.heap.size + 3) w1.heap.size pc R (.slice src2 S.length cap2) S ep home M g h c d cd G T L epoch f1) := Lib.hid ⟨by have := K5.out; rw [hz.out] at this; exact this, SP5.out.1, SP5.out.2.1, by omega, by omega, by omega, by omega, by omega⟩
  have KW5 := Lib.hid hW5
  clear hW5 K4b SP4 D6 D7 u15 K5
  go_wp2_with fail
  (try rw [KW5.out])
  refine (GC.out _ _ _ PR.out).mono ?_
  intro e w7 gp
  obtain ⟨pc7, R7, S7, why7, ep7, L7, nS7, nT7, nA7, nW7⟩ := oo
  obtain ⟨rfl, s7, k7, o7, m7, u7⟩ := gp
  obtain ⟨src7, cap7, rfl, _⟩ := o7.form
  simp only at k7 o7 m7
  have q6 : Blk w7 (w.heap.size + 1) 30 #[.int .u32 0, .int .u32 0, .int .u32 0, .int .u32 0, .int .u32 0, .int .u32 0, .int .u32 0, .int .u32 0, .int .u32 0, .slice none 0 0, .int .u8 0, .int .u64 0, .int .u32 0] := (u7.block _ (by omega) (by omega)).trans E6.out
  have q7 : Blk w7 (w.heap.size + 1 + 1) 41 #[.bool false, .bool false, .int .u32 0, .int .u32 0] := (u7.block _ (by omega) (by omega)).trans E7.out
  have SP7 : SP w (w.heap.size + 3) M g h c d cd G T L7 S7 (.slice src7 S7.length cap7) w7 := ⟨o7, m7, SP5.out.2.2.trans ⟨u7.os, u7.tape, u7.output, u7.size, fun k h1 h2 => u7.block k (by omega) h2⟩⟩
  have r0 : w7.cell? ⟨w1.heap.size, 0, none⟩ = some (.int .u32 (pc7 : Int)) := k7.cell 0
  have r1 : w7.cell? ⟨w1.heap.size, 1, none⟩ = some (.int .u32 (R7 0 : Int)) := k7.cell 1
  have r2 : w7.cell? ⟨w1.heap.size, 2, none⟩ = some (.int .u32 (R7 1 : Int)) := k7.cell 2
  have r3 : w7.cell? ⟨w1.heap.size, 3, none⟩ = some (.int .u32 (R7 2 : Int)) := k7.cell 3
  have r4 : w7.cell? ⟨w1.heap.size, 4, none⟩ = some (.int .u32 (R7 3 : Int)) := k7.cell 4
  have r5 : w7.cell? ⟨w1.heap.size, 5, none⟩ = some (.int .u32 (R7 4 : Int)) := k7.cell 5
  have r6 : w7.cell? ⟨w1.heap.size, 6, none⟩ = some (.int .u32 (R7 5 : Int)) := k7.cell 6
  have r7 : w7.cell? ⟨w1.heap.size, 7, none⟩ = some (.int .u32 (R7 6 : Int)) := k7.cell 7
  have r8 : w7.cell? ⟨w1.heap.size, 8, none⟩ = some (.int .u32 (R7 7 : Int)) := k7.cell 8
  have r9 : w7.cell? ⟨w1.heap.size, 9, none⟩ = some ((.slice src7 S7.length cap7)) := k7.cell 9
  have r10 : w7.cell? ⟨w1.heap.size, 10, none⟩ = some (.int .u8 (why7 : Int)) := k7.cell 10
  have r11 : w7.cell? ⟨w1.heap.size, 11, none⟩ = some (.int .u64 (ep7 : Int)) := k7.cell 11
  have r12 : w7.cell? ⟨w1.heap.size, 12, none⟩ = some (.int .u32 (home : Int)) := k7.cell 12
  have r16 : w7.cell? ⟨w1.heap.size, 16, none⟩ = some (.bool nS7) := k7.cell 16
  have r17 : w7.cell? ⟨w1.heap.size, 17, none⟩ = some (.bool nT7) := k7.cell 17
  have r18 : w7.cell? ⟨w1.heap.size, 18, none⟩ = some (.int .u32 (nA7 : Int)) := k7.cell 18
  have r19 : w7.cell? ⟨w1.heap.size, 19, none⟩ = some (.int .u32 (nW7 : Int)) := k7.cell 19
  obtain ⟨z0, fz0, z1, fz1, z2, fz2, z3, fz3, z4, fz4, z5, fz5, z6, fz6, z7, fz7, z8, fz8, z9, fz9, z10, fz10, z11, fz11, z12, fz12⟩ := blkf13 q6
  obtain ⟨y0, fy0, y1, fy1, y2, fy2, y3, fy3⟩ := blkf4 q7
  have n1 : w.heap.size + 1 ≠ w1.heap.size := by omega
  have n2 : w.heap.size + 1 + 1 ≠ w1.heap.size := by omega
  have F1 : Hid (∀ vs1 vs2, StepP w M g h c d cd G T home ⟨pc7, R7, S7, why7, ep7, L7, nS7, nT7, nA7, nW7⟩ (.returned (.tuple #[.agg #[.int .u32 (pc7 : Int), .int .u32 (R7 0 : Int), .int .u32 (R7 1 : Int), .int .u32 (R7 2 : Int), .int .u32 (R7 3 : Int), .int .u32 (R7 4 : Int), .int .u32 (R7 5 : Int), .int .u32 (R7 6 : Int), .int .u32 (R7 7 : Int), (.slice src7 S7.length cap7), .int .u8 (why7 : Int), .int .u64 (ep7 : Int), .int .u32 (home : Int)], .agg #[.bool nS7, .bool nT7, .int .u32 (nA7 : Int), .int .u32 (nW7 : Int)]])) (((w7.setCells (w.heap.size + 1) 0 vs1).setCells (w.heap.size + 1 + 1) 0 vs2).drew)) := Lib.hid fun vs1 vs2 =>
    ⟨(.slice src7 S7.length cap7), rfl, (((SP7.upd (upd_cells _ vs1 0 _) (by omega) (SP7.low (by omega)) lM lg lh ld).upd (upd_cells _ vs2 0 _) (by omega) (SP7.low (by omega)) lM lg lh ld).upd ((Upd.refl (w.heap.size + 1) _).drewN 1) (by omega) (SP7.low (by omega)) lM lg lh ld).mono (by omega)⟩
  have F2 : Hid (∀ vs1 vs2, StepP w M g h c d cd G T home ⟨pc7, R7, S7, why7, ep7, L7, nS7, nT7, nA7, nW7⟩ (.returned (.tuple #[.agg #[.int .u32 (pc7 : Int), .int .u32 (R7 0 : Int), .int .u32 (R7 1 : Int), .int .u32 (R7 2 : Int), .int .u32 (R7 3 : Int), .int .u32 (R7 4 : Int), .int .u32 (R7 5 : Int), .int .u32 (R7 6 : Int), .int .u32 (R7 7 : Int), (.slice src7 S7.length cap7), .int .u8 (why7 : Int), .int .u64 (ep7 : Int), .int .u32 (home : Int)], .agg #[.bool nS7, .bool nT7, .int .u32 (nA7 : Int), .int .u32 (nW7 : Int)]])) (((w7.setCells (w.heap.size + 1 + 1) 0 vs2).setCells (w.heap.size + 1) 0 vs1).drew)) := Lib.hid fun vs1 vs2 =>
    ⟨(.slice src7 S7.length cap7), rfl, (((SP7.upd (upd_cells _ vs2 0 _) (by omega) (SP7.low (by omega)) lM lg lh ld).upd (upd_cells _ vs1 0 _) (by omega) (SP7.low (by omega)) lM lg lh ld).upd ((Upd.refl (w.heap.size + 1) _).drewN 1) (by omega) (SP7.low (by omega)) lM lg lh ld).mono (by omega)⟩
  clear SP7 k7 o7 m7 u7 q6 q7 E6 E7 SP5
  go_wp2_with fail
  go_region_with (fail)
  all_goals
    go_wp2_with fail
    refine bodyPost_ret (v := .tuple #[.agg #[.int .u32 (pc7 : Int), .int .u32 (R7 0 : Int), .int .u32 (R7 1 : Int), .int .u32 (R7 2 : Int), .int .u32 (R7 3 : Int), .int .u32 (R7 4 : Int), .int .u32 (R7 5 : Int), .int .u32 (R7 6 : Int), .int .u32 (R7 7 : Int), (.slice src7 S7.length cap7), .int .u8 (why7 : Int), .int .u64 (ep7 : Int), .int .u32 (home : Int)], .agg #[.bool nS7, .bool nT7, .int .u32 (nA7 : Int), .int .u32 (nW7 : Int)]]) (by simp [results, Tryz.results7, go_sem, *]) rfl ?_
    first
      | (have Z := F1.out [.int .u32 (pc7 : Int), .int .u32 (R7 0 : Int), .int .u32 (R7 1 : Int), .int .u32 (R7 2 : Int), .int .u32 (R7 3 : Int), .int .u32 (R7 4 : Int), .int .u32 (R7 5 : Int), .int .u32 (R7 6 : Int), .int .u32 (R7 7 : Int), (.slice src7 S7.length cap7), .int .u8 (why7 : Int), .int .u64 (ep7 : Int), .int .u32 (home : Int)] [.bool nS7, .bool nT7, .int .u32 (nA7 : Int), .int .u32 (nW7 : Int)]; simp only [World.setCells, Nat.zero_add, Nat.reduceAdd] at Z; with_reducible exact Z)
      | (have Z := F2.out [.int .u32 (pc7 : Int), .int .u32 (R7 0 : Int), .int .u32 (R7 1 : Int), .int .u32 (R7 2 : Int), .int .u32 (R7 3 : Int), .int .u32 (R7 4 : Int), .int .u32 (R7 5 : Int), .int .u32 (R7 6 : Int), .int .u32 (R7 7 : Int), (.slice src7 S7.length cap7), .int .u8 (why7 : Int), .int .u64 (ep7 : Int), .int .u32 (home : Int)] [.bool nS7, .bool nT7, .int .u32 (nA7 : Int), .int .u32 (nW7 : Int)]; simp only [World.setCells, Nat.zero_add, Nat.reduceAdd] at Z; with_reducible exact Z)
set_option maxRecDepth 100000 in
set_option maxHeartbeats 16000000 in
theorem step_addi (w : World) (M g h c d cd : Nat) (G : Nat → Nat) (T : List Page) (L : List Nat) (pc : Nat) (R : Nat → Nat) (S : List Nat) (ep home epoch why : Nat) (src : Option Addr) (cap : Nat) (m : Mem w M g h c d cd G T L) (hS : Stk w src S) (hn : S.length < 35184372088832) (hw : ((why : Int) != 0) = false) (hpc : pc < 4294967296) (hz : why = 0) (f0 f1 : Nat) (hf : fetchM G T L pc ep = (f0, f1, true)) (op rd ra rb : Nat) (imm : Int) (DO : ∀ W, Calls Tryz.prog 27 #[.int .u32 (f0 : Int)] W fun e w' => e = .returned (.tuple #[.agg #[.int .u8 (op : Int), .int .u8 (rd : Int), .int .u8 (ra : Int), .int .u8 (rb : Int), .int .i32 imm], .int .i64 0]) ∧ Below W.heap.size W w') (oo : Out) (q3 : (3 : Int) ≤ (op : Int)) (q10 : ¬ (op : Int) ≤ 10) (q12 : ((op : Int) == 12) = false) (q13 : ((op : Int) == 13) = false) (q14 : ¬ (14 : Int) ≤ (op : Int)) (GC : ∀ W B s, Pre W (w.heap.size + 3) B pc R s S ep home M g h c d cd G T L epoch f1 → Calls Tryz.prog 33 #[.pointer (some ⟨B, 0, none⟩), .agg #[.int .u8 (op : Int), .int .u8 (rd : Int), .int .u8 (ra : Int), .int .u8 (rb : Int), .int .i32 imm]] W fun e w' => GP W (w.heap.size + 3) B M g h c d cd G T home epoch f1 oo e w') :
    Calls Tryz.prog 7 #[hv pc R (.slice src S.length cap) why ep home, .pointer (some ⟨M, 0, none⟩), .int .u64 (epoch : Int)] w fun e w' => StepP w M g h c d cd G T home (oo) e w' := by
  have lM := m.ten.lt
  have lg := m.tab.lt
  have lh := m.tab.pgs.lt
  have ld := m.wds.lt
  have FC := fun W (q : Mem W M g h c d cd G T L) => fetch_c q pc ep hpc
  rw [hf] at FC
  unfold f3 at FC
  simp only at FC
  replace FC := Lib.hid FC
  replace DO := Lib.hid DO
  replace hz := Lib.hid hz
  replace hf := Lib.hid hf
  replace GC := Lib.hid GC
  have K3 := Lib.hid (((Blk.new w 30 #[.int .u32 (pc : Int), .int .u32 (R 0 : Int), .int .u32 (R 1 : Int), .int .u32 (R 2 : Int), .int .u32 (R 3 : Int), .int .u32 (R 4 : Int), .int .u32 (R 5 : Int), .int .u32 (R 6 : Int), .int .u32 (R 7 : Int), (.slice src S.length cap), .int .u8 (why : Int), .int .u64 (ep : Int), .int .u32 (home : Int)]).alloc (.cells #[.int .u32 0, .int .u32 0, .int .u32 0, .int .u32 0, .int .u32 0, .int .u32 0, .int .u32 0, .int .u32 0, .int .u32 0, .slice none 0 0, .int .u8 0, .int .u64 0, .int .u32 0] 30)).alloc (.cells #[.bool false, .bool false, .int .u32 0, .int .u32 0] 41))
  have K6 := Lib.hid ((Blk.new (w.alloc (.cells #[.int .u32 (pc : Int), .int .u32 (R 0 : Int), .int .u32 (R 1 : Int), .int .u32 (R 2 : Int), .int .u32 (R 3 : Int), .int .u32 (R 4 : Int), .int .u32 (R 5 : Int), .int .u32 (R 6 : Int), .int .u32 (R 7 : Int), (.slice src S.length cap), .int .u8 (why : Int), .int .u64 (ep : Int), .int .u32 (home : Int)] 30)) 30 #[.int .u32 0, .int .u32 0, .int .u32 0, .int .u32 0, .int .u32 0, .int .u32 0, .int .u32 0, .int .u32 0, .int .u32 0, .slice none 0 0, .int .u8 0, .int .u64 0, .int .u32 0]).alloc (.cells #[.bool false, .bool false, .int .u32 0, .int .u32 0] 41))
  have K7 := Lib.hid (Blk.new ((w.alloc (.cells #[.int .u32 (pc : Int), .int .u32 (R 0 : Int), .int .u32 (R 1 : Int), .int .u32 (R 2 : Int), .int .u32 (R 3 : Int), .int .u32 (R 4 : Int), .int .u32 (R 5 : Int), .int .u32 (R 6 : Int), .int .u32 (R 7 : Int), (.slice src S.length cap), .int .u8 (why : Int), .int .u64 (ep : Int), .int .u32 (home : Int)] 30)).alloc (.cells #[.int .u32 0, .int .u32 0, .int .u32 0, .int .u32 0, .int .u32 0, .int .u32 0, .int .u32 0, .int .u32 0, .int .u32 0, .slice none 0 0, .int .u8 0, .int .u64 0, .int .u32 0] 30)) 41 #[.bool false, .bool false, .int .u32 0, .int .u32 0])
  have C : Hid (Stk (((w.alloc (.cells #[.int .u32 (pc : Int), .int .u32 (R 0 : Int), .int .u32 (R 1 : Int), .int .u32 (R 2 : Int), .int .u32 (R 3 : Int), .int .u32 (R 4 : Int), .int .u32 (R 5 : Int), .int .u32 (R 6 : Int), .int .u32 (R 7 : Int), (.slice src S.length cap), .int .u8 (why : Int), .int .u64 (ep : Int), .int .u32 (home : Int)] 30)).alloc (.cells #[.int .u32 0, .int .u32 0, .int .u32 0, .int .u32 0, .int .u32 0, .int .u32 0, .int .u32 0, .int .u32 0, .int .u32 0, .slice none 0 0, .int .u8 0, .int .u64 0, .int .u32 0] 30)).alloc (.cells #[.bool false, .bool false, .int .u32 0, .int .u32 0] 41)) src S) := Lib.hid (((hS.kept ((Below.refl _ w).alloc (Nat.le_refl _) _)).kept ((Below.refl _ _).alloc (Nat.le_refl _) _)).kept ((Below.refl _ _).alloc (Nat.le_refl _) _))
  have B0 : Hid (Below w.heap.size w (((w.alloc (.cells #[.int .u32 (pc : Int), .int .u32 (R 0 : Int), .int .u32 (R 1 : Int), .int .u32 (R 2 : Int), .int .u32 (R 3 : Int), .int .u32 (R 4 : Int), .int .u32 (R 5 : Int), .int .u32 (R 6 : Int), .int .u32 (R 7 : Int), (.slice src S.length cap), .int .u8 (why : Int), .int .u64 (ep : Int), .int .u32 (home : Int)] 30)).alloc (.cells #[.int .u32 0, .int .u32 0, .int .u32 0, .int .u32 0, .int .u32 0, .int .u32 0, .int .u32 0, .int .u32 0, .int .u32 0, .slice none 0 0, .int .u8 0, .int .u64 0, .int .u32 0] 30)).alloc (.cells #[.bool false, .bool false, .int .u32 0, .int .u32 0] 41))) := Lib.hid ((((Below.refl _ w).alloc (Nat.le_refl _) _).alloc (by simp) _).alloc (by simp; omega) _)
  have M0 : Hid (Mem (((w.alloc (.cells #[.int .u32 (pc : Int), .int .u32 (R 0 : Int), .int .u32 (R 1 : Int), .int .u32 (R 2 : Int), .int .u32 (R 3 : Int), .int .u32 (R 4 : Int), .int .u32 (R 5 : Int), .int .u32 (R 6 : Int), .int .u32 (R 7 : Int), (.slice src S.length cap), .int .u8 (why : Int), .int .u64 (ep : Int), .int .u32 (home : Int)] 30)).alloc (.cells #[.int .u32 0, .int .u32 0, .int .u32 0, .int .u32 0, .int .u32 0, .int .u32 0, .int .u32 0, .int .u32 0, .int .u32 0, .slice none 0 0, .int .u8 0, .int .u64 0, .int .u32 0] 30)).alloc (.cells #[.bool false, .bool false, .int .u32 0, .int .u32 0] 41)) M g h c d cd G T L) := Lib.hid (((m.alloc _).alloc _).alloc _)
  generalize hW : ((w.alloc (.cells #[.int .u32 (pc : Int), .int .u32 (R 0 : Int), .int .u32 (R 1 : Int), .int .u32 (R 2 : Int), .int .u32 (R 3 : Int), .int .u32 (R 4 : Int), .int .u32 (R 5 : Int), .int .u32 (R 6 : Int), .int .u32 (R 7 : Int), (.slice src S.length cap), .int .u8 (why : Int), .int .u64 (ep : Int), .int .u32 (home : Int)] 30)).alloc (.cells #[.int .u32 0, .int .u32 0, .int .u32 0, .int .u32 0, .int .u32 0, .int .u32 0, .int .u32 0, .int .u32 0, .int .u32 0, .slice none 0 0, .int .u8 0, .int .u64 0, .int .u32 0] 30)).alloc (.cells #[.bool false, .bool false, .int .u32 0, .int .u32 0] 41) = W at K3 K6 K7 C B0 M0
  have hsz : W.heap.size = w.heap.size + 3 := by rw [← hW]; simp
  replace K6 : Hid (Blk W (w.heap.size + 1) 30 #[.int .u32 0, .int .u32 0, .int .u32 0, .int .u32 0, .int .u32 0, .int .u32 0, .int .u32 0, .int .u32 0, .int .u32 0, .slice none 0 0, .int .u8 0, .int .u64 0, .int .u32 0]) := Lib.hid (by have := K6.out; simpa using this)
  replace K7 : Hid (Blk W (w.heap.size + 1 + 1) 41 #[.bool false, .bool false, .int .u32 0, .int .u32 0]) := Lib.hid (by have := K7.out; simpa using this)
  have CC := Lib.hid (copy_c W pc R src cap why ep home S C.out (by omega))
  have KW := Lib.hid hW
  clear hW hS C m
  obtain ⟨t0, t1, t2, t3, t4, t5, t6, t7, t8, t9, t10, t11, t12⟩ := blkc13 K3.out
  unfold hv at CC ⊢
  go_enter Tryz.func7, Tryz.ntmps7
  go_wp2_with fail
  (try rw [KW.out])
  refine CC.out.mono ?_
  rintro e w1 ⟨s, rfl, ow, hb⟩
  obtain ⟨src2, cap2, rfl, _⟩ := ow.form
  rw [hsz] at ow
  have k3 := K3.out.kept hb
  have k6 := K6.out.kept hb
  have k7 := K7.out.kept hb
  have hl3 : w.heap.size < w1.heap.size := k3.lt
  have hl6 : w.heap.size + 1 < w1.heap.size := k6.lt
  have hl7 : w.heap.size + 1 + 1 < w1.heap.size := k7.lt
  have SP1 : Hid (SP w (w.heap.size + 3) M g h c d cd G T L S (.slice src2 S.length cap2) w1) := Lib.hid ⟨ow, M0.out.kept hb, UpdX.of (B0.out.trans (hb.mono B0.out.size))⟩
  clear ow hb K3 K6 K7 B0 M0 CC KW t0 t1 t2 t3 t4 t5 t6 t7 t8 t9 t10 t11 t12
  have t0 : w1.cell? ⟨w.heap.size, 0, none⟩ = some (.int .u32 (pc : Int)) := k3.cell 0
  have t10 : w1.cell? ⟨w.heap.size, 10, none⟩ = some (.int .u8 (why : Int)) := k3.cell 10
  have t11 : w1.cell? ⟨w.heap.size, 11, none⟩ = some (.int .u64 (ep : Int)) := k3.cell 11
  have KB : Hid (RunB (w1.alloc (.cells #[.int .u32 (pc : Int), .int .u32 (R 0 : Int), .int .u32 (R 1 : Int), .int .u32 (R 2 : Int), .int .u32 (R 3 : Int), .int .u32 (R 4 : Int), .int .u32 (R 5 : Int), .int .u32 (R 6 : Int), .int .u32 (R 7 : Int), (.slice src2 S.length cap2), .int .u8 (why : Int), .int .u64 (ep : Int), .int .u32 (home : Int), .pointer (some ⟨M, 0, none⟩), .int .u64 (epoch : Int), .int .u16 0, .bool false, .bool false, .int .u32 0, .int .u32 0] 73)) w1.heap.size pc R (.slice src2 S.length cap2) why ep home (.pointer (some ⟨M, 0, none⟩)) epoch 0 false false 0 0) := Lib.hid (Blk.new w1 73 #[.int .u32 (pc : Int), .int .u32 (R 0 : Int), .int .u32 (R 1 : Int), .int .u32 (R 2 : Int), .int .u32 (R 3 : Int), .int .u32 (R 4 : Int), .int .u32 (R 5 : Int), .int .u32 (R 6 : Int), .int .u32 (R 7 : Int), (.slice src2 S.length cap2), .int .u8 (why : Int), .int .u64 (ep : Int), .int .u32 (home : Int), .pointer (some ⟨M, 0, none⟩), .int .u64 (epoch : Int), .int .u16 0, .bool false, .bool false, .int .u32 0, .int .u32 0])
  have SP2 := Lib.hid (SP1.out.alloc (.cells #[.int .u32 (pc : Int), .int .u32 (R 0 : Int), .int .u32 (R 1 : Int), .int .u32 (R 2 : Int), .int .u32 (R 3 : Int), .int .u32 (R 4 : Int), .int .u32 (R 5 : Int), .int .u32 (R 6 : Int), .int .u32 (R 7 : Int), (.slice src2 S.length cap2), .int .u8 (why : Int), .int .u64 (ep : Int), .int .u32 (home : Int), .pointer (some ⟨M, 0, none⟩), .int .u64 (epoch : Int), .int .u16 0, .bool false, .bool false, .int .u32 0, .int .u32 0] 73))
  have A6 := Lib.hid (k6.alloc (.cells #[.int .u32 (pc : Int), .int .u32 (R 0 : Int), .int .u32 (R 1 : Int), .int .u32 (R 2 : Int), .int .u32 (R 3 : Int), .int .u32 (R 4 : Int), .int .u32 (R 5 : Int), .int .u32 (R 6 : Int), .int .u32 (R 7 : Int), (.slice src2 S.length cap2), .int .u8 (why : Int), .int .u64 (ep : Int), .int .u32 (home : Int), .pointer (some ⟨M, 0, none⟩), .int .u64 (epoch : Int), .int .u16 0, .bool false, .bool false, .int .u32 0, .int .u32 0] 73))
  have A7 := Lib.hid (k7.alloc (.cells #[.int .u32 (pc : Int), .int .u32 (R 0 : Int), .int .u32 (R 1 : Int), .int .u32 (R 2 : Int), .int .u32 (R 3 : Int), .int .u32 (R 4 : Int), .int .u32 (R 5 : Int), .int .u32 (R 6 : Int), .int .u32 (R 7 : Int), (.slice src2 S.length cap2), .int .u8 (why : Int), .int .u64 (ep : Int), .int .u32 (home : Int), .pointer (some ⟨M, 0, none⟩), .int .u64 (epoch : Int), .int .u16 0, .bool false, .bool false, .int .u32 0, .int .u32 0] 73))
  generalize hW2 : w1.alloc (.cells #[.int .u32 (pc : Int), .int .u32 (R 0 : Int), .int .u32 (R 1 : Int), .int .u32 (R 2 : Int), .int .u32 (R 3 : Int), .int .u32 (R 4 : Int), .int .u32 (R 5 : Int), .int .u32 (R 6 : Int), .int .u32 (R 7 : Int), (.slice src2 S.length cap2), .int .u8 (why : Int), .int .u64 (ep : Int), .int .u32 (home : Int), .pointer (some ⟨M, 0, none⟩), .int .u64 (epoch : Int), .int .u16 0, .bool false, .bool false, .int .u32 0, .int .u32 0] 73) = W2 at KB SP2 A6 A7
  have KW2 := Lib.hid hW2
  have sz2 : W2.heap.size = w1.heap.size + 1 := by rw [← hW2]; simp
  clear hW2 SP1 k3 k6 k7
  go_wp2_with fail
  (try rw [KW2.out])
  refine (FC.out _ SP2.out.2.1).mono ?_
  rintro e w3 ⟨rfl, hb3⟩
  have K3b : Hid (RunB w3 w1.heap.size pc R (.slice src2 S.length cap2) why ep home (.pointer (some ⟨M, 0, none⟩)) epoch 0 false false 0 0) := Lib.hid (Blk.kept KB.out hb3)
  have SP3 : Hid (SP w (w.heap.size + 3) M g h c d cd G T L S (.slice src2 S.length cap2) w3) := Lib.hid ⟨SP2.out.1.kept hb3, SP2.out.2.1.kept hb3, SP2.out.2.2.trans (UpdX.of (hb3.mono SP2.out.2.2.size))⟩
  have C6 := A6.out.kept hb3
  have C7 := A7.out.kept hb3
  have hlB : w1.heap.size < w3.heap.size := K3b.out.lt
  clear KB SP2 A6 A7 hb3 FC KW2 t0 t10 t11
  go_wp2_with fail
  refine (DO.out _).mono ?_
  rintro e w4 ⟨rfl, hb4⟩
  have K4b : Hid (RunB w4 w1.heap.size pc R (.slice src2 S.length cap2) why ep home (.pointer (some ⟨M, 0, none⟩)) epoch 0 false false 0 0) := Lib.hid (Blk.kept K3b.out hb4)
  have SP4 : Hid (SP w (w.heap.size + 3) M g h c d cd G T L S (.slice src2 S.length cap2) w4) := Lib.hid ⟨SP3.out.1.kept hb4, SP3.out.2.1.kept hb4, SP3.out.2.2.trans (UpdX.of (hb4.mono SP3.out.2.2.size))⟩
  have D6 := C6.kept hb4
  have D7 := C7.kept hb4
  have hlB4 : w1.heap.size < w4.heap.size := K4b.out.lt
  clear K3b SP3 C6 C7 hb4 DO
  have r15 : w4.cell? ⟨w1.heap.size, 15, none⟩ = some (.int .u16 (0 : Int)) := K4b.out.cell 15
  have fr15 : w4.frozen? ⟨w1.heap.size, 15, none⟩ = false := K4b.out.frozen 15
  have K5 : Hid (RunB ((w4.setCell ⟨w1.heap.size, 15, none⟩ (.int .u16 (f1 : Int))).alloc (.cells #[.int .u8 (op : Int), .int .u8 (rd : Int), .int .u8 (ra : Int), .int .u8 (rb : Int), .int .i32 imm] 78)) w1.heap.size pc R (.slice src2 S.length cap2) why ep home (.pointer (some ⟨M, 0, none⟩)) epoch f1 false false 0 0) := Lib.hid (by
    have k := Blk.alloc (Blk.set_ K4b.out 15 (.int .u16 (f1 : Int))) (.cells #[.int .u8 (op : Int), .int .u8 (rd : Int), .int .u8 (ra : Int), .int .u8 (rb : Int), .int .i32 imm] 78)
    unfold RunB
    simpa using k)
  have u15 : Upd w1.heap.size w4 (w4.setCell ⟨w1.heap.size, 15, none⟩ (.int .u16 (f1 : Int))) := (Upd.refl _ w4).setCell 15 _
  have SP5 := Lib.hid ((SP4.out.upd u15 (by omega) (SP4.out.1.apart K4b.out) lM lg lh ld).alloc (.cells #[.int .u8 (op : Int), .int .u8 (rd : Int), .int .u8 (ra : Int), .int .u8 (rb : Int), .int .i32 imm] 78))
  have E6 := Lib.hid (Blk.alloc (u15.blk D6 (by omega)) (.cells #[.int .u8 (op : Int), .int .u8 (rd : Int), .int .u8 (ra : Int), .int .u8 (rb : Int), .int .i32 imm] 78))
  have E7 := Lib.hid (Blk.alloc (u15.blk D7 (by omega)) (.cells #[.int .u8 (op : Int), .int .u8 (rd : Int), .int .u8 (ra : Int), .int .u8 (rb : Int), .int .i32 imm] 78))
  have I5 : Hid (Blk ((w4.setCell ⟨w1.heap.size, 15, none⟩ (.int .u16 (f1 : Int))).alloc (.cells #[.int .u8 (op : Int), .int .u8 (rd : Int), .int .u8 (ra : Int), .int .u8 (rb : Int), .int .i32 imm] 78)) w4.heap.size 78 #[.int .u8 (op : Int), .int .u8 (rd : Int), .int .u8 (ra : Int), .int .u8 (rb : Int), .int .i32 imm]) := Lib.hid (by have := Blk.new (w4.setCell ⟨w1.heap.size, 15, none⟩ (.int .u16 (f1 : Int))) 78 #[.int .u8 (op : Int), .int .u8 (rd : Int), .int .u8 (ra : Int), .int .u8 (rb : Int), .int .i32 imm]; simpa [World.setCell] using this)
  generalize hW5 : (w4.setCell ⟨w1.heap.size, 15, none⟩ (.int .u16 (f1 : Int))).alloc (.cells #[.int .u8 (op : Int), .int .u8 (rd : Int), .int .u8 (ra : Int), .int .u8 (rb : Int), .int .i32 imm] 78) = W5 at K5 SP5 E6 E7 I5
  have PR : Hid (Pre W5 (w.heap.size + 3) w1.heap.size pc R (.slice src2 S.length cap2) S ep home M g h c d cd G T L epoch f1) := Lib.hid ⟨by have := K5.out; rw [hz.out] at this; exact this, SP5.out.1, SP5.out.2.1, by omega, by omega, by omega, by omega, by omega⟩
  have KW5 := Lib.hid hW5
  clear hW5 K4b SP4 D6 D7 u15 K5
  go_wp2_with fail
  (try rw [KW5.out])
  refine (GC.out _ _ _ PR.out).mono ?_
  intro e w7 gp
  obtain ⟨pc7, R7, S7, why7, ep7, L7, nS7, nT7, nA7, nW7⟩ := oo
  obtain ⟨rfl, s7, k7, o7, m7, u7⟩ := gp
  obtain ⟨src7, cap7, rfl, _⟩ := o7.form
  simp only at k7 o7 m7
  have q6 : Blk w7 (w.heap.size + 1) 30 #[.int .u32 0, .int .u32 0, .int .u32 0, .int .u32 0, .int .u32 0, .int .u32 0, .int .u32 0, .int .u32 0, .int .u32 0, .slice none 0 0, .int .u8 0, .int .u64 0, .int .u32 0] := (u7.block _ (by omega) (by omega)).trans E6.out
  have q7 : Blk w7 (w.heap.size + 1 + 1) 41 #[.bool false, .bool false, .int .u32 0, .int .u32 0] := (u7.block _ (by omega) (by omega)).trans E7.out
  have SP7 : SP w (w.heap.size + 3) M g h c d cd G T L7 S7 (.slice src7 S7.length cap7) w7 := ⟨o7, m7, SP5.out.2.2.trans ⟨u7.os, u7.tape, u7.output, u7.size, fun k h1 h2 => u7.block k (by omega) h2⟩⟩
  have r0 : w7.cell? ⟨w1.heap.size, 0, none⟩ = some (.int .u32 (pc7 : Int)) := k7.cell 0
  have r1 : w7.cell? ⟨w1.heap.size, 1, none⟩ = some (.int .u32 (R7 0 : Int)) := k7.cell 1
  have r2 : w7.cell? ⟨w1.heap.size, 2, none⟩ = some (.int .u32 (R7 1 : Int)) := k7.cell 2
  have r3 : w7.cell? ⟨w1.heap.size, 3, none⟩ = some (.int .u32 (R7 2 : Int)) := k7.cell 3
  have r4 : w7.cell? ⟨w1.heap.size, 4, none⟩ = some (.int .u32 (R7 3 : Int)) := k7.cell 4
  have r5 : w7.cell? ⟨w1.heap.size, 5, none⟩ = some (.int .u32 (R7 4 : Int)) := k7.cell 5
  have r6 : w7.cell? ⟨w1.heap.size, 6, none⟩ = some (.int .u32 (R7 5 : Int)) := k7.cell 6
  have r7 : w7.cell? ⟨w1.heap.size, 7, none⟩ = some (.int .u32 (R7 6 : Int)) := k7.cell 7
  have r8 : w7.cell? ⟨w1.heap.size, 8, none⟩ = some (.int .u32 (R7 7 : Int)) := k7.cell 8
  have r9 : w7.cell? ⟨w1.heap.size, 9, none⟩ = some ((.slice src7 S7.length cap7)) := k7.cell 9
  have r10 : w7.cell? ⟨w1.heap.size, 10, none⟩ = some (.int .u8 (why7 : Int)) := k7.cell 10
  have r11 : w7.cell? ⟨w1.heap.size, 11, none⟩ = some (.int .u64 (ep7 : Int)) := k7.cell 11
  have r12 : w7.cell? ⟨w1.heap.size, 12, none⟩ = some (.int .u32 (home : Int)) := k7.cell 12
  have r16 : w7.cell? ⟨w1.heap.size, 16, none⟩ = some (.bool nS7) := k7.cell 16
  have r17 : w7.cell? ⟨w1.heap.size, 17, none⟩ = some (.bool nT7) := k7.cell 17
  have r18 : w7.cell? ⟨w1.heap.size, 18, none⟩ = some (.int .u32 (nA7 : Int)) := k7.cell 18
  have r19 : w7.cell? ⟨w1.heap.size, 19, none⟩ = some (.int .u32 (nW7 : Int)) := k7.cell 19
  obtain ⟨z0, fz0, z1, fz1, z2, fz2, z3, fz3, z4, fz4, z5, fz5, z6, fz6, z7, fz7, z8, fz8, z9, fz9, z10, fz10, z11, fz11, z12, fz12⟩ := blkf13 q6
  obtain ⟨y0, fy0, y1, fy1, y2, fy2, y3, fy3⟩ := blkf4 q7
  have n1 : w.heap.size + 1 ≠ w1.heap.size := by omega
  have n2 : w.heap.size + 1 + 1 ≠ w1.heap.size := by omega
  have F1 : Hid (∀ vs1 vs2, StepP w M g h c d cd G T home ⟨pc7, R7, S7, why7, ep7, L7, nS7, nT7, nA7, nW7⟩ (.returned (.tuple #[.agg #[.int .u32 (pc7 : Int), .int .u32 (R7 0 : Int), .int .u32 (R7 1 : Int), .int .u32 (R7 2 : Int), .int .u32 (R7 3 : Int), .int .u32 (R7 4 : Int), .int .u32 (R7 5 : Int), .int .u32 (R7 6 : Int), .int .u32 (R7 7 : Int), (.slice src7 S7.length cap7), .int .u8 (why7 : Int), .int .u64 (ep7 : Int), .int .u32 (home : Int)], .agg #[.bool nS7, .bool nT7, .int .u32 (nA7 : Int), .int .u32 (nW7 : Int)]])) (((w7.setCells (w.heap.size + 1) 0 vs1).setCells (w.heap.size + 1 + 1) 0 vs2).drew)) := Lib.hid fun vs1 vs2 =>
    ⟨(.slice src7 S7.length cap7), rfl, (((SP7.upd (upd_cells _ vs1 0 _) (by omega) (SP7.low (by omega)) lM lg lh ld).upd (upd_cells _ vs2 0 _) (by omega) (SP7.low (by omega)) lM lg lh ld).upd ((Upd.refl (w.heap.size + 1) _).drewN 1) (by omega) (SP7.low (by omega)) lM lg lh ld).mono (by omega)⟩
  have F2 : Hid (∀ vs1 vs2, StepP w M g h c d cd G T home ⟨pc7, R7, S7, why7, ep7, L7, nS7, nT7, nA7, nW7⟩ (.returned (.tuple #[.agg #[.int .u32 (pc7 : Int), .int .u32 (R7 0 : Int), .int .u32 (R7 1 : Int), .int .u32 (R7 2 : Int), .int .u32 (R7 3 : Int), .int .u32 (R7 4 : Int), .int .u32 (R7 5 : Int), .int .u32 (R7 6 : Int), .int .u32 (R7 7 : Int), (.slice src7 S7.length cap7), .int .u8 (why7 : Int), .int .u64 (ep7 : Int), .int .u32 (home : Int)], .agg #[.bool nS7, .bool nT7, .int .u32 (nA7 : Int), .int .u32 (nW7 : Int)]])) (((w7.setCells (w.heap.size + 1 + 1) 0 vs2).setCells (w.heap.size + 1) 0 vs1).drew)) := Lib.hid fun vs1 vs2 =>
    ⟨(.slice src7 S7.length cap7), rfl, (((SP7.upd (upd_cells _ vs2 0 _) (by omega) (SP7.low (by omega)) lM lg lh ld).upd (upd_cells _ vs1 0 _) (by omega) (SP7.low (by omega)) lM lg lh ld).upd ((Upd.refl (w.heap.size + 1) _).drewN 1) (by omega) (SP7.low (by omega)) lM lg lh ld).mono (by omega)⟩
  clear SP7 k7 o7 m7 u7 q6 q7 E6 E7 SP5
  go_wp2_with fail
  go_region_with (fail)
  all_goals
    go_wp2_with fail
    refine bodyPost_ret (v := .tuple #[.agg #[.int .u32 (pc7 : Int), .int .u32 (R7 0 : Int), .int .u32 (R7 1 : Int), .int .u32 (R7 2 : Int), .int .u32 (R7 3 : Int), .int .u32 (R7 4 : Int), .int .u32 (R7 5 : Int), .int .u32 (R7 6 : Int), .int .u32 (R7 7 : Int), (.slice src7 S7.length cap7), .int .u8 (why7 : Int), .int .u64 (ep7 : Int), .int .u32 (home : Int)], .agg #[.bool nS7, .bool nT7, .int .u32 (nA7 : Int), .int .u32 (nW7 : Int)]]) (by simp [results, Tryz.results7, go_sem, *]) rfl ?_
    first
      | (have Z := F1.out [.int .u32 (pc7 : Int), .int .u32 (R7 0 : Int), .int .u32 (R7 1 : Int), .int .u32 (R7 2 : Int), .int .u32 (R7 3 : Int), .int .u32 (R7 4 : Int), .int .u32 (R7 5 : Int), .int .u32 (R7 6 : Int), .int .u32 (R7 7 : Int), (.slice src7 S7.length cap7), .int .u8 (why7 : Int), .int .u64 (ep7 : Int), .int .u32 (home : Int)] [.bool nS7, .bool nT7, .int .u32 (nA7 : Int), .int .u32 (nW7 : Int)]; simp only [World.setCells, Nat.zero_add, Nat.reduceAdd] at Z; with_reducible exact Z)
      | (have Z := F2.out [.int .u32 (pc7 : Int), .int .u32 (R7 0 : Int), .int .u32 (R7 1 : Int), .int .u32 (R7 2 : Int), .int .u32 (R7 3 : Int), .int .u32 (R7 4 : Int), .int .u32 (R7 5 : Int), .int .u32 (R7 6 : Int), .int .u32 (R7 7 : Int), (.slice src7 S7.length cap7), .int .u8 (why7 : Int), .int .u64 (ep7 : Int), .int .u32 (home : Int)] [.bool nS7, .bool nT7, .int .u32 (nA7 : Int), .int .u32 (nW7 : Int)]; simp only [World.setCells, Nat.zero_add, Nat.reduceAdd] at Z; with_reducible exact Z)
end Go.Proofs.YthnbdeibjbicpaaGreat.PM
