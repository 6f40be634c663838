/- law08's do. Conditions: the memories' cells. -/
import Derived.Test.YtjjcmclnjeplkaaLawM5b
namespace Go.Proofs.Ytjjcmclnjeplkaa.PM
set_option linter.unusedVariables false
set_option linter.unusedSimpArgs false
open Go.RowKit
theorem len_put (T : List Page) (L : List Nat) (x v : Nat) : (putM T L x v).1.length = L.length := by
  unfold putM
  split
  · split <;> simp
  · rfl
theorem len_store (T : List Page) (L : List Nat) (x v ep o : Nat) : (storeM T L x v ep o).1.length = L.length := by
  unfold storeM
  split <;> simp
set_option maxRecDepth 100000 in
set_option maxHeartbeats 16000000 in
theorem do8_0 (w : World) (M g h c d cd b cb e ce : Nat) (G : Nat → Nat) (T : List Page) (L : List Nat) (m : Mem w M g h c d cd G T L) (r : RM w b e T L) (sp : Sep8 M h d b e) (a : Act8) (hx : a.at_ < 4294967296) (ho : a.ow < 65536) (hk : a.k % 8 = 0) :
    Calls Try.prog 47 #[.pointer (some ⟨M, 0, none⟩), rm G b cb T e ce L, act8v a] w fun en w' => DoP8 w M g h c d cd b e (step8 G T L a) en w' := by
  obtain ⟨k, at_, wd, pg, n, ow, ep⟩ := a
  have hMl := m.ten.lt
  have hgl := m.tab.lt
  have hhl := m.tab.pgs.lt
  have hdl := m.wds.lt
  have hbl := r.pgs.lt
  have hel := r.wds.lt
  have few := r.few
  have SPQ := Lib.hid sp
  generalize hW0 : ((w.alloc (.cells #[.int .u32 (G 0 : Int), .int .u32 (G 1 : Int), .int .u32 (G 2 : Int), .int .u32 (G 3 : Int), .int .u32 (G 4 : Int), .int .u32 (G 5 : Int), .int .u32 (G 6 : Int), .int .u32 (G 7 : Int), .slice (some ⟨b, 0, none⟩) T.length cb, .slice (some ⟨e, 0, none⟩) L.length ce] 64)).alloc (.cells #[.int .u8 (k : Int), .int .u32 (at_ : Int), .int .u32 (wd : Int), .int .i64 pg, .int .i64 n, .int .u16 (ow : Int), .int .u64 (ep : Int)] 81)).alloc (.cells #[.int .u32 0, .int .u32 0, .int .u32 0, .int .u32 0, .int .u32 0, .int .u32 0, .int .u32 0, .int .u32 0, .slice none 0 0, .slice none 0 0] 64) = W0
  have B4 : Blk W0 w.heap.size 64 #[.int .u32 (G 0 : Int), .int .u32 (G 1 : Int), .int .u32 (G 2 : Int), .int .u32 (G 3 : Int), .int .u32 (G 4 : Int), .int .u32 (G 5 : Int), .int .u32 (G 6 : Int), .int .u32 (G 7 : Int), .slice (some ⟨b, 0, none⟩) T.length cb, .slice (some ⟨e, 0, none⟩) L.length ce] := by rw [← hW0]; exact ((Blk.new w _ _).alloc _).alloc _
  have B5 : Blk W0 (w.heap.size + 1) 81 #[.int .u8 (k : Int), .int .u32 (at_ : Int), .int .u32 (wd : Int), .int .i64 pg, .int .i64 n, .int .u16 (ow : Int), .int .u64 (ep : Int)] := by
    rw [← hW0]
    have := (Blk.new (w.alloc (.cells #[.int .u32 (G 0 : Int), .int .u32 (G 1 : Int), .int .u32 (G 2 : Int), .int .u32 (G 3 : Int), .int .u32 (G 4 : Int), .int .u32 (G 5 : Int), .int .u32 (G 6 : Int), .int .u32 (G 7 : Int), .slice (some ⟨b, 0, none⟩) T.length cb, .slice (some ⟨e, 0, none⟩) L.length ce] 64)) 81 #[.int .u8 (k : Int), .int .u32 (at_ : Int), .int .u32 (wd : Int), .int .i64 pg, .int .i64 n, .int .u16 (ow : Int), .int .u64 (ep : Int)]).alloc (.cells #[.int .u32 0, .int .u32 0, .int .u32 0, .int .u32 0, .int .u32 0, .int .u32 0, .int .u32 0, .int .u32 0, .slice none 0 0, .slice none 0 0] 64)
    simpa using this
  have B6 : Blk W0 (w.heap.size + 2) 64 #[.int .u32 0, .int .u32 0, .int .u32 0, .int .u32 0, .int .u32 0, .int .u32 0, .int .u32 0, .int .u32 0, .slice none 0 0, .slice none 0 0] := by
    rw [← hW0]
    have := Blk.new ((w.alloc (.cells #[.int .u32 (G 0 : Int), .int .u32 (G 1 : Int), .int .u32 (G 2 : Int), .int .u32 (G 3 : Int), .int .u32 (G 4 : Int), .int .u32 (G 5 : Int), .int .u32 (G 6 : Int), .int .u32 (G 7 : Int), .slice (some ⟨b, 0, none⟩) T.length cb, .slice (some ⟨e, 0, none⟩) L.length ce] 64)).alloc (.cells #[.int .u8 (k : Int), .int .u32 (at_ : Int), .int .u32 (wd : Int), .int .i64 pg, .int .i64 n, .int .u16 (ow : Int), .int .u64 (ep : Int)] 81)) 64 #[.int .u32 0, .int .u32 0, .int .u32 0, .int .u32 0, .int .u32 0, .int .u32 0, .int .u32 0, .int .u32 0, .slice none 0 0, .slice none 0 0]
    simpa using this
  have M0 : Mem W0 M g h c d cd G T L := by rw [← hW0]; exact ((m.alloc _).alloc _).alloc _
  have R0 : RM W0 b e T L := by rw [← hW0]; exact ((r.alloc _).alloc _).alloc _
  have b0 : Below w.heap.size w W0 := by rw [← hW0]; exact (((Below.refl _ w).alloc (Nat.le_refl _) _).alloc (by simp) _).alloc (by simp; omega) _
  have S0 : W0.heap.size = w.heap.size + 3 := by rw [← hW0]; simp
  have U0 : Upd3 M h d w W0 := Upd3.of b0
  have htm : Int.tmod (k : Int) 8 = ((k % 8 : Nat) : Int) := by rw [Int.tmod_eq_emod_of_nonneg (by omega)]; omega
  have ST : ∀ (S : (Nat → Nat) × List Page × List Nat) (w2 : World) (e' ce' : Nat), Mem w2 M g h c d cd S.1 S.2.1 S.2.2 → RM w2 b e' S.2.1 S.2.2 → (e' = e ∨ W0.heap.size ≤ e') → Upd3 M h d W0 w2 → Blk w2 w.heap.size 64 #[.int .u32 (G 0 : Int), .int .u32 (G 1 : Int), .int .u32 (G 2 : Int), .int .u32 (G 3 : Int), .int .u32 (G 4 : Int), .int .u32 (G 5 : Int), .int .u32 (G 6 : Int), .int .u32 (G 7 : Int), .slice (some ⟨b, 0, none⟩) T.length cb, .slice (some ⟨e, 0, none⟩) L.length ce] ∧ Blk w2 (w.heap.size + 2) 64 #[.int .u32 0, .int .u32 0, .int .u32 0, .int .u32 0, .int .u32 0, .int .u32 0, .int .u32 0, .int .u32 0, .slice none 0 0, .slice none 0 0] ∧
      Hid (∀ us vs, DoP8 w M g h c d cd b e S (.returned (.tuple #[rm S.1 b cb S.2.1 e' ce' S.2.2, .bool true])) ((w2.setCells w.heap.size 0 us).setCells (w.heap.size + 2) 0 vs)) ∧
      Hid (∀ k, ∀ A us vs, DoP8 w M g h c d cd b e S (.returned (.tuple #[rm S.1 b cb S.2.1 e' ce' S.2.2, .bool true])) (((w2.setCells (w.heap.size + 2) 0 vs).alloc (.cells A k)).setCells w2.heap.size 0 us)) := by
    intro S w2 e' ce' m2 r2 he u2
    have s2 := u2.size
    have ua := fun us => upd_setCells w.heap.size us 0 w2
    have ub := fun us vs => upd_setCells (w.heap.size + 2) vs 0 (w2.setCells w.heap.size 0 us)
    refine ⟨u2.blk B4 (by omega) (by omega) (by omega), u2.blk B6 (by omega) (by omega) (by omega), Lib.hid (fun us vs => ⟨b, cb, e', ce', rfl, (m2.upd (ua us) (by omega) (by omega) (by omega) (by omega)).upd (ub us vs) (by omega) (by omega) (by omega) (by omega), (r2.upd (ua us) (by omega) (by omega)).upd (ub us vs) (by omega) (by omega), Or.inl rfl, by omega, ?_⟩), ?_⟩
    · exact (U0.trans u2).then_low (below_setCells (by omega) vs 0 _ (below_setCells (Nat.le_refl _) us 0 _ (Below.refl _ _)))
    · refine Lib.hid (fun k A us vs => ?_)
      have uv := upd_setCells (w.heap.size + 2) vs 0 w2
      have m3 := (m2.upd uv (by omega) (by omega) (by omega) (by omega)).alloc (.cells A k)
      have r3 := (r2.upd uv (by omega) (by omega)).alloc (.cells A k)
      have uw := upd_setCells w2.heap.size us 0 ((w2.setCells (w.heap.size + 2) 0 vs).alloc (.cells A k))
      have hMl2 := m2.ten.lt
      have hgl2 := m2.tab.lt
      have hhl2 := m2.tab.pgs.lt
      have hdl2 := m2.wds.lt
      have hbl2 := r2.pgs.lt
      have hel2 := r2.wds.lt
      exact ⟨b, cb, e', ce', rfl, m3.upd uw (by omega) (by omega) (by omega) (by omega), r3.upd uw (by omega) (by omega), Or.inl rfl, by omega, (U0.trans u2).then_low (below_setCells (by omega) us 0 _ ((below_setCells (by omega) vs 0 _ (Below.refl _ _)).alloc (by rw [size_setCells]; omega) _))⟩
  have hm : Int.tmod (k : Int) 8 = 0 := by rw [htm]; have hk : k % 8 = 0 := hk; omega
  have hst : step8 G T L ⟨k, at_, wd, pg, n, ow, ep⟩ = (G, T, (putM T L at_ wd).1) := by
    have hk : k % 8 = 0 := hk
    simp [step8, hk]
  rw [hst]
  clear htm hst hk
  have hl : (putM T L at_ wd).1.length = L.length := len_put T L at_ wd
  have RC := put_c M0 at_ wd hx
  have RR := fun W (q : RM W b e T L) => rput_c W G b cb e ce T L q at_ wd hx
  generalize putM T L at_ wd = R at RC RR hl ⊢
  obtain ⟨R1, R2⟩ := R
  simp only at RC RR hl ⊢
  replace ST := Lib.hid ST
  have KW := Lib.hid hW0
  have ho : ow < 65536 := ho
  have FX : ∀ w1, Mem w1 M g h c d cd G T R1 → Upd d W0 w1 → (Blk w1 w.heap.size 64 #[.int .u32 (G 0 : Int), .int .u32 (G 1 : Int), .int .u32 (G 2 : Int), .int .u32 (G 3 : Int), .int .u32 (G 4 : Int), .int .u32 (G 5 : Int), .int .u32 (G 6 : Int), .int .u32 (G 7 : Int), .slice (some ⟨b, 0, none⟩) T.length cb, .slice (some ⟨e, 0, none⟩) L.length ce] ∧ Blk w1 (w.heap.size + 1) 81 #[.int .u8 (k : Int), .int .u32 (at_ : Int), .int .u32 (wd : Int), .int .i64 pg, .int .i64 n, .int .u16 (ow : Int), .int .u64 (ep : Int)] ∧ RM w1 b e T L) ∧ Hid (∀ en w2, RAns w1 G b cb T e R1 (.int .i64 (R2 : Int)) en w2 → ∃ e' ce', en = .returned (.tuple #[rm G b cb T e' ce' R1, .int .i64 (R2 : Int)]) ∧ Hid (Mem w2 M g h c d cd G T R1 ∧ RM w2 b e' T R1 ∧ (e' = e ∨ W0.heap.size ≤ e') ∧ Upd3 M h d W0 w2)) := fun w1 m1 u1 =>
    have r1 := R0.upd u1 sp.bd sp.ed
    have s1 := u1.size
    ⟨⟨u1.blk B4 (by omega), u1.blk B5 (by omega), r1⟩, Lib.hid (fun en w2 hr => by
      obtain ⟨e', ce', rfl, hd, hw, hb⟩ := hr
      exact ⟨e', ce', rfl, Lib.hid ⟨m1.kept hb, ⟨r1.pgs.kept hb, hw, few, by rw [hl]; exact r.len⟩, by omega, (Upd3.ofd u1).then_ hb⟩⟩)⟩
  replace FX := Lib.hid FX
  have a0 : W0.cell? ⟨w.heap.size + 1, 0, none⟩ = some (.int .u8 (k : Int)) := B5.cell 0
  have a1 : W0.cell? ⟨w.heap.size + 1, 1, none⟩ = some (.int .u32 (at_ : Int)) := B5.cell 1
  have a2 : W0.cell? ⟨w.heap.size + 1, 2, none⟩ = some (.int .u32 (wd : Int)) := B5.cell 2
  have a3 : W0.cell? ⟨w.heap.size + 1, 3, none⟩ = some (.int .i64 pg) := B5.cell 3
  have a4 : W0.cell? ⟨w.heap.size + 1, 4, none⟩ = some (.int .i64 n) := B5.cell 4
  have a5 : W0.cell? ⟨w.heap.size + 1, 5, none⟩ = some (.int .u16 (ow : Int)) := B5.cell 5
  have a6 : W0.cell? ⟨w.heap.size + 1, 6, none⟩ = some (.int .u64 (ep : Int)) := B5.cell 6
  replace RC := Lib.hid RC
  replace RR := Lib.hid RR
  clear hW0 B4 B5 B6 R0 b0 S0 U0 m r sp hx M0 hl
  unfold rm act8v
  simp only
  go_enter Try.func47, Try.ntmps47
  go_wp2_with fail
  (try rw [KW.out])
  refine RC.out.mono ?_
  rintro en w1 ⟨rfl, m1, u1⟩
  obtain ⟨⟨k4, k5, r1⟩, FY⟩ := FX.out _ m1 u1
  clear a0 a1 a2 a3 a4 a5 a6
  have t0 : w1.cell? ⟨w.heap.size, 0, none⟩ = some (.int .u32 (G 0 : Int)) := k4.cell 0
  have t1 : w1.cell? ⟨w.heap.size, 1, none⟩ = some (.int .u32 (G 1 : Int)) := k4.cell 1
  have t2 : w1.cell? ⟨w.heap.size, 2, none⟩ = some (.int .u32 (G 2 : Int)) := k4.cell 2
  have t3 : w1.cell? ⟨w.heap.size, 3, none⟩ = some (.int .u32 (G 3 : Int)) := k4.cell 3
  have t4 : w1.cell? ⟨w.heap.size, 4, none⟩ = some (.int .u32 (G 4 : Int)) := k4.cell 4
  have t5 : w1.cell? ⟨w.heap.size, 5, none⟩ = some (.int .u32 (G 5 : Int)) := k4.cell 5
  have t6 : w1.cell? ⟨w.heap.size, 6, none⟩ = some (.int .u32 (G 6 : Int)) := k4.cell 6
  have t7 : w1.cell? ⟨w.heap.size, 7, none⟩ = some (.int .u32 (G 7 : Int)) := k4.cell 7
  have t8 : w1.cell? ⟨w.heap.size, 8, none⟩ = some (.slice (some ⟨b, 0, none⟩) T.length cb) := k4.cell 8
  have t9 : w1.cell? ⟨w.heap.size, 9, none⟩ = some (.slice (some ⟨e, 0, none⟩) L.length ce) := k4.cell 9
  have a0 : w1.cell? ⟨w.heap.size + 1, 0, none⟩ = some (.int .u8 (k : Int)) := k5.cell 0
  have a1 : w1.cell? ⟨w.heap.size + 1, 1, none⟩ = some (.int .u32 (at_ : Int)) := k5.cell 1
  have a2 : w1.cell? ⟨w.heap.size + 1, 2, none⟩ = some (.int .u32 (wd : Int)) := k5.cell 2
  have a3 : w1.cell? ⟨w.heap.size + 1, 3, none⟩ = some (.int .i64 pg) := k5.cell 3
  have a4 : w1.cell? ⟨w.heap.size + 1, 4, none⟩ = some (.int .i64 n) := k5.cell 4
  have a5 : w1.cell? ⟨w.heap.size + 1, 5, none⟩ = some (.int .u16 (ow : Int)) := k5.cell 5
  have a6 : w1.cell? ⟨w.heap.size + 1, 6, none⟩ = some (.int .u64 (ep : Int)) := k5.cell 6
  have RX := RR.out w1 r1
  clear m1 u1 r1 k4 k5
  unfold rm at RX
  go_wp2_with fail
  refine RX.mono ?_
  clear RX
  rintro en w2 hr
  obtain ⟨e', ce', rfl, HH⟩ := FY.out _ _ hr
  obtain ⟨K4, K6, FF, F2⟩ := ST.out (G, T, R1) w2 e' ce' HH.out.1 HH.out.2.1 HH.out.2.2.1 HH.out.2.2.2
  clear hr
  have s0 : w2.cell? ⟨w.heap.size, 0, none⟩ = some (.int .u32 (G 0 : Int)) := K4.cell 0
  have fs0 : w2.frozen? ⟨w.heap.size, 0, none⟩ = false := K4.frozen 0
  have s1 : w2.cell? ⟨w.heap.size, 1, none⟩ = some (.int .u32 (G 1 : Int)) := K4.cell 1
  have fs1 : w2.frozen? ⟨w.heap.size, 1, none⟩ = false := K4.frozen 1
  have s2 : w2.cell? ⟨w.heap.size, 2, none⟩ = some (.int .u32 (G 2 : Int)) := K4.cell 2
  have fs2 : w2.frozen? ⟨w.heap.size, 2, none⟩ = false := K4.frozen 2
  have s3 : w2.cell? ⟨w.heap.size, 3, none⟩ = some (.int .u32 (G 3 : Int)) := K4.cell 3
  have fs3 : w2.frozen? ⟨w.heap.size, 3, none⟩ = false := K4.frozen 3
  have s4 : w2.cell? ⟨w.heap.size, 4, none⟩ = some (.int .u32 (G 4 : Int)) := K4.cell 4
  have fs4 : w2.frozen? ⟨w.heap.size, 4, none⟩ = false := K4.frozen 4
  have s5 : w2.cell? ⟨w.heap.size, 5, none⟩ = some (.int .u32 (G 5 : Int)) := K4.cell 5
  have fs5 : w2.frozen? ⟨w.heap.size, 5, none⟩ = false := K4.frozen 5
  have s6 : w2.cell? ⟨w.heap.size, 6, none⟩ = some (.int .u32 (G 6 : Int)) := K4.cell 6
  have fs6 : w2.frozen? ⟨w.heap.size, 6, none⟩ = false := K4.frozen 6
  have s7 : w2.cell? ⟨w.heap.size, 7, none⟩ = some (.int .u32 (G 7 : Int)) := K4.cell 7
  have fs7 : w2.frozen? ⟨w.heap.size, 7, none⟩ = false := K4.frozen 7
  have s8 : w2.cell? ⟨w.heap.size, 8, none⟩ = some (.slice (some ⟨b, 0, none⟩) T.length cb) := K4.cell 8
  have fs8 : w2.frozen? ⟨w.heap.size, 8, none⟩ = false := K4.frozen 8
  have s9 : w2.cell? ⟨w.heap.size, 9, none⟩ = some (.slice (some ⟨e, 0, none⟩) L.length ce) := K4.cell 9
  have fs9 : w2.frozen? ⟨w.heap.size, 9, none⟩ = false := K4.frozen 9
  have z0 : w2.cell? ⟨w.heap.size + 2, 0, none⟩ = some (.int .u32 0) := K6.cell 0
  have fz0 : w2.frozen? ⟨w.heap.size + 2, 0, none⟩ = false := K6.frozen 0
  have z1 : w2.cell? ⟨w.heap.size + 2, 1, none⟩ = some (.int .u32 0) := K6.cell 1
  have fz1 : w2.frozen? ⟨w.heap.size + 2, 1, none⟩ = false := K6.frozen 1
  have z2 : w2.cell? ⟨w.heap.size + 2, 2, none⟩ = some (.int .u32 0) := K6.cell 2
  have fz2 : w2.frozen? ⟨w.heap.size + 2, 2, none⟩ = false := K6.frozen 2
  have z3 : w2.cell? ⟨w.heap.size + 2, 3, none⟩ = some (.int .u32 0) := K6.cell 3
  have fz3 : w2.frozen? ⟨w.heap.size + 2, 3, none⟩ = false := K6.frozen 3
  have z4 : w2.cell? ⟨w.heap.size + 2, 4, none⟩ = some (.int .u32 0) := K6.cell 4
  have fz4 : w2.frozen? ⟨w.heap.size + 2, 4, none⟩ = false := K6.frozen 4
  have z5 : w2.cell? ⟨w.heap.size + 2, 5, none⟩ = some (.int .u32 0) := K6.cell 5
  have fz5 : w2.frozen? ⟨w.heap.size + 2, 5, none⟩ = false := K6.frozen 5
  have z6 : w2.cell? ⟨w.heap.size + 2, 6, none⟩ = some (.int .u32 0) := K6.cell 6
  have fz6 : w2.frozen? ⟨w.heap.size + 2, 6, none⟩ = false := K6.frozen 6
  have z7 : w2.cell? ⟨w.heap.size + 2, 7, none⟩ = some (.int .u32 0) := K6.cell 7
  have fz7 : w2.frozen? ⟨w.heap.size + 2, 7, none⟩ = false := K6.frozen 7
  have z8 : w2.cell? ⟨w.heap.size + 2, 8, none⟩ = some (.slice none 0 0) := K6.cell 8
  have fz8 : w2.frozen? ⟨w.heap.size + 2, 8, none⟩ = false := K6.frozen 8
  have z9 : w2.cell? ⟨w.heap.size + 2, 9, none⟩ = some (.slice none 0 0) := K6.cell 9
  have fz9 : w2.frozen? ⟨w.heap.size + 2, 9, none⟩ = false := K6.frozen 9
  have y4 : w.heap.size < w2.heap.size := K4.lt
  have y6 : w.heap.size + 1 + 1 < w2.heap.size := K6.lt
  clear K4 K6 t0 t1 t2 t3 t4 t5 t6 t7 t8 t9 a0 a1 a2 a3 a4 a5 a6
  unfold rm at FF F2 ⊢
  simp only at FF F2
  go_wp2_with fail
  refine bodyPost_ret (v := .tuple #[.agg #[.int .u32 (G 0 : Int), .int .u32 (G 1 : Int), .int .u32 (G 2 : Int), .int .u32 (G 3 : Int), .int .u32 (G 4 : Int), .int .u32 (G 5 : Int), .int .u32 (G 6 : Int), .int .u32 (G 7 : Int), .slice (some ⟨b, 0, none⟩) T.length cb, .slice (some ⟨e', 0, none⟩) R1.length ce'], .bool true]) (by simp [results, Try.results47, go_sem, *]) rfl ?_
  exact FF.out [.int .u32 (G 0 : Int), .int .u32 (G 1 : Int), .int .u32 (G 2 : Int), .int .u32 (G 3 : Int), .int .u32 (G 4 : Int), .int .u32 (G 5 : Int), .int .u32 (G 6 : Int), .int .u32 (G 7 : Int), .slice (some ⟨b, 0, none⟩) T.length cb, .slice (some ⟨e', 0, none⟩) R1.length ce'] [.int .u32 (G 0 : Int), .int .u32 (G 1 : Int), .int .u32 (G 2 : Int), .int .u32 (G 3 : Int), .int .u32 (G 4 : Int), .int .u32 (G 5 : Int), .int .u32 (G 6 : Int), .int .u32 (G 7 : Int), .slice (some ⟨b, 0, none⟩) T.length cb, .slice (some ⟨e', 0, none⟩) R1.length ce']
set_option maxRecDepth 100000 in
set_option maxHeartbeats 16000000 in
theorem do8_1 (w : World) (M g h c d cd b cb e ce : Nat) (G : Nat → Nat) (T : List Page) (L : List Nat) (m : Mem w M g h c d cd G T L) (r : RM w b e T L) (sp : Sep8 M h d b e) (a : Act8) (hx : a.at_ < 4294967296) (ho : a.ow < 65536) (hk : a.k % 8 = 1) :
    Calls Try.prog 47 #[.pointer (some ⟨M, 0, none⟩), rm G b cb T e ce L, act8v a] w fun en w' => DoP8 w M g h c d cd b e (step8 G T L a) en w' := by
  obtain ⟨k, at_, wd, pg, n, ow, ep⟩ := a
  have hMl := m.ten.lt
  have hgl := m.tab.lt
  have hhl := m.tab.pgs.lt
  have hdl := m.wds.lt
  have hbl := r.pgs.lt
  have hel := r.wds.lt
  have few := r.few
  have SPQ := Lib.hid sp
  generalize hW0 : ((w.alloc (.cells #[.int .u32 (G 0 : Int), .int .u32 (G 1 : Int), .int .u32 (G 2 : Int), .int .u32 (G 3 : Int), .int .u32 (G 4 : Int), .int .u32 (G 5 : Int), .int .u32 (G 6 : Int), .int .u32 (G 7 : Int), .slice (some ⟨b, 0, none⟩) T.length cb, .slice (some ⟨e, 0, none⟩) L.length ce] 64)).alloc (.cells #[.int .u8 (k : Int), .int .u32 (at_ : Int), .int .u32 (wd : Int), .int .i64 pg, .int .i64 n, .int .u16 (ow : Int), .int .u64 (ep : Int)] 81)).alloc (.cells #[.int .u32 0, .int .u32 0, .int .u32 0, .int .u32 0, .int .u32 0, .int .u32 0, .int .u32 0, .int .u32 0, .slice none 0 0, .slice none 0 0] 64) = W0
  have B4 : Blk W0 w.heap.size 64 #[.int .u32 (G 0 : Int), .int .u32 (G 1 : Int), .int .u32 (G 2 : Int), .int .u32 (G 3 : Int), .int .u32 (G 4 : Int), .int .u32 (G 5 : Int), .int .u32 (G 6 : Int), .int .u32 (G 7 : Int), .slice (some ⟨b, 0, none⟩) T.length cb, .slice (some ⟨e, 0, none⟩) L.length ce] := by rw [← hW0]; exact ((Blk.new w _ _).alloc _).alloc _
  have B5 : Blk W0 (w.heap.size + 1) 81 #[.int .u8 (k : Int), .int .u32 (at_ : Int), .int .u32 (wd : Int), .int .i64 pg, .int .i64 n, .int .u16 (ow : Int), .int .u64 (ep : Int)] := by
    rw [← hW0]
    have := (Blk.new (w.alloc (.cells #[.int .u32 (G 0 : Int), .int .u32 (G 1 : Int), .int .u32 (G 2 : Int), .int .u32 (G 3 : Int), .int .u32 (G 4 : Int), .int .u32 (G 5 : Int), .int .u32 (G 6 : Int), .int .u32 (G 7 : Int), .slice (some ⟨b, 0, none⟩) T.length cb, .slice (some ⟨e, 0, none⟩) L.length ce] 64)) 81 #[.int .u8 (k : Int), .int .u32 (at_ : Int), .int .u32 (wd : Int), .int .i64 pg, .int .i64 n, .int .u16 (ow : Int), .int .u64 (ep : Int)]).alloc (.cells #[.int .u32 0, .int .u32 0, .int .u32 0, .int .u32 0, .int .u32 0, .int .u32 0, .int .u32 0, .int .u32 0, .slice none 0 0, .slice none 0 0] 64)
    simpa using this
  have B6 : Blk W0 (w.heap.size + 2) 64 #[.int .u32 0, .int .u32 0, .int .u32 0, .int .u32 0, .int .u32 0, .int .u32 0, .int .u32 0, .int .u32 0, .slice none 0 0, .slice none 0 0] := by
    rw [← hW0]
    have := Blk.new ((w.alloc (.cells #[.int .u32 (G 0 : Int), .int .u32 (G 1 : Int), .int .u32 (G 2 : Int), .int .u32 (G 3 : Int), .int .u32 (G 4 : Int), .int .u32 (G 5 : Int), .int .u32 (G 6 : Int), .int .u32 (G 7 : Int), .slice (some ⟨b, 0, none⟩) T.length cb, .slice (some ⟨e, 0, none⟩) L.length ce] 64)).alloc (.cells #[.int .u8 (k : Int), .int .u32 (at_ : Int), .int .u32 (wd : Int), .int .i64 pg, .int .i64 n, .int .u16 (ow : Int), .int .u64 (ep : Int)] 81)) 64 #[.int .u32 0, .int .u32 0, .int .u32 0, .int .u32 0, .int .u32 0, .int .u32 0, .int .u32 0, .int .u32 0, .slice none 0 0, .slice none 0 0]
    simpa using this
  have M0 : Mem W0 M g h c d cd G T L := by rw [← hW0]; exact ((m.alloc _).alloc _).alloc _
  have R0 : RM W0 b e T L := by rw [← hW0]; exact ((r.alloc _).alloc _).alloc _
  have b0 : Below w.heap.size w W0 := by rw [← hW0]; exact (((Below.refl _ w).alloc (Nat.le_refl _) _).alloc (by simp) _).alloc (by simp; omega) _
  have S0 : W0.heap.size = w.heap.size + 3 := by rw [← hW0]; simp
  have U0 : Upd3 M h d w W0 := Upd3.of b0
  have htm : Int.tmod (k : Int) 8 = ((k % 8 : Nat) : Int) := by rw [Int.tmod_eq_emod_of_nonneg (by omega)]; omega
  have ST : ∀ (S : (Nat → Nat) × List Page × List Nat) (w2 : World) (e' ce' : Nat), Mem w2 M g h c d cd S.1 S.2.1 S.2.2 → RM w2 b e' S.2.1 S.2.2 → (e' = e ∨ W0.heap.size ≤ e') → Upd3 M h d W0 w2 → Blk w2 w.heap.size 64 #[.int .u32 (G 0 : Int), .int .u32 (G 1 : Int), .int .u32 (G 2 : Int), .int .u32 (G 3 : Int), .int .u32 (G 4 : Int), .int .u32 (G 5 : Int), .int .u32 (G 6 : Int), .int .u32 (G 7 : Int), .slice (some ⟨b, 0, none⟩) T.length cb, .slice (some ⟨e, 0, none⟩) L.length ce] ∧ Blk w2 (w.heap.size + 2) 64 #[.int .u32 0, .int .u32 0, .int .u32 0, .int .u32 0, .int .u32 0, .int .u32 0, .int .u32 0, .int .u32 0, .slice none 0 0, .slice none 0 0] ∧
      Hid (∀ us vs, DoP8 w M g h c d cd b e S (.returned (.tuple #[rm S.1 b cb S.2.1 e' ce' S.2.2, .bool true])) ((w2.setCells w.heap.size 0 us).setCells (w.heap.size + 2) 0 vs)) ∧
      Hid (∀ k, ∀ A us vs, DoP8 w M g h c d cd b e S (.returned (.tuple #[rm S.1 b cb S.2.1 e' ce' S.2.2, .bool true])) (((w2.setCells (w.heap.size + 2) 0 vs).alloc (.cells A k)).setCells w2.heap.size 0 us)) := by
    intro S w2 e' ce' m2 r2 he u2
    have s2 := u2.size
    have ua := fun us => upd_setCells w.heap.size us 0 w2
    have ub := fun us vs => upd_setCells (w.heap.size + 2) vs 0 (w2.setCells w.heap.size 0 us)
    refine ⟨u2.blk B4 (by omega) (by omega) (by omega), u2.blk B6 (by omega) (by omega) (by omega), Lib.hid (fun us vs => ⟨b, cb, e', ce', rfl, (m2.upd (ua us) (by omega) (by omega) (by omega) (by omega)).upd (ub us vs) (by omega) (by omega) (by omega) (by omega), (r2.upd (ua us) (by omega) (by omega)).upd (ub us vs) (by omega) (by omega), Or.inl rfl, by omega, ?_⟩), ?_⟩
    · exact (U0.trans u2).then_low (below_setCells (by omega) vs 0 _ (below_setCells (Nat.le_refl _) us 0 _ (Below.refl _ _)))
    · refine Lib.hid (fun k A us vs => ?_)
      have uv := upd_setCells (w.heap.size + 2) vs 0 w2
      have m3 := (m2.upd uv (by omega) (by omega) (by omega) (by omega)).alloc (.cells A k)
      have r3 := (r2.upd uv (by omega) (by omega)).alloc (.cells A k)
      have uw := upd_setCells w2.heap.size us 0 ((w2.setCells (w.heap.size + 2) 0 vs).alloc (.cells A k))
      have hMl2 := m2.ten.lt
      have hgl2 := m2.tab.lt
      have hhl2 := m2.tab.pgs.lt
      have hdl2 := m2.wds.lt
      have hbl2 := r2.pgs.lt
      have hel2 := r2.wds.lt
      exact ⟨b, cb, e', ce', rfl, m3.upd uw (by omega) (by omega) (by omega) (by omega), r3.upd uw (by omega) (by omega), Or.inl rfl, by omega, (U0.trans u2).then_low (below_setCells (by omega) us 0 _ ((below_setCells (by omega) vs 0 _ (Below.refl _ _)).alloc (by rw [size_setCells]; omega) _))⟩
  have hm : Int.tmod (k : Int) 8 = 1 := by rw [htm]; have hk : k % 8 = 1 := hk; omega
  have hst : step8 G T L ⟨k, at_, wd, pg, n, ow, ep⟩ = (G, T, (putM T L at_ wd).1) := by
    have hk : k % 8 = 1 := hk
    simp [step8, hk]
  rw [hst]
  clear htm hst hk
  have hl : (putM T L at_ wd).1.length = L.length := len_put T L at_ wd
  have RC := put_c M0 at_ wd hx
  have RR := fun W (q : RM W b e T L) => rput_c W G b cb e ce T L q at_ wd hx
  generalize putM T L at_ wd = R at RC RR hl ⊢
  obtain ⟨R1, R2⟩ := R
  simp only at RC RR hl ⊢
  replace ST := Lib.hid ST
  have KW := Lib.hid hW0
  have ho : ow < 65536 := ho
  have FX : ∀ w1, Mem w1 M g h c d cd G T R1 → Upd d W0 w1 → (Blk w1 w.heap.size 64 #[.int .u32 (G 0 : Int), .int .u32 (G 1 : Int), .int .u32 (G 2 : Int), .int .u32 (G 3 : Int), .int .u32 (G 4 : Int), .int .u32 (G 5 : Int), .int .u32 (G 6 : Int), .int .u32 (G 7 : Int), .slice (some ⟨b, 0, none⟩) T.length cb, .slice (some ⟨e, 0, none⟩) L.length ce] ∧ Blk w1 (w.heap.size + 1) 81 #[.int .u8 (k : Int), .int .u32 (at_ : Int), .int .u32 (wd : Int), .int .i64 pg, .int .i64 n, .int .u16 (ow : Int), .int .u64 (ep : Int)] ∧ RM w1 b e T L) ∧ Hid (∀ en w2, RAns w1 G b cb T e R1 (.int .i64 (R2 : Int)) en w2 → ∃ e' ce', en = .returned (.tuple #[rm G b cb T e' ce' R1, .int .i64 (R2 : Int)]) ∧ Hid (Mem w2 M g h c d cd G T R1 ∧ RM w2 b e' T R1 ∧ (e' = e ∨ W0.heap.size ≤ e') ∧ Upd3 M h d W0 w2)) := fun w1 m1 u1 =>
    have r1 := R0.upd u1 sp.bd sp.ed
    have s1 := u1.size
    ⟨⟨u1.blk B4 (by omega), u1.blk B5 (by omega), r1⟩, Lib.hid (fun en w2 hr => by
      obtain ⟨e', ce', rfl, hd, hw, hb⟩ := hr
      exact ⟨e', ce', rfl, Lib.hid ⟨m1.kept hb, ⟨r1.pgs.kept hb, hw, few, by rw [hl]; exact r.len⟩, by omega, (Upd3.ofd u1).then_ hb⟩⟩)⟩
  replace FX := Lib.hid FX
  have a0 : W0.cell? ⟨w.heap.size + 1, 0, none⟩ = some (.int .u8 (k : Int)) := B5.cell 0
  have a1 : W0.cell? ⟨w.heap.size + 1, 1, none⟩ = some (.int .u32 (at_ : Int)) := B5.cell 1
  have a2 : W0.cell? ⟨w.heap.size + 1, 2, none⟩ = some (.int .u32 (wd : Int)) := B5.cell 2
  have a3 : W0.cell? ⟨w.heap.size + 1, 3, none⟩ = some (.int .i64 pg) := B5.cell 3
  have a4 : W0.cell? ⟨w.heap.size + 1, 4, none⟩ = some (.int .i64 n) := B5.cell 4
  have a5 : W0.cell? ⟨w.heap.size + 1, 5, none⟩ = some (.int .u16 (ow : Int)) := B5.cell 5
  have a6 : W0.cell? ⟨w.heap.size + 1, 6, none⟩ = some (.int .u64 (ep : Int)) := B5.cell 6
  replace RC := Lib.hid RC
  replace RR := Lib.hid RR
  clear hW0 B4 B5 B6 R0 b0 S0 U0 m r sp hx M0 hl
  unfold rm act8v
  simp only
  go_enter Try.func47, Try.ntmps47
  go_wp2_with fail
  (try rw [KW.out])
  refine RC.out.mono ?_
  rintro en w1 ⟨rfl, m1, u1⟩
  obtain ⟨⟨k4, k5, r1⟩, FY⟩ := FX.out _ m1 u1
  clear a0 a1 a2 a3 a4 a5 a6
  have t0 : w1.cell? ⟨w.heap.size, 0, none⟩ = some (.int .u32 (G 0 : Int)) := k4.cell 0
  have t1 : w1.cell? ⟨w.heap.size, 1, none⟩ = some (.int .u32 (G 1 : Int)) := k4.cell 1
  have t2 : w1.cell? ⟨w.heap.size, 2, none⟩ = some (.int .u32 (G 2 : Int)) := k4.cell 2
  have t3 : w1.cell? ⟨w.heap.size, 3, none⟩ = some (.int .u32 (G 3 : Int)) := k4.cell 3
  have t4 : w1.cell? ⟨w.heap.size, 4, none⟩ = some (.int .u32 (G 4 : Int)) := k4.cell 4
  have t5 : w1.cell? ⟨w.heap.size, 5, none⟩ = some (.int .u32 (G 5 : Int)) := k4.cell 5
  have t6 : w1.cell? ⟨w.heap.size, 6, none⟩ = some (.int .u32 (G 6 : Int)) := k4.cell 6
  have t7 : w1.cell? ⟨w.heap.size, 7, none⟩ = some (.int .u32 (G 7 : Int)) := k4.cell 7
  have t8 : w1.cell? ⟨w.heap.size, 8, none⟩ = some (.slice (some ⟨b, 0, none⟩) T.length cb) := k4.cell 8
  have t9 : w1.cell? ⟨w.heap.size, 9, none⟩ = some (.slice (some ⟨e, 0, none⟩) L.length ce) := k4.cell 9
  have a0 : w1.cell? ⟨w.heap.size + 1, 0, none⟩ = some (.int .u8 (k : Int)) := k5.cell 0
  have a1 : w1.cell? ⟨w.heap.size + 1, 1, none⟩ = some (.int .u32 (at_ : Int)) := k5.cell 1
  have a2 : w1.cell? ⟨w.heap.size + 1, 2, none⟩ = some (.int .u32 (wd : Int)) := k5.cell 2
  have a3 : w1.cell? ⟨w.heap.size + 1, 3, none⟩ = some (.int .i64 pg) := k5.cell 3
  have a4 : w1.cell? ⟨w.heap.size + 1, 4, none⟩ = some (.int .i64 n) := k5.cell 4
  have a5 : w1.cell? ⟨w.heap.size + 1, 5, none⟩ = some (.int .u16 (ow : Int)) := k5.cell 5
  have a6 : w1.cell? ⟨w.heap.size + 1, 6, none⟩ = some (.int .u64 (ep : Int)) := k5.cell 6
  have RX := RR.out w1 r1
  clear m1 u1 r1 k4 k5
  unfold rm at RX
  go_wp2_with fail
  refine RX.mono ?_
  clear RX
  rintro en w2 hr
  obtain ⟨e', ce', rfl, HH⟩ := FY.out _ _ hr
  obtain ⟨K4, K6, FF, F2⟩ := ST.out (G, T, R1) w2 e' ce' HH.out.1 HH.out.2.1 HH.out.2.2.1 HH.out.2.2.2
  clear hr
  have s0 : w2.cell? ⟨w.heap.size, 0, none⟩ = some (.int .u32 (G 0 : Int)) := K4.cell 0
  have fs0 : w2.frozen? ⟨w.heap.size, 0, none⟩ = false := K4.frozen 0
  have s1 : w2.cell? ⟨w.heap.size, 1, none⟩ = some (.int .u32 (G 1 : Int)) := K4.cell 1
  have fs1 : w2.frozen? ⟨w.heap.size, 1, none⟩ = false := K4.frozen 1
  have s2 : w2.cell? ⟨w.heap.size, 2, none⟩ = some (.int .u32 (G 2 : Int)) := K4.cell 2
  have fs2 : w2.frozen? ⟨w.heap.size, 2, none⟩ = false := K4.frozen 2
  have s3 : w2.cell? ⟨w.heap.size, 3, none⟩ = some (.int .u32 (G 3 : Int)) := K4.cell 3
  have fs3 : w2.frozen? ⟨w.heap.size, 3, none⟩ = false := K4.frozen 3
  have s4 : w2.cell? ⟨w.heap.size, 4, none⟩ = some (.int .u32 (G 4 : Int)) := K4.cell 4
  have fs4 : w2.frozen? ⟨w.heap.size, 4, none⟩ = false := K4.frozen 4
  have s5 : w2.cell? ⟨w.heap.size, 5, none⟩ = some (.int .u32 (G 5 : Int)) := K4.cell 5
  have fs5 : w2.frozen? ⟨w.heap.size, 5, none⟩ = false := K4.frozen 5
  have s6 : w2.cell? ⟨w.heap.size, 6, none⟩ = some (.int .u32 (G 6 : Int)) := K4.cell 6
  have fs6 : w2.frozen? ⟨w.heap.size, 6, none⟩ = false := K4.frozen 6
  have s7 : w2.cell? ⟨w.heap.size, 7, none⟩ = some (.int .u32 (G 7 : Int)) := K4.cell 7
  have fs7 : w2.frozen? ⟨w.heap.size, 7, none⟩ = false := K4.frozen 7
  have s8 : w2.cell? ⟨w.heap.size, 8, none⟩ = some (.slice (some ⟨b, 0, none⟩) T.length cb) := K4.cell 8
  have fs8 : w2.frozen? ⟨w.heap.size, 8, none⟩ = false := K4.frozen 8
  have s9 : w2.cell? ⟨w.heap.size, 9, none⟩ = some (.slice (some ⟨e, 0, none⟩) L.length ce) := K4.cell 9
  have fs9 : w2.frozen? ⟨w.heap.size, 9, none⟩ = false := K4.frozen 9
  have z0 : w2.cell? ⟨w.heap.size + 2, 0, none⟩ = some (.int .u32 0) := K6.cell 0
  have fz0 : w2.frozen? ⟨w.heap.size + 2, 0, none⟩ = false := K6.frozen 0
  have z1 : w2.cell? ⟨w.heap.size + 2, 1, none⟩ = some (.int .u32 0) := K6.cell 1
  have fz1 : w2.frozen? ⟨w.heap.size + 2, 1, none⟩ = false := K6.frozen 1
  have z2 : w2.cell? ⟨w.heap.size + 2, 2, none⟩ = some (.int .u32 0) := K6.cell 2
  have fz2 : w2.frozen? ⟨w.heap.size + 2, 2, none⟩ = false := K6.frozen 2
  have z3 : w2.cell? ⟨w.heap.size + 2, 3, none⟩ = some (.int .u32 0) := K6.cell 3
  have fz3 : w2.frozen? ⟨w.heap.size + 2, 3, none⟩ = false := K6.frozen 3
  have z4 : w2.cell? ⟨w.heap.size + 2, 4, none⟩ = some (.int .u32 0) := K6.cell 4
  have fz4 : w2.frozen? ⟨w.heap.size + 2, 4, none⟩ = false := K6.frozen 4
  have z5 : w2.cell? ⟨w.heap.size + 2, 5, none⟩ = some (.int .u32 0) := K6.cell 5
  have fz5 : w2.frozen? ⟨w.heap.size + 2, 5, none⟩ = false := K6.frozen 5
  have z6 : w2.cell? ⟨w.heap.size + 2, 6, none⟩ = some (.int .u32 0) := K6.cell 6
  have fz6 : w2.frozen? ⟨w.heap.size + 2, 6, none⟩ = false := K6.frozen 6
  have z7 : w2.cell? ⟨w.heap.size + 2, 7, none⟩ = some (.int .u32 0) := K6.cell 7
  have fz7 : w2.frozen? ⟨w.heap.size + 2, 7, none⟩ = false := K6.frozen 7
  have z8 : w2.cell? ⟨w.heap.size + 2, 8, none⟩ = some (.slice none 0 0) := K6.cell 8
  have fz8 : w2.frozen? ⟨w.heap.size + 2, 8, none⟩ = false := K6.frozen 8
  have z9 : w2.cell? ⟨w.heap.size + 2, 9, none⟩ = some (.slice none 0 0) := K6.cell 9
  have fz9 : w2.frozen? ⟨w.heap.size + 2, 9, none⟩ = false := K6.frozen 9
  have y4 : w.heap.size < w2.heap.size := K4.lt
  have y6 : w.heap.size + 1 + 1 < w2.heap.size := K6.lt
  clear K4 K6 t0 t1 t2 t3 t4 t5 t6 t7 t8 t9 a0 a1 a2 a3 a4 a5 a6
  unfold rm at FF F2 ⊢
  simp only at FF F2
  go_wp2_with fail
  refine bodyPost_ret (v := .tuple #[.agg #[.int .u32 (G 0 : Int), .int .u32 (G 1 : Int), .int .u32 (G 2 : Int), .int .u32 (G 3 : Int), .int .u32 (G 4 : Int), .int .u32 (G 5 : Int), .int .u32 (G 6 : Int), .int .u32 (G 7 : Int), .slice (some ⟨b, 0, none⟩) T.length cb, .slice (some ⟨e', 0, none⟩) R1.length ce'], .bool true]) (by simp [results, Try.results47, go_sem, *]) rfl ?_
  exact FF.out [.int .u32 (G 0 : Int), .int .u32 (G 1 : Int), .int .u32 (G 2 : Int), .int .u32 (G 3 : Int), .int .u32 (G 4 : Int), .int .u32 (G 5 : Int), .int .u32 (G 6 : Int), .int .u32 (G 7 : Int), .slice (some ⟨b, 0, none⟩) T.length cb, .slice (some ⟨e', 0, none⟩) R1.length ce'] [.int .u32 (G 0 : Int), .int .u32 (G 1 : Int), .int .u32 (G 2 : Int), .int .u32 (G 3 : Int), .int .u32 (G 4 : Int), .int .u32 (G 5 : Int), .int .u32 (G 6 : Int), .int .u32 (G 7 : Int), .slice (some ⟨b, 0, none⟩) T.length cb, .slice (some ⟨e', 0, none⟩) R1.length ce']
set_option maxRecDepth 100000 in
set_option maxHeartbeats 16000000 in
theorem do8_2 (w : World) (M g h c d cd b cb e ce : Nat) (G : Nat → Nat) (T : List Page) (L : List Nat) (m : Mem w M g h c d cd G T L) (r : RM w b e T L) (sp : Sep8 M h d b e) (a : Act8) (hx : a.at_ < 4294967296) (ho : a.ow < 65536) (hk : a.k % 8 = 2) :
    Calls Try.prog 47 #[.pointer (some ⟨M, 0, none⟩), rm G b cb T e ce L, act8v a] w fun en w' => DoP8 w M g h c d cd b e (step8 G T L a) en w' := by
  obtain ⟨k, at_, wd, pg, n, ow, ep⟩ := a
  have hMl := m.ten.lt
  have hgl := m.tab.lt
  have hhl := m.tab.pgs.lt
  have hdl := m.wds.lt
  have hbl := r.pgs.lt
  have hel := r.wds.lt
  have few := r.few
  have SPQ := Lib.hid sp
  generalize hW0 : ((w.alloc (.cells #[.int .u32 (G 0 : Int), .int .u32 (G 1 : Int), .int .u32 (G 2 : Int), .int .u32 (G 3 : Int), .int .u32 (G 4 : Int), .int .u32 (G 5 : Int), .int .u32 (G 6 : Int), .int .u32 (G 7 : Int), .slice (some ⟨b, 0, none⟩) T.length cb, .slice (some ⟨e, 0, none⟩) L.length ce] 64)).alloc (.cells #[.int .u8 (k : Int), .int .u32 (at_ : Int), .int .u32 (wd : Int), .int .i64 pg, .int .i64 n, .int .u16 (ow : Int), .int .u64 (ep : Int)] 81)).alloc (.cells #[.int .u32 0, .int .u32 0, .int .u32 0, .int .u32 0, .int .u32 0, .int .u32 0, .int .u32 0, .int .u32 0, .slice none 0 0, .slice none 0 0] 64) = W0
  have B4 : Blk W0 w.heap.size 64 #[.int .u32 (G 0 : Int), .int .u32 (G 1 : Int), .int .u32 (G 2 : Int), .int .u32 (G 3 : Int), .int .u32 (G 4 : Int), .int .u32 (G 5 : Int), .int .u32 (G 6 : Int), .int .u32 (G 7 : Int), .slice (some ⟨b, 0, none⟩) T.length cb, .slice (some ⟨e, 0, none⟩) L.length ce] := by rw [← hW0]; exact ((Blk.new w _ _).alloc _).alloc _
  have B5 : Blk W0 (w.heap.size + 1) 81 #[.int .u8 (k : Int), .int .u32 (at_ : Int), .int .u32 (wd : Int), .int .i64 pg, .int .i64 n, .int .u16 (ow : Int), .int .u64 (ep : Int)] := by
    rw [← hW0]
    have := (Blk.new (w.alloc (.cells #[.int .u32 (G 0 : Int), .int .u32 (G 1 : Int), .int .u32 (G 2 : Int), .int .u32 (G 3 : Int), .int .u32 (G 4 : Int), .int .u32 (G 5 : Int), .int .u32 (G 6 : Int), .int .u32 (G 7 : Int), .slice (some ⟨b, 0, none⟩) T.length cb, .slice (some ⟨e, 0, none⟩) L.length ce] 64)) 81 #[.int .u8 (k : Int), .int .u32 (at_ : Int), .int .u32 (wd : Int), .int .i64 pg, .int .i64 n, .int .u16 (ow : Int), .int .u64 (ep : Int)]).alloc (.cells #[.int .u32 0, .int .u32 0, .int .u32 0, .int .u32 0, .int .u32 0, .int .u32 0, .int .u32 0, .int .u32 0, .slice none 0 0, .slice none 0 0] 64)
    simpa using this
  have B6 : Blk W0 (w.heap.size + 2) 64 #[.int .u32 0, .int .u32 0, .int .u32 0, .int .u32 0, .int .u32 0, .int .u32 0, .int .u32 0, .int .u32 0, .slice none 0 0, .slice none 0 0] := by
    rw [← hW0]
    have := Blk.new ((w.alloc (.cells #[.int .u32 (G 0 : Int), .int .u32 (G 1 : Int), .int .u32 (G 2 : Int), .int .u32 (G 3 : Int), .int .u32 (G 4 : Int), .int .u32 (G 5 : Int), .int .u32 (G 6 : Int), .int .u32 (G 7 : Int), .slice (some ⟨b, 0, none⟩) T.length cb, .slice (some ⟨e, 0, none⟩) L.length ce] 64)).alloc (.cells #[.int .u8 (k : Int), .int .u32 (at_ : Int), .int .u32 (wd : Int), .int .i64 pg, .int .i64 n, .int .u16 (ow : Int), .int .u64 (ep : Int)] 81)) 64 #[.int .u32 0, .int .u32 0, .int .u32 0, .int .u32 0, .int .u32 0, .int .u32 0, .int .u32 0, .int .u32 0, .slice none 0 0, .slice none 0 0]
    simpa using this
  have M0 : Mem W0 M g h c d cd G T L := by rw [← hW0]; exact ((m.alloc _).alloc _).alloc _
  have R0 : RM W0 b e T L := by rw [← hW0]; exact ((r.alloc _).alloc _).alloc _
  have b0 : Below w.heap.size w W0 := by rw [← hW0]; exact (((Below.refl _ w).alloc (Nat.le_refl _) _).alloc (by simp) _).alloc (by simp; omega) _
  have S0 : W0.heap.size = w.heap.size + 3 := by rw [← hW0]; simp
  have U0 : Upd3 M h d w W0 := Upd3.of b0
  have htm : Int.tmod (k : Int) 8 = ((k % 8 : Nat) : Int) := by rw [Int.tmod_eq_emod_of_nonneg (by omega)]; omega
  have ST : ∀ (S : (Nat → Nat) × List Page × List Nat) (w2 : World) (e' ce' : Nat), Mem w2 M g h c d cd S.1 S.2.1 S.2.2 → RM w2 b e' S.2.1 S.2.2 → (e' = e ∨ W0.heap.size ≤ e') → Upd3 M h d W0 w2 → Blk w2 w.heap.size 64 #[.int .u32 (G 0 : Int), .int .u32 (G 1 : Int), .int .u32 (G 2 : Int), .int .u32 (G 3 : Int), .int .u32 (G 4 : Int), .int .u32 (G 5 : Int), .int .u32 (G 6 : Int), .int .u32 (G 7 : Int), .slice (some ⟨b, 0, none⟩) T.length cb, .slice (some ⟨e, 0, none⟩) L.length ce] ∧ Blk w2 (w.heap.size + 2) 64 #[.int .u32 0, .int .u32 0, .int .u32 0, .int .u32 0, .int .u32 0, .int .u32 0, .int .u32 0, .int .u32 0, .slice none 0 0, .slice none 0 0] ∧
      Hid (∀ us vs, DoP8 w M g h c d cd b e S (.returned (.tuple #[rm S.1 b cb S.2.1 e' ce' S.2.2, .bool true])) ((w2.setCells w.heap.size 0 us).setCells (w.heap.size + 2) 0 vs)) ∧
      Hid (∀ k, ∀ A us vs, DoP8 w M g h c d cd b e S (.returned (.tuple #[rm S.1 b cb S.2.1 e' ce' S.2.2, .bool true])) (((w2.setCells (w.heap.size + 2) 0 vs).alloc (.cells A k)).setCells w2.heap.size 0 us)) := by
    intro S w2 e' ce' m2 r2 he u2
    have s2 := u2.size
    have ua := fun us => upd_setCells w.heap.size us 0 w2
    have ub := fun us vs => upd_setCells (w.heap.size + 2) vs 0 (w2.setCells w.heap.size 0 us)
    refine ⟨u2.blk B4 (by omega) (by omega) (by omega), u2.blk B6 (by omega) (by omega) (by omega), Lib.hid (fun us vs => ⟨b, cb, e', ce', rfl, (m2.upd (ua us) (by omega) (by omega) (by omega) (by omega)).upd (ub us vs) (by omega) (by omega) (by omega) (by omega), (r2.upd (ua us) (by omega) (by omega)).upd (ub us vs) (by omega) (by omega), Or.inl rfl, by omega, ?_⟩), ?_⟩
    · exact (U0.trans u2).then_low (below_setCells (by omega) vs 0 _ (below_setCells (Nat.le_refl _) us 0 _ (Below.refl _ _)))
    · refine Lib.hid (fun k A us vs => ?_)
      have uv := upd_setCells (w.heap.size + 2) vs 0 w2
      have m3 := (m2.upd uv (by omega) (by omega) (by omega) (by omega)).alloc (.cells A k)
      have r3 := (r2.upd uv (by omega) (by omega)).alloc (.cells A k)
      have uw := upd_setCells w2.heap.size us 0 ((w2.setCells (w.heap.size + 2) 0 vs).alloc (.cells A k))
      have hMl2 := m2.ten.lt
      have hgl2 := m2.tab.lt
      have hhl2 := m2.tab.pgs.lt
      have hdl2 := m2.wds.lt
      have hbl2 := r2.pgs.lt
      have hel2 := r2.wds.lt
      exact ⟨b, cb, e', ce', rfl, m3.upd uw (by omega) (by omega) (by omega) (by omega), r3.upd uw (by omega) (by omega), Or.inl rfl, by omega, (U0.trans u2).then_low (below_setCells (by omega) us 0 _ ((below_setCells (by omega) vs 0 _ (Below.refl _ _)).alloc (by rw [size_setCells]; omega) _))⟩
  have hm : Int.tmod (k : Int) 8 = 2 := by rw [htm]; have hk : k % 8 = 2 := hk; omega
  have hst : step8 G T L ⟨k, at_, wd, pg, n, ow, ep⟩ = ((setM G ((ow : Int) - 1) wd).1, T, L) := by
    have hk : k % 8 = 2 := hk
    simp [step8, hk]
  rw [hst]
  clear htm hst hk
  have hx : -1 ≤ (ow : Int) - 1 ∧ (ow : Int) - 1 < 65535 := by have ho : ow < 65536 := ho; omega
  have RC := setgate_c M0 ((ow : Int) - 1) wd
  have RR := fun W (q : RM W b e T L) => rsetgate_c W G b cb e ce T L ((ow : Int) - 1) wd
  generalize setM G ((ow : Int) - 1) wd = R at RC RR ⊢
  obtain ⟨R1, R2⟩ := R
  simp only at RC RR ⊢
  replace ST := Lib.hid ST
  have KW := Lib.hid hW0
  have ho : ow < 65536 := ho
  have FX : ∀ w1, Mem w1 M g h c d cd R1 T L → Upd M W0 w1 → (Blk w1 w.heap.size 64 #[.int .u32 (G 0 : Int), .int .u32 (G 1 : Int), .int .u32 (G 2 : Int), .int .u32 (G 3 : Int), .int .u32 (G 4 : Int), .int .u32 (G 5 : Int), .int .u32 (G 6 : Int), .int .u32 (G 7 : Int), .slice (some ⟨b, 0, none⟩) T.length cb, .slice (some ⟨e, 0, none⟩) L.length ce] ∧ Blk w1 (w.heap.size + 1) 81 #[.int .u8 (k : Int), .int .u32 (at_ : Int), .int .u32 (wd : Int), .int .i64 pg, .int .i64 n, .int .u16 (ow : Int), .int .u64 (ep : Int)] ∧ RM w1 b e T L) ∧ Hid (∀ en w2, RGate w1 (.tuple #[rm R1 b cb T e ce L, .int .i64 (R2 : Int)]) en w2 → en = .returned (.tuple #[rm R1 b cb T e ce L, .int .i64 (R2 : Int)]) ∧ Hid (Mem w2 M g h c d cd R1 T L ∧ RM w2 b e T L ∧ Upd3 M h d W0 w2)) := fun w1 m1 u1 =>
    have r1 := R0.upd u1 sp.bM sp.eM
    ⟨⟨u1.blk B4 (by omega), u1.blk B5 (by omega), r1⟩, Lib.hid (fun en w2 hr => by
      obtain ⟨rfl, hb⟩ := hr
      exact ⟨rfl, Lib.hid ⟨m1.kept hb, r1.kept hb, (Upd3.ofM u1).then_ hb⟩⟩)⟩
  replace FX := Lib.hid FX
  have a0 : W0.cell? ⟨w.heap.size + 1, 0, none⟩ = some (.int .u8 (k : Int)) := B5.cell 0
  have a1 : W0.cell? ⟨w.heap.size + 1, 1, none⟩ = some (.int .u32 (at_ : Int)) := B5.cell 1
  have a2 : W0.cell? ⟨w.heap.size + 1, 2, none⟩ = some (.int .u32 (wd : Int)) := B5.cell 2
  have a3 : W0.cell? ⟨w.heap.size + 1, 3, none⟩ = some (.int .i64 pg) := B5.cell 3
  have a4 : W0.cell? ⟨w.heap.size + 1, 4, none⟩ = some (.int .i64 n) := B5.cell 4
  have a5 : W0.cell? ⟨w.heap.size + 1, 5, none⟩ = some (.int .u16 (ow : Int)) := B5.cell 5
  have a6 : W0.cell? ⟨w.heap.size + 1, 6, none⟩ = some (.int .u64 (ep : Int)) := B5.cell 6
  replace RC := Lib.hid RC
  replace RR := Lib.hid RR
  clear hW0 B4 B5 B6 R0 b0 S0 U0 m r sp hx M0 
  unfold rm act8v
  simp only
  go_enter Try.func47, Try.ntmps47
  go_wp2_with fail
  (try rw [KW.out])
  refine RC.out.mono ?_
  rintro en w1 ⟨rfl, m1, u1⟩
  obtain ⟨⟨k4, k5, r1⟩, FY⟩ := FX.out _ m1 u1
  clear a0 a1 a2 a3 a4 a5 a6
  have t0 : w1.cell? ⟨w.heap.size, 0, none⟩ = some (.int .u32 (G 0 : Int)) := k4.cell 0
  have t1 : w1.cell? ⟨w.heap.size, 1, none⟩ = some (.int .u32 (G 1 : Int)) := k4.cell 1
  have t2 : w1.cell? ⟨w.heap.size, 2, none⟩ = some (.int .u32 (G 2 : Int)) := k4.cell 2
  have t3 : w1.cell? ⟨w.heap.size, 3, none⟩ = some (.int .u32 (G 3 : Int)) := k4.cell 3
  have t4 : w1.cell? ⟨w.heap.size, 4, none⟩ = some (.int .u32 (G 4 : Int)) := k4.cell 4
  have t5 : w1.cell? ⟨w.heap.size, 5, none⟩ = some (.int .u32 (G 5 : Int)) := k4.cell 5
  have t6 : w1.cell? ⟨w.heap.size, 6, none⟩ = some (.int .u32 (G 6 : Int)) := k4.cell 6
  have t7 : w1.cell? ⟨w.heap.size, 7, none⟩ = some (.int .u32 (G 7 : Int)) := k4.cell 7
  have t8 : w1.cell? ⟨w.heap.size, 8, none⟩ = some (.slice (some ⟨b, 0, none⟩) T.length cb) := k4.cell 8
  have t9 : w1.cell? ⟨w.heap.size, 9, none⟩ = some (.slice (some ⟨e, 0, none⟩) L.length ce) := k4.cell 9
  have a0 : w1.cell? ⟨w.heap.size + 1, 0, none⟩ = some (.int .u8 (k : Int)) := k5.cell 0
  have a1 : w1.cell? ⟨w.heap.size + 1, 1, none⟩ = some (.int .u32 (at_ : Int)) := k5.cell 1
  have a2 : w1.cell? ⟨w.heap.size + 1, 2, none⟩ = some (.int .u32 (wd : Int)) := k5.cell 2
  have a3 : w1.cell? ⟨w.heap.size + 1, 3, none⟩ = some (.int .i64 pg) := k5.cell 3
  have a4 : w1.cell? ⟨w.heap.size + 1, 4, none⟩ = some (.int .i64 n) := k5.cell 4
  have a5 : w1.cell? ⟨w.heap.size + 1, 5, none⟩ = some (.int .u16 (ow : Int)) := k5.cell 5
  have a6 : w1.cell? ⟨w.heap.size + 1, 6, none⟩ = some (.int .u64 (ep : Int)) := k5.cell 6
  have RX := RR.out w1 r1
  clear m1 u1 r1 k4 k5
  unfold rm at RX
  go_wp2_with fail
  refine RX.mono ?_
  clear RX
  rintro en w2 hr
  obtain ⟨rfl, HH⟩ := FY.out _ _ hr
  obtain ⟨K4, K6, FF, F2⟩ := ST.out (R1, T, L) w2 e ce HH.out.1 HH.out.2.1 (Or.inl rfl) HH.out.2.2
  clear hr
  have s0 : w2.cell? ⟨w.heap.size, 0, none⟩ = some (.int .u32 (G 0 : Int)) := K4.cell 0
  have fs0 : w2.frozen? ⟨w.heap.size, 0, none⟩ = false := K4.frozen 0
  have s1 : w2.cell? ⟨w.heap.size, 1, none⟩ = some (.int .u32 (G 1 : Int)) := K4.cell 1
  have fs1 : w2.frozen? ⟨w.heap.size, 1, none⟩ = false := K4.frozen 1
  have s2 : w2.cell? ⟨w.heap.size, 2, none⟩ = some (.int .u32 (G 2 : Int)) := K4.cell 2
  have fs2 : w2.frozen? ⟨w.heap.size, 2, none⟩ = false := K4.frozen 2
  have s3 : w2.cell? ⟨w.heap.size, 3, none⟩ = some (.int .u32 (G 3 : Int)) := K4.cell 3
  have fs3 : w2.frozen? ⟨w.heap.size, 3, none⟩ = false := K4.frozen 3
  have s4 : w2.cell? ⟨w.heap.size, 4, none⟩ = some (.int .u32 (G 4 : Int)) := K4.cell 4
  have fs4 : w2.frozen? ⟨w.heap.size, 4, none⟩ = false := K4.frozen 4
  have s5 : w2.cell? ⟨w.heap.size, 5, none⟩ = some (.int .u32 (G 5 : Int)) := K4.cell 5
  have fs5 : w2.frozen? ⟨w.heap.size, 5, none⟩ = false := K4.frozen 5
  have s6 : w2.cell? ⟨w.heap.size, 6, none⟩ = some (.int .u32 (G 6 : Int)) := K4.cell 6
  have fs6 : w2.frozen? ⟨w.heap.size, 6, none⟩ = false := K4.frozen 6
  have s7 : w2.cell? ⟨w.heap.size, 7, none⟩ = some (.int .u32 (G 7 : Int)) := K4.cell 7
  have fs7 : w2.frozen? ⟨w.heap.size, 7, none⟩ = false := K4.frozen 7
  have s8 : w2.cell? ⟨w.heap.size, 8, none⟩ = some (.slice (some ⟨b, 0, none⟩) T.length cb) := K4.cell 8
  have fs8 : w2.frozen? ⟨w.heap.size, 8, none⟩ = false := K4.frozen 8
  have s9 : w2.cell? ⟨w.heap.size, 9, none⟩ = some (.slice (some ⟨e, 0, none⟩) L.length ce) := K4.cell 9
  have fs9 : w2.frozen? ⟨w.heap.size, 9, none⟩ = false := K4.frozen 9
  have z0 : w2.cell? ⟨w.heap.size + 2, 0, none⟩ = some (.int .u32 0) := K6.cell 0
  have fz0 : w2.frozen? ⟨w.heap.size + 2, 0, none⟩ = false := K6.frozen 0
  have z1 : w2.cell? ⟨w.heap.size + 2, 1, none⟩ = some (.int .u32 0) := K6.cell 1
  have fz1 : w2.frozen? ⟨w.heap.size + 2, 1, none⟩ = false := K6.frozen 1
  have z2 : w2.cell? ⟨w.heap.size + 2, 2, none⟩ = some (.int .u32 0) := K6.cell 2
  have fz2 : w2.frozen? ⟨w.heap.size + 2, 2, none⟩ = false := K6.frozen 2
  have z3 : w2.cell? ⟨w.heap.size + 2, 3, none⟩ = some (.int .u32 0) := K6.cell 3
  have fz3 : w2.frozen? ⟨w.heap.size + 2, 3, none⟩ = false := K6.frozen 3
  have z4 : w2.cell? ⟨w.heap.size + 2, 4, none⟩ = some (.int .u32 0) := K6.cell 4
  have fz4 : w2.frozen? ⟨w.heap.size + 2, 4, none⟩ = false := K6.frozen 4
  have z5 : w2.cell? ⟨w.heap.size + 2, 5, none⟩ = some (.int .u32 0) := K6.cell 5
  have fz5 : w2.frozen? ⟨w.heap.size + 2, 5, none⟩ = false := K6.frozen 5
  have z6 : w2.cell? ⟨w.heap.size + 2, 6, none⟩ = some (.int .u32 0) := K6.cell 6
  have fz6 : w2.frozen? ⟨w.heap.size + 2, 6, none⟩ = false := K6.frozen 6
  have z7 : w2.cell? ⟨w.heap.size + 2, 7, none⟩ = some (.int .u32 0) := K6.cell 7
  have fz7 : w2.frozen? ⟨w.heap.size + 2, 7, none⟩ = false := K6.frozen 7
  have z8 : w2.cell? ⟨w.heap.size + 2, 8, none⟩ = some (.slice none 0 0) := K6.cell 8
  have fz8 : w2.frozen? ⟨w.heap.size + 2, 8, none⟩ = false := K6.frozen 8
  have z9 : w2.cell? ⟨w.heap.size + 2, 9, none⟩ = some (.slice none 0 0) := K6.cell 9
  have fz9 : w2.frozen? ⟨w.heap.size + 2, 9, none⟩ = false := K6.frozen 9
  have y4 : w.heap.size < w2.heap.size := K4.lt
  have y6 : w.heap.size + 1 + 1 < w2.heap.size := K6.lt
  clear K4 K6 t0 t1 t2 t3 t4 t5 t6 t7 t8 t9 a0 a1 a2 a3 a4 a5 a6
  unfold rm at FF F2 ⊢
  simp only at FF F2
  go_wp2_with fail
  refine bodyPost_ret (v := .tuple #[.agg #[.int .u32 (R1 0 : Int), .int .u32 (R1 1 : Int), .int .u32 (R1 2 : Int), .int .u32 (R1 3 : Int), .int .u32 (R1 4 : Int), .int .u32 (R1 5 : Int), .int .u32 (R1 6 : Int), .int .u32 (R1 7 : Int), .slice (some ⟨b, 0, none⟩) T.length cb, .slice (some ⟨e, 0, none⟩) L.length ce], .bool true]) (by simp [results, Try.results47, go_sem, *]) rfl ?_
  exact FF.out [.int .u32 (R1 0 : Int), .int .u32 (R1 1 : Int), .int .u32 (R1 2 : Int), .int .u32 (R1 3 : Int), .int .u32 (R1 4 : Int), .int .u32 (R1 5 : Int), .int .u32 (R1 6 : Int), .int .u32 (R1 7 : Int), .slice (some ⟨b, 0, none⟩) T.length cb, .slice (some ⟨e, 0, none⟩) L.length ce] [.int .u32 (R1 0 : Int), .int .u32 (R1 1 : Int), .int .u32 (R1 2 : Int), .int .u32 (R1 3 : Int), .int .u32 (R1 4 : Int), .int .u32 (R1 5 : Int), .int .u32 (R1 6 : Int), .int .u32 (R1 7 : Int), .slice (some ⟨b, 0, none⟩) T.length cb, .slice (some ⟨e, 0, none⟩) L.length ce]
set_option maxRecDepth 100000 in
set_option maxHeartbeats 16000000 in
theorem do8_3 (w : World) (M g h c d cd b cb e ce : Nat) (G : Nat → Nat) (T : List Page) (L : List Nat) (m : Mem w M g h c d cd G T L) (r : RM w b e T L) (sp : Sep8 M h d b e) (a : Act8) (hx : a.at_ < 4294967296) (ho : a.ow < 65536) (hk : a.k % 8 = 3) :
    Calls Try.prog 47 #[.pointer (some ⟨M, 0, none⟩), rm G b cb T e ce L, act8v a] w fun en w' => DoP8 w M g h c d cd b e (step8 G T L a) en w' := by
  obtain ⟨k, at_, wd, pg, n, ow, ep⟩ := a
  have hMl := m.ten.lt
  have hgl := m.tab.lt
  have hhl := m.tab.pgs.lt
  have hdl := m.wds.lt
  have hbl := r.pgs.lt
  have hel := r.wds.lt
  have few := r.few
  have SPQ := Lib.hid sp
  generalize hW0 : ((w.alloc (.cells #[.int .u32 (G 0 : Int), .int .u32 (G 1 : Int), .int .u32 (G 2 : Int), .int .u32 (G 3 : Int), .int .u32 (G 4 : Int), .int .u32 (G 5 : Int), .int .u32 (G 6 : Int), .int .u32 (G 7 : Int), .slice (some ⟨b, 0, none⟩) T.length cb, .slice (some ⟨e, 0, none⟩) L.length ce] 64)).alloc (.cells #[.int .u8 (k : Int), .int .u32 (at_ : Int), .int .u32 (wd : Int), .int .i64 pg, .int .i64 n, .int .u16 (ow : Int), .int .u64 (ep : Int)] 81)).alloc (.cells #[.int .u32 0, .int .u32 0, .int .u32 0, .int .u32 0, .int .u32 0, .int .u32 0, .int .u32 0, .int .u32 0, .slice none 0 0, .slice none 0 0] 64) = W0
  have B4 : Blk W0 w.heap.size 64 #[.int .u32 (G 0 : Int), .int .u32 (G 1 : Int), .int .u32 (G 2 : Int), .int .u32 (G 3 : Int), .int .u32 (G 4 : Int), .int .u32 (G 5 : Int), .int .u32 (G 6 : Int), .int .u32 (G 7 : Int), .slice (some ⟨b, 0, none⟩) T.length cb, .slice (some ⟨e, 0, none⟩) L.length ce] := by rw [← hW0]; exact ((Blk.new w _ _).alloc _).alloc _
  have B5 : Blk W0 (w.heap.size + 1) 81 #[.int .u8 (k : Int), .int .u32 (at_ : Int), .int .u32 (wd : Int), .int .i64 pg, .int .i64 n, .int .u16 (ow : Int), .int .u64 (ep : Int)] := by
    rw [← hW0]
    have := (Blk.new (w.alloc (.cells #[.int .u32 (G 0 : Int), .int .u32 (G 1 : Int), .int .u32 (G 2 : Int), .int .u32 (G 3 : Int), .int .u32 (G 4 : Int), .int .u32 (G 5 : Int), .int .u32 (G 6 : Int), .int .u32 (G 7 : Int), .slice (some ⟨b, 0, none⟩) T.length cb, .slice (some ⟨e, 0, none⟩) L.length ce] 64)) 81 #[.int .u8 (k : Int), .int .u32 (at_ : Int), .int .u32 (wd : Int), .int .i64 pg, .int .i64 n, .int .u16 (ow : Int), .int .u64 (ep : Int)]).alloc (.cells #[.int .u32 0, .int .u32 0, .int .u32 0, .int .u32 0, .int .u32 0, .int .u32 0, .int .u32 0, .int .u32 0, .slice none 0 0, .slice none 0 0] 64)
    simpa using this
  have B6 : Blk W0 (w.heap.size + 2) 64 #[.int .u32 0, .int .u32 0, .int .u32 0, .int .u32 0, .int .u32 0, .int .u32 0, .int .u32 0, .int .u32 0, .slice none 0 0, .slice none 0 0] := by
    rw [← hW0]
    have := Blk.new ((w.alloc (.cells #[.int .u32 (G 0 : Int), .int .u32 (G 1 : Int), .int .u32 (G 2 : Int), .int .u32 (G 3 : Int), .int .u32 (G 4 : Int), .int .u32 (G 5 : Int), .int .u32 (G 6 : Int), .int .u32 (G 7 : Int), .slice (some ⟨b, 0, none⟩) T.length cb, .slice (some ⟨e, 0, none⟩) L.length ce] 64)).alloc (.cells #[.int .u8 (k : Int), .int .u32 (at_ : Int), .int .u32 (wd : Int), .int .i64 pg, .int .i64 n, .int .u16 (ow : Int), .int .u64 (ep : Int)] 81)) 64 #[.int .u32 0, .int .u32 0, .int .u32 0, .int .u32 0, .int .u32 0, .int .u32 0, .int .u32 0, .int .u32 0, .slice none 0 0, .slice none 0 0]
    simpa using this
  have M0 : Mem W0 M g h c d cd G T L := by rw [← hW0]; exact ((m.alloc _).alloc _).alloc _
  have R0 : RM W0 b e T L := by rw [← hW0]; exact ((r.alloc _).alloc _).alloc _
  have b0 : Below w.heap.size w W0 := by rw [← hW0]; exact (((Below.refl _ w).alloc (Nat.le_refl _) _).alloc (by simp) _).alloc (by simp; omega) _
  have S0 : W0.heap.size = w.heap.size + 3 := by rw [← hW0]; simp
  have U0 : Upd3 M h d w W0 := Upd3.of b0
  have htm : Int.tmod (k : Int) 8 = ((k % 8 : Nat) : Int) := by rw [Int.tmod_eq_emod_of_nonneg (by omega)]; omega
  have ST : ∀ (S : (Nat → Nat) × List Page × List Nat) (w2 : World) (e' ce' : Nat), Mem w2 M g h c d cd S.1 S.2.1 S.2.2 → RM w2 b e' S.2.1 S.2.2 → (e' = e ∨ W0.heap.size ≤ e') → Upd3 M h d W0 w2 → Blk w2 w.heap.size 64 #[.int .u32 (G 0 : Int), .int .u32 (G 1 : Int), .int .u32 (G 2 : Int), .int .u32 (G 3 : Int), .int .u32 (G 4 : Int), .int .u32 (G 5 : Int), .int .u32 (G 6 : Int), .int .u32 (G 7 : Int), .slice (some ⟨b, 0, none⟩) T.length cb, .slice (some ⟨e, 0, none⟩) L.length ce] ∧ Blk w2 (w.heap.size + 2) 64 #[.int .u32 0, .int .u32 0, .int .u32 0, .int .u32 0, .int .u32 0, .int .u32 0, .int .u32 0, .int .u32 0, .slice none 0 0, .slice none 0 0] ∧
      Hid (∀ us vs, DoP8 w M g h c d cd b e S (.returned (.tuple #[rm S.1 b cb S.2.1 e' ce' S.2.2, .bool true])) ((w2.setCells w.heap.size 0 us).setCells (w.heap.size + 2) 0 vs)) ∧
      Hid (∀ k, ∀ A us vs, DoP8 w M g h c d cd b e S (.returned (.tuple #[rm S.1 b cb S.2.1 e' ce' S.2.2, .bool true])) (((w2.setCells (w.heap.size + 2) 0 vs).alloc (.cells A k)).setCells w2.heap.size 0 us)) := by
    intro S w2 e' ce' m2 r2 he u2
    have s2 := u2.size
    have ua := fun us => upd_setCells w.heap.size us 0 w2
    have ub := fun us vs => upd_setCells (w.heap.size + 2) vs 0 (w2.setCells w.heap.size 0 us)
    refine ⟨u2.blk B4 (by omega) (by omega) (by omega), u2.blk B6 (by omega) (by omega) (by omega), Lib.hid (fun us vs => ⟨b, cb, e', ce', rfl, (m2.upd (ua us) (by omega) (by omega) (by omega) (by omega)).upd (ub us vs) (by omega) (by omega) (by omega) (by omega), (r2.upd (ua us) (by omega) (by omega)).upd (ub us vs) (by omega) (by omega), Or.inl rfl, by omega, ?_⟩), ?_⟩
    · exact (U0.trans u2).then_low (below_setCells (by omega) vs 0 _ (below_setCells (Nat.le_refl _) us 0 _ (Below.refl _ _)))
    · refine Lib.hid (fun k A us vs => ?_)
      have uv := upd_setCells (w.heap.size + 2) vs 0 w2
      have m3 := (m2.upd uv (by omega) (by omega) (by omega) (by omega)).alloc (.cells A k)
      have r3 := (r2.upd uv (by omega) (by omega)).alloc (.cells A k)
      have uw := upd_setCells w2.heap.size us 0 ((w2.setCells (w.heap.size + 2) 0 vs).alloc (.cells A k))
      have hMl2 := m2.ten.lt
      have hgl2 := m2.tab.lt
      have hhl2 := m2.tab.pgs.lt
      have hdl2 := m2.wds.lt
      have hbl2 := r2.pgs.lt
      have hel2 := r2.wds.lt
      exact ⟨b, cb, e', ce', rfl, m3.upd uw (by omega) (by omega) (by omega) (by omega), r3.upd uw (by omega) (by omega), Or.inl rfl, by omega, (U0.trans u2).then_low (below_setCells (by omega) us 0 _ ((below_setCells (by omega) vs 0 _ (Below.refl _ _)).alloc (by rw [size_setCells]; omega) _))⟩
  have hm : Int.tmod (k : Int) 8 = 3 := by rw [htm]; have hk : k % 8 = 3 := hk; omega
  have hst : step8 G T L ⟨k, at_, wd, pg, n, ow, ep⟩ = (G, T, (storeM T L at_ wd ep ow).1) := by
    have hk : k % 8 = 3 := hk
    simp [step8, hk]
  rw [hst]
  clear htm hst hk
  have hl : (storeM T L at_ wd ep ow).1.length = L.length := len_store T L at_ wd ep ow
  have RC := store_c M0 at_ wd ep ow hx
  have RR := fun W (q : RM W b e T L) => rstore_c W G b cb e ce T L q at_ wd ep ow hx
  generalize storeM T L at_ wd ep ow = R at RC RR hl ⊢
  obtain ⟨R1, R2⟩ := R
  simp only at RC RR hl ⊢
  replace ST := Lib.hid ST
  have KW := Lib.hid hW0
  have ho : ow < 65536 := ho
  have FX : ∀ w1, Mem w1 M g h c d cd G T R1 → Upd d W0 w1 → (Blk w1 w.heap.size 64 #[.int .u32 (G 0 : Int), .int .u32 (G 1 : Int), .int .u32 (G 2 : Int), .int .u32 (G 3 : Int), .int .u32 (G 4 : Int), .int .u32 (G 5 : Int), .int .u32 (G 6 : Int), .int .u32 (G 7 : Int), .slice (some ⟨b, 0, none⟩) T.length cb, .slice (some ⟨e, 0, none⟩) L.length ce] ∧ Blk w1 (w.heap.size + 1) 81 #[.int .u8 (k : Int), .int .u32 (at_ : Int), .int .u32 (wd : Int), .int .i64 pg, .int .i64 n, .int .u16 (ow : Int), .int .u64 (ep : Int)] ∧ RM w1 b e T L) ∧ Hid (∀ en w2, RAns w1 G b cb T e R1 (.bool R2) en w2 → ∃ e' ce', en = .returned (.tuple #[rm G b cb T e' ce' R1, .bool R2]) ∧ Hid (Mem w2 M g h c d cd G T R1 ∧ RM w2 b e' T R1 ∧ (e' = e ∨ W0.heap.size ≤ e') ∧ Upd3 M h d W0 w2)) := fun w1 m1 u1 =>
    have r1 := R0.upd u1 sp.bd sp.ed
    have s1 := u1.size
    ⟨⟨u1.blk B4 (by omega), u1.blk B5 (by omega), r1⟩, Lib.hid (fun en w2 hr => by
      obtain ⟨e', ce', rfl, hd, hw, hb⟩ := hr
      exact ⟨e', ce', rfl, Lib.hid ⟨m1.kept hb, ⟨r1.pgs.kept hb, hw, few, by rw [hl]; exact r.len⟩, by omega, (Upd3.ofd u1).then_ hb⟩⟩)⟩
  replace FX := Lib.hid FX
  have a0 : W0.cell? ⟨w.heap.size + 1, 0, none⟩ = some (.int .u8 (k : Int)) := B5.cell 0
  have a1 : W0.cell? ⟨w.heap.size + 1, 1, none⟩ = some (.int .u32 (at_ : Int)) := B5.cell 1
  have a2 : W0.cell? ⟨w.heap.size + 1, 2, none⟩ = some (.int .u32 (wd : Int)) := B5.cell 2
  have a3 : W0.cell? ⟨w.heap.size + 1, 3, none⟩ = some (.int .i64 pg) := B5.cell 3
  have a4 : W0.cell? ⟨w.heap.size + 1, 4, none⟩ = some (.int .i64 n) := B5.cell 4
  have a5 : W0.cell? ⟨w.heap.size + 1, 5, none⟩ = some (.int .u16 (ow : Int)) := B5.cell 5
  have a6 : W0.cell? ⟨w.heap.size + 1, 6, none⟩ = some (.int .u64 (ep : Int)) := B5.cell 6
  replace RC := Lib.hid RC
  replace RR := Lib.hid RR
  clear hW0 B4 B5 B6 R0 b0 S0 U0 m r sp hx M0 hl
  unfold rm act8v
  simp only
  go_enter Try.func47, Try.ntmps47
  go_wp2_with fail
  (try rw [KW.out])
  refine RC.out.mono ?_
  rintro en w1 ⟨rfl, m1, u1⟩
  obtain ⟨⟨k4, k5, r1⟩, FY⟩ := FX.out _ m1 u1
  clear a0 a1 a2 a3 a4 a5 a6
  have t0 : w1.cell? ⟨w.heap.size, 0, none⟩ = some (.int .u32 (G 0 : Int)) := k4.cell 0
  have t1 : w1.cell? ⟨w.heap.size, 1, none⟩ = some (.int .u32 (G 1 : Int)) := k4.cell 1
  have t2 : w1.cell? ⟨w.heap.size, 2, none⟩ = some (.int .u32 (G 2 : Int)) := k4.cell 2
  have t3 : w1.cell? ⟨w.heap.size, 3, none⟩ = some (.int .u32 (G 3 : Int)) := k4.cell 3
  have t4 : w1.cell? ⟨w.heap.size, 4, none⟩ = some (.int .u32 (G 4 : Int)) := k4.cell 4
  have t5 : w1.cell? ⟨w.heap.size, 5, none⟩ = some (.int .u32 (G 5 : Int)) := k4.cell 5
  have t6 : w1.cell? ⟨w.heap.size, 6, none⟩ = some (.int .u32 (G 6 : Int)) := k4.cell 6
  have t7 : w1.cell? ⟨w.heap.size, 7, none⟩ = some (.int .u32 (G 7 : Int)) := k4.cell 7
  have t8 : w1.cell? ⟨w.heap.size, 8, none⟩ = some (.slice (some ⟨b, 0, none⟩) T.length cb) := k4.cell 8
  have t9 : w1.cell? ⟨w.heap.size, 9, none⟩ = some (.slice (some ⟨e, 0, none⟩) L.length ce) := k4.cell 9
  have a0 : w1.cell? ⟨w.heap.size + 1, 0, none⟩ = some (.int .u8 (k : Int)) := k5.cell 0
  have a1 : w1.cell? ⟨w.heap.size + 1, 1, none⟩ = some (.int .u32 (at_ : Int)) := k5.cell 1
  have a2 : w1.cell? ⟨w.heap.size + 1, 2, none⟩ = some (.int .u32 (wd : Int)) := k5.cell 2
  have a3 : w1.cell? ⟨w.heap.size + 1, 3, none⟩ = some (.int .i64 pg) := k5.cell 3
  have a4 : w1.cell? ⟨w.heap.size + 1, 4, none⟩ = some (.int .i64 n) := k5.cell 4
  have a5 : w1.cell? ⟨w.heap.size + 1, 5, none⟩ = some (.int .u16 (ow : Int)) := k5.cell 5
  have a6 : w1.cell? ⟨w.heap.size + 1, 6, none⟩ = some (.int .u64 (ep : Int)) := k5.cell 6
  have RX := RR.out w1 r1
  clear m1 u1 r1 k4 k5
  unfold rm at RX
  go_wp2_with fail
  refine RX.mono ?_
  clear RX
  rintro en w2 hr
  obtain ⟨e', ce', rfl, HH⟩ := FY.out _ _ hr
  obtain ⟨K4, K6, FF, F2⟩ := ST.out (G, T, R1) w2 e' ce' HH.out.1 HH.out.2.1 HH.out.2.2.1 HH.out.2.2.2
  clear hr
  have s0 : w2.cell? ⟨w.heap.size, 0, none⟩ = some (.int .u32 (G 0 : Int)) := K4.cell 0
  have fs0 : w2.frozen? ⟨w.heap.size, 0, none⟩ = false := K4.frozen 0
  have s1 : w2.cell? ⟨w.heap.size, 1, none⟩ = some (.int .u32 (G 1 : Int)) := K4.cell 1
  have fs1 : w2.frozen? ⟨w.heap.size, 1, none⟩ = false := K4.frozen 1
  have s2 : w2.cell? ⟨w.heap.size, 2, none⟩ = some (.int .u32 (G 2 : Int)) := K4.cell 2
  have fs2 : w2.frozen? ⟨w.heap.size, 2, none⟩ = false := K4.frozen 2
  have s3 : w2.cell? ⟨w.heap.size, 3, none⟩ = some (.int .u32 (G 3 : Int)) := K4.cell 3
  have fs3 : w2.frozen? ⟨w.heap.size, 3, none⟩ = false := K4.frozen 3
  have s4 : w2.cell? ⟨w.heap.size, 4, none⟩ = some (.int .u32 (G 4 : Int)) := K4.cell 4
  have fs4 : w2.frozen? ⟨w.heap.size, 4, none⟩ = false := K4.frozen 4
  have s5 : w2.cell? ⟨w.heap.size, 5, none⟩ = some (.int .u32 (G 5 : Int)) := K4.cell 5
  have fs5 : w2.frozen? ⟨w.heap.size, 5, none⟩ = false := K4.frozen 5
  have s6 : w2.cell? ⟨w.heap.size, 6, none⟩ = some (.int .u32 (G 6 : Int)) := K4.cell 6
  have fs6 : w2.frozen? ⟨w.heap.size, 6, none⟩ = false := K4.frozen 6
  have s7 : w2.cell? ⟨w.heap.size, 7, none⟩ = some (.int .u32 (G 7 : Int)) := K4.cell 7
  have fs7 : w2.frozen? ⟨w.heap.size, 7, none⟩ = false := K4.frozen 7
  have s8 : w2.cell? ⟨w.heap.size, 8, none⟩ = some (.slice (some ⟨b, 0, none⟩) T.length cb) := K4.cell 8
  have fs8 : w2.frozen? ⟨w.heap.size, 8, none⟩ = false := K4.frozen 8
  have s9 : w2.cell? ⟨w.heap.size, 9, none⟩ = some (.slice (some ⟨e, 0, none⟩) L.length ce) := K4.cell 9
  have fs9 : w2.frozen? ⟨w.heap.size, 9, none⟩ = false := K4.frozen 9
  have z0 : w2.cell? ⟨w.heap.size + 2, 0, none⟩ = some (.int .u32 0) := K6.cell 0
  have fz0 : w2.frozen? ⟨w.heap.size + 2, 0, none⟩ = false := K6.frozen 0
  have z1 : w2.cell? ⟨w.heap.size + 2, 1, none⟩ = some (.int .u32 0) := K6.cell 1
  have fz1 : w2.frozen? ⟨w.heap.size + 2, 1, none⟩ = false := K6.frozen 1
  have z2 : w2.cell? ⟨w.heap.size + 2, 2, none⟩ = some (.int .u32 0) := K6.cell 2
  have fz2 : w2.frozen? ⟨w.heap.size + 2, 2, none⟩ = false := K6.frozen 2
  have z3 : w2.cell? ⟨w.heap.size + 2, 3, none⟩ = some (.int .u32 0) := K6.cell 3
  have fz3 : w2.frozen? ⟨w.heap.size + 2, 3, none⟩ = false := K6.frozen 3
  have z4 : w2.cell? ⟨w.heap.size + 2, 4, none⟩ = some (.int .u32 0) := K6.cell 4
  have fz4 : w2.frozen? ⟨w.heap.size + 2, 4, none⟩ = false := K6.frozen 4
  have z5 : w2.cell? ⟨w.heap.size + 2, 5, none⟩ = some (.int .u32 0) := K6.cell 5
  have fz5 : w2.frozen? ⟨w.heap.size + 2, 5, none⟩ = false := K6.frozen 5
  have z6 : w2.cell? ⟨w.heap.size + 2, 6, none⟩ = some (.int .u32 0) := K6.cell 6
  have fz6 : w2.frozen? ⟨w.heap.size + 2, 6, none⟩ = false := K6.frozen 6
  have z7 : w2.cell? ⟨w.heap.size + 2, 7, none⟩ = some (.int .u32 0) := K6.cell 7
  have fz7 : w2.frozen? ⟨w.heap.size + 2, 7, none⟩ = false := K6.frozen 7
  have z8 : w2.cell? ⟨w.heap.size + 2, 8, none⟩ = some (.slice none 0 0) := K6.cell 8
  have fz8 : w2.frozen? ⟨w.heap.size + 2, 8, none⟩ = false := K6.frozen 8
  have z9 : w2.cell? ⟨w.heap.size + 2, 9, none⟩ = some (.slice none 0 0) := K6.cell 9
  have fz9 : w2.frozen? ⟨w.heap.size + 2, 9, none⟩ = false := K6.frozen 9
  have y4 : w.heap.size < w2.heap.size := K4.lt
  have y6 : w.heap.size + 1 + 1 < w2.heap.size := K6.lt
  clear K4 K6 t0 t1 t2 t3 t4 t5 t6 t7 t8 t9 a0 a1 a2 a3 a4 a5 a6
  unfold rm at FF F2 ⊢
  simp only at FF F2
  go_wp2_with fail
  refine bodyPost_ret (v := .tuple #[.agg #[.int .u32 (G 0 : Int), .int .u32 (G 1 : Int), .int .u32 (G 2 : Int), .int .u32 (G 3 : Int), .int .u32 (G 4 : Int), .int .u32 (G 5 : Int), .int .u32 (G 6 : Int), .int .u32 (G 7 : Int), .slice (some ⟨b, 0, none⟩) T.length cb, .slice (some ⟨e', 0, none⟩) R1.length ce'], .bool true]) (by simp [results, Try.results47, go_sem, *]) rfl ?_
  exact F2.out _ _ [] [.int .u32 (G 0 : Int), .int .u32 (G 1 : Int), .int .u32 (G 2 : Int), .int .u32 (G 3 : Int), .int .u32 (G 4 : Int), .int .u32 (G 5 : Int), .int .u32 (G 6 : Int), .int .u32 (G 7 : Int), .slice (some ⟨b, 0, none⟩) T.length cb, .slice (some ⟨e', 0, none⟩) R1.length ce']
set_option maxRecDepth 100000 in
set_option maxHeartbeats 16000000 in
theorem do8_4 (w : World) (M g h c d cd b cb e ce : Nat) (G : Nat → Nat) (T : List Page) (L : List Nat) (m : Mem w M g h c d cd G T L) (r : RM w b e T L) (sp : Sep8 M h d b e) (ok : OkT T) (a : Act8) (hk : 4 ≤ a.k % 8) :
    Calls Try.prog 47 #[.pointer (some ⟨M, 0, none⟩), rm G b cb T e ce L, act8v a] w fun en w' => DoP8 w M g h c d cd b e (step8 G T L a) en w' := by
  have hst : step8 G T L a = (G, pagesM T a, L) := by
    unfold step8
    rw [if_neg (by omega), if_neg (by omega), if_neg (by omega)]
  rw [hst]
  clear hst
  have PP := fun W (q : Mem W M g h c d cd G T L) (p : RM W b e T L) => pages8_c W M g h c d cd b cb e ce G T L q p sp ok a hk
  obtain ⟨k, at_, wd, pg, n, ow, ep⟩ := a
  have hMl := m.ten.lt
  have hgl := m.tab.lt
  have hhl := m.tab.pgs.lt
  have hdl := m.wds.lt
  have hbl := r.pgs.lt
  have hel := r.wds.lt
  have few := r.few
  have SPQ := Lib.hid sp
  generalize hW0 : ((w.alloc (.cells #[.int .u32 (G 0 : Int), .int .u32 (G 1 : Int), .int .u32 (G 2 : Int), .int .u32 (G 3 : Int), .int .u32 (G 4 : Int), .int .u32 (G 5 : Int), .int .u32 (G 6 : Int), .int .u32 (G 7 : Int), .slice (some ⟨b, 0, none⟩) T.length cb, .slice (some ⟨e, 0, none⟩) L.length ce] 64)).alloc (.cells #[.int .u8 (k : Int), .int .u32 (at_ : Int), .int .u32 (wd : Int), .int .i64 pg, .int .i64 n, .int .u16 (ow : Int), .int .u64 (ep : Int)] 81)).alloc (.cells #[.int .u32 0, .int .u32 0, .int .u32 0, .int .u32 0, .int .u32 0, .int .u32 0, .int .u32 0, .int .u32 0, .slice none 0 0, .slice none 0 0] 64) = W0
  have B4 : Blk W0 w.heap.size 64 #[.int .u32 (G 0 : Int), .int .u32 (G 1 : Int), .int .u32 (G 2 : Int), .int .u32 (G 3 : Int), .int .u32 (G 4 : Int), .int .u32 (G 5 : Int), .int .u32 (G 6 : Int), .int .u32 (G 7 : Int), .slice (some ⟨b, 0, none⟩) T.length cb, .slice (some ⟨e, 0, none⟩) L.length ce] := by rw [← hW0]; exact ((Blk.new w _ _).alloc _).alloc _
  have B5 : Blk W0 (w.heap.size + 1) 81 #[.int .u8 (k : Int), .int .u32 (at_ : Int), .int .u32 (wd : Int), .int .i64 pg, .int .i64 n, .int .u16 (ow : Int), .int .u64 (ep : Int)] := by
    rw [← hW0]
    have := (Blk.new (w.alloc (.cells #[.int .u32 (G 0 : Int), .int .u32 (G 1 : Int), .int .u32 (G 2 : Int), .int .u32 (G 3 : Int), .int .u32 (G 4 : Int), .int .u32 (G 5 : Int), .int .u32 (G 6 : Int), .int .u32 (G 7 : Int), .slice (some ⟨b, 0, none⟩) T.length cb, .slice (some ⟨e, 0, none⟩) L.length ce] 64)) 81 #[.int .u8 (k : Int), .int .u32 (at_ : Int), .int .u32 (wd : Int), .int .i64 pg, .int .i64 n, .int .u16 (ow : Int), .int .u64 (ep : Int)]).alloc (.cells #[.int .u32 0, .int .u32 0, .int .u32 0, .int .u32 0, .int .u32 0, .int .u32 0, .int .u32 0, .int .u32 0, .slice none 0 0, .slice none 0 0] 64)
    simpa using this
  have B6 : Blk W0 (w.heap.size + 2) 64 #[.int .u32 0, .int .u32 0, .int .u32 0, .int .u32 0, .int .u32 0, .int .u32 0, .int .u32 0, .int .u32 0, .slice none 0 0, .slice none 0 0] := by
    rw [← hW0]
    have := Blk.new ((w.alloc (.cells #[.int .u32 (G 0 : Int), .int .u32 (G 1 : Int), .int .u32 (G 2 : Int), .int .u32 (G 3 : Int), .int .u32 (G 4 : Int), .int .u32 (G 5 : Int), .int .u32 (G 6 : Int), .int .u32 (G 7 : Int), .slice (some ⟨b, 0, none⟩) T.length cb, .slice (some ⟨e, 0, none⟩) L.length ce] 64)).alloc (.cells #[.int .u8 (k : Int), .int .u32 (at_ : Int), .int .u32 (wd : Int), .int .i64 pg, .int .i64 n, .int .u16 (ow : Int), .int .u64 (ep : Int)] 81)) 64 #[.int .u32 0, .int .u32 0, .int .u32 0, .int .u32 0, .int .u32 0, .int .u32 0, .int .u32 0, .int .u32 0, .slice none 0 0, .slice none 0 0]
    simpa using this
  have M0 : Mem W0 M g h c d cd G T L := by rw [← hW0]; exact ((m.alloc _).alloc _).alloc _
  have R0 : RM W0 b e T L := by rw [← hW0]; exact ((r.alloc _).alloc _).alloc _
  have b0 : Below w.heap.size w W0 := by rw [← hW0]; exact (((Below.refl _ w).alloc (Nat.le_refl _) _).alloc (by simp) _).alloc (by simp; omega) _
  have S0 : W0.heap.size = w.heap.size + 3 := by rw [← hW0]; simp
  have U0 : Upd3 M h d w W0 := Upd3.of b0
  have htm : Int.tmod (k : Int) 8 = ((k % 8 : Nat) : Int) := by rw [Int.tmod_eq_emod_of_nonneg (by omega)]; omega
  have FX : ∀ S en w2, DoP8 W0 M g h c d cd b e S en w2 → ∃ b' cb' e' ce', en = .returned (.tuple #[rm S.1 b' cb' S.2.1 e' ce' S.2.2, .bool true]) ∧ Blk w2 w.heap.size 64 #[.int .u32 (G 0 : Int), .int .u32 (G 1 : Int), .int .u32 (G 2 : Int), .int .u32 (G 3 : Int), .int .u32 (G 4 : Int), .int .u32 (G 5 : Int), .int .u32 (G 6 : Int), .int .u32 (G 7 : Int), .slice (some ⟨b, 0, none⟩) T.length cb, .slice (some ⟨e, 0, none⟩) L.length ce] ∧ Blk w2 (w.heap.size + 2) 64 #[.int .u32 0, .int .u32 0, .int .u32 0, .int .u32 0, .int .u32 0, .int .u32 0, .int .u32 0, .int .u32 0, .slice none 0 0, .slice none 0 0] ∧ Hid (∀ vs, DoP8 w M g h c d cd b e S (.returned (.tuple #[rm S.1 b' cb' S.2.1 e' ce' S.2.2, .bool true])) (w2.setCells (w.heap.size + 2) 0 vs)) := by
    intro S en w2 hr
    obtain ⟨b', cb', e', ce', rfl, m2, r2, hb, he, u2⟩ := hr
    have s2 := u2.size
    have uv := fun vs => upd_setCells (w.heap.size + 2) vs 0 w2
    exact ⟨b', cb', e', ce', rfl, u2.blk B4 (by omega) (by omega) (by omega), u2.blk B6 (by omega) (by omega) (by omega), Lib.hid (fun vs => ⟨b', cb', e', ce', rfl, m2.upd (uv vs) (by omega) (by omega) (by omega) (by omega), r2.upd (uv vs) (by omega) (by omega), by omega, by omega, (U0.trans u2).then_low (below_setCells (by omega) vs 0 _ (Below.refl _ _))⟩)⟩
  have PP := Lib.hid (PP W0 M0 R0)
  have hk4 : 4 ≤ k % 8 := hk
  generalize hj : k % 8 = j at htm hk4
  have ho : j < 8 := by omega
  have q0 : ((j : Int) == 0) = false := by simp; omega
  have q1 : ((j : Int) == 1) = false := by simp; omega
  have q2 : ((j : Int) == 2) = false := by simp; omega
  have q3 : ((j : Int) == 3) = false := by simp; omega
  generalize pagesM T ⟨k, at_, wd, pg, n, ow, ep⟩ = T' at PP ⊢
  replace FX := Lib.hid FX
  have KW := Lib.hid hW0
  have t0 : W0.cell? ⟨w.heap.size, 0, none⟩ = some (.int .u32 (G 0 : Int)) := B4.cell 0
  have t1 : W0.cell? ⟨w.heap.size, 1, none⟩ = some (.int .u32 (G 1 : Int)) := B4.cell 1
  have t2 : W0.cell? ⟨w.heap.size, 2, none⟩ = some (.int .u32 (G 2 : Int)) := B4.cell 2
  have t3 : W0.cell? ⟨w.heap.size, 3, none⟩ = some (.int .u32 (G 3 : Int)) := B4.cell 3
  have t4 : W0.cell? ⟨w.heap.size, 4, none⟩ = some (.int .u32 (G 4 : Int)) := B4.cell 4
  have t5 : W0.cell? ⟨w.heap.size, 5, none⟩ = some (.int .u32 (G 5 : Int)) := B4.cell 5
  have t6 : W0.cell? ⟨w.heap.size, 6, none⟩ = some (.int .u32 (G 6 : Int)) := B4.cell 6
  have t7 : W0.cell? ⟨w.heap.size, 7, none⟩ = some (.int .u32 (G 7 : Int)) := B4.cell 7
  have t8 : W0.cell? ⟨w.heap.size, 8, none⟩ = some (.slice (some ⟨b, 0, none⟩) T.length cb) := B4.cell 8
  have t9 : W0.cell? ⟨w.heap.size, 9, none⟩ = some (.slice (some ⟨e, 0, none⟩) L.length ce) := B4.cell 9
  have a0 : W0.cell? ⟨w.heap.size + 1, 0, none⟩ = some (.int .u8 (k : Int)) := B5.cell 0
  have a1 : W0.cell? ⟨w.heap.size + 1, 1, none⟩ = some (.int .u32 (at_ : Int)) := B5.cell 1
  have a2 : W0.cell? ⟨w.heap.size + 1, 2, none⟩ = some (.int .u32 (wd : Int)) := B5.cell 2
  have a3 : W0.cell? ⟨w.heap.size + 1, 3, none⟩ = some (.int .i64 pg) := B5.cell 3
  have a4 : W0.cell? ⟨w.heap.size + 1, 4, none⟩ = some (.int .i64 n) := B5.cell 4
  have a5 : W0.cell? ⟨w.heap.size + 1, 5, none⟩ = some (.int .u16 (ow : Int)) := B5.cell 5
  have a6 : W0.cell? ⟨w.heap.size + 1, 6, none⟩ = some (.int .u64 (ep : Int)) := B5.cell 6
  clear hW0 B4 B5 B6 R0 b0 S0 U0 m r sp M0 ok hj
  unfold rm act8v at PP ⊢
  simp only at PP ⊢
  go_enter Try.func47, Try.ntmps47
  go_wp2_with fail
  (try rw [KW.out])
  refine PP.out.mono ?_
  rintro en w2 hr
  obtain ⟨b', cb', e', ce', rfl, K4, K6, FF⟩ := FX.out _ _ _ hr
  clear hr
  have z0 : w2.cell? ⟨w.heap.size + 2, 0, none⟩ = some (.int .u32 0) := K6.cell 0
  have fz0 : w2.frozen? ⟨w.heap.size + 2, 0, none⟩ = false := K6.frozen 0
  have z1 : w2.cell? ⟨w.heap.size + 2, 1, none⟩ = some (.int .u32 0) := K6.cell 1
  have fz1 : w2.frozen? ⟨w.heap.size + 2, 1, none⟩ = false := K6.frozen 1
  have z2 : w2.cell? ⟨w.heap.size + 2, 2, none⟩ = some (.int .u32 0) := K6.cell 2
  have fz2 : w2.frozen? ⟨w.heap.size + 2, 2, none⟩ = false := K6.frozen 2
  have z3 : w2.cell? ⟨w.heap.size + 2, 3, none⟩ = some (.int .u32 0) := K6.cell 3
  have fz3 : w2.frozen? ⟨w.heap.size + 2, 3, none⟩ = false := K6.frozen 3
  have z4 : w2.cell? ⟨w.heap.size + 2, 4, none⟩ = some (.int .u32 0) := K6.cell 4
  have fz4 : w2.frozen? ⟨w.heap.size + 2, 4, none⟩ = false := K6.frozen 4
  have z5 : w2.cell? ⟨w.heap.size + 2, 5, none⟩ = some (.int .u32 0) := K6.cell 5
  have fz5 : w2.frozen? ⟨w.heap.size + 2, 5, none⟩ = false := K6.frozen 5
  have z6 : w2.cell? ⟨w.heap.size + 2, 6, none⟩ = some (.int .u32 0) := K6.cell 6
  have fz6 : w2.frozen? ⟨w.heap.size + 2, 6, none⟩ = false := K6.frozen 6
  have z7 : w2.cell? ⟨w.heap.size + 2, 7, none⟩ = some (.int .u32 0) := K6.cell 7
  have fz7 : w2.frozen? ⟨w.heap.size + 2, 7, none⟩ = false := K6.frozen 7
  have z8 : w2.cell? ⟨w.heap.size + 2, 8, none⟩ = some (.slice none 0 0) := K6.cell 8
  have fz8 : w2.frozen? ⟨w.heap.size + 2, 8, none⟩ = false := K6.frozen 8
  have z9 : w2.cell? ⟨w.heap.size + 2, 9, none⟩ = some (.slice none 0 0) := K6.cell 9
  have fz9 : w2.frozen? ⟨w.heap.size + 2, 9, none⟩ = false := K6.frozen 9
  clear K4 K6 t0 t1 t2 t3 t4 t5 t6 t7 t8 t9 a0 a1 a2 a3 a4 a5 a6
  unfold rm at FF ⊢
  simp only at FF ⊢
  go_wp2_with fail
  refine bodyPost_ret (v := .tuple #[.agg #[.int .u32 (G 0 : Int), .int .u32 (G 1 : Int), .int .u32 (G 2 : Int), .int .u32 (G 3 : Int), .int .u32 (G 4 : Int), .int .u32 (G 5 : Int), .int .u32 (G 6 : Int), .int .u32 (G 7 : Int), .slice (some ⟨b', 0, none⟩) T'.length cb', .slice (some ⟨e', 0, none⟩) L.length ce'], .bool true]) (by simp [results, Try.results47, go_sem, *]) rfl ?_
  exact FF.out [.int .u32 (G 0 : Int), .int .u32 (G 1 : Int), .int .u32 (G 2 : Int), .int .u32 (G 3 : Int), .int .u32 (G 4 : Int), .int .u32 (G 5 : Int), .int .u32 (G 6 : Int), .int .u32 (G 7 : Int), .slice (some ⟨b', 0, none⟩) T'.length cb', .slice (some ⟨e', 0, none⟩) L.length ce']
theorem do8_c (w : World) (M g h c d cd b cb e ce : Nat) (G : Nat → Nat) (T : List Page) (L : List Nat) (m : Mem w M g h c d cd G T L) (r : RM w b e T L) (sp : Sep8 M h d b e) (ok : OkT T) (a : Act8) (hx : a.at_ < 4294967296) (ho : a.ow < 65536) :
    Calls Try.prog 47 #[.pointer (some ⟨M, 0, none⟩), rm G b cb T e ce L, act8v a] w fun en w' => DoP8 w M g h c d cd b e (step8 G T L a) en w' := by
  by_cases k0 : a.k % 8 = 0
  · exact do8_0 w M g h c d cd b cb e ce G T L m r sp a hx ho k0
  by_cases k1 : a.k % 8 = 1
  · exact do8_1 w M g h c d cd b cb e ce G T L m r sp a hx ho k1
  by_cases k2 : a.k % 8 = 2
  · exact do8_2 w M g h c d cd b cb e ce G T L m r sp a hx ho k2
  by_cases k3 : a.k % 8 = 3
  · exact do8_3 w M g h c d cd b cb e ce G T L m r sp a hx ho k3
  exact do8_4 w M g h c d cd b cb e ce G T L m r sp ok a (by omega)
end Go.Proofs.Ytjjcmclnjeplkaa.PM
