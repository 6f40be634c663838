/- The calls on a memory, plainly, and law08's pages. Conditions: the memories' cells. -/
import Derived.Test.YtjjcmclnjeplkaaLawM3
import Derived.Test.YtjjcmclnjeplkaaLawC3
namespace Go.Proofs.Ytjjcmclnjeplkaa.PM
set_option linter.unusedVariables false
set_option linter.unusedSimpArgs false
open Go.RowKit
/-- A call on a memory. -/
structure Act8 where
  k : Nat
  at_ : Nat
  wd : Nat
  pg : Int
  n : Int
  ow : Nat
  ep : Nat
abbrev act8v (a : Act8) : Value := .agg #[.int .u8 (a.k : Int), .int .u32 (a.at_ : Int), .int .u32 (a.wd : Int), .int .i64 a.pg, .int .i64 a.n, .int .u16 (a.ow : Int), .int .u64 (a.ep : Int)]
def pagesM (T : List Page) (a : Act8) : List Page := (stepM T ⟨a.k, a.pg, a.n, a.ow, a.ep⟩).1
def step8 (G : Nat → Nat) (T : List Page) (L : List Nat) (a : Act8) : (Nat → Nat) × List Page × List Nat :=
  if a.k % 8 = 0 ∨ a.k % 8 = 1 then (G, T, (putM T L a.at_ a.wd).1)
  else if a.k % 8 = 2 then ((setM G ((a.ow : Int) - 1) a.wd).1, T, L)
  else if a.k % 8 = 3 then (G, T, (storeM T L a.at_ a.wd a.ep a.ow).1)
  else (G, pagesM T a, L)
/-- The reference's blocks are none of those that the memory turns. -/
structure Sep8 (M h d b e : Nat) : Prop where
  bM : b ≠ M
  bh : b ≠ h
  bd : b ≠ d
  eM : e ≠ M
  eh : e ≠ h
  ed : e ≠ d
def DoP8 (w : World) (M g h c d cd b e : Nat) (S : (Nat → Nat) × List Page × List Nat) (en : Ending) (w' : World) : Prop :=
  ∃ b' cb' e' ce', en = .returned (.tuple #[rm S.1 b' cb' S.2.1 e' ce' S.2.2, .bool true]) ∧ Mem w' M g h c d cd S.1 S.2.1 S.2.2 ∧ RM w' b' e' S.2.1 S.2.2 ∧ (b' = b ∨ w.heap.size ≤ b') ∧ (e' = e ∨ w.heap.size ≤ e') ∧ Upd3 M h d w w'
theorem upd_setCells (g : Nat) : ∀ (vs : List Value) (o : Nat) (w : World), Upd g w (w.setCells g o vs)
  | [], _, w => Upd.refl g w
  | v :: vs, o, w => by
    have := upd_setCells g vs (o + 1) (w.setCell ⟨g, o, none⟩ v)
    exact (((Upd.refl g w).setCell o v)).trans this
theorem len_stage (T : List Page) (pg n : Int) (ow : Nat) : (stageM T pg n ow).1.length = T.length := by
  have h := len_step T ⟨0, pg, n, ow, 0⟩
  unfold stepM at h
  dsimp only at h
  rw [if_pos (by decide)] at h
  exact h
theorem len_pub (T : List Page) (ow : Nat) (n : Int) : (pubM T ow n).1.length = T.length := by
  have h := len_step T ⟨1, 0, n, ow, 0⟩
  unfold stepM at h
  dsimp only at h
  rw [if_neg (by decide), if_pos (by decide)] at h
  exact h
theorem len_ret (T : List Page) (ow ep : Nat) : (retM T ow ep).1.length = T.length := by
  have h := len_step T ⟨2, 0, 0, ow, ep⟩
  unfold stepM at h
  dsimp only at h
  rw [if_neg (by decide), if_neg (by decide), if_pos (by decide)] at h
  exact h
theorem len_rel (T : List Page) (ow : Nat) : (relM T ow).1.length = T.length := by
  have h := len_step T ⟨3, 0, 0, ow, 0⟩
  unfold stepM at h
  dsimp only at h
  rw [if_neg (by decide), if_neg (by decide), if_neg (by decide)] at h
  exact h
theorem Mem.upd {w w' : World} {M g h c d cd : Nat} {G : Nat → Nat} {T : List Page} {L : List Nat} (m : Mem w M g h c d cd G T L) {k : Nat} (u : Upd k w w') (h1 : M ≠ k) (h2 : g ≠ k) (h3 : h ≠ k) (h4 : d ≠ k) : Mem w' M g h c d cd G T L :=
  ⟨m.ten.upd u h1, m.tab.upd u h2 h3, m.wds.upd u h4, m.len, m.cap, m.Mg, m.Mh, m.Md, m.gd, m.hd⟩
theorem RM.upd {w w' : World} {b e : Nat} {T : List Page} {L : List Nat} (r : RM w b e T L) {k : Nat} (u : Upd k w w') (h1 : b ≠ k) (h2 : e ≠ k) : RM w' b e T L :=
  ⟨u.pgs r.pgs h1, r.wds.upd u h2, r.few, r.len⟩
set_option maxRecDepth 100000 in
set_option maxHeartbeats 16000000 in
theorem pages8_0 (w : World) (M g h c d cd b cb e ce : Nat) (G : Nat → Nat) (T : List Page) (L : List Nat) (m : Mem w M g h c d cd G T L) (r : RM w b e T L) (sp : Sep8 M h d b e) (ok : OkT T) (a : Act8) (hk : a.k % 8 = 4) :
    Calls Try.prog 82 #[.pointer (some ⟨M, 0, none⟩), rm G b cb T e ce L, act8v a] w fun en w' => DoP8 w M g h c d cd b e (G, pagesM T a, L) en w' := by
  obtain ⟨k, at_, wd, pg, n, ow, ep⟩ := a
  have hMl := m.ten.lt
  have hgl := m.tab.lt
  have hhl := m.tab.pgs.lt
  have hdl := m.wds.lt
  have hbl := r.pgs.lt
  have hel := r.wds.lt
  have few := r.few
  have SPQ := Lib.hid sp
  generalize hW0 : ((w.alloc (.cells #[.int .u32 (G 0 : Int), .int .u32 (G 1 : Int), .int .u32 (G 2 : Int), .int .u32 (G 3 : Int), .int .u32 (G 4 : Int), .int .u32 (G 5 : Int), .int .u32 (G 6 : Int), .int .u32 (G 7 : Int), .slice (some ⟨b, 0, none⟩) T.length cb, .slice (some ⟨e, 0, none⟩) L.length ce] 64)).alloc (.cells #[.int .u8 (k : Int), .int .u32 (at_ : Int), .int .u32 (wd : Int), .int .i64 pg, .int .i64 n, .int .u16 (ow : Int), .int .u64 (ep : Int)] 81)).alloc (.cells #[.int .u32 0, .int .u32 0, .int .u32 0, .int .u32 0, .int .u32 0, .int .u32 0, .int .u32 0, .int .u32 0, .slice none 0 0, .slice none 0 0] 64) = W0
  have B4 : Blk W0 w.heap.size 64 #[.int .u32 (G 0 : Int), .int .u32 (G 1 : Int), .int .u32 (G 2 : Int), .int .u32 (G 3 : Int), .int .u32 (G 4 : Int), .int .u32 (G 5 : Int), .int .u32 (G 6 : Int), .int .u32 (G 7 : Int), .slice (some ⟨b, 0, none⟩) T.length cb, .slice (some ⟨e, 0, none⟩) L.length ce] := by rw [← hW0]; exact ((Blk.new w _ _).alloc _).alloc _
  have B5 : Blk W0 (w.heap.size + 1) 81 #[.int .u8 (k : Int), .int .u32 (at_ : Int), .int .u32 (wd : Int), .int .i64 pg, .int .i64 n, .int .u16 (ow : Int), .int .u64 (ep : Int)] := by
    rw [← hW0]
    have := (Blk.new (w.alloc (.cells #[.int .u32 (G 0 : Int), .int .u32 (G 1 : Int), .int .u32 (G 2 : Int), .int .u32 (G 3 : Int), .int .u32 (G 4 : Int), .int .u32 (G 5 : Int), .int .u32 (G 6 : Int), .int .u32 (G 7 : Int), .slice (some ⟨b, 0, none⟩) T.length cb, .slice (some ⟨e, 0, none⟩) L.length ce] 64)) 81 #[.int .u8 (k : Int), .int .u32 (at_ : Int), .int .u32 (wd : Int), .int .i64 pg, .int .i64 n, .int .u16 (ow : Int), .int .u64 (ep : Int)]).alloc (.cells #[.int .u32 0, .int .u32 0, .int .u32 0, .int .u32 0, .int .u32 0, .int .u32 0, .int .u32 0, .int .u32 0, .slice none 0 0, .slice none 0 0] 64)
    simpa using this
  have B6 : Blk W0 (w.heap.size + 2) 64 #[.int .u32 0, .int .u32 0, .int .u32 0, .int .u32 0, .int .u32 0, .int .u32 0, .int .u32 0, .int .u32 0, .slice none 0 0, .slice none 0 0] := by
    rw [← hW0]
    have := Blk.new ((w.alloc (.cells #[.int .u32 (G 0 : Int), .int .u32 (G 1 : Int), .int .u32 (G 2 : Int), .int .u32 (G 3 : Int), .int .u32 (G 4 : Int), .int .u32 (G 5 : Int), .int .u32 (G 6 : Int), .int .u32 (G 7 : Int), .slice (some ⟨b, 0, none⟩) T.length cb, .slice (some ⟨e, 0, none⟩) L.length ce] 64)).alloc (.cells #[.int .u8 (k : Int), .int .u32 (at_ : Int), .int .u32 (wd : Int), .int .i64 pg, .int .i64 n, .int .u16 (ow : Int), .int .u64 (ep : Int)] 81)) 64 #[.int .u32 0, .int .u32 0, .int .u32 0, .int .u32 0, .int .u32 0, .int .u32 0, .int .u32 0, .int .u32 0, .slice none 0 0, .slice none 0 0]
    simpa using this
  have M0 : Mem W0 M g h c d cd G T L := by rw [← hW0]; exact ((m.alloc _).alloc _).alloc _
  have R0 : RM W0 b e T L := by rw [← hW0]; exact ((r.alloc _).alloc _).alloc _
  have b0 : Below w.heap.size w W0 := by rw [← hW0]; exact (((Below.refl _ w).alloc (Nat.le_refl _) _).alloc (by simp) _).alloc (by simp; omega) _
  have S0 : W0.heap.size = w.heap.size + 3 := by rw [← hW0]; simp
  have U0 : Upd3 M h d w W0 := Upd3.of b0
  have htm : Int.tmod (k : Int) 8 = ((k % 8 : Nat) : Int) := by rw [Int.tmod_eq_emod_of_nonneg (by omega)]; omega
  have ST : ∀ (T' : List Page) (w1 w2 : World) (q : Nat) (en : Ending), T'.length = T.length → Tab w1 g h c T' → Upd h W0 w1 → RDone w1 b T' q en w2 → ∃ b' c', en = .returned (.tuple #[rv b' c' T', .int .i64 (q : Int)]) ∧ Hid (Blk w2 w.heap.size 64 #[.int .u32 (G 0 : Int), .int .u32 (G 1 : Int), .int .u32 (G 2 : Int), .int .u32 (G 3 : Int), .int .u32 (G 4 : Int), .int .u32 (G 5 : Int), .int .u32 (G 6 : Int), .int .u32 (G 7 : Int), .slice (some ⟨b, 0, none⟩) T.length cb, .slice (some ⟨e, 0, none⟩) L.length ce] ∧ Blk w2 (w.heap.size + 2) 64 #[.int .u32 0, .int .u32 0, .int .u32 0, .int .u32 0, .int .u32 0, .int .u32 0, .int .u32 0, .int .u32 0, .slice none 0 0, .slice none 0 0]) ∧
      Hid (∀ u vs, DoP8 w M g h c d cd b e (G, T', L) (.returned (.tuple #[rm G b' c' T' e ce L, .bool true])) ((w2.setCell ⟨w.heap.size, 8, none⟩ u).setCells (w.heap.size + 2) 0 vs)) := by
    intro T' w1 w2 q en hl t1 u1 hr
    obtain ⟨b', c', rfl, hp', hbb, hbel⟩ := hr
    have s1 := u1.size
    have k4 := (u1.blk B4 (by omega)).kept hbel
    have k6 := (u1.blk B6 (by omega)).kept hbel
    have m2 := (M0.table t1 u1 hl).kept hbel
    have r2 : RM w2 b' e T' L := ⟨hp', (R0.wds.upd u1 sp.eh).kept hbel, by omega, by rw [hl]; exact r.len⟩
    have hb'' : b' ≠ w.heap.size ∧ b' ≠ w.heap.size + 2 := by omega
    have ua := fun u => (Upd.refl w.heap.size w2).setCell 8 u
    have ub := fun u vs => upd_setCells (w.heap.size + 2) vs 0 (w2.setCell ⟨w.heap.size, 8, none⟩ u)
    refine ⟨b', c', rfl, Lib.hid ⟨k4, k6⟩, Lib.hid (fun u vs => ⟨b', c', e, ce, rfl, (m2.upd (ua u) (by omega) (by omega) (by omega) (by omega)).upd (ub u vs) (by omega) (by omega) (by omega) (by omega), (r2.upd (ua u) (by omega) (by omega)).upd (ub u vs) (by omega) (by omega), by omega, Or.inl rfl, ?_⟩)⟩
    exact ((U0.trans (Upd3.ofh u1)).then_ hbel).then_low (below_setCells (by omega) vs 0 _ (Below.setCell (Below.refl w.heap.size w2) (p := ⟨w.heap.size, 8, none⟩) (Nat.le_refl _) u))
  have A5 : ∀ w1, Upd h W0 w1 → Blk w1 w.heap.size 64 #[.int .u32 (G 0 : Int), .int .u32 (G 1 : Int), .int .u32 (G 2 : Int), .int .u32 (G 3 : Int), .int .u32 (G 4 : Int), .int .u32 (G 5 : Int), .int .u32 (G 6 : Int), .int .u32 (G 7 : Int), .slice (some ⟨b, 0, none⟩) T.length cb, .slice (some ⟨e, 0, none⟩) L.length ce] ∧ Blk w1 (w.heap.size + 1) 81 #[.int .u8 (k : Int), .int .u32 (at_ : Int), .int .u32 (wd : Int), .int .i64 pg, .int .i64 n, .int .u16 (ow : Int), .int .u64 (ep : Int)] ∧ Pgs w1 b T := fun w1 u1 =>
    ⟨u1.blk B4 (by omega), u1.blk B5 (by omega), u1.pgs R0.pgs sp.bh⟩
  have AK : ∀ w1, Upd h W0.drew w1 → w1.cell? ⟨w.heap.size + 1, 3, none⟩ = some (.int .i64 pg) ∧ w1.cell? ⟨w.heap.size + 1, 4, none⟩ = some (.int .i64 n) ∧ w1.cell? ⟨w.heap.size + 1, 5, none⟩ = some (.int .u16 (ow : Int)) ∧ w1.cell? ⟨w.heap.size + 1, 6, none⟩ = some (.int .u64 (ep : Int)) := fun w1 u1 => by
    have B := u1.blk (B5.drewN 1) (by omega)
    exact ⟨B.cell 3, B.cell 4, B.cell 5, B.cell 6⟩
  replace ST := Lib.hid ST
  replace A5 := Lib.hid A5
  replace AK := Lib.hid AK
  have KW := Lib.hid hW0
  have HB5 := Lib.hid B5
  replace M0 := Lib.hid M0
  have RP := Lib.hid (rpub_eq T ow n ok)
  have PG := Lib.hid (fun W (q : Mem W M g h c d cd G T L) => pages_c q)
  have hk4 : k % 8 = 4 := hk
  have p0 : W0.cell? ⟨w.heap.size + 1, 0, none⟩ = some (.int .u8 (k : Int)) := B5.cell 0
  unfold pagesM stepM
  simp only
  unfold rm
  clear hW0 B4 B5 B6 R0 b0 S0 U0 m r sp ok hk
  rw [if_pos (by omega)]
  have hm : Int.tmod (k : Int) 8 = 4 := by rw [htm]; omega
  clear htm
  have hl : (stageM T pg n ow).1.length = T.length := len_stage T pg n ow
  have RC := fun W (q : Tab W g h c T) => stage_c W g h c T q pg n ow
  have RR : ∀ w1, Pgs w1 b T → Hid (Calls Try.prog 66 #[rv b cb T, .int .i64 pg, .int .i64 n, .int .u16 (ow : Int)] w1 fun en w' => RDone w1 b (stageM T pg n ow).1 (stageM T pg n ow).2 en w') := fun w1 q7 => Lib.hid (rstage_c w1 b cb T q7 few pg n ow)
  generalize stageM T pg n ow = R at RC RR hl ⊢
  replace RR := Lib.hid RR
  replace RC := Lib.hid RC
  replace hl := Lib.hid hl
  go_enter Try.func82, Try.ntmps82
  go_wp2_with fail
  (try rw [KW.out])
  go_region_held3 (fun w' => w'.cell? ⟨w.heap.size + 1, 3, none⟩ = some (.int .i64 pg) ∧ w'.cell? ⟨w.heap.size + 1, 4, none⟩ = some (.int .i64 n) ∧ w'.cell? ⟨w.heap.size + 1, 5, none⟩ = some (.int .u16 (ow : Int)) ∧ w'.cell? ⟨w.heap.size + 1, 6, none⟩ = some (.int .u64 (ep : Int))) (first | exact AK.out _ (Upd.refl _ _) | exact AK.out _ u1 | go_keep) ((first | (go_at_call 40; (with_reducible refine (PG.out _ ?_).mono ?_); (first | exact M0.out.drewN 1); rintro en w1 ⟨rfl, rfl⟩) | (go_at_call 23; (with_reducible refine (RC.out _ ?_).mono ?_); (first | exact (M0.out.drewN 1).tab); rintro en w1 ⟨rfl, tt1, u1⟩)))
  have u1 : Upd h W0 w1 := ((Upd.refl h W0).drewN 1).trans u1
  obtain ⟨k4, k5, q7⟩ := A5.out _ u1
  have t0 : w1.cell? ⟨w.heap.size, 0, none⟩ = some (.int .u32 (G 0 : Int)) := k4.cell 0
  have t1 : w1.cell? ⟨w.heap.size, 1, none⟩ = some (.int .u32 (G 1 : Int)) := k4.cell 1
  have t2 : w1.cell? ⟨w.heap.size, 2, none⟩ = some (.int .u32 (G 2 : Int)) := k4.cell 2
  have t3 : w1.cell? ⟨w.heap.size, 3, none⟩ = some (.int .u32 (G 3 : Int)) := k4.cell 3
  have t4 : w1.cell? ⟨w.heap.size, 4, none⟩ = some (.int .u32 (G 4 : Int)) := k4.cell 4
  have t5 : w1.cell? ⟨w.heap.size, 5, none⟩ = some (.int .u32 (G 5 : Int)) := k4.cell 5
  have t6 : w1.cell? ⟨w.heap.size, 6, none⟩ = some (.int .u32 (G 6 : Int)) := k4.cell 6
  have t7 : w1.cell? ⟨w.heap.size, 7, none⟩ = some (.int .u32 (G 7 : Int)) := k4.cell 7
  have t8 : w1.cell? ⟨w.heap.size, 8, none⟩ = some (.slice (some ⟨b, 0, none⟩) T.length cb) := k4.cell 8
  have t9 : w1.cell? ⟨w.heap.size, 9, none⟩ = some (.slice (some ⟨e, 0, none⟩) L.length ce) := k4.cell 9
  have a0 : w1.cell? ⟨w.heap.size + 1, 0, none⟩ = some (.int .u8 (k : Int)) := k5.cell 0
  have a1 : w1.cell? ⟨w.heap.size + 1, 1, none⟩ = some (.int .u32 (at_ : Int)) := k5.cell 1
  have a2 : w1.cell? ⟨w.heap.size + 1, 2, none⟩ = some (.int .u32 (wd : Int)) := k5.cell 2
  have a3 : w1.cell? ⟨w.heap.size + 1, 3, none⟩ = some (.int .i64 pg) := k5.cell 3
  have a4 : w1.cell? ⟨w.heap.size + 1, 4, none⟩ = some (.int .i64 n) := k5.cell 4
  have a5 : w1.cell? ⟨w.heap.size + 1, 5, none⟩ = some (.int .u16 (ow : Int)) := k5.cell 5
  have a6 : w1.cell? ⟨w.heap.size + 1, 6, none⟩ = some (.int .u64 (ep : Int)) := k5.cell 6
  have RX := RR.out w1 q7
  have FX := Lib.hid (fun (w2 : World) (en : Ending) (hr : RDone w1 b R.1 R.2 en w2) => ST.out _ _ _ _ _ hl.out tt1 u1 hr)
  clear tt1 u1 q7 k4 k5 p0
  unfold rv at RX
  go_wp2_with fail
  refine RX.out.mono ?_
  rintro en w2 hr
  obtain ⟨b', c', rfl, KK, FF⟩ := FX.out _ _ hr
  have s0 : w2.cell? ⟨w.heap.size, 0, none⟩ = some (.int .u32 (G 0 : Int)) := KK.out.1.cell 0
  have fs0 : w2.frozen? ⟨w.heap.size, 0, none⟩ = false := KK.out.1.frozen 0
  have s1 : w2.cell? ⟨w.heap.size, 1, none⟩ = some (.int .u32 (G 1 : Int)) := KK.out.1.cell 1
  have fs1 : w2.frozen? ⟨w.heap.size, 1, none⟩ = false := KK.out.1.frozen 1
  have s2 : w2.cell? ⟨w.heap.size, 2, none⟩ = some (.int .u32 (G 2 : Int)) := KK.out.1.cell 2
  have fs2 : w2.frozen? ⟨w.heap.size, 2, none⟩ = false := KK.out.1.frozen 2
  have s3 : w2.cell? ⟨w.heap.size, 3, none⟩ = some (.int .u32 (G 3 : Int)) := KK.out.1.cell 3
  have fs3 : w2.frozen? ⟨w.heap.size, 3, none⟩ = false := KK.out.1.frozen 3
  have s4 : w2.cell? ⟨w.heap.size, 4, none⟩ = some (.int .u32 (G 4 : Int)) := KK.out.1.cell 4
  have fs4 : w2.frozen? ⟨w.heap.size, 4, none⟩ = false := KK.out.1.frozen 4
  have s5 : w2.cell? ⟨w.heap.size, 5, none⟩ = some (.int .u32 (G 5 : Int)) := KK.out.1.cell 5
  have fs5 : w2.frozen? ⟨w.heap.size, 5, none⟩ = false := KK.out.1.frozen 5
  have s6 : w2.cell? ⟨w.heap.size, 6, none⟩ = some (.int .u32 (G 6 : Int)) := KK.out.1.cell 6
  have fs6 : w2.frozen? ⟨w.heap.size, 6, none⟩ = false := KK.out.1.frozen 6
  have s7 : w2.cell? ⟨w.heap.size, 7, none⟩ = some (.int .u32 (G 7 : Int)) := KK.out.1.cell 7
  have fs7 : w2.frozen? ⟨w.heap.size, 7, none⟩ = false := KK.out.1.frozen 7
  have s8 : w2.cell? ⟨w.heap.size, 8, none⟩ = some (.slice (some ⟨b, 0, none⟩) T.length cb) := KK.out.1.cell 8
  have fs8 : w2.frozen? ⟨w.heap.size, 8, none⟩ = false := KK.out.1.frozen 8
  have s9 : w2.cell? ⟨w.heap.size, 9, none⟩ = some (.slice (some ⟨e, 0, none⟩) L.length ce) := KK.out.1.cell 9
  have fs9 : w2.frozen? ⟨w.heap.size, 9, none⟩ = false := KK.out.1.frozen 9
  have z0 : w2.cell? ⟨w.heap.size + 2, 0, none⟩ = some (.int .u32 0) := KK.out.2.cell 0
  have fz0 : w2.frozen? ⟨w.heap.size + 2, 0, none⟩ = false := KK.out.2.frozen 0
  have z1 : w2.cell? ⟨w.heap.size + 2, 1, none⟩ = some (.int .u32 0) := KK.out.2.cell 1
  have fz1 : w2.frozen? ⟨w.heap.size + 2, 1, none⟩ = false := KK.out.2.frozen 1
  have z2 : w2.cell? ⟨w.heap.size + 2, 2, none⟩ = some (.int .u32 0) := KK.out.2.cell 2
  have fz2 : w2.frozen? ⟨w.heap.size + 2, 2, none⟩ = false := KK.out.2.frozen 2
  have z3 : w2.cell? ⟨w.heap.size + 2, 3, none⟩ = some (.int .u32 0) := KK.out.2.cell 3
  have fz3 : w2.frozen? ⟨w.heap.size + 2, 3, none⟩ = false := KK.out.2.frozen 3
  have z4 : w2.cell? ⟨w.heap.size + 2, 4, none⟩ = some (.int .u32 0) := KK.out.2.cell 4
  have fz4 : w2.frozen? ⟨w.heap.size + 2, 4, none⟩ = false := KK.out.2.frozen 4
  have z5 : w2.cell? ⟨w.heap.size + 2, 5, none⟩ = some (.int .u32 0) := KK.out.2.cell 5
  have fz5 : w2.frozen? ⟨w.heap.size + 2, 5, none⟩ = false := KK.out.2.frozen 5
  have z6 : w2.cell? ⟨w.heap.size + 2, 6, none⟩ = some (.int .u32 0) := KK.out.2.cell 6
  have fz6 : w2.frozen? ⟨w.heap.size + 2, 6, none⟩ = false := KK.out.2.frozen 6
  have z7 : w2.cell? ⟨w.heap.size + 2, 7, none⟩ = some (.int .u32 0) := KK.out.2.cell 7
  have fz7 : w2.frozen? ⟨w.heap.size + 2, 7, none⟩ = false := KK.out.2.frozen 7
  have z8 : w2.cell? ⟨w.heap.size + 2, 8, none⟩ = some (.slice none 0 0) := KK.out.2.cell 8
  have fz8 : w2.frozen? ⟨w.heap.size + 2, 8, none⟩ = false := KK.out.2.frozen 8
  have z9 : w2.cell? ⟨w.heap.size + 2, 9, none⟩ = some (.slice none 0 0) := KK.out.2.cell 9
  have fz9 : w2.frozen? ⟨w.heap.size + 2, 9, none⟩ = false := KK.out.2.frozen 9
  clear hr t0 t1 t2 t3 t4 t5 t6 t7 t8 t9 a0 a1 a2 a3 a4 a5 a6
  unfold rv
  unfold rm at FF
  go_wp2_with fail
  refine bodyPost_ret (v := .tuple #[.agg #[.int .u32 (G 0 : Int), .int .u32 (G 1 : Int), .int .u32 (G 2 : Int), .int .u32 (G 3 : Int), .int .u32 (G 4 : Int), .int .u32 (G 5 : Int), .int .u32 (G 6 : Int), .int .u32 (G 7 : Int), .slice (some ⟨b', 0, none⟩) R.1.length c', .slice (some ⟨e, 0, none⟩) L.length ce], .bool true]) (by simp [results, Try.results82, go_sem, *]) rfl ?_
  exact FF.out _ [.int .u32 (G 0 : Int), .int .u32 (G 1 : Int), .int .u32 (G 2 : Int), .int .u32 (G 3 : Int), .int .u32 (G 4 : Int), .int .u32 (G 5 : Int), .int .u32 (G 6 : Int), .int .u32 (G 7 : Int), .slice (some ⟨b', 0, none⟩) R.1.length c', .slice (some ⟨e, 0, none⟩) L.length ce]
set_option maxRecDepth 100000 in
set_option maxHeartbeats 16000000 in
theorem pages8_1 (w : World) (M g h c d cd b cb e ce : Nat) (G : Nat → Nat) (T : List Page) (L : List Nat) (m : Mem w M g h c d cd G T L) (r : RM w b e T L) (sp : Sep8 M h d b e) (ok : OkT T) (a : Act8) (hk : a.k % 8 = 5) :
    Calls Try.prog 82 #[.pointer (some ⟨M, 0, none⟩), rm G b cb T e ce L, act8v a] w fun en w' => DoP8 w M g h c d cd b e (G, pagesM T a, L) en w' := by
  obtain ⟨k, at_, wd, pg, n, ow, ep⟩ := a
  have hMl := m.ten.lt
  have hgl := m.tab.lt
  have hhl := m.tab.pgs.lt
  have hdl := m.wds.lt
  have hbl := r.pgs.lt
  have hel := r.wds.lt
  have few := r.few
  have SPQ := Lib.hid sp
  generalize hW0 : ((w.alloc (.cells #[.int .u32 (G 0 : Int), .int .u32 (G 1 : Int), .int .u32 (G 2 : Int), .int .u32 (G 3 : Int), .int .u32 (G 4 : Int), .int .u32 (G 5 : Int), .int .u32 (G 6 : Int), .int .u32 (G 7 : Int), .slice (some ⟨b, 0, none⟩) T.length cb, .slice (some ⟨e, 0, none⟩) L.length ce] 64)).alloc (.cells #[.int .u8 (k : Int), .int .u32 (at_ : Int), .int .u32 (wd : Int), .int .i64 pg, .int .i64 n, .int .u16 (ow : Int), .int .u64 (ep : Int)] 81)).alloc (.cells #[.int .u32 0, .int .u32 0, .int .u32 0, .int .u32 0, .int .u32 0, .int .u32 0, .int .u32 0, .int .u32 0, .slice none 0 0, .slice none 0 0] 64) = W0
  have B4 : Blk W0 w.heap.size 64 #[.int .u32 (G 0 : Int), .int .u32 (G 1 : Int), .int .u32 (G 2 : Int), .int .u32 (G 3 : Int), .int .u32 (G 4 : Int), .int .u32 (G 5 : Int), .int .u32 (G 6 : Int), .int .u32 (G 7 : Int), .slice (some ⟨b, 0, none⟩) T.length cb, .slice (some ⟨e, 0, none⟩) L.length ce] := by rw [← hW0]; exact ((Blk.new w _ _).alloc _).alloc _
  have B5 : Blk W0 (w.heap.size + 1) 81 #[.int .u8 (k : Int), .int .u32 (at_ : Int), .int .u32 (wd : Int), .int .i64 pg, .int .i64 n, .int .u16 (ow : Int), .int .u64 (ep : Int)] := by
    rw [← hW0]
    have := (Blk.new (w.alloc (.cells #[.int .u32 (G 0 : Int), .int .u32 (G 1 : Int), .int .u32 (G 2 : Int), .int .u32 (G 3 : Int), .int .u32 (G 4 : Int), .int .u32 (G 5 : Int), .int .u32 (G 6 : Int), .int .u32 (G 7 : Int), .slice (some ⟨b, 0, none⟩) T.length cb, .slice (some ⟨e, 0, none⟩) L.length ce] 64)) 81 #[.int .u8 (k : Int), .int .u32 (at_ : Int), .int .u32 (wd : Int), .int .i64 pg, .int .i64 n, .int .u16 (ow : Int), .int .u64 (ep : Int)]).alloc (.cells #[.int .u32 0, .int .u32 0, .int .u32 0, .int .u32 0, .int .u32 0, .int .u32 0, .int .u32 0, .int .u32 0, .slice none 0 0, .slice none 0 0] 64)
    simpa using this
  have B6 : Blk W0 (w.heap.size + 2) 64 #[.int .u32 0, .int .u32 0, .int .u32 0, .int .u32 0, .int .u32 0, .int .u32 0, .int .u32 0, .int .u32 0, .slice none 0 0, .slice none 0 0] := by
    rw [← hW0]
    have := Blk.new ((w.alloc (.cells #[.int .u32 (G 0 : Int), .int .u32 (G 1 : Int), .int .u32 (G 2 : Int), .int .u32 (G 3 : Int), .int .u32 (G 4 : Int), .int .u32 (G 5 : Int), .int .u32 (G 6 : Int), .int .u32 (G 7 : Int), .slice (some ⟨b, 0, none⟩) T.length cb, .slice (some ⟨e, 0, none⟩) L.length ce] 64)).alloc (.cells #[.int .u8 (k : Int), .int .u32 (at_ : Int), .int .u32 (wd : Int), .int .i64 pg, .int .i64 n, .int .u16 (ow : Int), .int .u64 (ep : Int)] 81)) 64 #[.int .u32 0, .int .u32 0, .int .u32 0, .int .u32 0, .int .u32 0, .int .u32 0, .int .u32 0, .int .u32 0, .slice none 0 0, .slice none 0 0]
    simpa using this
  have M0 : Mem W0 M g h c d cd G T L := by rw [← hW0]; exact ((m.alloc _).alloc _).alloc _
  have R0 : RM W0 b e T L := by rw [← hW0]; exact ((r.alloc _).alloc _).alloc _
  have b0 : Below w.heap.size w W0 := by rw [← hW0]; exact (((Below.refl _ w).alloc (Nat.le_refl _) _).alloc (by simp) _).alloc (by simp; omega) _
  have S0 : W0.heap.size = w.heap.size + 3 := by rw [← hW0]; simp
  have U0 : Upd3 M h d w W0 := Upd3.of b0
  have htm : Int.tmod (k : Int) 8 = ((k % 8 : Nat) : Int) := by rw [Int.tmod_eq_emod_of_nonneg (by omega)]; omega
  have ST : ∀ (T' : List Page) (w1 w2 : World) (q : Nat) (en : Ending), T'.length = T.length → Tab w1 g h c T' → Upd h W0 w1 → RDone w1 b T' q en w2 → ∃ b' c', en = .returned (.tuple #[rv b' c' T', .int .i64 (q : Int)]) ∧ Hid (Blk w2 w.heap.size 64 #[.int .u32 (G 0 : Int), .int .u32 (G 1 : Int), .int .u32 (G 2 : Int), .int .u32 (G 3 : Int), .int .u32 (G 4 : Int), .int .u32 (G 5 : Int), .int .u32 (G 6 : Int), .int .u32 (G 7 : Int), .slice (some ⟨b, 0, none⟩) T.length cb, .slice (some ⟨e, 0, none⟩) L.length ce] ∧ Blk w2 (w.heap.size + 2) 64 #[.int .u32 0, .int .u32 0, .int .u32 0, .int .u32 0, .int .u32 0, .int .u32 0, .int .u32 0, .int .u32 0, .slice none 0 0, .slice none 0 0]) ∧
      Hid (∀ u vs, DoP8 w M g h c d cd b e (G, T', L) (.returned (.tuple #[rm G b' c' T' e ce L, .bool true])) ((w2.setCell ⟨w.heap.size, 8, none⟩ u).setCells (w.heap.size + 2) 0 vs)) := by
    intro T' w1 w2 q en hl t1 u1 hr
    obtain ⟨b', c', rfl, hp', hbb, hbel⟩ := hr
    have s1 := u1.size
    have k4 := (u1.blk B4 (by omega)).kept hbel
    have k6 := (u1.blk B6 (by omega)).kept hbel
    have m2 := (M0.table t1 u1 hl).kept hbel
    have r2 : RM w2 b' e T' L := ⟨hp', (R0.wds.upd u1 sp.eh).kept hbel, by omega, by rw [hl]; exact r.len⟩
    have hb'' : b' ≠ w.heap.size ∧ b' ≠ w.heap.size + 2 := by omega
    have ua := fun u => (Upd.refl w.heap.size w2).setCell 8 u
    have ub := fun u vs => upd_setCells (w.heap.size + 2) vs 0 (w2.setCell ⟨w.heap.size, 8, none⟩ u)
    refine ⟨b', c', rfl, Lib.hid ⟨k4, k6⟩, Lib.hid (fun u vs => ⟨b', c', e, ce, rfl, (m2.upd (ua u) (by omega) (by omega) (by omega) (by omega)).upd (ub u vs) (by omega) (by omega) (by omega) (by omega), (r2.upd (ua u) (by omega) (by omega)).upd (ub u vs) (by omega) (by omega), by omega, Or.inl rfl, ?_⟩)⟩
    exact ((U0.trans (Upd3.ofh u1)).then_ hbel).then_low (below_setCells (by omega) vs 0 _ (Below.setCell (Below.refl w.heap.size w2) (p := ⟨w.heap.size, 8, none⟩) (Nat.le_refl _) u))
  have A5 : ∀ w1, Upd h W0 w1 → Blk w1 w.heap.size 64 #[.int .u32 (G 0 : Int), .int .u32 (G 1 : Int), .int .u32 (G 2 : Int), .int .u32 (G 3 : Int), .int .u32 (G 4 : Int), .int .u32 (G 5 : Int), .int .u32 (G 6 : Int), .int .u32 (G 7 : Int), .slice (some ⟨b, 0, none⟩) T.length cb, .slice (some ⟨e, 0, none⟩) L.length ce] ∧ Blk w1 (w.heap.size + 1) 81 #[.int .u8 (k : Int), .int .u32 (at_ : Int), .int .u32 (wd : Int), .int .i64 pg, .int .i64 n, .int .u16 (ow : Int), .int .u64 (ep : Int)] ∧ Pgs w1 b T := fun w1 u1 =>
    ⟨u1.blk B4 (by omega), u1.blk B5 (by omega), u1.pgs R0.pgs sp.bh⟩
  have AK : ∀ w1, Upd h W0.drew w1 → w1.cell? ⟨w.heap.size + 1, 3, none⟩ = some (.int .i64 pg) ∧ w1.cell? ⟨w.heap.size + 1, 4, none⟩ = some (.int .i64 n) ∧ w1.cell? ⟨w.heap.size + 1, 5, none⟩ = some (.int .u16 (ow : Int)) ∧ w1.cell? ⟨w.heap.size + 1, 6, none⟩ = some (.int .u64 (ep : Int)) := fun w1 u1 => by
    have B := u1.blk (B5.drewN 1) (by omega)
    exact ⟨B.cell 3, B.cell 4, B.cell 5, B.cell 6⟩
  replace ST := Lib.hid ST
  replace A5 := Lib.hid A5
  replace AK := Lib.hid AK
  have KW := Lib.hid hW0
  have HB5 := Lib.hid B5
  replace M0 := Lib.hid M0
  have RP := Lib.hid (rpub_eq T ow n ok)
  have PG := Lib.hid (fun W (q : Mem W M g h c d cd G T L) => pages_c q)
  have hk4 : k % 8 = 5 := hk
  have p0 : W0.cell? ⟨w.heap.size + 1, 0, none⟩ = some (.int .u8 (k : Int)) := B5.cell 0
  unfold pagesM stepM
  simp only
  unfold rm
  clear hW0 B4 B5 B6 R0 b0 S0 U0 m r sp ok hk
  rw [if_neg (by omega)]
  rw [if_pos (by omega)]
  have hm : Int.tmod (k : Int) 8 = 5 := by rw [htm]; omega
  clear htm
  have hl : (pubM T ow n).1.length = T.length := len_pub T ow n
  have RC := fun W (q : Tab W g h c T) => pub_c W g h c T q ow n
  have RR : ∀ w1, Pgs w1 b T → Hid (Calls Try.prog 67 #[rv b cb T, .int .u16 (ow : Int), .int .i64 n] w1 fun en w' => RDone w1 b (pubM T ow n).1 (pubM T ow n).2 en w') := fun w1 q7 => Lib.hid (by rw [← RP.out]; exact rpub_c w1 b cb T q7 few ow n)
  generalize pubM T ow n = R at RC RR hl ⊢
  replace RR := Lib.hid RR
  replace RC := Lib.hid RC
  replace hl := Lib.hid hl
  go_enter Try.func82, Try.ntmps82
  go_wp2_with fail
  (try rw [KW.out])
  go_region_held3 (fun w' => w'.cell? ⟨w.heap.size + 1, 3, none⟩ = some (.int .i64 pg) ∧ w'.cell? ⟨w.heap.size + 1, 4, none⟩ = some (.int .i64 n) ∧ w'.cell? ⟨w.heap.size + 1, 5, none⟩ = some (.int .u16 (ow : Int)) ∧ w'.cell? ⟨w.heap.size + 1, 6, none⟩ = some (.int .u64 (ep : Int))) (first | exact AK.out _ (Upd.refl _ _) | exact AK.out _ u1 | go_keep) ((first | (go_at_call 40; (with_reducible refine (PG.out _ ?_).mono ?_); (first | exact M0.out.drewN 1); rintro en w1 ⟨rfl, rfl⟩) | (go_at_call 24; (with_reducible refine (RC.out _ ?_).mono ?_); (first | exact (M0.out.drewN 1).tab); rintro en w1 ⟨rfl, tt1, u1⟩)))
  have u1 : Upd h W0 w1 := ((Upd.refl h W0).drewN 1).trans u1
  obtain ⟨k4, k5, q7⟩ := A5.out _ u1
  have t0 : w1.cell? ⟨w.heap.size, 0, none⟩ = some (.int .u32 (G 0 : Int)) := k4.cell 0
  have t1 : w1.cell? ⟨w.heap.size, 1, none⟩ = some (.int .u32 (G 1 : Int)) := k4.cell 1
  have t2 : w1.cell? ⟨w.heap.size, 2, none⟩ = some (.int .u32 (G 2 : Int)) := k4.cell 2
  have t3 : w1.cell? ⟨w.heap.size, 3, none⟩ = some (.int .u32 (G 3 : Int)) := k4.cell 3
  have t4 : w1.cell? ⟨w.heap.size, 4, none⟩ = some (.int .u32 (G 4 : Int)) := k4.cell 4
  have t5 : w1.cell? ⟨w.heap.size, 5, none⟩ = some (.int .u32 (G 5 : Int)) := k4.cell 5
  have t6 : w1.cell? ⟨w.heap.size, 6, none⟩ = some (.int .u32 (G 6 : Int)) := k4.cell 6
  have t7 : w1.cell? ⟨w.heap.size, 7, none⟩ = some (.int .u32 (G 7 : Int)) := k4.cell 7
  have t8 : w1.cell? ⟨w.heap.size, 8, none⟩ = some (.slice (some ⟨b, 0, none⟩) T.length cb) := k4.cell 8
  have t9 : w1.cell? ⟨w.heap.size, 9, none⟩ = some (.slice (some ⟨e, 0, none⟩) L.length ce) := k4.cell 9
  have a0 : w1.cell? ⟨w.heap.size + 1, 0, none⟩ = some (.int .u8 (k : Int)) := k5.cell 0
  have a1 : w1.cell? ⟨w.heap.size + 1, 1, none⟩ = some (.int .u32 (at_ : Int)) := k5.cell 1
  have a2 : w1.cell? ⟨w.heap.size + 1, 2, none⟩ = some (.int .u32 (wd : Int)) := k5.cell 2
  have a3 : w1.cell? ⟨w.heap.size + 1, 3, none⟩ = some (.int .i64 pg) := k5.cell 3
  have a4 : w1.cell? ⟨w.heap.size + 1, 4, none⟩ = some (.int .i64 n) := k5.cell 4
  have a5 : w1.cell? ⟨w.heap.size + 1, 5, none⟩ = some (.int .u16 (ow : Int)) := k5.cell 5
  have a6 : w1.cell? ⟨w.heap.size + 1, 6, none⟩ = some (.int .u64 (ep : Int)) := k5.cell 6
  have RX := RR.out w1 q7
  have FX := Lib.hid (fun (w2 : World) (en : Ending) (hr : RDone w1 b R.1 R.2 en w2) => ST.out _ _ _ _ _ hl.out tt1 u1 hr)
  clear tt1 u1 q7 k4 k5 p0
  unfold rv at RX
  go_wp2_with fail
  refine RX.out.mono ?_
  rintro en w2 hr
  obtain ⟨b', c', rfl, KK, FF⟩ := FX.out _ _ hr
  have s0 : w2.cell? ⟨w.heap.size, 0, none⟩ = some (.int .u32 (G 0 : Int)) := KK.out.1.cell 0
  have fs0 : w2.frozen? ⟨w.heap.size, 0, none⟩ = false := KK.out.1.frozen 0
  have s1 : w2.cell? ⟨w.heap.size, 1, none⟩ = some (.int .u32 (G 1 : Int)) := KK.out.1.cell 1
  have fs1 : w2.frozen? ⟨w.heap.size, 1, none⟩ = false := KK.out.1.frozen 1
  have s2 : w2.cell? ⟨w.heap.size, 2, none⟩ = some (.int .u32 (G 2 : Int)) := KK.out.1.cell 2
  have fs2 : w2.frozen? ⟨w.heap.size, 2, none⟩ = false := KK.out.1.frozen 2
  have s3 : w2.cell? ⟨w.heap.size, 3, none⟩ = some (.int .u32 (G 3 : Int)) := KK.out.1.cell 3
  have fs3 : w2.frozen? ⟨w.heap.size, 3, none⟩ = false := KK.out.1.frozen 3
  have s4 : w2.cell? ⟨w.heap.size, 4, none⟩ = some (.int .u32 (G 4 : Int)) := KK.out.1.cell 4
  have fs4 : w2.frozen? ⟨w.heap.size, 4, none⟩ = false := KK.out.1.frozen 4
  have s5 : w2.cell? ⟨w.heap.size, 5, none⟩ = some (.int .u32 (G 5 : Int)) := KK.out.1.cell 5
  have fs5 : w2.frozen? ⟨w.heap.size, 5, none⟩ = false := KK.out.1.frozen 5
  have s6 : w2.cell? ⟨w.heap.size, 6, none⟩ = some (.int .u32 (G 6 : Int)) := KK.out.1.cell 6
  have fs6 : w2.frozen? ⟨w.heap.size, 6, none⟩ = false := KK.out.1.frozen 6
  have s7 : w2.cell? ⟨w.heap.size, 7, none⟩ = some (.int .u32 (G 7 : Int)) := KK.out.1.cell 7
  have fs7 : w2.frozen? ⟨w.heap.size, 7, none⟩ = false := KK.out.1.frozen 7
  have s8 : w2.cell? ⟨w.heap.size, 8, none⟩ = some (.slice (some ⟨b, 0, none⟩) T.length cb) := KK.out.1.cell 8
  have fs8 : w2.frozen? ⟨w.heap.size, 8, none⟩ = false := KK.out.1.frozen 8
  have s9 : w2.cell? ⟨w.heap.size, 9, none⟩ = some (.slice (some ⟨e, 0, none⟩) L.length ce) := KK.out.1.cell 9
  have fs9 : w2.frozen? ⟨w.heap.size, 9, none⟩ = false := KK.out.1.frozen 9
  have z0 : w2.cell? ⟨w.heap.size + 2, 0, none⟩ = some (.int .u32 0) := KK.out.2.cell 0
  have fz0 : w2.frozen? ⟨w.heap.size + 2, 0, none⟩ = false := KK.out.2.frozen 0
  have z1 : w2.cell? ⟨w.heap.size + 2, 1, none⟩ = some (.int .u32 0) := KK.out.2.cell 1
  have fz1 : w2.frozen? ⟨w.heap.size + 2, 1, none⟩ = false := KK.out.2.frozen 1
  have z2 : w2.cell? ⟨w.heap.size + 2, 2, none⟩ = some (.int .u32 0) := KK.out.2.cell 2
  have fz2 : w2.frozen? ⟨w.heap.size + 2, 2, none⟩ = false := KK.out.2.frozen 2
  have z3 : w2.cell? ⟨w.heap.size + 2, 3, none⟩ = some (.int .u32 0) := KK.out.2.cell 3
  have fz3 : w2.frozen? ⟨w.heap.size + 2, 3, none⟩ = false := KK.out.2.frozen 3
  have z4 : w2.cell? ⟨w.heap.size + 2, 4, none⟩ = some (.int .u32 0) := KK.out.2.cell 4
  have fz4 : w2.frozen? ⟨w.heap.size + 2, 4, none⟩ = false := KK.out.2.frozen 4
  have z5 : w2.cell? ⟨w.heap.size + 2, 5, none⟩ = some (.int .u32 0) := KK.out.2.cell 5
  have fz5 : w2.frozen? ⟨w.heap.size + 2, 5, none⟩ = false := KK.out.2.frozen 5
  have z6 : w2.cell? ⟨w.heap.size + 2, 6, none⟩ = some (.int .u32 0) := KK.out.2.cell 6
  have fz6 : w2.frozen? ⟨w.heap.size + 2, 6, none⟩ = false := KK.out.2.frozen 6
  have z7 : w2.cell? ⟨w.heap.size + 2, 7, none⟩ = some (.int .u32 0) := KK.out.2.cell 7
  have fz7 : w2.frozen? ⟨w.heap.size + 2, 7, none⟩ = false := KK.out.2.frozen 7
  have z8 : w2.cell? ⟨w.heap.size + 2, 8, none⟩ = some (.slice none 0 0) := KK.out.2.cell 8
  have fz8 : w2.frozen? ⟨w.heap.size + 2, 8, none⟩ = false := KK.out.2.frozen 8
  have z9 : w2.cell? ⟨w.heap.size + 2, 9, none⟩ = some (.slice none 0 0) := KK.out.2.cell 9
  have fz9 : w2.frozen? ⟨w.heap.size + 2, 9, none⟩ = false := KK.out.2.frozen 9
  clear hr t0 t1 t2 t3 t4 t5 t6 t7 t8 t9 a0 a1 a2 a3 a4 a5 a6
  unfold rv
  unfold rm at FF
  go_wp2_with fail
  refine bodyPost_ret (v := .tuple #[.agg #[.int .u32 (G 0 : Int), .int .u32 (G 1 : Int), .int .u32 (G 2 : Int), .int .u32 (G 3 : Int), .int .u32 (G 4 : Int), .int .u32 (G 5 : Int), .int .u32 (G 6 : Int), .int .u32 (G 7 : Int), .slice (some ⟨b', 0, none⟩) R.1.length c', .slice (some ⟨e, 0, none⟩) L.length ce], .bool true]) (by simp [results, Try.results82, go_sem, *]) rfl ?_
  exact FF.out _ [.int .u32 (G 0 : Int), .int .u32 (G 1 : Int), .int .u32 (G 2 : Int), .int .u32 (G 3 : Int), .int .u32 (G 4 : Int), .int .u32 (G 5 : Int), .int .u32 (G 6 : Int), .int .u32 (G 7 : Int), .slice (some ⟨b', 0, none⟩) R.1.length c', .slice (some ⟨e, 0, none⟩) L.length ce]
end Go.Proofs.Ytjjcmclnjeplkaa.PM
