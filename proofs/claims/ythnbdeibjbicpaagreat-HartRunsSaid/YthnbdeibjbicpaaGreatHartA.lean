/- Contracts of hart.Step. Conditions: the cells. -/
import Derived.Test.YthnbdeibjbicpaaGreatKHartC
import Derived.Test.YthnbdeibjbicpaaGreatKIsaB
namespace Go.Proofs.YthnbdeibjbicpaaGreat.PM
set_option linter.unusedVariables false
set_option linter.unusedSimpArgs false
open Go.RowKit Go.Shelf Go.Lib
theorem dec_ok (x : Nat) (hx : x < 4294967296) (h1 : IM.chk (IM.dOp x) (IM.dD x) (IM.dA x) (IM.dB x) (IM.dI x) = 0) (h2 : IM.encN (IM.dOp x) (IM.dD x) (IM.dA x) (IM.dB x) (IM.dI x) = x) (W : World) :
    Calls Tryz.prog 27 #[.int .u32 (x : Int)] W fun e w' => e = .returned (.tuple #[.agg #[.int .u8 (IM.dOp x : Int), .int .u8 (IM.dD x : Int), .int .u8 (IM.dA x : Int), .int .u8 (IM.dB x : Int), .int .i32 (IM.dI x)], .int .i64 0]) ∧ Below W.heap.size W w' := by
  have := I7.decode_go x _ _ _ _ _ W hx rfl rfl rfl rfl rfl _ rfl 0 h1 x (by unfold I7.encV; rw [if_pos h1]; exact h2) false false rfl (by simp)
  exact this.mono fun e w' r => ⟨by simpa using r.1, r.2⟩
theorem dec_no (x : Nat) (hx : x < 4294967296) (h : IM.chk (IM.dOp x) (IM.dD x) (IM.dA x) (IM.dB x) (IM.dI x) ≠ 0 ∨ IM.encN (IM.dOp x) (IM.dD x) (IM.dA x) (IM.dB x) (IM.dI x) ≠ x) (W : World) :
    Calls Tryz.prog 27 #[.int .u32 (x : Int)] W fun e w' => e = .returned (.tuple #[.agg #[.int .u8 0, .int .u8 0, .int .u8 0, .int .u8 0, .int .i32 0], .int .i64 10]) ∧ Below W.heap.size W w' := by
  have key := fun t1 t2 a b => I7.decode_go x _ _ _ _ _ W hx rfl rfl rfl rfl rfl _ rfl _ rfl _ rfl t1 t2 a b
  by_cases h1 : IM.chk (IM.dOp x) (IM.dD x) (IM.dA x) (IM.dB x) (IM.dI x) = 0
  · have h2 : IM.encN (IM.dOp x) (IM.dD x) (IM.dA x) (IM.dB x) (IM.dI x) ≠ x := by
      rcases h with h | h
      · exact absurd h1 h
      · exact h
    have := key false true (by simp [h1]) (by unfold I7.encV; rw [if_pos h1]; simp; omega)
    exact this.mono fun e w' r => ⟨by simpa using r.1, r.2⟩
  · have := key true _ (by simpa using h1) rfl
    exact this.mono fun e w' r => ⟨by simpa using r.1, r.2⟩
/-- The world behind a step. -/
def SP (w : World) (base M g h c d cd : Nat) (G : Nat → Nat) (T : List Page) (L : List Nat) (S : List Nat) (s : Value) (w' : World) : Prop := Own w' base s S ∧ Mem w' M g h c d cd G T L ∧ UpdX w.heap.size d w w'
section
variable {w w' : World} {base M g h c d cd : Nat} {G : Nat → Nat} {T : List Page} {L S : List Nat} {s : Value}
theorem SP.upd (p : SP w base M g h c d cd G T L S s w') {k : Nat} {w2 : World} (u : Upd k w' w2) (h1 : w.heap.size ≤ k) (h2 : s.ownBlock ≠ some k) (hM : M < w.heap.size) (hg : g < w.heap.size) (hh : h < w.heap.size) (hd : d < w.heap.size) : SP w base M g h c d cd G T L S s w2 :=
  ⟨p.1.upd u h2, p.2.1.updk u (by omega) (by omega) (by omega) (by omega), p.2.2.trans ⟨u.os, u.tape, u.output, u.size, fun j hj _ => u.block j (Nat.lt_of_lt_of_le hj p.2.2.size) (by omega)⟩⟩
theorem SP.alloc (p : SP w base M g h c d cd G T L S s w') (o : Obj) : SP w base M g h c d cd G T L S s (w'.alloc o) :=
  ⟨p.1.kept ((Below.refl _ _).alloc (Nat.le_refl _) o), p.2.1.alloc o, p.2.2.trans (UpdX.of (((Below.refl _ w').alloc (Nat.le_refl _) o).mono p.2.2.size))⟩
theorem SP.low (p : SP w base M g h c d cd G T L S s w') {k : Nat} (hk : k < base) : s.ownBlock ≠ some k := fun e => by have := (p.1.lt k e).1; omega
end
def StepP (w : World) (M g h c d cd : Nat) (G : Nat → Nat) (T : List Page) (home : Nat) (o : Out) (e : Ending) (w' : World) : Prop :=
  ∃ s, e = .returned (.tuple #[hv o.pc o.R s o.why o.ep home, .agg #[.bool o.nS, .bool o.nT, .int .u32 (o.nA : Int), .int .u32 (o.nW : Int)]]) ∧ SP w w.heap.size M g h c d cd G T o.L o.S s w'
theorem SP.mono {w w' : World} {base b2 M g h c d cd : Nat} {G : Nat → Nat} {T : List Page} {L S : List Nat} {s : Value} (p : SP w base M g h c d cd G T L S s w') (hb : b2 ≤ base) : SP w b2 M g h c d cd G T L S s w' := ⟨p.1.mono hb, p.2⟩
set_option maxRecDepth 100000 in
set_option maxHeartbeats 16000000 in
theorem step_still (w : World) (M g h c d cd : Nat) (G : Nat → Nat) (T : List Page) (L : List Nat) (pc : Nat) (R : Nat → Nat) (S : List Nat) (ep home epoch why : Nat) (src : Option Addr) (cap : Nat) (m : Mem w M g h c d cd G T L) (hS : Stk w src S) (hn : S.length < 35184372088832) (hw : ((why : Int) != 0) = true) :
    Calls Tryz.prog 7 #[hv pc R (.slice src S.length cap) why ep home, .pointer (some ⟨M, 0, none⟩), .int .u64 (epoch : Int)] w fun e w' => StepP w M g h c d cd G T home (stay L pc R S ep why) e w' := by
  have lM := m.ten.lt
  have lg := m.tab.lt
  have lh := m.tab.pgs.lt
  have ld := m.wds.lt
  have K3 := Lib.hid (((Blk.new w 30 #[.int .u32 (pc : Int), .int .u32 (R 0 : Int), .int .u32 (R 1 : Int), .int .u32 (R 2 : Int), .int .u32 (R 3 : Int), .int .u32 (R 4 : Int), .int .u32 (R 5 : Int), .int .u32 (R 6 : Int), .int .u32 (R 7 : Int), (.slice src S.length cap), .int .u8 (why : Int), .int .u64 (ep : Int), .int .u32 (home : Int)]).alloc (.cells #[.int .u32 0, .int .u32 0, .int .u32 0, .int .u32 0, .int .u32 0, .int .u32 0, .int .u32 0, .int .u32 0, .int .u32 0, .slice none 0 0, .int .u8 0, .int .u64 0, .int .u32 0] 30)).alloc (.cells #[.bool false, .bool false, .int .u32 0, .int .u32 0] 41))
  have K6 := Lib.hid ((Blk.new (w.alloc (.cells #[.int .u32 (pc : Int), .int .u32 (R 0 : Int), .int .u32 (R 1 : Int), .int .u32 (R 2 : Int), .int .u32 (R 3 : Int), .int .u32 (R 4 : Int), .int .u32 (R 5 : Int), .int .u32 (R 6 : Int), .int .u32 (R 7 : Int), (.slice src S.length cap), .int .u8 (why : Int), .int .u64 (ep : Int), .int .u32 (home : Int)] 30)) 30 #[.int .u32 0, .int .u32 0, .int .u32 0, .int .u32 0, .int .u32 0, .int .u32 0, .int .u32 0, .int .u32 0, .int .u32 0, .slice none 0 0, .int .u8 0, .int .u64 0, .int .u32 0]).alloc (.cells #[.bool false, .bool false, .int .u32 0, .int .u32 0] 41))
  have K7 := Lib.hid (Blk.new ((w.alloc (.cells #[.int .u32 (pc : Int), .int .u32 (R 0 : Int), .int .u32 (R 1 : Int), .int .u32 (R 2 : Int), .int .u32 (R 3 : Int), .int .u32 (R 4 : Int), .int .u32 (R 5 : Int), .int .u32 (R 6 : Int), .int .u32 (R 7 : Int), (.slice src S.length cap), .int .u8 (why : Int), .int .u64 (ep : Int), .int .u32 (home : Int)] 30)).alloc (.cells #[.int .u32 0, .int .u32 0, .int .u32 0, .int .u32 0, .int .u32 0, .int .u32 0, .int .u32 0, .int .u32 0, .int .u32 0, .slice none 0 0, .int .u8 0, .int .u64 0, .int .u32 0] 30)) 41 #[.bool false, .bool false, .int .u32 0, .int .u32 0])
  have C : Hid (Stk (((w.alloc (.cells #[.int .u32 (pc : Int), .int .u32 (R 0 : Int), .int .u32 (R 1 : Int), .int .u32 (R 2 : Int), .int .u32 (R 3 : Int), .int .u32 (R 4 : Int), .int .u32 (R 5 : Int), .int .u32 (R 6 : Int), .int .u32 (R 7 : Int), (.slice src S.length cap), .int .u8 (why : Int), .int .u64 (ep : Int), .int .u32 (home : Int)] 30)).alloc (.cells #[.int .u32 0, .int .u32 0, .int .u32 0, .int .u32 0, .int .u32 0, .int .u32 0, .int .u32 0, .int .u32 0, .int .u32 0, .slice none 0 0, .int .u8 0, .int .u64 0, .int .u32 0] 30)).alloc (.cells #[.bool false, .bool false, .int .u32 0, .int .u32 0] 41)) src S) := Lib.hid (((hS.kept ((Below.refl _ w).alloc (Nat.le_refl _) _)).kept ((Below.refl _ _).alloc (Nat.le_refl _) _)).kept ((Below.refl _ _).alloc (Nat.le_refl _) _))
  have B0 : Hid (Below w.heap.size w (((w.alloc (.cells #[.int .u32 (pc : Int), .int .u32 (R 0 : Int), .int .u32 (R 1 : Int), .int .u32 (R 2 : Int), .int .u32 (R 3 : Int), .int .u32 (R 4 : Int), .int .u32 (R 5 : Int), .int .u32 (R 6 : Int), .int .u32 (R 7 : Int), (.slice src S.length cap), .int .u8 (why : Int), .int .u64 (ep : Int), .int .u32 (home : Int)] 30)).alloc (.cells #[.int .u32 0, .int .u32 0, .int .u32 0, .int .u32 0, .int .u32 0, .int .u32 0, .int .u32 0, .int .u32 0, .int .u32 0, .slice none 0 0, .int .u8 0, .int .u64 0, .int .u32 0] 30)).alloc (.cells #[.bool false, .bool false, .int .u32 0, .int .u32 0] 41))) := Lib.hid ((((Below.refl _ w).alloc (Nat.le_refl _) _).alloc (by simp) _).alloc (by simp; omega) _)
  have M0 : Hid (Mem (((w.alloc (.cells #[.int .u32 (pc : Int), .int .u32 (R 0 : Int), .int .u32 (R 1 : Int), .int .u32 (R 2 : Int), .int .u32 (R 3 : Int), .int .u32 (R 4 : Int), .int .u32 (R 5 : Int), .int .u32 (R 6 : Int), .int .u32 (R 7 : Int), (.slice src S.length cap), .int .u8 (why : Int), .int .u64 (ep : Int), .int .u32 (home : Int)] 30)).alloc (.cells #[.int .u32 0, .int .u32 0, .int .u32 0, .int .u32 0, .int .u32 0, .int .u32 0, .int .u32 0, .int .u32 0, .int .u32 0, .slice none 0 0, .int .u8 0, .int .u64 0, .int .u32 0] 30)).alloc (.cells #[.bool false, .bool false, .int .u32 0, .int .u32 0] 41)) M g h c d cd G T L) := Lib.hid (((m.alloc _).alloc _).alloc _)
  generalize hW : ((w.alloc (.cells #[.int .u32 (pc : Int), .int .u32 (R 0 : Int), .int .u32 (R 1 : Int), .int .u32 (R 2 : Int), .int .u32 (R 3 : Int), .int .u32 (R 4 : Int), .int .u32 (R 5 : Int), .int .u32 (R 6 : Int), .int .u32 (R 7 : Int), (.slice src S.length cap), .int .u8 (why : Int), .int .u64 (ep : Int), .int .u32 (home : Int)] 30)).alloc (.cells #[.int .u32 0, .int .u32 0, .int .u32 0, .int .u32 0, .int .u32 0, .int .u32 0, .int .u32 0, .int .u32 0, .int .u32 0, .slice none 0 0, .int .u8 0, .int .u64 0, .int .u32 0] 30)).alloc (.cells #[.bool false, .bool false, .int .u32 0, .int .u32 0] 41) = W at K3 K6 K7 C B0 M0
  have hsz : W.heap.size = w.heap.size + 3 := by rw [← hW]; simp
  replace K6 : Hid (Blk W (w.heap.size + 1) 30 #[.int .u32 0, .int .u32 0, .int .u32 0, .int .u32 0, .int .u32 0, .int .u32 0, .int .u32 0, .int .u32 0, .int .u32 0, .slice none 0 0, .int .u8 0, .int .u64 0, .int .u32 0]) := Lib.hid (by have := K6.out; simpa using this)
  replace K7 : Hid (Blk W (w.heap.size + 1 + 1) 41 #[.bool false, .bool false, .int .u32 0, .int .u32 0]) := Lib.hid (by have := K7.out; simpa using this)
  have CC := Lib.hid (copy_c W pc R src cap why ep home S C.out (by omega))
  have KW := Lib.hid hW
  clear hW hS C m
  obtain ⟨t0, t1, t2, t3, t4, t5, t6, t7, t8, t9, t10, t11, t12⟩ := blkc13 K3.out
  unfold hv at CC ⊢
  go_enter Tryz.func7, Tryz.ntmps7
  go_wp2_with fail
  (try rw [KW.out])
  refine CC.out.mono ?_
  rintro e w1 ⟨s, rfl, ow, hb⟩
  obtain ⟨src2, cap2, rfl, _⟩ := ow.form
  rw [hsz] at ow
  have k3 := K3.out.kept hb
  have k6 := K6.out.kept hb
  have k7 := K7.out.kept hb
  have hl3 : w.heap.size < w1.heap.size := k3.lt
  have hl6 : w.heap.size + 1 < w1.heap.size := k6.lt
  have hl7 : w.heap.size + 1 + 1 < w1.heap.size := k7.lt
  have SP1 : Hid (SP w (w.heap.size + 3) M g h c d cd G T L S (.slice src2 S.length cap2) w1) := Lib.hid ⟨ow, M0.out.kept hb, UpdX.of (B0.out.trans (hb.mono B0.out.size))⟩
  clear ow hb K3 K6 K7 B0 M0 CC KW t0 t1 t2 t3 t4 t5 t6 t7 t8 t9 t10 t11 t12
  have t0 : w1.cell? ⟨w.heap.size, 0, none⟩ = some (.int .u32 (pc : Int)) := k3.cell 0
  have t10 : w1.cell? ⟨w.heap.size, 10, none⟩ = some (.int .u8 (why : Int)) := k3.cell 10
  have t11 : w1.cell? ⟨w.heap.size, 11, none⟩ = some (.int .u64 (ep : Int)) := k3.cell 11
  obtain ⟨z0, fz0, z1, fz1, z2, fz2, z3, fz3, z4, fz4, z5, fz5, z6, fz6, z7, fz7, z8, fz8, z9, fz9, z10, fz10, z11, fz11, z12, fz12⟩ := blkf13 k6
  obtain ⟨y0, fy0, y1, fy1, y2, fy2, y3, fy3⟩ := blkf4 k7
  have F : Hid (∀ vs1 vs2 ob, StepP w M g h c d cd G T home (stay L pc R S ep why) (.returned (.tuple #[.agg #[.int .u32 (pc : Int), .int .u32 (R 0 : Int), .int .u32 (R 1 : Int), .int .u32 (R 2 : Int), .int .u32 (R 3 : Int), .int .u32 (R 4 : Int), .int .u32 (R 5 : Int), .int .u32 (R 6 : Int), .int .u32 (R 7 : Int), (.slice src2 S.length cap2), .int .u8 (why : Int), .int .u64 (ep : Int), .int .u32 (home : Int)], .agg #[.bool false, .bool false, .int .u32 0, .int .u32 0]])) (((w1.setCells (w.heap.size + 1) 0 vs1).setCells (w.heap.size + 1 + 1) 0 vs2).alloc ob)) := Lib.hid fun vs1 vs2 ob =>
    ⟨(.slice src2 S.length cap2), rfl, (((SP1.out.upd (upd_cells _ vs1 0 _) (by omega) (SP1.out.low (by omega)) lM lg lh ld).upd (upd_cells _ vs2 0 _) (by omega) (SP1.out.low (by omega)) lM lg lh ld).alloc ob).mono (by omega)⟩
  clear SP1 k3 k6 k7
  go_wp2_with fail
  refine bodyPost_ret (v := .tuple #[.agg #[.int .u32 (pc : Int), .int .u32 (R 0 : Int), .int .u32 (R 1 : Int), .int .u32 (R 2 : Int), .int .u32 (R 3 : Int), .int .u32 (R 4 : Int), .int .u32 (R 5 : Int), .int .u32 (R 6 : Int), .int .u32 (R 7 : Int), (.slice src2 S.length cap2), .int .u8 (why : Int), .int .u64 (ep : Int), .int .u32 (home : Int)], .agg #[.bool false, .bool false, .int .u32 0, .int .u32 0]]) (by simp [results, Tryz.results7, go_sem, *]) rfl ?_
  exact F.out [.int .u32 (pc : Int), .int .u32 (R 0 : Int), .int .u32 (R 1 : Int), .int .u32 (R 2 : Int), .int .u32 (R 3 : Int), .int .u32 (R 4 : Int), .int .u32 (R 5 : Int), .int .u32 (R 6 : Int), .int .u32 (R 7 : Int), (.slice src2 S.length cap2), .int .u8 (why : Int), .int .u64 (ep : Int), .int .u32 (home : Int)] [.bool false, .bool false, .int .u32 0, .int .u32 0] _
set_option maxRecDepth 100000 in
set_option maxHeartbeats 16000000 in
theorem step_fetch_no (w : World) (M g h c d cd : Nat) (G : Nat → Nat) (T : List Page) (L : List Nat) (pc : Nat) (R : Nat → Nat) (S : List Nat) (ep home epoch why : Nat) (src : Option Addr) (cap : Nat) (m : Mem w M g h c d cd G T L) (hS : Stk w src S) (hn : S.length < 35184372088832) (hw : ((why : Int) != 0) = false) (hpc : pc < 4294967296) (hf : (fetchM G T L pc ep).2.2 = false) :
    Calls Tryz.prog 7 #[hv pc R (.slice src S.length cap) why ep home, .pointer (some ⟨M, 0, none⟩), .int .u64 (epoch : Int)] w fun e w' => StepP w M g h c d cd G T home (stay L pc R S ep 2) e w' := by
  have lM := m.ten.lt
  have lg := m.tab.lt
  have lh := m.tab.pgs.lt
  have ld := m.wds.lt
  have FC := fun W (q : Mem W M g h c d cd G T L) => fetch_c q pc ep hpc
  generalize fetchM G T L pc ep = f at FC hf
  obtain ⟨f0, f1, f2⟩ := f
  simp only at FC hf
  subst hf
  unfold f3 at FC
  simp only at FC
  replace FC := Lib.hid FC
  have K3 := Lib.hid (((Blk.new w 30 #[.int .u32 (pc : Int), .int .u32 (R 0 : Int), .int .u32 (R 1 : Int), .int .u32 (R 2 : Int), .int .u32 (R 3 : Int), .int .u32 (R 4 : Int), .int .u32 (R 5 : Int), .int .u32 (R 6 : Int), .int .u32 (R 7 : Int), (.slice src S.length cap), .int .u8 (why : Int), .int .u64 (ep : Int), .int .u32 (home : Int)]).alloc (.cells #[.int .u32 0, .int .u32 0, .int .u32 0, .int .u32 0, .int .u32 0, .int .u32 0, .int .u32 0, .int .u32 0, .int .u32 0, .slice none 0 0, .int .u8 0, .int .u64 0, .int .u32 0] 30)).alloc (.cells #[.bool false, .bool false, .int .u32 0, .int .u32 0] 41))
  have K6 := Lib.hid ((Blk.new (w.alloc (.cells #[.int .u32 (pc : Int), .int .u32 (R 0 : Int), .int .u32 (R 1 : Int), .int .u32 (R 2 : Int), .int .u32 (R 3 : Int), .int .u32 (R 4 : Int), .int .u32 (R 5 : Int), .int .u32 (R 6 : Int), .int .u32 (R 7 : Int), (.slice src S.length cap), .int .u8 (why : Int), .int .u64 (ep : Int), .int .u32 (home : Int)] 30)) 30 #[.int .u32 0, .int .u32 0, .int .u32 0, .int .u32 0, .int .u32 0, .int .u32 0, .int .u32 0, .int .u32 0, .int .u32 0, .slice none 0 0, .int .u8 0, .int .u64 0, .int .u32 0]).alloc (.cells #[.bool false, .bool false, .int .u32 0, .int .u32 0] 41))
  have K7 := Lib.hid (Blk.new ((w.alloc (.cells #[.int .u32 (pc : Int), .int .u32 (R 0 : Int), .int .u32 (R 1 : Int), .int .u32 (R 2 : Int), .int .u32 (R 3 : Int), .int .u32 (R 4 : Int), .int .u32 (R 5 : Int), .int .u32 (R 6 : Int), .int .u32 (R 7 : Int), (.slice src S.length cap), .int .u8 (why : Int), .int .u64 (ep : Int), .int .u32 (home : Int)] 30)).alloc (.cells #[.int .u32 0, .int .u32 0, .int .u32 0, .int .u32 0, .int .u32 0, .int .u32 0, .int .u32 0, .int .u32 0, .int .u32 0, .slice none 0 0, .int .u8 0, .int .u64 0, .int .u32 0] 30)) 41 #[.bool false, .bool false, .int .u32 0, .int .u32 0])
  have C : Hid (Stk (((w.alloc (.cells #[.int .u32 (pc : Int), .int .u32 (R 0 : Int), .int .u32 (R 1 : Int), .int .u32 (R 2 : Int), .int .u32 (R 3 : Int), .int .u32 (R 4 : Int), .int .u32 (R 5 : Int), .int .u32 (R 6 : Int), .int .u32 (R 7 : Int), (.slice src S.length cap), .int .u8 (why : Int), .int .u64 (ep : Int), .int .u32 (home : Int)] 30)).alloc (.cells #[.int .u32 0, .int .u32 0, .int .u32 0, .int .u32 0, .int .u32 0, .int .u32 0, .int .u32 0, .int .u32 0, .int .u32 0, .slice none 0 0, .int .u8 0, .int .u64 0, .int .u32 0] 30)).alloc (.cells #[.bool false, .bool false, .int .u32 0, .int .u32 0] 41)) src S) := Lib.hid (((hS.kept ((Below.refl _ w).alloc (Nat.le_refl _) _)).kept ((Below.refl _ _).alloc (Nat.le_refl _) _)).kept ((Below.refl _ _).alloc (Nat.le_refl _) _))
  have B0 : Hid (Below w.heap.size w (((w.alloc (.cells #[.int .u32 (pc : Int), .int .u32 (R 0 : Int), .int .u32 (R 1 : Int), .int .u32 (R 2 : Int), .int .u32 (R 3 : Int), .int .u32 (R 4 : Int), .int .u32 (R 5 : Int), .int .u32 (R 6 : Int), .int .u32 (R 7 : Int), (.slice src S.length cap), .int .u8 (why : Int), .int .u64 (ep : Int), .int .u32 (home : Int)] 30)).alloc (.cells #[.int .u32 0, .int .u32 0, .int .u32 0, .int .u32 0, .int .u32 0, .int .u32 0, .int .u32 0, .int .u32 0, .int .u32 0, .slice none 0 0, .int .u8 0, .int .u64 0, .int .u32 0] 30)).alloc (.cells #[.bool false, .bool false, .int .u32 0, .int .u32 0] 41))) := Lib.hid ((((Below.refl _ w).alloc (Nat.le_refl _) _).alloc (by simp) _).alloc (by simp; omega) _)
  have M0 : Hid (Mem (((w.alloc (.cells #[.int .u32 (pc : Int), .int .u32 (R 0 : Int), .int .u32 (R 1 : Int), .int .u32 (R 2 : Int), .int .u32 (R 3 : Int), .int .u32 (R 4 : Int), .int .u32 (R 5 : Int), .int .u32 (R 6 : Int), .int .u32 (R 7 : Int), (.slice src S.length cap), .int .u8 (why : Int), .int .u64 (ep : Int), .int .u32 (home : Int)] 30)).alloc (.cells #[.int .u32 0, .int .u32 0, .int .u32 0, .int .u32 0, .int .u32 0, .int .u32 0, .int .u32 0, .int .u32 0, .int .u32 0, .slice none 0 0, .int .u8 0, .int .u64 0, .int .u32 0] 30)).alloc (.cells #[.bool false, .bool false, .int .u32 0, .int .u32 0] 41)) M g h c d cd G T L) := Lib.hid (((m.alloc _).alloc _).alloc _)
  generalize hW : ((w.alloc (.cells #[.int .u32 (pc : Int), .int .u32 (R 0 : Int), .int .u32 (R 1 : Int), .int .u32 (R 2 : Int), .int .u32 (R 3 : Int), .int .u32 (R 4 : Int), .int .u32 (R 5 : Int), .int .u32 (R 6 : Int), .int .u32 (R 7 : Int), (.slice src S.length cap), .int .u8 (why : Int), .int .u64 (ep : Int), .int .u32 (home : Int)] 30)).alloc (.cells #[.int .u32 0, .int .u32 0, .int .u32 0, .int .u32 0, .int .u32 0, .int .u32 0, .int .u32 0, .int .u32 0, .int .u32 0, .slice none 0 0, .int .u8 0, .int .u64 0, .int .u32 0] 30)).alloc (.cells #[.bool false, .bool false, .int .u32 0, .int .u32 0] 41) = W at K3 K6 K7 C B0 M0
  have hsz : W.heap.size = w.heap.size + 3 := by rw [← hW]; simp
  replace K6 : Hid (Blk W (w.heap.size + 1) 30 #[.int .u32 0, .int .u32 0, .int .u32 0, .int .u32 0, .int .u32 0, .int .u32 0, .int .u32 0, .int .u32 0, .int .u32 0, .slice none 0 0, .int .u8 0, .int .u64 0, .int .u32 0]) := Lib.hid (by have := K6.out; simpa using this)
  replace K7 : Hid (Blk W (w.heap.size + 1 + 1) 41 #[.bool false, .bool false, .int .u32 0, .int .u32 0]) := Lib.hid (by have := K7.out; simpa using this)
  have CC := Lib.hid (copy_c W pc R src cap why ep home S C.out (by omega))
  have KW := Lib.hid hW
  clear hW hS C m
  obtain ⟨t0, t1, t2, t3, t4, t5, t6, t7, t8, t9, t10, t11, t12⟩ := blkc13 K3.out
  unfold hv at CC ⊢
  go_enter Tryz.func7, Tryz.ntmps7
  go_wp2_with fail
  (try rw [KW.out])
  refine CC.out.mono ?_
  rintro e w1 ⟨s, rfl, ow, hb⟩
  obtain ⟨src2, cap2, rfl, _⟩ := ow.form
  rw [hsz] at ow
  have k3 := K3.out.kept hb
  have k6 := K6.out.kept hb
  have k7 := K7.out.kept hb
  have hl3 : w.heap.size < w1.heap.size := k3.lt
  have hl6 : w.heap.size + 1 < w1.heap.size := k6.lt
  have hl7 : w.heap.size + 1 + 1 < w1.heap.size := k7.lt
  have SP1 : Hid (SP w (w.heap.size + 3) M g h c d cd G T L S (.slice src2 S.length cap2) w1) := Lib.hid ⟨ow, M0.out.kept hb, UpdX.of (B0.out.trans (hb.mono B0.out.size))⟩
  clear ow hb K3 K6 K7 B0 M0 CC KW t0 t1 t2 t3 t4 t5 t6 t7 t8 t9 t10 t11 t12
  have t0 : w1.cell? ⟨w.heap.size, 0, none⟩ = some (.int .u32 (pc : Int)) := k3.cell 0
  have t10 : w1.cell? ⟨w.heap.size, 10, none⟩ = some (.int .u8 (why : Int)) := k3.cell 10
  have t11 : w1.cell? ⟨w.heap.size, 11, none⟩ = some (.int .u64 (ep : Int)) := k3.cell 11
  have KB : Hid (RunB (w1.alloc (.cells #[.int .u32 (pc : Int), .int .u32 (R 0 : Int), .int .u32 (R 1 : Int), .int .u32 (R 2 : Int), .int .u32 (R 3 : Int), .int .u32 (R 4 : Int), .int .u32 (R 5 : Int), .int .u32 (R 6 : Int), .int .u32 (R 7 : Int), (.slice src2 S.length cap2), .int .u8 (why : Int), .int .u64 (ep : Int), .int .u32 (home : Int), .pointer (some ⟨M, 0, none⟩), .int .u64 (epoch : Int), .int .u16 0, .bool false, .bool false, .int .u32 0, .int .u32 0] 73)) w1.heap.size pc R (.slice src2 S.length cap2) why ep home (.pointer (some ⟨M, 0, none⟩)) epoch 0 false false 0 0) := Lib.hid (Blk.new w1 73 #[.int .u32 (pc : Int), .int .u32 (R 0 : Int), .int .u32 (R 1 : Int), .int .u32 (R 2 : Int), .int .u32 (R 3 : Int), .int .u32 (R 4 : Int), .int .u32 (R 5 : Int), .int .u32 (R 6 : Int), .int .u32 (R 7 : Int), (.slice src2 S.length cap2), .int .u8 (why : Int), .int .u64 (ep : Int), .int .u32 (home : Int), .pointer (some ⟨M, 0, none⟩), .int .u64 (epoch : Int), .int .u16 0, .bool false, .bool false, .int .u32 0, .int .u32 0])
  have SP2 := Lib.hid (SP1.out.alloc (.cells #[.int .u32 (pc : Int), .int .u32 (R 0 : Int), .int .u32 (R 1 : Int), .int .u32 (R 2 : Int), .int .u32 (R 3 : Int), .int .u32 (R 4 : Int), .int .u32 (R 5 : Int), .int .u32 (R 6 : Int), .int .u32 (R 7 : Int), (.slice src2 S.length cap2), .int .u8 (why : Int), .int .u64 (ep : Int), .int .u32 (home : Int), .pointer (some ⟨M, 0, none⟩), .int .u64 (epoch : Int), .int .u16 0, .bool false, .bool false, .int .u32 0, .int .u32 0] 73))
  have A6 := Lib.hid (k6.alloc (.cells #[.int .u32 (pc : Int), .int .u32 (R 0 : Int), .int .u32 (R 1 : Int), .int .u32 (R 2 : Int), .int .u32 (R 3 : Int), .int .u32 (R 4 : Int), .int .u32 (R 5 : Int), .int .u32 (R 6 : Int), .int .u32 (R 7 : Int), (.slice src2 S.length cap2), .int .u8 (why : Int), .int .u64 (ep : Int), .int .u32 (home : Int), .pointer (some ⟨M, 0, none⟩), .int .u64 (epoch : Int), .int .u16 0, .bool false, .bool false, .int .u32 0, .int .u32 0] 73))
  have A7 := Lib.hid (k7.alloc (.cells #[.int .u32 (pc : Int), .int .u32 (R 0 : Int), .int .u32 (R 1 : Int), .int .u32 (R 2 : Int), .int .u32 (R 3 : Int), .int .u32 (R 4 : Int), .int .u32 (R 5 : Int), .int .u32 (R 6 : Int), .int .u32 (R 7 : Int), (.slice src2 S.length cap2), .int .u8 (why : Int), .int .u64 (ep : Int), .int .u32 (home : Int), .pointer (some ⟨M, 0, none⟩), .int .u64 (epoch : Int), .int .u16 0, .bool false, .bool false, .int .u32 0, .int .u32 0] 73))
  generalize hW2 : w1.alloc (.cells #[.int .u32 (pc : Int), .int .u32 (R 0 : Int), .int .u32 (R 1 : Int), .int .u32 (R 2 : Int), .int .u32 (R 3 : Int), .int .u32 (R 4 : Int), .int .u32 (R 5 : Int), .int .u32 (R 6 : Int), .int .u32 (R 7 : Int), (.slice src2 S.length cap2), .int .u8 (why : Int), .int .u64 (ep : Int), .int .u32 (home : Int), .pointer (some ⟨M, 0, none⟩), .int .u64 (epoch : Int), .int .u16 0, .bool false, .bool false, .int .u32 0, .int .u32 0] 73) = W2 at KB SP2 A6 A7
  have KW2 := Lib.hid hW2
  have sz2 : W2.heap.size = w1.heap.size + 1 := by rw [← hW2]; simp
  clear hW2 SP1 k3 k6 k7
  go_wp2_with fail
  (try rw [KW2.out])
  refine (FC.out _ SP2.out.2.1).mono ?_
  rintro e w3 ⟨rfl, hb3⟩
  have K3b : Hid (RunB w3 w1.heap.size pc R (.slice src2 S.length cap2) why ep home (.pointer (some ⟨M, 0, none⟩)) epoch 0 false false 0 0) := Lib.hid (Blk.kept KB.out hb3)
  have SP3 : Hid (SP w (w.heap.size + 3) M g h c d cd G T L S (.slice src2 S.length cap2) w3) := Lib.hid ⟨SP2.out.1.kept hb3, SP2.out.2.1.kept hb3, SP2.out.2.2.trans (UpdX.of (hb3.mono SP2.out.2.2.size))⟩
  have C6 := A6.out.kept hb3
  have C7 := A7.out.kept hb3
  have hlB : w1.heap.size < w3.heap.size := K3b.out.lt
  clear KB SP2 A6 A7 hb3 FC KW2 t0 t10 t11
  have r0 : w3.cell? ⟨w1.heap.size, 0, none⟩ = some (.int .u32 (pc : Int)) := K3b.out.cell 0
  have fr0 : w3.frozen? ⟨w1.heap.size, 0, none⟩ = false := K3b.out.frozen 0
  have r1 : w3.cell? ⟨w1.heap.size, 1, none⟩ = some (.int .u32 (R 0 : Int)) := K3b.out.cell 1
  have fr1 : w3.frozen? ⟨w1.heap.size, 1, none⟩ = false := K3b.out.frozen 1
  have r2 : w3.cell? ⟨w1.heap.size, 2, none⟩ = some (.int .u32 (R 1 : Int)) := K3b.out.cell 2
  have fr2 : w3.frozen? ⟨w1.heap.size, 2, none⟩ = false := K3b.out.frozen 2
  have r3 : w3.cell? ⟨w1.heap.size, 3, none⟩ = some (.int .u32 (R 2 : Int)) := K3b.out.cell 3
  have fr3 : w3.frozen? ⟨w1.heap.size, 3, none⟩ = false := K3b.out.frozen 3
  have r4 : w3.cell? ⟨w1.heap.size, 4, none⟩ = some (.int .u32 (R 3 : Int)) := K3b.out.cell 4
  have fr4 : w3.frozen? ⟨w1.heap.size, 4, none⟩ = false := K3b.out.frozen 4
  have r5 : w3.cell? ⟨w1.heap.size, 5, none⟩ = some (.int .u32 (R 4 : Int)) := K3b.out.cell 5
  have fr5 : w3.frozen? ⟨w1.heap.size, 5, none⟩ = false := K3b.out.frozen 5
  have r6 : w3.cell? ⟨w1.heap.size, 6, none⟩ = some (.int .u32 (R 5 : Int)) := K3b.out.cell 6
  have fr6 : w3.frozen? ⟨w1.heap.size, 6, none⟩ = false := K3b.out.frozen 6
  have r7 : w3.cell? ⟨w1.heap.size, 7, none⟩ = some (.int .u32 (R 6 : Int)) := K3b.out.cell 7
  have fr7 : w3.frozen? ⟨w1.heap.size, 7, none⟩ = false := K3b.out.frozen 7
  have r8 : w3.cell? ⟨w1.heap.size, 8, none⟩ = some (.int .u32 (R 7 : Int)) := K3b.out.cell 8
  have fr8 : w3.frozen? ⟨w1.heap.size, 8, none⟩ = false := K3b.out.frozen 8
  have r9 : w3.cell? ⟨w1.heap.size, 9, none⟩ = some ((.slice src2 S.length cap2)) := K3b.out.cell 9
  have fr9 : w3.frozen? ⟨w1.heap.size, 9, none⟩ = false := K3b.out.frozen 9
  have r10 : w3.cell? ⟨w1.heap.size, 10, none⟩ = some (.int .u8 (why : Int)) := K3b.out.cell 10
  have fr10 : w3.frozen? ⟨w1.heap.size, 10, none⟩ = false := K3b.out.frozen 10
  have r11 : w3.cell? ⟨w1.heap.size, 11, none⟩ = some (.int .u64 (ep : Int)) := K3b.out.cell 11
  have fr11 : w3.frozen? ⟨w1.heap.size, 11, none⟩ = false := K3b.out.frozen 11
  have r12 : w3.cell? ⟨w1.heap.size, 12, none⟩ = some (.int .u32 (home : Int)) := K3b.out.cell 12
  have fr12 : w3.frozen? ⟨w1.heap.size, 12, none⟩ = false := K3b.out.frozen 12
  obtain ⟨z0, fz0, z1, fz1, z2, fz2, z3, fz3, z4, fz4, z5, fz5, z6, fz6, z7, fz7, z8, fz8, z9, fz9, z10, fz10, z11, fz11, z12, fz12⟩ := blkf13 C6
  obtain ⟨y0, fy0, y1, fy1, y2, fy2, y3, fy3⟩ := blkf4 C7
  have n1 : w.heap.size + 1 ≠ w1.heap.size := by omega
  have n2 : w.heap.size + 1 + 1 ≠ w1.heap.size := by omega
  have F : Hid (∀ u vs1 vs2, StepP w M g h c d cd G T home (stay L pc R S ep 2) (.returned (.tuple #[.agg #[.int .u32 (pc : Int), .int .u32 (R 0 : Int), .int .u32 (R 1 : Int), .int .u32 (R 2 : Int), .int .u32 (R 3 : Int), .int .u32 (R 4 : Int), .int .u32 (R 5 : Int), .int .u32 (R 6 : Int), .int .u32 (R 7 : Int), (.slice src2 S.length cap2), .int .u8 2, .int .u64 (ep : Int), .int .u32 (home : Int)], .agg #[.bool false, .bool false, .int .u32 0, .int .u32 0]])) (((w3.setCell ⟨w1.heap.size, 10, none⟩ u).setCells (w.heap.size + 1) 0 vs1).setCells (w.heap.size + 1 + 1) 0 vs2)) := Lib.hid fun u vs1 vs2 =>
    ⟨(.slice src2 S.length cap2), rfl, (((SP3.out.upd ((Upd.refl w1.heap.size w3).setCell 10 u) (by omega) (SP3.out.1.apart K3b.out) lM lg lh ld).upd (upd_cells _ vs1 0 _) (by omega) (SP3.out.low (by omega)) lM lg lh ld).upd (upd_cells _ vs2 0 _) (by omega) (SP3.out.low (by omega)) lM lg lh ld).mono (by omega)⟩
  clear SP3 K3b C6 C7
  go_wp2_with fail
  refine bodyPost_ret (v := .tuple #[.agg #[.int .u32 (pc : Int), .int .u32 (R 0 : Int), .int .u32 (R 1 : Int), .int .u32 (R 2 : Int), .int .u32 (R 3 : Int), .int .u32 (R 4 : Int), .int .u32 (R 5 : Int), .int .u32 (R 6 : Int), .int .u32 (R 7 : Int), (.slice src2 S.length cap2), .int .u8 2, .int .u64 (ep : Int), .int .u32 (home : Int)], .agg #[.bool false, .bool false, .int .u32 0, .int .u32 0]]) (by simp [results, Tryz.results7, go_sem, *]) rfl ?_
  exact F.out _ [.int .u32 (pc : Int), .int .u32 (R 0 : Int), .int .u32 (R 1 : Int), .int .u32 (R 2 : Int), .int .u32 (R 3 : Int), .int .u32 (R 4 : Int), .int .u32 (R 5 : Int), .int .u32 (R 6 : Int), .int .u32 (R 7 : Int), (.slice src2 S.length cap2), .int .u8 2, .int .u64 (ep : Int), .int .u32 (home : Int)] [.bool false, .bool false, .int .u32 0, .int .u32 0]
end Go.Proofs.YthnbdeibjbicpaaGreat.PM
