/- The walks of IsaApart, IsaBack, IsaJumps, out of contracts. Conditions: the bounds of the fields' kinds. -/
import Derived.Test.YtgnminoiddnheaaLawB1
namespace Go.Proofs.Ytgnminoiddnheaa.B1
set_option linter.unusedVariables false
open Go.RowKit Go.Proofs.Ytgnminoiddnheaa.WM Go.Proofs.Ytgnminoiddnheaa.IM Go.Proofs.Ytgnminoiddnheaa.W1 Go.Proofs.Ytgnminoiddnheaa.I1 Go.Proofs.Ytgnminoiddnheaa.I2 Go.Proofs.Ytgnminoiddnheaa.I6 Go.Proofs.Ytgnminoiddnheaa.I7 Go.Proofs.Ytgnminoiddnheaa.I8 Go.Proofs.Ytgnminoiddnheaa.I9
theorem apart_eq {op d a b op' d' a' b' : Nat} {imm imm' : Int} (h : chk op d a b imm = 0) (h' : chk op' d' a' b' imm' = 0) :
    (((encN op d a b imm : Nat) : Int) == ((encN op' d' a' b' imm' : Nat) : Int)) = eqI op d a b imm op' d' a' b' imm' := by
  rw [Bool.eq_iff_iff]
  unfold eqI
  simp only [beq_iff_eq, Bool.and_eq_true]
  constructor
  · intro e
    have e : encN op d a b imm = encN op' d' a' b' imm' := Int.ofNat.inj e
    obtain ⟨g0, g1, g2, g3, g4⟩ := dec_enc (chk_may h)
    obtain ⟨k0, k1, k2, k3, k4⟩ := dec_enc (chk_may h')
    rw [e] at g0 g1 g2 g3 g4
    exact ⟨congrArg _ (g0.symm.trans k0), congrArg _ (g1.symm.trans k1), congrArg _ (g2.symm.trans k2), congrArg _ (g3.symm.trans k3), g4.symm.trans k4⟩
  · rintro ⟨e0, e1, e2, e3, e4⟩
    have e0 : op = op' := Int.ofNat.inj e0
    have e1 : d = d' := Int.ofNat.inj e1
    have e2 : a = a' := Int.ofNat.inj e2
    have e3 : b = b' := Int.ofNat.inj e3
    rw [e0, e1, e2, e3, e4]
theorem law_apart3 (op d a b : Nat) (imm : Int) (op' d' a' b' : Nat) (imm' : Int) (w : World) (hm : -2147483648 ≤ imm) (hM : imm ≤ 2147483647) (hm' : -2147483648 ≤ imm') (hM' : imm' ≤ 2147483647) (h : chk op d a b imm = 0) (h' : chk op' d' a' b' imm' = 0) :
    Calls Try.prog 7 #[ins op d a b imm, ins op' d' a' b' imm'] w fun e w' => e = .returned (.bool true) ∧ Below w.heap.size w w' := by
  have H1 := Lib.hid (fun W => encode_ok op d a b imm W hm hM h)
  have H2 := Lib.hid (fun W => encode_ok op' d' a' b' imm' W hm' hM' h')
  have hq := apart_eq h h'
  have HE := fun W => eqS W op d a b imm op' d' a' b' imm'
  generalize eqI op d a b imm op' d' a' b' imm' = t at hq HE
  generalize encN op d a b imm = x at H1 hq
  generalize encN op' d' a' b' imm' = y at H2 hq
  clear h h'
  go_enter Try.func7, Try.ntmps7
  go_wp2_with fail
  have kA := (Blk.new w 24 #[.int .u8 (op : Int), .int .u8 (d : Int), .int .u8 (a : Int), .int .u8 (b : Int), .int .i32 imm]).alloc (.cells #[.int .u8 (op' : Int), .int .u8 (d' : Int), .int .u8 (a' : Int), .int .u8 (b' : Int), .int .i32 imm'] 24)
  have kB := Blk.new (w.alloc (.cells #[.int .u8 (op : Int), .int .u8 (d : Int), .int .u8 (a : Int), .int .u8 (b : Int), .int .i32 imm] 24)) 24 #[.int .u8 (op' : Int), .int .u8 (d' : Int), .int .u8 (a' : Int), .int .u8 (b' : Int), .int .i32 imm']
  rw [World.size_alloc] at kB
  refine (H1.out _).mono ?_
  rintro e w1 ⟨rfl, hb1⟩
  have kA := kA.kept hb1
  have kB := kB.kept hb1
  obtain ⟨c0, c1, c2, c3, c4⟩ := kA.five
  obtain ⟨d0, d1, d2, d3, d4⟩ := kB.five
  go_wp2_with fail
  refine (H2.out _).mono ?_
  rintro e w2 ⟨rfl, hb2⟩
  have kA := kA.kept hb2
  have kB := kB.kept hb2
  obtain ⟨c0, c1, c2, c3, c4⟩ := kA.five
  obtain ⟨d0, d1, d2, d3, d4⟩ := kB.five
  go_wp2_with fail
  refine (awake_c _).mono ?_
  rintro e w5 ⟨rfl, hb5⟩
  go_wp2_with fail
  go_ret
  exact ⟨rfl, boxed (boxed (below_then (below_then hb1 hb2) hb5))⟩
theorem law_apart (op d a b : Nat) (imm : Int) (op' d' a' b' : Nat) (imm' : Int) (w : World) (hm : -2147483648 ≤ imm) (hM : imm ≤ 2147483647) (hm' : -2147483648 ≤ imm') (hM' : imm' ≤ 2147483647) :
    Calls Try.prog 7 #[ins op d a b imm, ins op' d' a' b' imm'] w fun e w' => e = .returned (.bool true) ∧ Below w.heap.size w w' := by
  by_cases h : chk op d a b imm = 0
  · by_cases h' : chk op' d' a' b' imm' = 0
    · exact law_apart3 op d a b imm op' d' a' b' imm' w hm hM hm' hM' h h'
    · exact law_apart2 op d a b imm op' d' a' b' imm' w hm hM hm' hM' h h'
  · exact law_apart1 op d a b imm op' d' a' b' imm' w hm hM hm' hM' h
theorem dec_lit {x : Nat} {v : Int} (w : World) (hx : x < 4294967296) (e : (x : Int) = v) : Calls Try.prog 23 #[.int .u32 v] w fun e w' => e = .returned (.tuple #[ins (zo x) (zd x) (za x) (zb x) (zi x), .int .i64 (zc x)]) ∧ Below w.heap.size w w' := e ▸ decode_c x w hx
theorem dec_of_enc {op d a b : Nat} {imm : Int} (w : World) (h : chk op d a b imm = 0) : Calls Try.prog 23 #[.int .u32 ((encN op d a b imm : Nat) : Int)] w fun e w' => e = .returned (.tuple #[ins op d a b imm, .int .i64 0]) ∧ Below w.heap.size w w' := by
  have g := decode_c (encN op d a b imm) w (encN_lt (chk_may h))
  obtain ⟨e0, e1, e2, e3, e4, e5⟩ := zo_enc h
  rwa [e0, e1, e2, e3, e4, e5] at g
theorem dec_ok {x : Nat} (w : World) (hx : x < 4294967296) (h : okD x) : Calls Try.prog 23 #[.int .u32 (x : Int)] w fun e w' => e = .returned (.tuple #[ins (dOp x) (dD x) (dA x) (dB x) (dI x), .int .i64 0]) ∧ Below w.heap.size w w' := by
  have g := decode_c x w hx
  unfold zo zd za zb zi zc at g
  simpa only [h, if_true] using g
theorem dec_no {x : Nat} (w : World) (hx : x < 4294967296) (h : ¬ okD x) : Calls Try.prog 23 #[.int .u32 (x : Int)] w fun e w' => e = .returned (.tuple #[.agg #[.int .u8 0, .int .u8 0, .int .u8 0, .int .u8 0, .int .i32 0], .int .i64 10]) ∧ Below w.heap.size w w' := by
  have g := decode_c x w hx
  unfold zo zd za zb zi zc at g
  simp only [h, if_false] at g
  exact g
theorem enc_of_dec {x : Nat} (w : World) (h : okD x) : Calls Try.prog 21 #[ins (dOp x) (dD x) (dA x) (dB x) (dI x)] w fun e w' => e = .returned (.tuple #[.int .u32 (x : Int), .int .i64 0]) ∧ Below w.heap.size w w' := by
  have hr := (okD_may h).range
  have g := encode_ok (dOp x) (dD x) (dA x) (dB x) (dI x) w (by omega) (by omega) h.1
  rwa [h.2] at g
theorem enc_zero (w : World) : Calls Try.prog 21 #[.agg #[.int .u8 0, .int .u8 0, .int .u8 0, .int .u8 0, .int .i32 0]] w fun e w' => e = .returned (.tuple #[.int .u32 0, .int .i64 0]) ∧ Below w.heap.size w w' := by
  have h := encode_ok 0 0 0 0 0 w (by decide) (by decide) (by decide)
  rw [show encN 0 0 0 0 0 = 0 from by decide] at h
  exact h
theorem law_back_00 (op d a b : Nat) (imm : Int) (x : Nat) (w : World) (hm : -2147483648 ≤ imm) (hM : imm ≤ 2147483647) (hx : x < 4294967296) (h : chk op d a b imm = 0) (hk : okD x) :
    Calls Try.prog 6 #[ins op d a b imm, .int .u32 (x : Int)] w fun e w' => e = .returned (.bool true) ∧ Below w.heap.size w w' := by
  have H1 := Lib.hid (fun W => encode_ok op d a b imm W hm hM h)
  have H2 := Lib.hid (fun W => dec_of_enc (op := op) (d := d) (a := a) (b := b) (imm := imm) W h)
  generalize encN op d a b imm = y at H1 H2
  clear h
  have H4 := Lib.hid (fun W => dec_ok (x := x) W hx hk)
  have H5 := Lib.hid (fun W => enc_of_dec (x := x) W hk)
  generalize dOp x = o at H4 H5
  generalize dD x = e1 at H4 H5
  generalize dA x = e2 at H4 H5
  generalize dB x = e3 at H4 H5
  generalize dI x = i at H4 H5
  clear hk
  go_enter Try.func6, Try.ntmps6
  go_wp2_with fail
  have kA := Blk.new w 24 #[.int .u8 (op : Int), .int .u8 (d : Int), .int .u8 (a : Int), .int .u8 (b : Int), .int .i32 imm]
  refine (H1.out _).mono ?_
  rintro e w1 ⟨rfl, hb1⟩
  have kA := kA.kept hb1
  go_wp2_with fail
  refine (H2.out _).mono ?_
  rintro e w2 ⟨rfl, hb2⟩
  have kA := (kA.kept hb2).alloc (.cells #[.int .u8 (op : Int), .int .u8 (d : Int), .int .u8 (a : Int), .int .u8 (b : Int), .int .i32 imm] 24)
  obtain ⟨c0, c1, c2, c3, c4⟩ := kA.five
  go_wp2_with fail
  have hb3 := Below.refl (w2.alloc (.cells #[.int .u8 (op : Int), .int .u8 (d : Int), .int .u8 (a : Int), .int .u8 (b : Int), .int .i32 imm] 24)).heap.size (w2.alloc (.cells #[.int .u8 (op : Int), .int .u8 (d : Int), .int .u8 (a : Int), .int .u8 (b : Int), .int .i32 imm] 24))
  refine (H4.out _).mono ?_
  rintro e w4 ⟨rfl, hb4⟩
  have kB := Blk.new w4 24 #[.int .u8 (o : Int), .int .u8 (e1 : Int), .int .u8 (e2 : Int), .int .u8 (e3 : Int), .int .i32 i]
  obtain ⟨d0, d1, d2, d3, d4⟩ := kB.five
  go_wp2_with fail
  refine (H5.out _).mono ?_
  rintro e w5 ⟨rfl, hb5⟩
  have kB := kB.kept hb5
  obtain ⟨d0, d1, d2, d3, d4⟩ := kB.five
  go_wp2_with fail
  refine (awake_c _).mono ?_
  rintro e w6 ⟨rfl, hb6⟩
  go_wp2_with fail
  go_ret
  exact ⟨rfl, boxed (below_then (below_then hb1 hb2) (boxed (below_then (below_then hb3 hb4) (boxed (below_then hb5 hb6)))))⟩
theorem law_back_01 (op d a b : Nat) (imm : Int) (x : Nat) (w : World) (hm : -2147483648 ≤ imm) (hM : imm ≤ 2147483647) (hx : x < 4294967296) (h : chk op d a b imm = 0) (hk : ¬ okD x) :
    Calls Try.prog 6 #[ins op d a b imm, .int .u32 (x : Int)] w fun e w' => e = .returned (.bool true) ∧ Below w.heap.size w w' := by
  have H1 := Lib.hid (fun W => encode_ok op d a b imm W hm hM h)
  have H2 := Lib.hid (fun W => dec_of_enc (op := op) (d := d) (a := a) (b := b) (imm := imm) W h)
  generalize encN op d a b imm = y at H1 H2
  clear h
  have H4 := Lib.hid (fun W => dec_no (x := x) W hx hk)
  have H5 := Lib.hid (fun W => enc_zero W)
  clear hk
  go_enter Try.func6, Try.ntmps6
  go_wp2_with fail
  have kA := Blk.new w 24 #[.int .u8 (op : Int), .int .u8 (d : Int), .int .u8 (a : Int), .int .u8 (b : Int), .int .i32 imm]
  refine (H1.out _).mono ?_
  rintro e w1 ⟨rfl, hb1⟩
  have kA := kA.kept hb1
  go_wp2_with fail
  refine (H2.out _).mono ?_
  rintro e w2 ⟨rfl, hb2⟩
  have kA := (kA.kept hb2).alloc (.cells #[.int .u8 (op : Int), .int .u8 (d : Int), .int .u8 (a : Int), .int .u8 (b : Int), .int .i32 imm] 24)
  obtain ⟨c0, c1, c2, c3, c4⟩ := kA.five
  go_wp2_with fail
  have hb3 := Below.refl (w2.alloc (.cells #[.int .u8 (op : Int), .int .u8 (d : Int), .int .u8 (a : Int), .int .u8 (b : Int), .int .i32 imm] 24)).heap.size (w2.alloc (.cells #[.int .u8 (op : Int), .int .u8 (d : Int), .int .u8 (a : Int), .int .u8 (b : Int), .int .i32 imm] 24))
  refine (H4.out _).mono ?_
  rintro e w4 ⟨rfl, hb4⟩
  have kB := Blk.new w4 24 #[.int .u8 0, .int .u8 0, .int .u8 0, .int .u8 0, .int .i32 0]
  obtain ⟨d0, d1, d2, d3, d4⟩ := kB.five
  go_wp2_with fail
  refine (H5.out _).mono ?_
  rintro e w5 ⟨rfl, hb5⟩
  have kB := kB.kept hb5
  obtain ⟨d0, d1, d2, d3, d4⟩ := kB.five
  go_wp2_with fail
  refine (awake_c _).mono ?_
  rintro e w6 ⟨rfl, hb6⟩
  go_wp2_with fail
  go_ret
  exact ⟨rfl, boxed (below_then (below_then hb1 hb2) (boxed (below_then (below_then hb3 hb4) (boxed (below_then hb5 hb6)))))⟩
theorem law_back_10 (op d a b : Nat) (imm : Int) (x : Nat) (w : World) (hm : -2147483648 ≤ imm) (hM : imm ≤ 2147483647) (hx : x < 4294967296) (h : chk op d a b imm ≠ 0) (hk : okD x) :
    Calls Try.prog 6 #[ins op d a b imm, .int .u32 (x : Int)] w fun e w' => e = .returned (.bool true) ∧ Below w.heap.size w w' := by
  have H1 := Lib.hid (fun W => encode_no op d a b imm W hm hM h)
  have H2 := Lib.hid (fun W => dec_lit (x := 0) (v := 0) W (by decide) rfl)
  have H3 := Lib.hid (fun W => check_c op d a b imm W hm hM)
  generalize zo 0 = q0 at H2
  generalize zd 0 = q1 at H2
  generalize za 0 = q2 at H2
  generalize zb 0 = q3 at H2
  generalize zi 0 = q4 at H2
  generalize zc 0 = q5 at H2
  generalize chk op d a b imm = c at h H1 H3
  have hq : (c != 0) = true := by rw [bne_iff_ne]; exact h
  have hq2 : (c == 0) = false := by rw [beq_eq_false_iff_ne]; exact h
  clear h
  have H4 := Lib.hid (fun W => dec_ok (x := x) W hx hk)
  have H5 := Lib.hid (fun W => enc_of_dec (x := x) W hk)
  generalize dOp x = o at H4 H5
  generalize dD x = e1 at H4 H5
  generalize dA x = e2 at H4 H5
  generalize dB x = e3 at H4 H5
  generalize dI x = i at H4 H5
  clear hk
  go_enter Try.func6, Try.ntmps6
  go_wp2_with fail
  have kA := Blk.new w 24 #[.int .u8 (op : Int), .int .u8 (d : Int), .int .u8 (a : Int), .int .u8 (b : Int), .int .i32 imm]
  refine (H1.out _).mono ?_
  rintro e w1 ⟨rfl, hb1⟩
  have kA := kA.kept hb1
  go_wp2_with fail
  refine (H2.out _).mono ?_
  rintro e w2 ⟨rfl, hb2⟩
  have kA := (kA.kept hb2).alloc (.cells #[.int .u8 (q0 : Int), .int .u8 (q1 : Int), .int .u8 (q2 : Int), .int .u8 (q3 : Int), .int .i32 q4] 24)
  obtain ⟨c0, c1, c2, c3, c4⟩ := kA.five
  go_wp2_with fail
  refine (H3.out _).mono ?_
  rintro e w3 ⟨rfl, hb3⟩
  go_wp2_with fail
  refine (H4.out _).mono ?_
  rintro e w4 ⟨rfl, hb4⟩
  have kB := Blk.new w4 24 #[.int .u8 (o : Int), .int .u8 (e1 : Int), .int .u8 (e2 : Int), .int .u8 (e3 : Int), .int .i32 i]
  obtain ⟨d0, d1, d2, d3, d4⟩ := kB.five
  go_wp2_with fail
  refine (H5.out _).mono ?_
  rintro e w5 ⟨rfl, hb5⟩
  have kB := kB.kept hb5
  obtain ⟨d0, d1, d2, d3, d4⟩ := kB.five
  go_wp2_with fail
  refine (awake_c _).mono ?_
  rintro e w6 ⟨rfl, hb6⟩
  go_wp2_with fail
  go_ret
  exact ⟨rfl, boxed (below_then (below_then hb1 hb2) (boxed (below_then (below_then hb3 hb4) (boxed (below_then hb5 hb6)))))⟩
theorem law_back_11 (op d a b : Nat) (imm : Int) (x : Nat) (w : World) (hm : -2147483648 ≤ imm) (hM : imm ≤ 2147483647) (hx : x < 4294967296) (h : chk op d a b imm ≠ 0) (hk : ¬ okD x) :
    Calls Try.prog 6 #[ins op d a b imm, .int .u32 (x : Int)] w fun e w' => e = .returned (.bool true) ∧ Below w.heap.size w w' := by
  have H1 := Lib.hid (fun W => encode_no op d a b imm W hm hM h)
  have H2 := Lib.hid (fun W => dec_lit (x := 0) (v := 0) W (by decide) rfl)
  have H3 := Lib.hid (fun W => check_c op d a b imm W hm hM)
  generalize zo 0 = q0 at H2
  generalize zd 0 = q1 at H2
  generalize za 0 = q2 at H2
  generalize zb 0 = q3 at H2
  generalize zi 0 = q4 at H2
  generalize zc 0 = q5 at H2
  generalize chk op d a b imm = c at h H1 H3
  have hq : (c != 0) = true := by rw [bne_iff_ne]; exact h
  have hq2 : (c == 0) = false := by rw [beq_eq_false_iff_ne]; exact h
  clear h
  have H4 := Lib.hid (fun W => dec_no (x := x) W hx hk)
  have H5 := Lib.hid (fun W => enc_zero W)
  clear hk
  go_enter Try.func6, Try.ntmps6
  go_wp2_with fail
  have kA := Blk.new w 24 #[.int .u8 (op : Int), .int .u8 (d : Int), .int .u8 (a : Int), .int .u8 (b : Int), .int .i32 imm]
  refine (H1.out _).mono ?_
  rintro e w1 ⟨rfl, hb1⟩
  have kA := kA.kept hb1
  go_wp2_with fail
  refine (H2.out _).mono ?_
  rintro e w2 ⟨rfl, hb2⟩
  have kA := (kA.kept hb2).alloc (.cells #[.int .u8 (q0 : Int), .int .u8 (q1 : Int), .int .u8 (q2 : Int), .int .u8 (q3 : Int), .int .i32 q4] 24)
  obtain ⟨c0, c1, c2, c3, c4⟩ := kA.five
  go_wp2_with fail
  refine (H3.out _).mono ?_
  rintro e w3 ⟨rfl, hb3⟩
  go_wp2_with fail
  refine (H4.out _).mono ?_
  rintro e w4 ⟨rfl, hb4⟩
  have kB := Blk.new w4 24 #[.int .u8 0, .int .u8 0, .int .u8 0, .int .u8 0, .int .i32 0]
  obtain ⟨d0, d1, d2, d3, d4⟩ := kB.five
  go_wp2_with fail
  refine (H5.out _).mono ?_
  rintro e w5 ⟨rfl, hb5⟩
  have kB := kB.kept hb5
  obtain ⟨d0, d1, d2, d3, d4⟩ := kB.five
  go_wp2_with fail
  refine (awake_c _).mono ?_
  rintro e w6 ⟨rfl, hb6⟩
  go_wp2_with fail
  go_ret
  exact ⟨rfl, boxed (below_then (below_then hb1 hb2) (boxed (below_then (below_then hb3 hb4) (boxed (below_then hb5 hb6)))))⟩
theorem law_back (op d a b : Nat) (imm : Int) (x : Nat) (w : World) (hm : -2147483648 ≤ imm) (hM : imm ≤ 2147483647) (hx : x < 4294967296) :
    Calls Try.prog 6 #[ins op d a b imm, .int .u32 (x : Int)] w fun e w' => e = .returned (.bool true) ∧ Below w.heap.size w w' := by
  by_cases h : chk op d a b imm = 0
  · by_cases hk : okD x
    · exact law_back_00 op d a b imm x w hm hM hx h hk
    · exact law_back_01 op d a b imm x w hm hM hx h hk
  · by_cases hk : okD x
    · exact law_back_10 op d a b imm x w hm hM hx h hk
    · exact law_back_11 op d a b imm x w hm hM hx h hk
end Go.Proofs.Ytgnminoiddnheaa.B1
