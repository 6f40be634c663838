/- The walks of the laws of layer 4, out of contracts. Conditions: the bounds of the fields' kinds. -/
import Derived.Test.YtgnminoiddnheaaIsa8
import Derived.Test.YtgnminoiddnheaaIsa9
import Derived.Laws.StructEq
import Derived.ChangeKeysEq
namespace Go.Proofs.Ytgnminoiddnheaa.B1
set_option linter.unusedVariables false
open Go.RowKit Go.Proofs.Ytgnminoiddnheaa.WM Go.Proofs.Ytgnminoiddnheaa.IM Go.Proofs.Ytgnminoiddnheaa.W1 Go.Proofs.Ytgnminoiddnheaa.I1 Go.Proofs.Ytgnminoiddnheaa.I2 Go.Proofs.Ytgnminoiddnheaa.I6 Go.Proofs.Ytgnminoiddnheaa.I7 Go.Proofs.Ytgnminoiddnheaa.I8 Go.Proofs.Ytgnminoiddnheaa.I9
theorem aw_enc (w : World) : Calls Try.prog 21 #[.agg #[.int .u8 2, .int .u8 1, .int .u8 0, .int .u8 0, .int .i32 (-1)]] w fun e w' => e = .returned (.tuple #[.int .u32 287309823, .int .i64 0]) ∧ Below w.heap.size w w' := by
  have h := encode_ok 2 1 0 0 (-1) w (by decide) (by decide) (by decide)
  rw [show encN 2 1 0 0 (-1) = 287309823 from by decide] at h
  exact h
theorem aw_dec (w : World) : Calls Try.prog 23 #[.int .u32 4294967295] w fun e w' => e = .returned (.tuple #[.agg #[.int .u8 0, .int .u8 0, .int .u8 0, .int .u8 0, .int .i32 0], .int .i64 10]) ∧ Below w.heap.size w w' := by
  have h := decode_go 4294967295 31 7 7 0 (-1) w (by decide) (by decide) (by decide) (by decide) (by decide) (by decide) false (by decide) 10 (by decide) 0 (by decide) true true (by decide) (by decide)
  exact h
theorem awake_c (w : World) : Calls Try.prog 20 #[] w fun e w' => e = .returned (.bool true) ∧ Below w.heap.size w w' := by
  go_enter Try.func20, Try.ntmps20
  go_wp2_with fail
  refine (aw_enc _).mono ?_
  rintro e w1 ⟨rfl, hb1⟩
  go_wp2_with fail
  refine (aw_dec _).mono ?_
  rintro e w2 ⟨rfl, hb2⟩
  go_wp2_with fail
  go_ret
  exact ⟨rfl, ((below_then hb1 hb2).alloc (Below.size (below_then hb1 hb2)) _)⟩
instance (x : Nat) : Decidable (okD x) := by unfold okD; exact inferInstance
def zo (x : Nat) : Nat := if okD x then dOp x else 0
def zd (x : Nat) : Nat := if okD x then dD x else 0
def za (x : Nat) : Nat := if okD x then dA x else 0
def zb (x : Nat) : Nat := if okD x then dB x else 0
def zi (x : Nat) : Int := if okD x then dI x else 0
def zc (x : Nat) : Int := if okD x then 0 else 10
theorem ok_tests {x : Nat} (h : okD x) : (chk (dOp x) (dD x) (dA x) (dB x) (dI x) != 0) = false ∧ (((encV (dOp x) (dD x) (dA x) (dB x) (dI x) : Nat) : Int) != (x : Int)) = false := by
  unfold okD at h
  unfold encV
  rw [if_pos h.1, h.1, h.2]
  simp
theorem no_tests {x : Nat} (h : ¬ okD x) : ((chk (dOp x) (dD x) (dA x) (dB x) (dI x) != 0) || (((encV (dOp x) (dD x) (dA x) (dB x) (dI x) : Nat) : Int) != (x : Int))) = true := by
  unfold okD at h
  by_cases hc : chk (dOp x) (dD x) (dA x) (dB x) (dI x) = 0
  · unfold encV
    rw [if_pos hc]
    have : encN (dOp x) (dD x) (dA x) (dB x) (dI x) ≠ x := fun e => h ⟨hc, e⟩
    simp; right; omega
  · simp [hc]
theorem decode_c (x : Nat) (w : World) (hx : x < 4294967296) : Calls Try.prog 23 #[.int .u32 (x : Int)] w fun e w' => e = .returned (.tuple #[ins (zo x) (zd x) (za x) (zb x) (zi x), .int .i64 (zc x)]) ∧ Below w.heap.size w w' := by
  have h := decode_go x _ _ _ _ _ w hx rfl rfl rfl rfl rfl _ rfl _ rfl _ rfl _ _ rfl rfl
  refine h.mono ?_
  rintro e w' ⟨h1, h2⟩
  refine ⟨?_, h2⟩
  by_cases ho : okD x
  · obtain ⟨e1, e2⟩ := ok_tests ho
    rw [e1, e2] at h1
    unfold zo zd za zb zi zc
    simpa [ho, ins] using h1
  · rw [no_tests ho] at h1
    unfold zo zd za zb zi zc
    simpa [ho, ins] using h1
theorem rdecode_c (x : Nat) (w : World) (hx : x < 4294967296) : Calls Try.prog 24 #[.int .u32 (x : Int)] w fun e w' => e = .returned (.tuple #[ins (zo x) (zd x) (za x) (zb x) (zi x), .int .i64 (zc x)]) ∧ Below w.heap.size w w' := by
  have h := rdecode_go x _ _ _ _ _ w hx rfl rfl rfl rfl rfl _ rfl _ rfl _ rfl _ _ rfl rfl
  refine h.mono ?_
  rintro e w' ⟨h1, h2⟩
  refine ⟨?_, h2⟩
  by_cases ho : okD x
  · obtain ⟨e1, e2⟩ := ok_tests ho
    rw [e1, e2] at h1
    unfold zo zd za zb zi zc
    simpa [ho, ins] using h1
  · rw [no_tests ho] at h1
    unfold zo zd za zb zi zc
    simpa [ho, ins] using h1
theorem law_encodes (op d a b : Nat) (imm : Int) (w : World) (hm : -2147483648 ≤ imm) (hM : imm ≤ 2147483647) :
    Calls Try.prog 4 #[ins op d a b imm] w fun e w' => e = .returned (.bool true) ∧ Below w.heap.size w w' := by
  have H1 := Lib.hid (fun W => encode_c op d a b imm W hm hM)
  have H2 := Lib.hid (fun W => rencode_c op d a b imm W hm hM)
  generalize encV op d a b imm = x at H1 H2
  generalize chk op d a b imm = c at H1 H2
  go_enter Try.func4, Try.ntmps4
  go_wp2_with fail
  have kR := Blk.new w 24 #[.int .u8 (op : Int), .int .u8 (d : Int), .int .u8 (a : Int), .int .u8 (b : Int), .int .i32 imm]
  refine (H1.out _).mono ?_
  rintro e w1 ⟨rfl, hb1⟩
  have kR := kR.kept hb1
  obtain ⟨c0, c1, c2, c3, c4⟩ := kR.five
  go_wp2_with fail
  refine (H2.out _).mono ?_
  rintro e w2 ⟨rfl, hb2⟩
  go_wp2_with fail
  refine (awake_c _).mono ?_
  rintro e w3 ⟨rfl, hb3⟩
  go_wp2_with fail
  go_ret
  refine ⟨rfl, ?_⟩
  exact boxed (below_then (below_then hb1 hb2) hb3)
theorem law_targets (x op d a b : Nat) (imm : Int) (w : World) (hm : -2147483648 ≤ imm) (hM : imm ≤ 2147483647) :
    Calls Try.prog 8 #[.int .u32 (x : Int), ins op d a b imm] w fun e w' => e = .returned (.bool true) ∧ Below w.heap.size w w' := by
  have H1 := Lib.hid (fun W => target x op d a b imm W hm hM)
  have H2 := Lib.hid (fun W => rtarget x op d a b imm W hm hM)
  generalize tgt x op d a b imm = t at H1 H2
  generalize tgtB op d a b imm = c at H1 H2
  go_enter Try.func8, Try.ntmps8
  go_wp2_with fail
  have kR := Blk.new w 24 #[.int .u8 (op : Int), .int .u8 (d : Int), .int .u8 (a : Int), .int .u8 (b : Int), .int .i32 imm]
  refine (H1.out _).mono ?_
  rintro e w1 ⟨rfl, hb1⟩
  have kR := kR.kept hb1
  obtain ⟨c0, c1, c2, c3, c4⟩ := kR.five
  go_wp2_with fail
  refine (H2.out _).mono ?_
  rintro e w2 ⟨rfl, hb2⟩
  go_wp2_with fail
  refine (awake_c _).mono ?_
  rintro e w3 ⟨rfl, hb3⟩
  go_wp2_with fail
  go_ret
  refine ⟨rfl, ?_⟩
  exact boxed (below_then (below_then hb1 hb2) hb3)
theorem keep5 {w w' : World} {g : Nat} {v0 v1 v2 v3 v4 : Value} (hb : Below w.heap.size w w') (c0 : w.cell? ⟨g, 0, none⟩ = some v0) (c1 : w.cell? ⟨g, 1, none⟩ = some v1) (c2 : w.cell? ⟨g, 2, none⟩ = some v2) (c3 : w.cell? ⟨g, 3, none⟩ = some v3) (c4 : w.cell? ⟨g, 4, none⟩ = some v4) :
    w'.cell? ⟨g, 0, none⟩ = some v0 ∧ w'.cell? ⟨g, 1, none⟩ = some v1 ∧ w'.cell? ⟨g, 2, none⟩ = some v2 ∧ w'.cell? ⟨g, 3, none⟩ = some v3 ∧ w'.cell? ⟨g, 4, none⟩ = some v4 :=
  ⟨kept_cell hb c0, kept_cell hb c1, kept_cell hb c2, kept_cell hb c3, kept_cell hb c4⟩
theorem keep5c {w w' : World} {g : Nat} {v0 v1 v2 v3 v4 : Value} (hb : Below w.heap.size w w') (c : w.cell? ⟨g, 0, none⟩ = some v0 ∧ w.cell? ⟨g, 1, none⟩ = some v1 ∧ w.cell? ⟨g, 2, none⟩ = some v2 ∧ w.cell? ⟨g, 3, none⟩ = some v3 ∧ w.cell? ⟨g, 4, none⟩ = some v4) :
    w'.cell? ⟨g, 0, none⟩ = some v0 ∧ w'.cell? ⟨g, 1, none⟩ = some v1 ∧ w'.cell? ⟨g, 2, none⟩ = some v2 ∧ w'.cell? ⟨g, 3, none⟩ = some v3 ∧ w'.cell? ⟨g, 4, none⟩ = some v4 :=
  keep5 hb c.1 c.2.1 c.2.2.1 c.2.2.2.1 c.2.2.2.2
theorem keep5f {w w' : World} {v0 v1 v2 v3 v4 : Value} {t N : Nat} (hb : Below ((w.alloc (.cells #[v0, v1, v2, v3, v4] t)).drewN N).heap.size ((w.alloc (.cells #[v0, v1, v2, v3, v4] t)).drewN N) w') :
    w'.cell? ⟨w.heap.size, 0, none⟩ = some v0 ∧ w'.cell? ⟨w.heap.size, 1, none⟩ = some v1 ∧ w'.cell? ⟨w.heap.size, 2, none⟩ = some v2 ∧ w'.cell? ⟨w.heap.size, 3, none⟩ = some v3 ∧ w'.cell? ⟨w.heap.size, 4, none⟩ = some v4 :=
  keep5c hb ((Blk.new w t #[v0, v1, v2, v3, v4]).drewN N).five
theorem below_of_alloc {w w' : World} {o : Obj} (h : w.alloc o = w') : Below w.heap.size w w' := h ▸ (Below.refl _ _).alloc (Nat.le_refl _) _
theorem law_decodes (x : Nat) (w : World) (hx : x < 4294967296) :
    Calls Try.prog 5 #[.int .u32 (x : Int)] w fun e w' => e = .returned (.bool true) ∧ Below w.heap.size w w' := by
  have H1 := Lib.hid (fun W => decode_c x W hx)
  have H2 := Lib.hid (fun W => rdecode_c x W hx)
  generalize zo x = o at H1 H2
  generalize zd x = d at H1 H2
  generalize za x = a at H1 H2
  generalize zb x = b at H1 H2
  generalize zi x = i at H1 H2
  generalize zc x = c at H1 H2
  go_enter Try.func5, Try.ntmps5
  go_wp2_with fail
  refine (H1.out _).mono ?_
  rintro e w1 ⟨rfl, hb1⟩
  go_wp2_with fail
  refine (H2.out _).mono ?_
  rintro e w2 ⟨rfl, hb2⟩
  have kI := Blk.new w1 24 #[.int .u8 (o : Int), .int .u8 (d : Int), .int .u8 (a : Int), .int .u8 (b : Int), .int .i32 i]
  have kI := kI.kept hb2
  obtain ⟨c0, c1, c2, c3, c4⟩ := (kI.alloc (.cells #[.int .u8 (o : Int), .int .u8 (d : Int), .int .u8 (a : Int), .int .u8 (b : Int), .int .i32 i] 24)).five
  go_wp2_with fail
  refine (awake_c _).mono ?_
  rintro e w3 ⟨rfl, hb3⟩
  go_wp2_with fail
  go_ret
  refine ⟨rfl, ?_⟩
  exact below_then (below_then hb1 (boxed hb2)) (boxed hb3)
theorem eq4 (w : World) (x0 x1 x2 x3 : Bool) : (Op.equalIn 10000 27 (.agg #[.bool x0, .bool x1, .bool x2, .bool x3]) (.agg #[.bool x0, .bool x1, .bool x2, .bool x3])).run Try.prog w = .ok true w := by
  obtain ⟨i, hi⟩ : ∃ i, Try.prog.info? 4 = some i := Option.isSome_iff_exists.1 (by kernel_rfl)
  have hc : Try.prog.cellsOf 4 = 1 := by kernel_rfl
  rw [show (10000 : Nat) = 9999 + 1 from rfl, run_equalIn_array w 9999 _ _ Try.underlying27 hi, hc]
  simp [Op.eqItems, List.range, List.range.loop, go_sem, Try.underlying4]
theorem law_uses (op d a b : Nat) (imm : Int) (w : World) (hm : -2147483648 ≤ imm) (hM : imm ≤ 2147483647) :
    Calls Try.prog 3 #[ins op d a b imm] w fun e w' => e = .returned (.bool true) ∧ Below w.heap.size w w' := by
  have H1 := Lib.hid (fun W => uses_c op W)
  have H2 := Lib.hid (fun W => ruses_c op W)
  have H3 := Lib.hid (fun W => check_c op d a b imm W hm hM)
  have H4 := Lib.hid (fun W => rcheck_c op d a b imm W hm hM)
  generalize ud op = x0 at H1 H2
  generalize ua op = x1 at H1 H2
  generalize ub op = x2 at H1 H2
  generalize ui op = x3 at H1 H2
  generalize chk op d a b imm = c at H3 H4
  go_enter Try.func3, Try.ntmps3
  go_wp2_with fail
  refine (H1.out _).mono ?_
  rintro e w1 ⟨rfl, ⟨n1, rfl⟩⟩
  go_wp2_with fail
  have HE := fun W => eq4 W x0 x1 x2 x3
  go_region_held3 (fun w' => w'.cell? ⟨w.heap.size, 0, none⟩ = some (.int .u8 (op : Int)) ∧ w'.cell? ⟨w.heap.size, 1, none⟩ = some (.int .u8 (d : Int)) ∧ w'.cell? ⟨w.heap.size, 2, none⟩ = some (.int .u8 (a : Int)) ∧ w'.cell? ⟨w.heap.size, 3, none⟩ = some (.int .u8 (b : Int)) ∧ w'.cell? ⟨w.heap.size, 4, none⟩ = some (.int .i32 imm)) (first | go_keep | (apply keep5f; assumption) | (apply keep5c; assumption; assumption)) ((first | (go_at_call 17; (with_reducible refine (H2.out _).mono ?_); rintro e w' ⟨rfl, hal⟩; have hb0 := below_of_alloc hal) | (go_at_call 18; (with_reducible refine (H3.out _).mono ?_); rintro e w' ⟨rfl, hb1⟩) | (go_at_call 19; (with_reducible refine (H4.out _).mono ?_); rintro e w' ⟨rfl, hb2⟩) | (go_at_call 20; (with_reducible refine (awake_c _).mono ?_); rintro e w' ⟨rfl, hb3⟩)))
  go_wp2
  go_ret
  exact ⟨rfl, below_then (below_then (below_then (below_then (below_drewN ((Below.refl _ _).alloc (Nat.le_refl _) _) _) hb0) hb1) hb2) hb3⟩
theorem zeros_may : May 0 0 0 0 0 := chk_may (by decide)
theorem zo_enc {op d a b : Nat} {imm : Int} (h : chk op d a b imm = 0) : zo (encN op d a b imm) = op ∧ zd (encN op d a b imm) = d ∧ za (encN op d a b imm) = a ∧ zb (encN op d a b imm) = b ∧ zi (encN op d a b imm) = imm ∧ zc (encN op d a b imm) = 0 := by
  have hm := chk_may h
  obtain ⟨e0, e1, e2, e3, e4⟩ := dec_enc hm
  have ok := ok_enc hm
  unfold zo zd za zb zi zc
  simp only [ok, if_true, e0, e1, e2, e3, e4, and_self]
theorem law_apart1 (op d a b : Nat) (imm : Int) (op' d' a' b' : Nat) (imm' : Int) (w : World) (hm : -2147483648 ≤ imm) (hM : imm ≤ 2147483647) (hm' : -2147483648 ≤ imm') (hM' : imm' ≤ 2147483647) (h : chk op d a b imm ≠ 0) :
    Calls Try.prog 7 #[ins op d a b imm, ins op' d' a' b' imm'] w fun e w' => e = .returned (.bool true) ∧ Below w.heap.size w w' := by
  have H1 := Lib.hid (fun W => encode_c op d a b imm W hm hM)
  have H2 := Lib.hid (fun W => encode_c op' d' a' b' imm' W hm' hM')
  have H3 := Lib.hid (fun W => check_c op d a b imm W hm hM)
  have H4 := Lib.hid (fun W => check_c op' d' a' b' imm' W hm' hM')
  generalize encV op d a b imm = x at H1
  generalize encV op' d' a' b' imm' = y at H2
  generalize chk op d a b imm = c at h H1 H3
  generalize chk op' d' a' b' imm' = c' at H2 H4
  have hq : (c != 0) = true := by rw [bne_iff_ne]; exact h
  clear h
  go_enter Try.func7, Try.ntmps7
  go_wp2_with fail
  have kA := (Blk.new w 24 #[.int .u8 (op : Int), .int .u8 (d : Int), .int .u8 (a : Int), .int .u8 (b : Int), .int .i32 imm]).alloc (.cells #[.int .u8 (op' : Int), .int .u8 (d' : Int), .int .u8 (a' : Int), .int .u8 (b' : Int), .int .i32 imm'] 24)
  have kB := Blk.new (w.alloc (.cells #[.int .u8 (op : Int), .int .u8 (d : Int), .int .u8 (a : Int), .int .u8 (b : Int), .int .i32 imm] 24)) 24 #[.int .u8 (op' : Int), .int .u8 (d' : Int), .int .u8 (a' : Int), .int .u8 (b' : Int), .int .i32 imm']
  rw [World.size_alloc] at kB
  refine (H1.out _).mono ?_
  rintro e w1 ⟨rfl, hb1⟩
  have kA := kA.kept hb1
  have kB := kB.kept hb1
  obtain ⟨c0, c1, c2, c3, c4⟩ := kA.five
  obtain ⟨d0, d1, d2, d3, d4⟩ := kB.five
  go_wp2_with fail
  refine (H2.out _).mono ?_
  rintro e w2 ⟨rfl, hb2⟩
  have kA := kA.kept hb2
  have kB := kB.kept hb2
  obtain ⟨c0, c1, c2, c3, c4⟩ := kA.five
  obtain ⟨d0, d1, d2, d3, d4⟩ := kB.five
  go_wp2_with fail
  refine (H3.out _).mono ?_
  rintro e w3 ⟨rfl, hb3⟩
  have kA := kA.kept hb3
  have kB := kB.kept hb3
  obtain ⟨c0, c1, c2, c3, c4⟩ := kA.five
  obtain ⟨d0, d1, d2, d3, d4⟩ := kB.five
  go_wp2_with fail
  refine (H4.out _).mono ?_
  rintro e w4 ⟨rfl, hb4⟩
  go_wp2_with fail
  refine (awake_c _).mono ?_
  rintro e w5 ⟨rfl, hb5⟩
  go_wp2_with fail
  go_ret
  exact ⟨rfl, boxed (boxed (below_then (below_then (below_then (below_then hb1 hb2) hb3) hb4) hb5))⟩
theorem law_apart2 (op d a b : Nat) (imm : Int) (op' d' a' b' : Nat) (imm' : Int) (w : World) (hm : -2147483648 ≤ imm) (hM : imm ≤ 2147483647) (hm' : -2147483648 ≤ imm') (hM' : imm' ≤ 2147483647) (h : chk op d a b imm = 0) (h' : chk op' d' a' b' imm' ≠ 0) :
    Calls Try.prog 7 #[ins op d a b imm, ins op' d' a' b' imm'] w fun e w' => e = .returned (.bool true) ∧ Below w.heap.size w w' := by
  have H1 := Lib.hid (fun W => encode_c op d a b imm W hm hM)
  have H2 := Lib.hid (fun W => encode_c op' d' a' b' imm' W hm' hM')
  have H3 := Lib.hid (fun W => check_c op d a b imm W hm hM)
  have H4 := Lib.hid (fun W => check_c op' d' a' b' imm' W hm' hM')
  generalize encV op d a b imm = x at H1
  generalize encV op' d' a' b' imm' = y at H2
  rw [h] at H1 H3
  generalize chk op' d' a' b' imm' = c' at h' H2 H4
  have hq : (c' != 0) = true := by rw [bne_iff_ne]; exact h'
  clear h h'
  go_enter Try.func7, Try.ntmps7
  go_wp2_with fail
  have kA := (Blk.new w 24 #[.int .u8 (op : Int), .int .u8 (d : Int), .int .u8 (a : Int), .int .u8 (b : Int), .int .i32 imm]).alloc (.cells #[.int .u8 (op' : Int), .int .u8 (d' : Int), .int .u8 (a' : Int), .int .u8 (b' : Int), .int .i32 imm'] 24)
  have kB := Blk.new (w.alloc (.cells #[.int .u8 (op : Int), .int .u8 (d : Int), .int .u8 (a : Int), .int .u8 (b : Int), .int .i32 imm] 24)) 24 #[.int .u8 (op' : Int), .int .u8 (d' : Int), .int .u8 (a' : Int), .int .u8 (b' : Int), .int .i32 imm']
  rw [World.size_alloc] at kB
  refine (H1.out _).mono ?_
  rintro e w1 ⟨rfl, hb1⟩
  have kA := kA.kept hb1
  have kB := kB.kept hb1
  obtain ⟨c0, c1, c2, c3, c4⟩ := kA.five
  obtain ⟨d0, d1, d2, d3, d4⟩ := kB.five
  go_wp2_with fail
  refine (H2.out _).mono ?_
  rintro e w2 ⟨rfl, hb2⟩
  have kA := kA.kept hb2
  have kB := kB.kept hb2
  obtain ⟨c0, c1, c2, c3, c4⟩ := kA.five
  obtain ⟨d0, d1, d2, d3, d4⟩ := kB.five
  go_wp2_with fail
  refine (H3.out _).mono ?_
  rintro e w3 ⟨rfl, hb3⟩
  have kA := kA.kept hb3
  have kB := kB.kept hb3
  obtain ⟨c0, c1, c2, c3, c4⟩ := kA.five
  obtain ⟨d0, d1, d2, d3, d4⟩ := kB.five
  go_wp2_with fail
  refine (H4.out _).mono ?_
  rintro e w4 ⟨rfl, hb4⟩
  go_wp2_with fail
  refine (awake_c _).mono ?_
  rintro e w5 ⟨rfl, hb5⟩
  go_wp2_with fail
  go_ret
  exact ⟨rfl, boxed (boxed (below_then (below_then (below_then (below_then hb1 hb2) hb3) hb4) hb5))⟩
def eqI (o d a b i o' d' a' b' i' : Int) : Bool := o == o' && (d == d' && (a == a' && (b == b' && i == i')))
theorem eqS (w : World) (o d a b i o' d' a' b' i' : Int) : (Op.equalIn 10000 24 (.agg #[.int .u8 o, .int .u8 d, .int .u8 a, .int .u8 b, .int .i32 i]) (.agg #[.int .u8 o', .int .u8 d', .int .u8 a', .int .u8 b', .int .i32 i'])).run Try.prog w = .ok (eqI o d a b i o' d' a' b' i') w := by
  unfold eqI
  cases h0 : (o == o') <;> cases h1 : (d == d') <;> cases h2 : (a == a') <;> cases h3 : (b == b') <;> cases h4 : (i == i') <;> simp [Op.eqFields, go_sem, h0, h1, h2, h3, h4, *]
end Go.Proofs.Ytgnminoiddnheaa.B1
