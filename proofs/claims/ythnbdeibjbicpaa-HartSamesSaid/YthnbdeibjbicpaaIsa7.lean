/- Contracts of isa.Decode and of the reference's. Conditions: a word. -/
import Derived.Test.YthnbdeibjbicpaaIsa6
import Derived.Test.YthnbdeibjbicpaaBlk
set_option linter.unusedSimpArgs false
namespace Go.Proofs.Ythnbdeibjbicpaa.I7
set_option linter.unusedVariables false
open Go.RowKit Go.Proofs.Ythnbdeibjbicpaa.WM Go.Proofs.Ythnbdeibjbicpaa.IM Go.Proofs.Ythnbdeibjbicpaa.W1 Go.Proofs.Ythnbdeibjbicpaa.I1 Go.Proofs.Ythnbdeibjbicpaa.I6
/-- A call that only makes memory leaves a box. -/
theorem kept_cell {W w1 : World} (hb : Below W.heap.size W w1) {a : Addr} {v : Value} (h : W.cell? a = some v) : w1.cell? a = some v := (hb.cell (World.block_lt_of_cell? _ _ h)).trans h
theorem kept_free {W w1 : World} (hb : Below W.heap.size W w1) {a : Addr} (h : a.block < W.heap.size) (hf : W.frozen? a = false) : w1.frozen? a = false := (hb.frozen h).trans hf
theorem bits_at {x : Nat} {a n : Int} {y : Nat} (w : World) (hx : x < 4294967296) (h0 : 0 ≤ a) (h1 : 0 ≤ n) (h : a + n ≤ 32) (hy : x / 2 ^ a.toNat % 2 ^ n.toNat = y) :
    Calls Try.prog 71 #[.int .u32 (x : Int), .int .i64 a, .int .i64 n] w fun e w' => e = .returned (.int .u32 (y : Int)) ∧ Drew w w' := by
  obtain ⟨a, rfl⟩ := Int.eq_ofNat_of_zero_le h0
  obtain ⟨n, rfl⟩ := Int.eq_ofNat_of_zero_le h1
  have h := bits_yes x a n w hx (by omega)
  rw [Int.toNat_natCast, Int.toNat_natCast] at hy
  rwa [hy] at h
theorem rbits_at {x : Nat} {a n : Int} {y : Nat} (w : World) (hx : x < 4294967296) (h0 : 0 ≤ a) (h1 : 0 ≤ n) (h : a + n ≤ 32) (hy : x / 2 ^ a.toNat % 2 ^ n.toNat = y) :
    Calls Try.prog 100 #[.int .u32 (x : Int), .int .i64 a, .int .i64 n] w fun e w' => e = .returned (.int .u32 (y : Int)) ∧ Drew w w' := by
  obtain ⟨a, rfl⟩ := Int.eq_ofNat_of_zero_le h0
  obtain ⟨n, rfl⟩ := Int.eq_ofNat_of_zero_le h1
  have h := rbits_yes x a n w hx (by omega)
  rw [Int.toNat_natCast, Int.toNat_natCast] at hy
  rwa [hy] at h
/-- Encode, whatever it tells. -/
def encV (op d a b : Nat) (imm : Int) : Nat := if chk op d a b imm = 0 then encN op d a b imm else 0
theorem encode_c (op d a b : Nat) (imm : Int) (w : World) (hm : -2147483648 ≤ imm) (hM : imm ≤ 2147483647) :
    Calls Try.prog 74 #[.agg #[.int .u8 (op : Int), .int .u8 (d : Int), .int .u8 (a : Int), .int .u8 (b : Int), .int .i32 imm]] w fun e w' => e = .returned (.tuple #[.int .u32 ((encV op d a b imm : Nat) : Int), .int .i64 (chk op d a b imm)]) ∧ Below w.heap.size w w' := by
  unfold encV
  by_cases h : chk op d a b imm = 0
  · rw [if_pos h, h]; exact encode_ok op d a b imm w hm hM h
  · rw [if_neg h]; exact encode_no op d a b imm w hm hM h
theorem rencode_c (op d a b : Nat) (imm : Int) (w : World) (hm : -2147483648 ≤ imm) (hM : imm ≤ 2147483647) :
    Calls Try.prog 80 #[.agg #[.int .u8 (op : Int), .int .u8 (d : Int), .int .u8 (a : Int), .int .u8 (b : Int), .int .i32 imm]] w fun e w' => e = .returned (.tuple #[.int .u32 ((encV op d a b imm : Nat) : Int), .int .i64 (chk op d a b imm)]) ∧ Below w.heap.size w w' := by
  unfold encV
  by_cases h : chk op d a b imm = 0
  · rw [if_pos h, h]; exact rencode_ok op d a b imm w hm hM h
  · rw [if_neg h]; exact rencode_no op d a b imm w hm hM h
set_option maxHeartbeats 4000000 in
theorem decode_go (x o d a b : Nat) (imm : Int) (w : World) (hx : x < 4294967296) (ho : dOp x = o) (hd : dD x = d) (ha : dA x = a) (hb : dB x = b) (hi : dI x = imm) (ub0 : Bool) (hu : ub o = ub0) (c : Int) (hc : chk o d a b imm = c) (n : Nat) (hn : encV o d a b imm = n)
    (t1 t2 : Bool) (ht1 : (c != 0) = t1) (ht2 : ((n : Int) != (x : Int)) = t2) :
    Calls Try.prog 40 #[.int .u32 (x : Int)] w fun e w' => (if (t1 || t2) = true then e = .returned (.tuple #[.agg #[.int .u8 0, .int .u8 0, .int .u8 0, .int .u8 0, .int .i32 0], .int .i64 10]) else e = .returned (.tuple #[.agg #[.int .u8 (o : Int), .int .u8 (d : Int), .int .u8 (a : Int), .int .u8 (b : Int), .int .i32 imm], .int .i64 0])) ∧ Below w.heap.size w w' := by
  have lo : o < 32 := by rw [← ho]; unfold dOp; omega
  have ld : d < 8 := by rw [← hd]; unfold dD; omega
  have la : a < 8 := by rw [← ha]; unfold dA; omega
  have hs := sgn_range x 21 (by omega) (by omega)
  have b27 := fun W => bits_at (x := x) (a := 27) (n := 5) (y := o) W hx (by omega) (by omega) (by omega) (by rw [← ho]; unfold dOp; show x / 2 ^ 27 % 2 ^ 5 = _; simp only [Nat.reducePow]; omega)
  have b24 := fun W => bits_at (x := x) (a := 24) (n := 3) (y := d) W hx (by omega) (by omega) (by omega) (by rw [← hd]; rfl)
  have b21 := fun W => bits_at (x := x) (a := 21) (n := 3) (y := a) W hx (by omega) (by omega) (by omega) (by rw [← ha]; rfl)
  have B27 := Lib.hid b27
  have B24 := Lib.hid b24
  have B21 := Lib.hid b21
  have hus := fun W => uses_c o W
  rw [hu] at hus
  generalize ud o = x0 at hus
  generalize ua o = x1 at hus
  generalize ui o = x3 at hus
  have HUS := Lib.hid hus
  have hen := fun W hm hM => encode_c o d a b imm W hm hM
  rw [hc, hn] at hen
  have HEN := Lib.hid hen
  cases ub0 with
  | true =>
    have e1 : dB x = x % 8 := by unfold dB; rw [ho, hu, if_pos rfl]
    have e2 : dI x = 0 := by unfold dI; rw [ho, hu, if_pos rfl]
    have lb : b < 8 := by rw [← hb, e1]; omega
    have hi0 : imm = 0 := by rw [← hi, e2]
    have b0 := fun W => bits_at (x := x) (a := 0) (n := 3) (y := b) W hx (by omega) (by omega) (by omega) (by rw [← hb, e1]; show x / 2 ^ 0 % 2 ^ 3 = _; simp)
    have B0 := Lib.hid b0
    subst hi0
    clear ho hd ha hb hi hu hc hn b27 b24 b21 hus hen e1 e2 b0 hs
    go_enter Try.func40, Try.ntmps40
    go_wp2_with fail
    refine (B27.out _).mono ?_
    rintro e w' ⟨rfl, ⟨n1, rfl⟩⟩
    go_wp2_with fail
    refine (B24.out _).mono ?_
    rintro e w' ⟨rfl, ⟨n2, rfl⟩⟩
    go_wp2_with fail
    refine (B21.out _).mono ?_
    rintro e w' ⟨rfl, ⟨n3, rfl⟩⟩
    go_wp2_with fail
    refine (HUS.out _).mono ?_
    rintro e w' ⟨rfl, ⟨n4, rfl⟩⟩
    go_wp2_with fail
    refine (B0.out _).mono ?_
    rintro e w' ⟨rfl, ⟨n5, rfl⟩⟩
    go_wp2_with fail
    have kR : Blk (((((w.alloc (.cells #[.int .u8 0, .int .u8 0, .int .u8 0, .int .u8 0, .int .i32 0] 88)).drewN (n1 + n2 + n3)).alloc (.cells #[.int .u8 (o : Int), .int .u8 (d : Int), .int .u8 (a : Int), .int .u8 0, .int .i32 0] 88)).drewN (n4 + n5)).setCell ⟨w.heap.size + 1, 3, none⟩ (.int .u8 (b : Int))) w.heap.size 88 #[.int .u8 0, .int .u8 0, .int .u8 0, .int .u8 0, .int .i32 0] := (((((Blk.new w 88 _).drewN _).alloc _).drewN _).far (by simp) _)
    have kI : Blk (((((w.alloc (.cells #[.int .u8 0, .int .u8 0, .int .u8 0, .int .u8 0, .int .i32 0] 88)).drewN (n1 + n2 + n3)).alloc (.cells #[.int .u8 (o : Int), .int .u8 (d : Int), .int .u8 (a : Int), .int .u8 0, .int .i32 0] 88)).drewN (n4 + n5)).setCell ⟨w.heap.size + 1, 3, none⟩ (.int .u8 (b : Int))) (w.heap.size + 1) 88 #[.int .u8 (o : Int), .int .u8 (d : Int), .int .u8 (a : Int), .int .u8 (b : Int), .int .i32 0] := by
      have h0 := Blk.new ((w.alloc (.cells #[.int .u8 0, .int .u8 0, .int .u8 0, .int .u8 0, .int .i32 0] 88)).drewN (n1 + n2 + n3)) 88 #[.int .u8 (o : Int), .int .u8 (d : Int), .int .u8 (a : Int), .int .u8 0, .int .i32 0]
      rw [show ((w.alloc (.cells #[.int .u8 0, .int .u8 0, .int .u8 0, .int .u8 0, .int .i32 0] 88)).drewN (n1 + n2 + n3)).heap.size = w.heap.size + 1 from by simp] at h0
      exact (h0.drewN _).set_ 3 _
    refine (HEN.out _ (by omega) (by omega)).mono ?_
    rintro e w1 ⟨rfl, hb⟩
    obtain ⟨c0, c1, c2, c3, c4⟩ := (kR.kept hb).five
    obtain ⟨f0, f1, f2, f3, f4⟩ := (kR.kept hb).five_free
    obtain ⟨g0, g1, g2, g3, g4⟩ := (kI.kept hb).five
    have hsz : w.heap.size < w1.heap.size := (kR.kept hb).lt
    have hbw : Below w.heap.size w w1 := by
      refine Below.trans ?_ (hb.mono (by simp <;> omega))
      exact ((below_drewN ((below_drewN ((Below.refl _ _).alloc (Nat.le_refl _) _) _).alloc (by simp) _) _).setCell (by simp <;> omega) _)
    clear kR kI hb
    cases t1 with
    | true =>
      go_wp2
      refine bodyPost_ret (v := .tuple #[.agg #[.int .u8 0, .int .u8 0, .int .u8 0, .int .u8 0, .int .i32 0], .int .i64 10]) (by simp [results, Try.results40, go_sem, *]) rfl ?_
      exact ⟨rfl, by repeat (first | exact hbw | refine Below.setCell ?_ (by simp) _)⟩
    | false =>
      cases t2 with
      | true =>
        go_wp2
        refine bodyPost_ret (v := .tuple #[.agg #[.int .u8 0, .int .u8 0, .int .u8 0, .int .u8 0, .int .i32 0], .int .i64 10]) (by simp [results, Try.results40, go_sem, *]) rfl ?_
        exact ⟨rfl, by repeat (first | exact hbw | refine Below.setCell ?_ (by simp) _)⟩
      | false =>
        go_wp2
        refine bodyPost_ret (v := .tuple #[.agg #[.int .u8 (o : Int), .int .u8 (d : Int), .int .u8 (a : Int), .int .u8 (b : Int), .int .i32 0], .int .i64 0]) (by simp [results, Try.results40, go_sem, *]) rfl ?_
        exact ⟨rfl, by repeat (first | exact hbw | refine Below.setCell ?_ (by simp) _)⟩
  | false =>
    have e1 : dB x = 0 := by unfold dB; rw [ho, hu, if_neg (by decide)]
    have e2 : dI x = sgn x 21 := by unfold dI; rw [ho, hu, if_neg (by decide)]
    have hb0 : b = 0 := by rw [← hb, e1]
    have hi0 : sgn x 21 = imm := by rw [← hi, e2]
    have b0 := fun W => signed_yes x 21 W (by omega) (by omega)
    rw [hi0] at b0 hs
    have B0 := Lib.hid b0
    subst hb0
    clear ho hd ha hb hi hu hc hn b27 b24 b21 hus hen e1 e2 b0 hi0
    go_enter Try.func40, Try.ntmps40
    go_wp2_with fail
    refine (B27.out _).mono ?_
    rintro e w' ⟨rfl, ⟨n1, rfl⟩⟩
    go_wp2_with fail
    refine (B24.out _).mono ?_
    rintro e w' ⟨rfl, ⟨n2, rfl⟩⟩
    go_wp2_with fail
    refine (B21.out _).mono ?_
    rintro e w' ⟨rfl, ⟨n3, rfl⟩⟩
    go_wp2_with fail
    refine (HUS.out _).mono ?_
    rintro e w' ⟨rfl, ⟨n4, rfl⟩⟩
    go_wp2_with fail
    refine (B0.out _).mono ?_
    rintro e w' ⟨rfl, ⟨n5, rfl⟩⟩
    go_wp2_with fail
    have kR : Blk (((((w.alloc (.cells #[.int .u8 0, .int .u8 0, .int .u8 0, .int .u8 0, .int .i32 0] 88)).drewN (n1 + n2 + n3)).alloc (.cells #[.int .u8 (o : Int), .int .u8 (d : Int), .int .u8 (a : Int), .int .u8 0, .int .i32 0] 88)).drewN (n4 + n5)).setCell ⟨w.heap.size + 1, 4, none⟩ (.int .i32 imm)) w.heap.size 88 #[.int .u8 0, .int .u8 0, .int .u8 0, .int .u8 0, .int .i32 0] := (((((Blk.new w 88 _).drewN _).alloc _).drewN _).far (by simp) _)
    have kI : Blk (((((w.alloc (.cells #[.int .u8 0, .int .u8 0, .int .u8 0, .int .u8 0, .int .i32 0] 88)).drewN (n1 + n2 + n3)).alloc (.cells #[.int .u8 (o : Int), .int .u8 (d : Int), .int .u8 (a : Int), .int .u8 0, .int .i32 0] 88)).drewN (n4 + n5)).setCell ⟨w.heap.size + 1, 4, none⟩ (.int .i32 imm)) (w.heap.size + 1) 88 #[.int .u8 (o : Int), .int .u8 (d : Int), .int .u8 (a : Int), .int .u8 0, .int .i32 imm] := by
      have h0 := Blk.new ((w.alloc (.cells #[.int .u8 0, .int .u8 0, .int .u8 0, .int .u8 0, .int .i32 0] 88)).drewN (n1 + n2 + n3)) 88 #[.int .u8 (o : Int), .int .u8 (d : Int), .int .u8 (a : Int), .int .u8 0, .int .i32 0]
      rw [show ((w.alloc (.cells #[.int .u8 0, .int .u8 0, .int .u8 0, .int .u8 0, .int .i32 0] 88)).drewN (n1 + n2 + n3)).heap.size = w.heap.size + 1 from by simp] at h0
      exact (h0.drewN _).set_ 4 _
    refine (HEN.out _ (by omega) (by omega)).mono ?_
    rintro e w1 ⟨rfl, hb⟩
    obtain ⟨c0, c1, c2, c3, c4⟩ := (kR.kept hb).five
    obtain ⟨f0, f1, f2, f3, f4⟩ := (kR.kept hb).five_free
    obtain ⟨g0, g1, g2, g3, g4⟩ := (kI.kept hb).five
    have hsz : w.heap.size < w1.heap.size := (kR.kept hb).lt
    have hbw : Below w.heap.size w w1 := by
      refine Below.trans ?_ (hb.mono (by simp <;> omega))
      exact ((below_drewN ((below_drewN ((Below.refl _ _).alloc (Nat.le_refl _) _) _).alloc (by simp) _) _).setCell (by simp <;> omega) _)
    clear kR kI hb
    cases t1 with
    | true =>
      go_wp2
      refine bodyPost_ret (v := .tuple #[.agg #[.int .u8 0, .int .u8 0, .int .u8 0, .int .u8 0, .int .i32 0], .int .i64 10]) (by simp [results, Try.results40, go_sem, *]) rfl ?_
      exact ⟨rfl, by repeat (first | exact hbw | refine Below.setCell ?_ (by simp) _)⟩
    | false =>
      cases t2 with
      | true =>
        go_wp2
        refine bodyPost_ret (v := .tuple #[.agg #[.int .u8 0, .int .u8 0, .int .u8 0, .int .u8 0, .int .i32 0], .int .i64 10]) (by simp [results, Try.results40, go_sem, *]) rfl ?_
        exact ⟨rfl, by repeat (first | exact hbw | refine Below.setCell ?_ (by simp) _)⟩
      | false =>
        go_wp2
        refine bodyPost_ret (v := .tuple #[.agg #[.int .u8 (o : Int), .int .u8 (d : Int), .int .u8 (a : Int), .int .u8 0, .int .i32 imm], .int .i64 0]) (by simp [results, Try.results40, go_sem, *]) rfl ?_
        exact ⟨rfl, by repeat (first | exact hbw | refine Below.setCell ?_ (by simp) _)⟩
end Go.Proofs.Ythnbdeibjbicpaa.I7
