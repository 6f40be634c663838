/- Contracts of reloc.blank. Conditions: the bounds of the kinds. -/
import Derived.Test.YtgnminoiddnheaaLawB2
import Derived.Test.YtgnminoiddnheaaRel2
namespace Go.Proofs.Ytgnminoiddnheaa.R1
set_option linter.unusedVariables false
open Go.RowKit Go.Proofs.Ytgnminoiddnheaa.WM Go.Proofs.Ytgnminoiddnheaa.IM Go.Proofs.Ytgnminoiddnheaa.W1 Go.Proofs.Ytgnminoiddnheaa.I1 Go.Proofs.Ytgnminoiddnheaa.I2 Go.Proofs.Ytgnminoiddnheaa.I6 Go.Proofs.Ytgnminoiddnheaa.I7 Go.Proofs.Ytgnminoiddnheaa.I8 Go.Proofs.Ytgnminoiddnheaa.I9 Go.Proofs.Ytgnminoiddnheaa.B1 Go.Proofs.Ytgnminoiddnheaa.R2
theorem call_parts {x : Nat} (h : okD x) (e : dOp x = 17) : dD x = 0 ∧ dA x = 0 ∧ dB x = 0 := by
  have hm := (okD_may h).good
  have u : ud (dOp x) = false ∧ ua (dOp x) = false ∧ ub (dOp x) = false := by rw [e]; decide
  exact ⟨regB_u hm.hd u.1, regB_u hm.ha u.2.1, regB_u hm.hb u.2.2⟩
theorem eq_call {o d a b : Nat} : eqI o d a b 0 17 0 0 0 0 = decide (o = 17 ∧ d = 0 ∧ a = 0 ∧ b = 0) := by
  rw [Bool.eq_iff_iff]
  unfold eqI
  rw [decide_eq_true_eq]
  simp only [beq_iff_eq, Bool.and_eq_true]
  constructor
  · rintro ⟨h0, h1, h2, h3, _⟩
    exact ⟨Int.ofNat.inj h0, Int.ofNat.inj h1, Int.ofNat.inj h2, Int.ofNat.inj h3⟩
  · rintro ⟨h0, h1, h2, h3⟩
    subst h0 h1 h2 h3
    exact ⟨rfl, rfl, rfl, rfl, trivial⟩
theorem blank_bad1 (x k : Nat) (w : World) (hx : x < 4294967296) (h : ¬ okD x) :
    Calls Try.prog 48 #[.int .u32 (x : Int), .int .u8 (k : Int)] w fun e w' => e = .returned (.tuple #[.agg #[.int .u8 0, .int .u8 0, .int .u8 0, .int .u8 0, .int .i32 0], .int .i32 0, .int .i64 10]) ∧ Below w.heap.size w w' := by
  have H1 := Lib.hid (fun W => dec_no (x := x) W hx h)
  clear h
  cases q0 : ((k : Int) == 0) <;> cases q7 : ((k : Int) == 7)
  all_goals
    go_enter Try.func48, Try.ntmps48
    go_wp2_with fail
    have kR := Blk.new w 24 #[.int .u8 0, .int .u8 0, .int .u8 0, .int .u8 0, .int .i32 0]
    refine (H1.out _).mono ?_
    rintro e w1 ⟨rfl, hb1⟩
    have kR := kR.kept hb1
    have hsz : w.heap.size < w1.heap.size := kR.lt
    have hbw := boxed hb1
    obtain ⟨c0, c1, c2, c3, c4⟩ := kR.five
    obtain ⟨f0, f1, f2, f3, f4⟩ := kR.five_free
    go_wp2
    refine bodyPost_ret (v := .tuple #[.agg #[.int .u8 0, .int .u8 0, .int .u8 0, .int .u8 0, .int .i32 0], .int .i32 0, .int .i64 10]) (by simp [results, Try.results48, go_sem, *]) rfl ?_
    refine ⟨rfl, ?_⟩
    repeat (first | (with_reducible exact hbw) | (with_reducible refine Below.alloc ?_ ?_ _; rotate_left 1; first | exact Nat.le_of_lt hsz | (simp; omega)) | (with_reducible refine Below.setCell ?_ ?_ _; rotate_left 1; first | exact Nat.le_refl _ | exact Nat.le_of_lt hsz))
theorem blank_bad2_c0 (x k : Nat) (w : World) (hx : x < 4294967296) (h : okD x) (hk : k = 0) (ho : dOp x ≠ opOf k) :
    Calls Try.prog 48 #[.int .u32 (x : Int), .int .u8 (k : Int)] w fun e w' => e = .returned (.tuple #[.agg #[.int .u8 0, .int .u8 0, .int .u8 0, .int .u8 0, .int .i32 0], .int .i32 0, .int .i64 10]) ∧ Below w.heap.size w w' := by
  have q0 : ((k : Int) == 0) = true := by rw [hk]; rfl
  have q7 : ((k : Int) == 7) = false := by rw [hk]; rfl
  have eo : opOf k = 17 := by rw [hk]; rfl
  rw [eo] at ho
  clear eo hk
  have H1 := Lib.hid (fun W => dec_ok (x := x) W hx h)
  have hq : eqI (dOp x) (dD x) (dA x) (dB x) 0 17 0 0 0 0 = false := by rw [eq_call]; exact decide_eq_false (fun e => ho e.1)
  have HE := fun W => eqS W (dOp x) (dD x) (dA x) (dB x) 0 17 0 0 0 0
  rw [hq] at HE
  clear hq ho h
  generalize dOp x = o at H1 HE ⊢
  generalize dD x = d at H1 HE ⊢
  generalize dA x = a at H1 HE ⊢
  generalize dB x = b at H1 HE ⊢
  generalize dI x = i at H1 ⊢
  go_enter Try.func48, Try.ntmps48
  go_wp2_with fail
  have kR := Blk.new w 24 #[.int .u8 0, .int .u8 0, .int .u8 0, .int .u8 0, .int .i32 0]
  refine (H1.out _).mono ?_
  rintro e w1 ⟨rfl, hb1⟩
  have kR := kR.kept hb1
  have hsz : w.heap.size < w1.heap.size := kR.lt
  have hbw := boxed hb1
  obtain ⟨c0, c1, c2, c3, c4⟩ := kR.five
  obtain ⟨f0, f1, f2, f3, f4⟩ := kR.five_free
  go_wp2
  refine bodyPost_ret (v := .tuple #[.agg #[.int .u8 0, .int .u8 0, .int .u8 0, .int .u8 0, .int .i32 0], .int .i32 0, .int .i64 10]) (by simp [results, Try.results48, go_sem, *]) rfl ?_
  refine ⟨rfl, ?_⟩
  repeat (first | (with_reducible exact hbw) | (with_reducible refine Below.alloc ?_ ?_ _; rotate_left 1; first | exact Nat.le_of_lt hsz | (simp; omega)) | (with_reducible refine Below.setCell ?_ ?_ _; rotate_left 1; first | exact Nat.le_refl _ | exact Nat.le_of_lt hsz))
theorem blank_ok_c0 (x k : Nat) (w : World) (hx : x < 4294967296) (h : okD x) (hk : k = 0) (ho : dOp x = opOf k) :
    Calls Try.prog 48 #[.int .u32 (x : Int), .int .u8 (k : Int)] w fun e w' => e = .returned (.tuple #[.agg #[.int .u8 (dOp x : Int), .int .u8 (dD x : Int), .int .u8 (dA x : Int), .int .u8 (dB x : Int), .int .i32 0], .int .i32 (dI x), .int .i64 0]) ∧ Below w.heap.size w w' := by
  have q0 : ((k : Int) == 0) = true := by rw [hk]; rfl
  have q7 : ((k : Int) == 7) = false := by rw [hk]; rfl
  have eo : opOf k = 17 := by rw [hk]; rfl
  rw [eo] at ho
  clear eo hk
  have H1 := Lib.hid (fun W => dec_ok (x := x) W hx h)
  have hq : eqI (dOp x) (dD x) (dA x) (dB x) 0 17 0 0 0 0 = true := by rw [eq_call]; obtain ⟨g1, g2, g3⟩ := call_parts h ho; exact decide_eq_true ⟨ho, g1, g2, g3⟩
  have HE := fun W => eqS W (dOp x) (dD x) (dA x) (dB x) 0 17 0 0 0 0
  rw [hq] at HE
  clear hq ho h
  generalize dOp x = o at H1 HE ⊢
  generalize dD x = d at H1 HE ⊢
  generalize dA x = a at H1 HE ⊢
  generalize dB x = b at H1 HE ⊢
  generalize dI x = i at H1 ⊢
  go_enter Try.func48, Try.ntmps48
  go_wp2_with fail
  have kR := Blk.new w 24 #[.int .u8 0, .int .u8 0, .int .u8 0, .int .u8 0, .int .i32 0]
  refine (H1.out _).mono ?_
  rintro e w1 ⟨rfl, hb1⟩
  have kR := kR.kept hb1
  have hsz : w.heap.size < w1.heap.size := kR.lt
  have hbw := boxed hb1
  obtain ⟨c0, c1, c2, c3, c4⟩ := kR.five
  obtain ⟨f0, f1, f2, f3, f4⟩ := kR.five_free
  go_wp2
  refine bodyPost_ret (v := .tuple #[.agg #[.int .u8 (o : Int), .int .u8 (d : Int), .int .u8 (a : Int), .int .u8 (b : Int), .int .i32 0], .int .i32 i, .int .i64 0]) (by simp [results, Try.results48, go_sem, *]) rfl ?_
  refine ⟨rfl, ?_⟩
  repeat (first | (with_reducible exact hbw) | (with_reducible refine Below.alloc ?_ ?_ _; rotate_left 1; first | exact Nat.le_of_lt hsz | (simp; omega)) | (with_reducible refine Below.setCell ?_ ?_ _; rotate_left 1; first | exact Nat.le_refl _ | exact Nat.le_of_lt hsz))
theorem blank_bad2_c7 (x k : Nat) (w : World) (hx : x < 4294967296) (h : okD x) (hk : k = 7) (ho : dOp x ≠ opOf k) :
    Calls Try.prog 48 #[.int .u32 (x : Int), .int .u8 (k : Int)] w fun e w' => e = .returned (.tuple #[.agg #[.int .u8 0, .int .u8 0, .int .u8 0, .int .u8 0, .int .i32 0], .int .i32 0, .int .i64 10]) ∧ Below w.heap.size w w' := by
  have q0 : ((k : Int) == 0) = false := by rw [hk]; rfl
  have q7 : ((k : Int) == 7) = true := by rw [hk]; rfl
  have eo : opOf k = 17 := by rw [hk]; rfl
  rw [eo] at ho
  clear eo hk
  have H1 := Lib.hid (fun W => dec_ok (x := x) W hx h)
  have hq : eqI (dOp x) (dD x) (dA x) (dB x) 0 17 0 0 0 0 = false := by rw [eq_call]; exact decide_eq_false (fun e => ho e.1)
  have HE := fun W => eqS W (dOp x) (dD x) (dA x) (dB x) 0 17 0 0 0 0
  rw [hq] at HE
  clear hq ho h
  generalize dOp x = o at H1 HE ⊢
  generalize dD x = d at H1 HE ⊢
  generalize dA x = a at H1 HE ⊢
  generalize dB x = b at H1 HE ⊢
  generalize dI x = i at H1 ⊢
  go_enter Try.func48, Try.ntmps48
  go_wp2_with fail
  have kR := Blk.new w 24 #[.int .u8 0, .int .u8 0, .int .u8 0, .int .u8 0, .int .i32 0]
  refine (H1.out _).mono ?_
  rintro e w1 ⟨rfl, hb1⟩
  have kR := kR.kept hb1
  have hsz : w.heap.size < w1.heap.size := kR.lt
  have hbw := boxed hb1
  obtain ⟨c0, c1, c2, c3, c4⟩ := kR.five
  obtain ⟨f0, f1, f2, f3, f4⟩ := kR.five_free
  go_wp2
  refine bodyPost_ret (v := .tuple #[.agg #[.int .u8 0, .int .u8 0, .int .u8 0, .int .u8 0, .int .i32 0], .int .i32 0, .int .i64 10]) (by simp [results, Try.results48, go_sem, *]) rfl ?_
  refine ⟨rfl, ?_⟩
  repeat (first | (with_reducible exact hbw) | (with_reducible refine Below.alloc ?_ ?_ _; rotate_left 1; first | exact Nat.le_of_lt hsz | (simp; omega)) | (with_reducible refine Below.setCell ?_ ?_ _; rotate_left 1; first | exact Nat.le_refl _ | exact Nat.le_of_lt hsz))
theorem blank_ok_c7 (x k : Nat) (w : World) (hx : x < 4294967296) (h : okD x) (hk : k = 7) (ho : dOp x = opOf k) :
    Calls Try.prog 48 #[.int .u32 (x : Int), .int .u8 (k : Int)] w fun e w' => e = .returned (.tuple #[.agg #[.int .u8 (dOp x : Int), .int .u8 (dD x : Int), .int .u8 (dA x : Int), .int .u8 (dB x : Int), .int .i32 0], .int .i32 (dI x), .int .i64 0]) ∧ Below w.heap.size w w' := by
  have q0 : ((k : Int) == 0) = false := by rw [hk]; rfl
  have q7 : ((k : Int) == 7) = true := by rw [hk]; rfl
  have eo : opOf k = 17 := by rw [hk]; rfl
  rw [eo] at ho
  clear eo hk
  have H1 := Lib.hid (fun W => dec_ok (x := x) W hx h)
  have hq : eqI (dOp x) (dD x) (dA x) (dB x) 0 17 0 0 0 0 = true := by rw [eq_call]; obtain ⟨g1, g2, g3⟩ := call_parts h ho; exact decide_eq_true ⟨ho, g1, g2, g3⟩
  have HE := fun W => eqS W (dOp x) (dD x) (dA x) (dB x) 0 17 0 0 0 0
  rw [hq] at HE
  clear hq ho h
  generalize dOp x = o at H1 HE ⊢
  generalize dD x = d at H1 HE ⊢
  generalize dA x = a at H1 HE ⊢
  generalize dB x = b at H1 HE ⊢
  generalize dI x = i at H1 ⊢
  go_enter Try.func48, Try.ntmps48
  go_wp2_with fail
  have kR := Blk.new w 24 #[.int .u8 0, .int .u8 0, .int .u8 0, .int .u8 0, .int .i32 0]
  refine (H1.out _).mono ?_
  rintro e w1 ⟨rfl, hb1⟩
  have kR := kR.kept hb1
  have hsz : w.heap.size < w1.heap.size := kR.lt
  have hbw := boxed hb1
  obtain ⟨c0, c1, c2, c3, c4⟩ := kR.five
  obtain ⟨f0, f1, f2, f3, f4⟩ := kR.five_free
  go_wp2
  refine bodyPost_ret (v := .tuple #[.agg #[.int .u8 (o : Int), .int .u8 (d : Int), .int .u8 (a : Int), .int .u8 (b : Int), .int .i32 0], .int .i32 i, .int .i64 0]) (by simp [results, Try.results48, go_sem, *]) rfl ?_
  refine ⟨rfl, ?_⟩
  repeat (first | (with_reducible exact hbw) | (with_reducible refine Below.alloc ?_ ?_ _; rotate_left 1; first | exact Nat.le_of_lt hsz | (simp; omega)) | (with_reducible refine Below.setCell ?_ ?_ _; rotate_left 1; first | exact Nat.le_refl _ | exact Nat.le_of_lt hsz))
theorem blank_bad2_li (x k : Nat) (w : World) (hx : x < 4294967296) (h : okD x) (hk : k ≠ 0 ∧ k ≠ 7) (ho : dOp x ≠ opOf k) :
    Calls Try.prog 48 #[.int .u32 (x : Int), .int .u8 (k : Int)] w fun e w' => e = .returned (.tuple #[.agg #[.int .u8 0, .int .u8 0, .int .u8 0, .int .u8 0, .int .i32 0], .int .i32 0, .int .i64 10]) ∧ Below w.heap.size w w' := by
  have q0 : ((k : Int) == 0) = false := by rw [beq_eq_false_iff_ne]; omega
  have q7 : ((k : Int) == 7) = false := by rw [beq_eq_false_iff_ne]; omega
  have eo : opOf k = 2 := by unfold opOf isCall; rw [show (k == 0) = false from by rw [beq_eq_false_iff_ne]; omega, show (k == 7) = false from by rw [beq_eq_false_iff_ne]; omega]; rfl
  rw [eo] at ho
  clear eo hk
  have H1 := Lib.hid (fun W => dec_ok (x := x) W hx h)
  have hq : (((dOp x : Nat) : Int) != 2) = true := by rw [bne_iff_ne]; omega
  clear ho h
  generalize dOp x = o at H1 hq ⊢
  generalize dD x = d at H1 ⊢
  generalize dA x = a at H1 ⊢
  generalize dB x = b at H1 ⊢
  generalize dI x = i at H1 ⊢
  go_enter Try.func48, Try.ntmps48
  go_wp2_with fail
  have kR := Blk.new w 24 #[.int .u8 0, .int .u8 0, .int .u8 0, .int .u8 0, .int .i32 0]
  refine (H1.out _).mono ?_
  rintro e w1 ⟨rfl, hb1⟩
  have kR := kR.kept hb1
  have hsz : w.heap.size < w1.heap.size := kR.lt
  have hbw := boxed hb1
  obtain ⟨c0, c1, c2, c3, c4⟩ := kR.five
  obtain ⟨f0, f1, f2, f3, f4⟩ := kR.five_free
  go_wp2
  refine bodyPost_ret (v := .tuple #[.agg #[.int .u8 0, .int .u8 0, .int .u8 0, .int .u8 0, .int .i32 0], .int .i32 0, .int .i64 10]) (by simp [results, Try.results48, go_sem, *]) rfl ?_
  refine ⟨rfl, ?_⟩
  repeat (first | (with_reducible exact hbw) | (with_reducible refine Below.alloc ?_ ?_ _; rotate_left 1; first | exact Nat.le_of_lt hsz | (simp; omega)) | (with_reducible refine Below.setCell ?_ ?_ _; rotate_left 1; first | exact Nat.le_refl _ | exact Nat.le_of_lt hsz))
theorem blank_ok_li (x k : Nat) (w : World) (hx : x < 4294967296) (h : okD x) (hk : k ≠ 0 ∧ k ≠ 7) (ho : dOp x = opOf k) :
    Calls Try.prog 48 #[.int .u32 (x : Int), .int .u8 (k : Int)] w fun e w' => e = .returned (.tuple #[.agg #[.int .u8 (dOp x : Int), .int .u8 (dD x : Int), .int .u8 (dA x : Int), .int .u8 (dB x : Int), .int .i32 0], .int .i32 (dI x), .int .i64 0]) ∧ Below w.heap.size w w' := by
  have q0 : ((k : Int) == 0) = false := by rw [beq_eq_false_iff_ne]; omega
  have q7 : ((k : Int) == 7) = false := by rw [beq_eq_false_iff_ne]; omega
  have eo : opOf k = 2 := by unfold opOf isCall; rw [show (k == 0) = false from by rw [beq_eq_false_iff_ne]; omega, show (k == 7) = false from by rw [beq_eq_false_iff_ne]; omega]; rfl
  rw [eo] at ho
  clear eo hk
  have H1 := Lib.hid (fun W => dec_ok (x := x) W hx h)
  have hq : (((dOp x : Nat) : Int) != 2) = false := by rw [ho]; rfl
  clear ho h
  generalize dOp x = o at H1 hq ⊢
  generalize dD x = d at H1 ⊢
  generalize dA x = a at H1 ⊢
  generalize dB x = b at H1 ⊢
  generalize dI x = i at H1 ⊢
  go_enter Try.func48, Try.ntmps48
  go_wp2_with fail
  have kR := Blk.new w 24 #[.int .u8 0, .int .u8 0, .int .u8 0, .int .u8 0, .int .i32 0]
  refine (H1.out _).mono ?_
  rintro e w1 ⟨rfl, hb1⟩
  have kR := kR.kept hb1
  have hsz : w.heap.size < w1.heap.size := kR.lt
  have hbw := boxed hb1
  obtain ⟨c0, c1, c2, c3, c4⟩ := kR.five
  obtain ⟨f0, f1, f2, f3, f4⟩ := kR.five_free
  go_wp2
  refine bodyPost_ret (v := .tuple #[.agg #[.int .u8 (o : Int), .int .u8 (d : Int), .int .u8 (a : Int), .int .u8 (b : Int), .int .i32 0], .int .i32 i, .int .i64 0]) (by simp [results, Try.results48, go_sem, *]) rfl ?_
  refine ⟨rfl, ?_⟩
  repeat (first | (with_reducible exact hbw) | (with_reducible refine Below.alloc ?_ ?_ _; rotate_left 1; first | exact Nat.le_of_lt hsz | (simp; omega)) | (with_reducible refine Below.setCell ?_ ?_ _; rotate_left 1; first | exact Nat.le_refl _ | exact Nat.le_of_lt hsz))
theorem blank_bad2 (x k : Nat) (w : World) (hx : x < 4294967296) (h : okD x) (ho : dOp x ≠ opOf k) :
    Calls Try.prog 48 #[.int .u32 (x : Int), .int .u8 (k : Int)] w fun e w' => e = .returned (.tuple #[.agg #[.int .u8 0, .int .u8 0, .int .u8 0, .int .u8 0, .int .i32 0], .int .i32 0, .int .i64 10]) ∧ Below w.heap.size w w' := by
  by_cases h0 : k = 0
  · exact blank_bad2_c0 x k w hx h h0 ho
  · by_cases h7 : k = 7
    · exact blank_bad2_c7 x k w hx h h7 ho
    · exact blank_bad2_li x k w hx h ⟨h0, h7⟩ ho
theorem blank_ok (x k : Nat) (w : World) (hx : x < 4294967296) (h : okD x) (ho : dOp x = opOf k) :
    Calls Try.prog 48 #[.int .u32 (x : Int), .int .u8 (k : Int)] w fun e w' => e = .returned (.tuple #[.agg #[.int .u8 (dOp x : Int), .int .u8 (dD x : Int), .int .u8 (dA x : Int), .int .u8 (dB x : Int), .int .i32 0], .int .i32 (dI x), .int .i64 0]) ∧ Below w.heap.size w w' := by
  by_cases h0 : k = 0
  · exact blank_ok_c0 x k w hx h h0 ho
  · by_cases h7 : k = 7
    · exact blank_ok_c7 x k w hx h h7 ho
    · exact blank_ok_li x k w hx h ⟨h0, h7⟩ ho
end Go.Proofs.Ytgnminoiddnheaa.R1
