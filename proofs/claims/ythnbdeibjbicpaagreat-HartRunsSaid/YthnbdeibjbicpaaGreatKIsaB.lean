/- Contracts of isa.Encode and of the reference's. Conditions: the bounds of the fields' kinds. -/
import Derived.Test.YthnbdeibjbicpaaGreatIsa2
import Derived.Test.YthnbdeibjbicpaaGreatIsa3
import Derived.Test.YthnbdeibjbicpaaGreatIsa4
import Derived.Test.YthnbdeibjbicpaaGreatIsa5
import Derived.Test.YthnbdeibjbicpaaGreatKIsaA
import Derived.Test.YthnbdeibjbicpaaGreatKBase
set_option linter.unusedSimpArgs false
namespace Go.Proofs.YthnbdeibjbicpaaGreat.I6
set_option linter.unusedVariables false
open Go.RowKit Go.Proofs.YthnbdeibjbicpaaGreat.WM Go.Proofs.YthnbdeibjbicpaaGreat.IM Go.Proofs.YthnbdeibjbicpaaGreat.W1 Go.Proofs.YthnbdeibjbicpaaGreat.I1 Go.Proofs.YthnbdeibjbicpaaGreat.I2 Go.Proofs.YthnbdeibjbicpaaGreat.I3 Go.Proofs.YthnbdeibjbicpaaGreat.I4 Go.Proofs.YthnbdeibjbicpaaGreat.I5
abbrev ins (op d a b : Nat) (imm : Int) : Value := .agg #[.int .u8 (op : Int), .int .u8 (d : Int), .int .u8 (a : Int), .int .u8 (b : Int), .int .i32 imm]
theorem rcheck_c (op d a b : Nat) (imm : Int) (w : World) (hm : -2147483648 ≤ imm) (hM : imm ≤ 2147483647) :
    Calls Tryz.prog 88 #[.agg #[.int .u8 (op : Int), .int .u8 (d : Int), .int .u8 (a : Int), .int .u8 (b : Int), .int .i32 imm]] w fun e w' => e = .returned (.int .i64 (chk op d a b imm)) ∧ Below w.heap.size w w' := by
  by_cases ho : 21 < op
  · exact rcheck_1 op d a b imm w hm hM ho
  have ho : op ≤ 21 := by omega
  by_cases h1 : 7 < d
  · exact rcheck_2 op d a b imm w hm hM ho h1
  have h1 : d ≤ 7 := by omega
  by_cases h2 : 7 < a
  · exact rcheck_3 op d a b imm w hm hM ho h1 h2
  have h2 : a ≤ 7 := by omega
  by_cases h3 : 7 < b
  · exact rcheck_4 op d a b imm w hm hM ho h1 h2 h3
  have h3 : b ≤ 7 := by omega
  rcases op_cases op with c | c | c | c | c | c | c | c | c | c | c | c | c | c | c | c
  case inr.inr.inr.inr.inr.inr.inr.inr.inr.inr.inr.inr.inr.inr.inr => omega
  all_goals first
    | exact rcheck_no op d a b imm w hm hM ho h1 h2 h3 (by omega)
    | exact rcheck_th op d a b imm w hm hM ho h1 h2 h3 (by omega)
    | exact rcheck_li op d a b imm w hm hM ho h1 h2 h3 (by omega)
    | exact rcheck_ad op d a b imm w hm hM ho h1 h2 h3 (by omega)
    | exact rcheck_jm op d a b imm w hm hM ho h1 h2 h3 (by omega)
    | exact rcheck_jr op d a b imm w hm hM ho h1 h2 h3 (by omega)
theorem boxed {w w' : World} {o : Obj} (hb : Below (w.alloc o).heap.size (w.alloc o) w') : Below w.heap.size w w' := ((Below.refl _ _).alloc (Nat.le_refl _) _).trans (hb.mono (by simp))
theorem cell_old {w : World} {a : Addr} {v : Value} (h : w.cell? a = some v) (n : Nat) (o : Obj) : ((w.drewN n).alloc o).cell? a = some v := (World.cell?_alloc_lt (w.drewN n) o a (World.block_lt_of_cell? w a h)).trans h
/-- The cells of a box of five stay behind a call that only makes memory. -/
theorem box5 {w w' : World} {v0 v1 v2 v3 v4 : Value} {t : Nat} (hb : Below (w.alloc (.cells #[v0, v1, v2, v3, v4] t)).heap.size (w.alloc (.cells #[v0, v1, v2, v3, v4] t)) w') :
    w'.cell? ⟨w.heap.size, 0, none⟩ = some v0 ∧ w'.cell? ⟨w.heap.size, 1, none⟩ = some v1 ∧ w'.cell? ⟨w.heap.size, 2, none⟩ = some v2 ∧ w'.cell? ⟨w.heap.size, 3, none⟩ = some v3 ∧ w'.cell? ⟨w.heap.size, 4, none⟩ = some v4 := by
  have k : ∀ i v, (w.alloc (.cells #[v0, v1, v2, v3, v4] t)).cell? ⟨w.heap.size, i, none⟩ = some v → w'.cell? ⟨w.heap.size, i, none⟩ = some v := fun i v h => (hb.cell (World.block_lt_of_cell? _ _ h)).trans h
  exact ⟨k 0 v0 (by simp [World.cell?_alloc_at]), k 1 v1 (by simp [World.cell?_alloc_at]), k 2 v2 (by simp [World.cell?_alloc_at]), k 3 v3 (by simp [World.cell?_alloc_at]), k 4 v4 (by simp [World.cell?_alloc_at])⟩
theorem with27 (x v : Nat) (w : World) (hx : x < 2097152) (hv : v < 32) : Calls Tryz.prog 100 #[.int .u32 (x : Int), .int .i64 27, .int .i64 5, .int .u32 (v : Int)] w fun e w' => e = .returned (.int .u32 ((v * 134217728 + x : Nat) : Int)) ∧ Drew w w' := by
  have h := with_yes x 27 5 v w (by omega) (by omega) (by omega)
  rw [put27 x v hx hv] at h
  exact h
theorem with24 (x o v : Nat) (w : World) (hx : x < 2097152) (ho : o < 32) (hv : v < 8) : Calls Tryz.prog 100 #[.int .u32 ((o * 134217728 + x : Nat) : Int), .int .i64 24, .int .i64 3, .int .u32 (v : Int)] w fun e w' => e = .returned (.int .u32 ((o * 134217728 + v * 16777216 + x : Nat) : Int)) ∧ Drew w w' := by
  have h := with_yes (o * 134217728 + x) 24 3 v w (by omega) (by omega) (by omega)
  rw [put24 x o v hx ho hv] at h
  exact h
theorem with21 (x o d v : Nat) (w : World) (hx : x < 2097152) (ho : o < 32) (hd : d < 8) (hv : v < 8) : Calls Tryz.prog 100 #[.int .u32 ((o * 134217728 + d * 16777216 + x : Nat) : Int), .int .i64 21, .int .i64 3, .int .u32 (v : Int)] w fun e w' => e = .returned (.int .u32 ((o * 134217728 + d * 16777216 + v * 2097152 + x : Nat) : Int)) ∧ Drew w w' := by
  have h := with_yes (o * 134217728 + d * 16777216 + x) 21 3 v w (by omega) (by omega) (by omega)
  rw [put21 x o d v hx ho hd hv] at h
  exact h
theorem rwith27 (v : Nat) (w : World) (hv : v < 32) : Calls Tryz.prog 106 #[.int .u32 0, .int .i64 27, .int .i64 5, .int .u32 (v : Int)] w fun e w' => e = .returned (.int .u32 ((v * 134217728 : Nat) : Int)) ∧ Drew w w' := by
  have h := rwith_yes 0 27 5 v w (by omega) (by omega) (by omega)
  rw [put27 0 v (by omega) hv, Nat.add_zero] at h
  exact h
theorem rwith24 (o v : Nat) (w : World) (ho : o < 32) (hv : v < 8) : Calls Tryz.prog 106 #[.int .u32 ((o * 134217728 : Nat) : Int), .int .i64 24, .int .i64 3, .int .u32 (v : Int)] w fun e w' => e = .returned (.int .u32 ((o * 134217728 + v * 16777216 : Nat) : Int)) ∧ Drew w w' := by
  have h := rwith_yes (o * 134217728) 24 3 v w (by omega) (by omega) (by omega)
  have e := put24 0 o v (by omega) ho hv
  rw [Nat.add_zero, Nat.add_zero] at e
  rw [e] at h
  exact h
theorem rwith21 (o d v : Nat) (w : World) (ho : o < 32) (hd : d < 8) (hv : v < 8) : Calls Tryz.prog 106 #[.int .u32 ((o * 134217728 + d * 16777216 : Nat) : Int), .int .i64 21, .int .i64 3, .int .u32 (v : Int)] w fun e w' => e = .returned (.int .u32 ((o * 134217728 + d * 16777216 + v * 2097152 : Nat) : Int)) ∧ Drew w w' := by
  have h := rwith_yes (o * 134217728 + d * 16777216) 21 3 v w (by omega) (by omega) (by omega)
  have e := put21 0 o d v (by omega) ho hd hv
  rw [Nat.add_zero, Nat.add_zero] at e
  rw [e] at h
  exact h
theorem rwith0 (o d a v : Nat) (w : World) (ho : o < 32) (hd : d < 8) (ha : a < 8) (hv : v < 2097152) : Calls Tryz.prog 106 #[.int .u32 ((o * 134217728 + d * 16777216 + a * 2097152 : Nat) : Int), .int .i64 0, .int .i64 21, .int .u32 (v : Int)] w fun e w' => e = .returned (.int .u32 ((o * 134217728 + d * 16777216 + a * 2097152 + v : Nat) : Int)) ∧ Drew w w' := by
  have h := rwith_yes (o * 134217728 + d * 16777216 + a * 2097152) 0 21 v w (by omega) (by omega) (by omega)
  rw [put0 o d a v ho hd ha hv] at h
  exact h
theorem cut21 (v : Int) (w : World) : Calls Tryz.prog 101 #[.int .i32 v, .int .i64 21] w fun e w' => e = .returned (.int .u32 (((v % 4294967296).toNat % 2 ^ min 21 32 : Nat) : Int)) ∧ Drew w w' := cut_yes v 21 w (by omega)
theorem rcut21 (v : Int) (w : World) : Calls Tryz.prog 107 #[.int .i32 v, .int .i64 21] w fun e w' => e = .returned (.int .u32 (((v % 4294967296).toNat % 2 ^ min 21 32 : Nat) : Int)) ∧ Drew w w' := rcut_yes v 21 w (by omega)
theorem encode_ok (op d a b : Nat) (imm : Int) (w : World) (hm : -2147483648 ≤ imm) (hM : imm ≤ 2147483647) (h : chk op d a b imm = 0) :
    Calls Tryz.prog 77 #[.agg #[.int .u8 (op : Int), .int .u8 (d : Int), .int .u8 (a : Int), .int .u8 (b : Int), .int .i32 imm]] w fun e w' => e = .returned (.tuple #[.int .u32 ((encN op d a b imm : Nat) : Int), .int .i64 0]) ∧ Below w.heap.size w w' := by
  have hmay := chk_may h
  have h1 := hmay.good.ho
  have h2 := regB_le hmay.good.hd
  have h3 := regB_le hmay.good.ha
  have h5 := regB_le hmay.good.hb
  have hl := low_lt hmay
  have HOR := low_or hmay
  have hchk := fun W => check_c op d a b imm W hm hM
  rw [h] at hchk
  have HCK := Lib.hid hchk
  have hcut := fun W => cut21 imm W
  generalize ((imm % 4294967296).toNat % 2 ^ min 21 32 : Nat) = c at HOR hcut
  have HCU := Lib.hid hcut
  rw [encN_low]
  generalize low b imm = l at *
  have w1 := fun W => with27 l op W hl (by omega)
  have w2 := fun W => with24 l op d W hl (by omega) (by omega)
  have w3 := fun W => with21 l op d a W hl (by omega) (by omega) (by omega)
  obtain ⟨y1, e1⟩ : ∃ y, op * 134217728 + l = y := ⟨_, rfl⟩
  rw [e1] at w1 w2
  obtain ⟨y2, e2⟩ : ∃ y, op * 134217728 + d * 16777216 + l = y := ⟨_, rfl⟩
  rw [e2] at w2 w3
  obtain ⟨y3, e3⟩ : ∃ y, op * 134217728 + d * 16777216 + a * 2097152 + l = y := ⟨_, rfl⟩
  rw [e3] at w3 ⊢
  clear e1 e2 e3
  have W1 := Lib.hid w1
  have W2 := Lib.hid w2
  have W3 := Lib.hid w3
  clear h hmay hchk hcut w1 w2 w3
  go_enter Tryz.func77, Tryz.ntmps77
  go_wp2_with fail
  refine (HCK.out _).mono ?_
  rintro e w1 ⟨rfl, hb⟩
  obtain ⟨c0, c1, c2, c3, c4⟩ := box5 hb
  go_wp2_with fail
  go_quiet (first | (go_at_call 101; (with_reducible refine (HCU.out _).mono ?_); rintro e w' ⟨rfl, ⟨nd, rfl⟩⟩; (try first | exact ⟨rfl, _, World.drewN_drewN _ _ _⟩ | exact ⟨rfl, _, Eq.trans (World.drewN_drewN _ _ _) (congrArg (World.drewN _) (Nat.add_assoc _ _ _))⟩)) | (go_at_call 100; (with_reducible refine (W1.out _).mono ?_); rintro e w' ⟨rfl, ⟨nd, rfl⟩⟩; (try first | exact ⟨rfl, _, World.drewN_drewN _ _ _⟩ | exact ⟨rfl, _, Eq.trans (World.drewN_drewN _ _ _) (congrArg (World.drewN _) (Nat.add_assoc _ _ _))⟩)))
  go_wp2_with fail
  go_quiet (first | (go_at_call 100; (with_reducible refine (W2.out _).mono ?_); rintro e w' ⟨rfl, ⟨nd, rfl⟩⟩; (try first | exact ⟨rfl, _, World.drewN_drewN _ _ _⟩ | exact ⟨rfl, _, Eq.trans (World.drewN_drewN _ _ _) (congrArg (World.drewN _) (Nat.add_assoc _ _ _))⟩)) | (go_at_call 100; (with_reducible refine (W3.out _).mono ?_); rintro e w' ⟨rfl, ⟨nd, rfl⟩⟩; (try first | exact ⟨rfl, _, World.drewN_drewN _ _ _⟩ | exact ⟨rfl, _, Eq.trans (World.drewN_drewN _ _ _) (congrArg (World.drewN _) (Nat.add_assoc _ _ _))⟩)))
  go_wp2_with fail
  go_ret2
  exact ⟨rfl, by repeat (first | exact boxed hb | apply below_drewN)⟩
theorem encode_no (op d a b : Nat) (imm : Int) (w : World) (hm : -2147483648 ≤ imm) (hM : imm ≤ 2147483647) (h : chk op d a b imm ≠ 0) :
    Calls Tryz.prog 77 #[.agg #[.int .u8 (op : Int), .int .u8 (d : Int), .int .u8 (a : Int), .int .u8 (b : Int), .int .i32 imm]] w fun e w' => e = .returned (.tuple #[.int .u32 0, .int .i64 (chk op d a b imm)]) ∧ Below w.heap.size w w' := by
  have hchk := fun W => check_c op d a b imm W hm hM
  generalize chk op d a b imm = c at *
  have HCK := Lib.hid hchk
  have hq : (c != 0) = true := by rw [bne_iff_ne]; exact h
  clear h hchk
  go_enter Tryz.func77, Tryz.ntmps77
  go_wp2_with fail
  refine (HCK.out _).mono ?_
  rintro e w1 ⟨rfl, hb⟩
  go_wp2_with fail
  go_ret2
  exact ⟨rfl, boxed hb⟩
theorem rencode_no (op d a b : Nat) (imm : Int) (w : World) (hm : -2147483648 ≤ imm) (hM : imm ≤ 2147483647) (h : chk op d a b imm ≠ 0) :
    Calls Tryz.prog 87 #[.agg #[.int .u8 (op : Int), .int .u8 (d : Int), .int .u8 (a : Int), .int .u8 (b : Int), .int .i32 imm]] w fun e w' => e = .returned (.tuple #[.int .u32 0, .int .i64 (chk op d a b imm)]) ∧ Below w.heap.size w w' := by
  have hchk := fun W => rcheck_c op d a b imm W hm hM
  generalize chk op d a b imm = c at *
  have HCK := Lib.hid hchk
  have hq : (c != 0) = true := by rw [bne_iff_ne]; exact h
  clear h hchk
  go_enter Tryz.func87, Tryz.ntmps87
  go_wp2_with fail
  refine (HCK.out _).mono ?_
  rintro e w1 ⟨rfl, hb⟩
  go_wp2_with fail
  go_ret2
  exact ⟨rfl, boxed hb⟩
theorem rencode_ok (op d a b : Nat) (imm : Int) (w : World) (hm : -2147483648 ≤ imm) (hM : imm ≤ 2147483647) (h : chk op d a b imm = 0) :
    Calls Tryz.prog 87 #[.agg #[.int .u8 (op : Int), .int .u8 (d : Int), .int .u8 (a : Int), .int .u8 (b : Int), .int .i32 imm]] w fun e w' => e = .returned (.tuple #[.int .u32 ((encN op d a b imm : Nat) : Int), .int .i64 0]) ∧ Below w.heap.size w w' := by
  have hmay := chk_may h
  have h1 := hmay.good.ho
  have h2 := regB_le hmay.good.hd
  have h3 := regB_le hmay.good.ha
  have h5 := regB_le hmay.good.hb
  have hl := low_lt hmay
  have hchk := fun W => rcheck_c op d a b imm W hm hM
  rw [h] at hchk
  have HCK := Lib.hid hchk
  have w1 := fun W => rwith27 op W (by omega)
  have w2 := fun W => rwith24 op d W (by omega) (by omega)
  have w3 := fun W => rwith21 op d a W (by omega) (by omega) (by omega)
  have hus := fun W => ruses_c op W
  rcases hmay.b_or with ⟨hu, hi⟩ | ⟨hu, hz⟩
  · have w4 := fun W => rwith0 op d a b W (by omega) (by omega) (by omega) (by omega)
    have el : low b imm = b := by unfold low; rw [hi]; simp
    rw [encN_low, el]
    rw [hu] at hus
    generalize ud op = x0 at hus
    generalize ua op = x1 at hus
    generalize ui op = x3 at hus
    have HUS := Lib.hid hus
    obtain ⟨y1, e1⟩ : ∃ y, op * 134217728 = y := ⟨_, rfl⟩
    obtain ⟨y2, e2⟩ : ∃ y, op * 134217728 + d * 16777216 = y := ⟨_, rfl⟩
    obtain ⟨y3, e3⟩ : ∃ y, op * 134217728 + d * 16777216 + a * 2097152 = y := ⟨_, rfl⟩
    obtain ⟨y4, e4⟩ : ∃ y, op * 134217728 + d * 16777216 + a * 2097152 + b = y := ⟨_, rfl⟩
    rw [e4] at w4 ⊢
    rw [e3] at w3 w4
    rw [e2] at w2 w3
    rw [e1] at w1 w2
    have W1 := Lib.hid w1
    have W2 := Lib.hid w2
    have W3 := Lib.hid w3
    have W4 := Lib.hid w4
    clear h hmay hchk w1 w2 w3 w4 e1 e2 e3 e4 hus el hu hl hi
    have hix : ∀ (W : World), (Instr.index 137 (.agg #[.bool x0, .bool x1, .bool true, .bool x3]) (.int .i64 2)).run Tryz.prog W = .ok (.bool true) W := fun _ => by kernel_rfl
    go_enter Tryz.func87, Tryz.ntmps87
    go_wp2_with fail
    refine (HCK.out _).mono ?_
    rintro e w1 ⟨rfl, hb⟩
    obtain ⟨c0, c1, c2, c3, c4⟩ := box5 hb
    have hsz : w.heap.size < w1.heap.size := by have := hb.size; simp at this; omega
    have hne : ¬ w.heap.size = w1.heap.size := by omega
    go_wp2_with fail
    refine (W1.out _).mono ?_
    rintro e w' ⟨rfl, ⟨n1, rfl⟩⟩
    go_wp2_with fail
    refine (W2.out _).mono ?_
    rintro e w' ⟨rfl, ⟨n2, rfl⟩⟩
    go_wp2_with fail
    refine (W3.out _).mono ?_
    rintro e w' ⟨rfl, ⟨n3, rfl⟩⟩
    go_wp2_with fail
    refine (HUS.out _).mono ?_
    rintro e w' ⟨rfl, rfl⟩
    have d3 := cell_old c3 (n1 + n2 + n3) (.cells #[.bool x0, .bool x1, .bool true, .bool x3] 137)
    go_wp2_with fail
    refine (W4.out _).mono ?_
    rintro e w' ⟨rfl, ⟨n4, rfl⟩⟩
    go_wp2_with fail
    go_ret2
    exact ⟨rfl, by repeat (first | exact boxed hb | refine Below.alloc ?_ (by simp; omega) _ | apply below_drewN)⟩
  · have e21 : (imm % 4294967296).toNat % 2 ^ min 21 32 = (imm % 2097152).toNat := by
      rw [show (2 : Nat) ^ min 21 32 = 2097152 from rfl]; omega
    have hcut := fun W => rcut21 imm W
    rw [e21] at hcut
    have w4 := fun W => rwith0 op d a (imm % 2097152).toNat W (by omega) (by omega) (by omega) (by omega)
    have el : low b imm = (imm % 2097152).toNat := by unfold low; rw [hz]; simp
    rw [encN_low, el]
    generalize (imm % 2097152).toNat = c at hcut w4 ⊢
    have HCU := Lib.hid hcut
    rw [hu] at hus
    generalize ud op = x0 at hus
    generalize ua op = x1 at hus
    generalize ui op = x3 at hus
    have HUS := Lib.hid hus
    obtain ⟨y1, e1⟩ : ∃ y, op * 134217728 = y := ⟨_, rfl⟩
    obtain ⟨y2, e2⟩ : ∃ y, op * 134217728 + d * 16777216 = y := ⟨_, rfl⟩
    obtain ⟨y3, e3⟩ : ∃ y, op * 134217728 + d * 16777216 + a * 2097152 = y := ⟨_, rfl⟩
    obtain ⟨y4, e4⟩ : ∃ y, op * 134217728 + d * 16777216 + a * 2097152 + c = y := ⟨_, rfl⟩
    rw [e4] at w4 ⊢
    rw [e3] at w3 w4
    rw [e2] at w2 w3
    rw [e1] at w1 w2
    have W1 := Lib.hid w1
    have W2 := Lib.hid w2
    have W3 := Lib.hid w3
    have W4 := Lib.hid w4
    clear h hmay hchk w1 w2 w3 w4 e1 e2 e3 e4 hus el hu hl hz hcut e21
    have hix : ∀ (W : World), (Instr.index 137 (.agg #[.bool x0, .bool x1, .bool false, .bool x3]) (.int .i64 2)).run Tryz.prog W = .ok (.bool false) W := fun _ => by kernel_rfl
    go_enter Tryz.func87, Tryz.ntmps87
    go_wp2_with fail
    refine (HCK.out _).mono ?_
    rintro e w1 ⟨rfl, hb⟩
    obtain ⟨c0, c1, c2, c3, c4⟩ := box5 hb
    have hsz : w.heap.size < w1.heap.size := by have := hb.size; simp at this; omega
    have hne : ¬ w.heap.size = w1.heap.size := by omega
    go_wp2_with fail
    refine (W1.out _).mono ?_
    rintro e w' ⟨rfl, ⟨n1, rfl⟩⟩
    go_wp2_with fail
    refine (W2.out _).mono ?_
    rintro e w' ⟨rfl, ⟨n2, rfl⟩⟩
    go_wp2_with fail
    refine (W3.out _).mono ?_
    rintro e w' ⟨rfl, ⟨n3, rfl⟩⟩
    go_wp2_with fail
    refine (HUS.out _).mono ?_
    rintro e w' ⟨rfl, rfl⟩
    have d4 := cell_old c4 (n1 + n2 + n3) (.cells #[.bool x0, .bool x1, .bool false, .bool x3] 137)
    go_wp2_with fail
    refine (HCU.out _).mono ?_
    rintro e w' ⟨rfl, ⟨n4, rfl⟩⟩
    go_wp2_with fail
    refine (W4.out _).mono ?_
    rintro e w' ⟨rfl, ⟨n5, rfl⟩⟩
    go_wp2_with fail
    go_ret2
    exact ⟨rfl, by repeat (first | exact boxed hb | refine Below.alloc ?_ (by simp; omega) _ | apply below_drewN)⟩
end Go.Proofs.YthnbdeibjbicpaaGreat.I6

/- Contracts of isa.Decode and of the reference's. Conditions: a word. -/
set_option linter.unusedSimpArgs false
namespace Go.Proofs.YthnbdeibjbicpaaGreat.I7
set_option linter.unusedVariables false
open Go.RowKit Go.Proofs.YthnbdeibjbicpaaGreat.WM Go.Proofs.YthnbdeibjbicpaaGreat.IM Go.Proofs.YthnbdeibjbicpaaGreat.W1 Go.Proofs.YthnbdeibjbicpaaGreat.I1 Go.Proofs.YthnbdeibjbicpaaGreat.I6
theorem bits_at {x : Nat} {a n : Int} {y : Nat} (w : World) (hx : x < 4294967296) (h0 : 0 ≤ a) (h1 : 0 ≤ n) (h : a + n ≤ 32) (hy : x / 2 ^ a.toNat % 2 ^ n.toNat = y) :
    Calls Tryz.prog 74 #[.int .u32 (x : Int), .int .i64 a, .int .i64 n] w fun e w' => e = .returned (.int .u32 (y : Int)) ∧ Drew w w' := by
  obtain ⟨a, rfl⟩ := Int.eq_ofNat_of_zero_le h0
  obtain ⟨n, rfl⟩ := Int.eq_ofNat_of_zero_le h1
  have h := bits_yes x a n w hx (by omega)
  rw [Int.toNat_natCast, Int.toNat_natCast] at hy
  rwa [hy] at h
theorem rbits_at {x : Nat} {a n : Int} {y : Nat} (w : World) (hx : x < 4294967296) (h0 : 0 ≤ a) (h1 : 0 ≤ n) (h : a + n ≤ 32) (hy : x / 2 ^ a.toNat % 2 ^ n.toNat = y) :
    Calls Tryz.prog 84 #[.int .u32 (x : Int), .int .i64 a, .int .i64 n] w fun e w' => e = .returned (.int .u32 (y : Int)) ∧ Drew w w' := by
  obtain ⟨a, rfl⟩ := Int.eq_ofNat_of_zero_le h0
  obtain ⟨n, rfl⟩ := Int.eq_ofNat_of_zero_le h1
  have h := rbits_yes x a n w hx (by omega)
  rw [Int.toNat_natCast, Int.toNat_natCast] at hy
  rwa [hy] at h
/-- Encode, whatever it tells. -/
def encV (op d a b : Nat) (imm : Int) : Nat := if chk op d a b imm = 0 then encN op d a b imm else 0
theorem encode_c (op d a b : Nat) (imm : Int) (w : World) (hm : -2147483648 ≤ imm) (hM : imm ≤ 2147483647) :
    Calls Tryz.prog 77 #[.agg #[.int .u8 (op : Int), .int .u8 (d : Int), .int .u8 (a : Int), .int .u8 (b : Int), .int .i32 imm]] w fun e w' => e = .returned (.tuple #[.int .u32 ((encV op d a b imm : Nat) : Int), .int .i64 (chk op d a b imm)]) ∧ Below w.heap.size w w' := by
  unfold encV
  by_cases h : chk op d a b imm = 0
  · rw [if_pos h, h]; exact encode_ok op d a b imm w hm hM h
  · rw [if_neg h]; exact encode_no op d a b imm w hm hM h
theorem rencode_c (op d a b : Nat) (imm : Int) (w : World) (hm : -2147483648 ≤ imm) (hM : imm ≤ 2147483647) :
    Calls Tryz.prog 87 #[.agg #[.int .u8 (op : Int), .int .u8 (d : Int), .int .u8 (a : Int), .int .u8 (b : Int), .int .i32 imm]] w fun e w' => e = .returned (.tuple #[.int .u32 ((encV op d a b imm : Nat) : Int), .int .i64 (chk op d a b imm)]) ∧ Below w.heap.size w w' := by
  unfold encV
  by_cases h : chk op d a b imm = 0
  · rw [if_pos h, h]; exact rencode_ok op d a b imm w hm hM h
  · rw [if_neg h]; exact rencode_no op d a b imm w hm hM h
set_option maxHeartbeats 4000000 in
theorem decode_go (x o d a b : Nat) (imm : Int) (w : World) (hx : x < 4294967296) (ho : dOp x = o) (hd : dD x = d) (ha : dA x = a) (hb : dB x = b) (hi : dI x = imm) (ub0 : Bool) (hu : ub o = ub0) (c : Int) (hc : chk o d a b imm = c) (n : Nat) (hn : encV o d a b imm = n)
    (t1 t2 : Bool) (ht1 : (c != 0) = t1) (ht2 : ((n : Int) != (x : Int)) = t2) :
    Calls Tryz.prog 27 #[.int .u32 (x : Int)] w fun e w' => (if (t1 || t2) = true then e = .returned (.tuple #[.agg #[.int .u8 0, .int .u8 0, .int .u8 0, .int .u8 0, .int .i32 0], .int .i64 10]) else e = .returned (.tuple #[.agg #[.int .u8 (o : Int), .int .u8 (d : Int), .int .u8 (a : Int), .int .u8 (b : Int), .int .i32 imm], .int .i64 0])) ∧ Below w.heap.size w w' := by
  have lo : o < 32 := by rw [← ho]; unfold dOp; omega
  have ld : d < 8 := by rw [← hd]; unfold dD; omega
  have la : a < 8 := by rw [← ha]; unfold dA; omega
  have hs := sgn_range x 21 (by omega) (by omega)
  have b27 := fun W => bits_at (x := x) (a := 27) (n := 5) (y := o) W hx (by omega) (by omega) (by omega) (by rw [← ho]; unfold dOp; show x / 2 ^ 27 % 2 ^ 5 = _; simp only [Nat.reducePow]; omega)
  have b24 := fun W => bits_at (x := x) (a := 24) (n := 3) (y := d) W hx (by omega) (by omega) (by omega) (by rw [← hd]; rfl)
  have b21 := fun W => bits_at (x := x) (a := 21) (n := 3) (y := a) W hx (by omega) (by omega) (by omega) (by rw [← ha]; rfl)
  have B27 := Lib.hid b27
  have B24 := Lib.hid b24
  have B21 := Lib.hid b21
  have hus := fun W => uses_c o W
  rw [hu] at hus
  generalize ud o = x0 at hus
  generalize ua o = x1 at hus
  generalize ui o = x3 at hus
  have HUS := Lib.hid hus
  have hen := fun W hm hM => encode_c o d a b imm W hm hM
  rw [hc, hn] at hen
  have HEN := Lib.hid hen
  cases ub0 with
  | true =>
    have e1 : dB x = x % 8 := by unfold dB; rw [ho, hu, if_pos rfl]
    have e2 : dI x = 0 := by unfold dI; rw [ho, hu, if_pos rfl]
    have lb : b < 8 := by rw [← hb, e1]; omega
    have hi0 : imm = 0 := by rw [← hi, e2]
    have b0 := fun W => bits_at (x := x) (a := 0) (n := 3) (y := b) W hx (by omega) (by omega) (by omega) (by rw [← hb, e1]; show x / 2 ^ 0 % 2 ^ 3 = _; simp)
    have B0 := Lib.hid b0
    subst hi0
    clear ho hd ha hb hi hu hc hn b27 b24 b21 hus hen e1 e2 b0 hs
    go_enter Tryz.func27, Tryz.ntmps27
    go_wp2_with fail
    refine (B27.out _).mono ?_
    rintro e w' ⟨rfl, ⟨n1, rfl⟩⟩
    go_wp2_with fail
    refine (B24.out _).mono ?_
    rintro e w' ⟨rfl, ⟨n2, rfl⟩⟩
    go_wp2_with fail
    refine (B21.out _).mono ?_
    rintro e w' ⟨rfl, ⟨n3, rfl⟩⟩
    go_wp2_with fail
    refine (HUS.out _).mono ?_
    rintro e w' ⟨rfl, ⟨n4, rfl⟩⟩
    go_wp2_with fail
    refine (B0.out _).mono ?_
    rintro e w' ⟨rfl, ⟨n5, rfl⟩⟩
    go_wp2_with fail
    have kR : Blk (((((w.alloc (.cells #[.int .u8 0, .int .u8 0, .int .u8 0, .int .u8 0, .int .i32 0] 78)).drewN (n1 + n2 + n3)).alloc (.cells #[.int .u8 (o : Int), .int .u8 (d : Int), .int .u8 (a : Int), .int .u8 0, .int .i32 0] 78)).drewN (n4 + n5)).setCell ⟨w.heap.size + 1, 3, none⟩ (.int .u8 (b : Int))) w.heap.size 78 #[.int .u8 0, .int .u8 0, .int .u8 0, .int .u8 0, .int .i32 0] := (((((Blk.new w 78 _).drewN _).alloc _).drewN _).far (by simp) _)
    have kI : Blk (((((w.alloc (.cells #[.int .u8 0, .int .u8 0, .int .u8 0, .int .u8 0, .int .i32 0] 78)).drewN (n1 + n2 + n3)).alloc (.cells #[.int .u8 (o : Int), .int .u8 (d : Int), .int .u8 (a : Int), .int .u8 0, .int .i32 0] 78)).drewN (n4 + n5)).setCell ⟨w.heap.size + 1, 3, none⟩ (.int .u8 (b : Int))) (w.heap.size + 1) 78 #[.int .u8 (o : Int), .int .u8 (d : Int), .int .u8 (a : Int), .int .u8 (b : Int), .int .i32 0] := by
      have h0 := Blk.new ((w.alloc (.cells #[.int .u8 0, .int .u8 0, .int .u8 0, .int .u8 0, .int .i32 0] 78)).drewN (n1 + n2 + n3)) 78 #[.int .u8 (o : Int), .int .u8 (d : Int), .int .u8 (a : Int), .int .u8 0, .int .i32 0]
      rw [show ((w.alloc (.cells #[.int .u8 0, .int .u8 0, .int .u8 0, .int .u8 0, .int .i32 0] 78)).drewN (n1 + n2 + n3)).heap.size = w.heap.size + 1 from by simp] at h0
      exact (h0.drewN _).set_ 3 _
    refine (HEN.out _ (by omega) (by omega)).mono ?_
    rintro e w1 ⟨rfl, hb⟩
    obtain ⟨c0, c1, c2, c3, c4⟩ := (kR.kept hb).five
    obtain ⟨f0, f1, f2, f3, f4⟩ := (kR.kept hb).five_free
    obtain ⟨g0, g1, g2, g3, g4⟩ := (kI.kept hb).five
    have hsz : w.heap.size < w1.heap.size := (kR.kept hb).lt
    have hbw : Below w.heap.size w w1 := by
      refine Below.trans ?_ (hb.mono (by simp <;> omega))
      exact ((below_drewN ((below_drewN ((Below.refl _ _).alloc (Nat.le_refl _) _) _).alloc (by simp) _) _).setCell (by simp <;> omega) _)
    clear kR kI hb
    cases t1 with
    | true =>
      go_wp2
      refine bodyPost_ret (v := .tuple #[.agg #[.int .u8 0, .int .u8 0, .int .u8 0, .int .u8 0, .int .i32 0], .int .i64 10]) (by simp [results, Tryz.results27, go_sem, *]) rfl ?_
      exact ⟨rfl, by repeat (first | exact hbw | refine Below.setCell ?_ (by simp) _)⟩
    | false =>
      cases t2 with
      | true =>
        go_wp2
        refine bodyPost_ret (v := .tuple #[.agg #[.int .u8 0, .int .u8 0, .int .u8 0, .int .u8 0, .int .i32 0], .int .i64 10]) (by simp [results, Tryz.results27, go_sem, *]) rfl ?_
        exact ⟨rfl, by repeat (first | exact hbw | refine Below.setCell ?_ (by simp) _)⟩
      | false =>
        go_wp2
        refine bodyPost_ret (v := .tuple #[.agg #[.int .u8 (o : Int), .int .u8 (d : Int), .int .u8 (a : Int), .int .u8 (b : Int), .int .i32 0], .int .i64 0]) (by simp [results, Tryz.results27, go_sem, *]) rfl ?_
        exact ⟨rfl, by repeat (first | exact hbw | refine Below.setCell ?_ (by simp) _)⟩
  | false =>
    have e1 : dB x = 0 := by unfold dB; rw [ho, hu, if_neg (by decide)]
    have e2 : dI x = sgn x 21 := by unfold dI; rw [ho, hu, if_neg (by decide)]
    have hb0 : b = 0 := by rw [← hb, e1]
    have hi0 : sgn x 21 = imm := by rw [← hi, e2]
    have b0 := fun W => signed_yes x 21 W (by omega) (by omega)
    rw [hi0] at b0 hs
    have B0 := Lib.hid b0
    subst hb0
    clear ho hd ha hb hi hu hc hn b27 b24 b21 hus hen e1 e2 b0 hi0
    go_enter Tryz.func27, Tryz.ntmps27
    go_wp2_with fail
    refine (B27.out _).mono ?_
    rintro e w' ⟨rfl, ⟨n1, rfl⟩⟩
    go_wp2_with fail
    refine (B24.out _).mono ?_
    rintro e w' ⟨rfl, ⟨n2, rfl⟩⟩
    go_wp2_with fail
    refine (B21.out _).mono ?_
    rintro e w' ⟨rfl, ⟨n3, rfl⟩⟩
    go_wp2_with fail
    refine (HUS.out _).mono ?_
    rintro e w' ⟨rfl, ⟨n4, rfl⟩⟩
    go_wp2_with fail
    refine (B0.out _).mono ?_
    rintro e w' ⟨rfl, ⟨n5, rfl⟩⟩
    go_wp2_with fail
    have kR : Blk (((((w.alloc (.cells #[.int .u8 0, .int .u8 0, .int .u8 0, .int .u8 0, .int .i32 0] 78)).drewN (n1 + n2 + n3)).alloc (.cells #[.int .u8 (o : Int), .int .u8 (d : Int), .int .u8 (a : Int), .int .u8 0, .int .i32 0] 78)).drewN (n4 + n5)).setCell ⟨w.heap.size + 1, 4, none⟩ (.int .i32 imm)) w.heap.size 78 #[.int .u8 0, .int .u8 0, .int .u8 0, .int .u8 0, .int .i32 0] := (((((Blk.new w 78 _).drewN _).alloc _).drewN _).far (by simp) _)
    have kI : Blk (((((w.alloc (.cells #[.int .u8 0, .int .u8 0, .int .u8 0, .int .u8 0, .int .i32 0] 78)).drewN (n1 + n2 + n3)).alloc (.cells #[.int .u8 (o : Int), .int .u8 (d : Int), .int .u8 (a : Int), .int .u8 0, .int .i32 0] 78)).drewN (n4 + n5)).setCell ⟨w.heap.size + 1, 4, none⟩ (.int .i32 imm)) (w.heap.size + 1) 78 #[.int .u8 (o : Int), .int .u8 (d : Int), .int .u8 (a : Int), .int .u8 0, .int .i32 imm] := by
      have h0 := Blk.new ((w.alloc (.cells #[.int .u8 0, .int .u8 0, .int .u8 0, .int .u8 0, .int .i32 0] 78)).drewN (n1 + n2 + n3)) 78 #[.int .u8 (o : Int), .int .u8 (d : Int), .int .u8 (a : Int), .int .u8 0, .int .i32 0]
      rw [show ((w.alloc (.cells #[.int .u8 0, .int .u8 0, .int .u8 0, .int .u8 0, .int .i32 0] 78)).drewN (n1 + n2 + n3)).heap.size = w.heap.size + 1 from by simp] at h0
      exact (h0.drewN _).set_ 4 _
    refine (HEN.out _ (by omega) (by omega)).mono ?_
    rintro e w1 ⟨rfl, hb⟩
    obtain ⟨c0, c1, c2, c3, c4⟩ := (kR.kept hb).five
    obtain ⟨f0, f1, f2, f3, f4⟩ := (kR.kept hb).five_free
    obtain ⟨g0, g1, g2, g3, g4⟩ := (kI.kept hb).five
    have hsz : w.heap.size < w1.heap.size := (kR.kept hb).lt
    have hbw : Below w.heap.size w w1 := by
      refine Below.trans ?_ (hb.mono (by simp <;> omega))
      exact ((below_drewN ((below_drewN ((Below.refl _ _).alloc (Nat.le_refl _) _) _).alloc (by simp) _) _).setCell (by simp <;> omega) _)
    clear kR kI hb
    cases t1 with
    | true =>
      go_wp2
      refine bodyPost_ret (v := .tuple #[.agg #[.int .u8 0, .int .u8 0, .int .u8 0, .int .u8 0, .int .i32 0], .int .i64 10]) (by simp [results, Tryz.results27, go_sem, *]) rfl ?_
      exact ⟨rfl, by repeat (first | exact hbw | refine Below.setCell ?_ (by simp) _)⟩
    | false =>
      cases t2 with
      | true =>
        go_wp2
        refine bodyPost_ret (v := .tuple #[.agg #[.int .u8 0, .int .u8 0, .int .u8 0, .int .u8 0, .int .i32 0], .int .i64 10]) (by simp [results, Tryz.results27, go_sem, *]) rfl ?_
        exact ⟨rfl, by repeat (first | exact hbw | refine Below.setCell ?_ (by simp) _)⟩
      | false =>
        go_wp2
        refine bodyPost_ret (v := .tuple #[.agg #[.int .u8 (o : Int), .int .u8 (d : Int), .int .u8 (a : Int), .int .u8 0, .int .i32 imm], .int .i64 0]) (by simp [results, Tryz.results27, go_sem, *]) rfl ?_
        exact ⟨rfl, by repeat (first | exact hbw | refine Below.setCell ?_ (by simp) _)⟩
end Go.Proofs.YthnbdeibjbicpaaGreat.I7

/- Contract of the reference's Decode. Conditions: a word. -/
set_option linter.unusedSimpArgs false
namespace Go.Proofs.YthnbdeibjbicpaaGreat.I8
set_option linter.unusedVariables false
open Go.RowKit Go.Proofs.YthnbdeibjbicpaaGreat.WM Go.Proofs.YthnbdeibjbicpaaGreat.IM Go.Proofs.YthnbdeibjbicpaaGreat.W1 Go.Proofs.YthnbdeibjbicpaaGreat.I1 Go.Proofs.YthnbdeibjbicpaaGreat.I6 Go.Proofs.YthnbdeibjbicpaaGreat.I7
set_option maxHeartbeats 4000000 in
theorem rdecode_go (x o d a b : Nat) (imm : Int) (w : World) (hx : x < 4294967296) (ho : dOp x = o) (hd : dD x = d) (ha : dA x = a) (hb : dB x = b) (hi : dI x = imm) (ub0 : Bool) (hu : ub o = ub0) (c : Int) (hc : chk o d a b imm = c) (n : Nat) (hn : encV o d a b imm = n)
    (t1 t2 : Bool) (ht1 : (c != 0) = t1) (ht2 : ((n : Int) != (x : Int)) = t2) :
    Calls Tryz.prog 36 #[.int .u32 (x : Int)] w fun e w' => (if (t1 || t2) = true then e = .returned (.tuple #[.agg #[.int .u8 0, .int .u8 0, .int .u8 0, .int .u8 0, .int .i32 0], .int .i64 10]) else e = .returned (.tuple #[.agg #[.int .u8 (o : Int), .int .u8 (d : Int), .int .u8 (a : Int), .int .u8 (b : Int), .int .i32 imm], .int .i64 0])) ∧ Below w.heap.size w w' := by
  have lo : o < 32 := by rw [← ho]; unfold dOp; omega
  have ld : d < 8 := by rw [← hd]; unfold dD; omega
  have la : a < 8 := by rw [← ha]; unfold dA; omega
  have hs := sgn_range x 21 (by omega) (by omega)
  have b27 := fun W => rbits_at (x := x) (a := 27) (n := 5) (y := o) W hx (by omega) (by omega) (by omega) (by rw [← ho]; unfold dOp; show x / 2 ^ 27 % 2 ^ 5 = _; simp only [Nat.reducePow]; omega)
  have b24 := fun W => rbits_at (x := x) (a := 24) (n := 3) (y := d) W hx (by omega) (by omega) (by omega) (by rw [← hd]; rfl)
  have b21 := fun W => rbits_at (x := x) (a := 21) (n := 3) (y := a) W hx (by omega) (by omega) (by omega) (by rw [← ha]; rfl)
  have B27 := Lib.hid b27
  have B24 := Lib.hid b24
  have B21 := Lib.hid b21
  have hus := fun W => ruses_c o W
  rw [hu] at hus
  generalize ud o = x0 at hus
  generalize ua o = x1 at hus
  generalize ui o = x3 at hus
  have HUS := Lib.hid hus
  have hix : ∀ (W : World), (Instr.index 137 (.agg #[.bool x0, .bool x1, .bool ub0, .bool x3]) (.int .i64 2)).run Tryz.prog W = .ok (.bool ub0) W := fun _ => by kernel_rfl
  have hen := fun W hm hM => rencode_c o d a b imm W hm hM
  rw [hc, hn] at hen
  have HEN := Lib.hid hen
  cases ub0 with
  | true =>
    have e1 : dB x = x % 8 := by unfold dB; rw [ho, hu, if_pos rfl]
    have e2 : dI x = 0 := by unfold dI; rw [ho, hu, if_pos rfl]
    have lb : b < 8 := by rw [← hb, e1]; omega
    have hi0 : imm = 0 := by rw [← hi, e2]
    have b0 := fun W => rbits_at (x := x) (a := 0) (n := 3) (y := b) W hx (by omega) (by omega) (by omega) (by rw [← hb, e1]; show x / 2 ^ 0 % 2 ^ 3 = _; simp)
    have B0 := Lib.hid b0
    subst hi0
    clear ho hd ha hb hi hu hc hn b27 b24 b21 hus hen e1 e2 b0 hs
    go_enter Tryz.func36, Tryz.ntmps36
    go_wp2_with fail
    refine (B27.out _).mono ?_
    rintro e w' ⟨rfl, ⟨n1, rfl⟩⟩
    go_wp2_with fail
    refine (B24.out _).mono ?_
    rintro e w' ⟨rfl, ⟨n2, rfl⟩⟩
    go_wp2_with fail
    refine (B21.out _).mono ?_
    rintro e w' ⟨rfl, ⟨n3, rfl⟩⟩
    go_wp2_with fail
    refine (HUS.out _).mono ?_
    rintro e w' ⟨rfl, rfl⟩
    go_wp2_with fail
    refine (B0.out _).mono ?_
    rintro e w' ⟨rfl, ⟨n5, rfl⟩⟩
    go_wp2_with fail
    have kR : Blk ((((((w.alloc (.cells #[.int .u8 0, .int .u8 0, .int .u8 0, .int .u8 0, .int .i32 0] 78)).drewN (n1 + n2 + n3)).alloc (.cells #[.int .u8 (o : Int), .int .u8 (d : Int), .int .u8 (a : Int), .int .u8 0, .int .i32 0] 78)).alloc (.cells #[.bool x0, .bool x1, .bool true, .bool x3] 137)).drewN n5).setCell ⟨w.heap.size + 1, 3, none⟩ (.int .u8 (b : Int))) w.heap.size 78 #[.int .u8 0, .int .u8 0, .int .u8 0, .int .u8 0, .int .i32 0] := ((((((Blk.new w 78 _).drewN _).alloc _).alloc _).drewN _).far (by simp) _)
    have kI : Blk ((((((w.alloc (.cells #[.int .u8 0, .int .u8 0, .int .u8 0, .int .u8 0, .int .i32 0] 78)).drewN (n1 + n2 + n3)).alloc (.cells #[.int .u8 (o : Int), .int .u8 (d : Int), .int .u8 (a : Int), .int .u8 0, .int .i32 0] 78)).alloc (.cells #[.bool x0, .bool x1, .bool true, .bool x3] 137)).drewN n5).setCell ⟨w.heap.size + 1, 3, none⟩ (.int .u8 (b : Int))) (w.heap.size + 1) 78 #[.int .u8 (o : Int), .int .u8 (d : Int), .int .u8 (a : Int), .int .u8 (b : Int), .int .i32 0] := by
      have h0 := Blk.new ((w.alloc (.cells #[.int .u8 0, .int .u8 0, .int .u8 0, .int .u8 0, .int .i32 0] 78)).drewN (n1 + n2 + n3)) 78 #[.int .u8 (o : Int), .int .u8 (d : Int), .int .u8 (a : Int), .int .u8 0, .int .i32 0]
      rw [show ((w.alloc (.cells #[.int .u8 0, .int .u8 0, .int .u8 0, .int .u8 0, .int .i32 0] 78)).drewN (n1 + n2 + n3)).heap.size = w.heap.size + 1 from by simp] at h0
      exact ((h0.alloc _).drewN _).set_ 3 _
    refine (HEN.out _ (by omega) (by omega)).mono ?_
    rintro e w1 ⟨rfl, hb⟩
    obtain ⟨c0, c1, c2, c3, c4⟩ := (kR.kept hb).five
    obtain ⟨f0, f1, f2, f3, f4⟩ := (kR.kept hb).five_free
    obtain ⟨g0, g1, g2, g3, g4⟩ := (kI.kept hb).five
    have hsz : w.heap.size < w1.heap.size := (kR.kept hb).lt
    have hbw : Below w.heap.size w w1 := by
      refine Below.trans ?_ (hb.mono (by simp <;> omega))
      exact ((below_drewN (((below_drewN ((Below.refl _ _).alloc (Nat.le_refl _) _) _).alloc (by simp) _).alloc (by simp <;> omega) _) _).setCell (by simp <;> omega) _)
    clear kR kI hb
    cases t1 with
    | true =>
      go_wp2
      refine bodyPost_ret (v := .tuple #[.agg #[.int .u8 0, .int .u8 0, .int .u8 0, .int .u8 0, .int .i32 0], .int .i64 10]) (by simp [results, Tryz.results36, go_sem, *]) rfl ?_
      exact ⟨rfl, by repeat (first | exact hbw | refine Below.setCell ?_ (by simp) _)⟩
    | false =>
      cases t2 with
      | true =>
        go_wp2
        refine bodyPost_ret (v := .tuple #[.agg #[.int .u8 0, .int .u8 0, .int .u8 0, .int .u8 0, .int .i32 0], .int .i64 10]) (by simp [results, Tryz.results36, go_sem, *]) rfl ?_
        exact ⟨rfl, by repeat (first | exact hbw | refine Below.setCell ?_ (by simp) _)⟩
      | false =>
        go_wp2
        refine bodyPost_ret (v := .tuple #[.agg #[.int .u8 (o : Int), .int .u8 (d : Int), .int .u8 (a : Int), .int .u8 (b : Int), .int .i32 0], .int .i64 0]) (by simp [results, Tryz.results36, go_sem, *]) rfl ?_
        exact ⟨rfl, by repeat (first | exact hbw | refine Below.setCell ?_ (by simp) _)⟩
  | false =>
    have e1 : dB x = 0 := by unfold dB; rw [ho, hu, if_neg (by decide)]
    have e2 : dI x = sgn x 21 := by unfold dI; rw [ho, hu, if_neg (by decide)]
    have hb0 : b = 0 := by rw [← hb, e1]
    have hi0 : sgn x 21 = imm := by rw [← hi, e2]
    have b0 := fun W => rsigned_yes x 21 W hx (by omega) (by omega)
    rw [hi0] at b0 hs
    have B0 := Lib.hid b0
    subst hb0
    clear ho hd ha hb hi hu hc hn b27 b24 b21 hus hen e1 e2 b0 hi0
    go_enter Tryz.func36, Tryz.ntmps36
    go_wp2_with fail
    refine (B27.out _).mono ?_
    rintro e w' ⟨rfl, ⟨n1, rfl⟩⟩
    go_wp2_with fail
    refine (B24.out _).mono ?_
    rintro e w' ⟨rfl, ⟨n2, rfl⟩⟩
    go_wp2_with fail
    refine (B21.out _).mono ?_
    rintro e w' ⟨rfl, ⟨n3, rfl⟩⟩
    go_wp2_with fail
    refine (HUS.out _).mono ?_
    rintro e w' ⟨rfl, rfl⟩
    go_wp2_with fail
    refine (B0.out _).mono ?_
    rintro e w' ⟨rfl, ⟨n5, rfl⟩⟩
    go_wp2_with fail
    have kR : Blk ((((((w.alloc (.cells #[.int .u8 0, .int .u8 0, .int .u8 0, .int .u8 0, .int .i32 0] 78)).drewN (n1 + n2 + n3)).alloc (.cells #[.int .u8 (o : Int), .int .u8 (d : Int), .int .u8 (a : Int), .int .u8 0, .int .i32 0] 78)).alloc (.cells #[.bool x0, .bool x1, .bool false, .bool x3] 137)).drewN n5).setCell ⟨w.heap.size + 1, 4, none⟩ (.int .i32 imm)) w.heap.size 78 #[.int .u8 0, .int .u8 0, .int .u8 0, .int .u8 0, .int .i32 0] := ((((((Blk.new w 78 _).drewN _).alloc _).alloc _).drewN _).far (by simp) _)
    have kI : Blk ((((((w.alloc (.cells #[.int .u8 0, .int .u8 0, .int .u8 0, .int .u8 0, .int .i32 0] 78)).drewN (n1 + n2 + n3)).alloc (.cells #[.int .u8 (o : Int), .int .u8 (d : Int), .int .u8 (a : Int), .int .u8 0, .int .i32 0] 78)).alloc (.cells #[.bool x0, .bool x1, .bool false, .bool x3] 137)).drewN n5).setCell ⟨w.heap.size + 1, 4, none⟩ (.int .i32 imm)) (w.heap.size + 1) 78 #[.int .u8 (o : Int), .int .u8 (d : Int), .int .u8 (a : Int), .int .u8 0, .int .i32 imm] := by
      have h0 := Blk.new ((w.alloc (.cells #[.int .u8 0, .int .u8 0, .int .u8 0, .int .u8 0, .int .i32 0] 78)).drewN (n1 + n2 + n3)) 78 #[.int .u8 (o : Int), .int .u8 (d : Int), .int .u8 (a : Int), .int .u8 0, .int .i32 0]
      rw [show ((w.alloc (.cells #[.int .u8 0, .int .u8 0, .int .u8 0, .int .u8 0, .int .i32 0] 78)).drewN (n1 + n2 + n3)).heap.size = w.heap.size + 1 from by simp] at h0
      exact ((h0.alloc _).drewN _).set_ 4 _
    refine (HEN.out _ (by omega) (by omega)).mono ?_
    rintro e w1 ⟨rfl, hb⟩
    obtain ⟨c0, c1, c2, c3, c4⟩ := (kR.kept hb).five
    obtain ⟨f0, f1, f2, f3, f4⟩ := (kR.kept hb).five_free
    obtain ⟨g0, g1, g2, g3, g4⟩ := (kI.kept hb).five
    have hsz : w.heap.size < w1.heap.size := (kR.kept hb).lt
    have hbw : Below w.heap.size w w1 := by
      refine Below.trans ?_ (hb.mono (by simp <;> omega))
      exact ((below_drewN (((below_drewN ((Below.refl _ _).alloc (Nat.le_refl _) _) _).alloc (by simp) _).alloc (by simp <;> omega) _) _).setCell (by simp <;> omega) _)
    clear kR kI hb
    cases t1 with
    | true =>
      go_wp2
      refine bodyPost_ret (v := .tuple #[.agg #[.int .u8 0, .int .u8 0, .int .u8 0, .int .u8 0, .int .i32 0], .int .i64 10]) (by simp [results, Tryz.results36, go_sem, *]) rfl ?_
      exact ⟨rfl, by repeat (first | exact hbw | refine Below.setCell ?_ (by simp) _)⟩
    | false =>
      cases t2 with
      | true =>
        go_wp2
        refine bodyPost_ret (v := .tuple #[.agg #[.int .u8 0, .int .u8 0, .int .u8 0, .int .u8 0, .int .i32 0], .int .i64 10]) (by simp [results, Tryz.results36, go_sem, *]) rfl ?_
        exact ⟨rfl, by repeat (first | exact hbw | refine Below.setCell ?_ (by simp) _)⟩
      | false =>
        go_wp2
        refine bodyPost_ret (v := .tuple #[.agg #[.int .u8 (o : Int), .int .u8 (d : Int), .int .u8 (a : Int), .int .u8 0, .int .i32 imm], .int .i64 0]) (by simp [results, Tryz.results36, go_sem, *]) rfl ?_
        exact ⟨rfl, by repeat (first | exact hbw | refine Below.setCell ?_ (by simp) _)⟩
end Go.Proofs.YthnbdeibjbicpaaGreat.I8

/- Contracts of isa.Target and of the reference's. Conditions: the bounds of the kinds. -/
set_option linter.unusedSimpArgs false
namespace Go.Proofs.YthnbdeibjbicpaaGreat.I9
set_option linter.unusedVariables false
open Go.RowKit Go.Proofs.YthnbdeibjbicpaaGreat.WM Go.Proofs.YthnbdeibjbicpaaGreat.IM Go.Proofs.YthnbdeibjbicpaaGreat.W1 Go.Proofs.YthnbdeibjbicpaaGreat.I1 Go.Proofs.YthnbdeibjbicpaaGreat.I2 Go.Proofs.YthnbdeibjbicpaaGreat.I6
/-- Does it go anywhere? -/
def tgtB (op d a b : Nat) (imm : Int) : Bool := decide (chk op d a b imm = 0 ∧ (op = 14 ∨ op = 15 ∨ op = 16 ∨ op = 17))
/-- Where. -/
def tgt (at_ : Nat) (op d a b : Nat) (imm : Int) : Int := if tgtB op d a b imm = true then (if op = 17 then imm % 4294967296 else (((at_ : Int) + 1) % 4294967296 + imm % 4294967296) % 4294967296) else 0
theorem tgt_no {at_ op d a b : Nat} {imm : Int} (h : tgtB op d a b imm = false) : tgt at_ op d a b imm = 0 := by unfold tgt; rw [h]; rfl
theorem tgt_call {at_ op d a b : Nat} {imm : Int} (h : tgtB op d a b imm = true) (e : op = 17) : tgt at_ op d a b imm = imm % 4294967296 := by unfold tgt; rw [if_pos h, if_pos e]
theorem tgt_jump {at_ op d a b : Nat} {imm : Int} (h : tgtB op d a b imm = true) (e : op ≠ 17) : tgt at_ op d a b imm = (((at_ : Int) + 1) % 4294967296 + imm % 4294967296) % 4294967296 := by unfold tgt; rw [if_pos h, if_neg e]
theorem target_0 (x op d a b : Nat) (imm : Int) (w : World) (hm : -2147483648 ≤ imm) (hM : imm ≤ 2147483647) (h : chk op d a b imm ≠ 0) :
    Calls Tryz.prog 80 #[.int .u32 (x : Int), .agg #[.int .u8 (op : Int), .int .u8 (d : Int), .int .u8 (a : Int), .int .u8 (b : Int), .int .i32 imm]] w fun e w' => e = .returned (.tuple #[.int .u32 (tgt x op d a b imm), .bool (tgtB op d a b imm)]) ∧ Below w.heap.size w w' := by
  have ht : tgtB op d a b imm = false := by unfold tgtB; exact decide_eq_false (by omega)
  have HT1 := Lib.hid (tgt_no (at_ := x) ht)
  have HT2 := Lib.hid ht
  clear ht
  obtain ⟨c, hc⟩ : ∃ c, c = chk op d a b imm := ⟨_, rfl⟩
  have hq : (c != 0) = true := by rw [bne_iff_ne, hc]; exact h
  have hchk := fun W => check_c op d a b imm W hm hM
  rw [← hc] at hchk; clear h hc
  have HCK := Lib.hid hchk
  clear hchk
  go_enter Tryz.func80, Tryz.ntmps80
  go_wp2_with fail
  refine (HCK.out _).mono ?_
  rintro e w1 ⟨rfl, hb⟩
  obtain ⟨c0, c1, c2, c3, c4⟩ := box5 hb
  go_wp2_with fail
  go_ret2
  exact ⟨by rw [HT1.out, HT2.out]; rfl, boxed hb⟩
theorem target_1 (x op d a b : Nat) (imm : Int) (w : World) (hm : -2147483648 ≤ imm) (hM : imm ≤ 2147483647) (h : chk op d a b imm = 0) (e : op = 14) :
    Calls Tryz.prog 80 #[.int .u32 (x : Int), .agg #[.int .u8 (op : Int), .int .u8 (d : Int), .int .u8 (a : Int), .int .u8 (b : Int), .int .i32 imm]] w fun e w' => e = .returned (.tuple #[.int .u32 (tgt x op d a b imm), .bool (tgtB op d a b imm)]) ∧ Below w.heap.size w w' := by
  have ht : tgtB op d a b imm = true := by unfold tgtB; exact decide_eq_true (by omega)
  have HT1 := Lib.hid (tgt_jump (at_ := x) ht (by omega))
  have HT2 := Lib.hid ht
  clear ht
  have q14 : ((op : Int) == 14) = true := by rw [e]; rfl
  have q15 : ((op : Int) == 15) = false := by rw [e]; rfl
  have q16 : ((op : Int) == 16) = false := by rw [e]; rfl
  have q17 : ((op : Int) == 17) = false := by rw [e]; rfl
  clear e
  have hchk := fun W => check_c op d a b imm W hm hM
  rw [h] at hchk; clear h
  have HCK := Lib.hid hchk
  clear hchk
  go_enter Tryz.func80, Tryz.ntmps80
  go_wp2_with fail
  refine (HCK.out _).mono ?_
  rintro e w1 ⟨rfl, hb⟩
  obtain ⟨c0, c1, c2, c3, c4⟩ := box5 hb
  go_wp2_with fail
  go_ret2
  exact ⟨by rw [HT1.out, HT2.out]; rfl, boxed hb⟩
theorem target_2 (x op d a b : Nat) (imm : Int) (w : World) (hm : -2147483648 ≤ imm) (hM : imm ≤ 2147483647) (h : chk op d a b imm = 0) (e : op = 15) :
    Calls Tryz.prog 80 #[.int .u32 (x : Int), .agg #[.int .u8 (op : Int), .int .u8 (d : Int), .int .u8 (a : Int), .int .u8 (b : Int), .int .i32 imm]] w fun e w' => e = .returned (.tuple #[.int .u32 (tgt x op d a b imm), .bool (tgtB op d a b imm)]) ∧ Below w.heap.size w w' := by
  have ht : tgtB op d a b imm = true := by unfold tgtB; exact decide_eq_true (by omega)
  have HT1 := Lib.hid (tgt_jump (at_ := x) ht (by omega))
  have HT2 := Lib.hid ht
  clear ht
  have q14 : ((op : Int) == 14) = false := by rw [e]; rfl
  have q15 : ((op : Int) == 15) = true := by rw [e]; rfl
  have q16 : ((op : Int) == 16) = false := by rw [e]; rfl
  have q17 : ((op : Int) == 17) = false := by rw [e]; rfl
  clear e
  have hchk := fun W => check_c op d a b imm W hm hM
  rw [h] at hchk; clear h
  have HCK := Lib.hid hchk
  clear hchk
  go_enter Tryz.func80, Tryz.ntmps80
  go_wp2_with fail
  refine (HCK.out _).mono ?_
  rintro e w1 ⟨rfl, hb⟩
  obtain ⟨c0, c1, c2, c3, c4⟩ := box5 hb
  go_wp2_with fail
  go_ret2
  exact ⟨by rw [HT1.out, HT2.out]; rfl, boxed hb⟩
theorem target_3 (x op d a b : Nat) (imm : Int) (w : World) (hm : -2147483648 ≤ imm) (hM : imm ≤ 2147483647) (h : chk op d a b imm = 0) (e : op = 16) :
    Calls Tryz.prog 80 #[.int .u32 (x : Int), .agg #[.int .u8 (op : Int), .int .u8 (d : Int), .int .u8 (a : Int), .int .u8 (b : Int), .int .i32 imm]] w fun e w' => e = .returned (.tuple #[.int .u32 (tgt x op d a b imm), .bool (tgtB op d a b imm)]) ∧ Below w.heap.size w w' := by
  have ht : tgtB op d a b imm = true := by unfold tgtB; exact decide_eq_true (by omega)
  have HT1 := Lib.hid (tgt_jump (at_ := x) ht (by omega))
  have HT2 := Lib.hid ht
  clear ht
  have q14 : ((op : Int) == 14) = false := by rw [e]; rfl
  have q15 : ((op : Int) == 15) = false := by rw [e]; rfl
  have q16 : ((op : Int) == 16) = true := by rw [e]; rfl
  have q17 : ((op : Int) == 17) = false := by rw [e]; rfl
  clear e
  have hchk := fun W => check_c op d a b imm W hm hM
  rw [h] at hchk; clear h
  have HCK := Lib.hid hchk
  clear hchk
  go_enter Tryz.func80, Tryz.ntmps80
  go_wp2_with fail
  refine (HCK.out _).mono ?_
  rintro e w1 ⟨rfl, hb⟩
  obtain ⟨c0, c1, c2, c3, c4⟩ := box5 hb
  go_wp2_with fail
  go_ret2
  exact ⟨by rw [HT1.out, HT2.out]; rfl, boxed hb⟩
theorem target_4 (x op d a b : Nat) (imm : Int) (w : World) (hm : -2147483648 ≤ imm) (hM : imm ≤ 2147483647) (h : chk op d a b imm = 0) (e : op = 17) :
    Calls Tryz.prog 80 #[.int .u32 (x : Int), .agg #[.int .u8 (op : Int), .int .u8 (d : Int), .int .u8 (a : Int), .int .u8 (b : Int), .int .i32 imm]] w fun e w' => e = .returned (.tuple #[.int .u32 (tgt x op d a b imm), .bool (tgtB op d a b imm)]) ∧ Below w.heap.size w w' := by
  have ht : tgtB op d a b imm = true := by unfold tgtB; exact decide_eq_true (by omega)
  have HT1 := Lib.hid (tgt_call (at_ := x) ht e)
  have HT2 := Lib.hid ht
  clear ht
  have q14 : ((op : Int) == 14) = false := by rw [e]; rfl
  have q15 : ((op : Int) == 15) = false := by rw [e]; rfl
  have q16 : ((op : Int) == 16) = false := by rw [e]; rfl
  have q17 : ((op : Int) == 17) = true := by rw [e]; rfl
  clear e
  have hchk := fun W => check_c op d a b imm W hm hM
  rw [h] at hchk; clear h
  have HCK := Lib.hid hchk
  clear hchk
  go_enter Tryz.func80, Tryz.ntmps80
  go_wp2_with fail
  refine (HCK.out _).mono ?_
  rintro e w1 ⟨rfl, hb⟩
  obtain ⟨c0, c1, c2, c3, c4⟩ := box5 hb
  go_wp2_with fail
  go_ret2
  exact ⟨by rw [HT1.out, HT2.out]; rfl, boxed hb⟩
theorem target_5 (x op d a b : Nat) (imm : Int) (w : World) (hm : -2147483648 ≤ imm) (hM : imm ≤ 2147483647) (h : chk op d a b imm = 0) (e : op ≠ 14 ∧ op ≠ 15 ∧ op ≠ 16 ∧ op ≠ 17) :
    Calls Tryz.prog 80 #[.int .u32 (x : Int), .agg #[.int .u8 (op : Int), .int .u8 (d : Int), .int .u8 (a : Int), .int .u8 (b : Int), .int .i32 imm]] w fun e w' => e = .returned (.tuple #[.int .u32 (tgt x op d a b imm), .bool (tgtB op d a b imm)]) ∧ Below w.heap.size w w' := by
  have ht : tgtB op d a b imm = false := by unfold tgtB; exact decide_eq_false (by omega)
  have HT1 := Lib.hid (tgt_no (at_ := x) ht)
  have HT2 := Lib.hid ht
  clear ht
  have q14 : ((op : Int) == 14) = false := by rw [beq_eq_false_iff_ne]; omega
  have q15 : ((op : Int) == 15) = false := by rw [beq_eq_false_iff_ne]; omega
  have q16 : ((op : Int) == 16) = false := by rw [beq_eq_false_iff_ne]; omega
  have q17 : ((op : Int) == 17) = false := by rw [beq_eq_false_iff_ne]; omega
  clear e
  have hchk := fun W => check_c op d a b imm W hm hM
  rw [h] at hchk; clear h
  have HCK := Lib.hid hchk
  clear hchk
  go_enter Tryz.func80, Tryz.ntmps80
  go_wp2_with fail
  refine (HCK.out _).mono ?_
  rintro e w1 ⟨rfl, hb⟩
  obtain ⟨c0, c1, c2, c3, c4⟩ := box5 hb
  go_wp2_with fail
  go_ret2
  exact ⟨by rw [HT1.out, HT2.out]; rfl, boxed hb⟩
theorem target (x op d a b : Nat) (imm : Int) (w : World) (hm : -2147483648 ≤ imm) (hM : imm ≤ 2147483647)  :
    Calls Tryz.prog 80 #[.int .u32 (x : Int), .agg #[.int .u8 (op : Int), .int .u8 (d : Int), .int .u8 (a : Int), .int .u8 (b : Int), .int .i32 imm]] w fun e w' => e = .returned (.tuple #[.int .u32 (tgt x op d a b imm), .bool (tgtB op d a b imm)]) ∧ Below w.heap.size w w' := by
  by_cases h : chk op d a b imm = 0
  · by_cases e4 : op = 14
    · exact target_1 x op d a b imm w hm hM h e4
    · by_cases e5 : op = 15
      · exact target_2 x op d a b imm w hm hM h e5
      · by_cases e6 : op = 16
        · exact target_3 x op d a b imm w hm hM h e6
        · by_cases e7 : op = 17
          · exact target_4 x op d a b imm w hm hM h e7
          · exact target_5 x op d a b imm w hm hM h ⟨e4, e5, e6, e7⟩
  · exact target_0 x op d a b imm w hm hM h
theorem rtarget_0 (x op d a b : Nat) (imm : Int) (w : World) (hm : -2147483648 ≤ imm) (hM : imm ≤ 2147483647) (h : chk op d a b imm ≠ 0) :
    Calls Tryz.prog 38 #[.int .u32 (x : Int), .agg #[.int .u8 (op : Int), .int .u8 (d : Int), .int .u8 (a : Int), .int .u8 (b : Int), .int .i32 imm]] w fun e w' => e = .returned (.tuple #[.int .u32 (tgt x op d a b imm), .bool (tgtB op d a b imm)]) ∧ Below w.heap.size w w' := by
  have ht : tgtB op d a b imm = false := by unfold tgtB; exact decide_eq_false (by omega)
  have HT1 := Lib.hid (tgt_no (at_ := x) ht)
  have HT2 := Lib.hid ht
  clear ht
  obtain ⟨c, hc⟩ : ∃ c, c = chk op d a b imm := ⟨_, rfl⟩
  have hq : (c != 0) = true := by rw [bne_iff_ne, hc]; exact h
  have hchk := fun W => rcheck_c op d a b imm W hm hM
  rw [← hc] at hchk; clear h hc
  have HCK := Lib.hid hchk
  clear hchk
  go_enter Tryz.func38, Tryz.ntmps38
  go_wp2_with fail
  refine (HCK.out _).mono ?_
  rintro e w1 ⟨rfl, hb⟩
  obtain ⟨c0, c1, c2, c3, c4⟩ := box5 hb
  go_wp2_with fail
  go_ret2
  exact ⟨by rw [HT1.out, HT2.out]; rfl, boxed hb⟩
theorem rtarget_1 (x op d a b : Nat) (imm : Int) (w : World) (hm : -2147483648 ≤ imm) (hM : imm ≤ 2147483647) (h : chk op d a b imm = 0) (e : op = 14) :
    Calls Tryz.prog 38 #[.int .u32 (x : Int), .agg #[.int .u8 (op : Int), .int .u8 (d : Int), .int .u8 (a : Int), .int .u8 (b : Int), .int .i32 imm]] w fun e w' => e = .returned (.tuple #[.int .u32 (tgt x op d a b imm), .bool (tgtB op d a b imm)]) ∧ Below w.heap.size w w' := by
  have ht : tgtB op d a b imm = true := by unfold tgtB; exact decide_eq_true (by omega)
  have HT1 := Lib.hid (tgt_jump (at_ := x) ht (by omega))
  have HT2 := Lib.hid ht
  clear ht
  have q14 : ((op : Int) == 14) = true := by rw [e]; rfl
  have q15 : ((op : Int) == 15) = false := by rw [e]; rfl
  have q16 : ((op : Int) == 16) = false := by rw [e]; rfl
  have q17 : ((op : Int) == 17) = false := by rw [e]; rfl
  clear e
  have hchk := fun W => rcheck_c op d a b imm W hm hM
  rw [h] at hchk; clear h
  have HCK := Lib.hid hchk
  clear hchk
  go_enter Tryz.func38, Tryz.ntmps38
  go_wp2_with fail
  refine (HCK.out _).mono ?_
  rintro e w1 ⟨rfl, hb⟩
  obtain ⟨c0, c1, c2, c3, c4⟩ := box5 hb
  go_wp2_with fail
  go_ret2
  exact ⟨by rw [HT1.out, HT2.out]; rfl, boxed hb⟩
theorem rtarget_2 (x op d a b : Nat) (imm : Int) (w : World) (hm : -2147483648 ≤ imm) (hM : imm ≤ 2147483647) (h : chk op d a b imm = 0) (e : op = 15) :
    Calls Tryz.prog 38 #[.int .u32 (x : Int), .agg #[.int .u8 (op : Int), .int .u8 (d : Int), .int .u8 (a : Int), .int .u8 (b : Int), .int .i32 imm]] w fun e w' => e = .returned (.tuple #[.int .u32 (tgt x op d a b imm), .bool (tgtB op d a b imm)]) ∧ Below w.heap.size w w' := by
  have ht : tgtB op d a b imm = true := by unfold tgtB; exact decide_eq_true (by omega)
  have HT1 := Lib.hid (tgt_jump (at_ := x) ht (by omega))
  have HT2 := Lib.hid ht
  clear ht
  have q14 : ((op : Int) == 14) = false := by rw [e]; rfl
  have q15 : ((op : Int) == 15) = true := by rw [e]; rfl
  have q16 : ((op : Int) == 16) = false := by rw [e]; rfl
  have q17 : ((op : Int) == 17) = false := by rw [e]; rfl
  clear e
  have hchk := fun W => rcheck_c op d a b imm W hm hM
  rw [h] at hchk; clear h
  have HCK := Lib.hid hchk
  clear hchk
  go_enter Tryz.func38, Tryz.ntmps38
  go_wp2_with fail
  refine (HCK.out _).mono ?_
  rintro e w1 ⟨rfl, hb⟩
  obtain ⟨c0, c1, c2, c3, c4⟩ := box5 hb
  go_wp2_with fail
  go_ret2
  exact ⟨by rw [HT1.out, HT2.out]; rfl, boxed hb⟩
theorem rtarget_3 (x op d a b : Nat) (imm : Int) (w : World) (hm : -2147483648 ≤ imm) (hM : imm ≤ 2147483647) (h : chk op d a b imm = 0) (e : op = 16) :
    Calls Tryz.prog 38 #[.int .u32 (x : Int), .agg #[.int .u8 (op : Int), .int .u8 (d : Int), .int .u8 (a : Int), .int .u8 (b : Int), .int .i32 imm]] w fun e w' => e = .returned (.tuple #[.int .u32 (tgt x op d a b imm), .bool (tgtB op d a b imm)]) ∧ Below w.heap.size w w' := by
  have ht : tgtB op d a b imm = true := by unfold tgtB; exact decide_eq_true (by omega)
  have HT1 := Lib.hid (tgt_jump (at_ := x) ht (by omega))
  have HT2 := Lib.hid ht
  clear ht
  have q14 : ((op : Int) == 14) = false := by rw [e]; rfl
  have q15 : ((op : Int) == 15) = false := by rw [e]; rfl
  have q16 : ((op : Int) == 16) = true := by rw [e]; rfl
  have q17 : ((op : Int) == 17) = false := by rw [e]; rfl
  clear e
  have hchk := fun W => rcheck_c op d a b imm W hm hM
  rw [h] at hchk; clear h
  have HCK := Lib.hid hchk
  clear hchk
  go_enter Tryz.func38, Tryz.ntmps38
  go_wp2_with fail
  refine (HCK.out _).mono ?_
  rintro e w1 ⟨rfl, hb⟩
  obtain ⟨c0, c1, c2, c3, c4⟩ := box5 hb
  go_wp2_with fail
  go_ret2
  exact ⟨by rw [HT1.out, HT2.out]; rfl, boxed hb⟩
theorem rtarget_4 (x op d a b : Nat) (imm : Int) (w : World) (hm : -2147483648 ≤ imm) (hM : imm ≤ 2147483647) (h : chk op d a b imm = 0) (e : op = 17) :
    Calls Tryz.prog 38 #[.int .u32 (x : Int), .agg #[.int .u8 (op : Int), .int .u8 (d : Int), .int .u8 (a : Int), .int .u8 (b : Int), .int .i32 imm]] w fun e w' => e = .returned (.tuple #[.int .u32 (tgt x op d a b imm), .bool (tgtB op d a b imm)]) ∧ Below w.heap.size w w' := by
  have ht : tgtB op d a b imm = true := by unfold tgtB; exact decide_eq_true (by omega)
  have HT1 := Lib.hid (tgt_call (at_ := x) ht e)
  have HT2 := Lib.hid ht
  clear ht
  have q14 : ((op : Int) == 14) = false := by rw [e]; rfl
  have q15 : ((op : Int) == 15) = false := by rw [e]; rfl
  have q16 : ((op : Int) == 16) = false := by rw [e]; rfl
  have q17 : ((op : Int) == 17) = true := by rw [e]; rfl
  clear e
  have hchk := fun W => rcheck_c op d a b imm W hm hM
  rw [h] at hchk; clear h
  have HCK := Lib.hid hchk
  clear hchk
  go_enter Tryz.func38, Tryz.ntmps38
  go_wp2_with fail
  refine (HCK.out _).mono ?_
  rintro e w1 ⟨rfl, hb⟩
  obtain ⟨c0, c1, c2, c3, c4⟩ := box5 hb
  go_wp2_with fail
  go_ret2
  exact ⟨by rw [HT1.out, HT2.out]; rfl, boxed hb⟩
theorem rtarget_5 (x op d a b : Nat) (imm : Int) (w : World) (hm : -2147483648 ≤ imm) (hM : imm ≤ 2147483647) (h : chk op d a b imm = 0) (e : op ≠ 14 ∧ op ≠ 15 ∧ op ≠ 16 ∧ op ≠ 17) :
    Calls Tryz.prog 38 #[.int .u32 (x : Int), .agg #[.int .u8 (op : Int), .int .u8 (d : Int), .int .u8 (a : Int), .int .u8 (b : Int), .int .i32 imm]] w fun e w' => e = .returned (.tuple #[.int .u32 (tgt x op d a b imm), .bool (tgtB op d a b imm)]) ∧ Below w.heap.size w w' := by
  have ht : tgtB op d a b imm = false := by unfold tgtB; exact decide_eq_false (by omega)
  have HT1 := Lib.hid (tgt_no (at_ := x) ht)
  have HT2 := Lib.hid ht
  clear ht
  have q14 : ((op : Int) == 14) = false := by rw [beq_eq_false_iff_ne]; omega
  have q15 : ((op : Int) == 15) = false := by rw [beq_eq_false_iff_ne]; omega
  have q16 : ((op : Int) == 16) = false := by rw [beq_eq_false_iff_ne]; omega
  have q17 : ((op : Int) == 17) = false := by rw [beq_eq_false_iff_ne]; omega
  clear e
  have hchk := fun W => rcheck_c op d a b imm W hm hM
  rw [h] at hchk; clear h
  have HCK := Lib.hid hchk
  clear hchk
  go_enter Tryz.func38, Tryz.ntmps38
  go_wp2_with fail
  refine (HCK.out _).mono ?_
  rintro e w1 ⟨rfl, hb⟩
  obtain ⟨c0, c1, c2, c3, c4⟩ := box5 hb
  go_wp2_with fail
  go_ret2
  exact ⟨by rw [HT1.out, HT2.out]; rfl, boxed hb⟩
theorem rtarget (x op d a b : Nat) (imm : Int) (w : World) (hm : -2147483648 ≤ imm) (hM : imm ≤ 2147483647)  :
    Calls Tryz.prog 38 #[.int .u32 (x : Int), .agg #[.int .u8 (op : Int), .int .u8 (d : Int), .int .u8 (a : Int), .int .u8 (b : Int), .int .i32 imm]] w fun e w' => e = .returned (.tuple #[.int .u32 (tgt x op d a b imm), .bool (tgtB op d a b imm)]) ∧ Below w.heap.size w w' := by
  by_cases h : chk op d a b imm = 0
  · by_cases e4 : op = 14
    · exact rtarget_1 x op d a b imm w hm hM h e4
    · by_cases e5 : op = 15
      · exact rtarget_2 x op d a b imm w hm hM h e5
      · by_cases e6 : op = 16
        · exact rtarget_3 x op d a b imm w hm hM h e6
        · by_cases e7 : op = 17
          · exact rtarget_4 x op d a b imm w hm hM h e7
          · exact rtarget_5 x op d a b imm w hm hM h ⟨e4, e5, e6, e7⟩
  · exact rtarget_0 x op d a b imm w hm hM h
end Go.Proofs.YthnbdeibjbicpaaGreat.I9
