/- Contracts of package word's functions: each returns what the plain arithmetic says. Conditions: parts that may be, or not, as each theorem says. -/
import Derived.Test.YthnbdeibjbicpaaGreatKBase
import Derived.Test.YthnbdeibjbicpaaGreatMath
set_option linter.unusedVariables false
set_option linter.unusedSimpArgs false
namespace Go.Proofs.YthnbdeibjbicpaaGreat.W1
open Go.RowKit Go.Proofs.YthnbdeibjbicpaaGreat.WM
theorem may_yes (a n : Nat) (w : World) (h : a + n ≤ 32) :
    Calls Tryz.prog 97 #[.int .i64 (a : Int), .int .i64 (n : Int)] w fun e w' => e = .returned (.bool true) ∧ Drew w w' := by
  have h1 : ((n : Int) ≤ 32 - (a : Int)) := by omega
  go_enter Tryz.func97, Tryz.ntmps97
  go_wp2
  go_ret
  exact ⟨rfl, Drew.refl _⟩
theorem mask_c (n : Nat) (w : World) (h : n ≤ 32) :
    Calls Tryz.prog 98 #[.int .i64 (n : Int)] w fun e w' => e = .returned (.int .u32 ((2 ^ n - 1 : Nat) : Int)) ∧ Drew w w' := by
  go_enter Tryz.func98, Tryz.ntmps98
  go_wp2
  go_ret
  exact ⟨ret_int (by have h1 := pow_le32 h; have h2 := Nat.two_pow_pos n; have h3 := pow_cast n; omega), Drew.refl _⟩
theorem mask_32 (w : World) :
    Calls Tryz.prog 98 #[.int .i64 32] w fun e w' => e = .returned (.int .u32 ((2 ^ 32 - 1 : Nat) : Int)) ∧ Drew w w' := mask_c 32 w (by omega)
theorem bits_yes (x a n : Nat) (w : World) (hx : x < 4294967296) (h : a + n ≤ 32) :
    Calls Tryz.prog 74 #[.int .u32 (x : Int), .int .i64 (a : Int), .int .i64 (n : Int)] w fun e w' => e = .returned (.int .u32 ((x / 2 ^ a % 2 ^ n : Nat) : Int)) ∧ Drew w w' := by
  go_enter Tryz.func74, Tryz.ntmps74
  (go_wp2_with (first | (go_at_call 97; (with_reducible refine (may_yes a n _ h).mono ?_); rintro e w' ⟨rfl, ⟨nd, rfl⟩⟩; (try first | exact ⟨rfl, _, World.drewN_drewN _ _ _⟩ | exact ⟨rfl, _, Eq.trans (World.drewN_drewN _ _ _) (congrArg (World.drewN _) (Nat.add_assoc _ _ _))⟩)) | (go_at_call 98; (with_reducible refine (mask_c n _ (by omega)).mono ?_); rintro e w' ⟨rfl, ⟨nd, rfl⟩⟩; (try first | exact ⟨rfl, _, World.drewN_drewN _ _ _⟩ | exact ⟨rfl, _, Eq.trans (World.drewN_drewN _ _ _) (congrArg (World.drewN _) (Nat.add_assoc _ _ _))⟩)))); repeat (go_quiet (first | (go_at_call 97; (with_reducible refine (may_yes a n _ h).mono ?_); rintro e w' ⟨rfl, ⟨nd, rfl⟩⟩; (try first | exact ⟨rfl, _, World.drewN_drewN _ _ _⟩ | exact ⟨rfl, _, Eq.trans (World.drewN_drewN _ _ _) (congrArg (World.drewN _) (Nat.add_assoc _ _ _))⟩)) | (go_at_call 98; (with_reducible refine (mask_c n _ (by omega)).mono ?_); rintro e w' ⟨rfl, ⟨nd, rfl⟩⟩; (try first | exact ⟨rfl, _, World.drewN_drewN _ _ _⟩ | exact ⟨rfl, _, Eq.trans (World.drewN_drewN _ _ _) (congrArg (World.drewN _) (Nat.add_assoc _ _ _))⟩))); try go_wp2_with (first | (go_at_call 97; (with_reducible refine (may_yes a n _ h).mono ?_); rintro e w' ⟨rfl, ⟨nd, rfl⟩⟩; (try first | exact ⟨rfl, _, World.drewN_drewN _ _ _⟩ | exact ⟨rfl, _, Eq.trans (World.drewN_drewN _ _ _) (congrArg (World.drewN _) (Nat.add_assoc _ _ _))⟩)) | (go_at_call 98; (with_reducible refine (mask_c n _ (by omega)).mono ?_); rintro e w' ⟨rfl, ⟨nd, rfl⟩⟩; (try first | exact ⟨rfl, _, World.drewN_drewN _ _ _⟩ | exact ⟨rfl, _, Eq.trans (World.drewN_drewN _ _ _) (congrArg (World.drewN _) (Nat.add_assoc _ _ _))⟩))))
  go_ret
  exact ⟨ret_int (bits_form x a n hx h), ((Drew.refl _).step _).step _⟩
theorem with_yes (x a n v : Nat) (w : World) (hx : x < 4294967296) (hv : v < 4294967296) (h : a + n ≤ 32) :
    Calls Tryz.prog 100 #[.int .u32 (x : Int), .int .i64 (a : Int), .int .i64 (n : Int), .int .u32 (v : Int)] w fun e w' => e = .returned (.int .u32 ((put x a n v : Nat) : Int)) ∧ Drew w w' := by
  go_enter Tryz.func100, Tryz.ntmps100
  (go_wp2_with (first | (go_at_call 97; (with_reducible refine (may_yes a n _ h).mono ?_); rintro e w' ⟨rfl, ⟨nd, rfl⟩⟩; (try first | exact ⟨rfl, _, World.drewN_drewN _ _ _⟩ | exact ⟨rfl, _, Eq.trans (World.drewN_drewN _ _ _) (congrArg (World.drewN _) (Nat.add_assoc _ _ _))⟩)) | (go_at_call 98; (with_reducible refine (mask_c n _ (by omega)).mono ?_); rintro e w' ⟨rfl, ⟨nd, rfl⟩⟩; (try first | exact ⟨rfl, _, World.drewN_drewN _ _ _⟩ | exact ⟨rfl, _, Eq.trans (World.drewN_drewN _ _ _) (congrArg (World.drewN _) (Nat.add_assoc _ _ _))⟩)))); repeat (go_quiet (first | (go_at_call 97; (with_reducible refine (may_yes a n _ h).mono ?_); rintro e w' ⟨rfl, ⟨nd, rfl⟩⟩; (try first | exact ⟨rfl, _, World.drewN_drewN _ _ _⟩ | exact ⟨rfl, _, Eq.trans (World.drewN_drewN _ _ _) (congrArg (World.drewN _) (Nat.add_assoc _ _ _))⟩)) | (go_at_call 98; (with_reducible refine (mask_c n _ (by omega)).mono ?_); rintro e w' ⟨rfl, ⟨nd, rfl⟩⟩; (try first | exact ⟨rfl, _, World.drewN_drewN _ _ _⟩ | exact ⟨rfl, _, Eq.trans (World.drewN_drewN _ _ _) (congrArg (World.drewN _) (Nat.add_assoc _ _ _))⟩))); try go_wp2_with (first | (go_at_call 97; (with_reducible refine (may_yes a n _ h).mono ?_); rintro e w' ⟨rfl, ⟨nd, rfl⟩⟩; (try first | exact ⟨rfl, _, World.drewN_drewN _ _ _⟩ | exact ⟨rfl, _, Eq.trans (World.drewN_drewN _ _ _) (congrArg (World.drewN _) (Nat.add_assoc _ _ _))⟩)) | (go_at_call 98; (with_reducible refine (mask_c n _ (by omega)).mono ?_); rintro e w' ⟨rfl, ⟨nd, rfl⟩⟩; (try first | exact ⟨rfl, _, World.drewN_drewN _ _ _⟩ | exact ⟨rfl, _, Eq.trans (World.drewN_drewN _ _ _) (congrArg (World.drewN _) (Nat.add_assoc _ _ _))⟩))))
  go_ret
  exact ⟨ret_int (with_form x a n v hx hv h), ((Drew.refl _).step _).step _⟩
theorem signed_yes (v n : Nat) (w : World) (h1 : 1 ≤ n) (h2 : n ≤ 32) :
    Calls Tryz.prog 76 #[.int .u32 (v : Int), .int .i64 (n : Int)] w fun e w' => e = .returned (.int .i32 (sgn v n)) ∧ Drew w w' := by
  go_enter Tryz.func76, Tryz.ntmps76
  go_wp2
  go_ret
  exact ⟨ret_int (signed_form v n h1 h2), Drew.refl _⟩
theorem fits_yes (v : Int) (n : Nat) (w : World) (h1 : 1 ≤ n) (h2 : n ≤ 32) :
    Calls Tryz.prog 110 #[.int .i64 v, .int .i64 (n : Int)] w fun e w' => e = .returned (.bool (fitsB v n)) ∧ Drew w w' := by
  have HF := Lib.hid (fits_form v n)
  go_enter Tryz.func110, Tryz.ntmps110
  go_wp2
  all_goals go_ret
  · rename_i h0
    exact ⟨ret_bool (by rw [← HF.out, h0]; rfl), Drew.refl _⟩
  · exact ⟨ret_bool HF.out, Drew.refl _⟩
theorem cut_yes (v : Int) (n : Nat) (w : World) (h1 : 1 ≤ n) :
    Calls Tryz.prog 101 #[.int .i32 v, .int .i64 (n : Int)] w fun e w' => e = .returned (.int .u32 (((v % 4294967296).toNat % 2 ^ min n 32 : Nat) : Int)) ∧ Drew w w' := by
  obtain ⟨y, hy⟩ : ∃ y : Nat, v % 4294967296 = y := ⟨(v % 4294967296).toNat, by omega⟩
  have HY := Lib.hid hy
  have hy2 : y < 4294967296 := by omega
  clear hy
  have bf := Lib.hid (bits_form y 0 (min n 32) hy2 (by omega))
  by_cases h : 32 < n
  · go_enter Tryz.func101, Tryz.ntmps101
    (go_wp2_with (first | (go_at_call 98; (with_reducible refine (mask_32 _).mono ?_); rintro e w' ⟨rfl, ⟨nd, rfl⟩⟩; (try first | exact ⟨rfl, _, World.drewN_drewN _ _ _⟩ | exact ⟨rfl, _, Eq.trans (World.drewN_drewN _ _ _) (congrArg (World.drewN _) (Nat.add_assoc _ _ _))⟩)))); repeat (go_quiet (first | (go_at_call 98; (with_reducible refine (mask_32 _).mono ?_); rintro e w' ⟨rfl, ⟨nd, rfl⟩⟩; (try first | exact ⟨rfl, _, World.drewN_drewN _ _ _⟩ | exact ⟨rfl, _, Eq.trans (World.drewN_drewN _ _ _) (congrArg (World.drewN _) (Nat.add_assoc _ _ _))⟩))); try go_wp2_with (first | (go_at_call 98; (with_reducible refine (mask_32 _).mono ?_); rintro e w' ⟨rfl, ⟨nd, rfl⟩⟩; (try first | exact ⟨rfl, _, World.drewN_drewN _ _ _⟩ | exact ⟨rfl, _, Eq.trans (World.drewN_drewN _ _ _) (congrArg (World.drewN _) (Nat.add_assoc _ _ _))⟩))))
    go_ret
    refine ⟨ret_int ?_, (Drew.refl _).step _⟩
    have := bf.out
    rw [HY.out, Int.toNat_natCast, show min n 32 = 32 from by omega] at *
    simpa using this
  · go_enter Tryz.func101, Tryz.ntmps101
    (go_wp2_with (first | (go_at_call 98; (with_reducible refine (mask_c n _ (by omega)).mono ?_); rintro e w' ⟨rfl, ⟨nd, rfl⟩⟩; (try first | exact ⟨rfl, _, World.drewN_drewN _ _ _⟩ | exact ⟨rfl, _, Eq.trans (World.drewN_drewN _ _ _) (congrArg (World.drewN _) (Nat.add_assoc _ _ _))⟩)))); repeat (go_quiet (first | (go_at_call 98; (with_reducible refine (mask_c n _ (by omega)).mono ?_); rintro e w' ⟨rfl, ⟨nd, rfl⟩⟩; (try first | exact ⟨rfl, _, World.drewN_drewN _ _ _⟩ | exact ⟨rfl, _, Eq.trans (World.drewN_drewN _ _ _) (congrArg (World.drewN _) (Nat.add_assoc _ _ _))⟩))); try go_wp2_with (first | (go_at_call 98; (with_reducible refine (mask_c n _ (by omega)).mono ?_); rintro e w' ⟨rfl, ⟨nd, rfl⟩⟩; (try first | exact ⟨rfl, _, World.drewN_drewN _ _ _⟩ | exact ⟨rfl, _, Eq.trans (World.drewN_drewN _ _ _) (congrArg (World.drewN _) (Nat.add_assoc _ _ _))⟩))))
    go_ret
    refine ⟨ret_int ?_, (Drew.refl _).step _⟩
    have := bf.out
    rw [HY.out, Int.toNat_natCast, show min n 32 = n from by omega] at *
    simpa using this
theorem rmay_yes (a n : Nat) (w : World) (h : a + n ≤ 32) :
    Calls Tryz.prog 104 #[.int .i64 (a : Int), .int .i64 (n : Int)] w fun e w' => e = .returned (.bool true) ∧ Drew w w' := by
  have h1 : ((n : Int) ≤ 32 - (a : Int)) := by omega
  go_enter Tryz.func104, Tryz.ntmps104
  go_wp2
  go_ret
  exact ⟨rfl, Drew.refl _⟩
theorem rbit_c (x : Nat) (i : Int) (w : World) (hx : x < 4294967296) (h0 : 0 ≤ i) (h : i ≤ 32) :
    Calls Tryz.prog 105 #[.int .u32 (x : Int), .int .i64 i] w fun e w' => e = .returned (.int .u32 ((x / 2 ^ i.toNat % 2 : Nat) : Int)) ∧ Drew w w' := by
  obtain ⟨i, rfl⟩ := Int.eq_ofNat_of_zero_le h0
  rw [Int.toNat_natCast]
  go_enter Tryz.func105, Tryz.ntmps105
  go_wp2
  go_ret
  exact ⟨ret_int (bit_form x i hx), Drew.refl _⟩
theorem rbits_yes (x a n : Nat) (w : World) (hx : x < 4294967296) (h : a + n ≤ 32) :
    Calls Tryz.prog 84 #[.int .u32 (x : Int), .int .i64 (a : Int), .int .i64 (n : Int)] w fun e w' => e = .returned (.int .u32 ((x / 2 ^ a % 2 ^ n : Nat) : Int)) ∧ Drew w w' := by
  go_enter Tryz.func84, Tryz.ntmps84
  (go_wp2_with (first | (go_at_call 104; (with_reducible refine (rmay_yes a n _ h).mono ?_); rintro e w' ⟨rfl, ⟨nd, rfl⟩⟩; (try first | exact ⟨rfl, _, World.drewN_drewN _ _ _⟩ | exact ⟨rfl, _, Eq.trans (World.drewN_drewN _ _ _) (congrArg (World.drewN _) (Nat.add_assoc _ _ _))⟩)))); repeat (go_quiet (first | (go_at_call 104; (with_reducible refine (rmay_yes a n _ h).mono ?_); rintro e w' ⟨rfl, ⟨nd, rfl⟩⟩; (try first | exact ⟨rfl, _, World.drewN_drewN _ _ _⟩ | exact ⟨rfl, _, Eq.trans (World.drewN_drewN _ _ _) (congrArg (World.drewN _) (Nat.add_assoc _ _ _))⟩))); try go_wp2_with (first | (go_at_call 104; (with_reducible refine (rmay_yes a n _ h).mono ?_); rintro e w' ⟨rfl, ⟨nd, rfl⟩⟩; (try first | exact ⟨rfl, _, World.drewN_drewN _ _ _⟩ | exact ⟨rfl, _, Eq.trans (World.drewN_drewN _ _ _) (congrArg (World.drewN _) (Nat.add_assoc _ _ _))⟩))))
  go_loopw [7, 8] (fun s i wr => ∃ k : Nat, k ≤ n ∧ i = .int .i64 k ∧ s = .int .u32 ((x / 2 ^ a % 2 ^ k : Nat) : Int) ∧ Drew w wr) (fun _ i _ => n - (intOf i).toNat)
  case atStart => exact ⟨0, Nat.zero_le _, rfl, by simp [Nat.mod_one], (Drew.refl _).step _⟩
  case round =>
    obtain ⟨k, hk, rfl, rfl, hd⟩ := hrel
    by_cases hlt : k < n
    · (go_wp2_with (first | (go_at_call 105; (with_reducible refine (rbit_c x _ _ hx (by omega) (by omega)).mono ?_); rintro e w' ⟨rfl, ⟨nd, rfl⟩⟩; (try first | exact ⟨rfl, _, World.drewN_drewN _ _ _⟩ | exact ⟨rfl, _, Eq.trans (World.drewN_drewN _ _ _) (congrArg (World.drewN _) (Nat.add_assoc _ _ _))⟩)))); repeat (go_quiet (first | (go_at_call 105; (with_reducible refine (rbit_c x _ _ hx (by omega) (by omega)).mono ?_); rintro e w' ⟨rfl, ⟨nd, rfl⟩⟩; (try first | exact ⟨rfl, _, World.drewN_drewN _ _ _⟩ | exact ⟨rfl, _, Eq.trans (World.drewN_drewN _ _ _) (congrArg (World.drewN _) (Nat.add_assoc _ _ _))⟩))); try go_wp2_with (first | (go_at_call 105; (with_reducible refine (rbit_c x _ _ hx (by omega) (by omega)).mono ?_); rintro e w' ⟨rfl, ⟨nd, rfl⟩⟩; (try first | exact ⟨rfl, _, World.drewN_drewN _ _ _⟩ | exact ⟨rfl, _, Eq.trans (World.drewN_drewN _ _ _) (congrArg (World.drewN _) (Nat.add_assoc _ _ _))⟩))))
      go_roundw
      case rel => exact ⟨k + 1, by omega, by go_num, by rw [rbits_round x a k (by omega)], hd.step _⟩
      case measure => simp [intOf]; omega
    · have hk : k = n := by omega
      subst hk
      go_wp2
      go_ret
      exact ⟨rfl, hd⟩
theorem rwith_yes (x a n v : Nat) (w : World) (hx : x < 4294967296) (hv : v < 4294967296) (h : a + n ≤ 32) :
    Calls Tryz.prog 106 #[.int .u32 (x : Int), .int .i64 (a : Int), .int .i64 (n : Int), .int .u32 (v : Int)] w fun e w' => e = .returned (.int .u32 ((put x a n v : Nat) : Int)) ∧ Drew w w' := by
  obtain ⟨r, hr⟩ : ∃ r, r = put x a n v := ⟨_, rfl⟩
  have HR := Lib.hid hr
  have hr32 := put_lt (m := 32) (n := n) (v := v) hx h
  rw [← hr] at hr32 ⊢
  clear hr
  go_enter Tryz.func106, Tryz.ntmps106
  (go_wp2_with (first | (go_at_call 104; (with_reducible refine (rmay_yes a n _ h).mono ?_); rintro e w' ⟨rfl, ⟨nd, rfl⟩⟩; (try first | exact ⟨rfl, _, World.drewN_drewN _ _ _⟩ | exact ⟨rfl, _, Eq.trans (World.drewN_drewN _ _ _) (congrArg (World.drewN _) (Nat.add_assoc _ _ _))⟩)))); repeat (go_quiet (first | (go_at_call 104; (with_reducible refine (rmay_yes a n _ h).mono ?_); rintro e w' ⟨rfl, ⟨nd, rfl⟩⟩; (try first | exact ⟨rfl, _, World.drewN_drewN _ _ _⟩ | exact ⟨rfl, _, Eq.trans (World.drewN_drewN _ _ _) (congrArg (World.drewN _) (Nat.add_assoc _ _ _))⟩))); try go_wp2_with (first | (go_at_call 104; (with_reducible refine (rmay_yes a n _ h).mono ?_); rintro e w' ⟨rfl, ⟨nd, rfl⟩⟩; (try first | exact ⟨rfl, _, World.drewN_drewN _ _ _⟩ | exact ⟨rfl, _, Eq.trans (World.drewN_drewN _ _ _) (congrArg (World.drewN _) (Nat.add_assoc _ _ _))⟩))))
  go_loopw [9, 10] (fun s i wr => ∃ k : Nat, k ≤ 32 ∧ i = .int .i64 k ∧ s = .int .u32 ((r % 2 ^ k : Nat) : Int) ∧ Drew w wr) (fun _ i _ => 32 - (intOf i).toNat)
  case atStart => exact ⟨0, Nat.zero_le _, rfl, by simp [Nat.mod_one], (Drew.refl _).step _⟩
  case round =>
    obtain ⟨k, hk, rfl, rfl, hd⟩ := hrel
    by_cases hlt : k < 32
    · by_cases c1 : a ≤ k
      · by_cases c2 : k < a + n
        · (go_wp2_with (first | (go_at_call 105; (with_reducible refine (rbit_c v _ _ hv (by omega) (by omega)).mono ?_); rintro e w' ⟨rfl, ⟨nd, rfl⟩⟩; (try first | exact ⟨rfl, _, World.drewN_drewN _ _ _⟩ | exact ⟨rfl, _, Eq.trans (World.drewN_drewN _ _ _) (congrArg (World.drewN _) (Nat.add_assoc _ _ _))⟩)))); repeat (go_quiet (first | (go_at_call 105; (with_reducible refine (rbit_c v _ _ hv (by omega) (by omega)).mono ?_); rintro e w' ⟨rfl, ⟨nd, rfl⟩⟩; (try first | exact ⟨rfl, _, World.drewN_drewN _ _ _⟩ | exact ⟨rfl, _, Eq.trans (World.drewN_drewN _ _ _) (congrArg (World.drewN _) (Nat.add_assoc _ _ _))⟩))); try go_wp2_with (first | (go_at_call 105; (with_reducible refine (rbit_c v _ _ hv (by omega) (by omega)).mono ?_); rintro e w' ⟨rfl, ⟨nd, rfl⟩⟩; (try first | exact ⟨rfl, _, World.drewN_drewN _ _ _⟩ | exact ⟨rfl, _, Eq.trans (World.drewN_drewN _ _ _) (congrArg (World.drewN _) (Nat.add_assoc _ _ _))⟩))))
          go_roundw
          case rel => exact ⟨k + 1, by omega, by go_num, by rw [rwith_round r v (k - a) k hlt (by rw [HR.out, put_bit_nat, if_pos ⟨c1, c2⟩])], hd.step _⟩
          case measure => simp [intOf]; omega
        · (go_wp2_with (first | (go_at_call 105; (with_reducible refine (rbit_c x _ _ hx (by omega) (by omega)).mono ?_); rintro e w' ⟨rfl, ⟨nd, rfl⟩⟩; (try first | exact ⟨rfl, _, World.drewN_drewN _ _ _⟩ | exact ⟨rfl, _, Eq.trans (World.drewN_drewN _ _ _) (congrArg (World.drewN _) (Nat.add_assoc _ _ _))⟩)))); repeat (go_quiet (first | (go_at_call 105; (with_reducible refine (rbit_c x _ _ hx (by omega) (by omega)).mono ?_); rintro e w' ⟨rfl, ⟨nd, rfl⟩⟩; (try first | exact ⟨rfl, _, World.drewN_drewN _ _ _⟩ | exact ⟨rfl, _, Eq.trans (World.drewN_drewN _ _ _) (congrArg (World.drewN _) (Nat.add_assoc _ _ _))⟩))); try go_wp2_with (first | (go_at_call 105; (with_reducible refine (rbit_c x _ _ hx (by omega) (by omega)).mono ?_); rintro e w' ⟨rfl, ⟨nd, rfl⟩⟩; (try first | exact ⟨rfl, _, World.drewN_drewN _ _ _⟩ | exact ⟨rfl, _, Eq.trans (World.drewN_drewN _ _ _) (congrArg (World.drewN _) (Nat.add_assoc _ _ _))⟩))))
          go_roundw
          case rel => exact ⟨k + 1, by omega, by go_num, by rw [rwith_round r x k k hlt (by rw [HR.out, put_bit_nat, if_neg (by omega)])], hd.step _⟩
          case measure => simp [intOf]; omega
      · (go_wp2_with (first | (go_at_call 105; (with_reducible refine (rbit_c x _ _ hx (by omega) (by omega)).mono ?_); rintro e w' ⟨rfl, ⟨nd, rfl⟩⟩; (try first | exact ⟨rfl, _, World.drewN_drewN _ _ _⟩ | exact ⟨rfl, _, Eq.trans (World.drewN_drewN _ _ _) (congrArg (World.drewN _) (Nat.add_assoc _ _ _))⟩)))); repeat (go_quiet (first | (go_at_call 105; (with_reducible refine (rbit_c x _ _ hx (by omega) (by omega)).mono ?_); rintro e w' ⟨rfl, ⟨nd, rfl⟩⟩; (try first | exact ⟨rfl, _, World.drewN_drewN _ _ _⟩ | exact ⟨rfl, _, Eq.trans (World.drewN_drewN _ _ _) (congrArg (World.drewN _) (Nat.add_assoc _ _ _))⟩))); try go_wp2_with (first | (go_at_call 105; (with_reducible refine (rbit_c x _ _ hx (by omega) (by omega)).mono ?_); rintro e w' ⟨rfl, ⟨nd, rfl⟩⟩; (try first | exact ⟨rfl, _, World.drewN_drewN _ _ _⟩ | exact ⟨rfl, _, Eq.trans (World.drewN_drewN _ _ _) (congrArg (World.drewN _) (Nat.add_assoc _ _ _))⟩))))
        go_roundw
        case rel => exact ⟨k + 1, by omega, by go_num, by rw [rwith_round r x k k hlt (by rw [HR.out, put_bit_nat, if_neg (by omega)])], hd.step _⟩
        case measure => simp [intOf]; omega
    · have hk : k = 32 := by omega
      subst hk
      go_wp2
      go_ret
      exact ⟨ret_int (by rw [Nat.mod_eq_of_lt hr32]), hd⟩
theorem rbits_0 (x n : Nat) (w : World) (hx : x < 4294967296) (h : n ≤ 32) :
    Calls Tryz.prog 84 #[.int .u32 (x : Int), .int .i64 0, .int .i64 (n : Int)] w fun e w' => e = .returned (.int .u32 ((x % 2 ^ n : Nat) : Int)) ∧ Drew w w' := by
  have h := rbits_yes x 0 n w hx (by omega)
  simpa using h
theorem rbits_32 (x : Nat) (w : World) (hx : x < 4294967296) :
    Calls Tryz.prog 84 #[.int .u32 (x : Int), .int .i64 0, .int .i64 32] w fun e w' => e = .returned (.int .u32 ((x % 2 ^ 32 : Nat) : Int)) ∧ Drew w w' := rbits_0 x 32 w hx (by omega)
theorem rsigned_yes (v n : Nat) (w : World) (hv : v < 4294967296) (h1 : 1 ≤ n) (h2 : n ≤ 32) :
    Calls Tryz.prog 86 #[.int .u32 (v : Int), .int .i64 (n : Int)] w fun e w' => e = .returned (.int .i32 (sgn v n)) ∧ Drew w w' := by
  go_enter Tryz.func86, Tryz.ntmps86
  (go_wp2_with (first | (go_at_call 84; (with_reducible refine (rbits_0 v n _ hv h2).mono ?_); rintro e w' ⟨rfl, ⟨nd, rfl⟩⟩; (try first | exact ⟨rfl, _, World.drewN_drewN _ _ _⟩ | exact ⟨rfl, _, Eq.trans (World.drewN_drewN _ _ _) (congrArg (World.drewN _) (Nat.add_assoc _ _ _))⟩)) | (go_at_call 105; (with_reducible refine (rbit_c v _ _ hv (by omega) (by omega)).mono ?_); rintro e w' ⟨rfl, ⟨nd, rfl⟩⟩; (try first | exact ⟨rfl, _, World.drewN_drewN _ _ _⟩ | exact ⟨rfl, _, Eq.trans (World.drewN_drewN _ _ _) (congrArg (World.drewN _) (Nat.add_assoc _ _ _))⟩)))); repeat (go_quiet (first | (go_at_call 84; (with_reducible refine (rbits_0 v n _ hv h2).mono ?_); rintro e w' ⟨rfl, ⟨nd, rfl⟩⟩; (try first | exact ⟨rfl, _, World.drewN_drewN _ _ _⟩ | exact ⟨rfl, _, Eq.trans (World.drewN_drewN _ _ _) (congrArg (World.drewN _) (Nat.add_assoc _ _ _))⟩)) | (go_at_call 105; (with_reducible refine (rbit_c v _ _ hv (by omega) (by omega)).mono ?_); rintro e w' ⟨rfl, ⟨nd, rfl⟩⟩; (try first | exact ⟨rfl, _, World.drewN_drewN _ _ _⟩ | exact ⟨rfl, _, Eq.trans (World.drewN_drewN _ _ _) (congrArg (World.drewN _) (Nat.add_assoc _ _ _))⟩))); try go_wp2_with (first | (go_at_call 84; (with_reducible refine (rbits_0 v n _ hv h2).mono ?_); rintro e w' ⟨rfl, ⟨nd, rfl⟩⟩; (try first | exact ⟨rfl, _, World.drewN_drewN _ _ _⟩ | exact ⟨rfl, _, Eq.trans (World.drewN_drewN _ _ _) (congrArg (World.drewN _) (Nat.add_assoc _ _ _))⟩)) | (go_at_call 105; (with_reducible refine (rbit_c v _ _ hv (by omega) (by omega)).mono ?_); rintro e w' ⟨rfl, ⟨nd, rfl⟩⟩; (try first | exact ⟨rfl, _, World.drewN_drewN _ _ _⟩ | exact ⟨rfl, _, Eq.trans (World.drewN_drewN _ _ _) (congrArg (World.drewN _) (Nat.add_assoc _ _ _))⟩))))
  all_goals go_ret
  · have hb0 : ((v : Int) / 2 ^ (n - 1) % 2 == 1) = true := by assumption
    have hb : (v : Int) / 2 ^ (n - 1) % 2 = 1 := beq_iff_eq.1 hb0
    exact ⟨ret_int (rsg_neg v n h1 h2 hb), by repeat (first | exact Drew.refl _ | apply Drew.step | apply Drew.step1)⟩
  · have hb0 : ((v : Int) / 2 ^ (n - 1) % 2 == 1) = false := by assumption
    have hb : ¬ (v : Int) / 2 ^ (n - 1) % 2 = 1 := beq_eq_false_iff_ne.1 hb0
    exact ⟨ret_int (rsg_pos v n h1 h2 hb), by repeat (first | exact Drew.refl _ | apply Drew.step | apply Drew.step1)⟩
theorem rfits_yes (v : Int) (n : Nat) (w : World) (h1 : 1 ≤ n) (h2 : n ≤ 32) :
    Calls Tryz.prog 108 #[.int .i64 v, .int .i64 (n : Int)] w fun e w' => e = .returned (.bool (fitsB v n)) ∧ Drew w w' := by
  go_enter Tryz.func108, Tryz.ntmps108
  go_wp2
  all_goals go_ret
  · have hb : wrap64 (-wrap64 (2 ^ (n - 1))) ≤ v := by assumption
    exact ⟨ret_bool (rfits_yes_form v n h1 h2 hb), Drew.refl _⟩
  · have hb : v < wrap64 (-wrap64 (2 ^ (n - 1))) := by assumption
    exact ⟨ret_bool (rfits_no_form v n h1 h2 hb), Drew.refl _⟩
theorem rcut_yes (v : Int) (n : Nat) (w : World) (h1 : 1 ≤ n) :
    Calls Tryz.prog 107 #[.int .i32 v, .int .i64 (n : Int)] w fun e w' => e = .returned (.int .u32 (((v % 4294967296).toNat % 2 ^ min n 32 : Nat) : Int)) ∧ Drew w w' := by
  obtain ⟨y, hy⟩ : ∃ y : Nat, v % 4294967296 = y := ⟨(v % 4294967296).toNat, by omega⟩
  have hy2 : y < 4294967296 := by omega
  have e : (v % 4294967296).toNat = y := by omega
  rw [e]
  clear e
  have HY := Lib.hid hy
  clear hy
  by_cases h : 32 < n
  · go_enter Tryz.func107, Tryz.ntmps107
    go_wp2_with fail
    rw [HY.out]
    (go_wp2_with (first | (go_at_call 84; (with_reducible refine (rbits_32 y _ hy2).mono ?_); rintro e w' ⟨rfl, ⟨nd, rfl⟩⟩; (try first | exact ⟨rfl, _, World.drewN_drewN _ _ _⟩ | exact ⟨rfl, _, Eq.trans (World.drewN_drewN _ _ _) (congrArg (World.drewN _) (Nat.add_assoc _ _ _))⟩)))); repeat (go_quiet (first | (go_at_call 84; (with_reducible refine (rbits_32 y _ hy2).mono ?_); rintro e w' ⟨rfl, ⟨nd, rfl⟩⟩; (try first | exact ⟨rfl, _, World.drewN_drewN _ _ _⟩ | exact ⟨rfl, _, Eq.trans (World.drewN_drewN _ _ _) (congrArg (World.drewN _) (Nat.add_assoc _ _ _))⟩))); try go_wp2_with (first | (go_at_call 84; (with_reducible refine (rbits_32 y _ hy2).mono ?_); rintro e w' ⟨rfl, ⟨nd, rfl⟩⟩; (try first | exact ⟨rfl, _, World.drewN_drewN _ _ _⟩ | exact ⟨rfl, _, Eq.trans (World.drewN_drewN _ _ _) (congrArg (World.drewN _) (Nat.add_assoc _ _ _))⟩))))
    go_ret
    exact ⟨ret_int (by rw [show min n 32 = 32 from by omega]; omega), by repeat (first | exact Drew.refl _ | apply Drew.step | apply Drew.step1)⟩
  · go_enter Tryz.func107, Tryz.ntmps107
    go_wp2_with fail
    rw [HY.out]
    (go_wp2_with (first | (go_at_call 84; (with_reducible refine (rbits_0 y n _ hy2 (by omega)).mono ?_); rintro e w' ⟨rfl, ⟨nd, rfl⟩⟩; (try first | exact ⟨rfl, _, World.drewN_drewN _ _ _⟩ | exact ⟨rfl, _, Eq.trans (World.drewN_drewN _ _ _) (congrArg (World.drewN _) (Nat.add_assoc _ _ _))⟩)))); repeat (go_quiet (first | (go_at_call 84; (with_reducible refine (rbits_0 y n _ hy2 (by omega)).mono ?_); rintro e w' ⟨rfl, ⟨nd, rfl⟩⟩; (try first | exact ⟨rfl, _, World.drewN_drewN _ _ _⟩ | exact ⟨rfl, _, Eq.trans (World.drewN_drewN _ _ _) (congrArg (World.drewN _) (Nat.add_assoc _ _ _))⟩))); try go_wp2_with (first | (go_at_call 84; (with_reducible refine (rbits_0 y n _ hy2 (by omega)).mono ?_); rintro e w' ⟨rfl, ⟨nd, rfl⟩⟩; (try first | exact ⟨rfl, _, World.drewN_drewN _ _ _⟩ | exact ⟨rfl, _, Eq.trans (World.drewN_drewN _ _ _) (congrArg (World.drewN _) (Nat.add_assoc _ _ _))⟩))))
    go_ret
    exact ⟨ret_int (by rw [show min n 32 = n from by omega]; exact cast_mod y n), by repeat (first | exact Drew.refl _ | apply Drew.step | apply Drew.step1)⟩
end Go.Proofs.YthnbdeibjbicpaaGreat.W1
