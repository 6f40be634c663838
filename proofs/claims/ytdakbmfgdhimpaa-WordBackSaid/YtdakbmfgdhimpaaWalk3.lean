/- awake: what every right program tells of some words: it is told here. No condition. -/
import Derived.Test.YtdakbmfgdhimpaaWalk2
namespace Go.Proofs.Ytdakbmfgdhimpaa.W3
open Go.RowKit Go.Proofs.Ytdakbmfgdhimpaa.WM Go.Proofs.Ytdakbmfgdhimpaa.W1 Go.Proofs.Ytdakbmfgdhimpaa.W2
theorem aw1 (w : World) : Calls Try.prog 12 #[.int .u32 4026531841, .int .i64 28, .int .i64 4] w fun e w' => e = .returned (.int .u32 15) ∧ Drew w w' :=
  bits_yes 4026531841 28 4 w (by decide) (by decide)
theorem aw2 (w : World) : Calls Try.prog 15 #[.int .u32 0, .int .i64 4, .int .i64 4, .int .u32 31] w fun e w' => e = .returned (.int .u32 240) ∧ Drew w w' :=
  with_yes 0 4 4 31 w (by decide) (by decide) (by decide)
theorem aw3 (w : World) : Calls Try.prog 17 #[.int .u32 15, .int .i64 4] w fun e w' => e = .returned (.int .i32 (-1)) ∧ Drew w w' :=
  signed_yes 15 4 w (by decide) (by decide)
theorem aw4 (w : World) : Calls Try.prog 25 #[.int .u32 10] w fun e w' => e = .returned (.string ⟨#[48, 48, 48, 48, 48, 48, 48, 97]⟩) ∧ Below w.heap.size w w' :=
  hex_c 10 w (by decide)
theorem awake_c (w : World) : Calls Try.prog 14 #[] w fun e w' => e = .returned (.bool true) ∧ Below w.heap.size w w' := by
  go_enter Try.func14, Try.ntmps14
  go_wp2_with (first | (go_at_call 12; (with_reducible refine (aw1 _).mono ?_); rintro e w' ⟨rfl, ⟨nd, rfl⟩⟩; (try first | exact ⟨rfl, _, World.drewN_drewN _ _ _⟩ | exact ⟨rfl, _, Eq.trans (World.drewN_drewN _ _ _) (congrArg (World.drewN _) (Nat.add_assoc _ _ _))⟩)) | (go_at_call 15; (with_reducible refine (aw2 _).mono ?_); rintro e w' ⟨rfl, ⟨nd, rfl⟩⟩; (try first | exact ⟨rfl, _, World.drewN_drewN _ _ _⟩ | exact ⟨rfl, _, Eq.trans (World.drewN_drewN _ _ _) (congrArg (World.drewN _) (Nat.add_assoc _ _ _))⟩)) | (go_at_call 17; (with_reducible refine (aw3 _).mono ?_); rintro e w' ⟨rfl, ⟨nd, rfl⟩⟩; (try first | exact ⟨rfl, _, World.drewN_drewN _ _ _⟩ | exact ⟨rfl, _, Eq.trans (World.drewN_drewN _ _ _) (congrArg (World.drewN _) (Nat.add_assoc _ _ _))⟩)))
  refine (aw4 _).mono ?_
  rintro e w' ⟨rfl, hb⟩
  go_wp2
  go_ret
  exact ⟨rfl, Drew.then_ (by repeat (first | exact Drew.refl _ | apply Drew.step | apply Drew.step1)) hb⟩
/-- WordBits. -/
theorem law_bits (x : Nat) (a n : Int) (w : World) (hx : x < 4294967296) :
    Calls Try.prog 3 #[.int .u32 (x : Int), .int .i64 a, .int .i64 n] w fun e w' => e = .returned (.bool true) ∧ Below w.heap.size w w' := by
  by_cases h : 0 ≤ a ∧ 0 ≤ n ∧ a ≤ 32 ∧ n ≤ 32 - a
  · obtain ⟨h0, h1, h2, h3⟩ := h
    obtain ⟨a, rfl⟩ := Int.eq_ofNat_of_zero_le h0
    obtain ⟨n, rfl⟩ := Int.eq_ofNat_of_zero_le h1
    have h4 : a + n ≤ 32 := by omega
    go_enter Try.func3, Try.ntmps3
    go_wp2_with (first | (go_at_call 12; (with_reducible refine (bits_yes x a n _ hx h4).mono ?_); rintro e w' ⟨rfl, ⟨nd, rfl⟩⟩; (try first | exact ⟨rfl, _, World.drewN_drewN _ _ _⟩ | exact ⟨rfl, _, Eq.trans (World.drewN_drewN _ _ _) (congrArg (World.drewN _) (Nat.add_assoc _ _ _))⟩)) | (go_at_call 13; (with_reducible refine (rbits_yes x a n _ hx h4).mono ?_); rintro e w' ⟨rfl, ⟨nd, rfl⟩⟩; (try first | exact ⟨rfl, _, World.drewN_drewN _ _ _⟩ | exact ⟨rfl, _, Eq.trans (World.drewN_drewN _ _ _) (congrArg (World.drewN _) (Nat.add_assoc _ _ _))⟩)) | (go_at_call 14; (with_reducible refine (awake_c _).mono ?_); rintro e w' ⟨rfl, hb⟩))
    go_ret
    exact ⟨rfl, Drew.then_ (by repeat (first | exact Drew.refl _ | apply Drew.step | apply Drew.step1)) hb⟩
  · go_enter Try.func3, Try.ntmps3
    go_wp2_with (first | (go_at_call 12; (with_reducible refine (bits_no x a n _ h).mono ?_); rintro e w' ⟨rfl, ⟨nd, rfl⟩⟩; (try first | exact ⟨rfl, _, World.drewN_drewN _ _ _⟩ | exact ⟨rfl, _, Eq.trans (World.drewN_drewN _ _ _) (congrArg (World.drewN _) (Nat.add_assoc _ _ _))⟩)) | (go_at_call 13; (with_reducible refine (rbits_no x a n _ h).mono ?_); rintro e w' ⟨rfl, ⟨nd, rfl⟩⟩; (try first | exact ⟨rfl, _, World.drewN_drewN _ _ _⟩ | exact ⟨rfl, _, Eq.trans (World.drewN_drewN _ _ _) (congrArg (World.drewN _) (Nat.add_assoc _ _ _))⟩)) | (go_at_call 14; (with_reducible refine (awake_c _).mono ?_); rintro e w' ⟨rfl, hb⟩))
    go_ret
    exact ⟨rfl, Drew.then_ (by repeat (first | exact Drew.refl _ | apply Drew.step | apply Drew.step1)) hb⟩
/-- WordSigns. -/
theorem law_signs (v : Nat) (n : Int) (w : World) (hx : v < 4294967296) :
    Calls Try.prog 5 #[.int .u32 (v : Int), .int .i64 n] w fun e w' => e = .returned (.bool true) ∧ Below w.heap.size w w' := by
  by_cases h : n < 1 ∨ 32 < n
  · go_enter Try.func5, Try.ntmps5
    go_wp2_with (first | (go_at_call 17; (with_reducible refine (signed_no v n _ h).mono ?_); rintro e w' ⟨rfl, ⟨nd, rfl⟩⟩; (try first | exact ⟨rfl, _, World.drewN_drewN _ _ _⟩ | exact ⟨rfl, _, Eq.trans (World.drewN_drewN _ _ _) (congrArg (World.drewN _) (Nat.add_assoc _ _ _))⟩)) | (go_at_call 18; (with_reducible refine (rsigned_no v n _ h).mono ?_); rintro e w' ⟨rfl, ⟨nd, rfl⟩⟩; (try first | exact ⟨rfl, _, World.drewN_drewN _ _ _⟩ | exact ⟨rfl, _, Eq.trans (World.drewN_drewN _ _ _) (congrArg (World.drewN _) (Nat.add_assoc _ _ _))⟩)) | (go_at_call 14; (with_reducible refine (awake_c _).mono ?_); rintro e w' ⟨rfl, hb⟩))
    go_ret
    exact ⟨rfl, Drew.then_ (by repeat (first | exact Drew.refl _ | apply Drew.step | apply Drew.step1)) hb⟩
  · obtain ⟨n, rfl⟩ := Int.eq_ofNat_of_zero_le (a := n) (by omega)
    have h1 : 1 ≤ n := by omega
    have h2 : n ≤ 32 := by omega
    clear h
    go_enter Try.func5, Try.ntmps5
    go_wp2_with (first | (go_at_call 17; (with_reducible refine (signed_yes v n _ h1 h2).mono ?_); rintro e w' ⟨rfl, ⟨nd, rfl⟩⟩; (try first | exact ⟨rfl, _, World.drewN_drewN _ _ _⟩ | exact ⟨rfl, _, Eq.trans (World.drewN_drewN _ _ _) (congrArg (World.drewN _) (Nat.add_assoc _ _ _))⟩)) | (go_at_call 18; (with_reducible refine (rsigned_yes v n _ hx h1 h2).mono ?_); rintro e w' ⟨rfl, ⟨nd, rfl⟩⟩; (try first | exact ⟨rfl, _, World.drewN_drewN _ _ _⟩ | exact ⟨rfl, _, Eq.trans (World.drewN_drewN _ _ _) (congrArg (World.drewN _) (Nat.add_assoc _ _ _))⟩)) | (go_at_call 14; (with_reducible refine (awake_c _).mono ?_); rintro e w' ⟨rfl, hb⟩))
    go_ret
    exact ⟨rfl, Drew.then_ (by repeat (first | exact Drew.refl _ | apply Drew.step | apply Drew.step1)) hb⟩
/-- WordFits. -/
theorem law_fits (v x : Int) (n : Int) (w : World) :
    Calls Try.prog 8 #[.int .i64 v, .int .i32 x, .int .i64 n] w fun e w' => e = .returned (.bool true) ∧ Below w.heap.size w w' := by
  by_cases h : n < 1
  · go_enter Try.func8, Try.ntmps8
    go_wp2_with (first | (go_at_call 19; (with_reducible refine (fits_no v n _ (Or.inl h)).mono ?_); rintro e w' ⟨rfl, ⟨nd, rfl⟩⟩; (try first | exact ⟨rfl, _, World.drewN_drewN _ _ _⟩ | exact ⟨rfl, _, Eq.trans (World.drewN_drewN _ _ _) (congrArg (World.drewN _) (Nat.add_assoc _ _ _))⟩)) | (go_at_call 20; (with_reducible refine (rfits_no v n _ (Or.inl h)).mono ?_); rintro e w' ⟨rfl, ⟨nd, rfl⟩⟩; (try first | exact ⟨rfl, _, World.drewN_drewN _ _ _⟩ | exact ⟨rfl, _, Eq.trans (World.drewN_drewN _ _ _) (congrArg (World.drewN _) (Nat.add_assoc _ _ _))⟩)) | (go_at_call 21; (with_reducible refine (cut_no x n _ h).mono ?_); rintro e w' ⟨rfl, ⟨nd, rfl⟩⟩; (try first | exact ⟨rfl, _, World.drewN_drewN _ _ _⟩ | exact ⟨rfl, _, Eq.trans (World.drewN_drewN _ _ _) (congrArg (World.drewN _) (Nat.add_assoc _ _ _))⟩)) | (go_at_call 22; (with_reducible refine (rcut_no x n _ h).mono ?_); rintro e w' ⟨rfl, ⟨nd, rfl⟩⟩; (try first | exact ⟨rfl, _, World.drewN_drewN _ _ _⟩ | exact ⟨rfl, _, Eq.trans (World.drewN_drewN _ _ _) (congrArg (World.drewN _) (Nat.add_assoc _ _ _))⟩)) | (go_at_call 14; (with_reducible refine (awake_c _).mono ?_); rintro e w' ⟨rfl, hb⟩))
    go_ret
    exact ⟨rfl, Drew.then_ (by repeat (first | exact Drew.refl _ | apply Drew.step | apply Drew.step1)) hb⟩
  · obtain ⟨n, rfl⟩ := Int.eq_ofNat_of_zero_le (a := n) (by omega)
    have h1 : 1 ≤ n := by omega
    clear h
    by_cases h : 32 < (n : Int)
    · go_enter Try.func8, Try.ntmps8
      go_wp2_with (first | (go_at_call 19; (with_reducible refine (fits_no v n _ (Or.inr h)).mono ?_); rintro e w' ⟨rfl, ⟨nd, rfl⟩⟩; (try first | exact ⟨rfl, _, World.drewN_drewN _ _ _⟩ | exact ⟨rfl, _, Eq.trans (World.drewN_drewN _ _ _) (congrArg (World.drewN _) (Nat.add_assoc _ _ _))⟩)) | (go_at_call 20; (with_reducible refine (rfits_no v n _ (Or.inr h)).mono ?_); rintro e w' ⟨rfl, ⟨nd, rfl⟩⟩; (try first | exact ⟨rfl, _, World.drewN_drewN _ _ _⟩ | exact ⟨rfl, _, Eq.trans (World.drewN_drewN _ _ _) (congrArg (World.drewN _) (Nat.add_assoc _ _ _))⟩)) | (go_at_call 21; (with_reducible refine (cut_yes x n _ h1).mono ?_); rintro e w' ⟨rfl, ⟨nd, rfl⟩⟩; (try first | exact ⟨rfl, _, World.drewN_drewN _ _ _⟩ | exact ⟨rfl, _, Eq.trans (World.drewN_drewN _ _ _) (congrArg (World.drewN _) (Nat.add_assoc _ _ _))⟩)) | (go_at_call 22; (with_reducible refine (rcut_yes x n _ h1).mono ?_); rintro e w' ⟨rfl, ⟨nd, rfl⟩⟩; (try first | exact ⟨rfl, _, World.drewN_drewN _ _ _⟩ | exact ⟨rfl, _, Eq.trans (World.drewN_drewN _ _ _) (congrArg (World.drewN _) (Nat.add_assoc _ _ _))⟩)) | (go_at_call 14; (with_reducible refine (awake_c _).mono ?_); rintro e w' ⟨rfl, hb⟩))
      go_ret
      exact ⟨rfl, Drew.then_ (by repeat (first | exact Drew.refl _ | apply Drew.step | apply Drew.step1)) hb⟩
    · have h2 : n ≤ 32 := by omega
      clear h
      go_enter Try.func8, Try.ntmps8
      go_wp2_with (first | (go_at_call 19; (with_reducible refine (fits_yes v n _ h1 h2).mono ?_); rintro e w' ⟨rfl, ⟨nd, rfl⟩⟩; (try first | exact ⟨rfl, _, World.drewN_drewN _ _ _⟩ | exact ⟨rfl, _, Eq.trans (World.drewN_drewN _ _ _) (congrArg (World.drewN _) (Nat.add_assoc _ _ _))⟩)) | (go_at_call 20; (with_reducible refine (rfits_yes v n _ h1 h2).mono ?_); rintro e w' ⟨rfl, ⟨nd, rfl⟩⟩; (try first | exact ⟨rfl, _, World.drewN_drewN _ _ _⟩ | exact ⟨rfl, _, Eq.trans (World.drewN_drewN _ _ _) (congrArg (World.drewN _) (Nat.add_assoc _ _ _))⟩)) | (go_at_call 21; (with_reducible refine (cut_yes x n _ h1).mono ?_); rintro e w' ⟨rfl, ⟨nd, rfl⟩⟩; (try first | exact ⟨rfl, _, World.drewN_drewN _ _ _⟩ | exact ⟨rfl, _, Eq.trans (World.drewN_drewN _ _ _) (congrArg (World.drewN _) (Nat.add_assoc _ _ _))⟩)) | (go_at_call 22; (with_reducible refine (rcut_yes x n _ h1).mono ?_); rintro e w' ⟨rfl, ⟨nd, rfl⟩⟩; (try first | exact ⟨rfl, _, World.drewN_drewN _ _ _⟩ | exact ⟨rfl, _, Eq.trans (World.drewN_drewN _ _ _) (congrArg (World.drewN _) (Nat.add_assoc _ _ _))⟩)) | (go_at_call 14; (with_reducible refine (awake_c _).mono ?_); rintro e w' ⟨rfl, hb⟩))
      go_ret
      exact ⟨rfl, Drew.then_ (by repeat (first | exact Drew.refl _ | apply Drew.step | apply Drew.step1)) hb⟩
/-- WordPuts. -/
theorem law_puts (x v : Nat) (a n : Int) (w : World) (hx : x < 4294967296) (hv : v < 4294967296) :
    Calls Try.prog 4 #[.int .u32 (x : Int), .agg #[.int .i64 a, .int .i64 n], .int .u32 (v : Int)] w fun e w' => e = .returned (.bool true) ∧ Below w.heap.size w w' := by
  by_cases h : 0 ≤ a ∧ 0 ≤ n ∧ a ≤ 32 ∧ n ≤ 32 - a
  · obtain ⟨h0, h1, h2, h3⟩ := h
    obtain ⟨a, rfl⟩ := Int.eq_ofNat_of_zero_le h0
    obtain ⟨n, rfl⟩ := Int.eq_ofNat_of_zero_le h1
    have h4 : a + n ≤ 32 := by omega
    go_enter Try.func4, Try.ntmps4
    go_wp2_with fail
    go_region_held3 (fun w' => w'.cell? ⟨w.heap.size, 0, none⟩ = some (.int .i64 a) ∧ w'.cell? ⟨w.heap.size, 1, none⟩ = some (.int .i64 n)) (first | go_keep | (apply keep_box; assumption)) ((first | (go_at_call 15; (with_reducible refine (with_yes x a n v _ hx hv h4).mono ?_); rintro e w' ⟨rfl, ⟨nd, rfl⟩⟩; (try first | exact ⟨rfl, _, World.drewN_drewN _ _ _⟩ | exact ⟨rfl, _, Eq.trans (World.drewN_drewN _ _ _) (congrArg (World.drewN _) (Nat.add_assoc _ _ _))⟩)) | (go_at_call 16; (with_reducible refine (rwith_yes x a n v _ hx hv h4).mono ?_); rintro e w' ⟨rfl, ⟨nd, rfl⟩⟩; (try first | exact ⟨rfl, _, World.drewN_drewN _ _ _⟩ | exact ⟨rfl, _, Eq.trans (World.drewN_drewN _ _ _) (congrArg (World.drewN _) (Nat.add_assoc _ _ _))⟩)) | (go_at_call 14; (with_reducible refine (awake_c _).mono ?_); rintro e w' ⟨rfl, hb⟩)))
    go_wp2
    go_ret
    exact ⟨rfl, below_then (below_drewN ((Below.refl _ _).alloc (Nat.le_refl _) _) _) hb⟩
  · go_enter Try.func4, Try.ntmps4
    go_wp2_with fail
    go_region_held3 (fun w' => w'.cell? ⟨w.heap.size, 0, none⟩ = some (.int .i64 a) ∧ w'.cell? ⟨w.heap.size, 1, none⟩ = some (.int .i64 n)) (first | go_keep | (apply keep_box; assumption)) ((first | (go_at_call 15; (with_reducible refine (with_no x a n v _ h).mono ?_); rintro e w' ⟨rfl, ⟨nd, rfl⟩⟩; (try first | exact ⟨rfl, _, World.drewN_drewN _ _ _⟩ | exact ⟨rfl, _, Eq.trans (World.drewN_drewN _ _ _) (congrArg (World.drewN _) (Nat.add_assoc _ _ _))⟩)) | (go_at_call 16; (with_reducible refine (rwith_no x a n v _ h).mono ?_); rintro e w' ⟨rfl, ⟨nd, rfl⟩⟩; (try first | exact ⟨rfl, _, World.drewN_drewN _ _ _⟩ | exact ⟨rfl, _, Eq.trans (World.drewN_drewN _ _ _) (congrArg (World.drewN _) (Nat.add_assoc _ _ _))⟩)) | (go_at_call 14; (with_reducible refine (awake_c _).mono ?_); rintro e w' ⟨rfl, hb⟩)))
    go_wp2
    go_ret
    exact ⟨rfl, below_then (below_drewN ((Below.refl _ _).alloc (Nat.le_refl _) _) _) hb⟩
/-- WordSigned. -/
theorem law_signed (v : Int) (n : Nat) (w : World) (hn : n < 256) (hv : -2147483648 ≤ v ∧ v ≤ 2147483647) :
    Calls Try.prog 9 #[.int .i32 v, .int .u8 (n : Int)] w fun e w' => e = .returned (.bool true) ∧ Below w.heap.size w w' := by
  obtain ⟨k, hk⟩ : ∃ k : Nat, k = 1 + n % 32 := ⟨_, rfl⟩
  have h1 : 1 ≤ k := by omega
  have h2 : k ≤ 32 := by omega
  obtain ⟨y, hy⟩ : ∃ y : Nat, y = (v % 4294967296).toNat := ⟨_, rfl⟩
  have hyl : y < 4294967296 := by omega
  have hs := sgn_range y k h1 h2
  have HK := Lib.hid (show (1 + (n : Int) % 32) = (k : Int) from by omega)
  have HY := Lib.hid (show v % 4294967296 = (y : Int) from by omega)
  have e1 := sgn_fits y k h1
  have e2 := sgn_cut v k h2
  have e3 := sgn_same v k h1 h2
  rw [← hy] at e2 e3
  clear hk hy
  obtain ⟨t, ht⟩ : ∃ t : Int, t = sgn y k := ⟨_, rfl⟩
  have hc := fun W => cut_yes t k W h1
  have hc2 := fun W => cut_yes v k W h1
  rw [show min k 32 = k from by omega] at hc hc2
  rw [show (v % 4294967296).toNat = y from by rw [HY.out, Int.toNat_natCast], ← e2, ← ht] at hc2
  have HC := Lib.hid hc
  have HC2 := Lib.hid hc2
  have hsg := fun W => signed_yes y k W h1 h2
  rw [← ht] at hsg e1 e3 hs
  have HS := Lib.hid hsg
  have hf1 := fun W => fits_yes t k W h1 h2
  rw [e1] at hf1
  have HF1 := Lib.hid hf1
  have hf2 := fun W => fits_yes v k W h1 h2
  rw [e3] at hf2
  have HF2 := Lib.hid hf2
  clear hc hc2 hsg hf1 hf2 e1 e2 e3 ht
  go_enter Try.func9, Try.ntmps9
  go_wp2_with fail
  rw [HK.out, HY.out]
  refine (HS.out _).mono ?_
  rintro e w' ⟨rfl, ⟨nd, rfl⟩⟩
  go_wp2_with fail
  refine (HF1.out _).mono ?_
  rintro e w' ⟨rfl, ⟨nd2, rfl⟩⟩
  go_wp2_with fail
  refine (HC.out _).mono ?_
  rintro e w' ⟨rfl, ⟨nd3, rfl⟩⟩
  go_wp2_with fail
  refine (HC2.out _).mono ?_
  rintro e w' ⟨rfl, ⟨nd4, rfl⟩⟩
  go_wp2_with fail
  refine (HF2.out _).mono ?_
  rintro e w' ⟨rfl, ⟨nd5, rfl⟩⟩
  go_wp2_with (first | (go_at_call 14; (with_reducible refine (awake_c _).mono ?_); rintro e w' ⟨rfl, hb⟩))
  go_ret
  exact ⟨rfl, Drew.then_ (by repeat (first | exact Drew.refl _ | apply Drew.step | apply Drew.step1)) hb⟩
/-- WordHalves. -/
theorem law_halves (x n : Nat) (w : World) (hx : x < 4294967296) (hn : n < 256) :
    Calls Try.prog 7 #[.int .u32 (x : Int), .int .u8 (n : Int)] w fun e w' => e = .returned (.bool true) ∧ Below w.heap.size w w' := by
  obtain ⟨k, hk⟩ : ∃ k : Nat, k = n % 33 := ⟨_, rfl⟩
  have h2 : k ≤ 32 := by omega
  have HK := Lib.hid (show ((n : Int) % 33) = (k : Int) from by omega)
  clear hk
  have hh := Lib.hid (halves x k hx h2)
  have b1 := fun W => bits_yes x 0 k W hx (by omega)
  rw [Nat.pow_zero, Nat.div_one] at b1
  have B1 := Lib.hid b1
  have B2 := Lib.hid fun W => bits_yes x k (32 - k) W hx (by omega)
  have hl1 : x % 2 ^ k < 4294967296 := by have := part_lt x 0 k h2; rwa [Nat.pow_zero, Nat.div_one] at this
  have P1 := Lib.hid fun W => with_yes 0 0 k (x % 2 ^ k) W (by omega) hl1 (by omega)
  have p2 := fun W => with_yes (put 0 0 k (x % 2 ^ k)) k (32 - k) (x / 2 ^ k % 2 ^ (32 - k)) W (put_lt32 (by omega) (by omega)) (part_lt x k (32 - k) (by omega)) (by omega)
  rw [hh.out] at p2
  have P2 := Lib.hid p2
  clear b1 p2
  obtain ⟨lo, hlo⟩ : ∃ lo, lo = x % 2 ^ k := ⟨_, rfl⟩
  obtain ⟨hi, hhi⟩ : ∃ hi, hi = x / 2 ^ k % 2 ^ (32 - k) := ⟨_, rfl⟩
  rw [← hlo] at B1 P1 P2
  rw [← hhi] at B2 P2
  obtain ⟨md, hmd⟩ : ∃ md, md = put 0 0 k lo := ⟨_, rfl⟩
  rw [← hmd] at P1 P2
  clear hlo hhi hmd hh
  rw [show ((32 - k : Nat) : Int) = 32 - (k : Int) from by omega] at B2 P2
  go_enter Try.func7, Try.ntmps7
  go_wp2_with fail
  rw [HK.out]
  refine (B1.out _).mono ?_
  rintro e w' ⟨rfl, ⟨nd, rfl⟩⟩
  go_wp2_with fail
  refine (B2.out _).mono ?_
  rintro e w' ⟨rfl, ⟨nd2, rfl⟩⟩
  go_wp2_with fail
  refine (P1.out _).mono ?_
  rintro e w' ⟨rfl, ⟨nd3, rfl⟩⟩
  go_wp2_with fail
  refine (P2.out _).mono ?_
  rintro e w' ⟨rfl, ⟨nd4, rfl⟩⟩
  go_wp2_with (first | (go_at_call 14; (with_reducible refine (awake_c _).mono ?_); rintro e w' ⟨rfl, hb⟩))
  go_ret
  exact ⟨rfl, Drew.then_ (by repeat (first | exact Drew.refl _ | apply Drew.step | apply Drew.step1)) hb⟩
/-- WordHexes. -/
theorem law_hexes (x : Nat) (s : ByteArray) (w : World) (hx : x < 4294967296) :
    Calls Try.prog 10 #[.int .u32 (x : Int), .string s] w fun e w' => e = .returned (.bool true) ∧ Below w.heap.size w w' := by
  go_enter Try.func10, Try.ntmps10
  go_wp2_with (first | (go_at_call 23; (with_reducible refine (parse_c s _).mono ?_); rintro e w' ⟨rfl, ⟨nd, rfl⟩⟩; (try first | exact ⟨rfl, _, World.drewN_drewN _ _ _⟩ | exact ⟨rfl, _, Eq.trans (World.drewN_drewN _ _ _) (congrArg (World.drewN _) (Nat.add_assoc _ _ _))⟩)) | (go_at_call 24; (with_reducible refine (rparse_c s _).mono ?_); rintro e w' ⟨rfl, ⟨nd, rfl⟩⟩; (try first | exact ⟨rfl, _, World.drewN_drewN _ _ _⟩ | exact ⟨rfl, _, Eq.trans (World.drewN_drewN _ _ _) (congrArg (World.drewN _) (Nat.add_assoc _ _ _))⟩)))
  refine (hex_c x _ hx).mono ?_
  rintro e w1 ⟨rfl, hb1⟩
  go_wp2_with fail
  refine (rhex_c x _ hx).mono ?_
  rintro e w2 ⟨rfl, hb2⟩
  go_wp2_with fail
  refine (awake_c _).mono ?_
  rintro e w3 ⟨rfl, hb3⟩
  go_wp2
  go_ret
  exact ⟨rfl, below_then (below_then (Drew.then_ (by repeat (first | exact Drew.refl _ | apply Drew.step | apply Drew.step1)) hb1) hb2) hb3⟩
/-- WordTexts. -/
theorem law_texts (x : Nat) (s : ByteArray) (w : World) (hx : x < 4294967296) :
    Calls Try.prog 11 #[.int .u32 (x : Int), .string s] w fun e w' => e = .returned (.bool true) ∧ Below w.heap.size w w' := by
  have p1 := fun W => parse_c (hexS x) W
  rw [parse_hex x hx] at p1
  have P1 := Lib.hid p1
  clear p1
  rcases parse_cases s with ⟨v, hv, hp, hs⟩ | hp
  · have p2 := fun W => parse_c s W
    rw [hp] at p2
    have P2 := Lib.hid p2
    have hx2 := fun W => hex_c v W hv
    rw [hs] at hx2
    have H2 := Lib.hid hx2
    clear p2 hx2 hp hs
    go_enter Try.func11, Try.ntmps11
    go_wp2_with fail
    refine (hex_c x _ hx).mono ?_
    rintro e w1 ⟨rfl, hb1⟩
    go_wp2_with fail
    refine (P1.out _).mono ?_
    rintro e w2 ⟨rfl, ⟨nd, rfl⟩⟩
    go_wp2_with fail
    refine (P2.out _).mono ?_
    rintro e w2 ⟨rfl, ⟨nd2, rfl⟩⟩
    go_wp2_with fail
    refine (H2.out _).mono ?_
    rintro e w3 ⟨rfl, hb3⟩
    go_wp2_with fail
    refine (awake_c _).mono ?_
    rintro e w4 ⟨rfl, hb4⟩
    go_wp2
    go_ret
    exact ⟨rfl, below_then (below_then (below_drewN hb1 _) hb3) hb4⟩
  · have p2 := fun W => parse_c s W
    rw [hp] at p2
    have P2 := Lib.hid p2
    clear p2 hp
    go_enter Try.func11, Try.ntmps11
    go_wp2_with fail
    refine (hex_c x _ hx).mono ?_
    rintro e w1 ⟨rfl, hb1⟩
    go_wp2_with fail
    refine (P1.out _).mono ?_
    rintro e w2 ⟨rfl, ⟨nd, rfl⟩⟩
    go_wp2_with fail
    refine (P2.out _).mono ?_
    rintro e w2 ⟨rfl, ⟨nd2, rfl⟩⟩
    go_wp2_with fail
    refine (awake_c _).mono ?_
    rintro e w4 ⟨rfl, hb4⟩
    go_wp2
    go_ret
    exact ⟨rfl, below_then (below_drewN hb1 _) hb4⟩
set_option maxHeartbeats 1000000 in
/-- WordBack. -/
theorem law_back (x v : Nat) (p0 p1 : Nat) (w : World) (hx : x < 4294967296) (hv : v < 4294967296) (hp0 : p0 < 256) (hp1 : p1 < 256) :
    Calls Try.prog 6 #[.int .u32 (x : Int), .agg #[.int .u8 (p0 : Int), .int .u8 (p1 : Int)], .int .u32 (v : Int)] w fun e w' => e = .returned (.bool true) ∧ Below w.heap.size w w' := by
  obtain ⟨a, ha⟩ : ∃ a : Nat, a = p0 % 33 := ⟨_, rfl⟩
  have ha2 : a ≤ 32 := by omega
  obtain ⟨n, hn⟩ : ∃ n : Nat, n = p1 % (33 - a) := ⟨_, rfl⟩
  have hn2 : a + n ≤ 32 := by have := Nat.mod_lt p1 (show 0 < 33 - a by omega); omega
  have HA := Lib.hid (show (p0 : Int) % 33 = (a : Int) from by omega)
  have HN := Lib.hid (show (p1 : Int) % (33 - (a : Int)) = (n : Int) from by rw [hn, Int.natCast_emod]; congr 1; omega)
  clear ha hn
  have hz := put_lt32 (n := n) (v := v) hx hn2
  have P1 := Lib.hid fun W => with_yes x a n v W hx hv hn2
  have b1 := fun W => bits_yes (put x a n v) a n W hz hn2
  rw [put_read] at b1
  have B1 := Lib.hid b1
  have B2 := Lib.hid fun W => bits_yes x a n W hx hn2
  have p2 := fun W => with_yes (put x a n v) a n (x / 2 ^ a % 2 ^ n) W hz (part_lt x a n (by omega)) hn2
  rw [put_back] at p2
  have P2 := Lib.hid p2
  have c1 := fun (k : Nat) W (hk : k < 32) (hin : ¬ (a ≤ k ∧ k < a + n)) => bits_yes (put x a n v) k 1 W hz (by omega)
  have c1' : ∀ (k : Nat) (W : World) (_ : k < 32) (_ : ¬ (a ≤ k ∧ k < a + n)), Calls Try.prog 12 #[.int .u32 ((put x a n v : Nat) : Int), .int .i64 (k : Int), .int .i64 1] W fun e w' => e = .returned (.int .u32 ((x / 2 ^ k % 2 ^ 1 : Nat) : Int)) ∧ Drew W w' :=
    fun k W hk hin => by
      have := c1 k W hk hin
      rw [put_other _ _ _ _ _ hin] at this
      exact this
  have C1 := Lib.hid c1'
  have c2' : ∀ (k : Nat) (W : World) (_ : k < 32), Calls Try.prog 12 #[.int .u32 (x : Int), .int .i64 (k : Int), .int .i64 1] W fun e w' => e = .returned (.int .u32 ((x / 2 ^ k % 2 ^ 1 : Nat) : Int)) ∧ Drew W w' :=
    fun k W hk => bits_yes x k 1 W hx (by omega)
  have C2 := Lib.hid c2'
  clear b1 p2 c1 c1' c2'
  obtain ⟨z, hzz⟩ : ∃ z, z = put x a n v := ⟨_, rfl⟩
  rw [← hzz] at P1 B1 P2 C1
  obtain ⟨m, hmm⟩ : ∃ m, m = x / 2 ^ a % 2 ^ n := ⟨_, rfl⟩
  rw [← hmm] at P2 B2
  obtain ⟨r, hr⟩ : ∃ r, r = v % 2 ^ n := ⟨_, rfl⟩
  rw [← hr] at B1
  clear hzz hmm hz
  by_cases h32 : n = 32
  · have hq : ((n : Int) == 32) = true := by rw [h32]; rfl
    have hr2 : r = v := by rw [hr, h32]; exact Nat.mod_eq_of_lt hv
    subst hr2
    have HM := Lib.hid (mask_full r hv)
    clear hr h32
    go_enter Try.func6, Try.ntmps6
    go_wp2_with fail
    rw [HA.out, HN.out]
    refine (P1.out _).mono ?_
    rintro e w' ⟨rfl, ⟨nd, rfl⟩⟩
    go_wp2_with fail
    rw [show ((2 : Int) ^ n % 4294967296 - 1) % 4294967296 = (2 ^ n - 1) % 4294967296 from by omega]
    go_loopg [11] 32 (fun g i wr => ∃ k : Nat, k ≤ 32 ∧ g = 32 - k ∧ i = .int .i64 k ∧ Below w.heap.size w wr)
    case atStart => exact ⟨0, by omega, rfl, rfl, below_drewN ((Below.refl _ _).alloc (Nat.le_refl _) _) _⟩
    case round =>
      obtain ⟨k, hk, rfl, rfl, hb⟩ := hrel
      by_cases hlt : k < 32
      · by_cases c1 : a ≤ k
        · by_cases c2 : k < a + n
          · go_wp2_with fail
            go_roundg (32 - (k + 1))
            case rel => exact ⟨k + 1, by omega, rfl, by go_num, hb⟩
            case measure => omega
          · go_wp2_with fail
            refine (C1.out k _ hlt (by omega)).mono ?_
            rintro e w' ⟨rfl, ⟨nd2, rfl⟩⟩
            go_wp2_with fail
            refine (C2.out k _ hlt).mono ?_
            rintro e w' ⟨rfl, ⟨nd3, rfl⟩⟩
            go_wp2_with fail
            go_roundg (32 - (k + 1))
            case rel => exact ⟨k + 1, by omega, rfl, by go_num, below_drewN hb _⟩
            case measure => omega
        · go_wp2_with fail
          refine (C1.out k _ hlt (by omega)).mono ?_
          rintro e w' ⟨rfl, ⟨nd2, rfl⟩⟩
          go_wp2_with fail
          refine (C2.out k _ hlt).mono ?_
          rintro e w' ⟨rfl, ⟨nd3, rfl⟩⟩
          go_wp2_with fail
          go_roundg (32 - (k + 1))
          case rel => exact ⟨k + 1, by omega, rfl, by go_num, below_drewN hb _⟩
          case measure => omega
      · have hk : k = 32 := by omega
        subst hk
        have hm := HM.out
        go_wp2_with fail
        refine (B1.out _).mono ?_
        rintro e w' ⟨rfl, ⟨nd2, rfl⟩⟩
        go_wp2_with fail
        refine (B2.out _).mono ?_
        rintro e w' ⟨rfl, ⟨nd3, rfl⟩⟩
        go_wp2_with fail
        refine (P2.out _).mono ?_
        rintro e w' ⟨rfl, ⟨nd4, rfl⟩⟩
        go_wp2_with fail
        refine (awake_c _).mono ?_
        rintro e w4 ⟨rfl, hb4⟩
        go_wp2
        go_ret
        exact ⟨rfl, below_then (below_drewN hb _) hb4⟩
  · have hq : ((n : Int) == 32) = false := by rw [beq_eq_false_iff_ne]; omega
    have hm := mask_form v n hv (by omega)
    rw [show (v : Int) % 2 ^ n = (r : Int) from by rw [hr, cast_mod]] at hm
    rw [show ((2 : Int) ^ n % 4294967296 - 1) % 4294967296 = (2 ^ n - 1) % 4294967296 from by omega] at hm
    have HM := Lib.hid hm
    clear hm
    clear hr h32
    go_enter Try.func6, Try.ntmps6
    go_wp2_with fail
    rw [HA.out, HN.out]
    refine (P1.out _).mono ?_
    rintro e w' ⟨rfl, ⟨nd, rfl⟩⟩
    go_wp2_with fail
    rw [show ((2 : Int) ^ n % 4294967296 - 1) % 4294967296 = (2 ^ n - 1) % 4294967296 from by omega]
    go_loopg [11] 32 (fun g i wr => ∃ k : Nat, k ≤ 32 ∧ g = 32 - k ∧ i = .int .i64 k ∧ Below w.heap.size w wr)
    case atStart => exact ⟨0, by omega, rfl, rfl, below_drewN ((Below.refl _ _).alloc (Nat.le_refl _) _) _⟩
    case round =>
      obtain ⟨k, hk, rfl, rfl, hb⟩ := hrel
      by_cases hlt : k < 32
      · by_cases c1 : a ≤ k
        · by_cases c2 : k < a + n
          · go_wp2_with fail
            go_roundg (32 - (k + 1))
            case rel => exact ⟨k + 1, by omega, rfl, by go_num, hb⟩
            case measure => omega
          · go_wp2_with fail
            refine (C1.out k _ hlt (by omega)).mono ?_
            rintro e w' ⟨rfl, ⟨nd2, rfl⟩⟩
            go_wp2_with fail
            refine (C2.out k _ hlt).mono ?_
            rintro e w' ⟨rfl, ⟨nd3, rfl⟩⟩
            go_wp2_with fail
            go_roundg (32 - (k + 1))
            case rel => exact ⟨k + 1, by omega, rfl, by go_num, below_drewN hb _⟩
            case measure => omega
        · go_wp2_with fail
          refine (C1.out k _ hlt (by omega)).mono ?_
          rintro e w' ⟨rfl, ⟨nd2, rfl⟩⟩
          go_wp2_with fail
          refine (C2.out k _ hlt).mono ?_
          rintro e w' ⟨rfl, ⟨nd3, rfl⟩⟩
          go_wp2_with fail
          go_roundg (32 - (k + 1))
          case rel => exact ⟨k + 1, by omega, rfl, by go_num, below_drewN hb _⟩
          case measure => omega
      · have hk : k = 32 := by omega
        subst hk
        have hm := HM.out
        go_wp2_with fail
        refine (B1.out _).mono ?_
        rintro e w' ⟨rfl, ⟨nd2, rfl⟩⟩
        go_wp2_with fail
        refine (B2.out _).mono ?_
        rintro e w' ⟨rfl, ⟨nd3, rfl⟩⟩
        go_wp2_with fail
        refine (P2.out _).mono ?_
        rintro e w' ⟨rfl, ⟨nd4, rfl⟩⟩
        go_wp2_with fail
        refine (awake_c _).mono ?_
        rintro e w4 ⟨rfl, hb4⟩
        go_wp2
        go_ret
        exact ⟨rfl, below_then (below_drewN hb _) hb4⟩
end Go.Proofs.Ytdakbmfgdhimpaa.W3
