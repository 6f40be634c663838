/- The plain arithmetic of parts of words: no Go in sight. Conditions: as each lemma says. -/
import Derived.RowKit
import Derived.Laws.BytesArg
import Derived.Laws.BitsAllLaws
import Derived.OpenShut
set_option linter.unusedVariables false
set_option linter.unusedSimpArgs false
namespace Go.Proofs.YthnbdeibjbicpaaGreat.WM
open Go.RowKit
/-- A shift to the left, as Go tells it. -/
def shl (k : IntKind) (x y : Int) : Int := k.wrap (x * 2 ^ min y.toNat k.bits)
/-- A shift to the right. -/
def shr (k : IntKind) (x y : Int) : Int := x / 2 ^ min y.toNat k.bits

/-- R: the word w with the part (at, n) replaced by v's low n bits. -/
def put (w at_ n v : Nat) : Nat := 2 ^ at_ * (2 ^ n * (w / 2 ^ (at_ + n)) + v % 2 ^ n) + w % 2 ^ at_

theorem put_bit (w a n v i : Nat) : (put w a n v).testBit i = if a ≤ i ∧ i < a + n then v.testBit (i - a) else w.testBit i := by
  unfold put
  rw [Nat.testBit_two_pow_mul_add _ (Nat.mod_lt _ (Nat.two_pow_pos a))]
  by_cases h : i < a
  · rw [if_pos h, if_neg (by omega), Nat.testBit_mod_two_pow]; simp [h]
  · rw [if_neg h, Nat.testBit_two_pow_mul_add _ (Nat.mod_lt _ (Nat.two_pow_pos n))]
    by_cases h2 : i - a < n
    · rw [if_pos h2, if_pos (by omega), Nat.testBit_mod_two_pow]; simp [h2]
    · rw [if_neg h2, if_neg (by omega), Nat.testBit_div_two_pow]
      congr 1; omega

theorem bit_lt {x m i : Nat} (h : x < 2 ^ m) (hi : m ≤ i) : x.testBit i = false :=
  Nat.testBit_lt_two_pow (Nat.lt_of_lt_of_le h (Nat.pow_le_pow_right (by decide) hi))

theorem lt_of_bits {x m : Nat} (h : ∀ i, m ≤ i → x.testBit i = false) : x < 2 ^ m := Nat.lt_pow_two_of_testBit x (fun i hi => h i hi)

theorem put_lt {w a n v m : Nat} (hw : w < 2 ^ m) (h : a + n ≤ m) : put w a n v < 2 ^ m :=
  lt_of_bits fun i hi => by rw [put_bit, if_neg (by omega)]; exact bit_lt hw hi

/-- As the program has it. -/
theorem prog_put (w a n v : Nat) (hw : w < 2 ^ 32) (h : a + n ≤ 32) :
    (w &&& (4294967295 - (2 ^ n - 1) * 2 ^ a)) ||| ((v &&& (2 ^ n - 1)) * 2 ^ a) = put w a n v := by
  apply Nat.eq_of_testBit_eq
  intro i
  have hp : (2 ^ n - 1) * 2 ^ a < 2 ^ 32 := by
    have h1 : 2 ^ n * 2 ^ a ≤ 2 ^ 32 := by rw [← Nat.pow_add]; exact Nat.pow_le_pow_right (by decide) (by omega)
    have h2 : 0 < 2 ^ a := Nat.two_pow_pos a
    have h3 : 0 < 2 ^ n := Nat.two_pow_pos n
    have h4 : (2 ^ n - 1) * 2 ^ a + 2 ^ a = 2 ^ n * 2 ^ a := by rw [← Nat.succ_mul]; congr 1; omega
    omega
  have e1 : 4294967295 - (2 ^ n - 1) * 2 ^ a = 2 ^ 32 - ((2 ^ n - 1) * 2 ^ a + 1) := by omega
  rw [put_bit, Nat.testBit_or, Nat.testBit_and, e1, Nat.testBit_two_pow_sub_succ hp, Nat.testBit_mul_two_pow, Nat.testBit_mul_two_pow, Nat.testBit_two_pow_sub_one, Nat.testBit_and, Nat.testBit_two_pow_sub_one]
  by_cases h32 : i < 32
  · by_cases h1 : a ≤ i
    · by_cases h2 : i < a + n
      · have h3 : i - a < n := by omega
        simp [h1, h2, h3, h32]
      · have h3 : ¬ i - a < n := by omega
        simp [h1, h2, h3, h32]
    · simp [h1, h32]
  · have hwi : w.testBit i = false := bit_lt hw (by omega)
    by_cases h1 : a ≤ i
    · have h3 : ¬ i - a < n := by omega
      have h2 : ¬ i < a + n := by omega
      simp [h1, h2, h3, hwi]
    · omega

theorem prog_bits (w a n : Nat) : (w / 2 ^ a) &&& (2 ^ n - 1) = w / 2 ^ a % 2 ^ n := Nat.and_two_pow_sub_one_eq_mod _ _

theorem bits_step (x i : Nat) : (x % 2 ^ i) ||| ((x / 2 ^ i % 2) * 2 ^ i) = x % 2 ^ (i + 1) := by
  apply Nat.eq_of_testBit_eq
  intro j
  rw [Nat.testBit_or, Nat.testBit_mod_two_pow, Nat.testBit_mul_two_pow, Nat.testBit_mod_two_pow]
  have e : ∀ k, (x / 2 ^ i % 2).testBit k = (decide (k < 1) && x.testBit (i + k)) := fun k => by
    rw [show (2:Nat) = 2 ^ 1 from rfl, Nat.testBit_mod_two_pow, show (2:Nat)^1 = 2 from rfl, Nat.testBit_div_two_pow, Nat.add_comm]
  rw [e]
  by_cases h1 : j < i
  · have h2 : ¬ i ≤ j := by omega
    have h3 : j < i + 1 := by omega
    simp [h1, h2, h3]
  · by_cases h2 : j = i
    · subst h2; simp
    · have h3 : ¬ j < i + 1 := by omega
      have h4 : ¬ j - i < 1 := by omega
      simp [h1, h3, h4]

theorem put_bit_nat (w a n v i : Nat) : put w a n v / 2 ^ i % 2 = if a ≤ i ∧ i < a + n then v / 2 ^ (i - a) % 2 else w / 2 ^ i % 2 := by
  have h := put_bit w a n v i
  have hm := Nat.mod_two_eq_zero_or_one (put w a n v / 2 ^ i)
  have hm1 := Nat.mod_two_eq_zero_or_one (v / 2 ^ (i - a))
  have hm2 := Nat.mod_two_eq_zero_or_one (w / 2 ^ i)
  rw [Nat.testBit_eq_decide_div_mod_eq] at h
  by_cases hc : a ≤ i ∧ i < a + n
  · rw [if_pos hc] at h ⊢
    rw [Nat.testBit_eq_decide_div_mod_eq] at h
    have h' := decide_eq_decide.1 h
    omega
  · rw [if_neg hc] at h ⊢
    rw [Nat.testBit_eq_decide_div_mod_eq] at h
    have h' := decide_eq_decide.1 h
    omega

/-! ### On whole numbers -/
theorem pow_cast (n : Nat) : ((2 ^ n : Nat) : Int) = (2 : Int) ^ n := by simp
theorem pow_le32 {n : Nat} (h : n ≤ 32) : 2 ^ n ≤ 4294967296 := Nat.pow_le_pow_right (by decide) h
theorem mask_lt {n : Nat} (h : n ≤ 32) : 2 ^ n - 1 < 4294967296 := by
  have h1 := pow_le32 h
  have h2 := Nat.two_pow_pos n
  omega

theorem shl_val (x a : Nat) (h : a ≤ 32) : shl .u32 (x : Int) (a : Int) = ((x * 2 ^ a % 4294967296 : Nat) : Int) := by
  unfold shl
  rw [IntKind.wrap_u32, Int.toNat_natCast, show IntKind.u32.bits = 32 from rfl, Nat.min_eq_left h, ← pow_cast, ← Int.natCast_mul]
  omega

theorem shl_val_lt (x a : Nat) (h : a ≤ 32) (hx : x * 2 ^ a < 4294967296) : shl .u32 (x : Int) (a : Int) = ((x * 2 ^ a : Nat) : Int) := by
  rw [shl_val x a h, Nat.mod_eq_of_lt hx]

theorem div_lt {w : Nat} (a : Nat) (hw : w < 4294967296) : w / 2 ^ a < 4294967296 := Nat.lt_of_le_of_lt (Nat.div_le_self _ _) hw

theorem mask_shift {a n : Nat} (h : a + n ≤ 32) : (2 ^ n - 1) * 2 ^ a < 4294967296 := by
  have h1 : 2 ^ n * 2 ^ a ≤ 4294967296 := by rw [← Nat.pow_add]; exact pow_le32 (by omega)
  have h2 := Nat.two_pow_pos a
  have h3 := Nat.two_pow_pos n
  have h4 : (2 ^ n - 1) * 2 ^ a + 2 ^ a = 2 ^ n * 2 ^ a := by rw [← Nat.succ_mul]; congr 1; omega
  omega

theorem with_val (w a n v : Nat) (hw : w < 4294967296) (hv : v < 4294967296) (h : a + n ≤ 32) :
    Go.bits .or .u32 (Go.bits .andNot .u32 (w : Int) (shl .u32 ((2 ^ n - 1 : Nat) : Int) (a : Int))) (shl .u32 (Go.bits .and .u32 (v : Int) ((2 ^ n - 1 : Nat) : Int)) (a : Int)) = ((put w a n v : Nat) : Int) := by
  have hm := mask_shift h
  rw [shl_val_lt _ _ (by omega) hm, u32_andNot_nat _ _ hw hm, u32_and_nat _ _ hv (mask_lt (by omega))]
  have hv2 : (v &&& (2 ^ n - 1)) * 2 ^ a ≤ (2 ^ n - 1) * 2 ^ a := Nat.mul_le_mul_right _ Nat.and_le_right
  rw [shl_val_lt _ _ (by omega) (by omega), u32_or_nat _ _ (Nat.lt_of_le_of_lt Nat.and_le_left hw) (by omega), prog_put w a n v hw h]

theorem or_step (x b i : Nat) (hx : x < 2 ^ i) (hb : b < 2) (hi : i < 32) : Go.bits .or .u32 (x : Int) (shl .u32 (b : Int) (i : Int)) = ((x ||| b * 2 ^ i : Nat) : Int) := by
  have h1 : 2 ^ (i + 1) ≤ 4294967296 := pow_le32 hi
  have h2 := Nat.two_pow_pos i
  rw [Nat.pow_succ] at h1
  have h3 : b * 2 ^ i ≤ 1 * 2 ^ i := Nat.mul_le_mul_right _ (by omega)
  rw [shl_val_lt _ _ (by omega) (by omega), u32_or_nat _ _ (by omega) (by omega)]

/-! ### In the walk's own forms -/
theorem bits_form (x a n : Nat) (hx : x < 4294967296) (h : a + n ≤ 32) : Go.bits .and .u32 ((x : Int) / 2 ^ a) ((2 ^ n - 1 : Nat) : Int) = ((x / 2 ^ a % 2 ^ n : Nat) : Int) := by
  rw [← pow_cast, ← Int.natCast_ediv, u32_and_nat _ _ (div_lt a hx) (mask_lt (by omega)), prog_bits]
theorem with_form (x a n v : Nat) (hx : x < 4294967296) (hv : v < 4294967296) (h : a + n ≤ 32) :
    Go.bits .or .u32 (Go.bits .andNot .u32 (x : Int) (((2 ^ n - 1 : Nat) : Int) * 2 ^ a % 4294967296)) (Go.bits .and .u32 (v : Int) ((2 ^ n - 1 : Nat) : Int) * 2 ^ a % 4294967296) = ((put x a n v : Nat) : Int) := by
  have h1 := with_val x a n v hx hv h
  have h2 : ∀ y : Int, shl .u32 y (a : Int) = y * 2 ^ a % 4294967296 := fun y => by
    unfold shl
    rw [IntKind.wrap_u32, Int.toNat_natCast, show IntKind.u32.bits = 32 from rfl, Nat.min_eq_left (by omega)]
  rw [h2, h2] at h1
  exact h1
/-- The number that the lowest n bits of v are, with a sign. -/
def sgn (v n : Nat) : Int := if v % 2 ^ n < 2 ^ (n - 1) then ((v % 2 ^ n : Nat) : Int) else ((v % 2 ^ n : Nat) : Int) - ((2 ^ n : Nat) : Int)
theorem pow_split {n : Nat} (h2 : n ≤ 32) : 2 ^ n * 2 ^ (32 - n) = 4294967296 := by rw [← Nat.pow_add, Nat.add_sub_cancel' h2]
theorem pow_half {n : Nat} (h1 : 1 ≤ n) : 2 ^ n = 2 * 2 ^ (n - 1) := by
  obtain ⟨m, rfl⟩ : ∃ m, n = m + 1 := ⟨n - 1, by omega⟩
  rw [Nat.pow_succ, Nat.add_sub_cancel]; omega
theorem signed_form (v n : Nat) (h1 : 1 ≤ n) (h2 : n ≤ 32) : wrap32 ((v : Int) * 2 ^ (32 - n) % 4294967296) / 2 ^ (32 - n) = sgn v n := by
  have e0 : (v : Int) * 2 ^ (32 - n) % 4294967296 = ((v % 2 ^ n * 2 ^ (32 - n) : Nat) : Int) := by
    rw [← pow_cast, ← Int.natCast_mul, Nat.mul_mod_mul_right (2 ^ (32 - n)) v (2 ^ n) |>.symm, pow_split h2]; rfl
  rw [e0, ← pow_cast]
  have hp := Nat.two_pow_pos (32 - n)
  have hs := pow_split h2
  have hh := pow_half h1
  have hm : v % 2 ^ n < 2 ^ n := Nat.mod_lt _ (Nat.two_pow_pos n)
  unfold sgn
  generalize v % 2 ^ n = y at *
  have hhp : 2 ^ (n - 1) * 2 ^ (32 - n) = 2147483648 := by
    rw [hh, Nat.mul_assoc] at hs
    omega
  generalize 2 ^ (32 - n) = p at *
  generalize 2 ^ (n - 1) = H at *
  generalize 2 ^ n = M at *
  have hp0 : (p : Int) ≠ 0 := by omega
  by_cases hy : y < H
  · rw [if_pos hy]
    have h3 : y * p < H * p := Nat.mul_lt_mul_of_pos_right hy hp
    rw [show wrap32 ((y * p : Nat) : Int) = ((y * p : Nat) : Int) from by unfold wrap32; omega, Int.natCast_mul, Int.mul_ediv_cancel _ hp0]
  · rw [if_neg hy]
    have h3 : H * p ≤ y * p := Nat.mul_le_mul_right p (by omega)
    have h4 : y * p < M * p := Nat.mul_lt_mul_of_pos_right hm hp
    have h5 : wrap32 ((y * p : Nat) : Int) = ((y : Int) - (M : Int)) * p := by
      rw [Int.sub_mul, ← Int.natCast_mul, ← Int.natCast_mul, hs]
      unfold wrap32; omega
    rw [h5, Int.mul_ediv_cancel _ hp0]
/-- Does v fit into n bits? -/
def fitsB (v : Int) (n : Nat) : Bool := decide (-((2 ^ (n - 1) : Nat) : Int) ≤ v ∧ v < ((2 ^ (n - 1) : Nat) : Int))
theorem fits_form (v : Int) (n : Nat) : (v / 2 ^ (n - 1) == 0 || v / 2 ^ (n - 1) == -1) = fitsB v n := by
  unfold fitsB
  rw [← pow_cast]
  have hp := Nat.two_pow_pos (n - 1)
  generalize 2 ^ (n - 1) = p at *
  have hp' : (0 : Int) < p := by omega
  have a1 := Int.le_ediv_iff_mul_le (a := -1) (b := v) hp'
  have a2 := Int.ediv_lt_iff_lt_mul (a := v) (b := 1) hp'
  generalize v / (p : Int) = q at *
  rw [Bool.eq_iff_iff]
  simp only [Bool.or_eq_true, beq_iff_eq, decide_eq_true_eq]
  omega
theorem bit_form (x i : Nat) (hx : x < 4294967296) : Go.bits .and .u32 ((x : Int) / 2 ^ i) 1 = ((x / 2 ^ i % 2 : Nat) : Int) := by
  rw [← pow_cast, ← Int.natCast_ediv, show (1 : Int) = ((1 : Nat) : Int) from rfl, u32_and_nat _ _ (div_lt i hx) (by omega), nat_mask1]
theorem or_form (y b k : Nat) (hy : y < 2 ^ k) (hb : b < 2) (hk : k < 32) : Go.bits .or .u32 (y : Int) ((b : Int) * 2 ^ k % 4294967296) = ((y ||| b * 2 ^ k : Nat) : Int) := by
  have h := or_step y b k hy hb hk
  have h2 : shl .u32 (b : Int) (k : Int) = (b : Int) * 2 ^ k % 4294967296 := by
    unfold shl
    rw [IntKind.wrap_u32, Int.toNat_natCast, show IntKind.u32.bits = 32 from rfl, Nat.min_eq_left (by omega)]
  rw [h2] at h
  exact h
theorem cast_part (x a k : Nat) : (x : Int) / 2 ^ a % 2 ^ k = ((x / 2 ^ a % 2 ^ k : Nat) : Int) := by
  rw [← pow_cast, ← pow_cast, ← Int.natCast_ediv, ← Int.natCast_emod]
theorem cast_bit (x a : Nat) : (x : Int) / 2 ^ a % 2 = ((x / 2 ^ a % 2 : Nat) : Int) := by
  rw [← pow_cast, ← Int.natCast_ediv]; omega
theorem rbits_round (x a k : Nat) (hk : k < 32) : Go.bits .or .u32 ((x : Int) / 2 ^ a % 2 ^ k) ((x : Int) / 2 ^ (a + k) % 2 * 2 ^ k % 4294967296) = ((x / 2 ^ a % 2 ^ (k + 1) : Nat) : Int) := by
  rw [cast_part, cast_bit, or_form _ _ k (Nat.mod_lt _ (Nat.two_pow_pos k)) (Nat.mod_lt _ (by decide)) hk, Nat.pow_add, ← Nat.div_div_eq_div_mul, bits_step]
theorem rwith_round (r y j k : Nat) (hk : k < 32) (hj : r / 2 ^ k % 2 = y / 2 ^ j % 2) : Go.bits .or .u32 ((r : Int) % 2 ^ k) ((y : Int) / 2 ^ j % 2 * 2 ^ k % 4294967296) = ((r % 2 ^ (k + 1) : Nat) : Int) := by
  rw [cast_bit, ← pow_cast k, ← Int.natCast_emod, pow_cast k, or_form _ _ k (Nat.mod_lt _ (Nat.two_pow_pos k)) (Nat.mod_lt _ (by decide)) hk, ← hj, bits_step]
theorem top_bit (v n : Nat) (h1 : 1 ≤ n) : v / 2 ^ (n - 1) % 2 = 1 ↔ ¬ v % 2 ^ n < 2 ^ (n - 1) := by
  have e := Nat.mod_mul_right_div_self v (2 ^ (n - 1)) 2
  have hh : 2 ^ (n - 1) * 2 = 2 ^ n := by rw [pow_half h1]; omega
  rw [hh] at e
  have hm : v % 2 ^ n < 2 ^ n := Nat.mod_lt _ (Nat.two_pow_pos n)
  have hp := Nat.two_pow_pos (n - 1)
  rw [← e]
  generalize v % 2 ^ n = y at *
  have a1 := Nat.div_lt_iff_lt_mul (x := y) (y := 1) hp
  have a2 := Nat.div_lt_iff_lt_mul (x := y) (y := 2) hp
  omega
theorem sgn_neg (v n : Nat) (h1 : 1 ≤ n) (h : v / 2 ^ (n - 1) % 2 = 1) : sgn v n = ((v % 2 ^ n : Nat) : Int) - ((2 ^ n : Nat) : Int) := by
  unfold sgn; rw [if_neg ((top_bit v n h1).1 h)]
theorem sgn_pos (v n : Nat) (h1 : 1 ≤ n) (h : ¬ v / 2 ^ (n - 1) % 2 = 1) : sgn v n = ((v % 2 ^ n : Nat) : Int) := by
  unfold sgn; rw [if_pos (Decidable.not_not.1 (fun e => h ((top_bit v n h1).2 e)))]
theorem sgn_range (v n : Nat) (h1 : 1 ≤ n) (h2 : n ≤ 32) : -2147483648 ≤ sgn v n ∧ sgn v n ≤ 2147483647 := by
  have hm : v % 2 ^ n < 2 ^ n := Nat.mod_lt _ (Nat.two_pow_pos n)
  have hh := pow_half h1
  have hl : 2 ^ (n - 1) ≤ 2 ^ 31 := Nat.pow_le_pow_right (by decide) (by omega)
  unfold sgn
  split <;> omega
theorem cast_mod (x n : Nat) : (x : Int) % 2 ^ n = ((x % 2 ^ n : Nat) : Int) := by rw [← pow_cast, ← Int.natCast_emod]
theorem rsg_neg (v n : Nat) (h1 : 1 ≤ n) (h2 : n ≤ 32) (h : (v : Int) / 2 ^ (n - 1) % 2 = 1) : wrap32 (wrap64 (wrap64 ((v : Int) % 2 ^ n) - wrap64 (2 ^ n))) = sgn v n := by
  have hr := sgn_range v n h1 h2
  rw [cast_bit] at h
  rw [sgn_neg v n h1 (by omega)] at *
  have hm : v % 2 ^ n < 2 ^ n := Nat.mod_lt _ (Nat.two_pow_pos n)
  have hp := pow_le32 h2
  rw [cast_mod, ← pow_cast]
  generalize v % 2 ^ n = y at *
  generalize 2 ^ n = M at *
  rw [show wrap64 (y : Int) = y from by unfold wrap64; omega, show wrap64 (M : Int) = M from by unfold wrap64; omega, show wrap64 ((y : Int) - M) = (y : Int) - M from by unfold wrap64; omega]
  unfold wrap32; omega
theorem rsg_pos (v n : Nat) (h1 : 1 ≤ n) (h2 : n ≤ 32) (h : ¬ (v : Int) / 2 ^ (n - 1) % 2 = 1) : wrap32 (wrap64 ((v : Int) % 2 ^ n)) = sgn v n := by
  have hr := sgn_range v n h1 h2
  rw [cast_bit] at h
  rw [sgn_pos v n h1 (by omega)] at *
  rw [cast_mod]
  generalize v % 2 ^ n = y at *
  rw [show wrap64 (y : Int) = y from by unfold wrap64; omega]
  unfold wrap32; omega
theorem rfits_yes_form (v : Int) (n : Nat) (h1 : 1 ≤ n) (h2 : n ≤ 32) (h : wrap64 (-wrap64 (2 ^ (n - 1))) ≤ v) : decide (v ≤ wrap64 (wrap64 (2 ^ (n - 1)) - 1)) = fitsB v n := by
  have hp := pow_le32 (n := n - 1) (by omega)
  have hq := Nat.two_pow_pos (n - 1)
  unfold fitsB
  rw [← pow_cast] at h ⊢
  generalize 2 ^ (n - 1) = M at *
  rw [show wrap64 (M : Int) = M from by unfold wrap64; omega] at h ⊢
  rw [show wrap64 (-(M : Int)) = -M from by unfold wrap64; omega] at h
  rw [show wrap64 ((M : Int) - 1) = (M : Int) - 1 from by unfold wrap64; omega]
  exact decide_eq_decide.2 (by omega)
theorem rfits_no_form (v : Int) (n : Nat) (h1 : 1 ≤ n) (h2 : n ≤ 32) (h : v < wrap64 (-wrap64 (2 ^ (n - 1)))) : false = fitsB v n := by
  have hp := pow_le32 (n := n - 1) (by omega)
  have hq := Nat.two_pow_pos (n - 1)
  unfold fitsB
  rw [← pow_cast] at h
  generalize 2 ^ (n - 1) = M at *
  rw [show wrap64 (M : Int) = M from by unfold wrap64; omega] at h
  rw [show wrap64 (-(M : Int)) = -M from by unfold wrap64; omega] at h
  exact (decide_eq_false (by omega)).symm

/-! ### Digits -/
/-- What a byte is as a digit to the base 16; 16: none. -/
def dig (c : Nat) : Nat := if 48 ≤ c ∧ c ≤ 57 then c - 48 else if 97 ≤ c ∧ c ≤ 102 then c - 87 else 16
def byteAt (s : ByteArray) (k : Nat) : Nat := if h : k < s.size then (s[k]'h).toNat else 0
/-- The word that the first k bytes are. -/
def parseN (s : ByteArray) : Nat → Option Nat
  | 0 => some 0
  | k + 1 => (parseN s k).bind fun v => if dig (byteAt s k) < 16 then some (v * 16 + dig (byteAt s k)) else none
/-- What Parse tells. -/
def parseR (s : ByteArray) : Int × Int := if s.size = 8 then match parseN s 8 with | some v => ((v : Int), 0) | none => (0, 4) else (0, 4)
/-- The reference's search: what has been found among the first j digits. -/
def sofar (d j : Nat) : Nat := if d < j then d else 16
/-- The code of digit j. -/
def dgc (j : Nat) : Nat := if j < 10 then 48 + j else 87 + j
/-- Hex's cells after k rounds. -/
def hexA (x k : Nat) : Array Value := ((List.range 8).map fun p => Value.int .u8 (if 8 - k ≤ p then (dgc (x / 16 ^ (7 - p) % 16) : Int) else 0)).toArray
/-- A word's digits. -/
def hexL (x : Nat) : List Int := (List.range 8).map fun p => (dgc (x / 16 ^ (7 - p) % 16) : Int)
def hexS (x : Nat) : ByteArray := strOfNums (hexL x)
end Go.Proofs.YthnbdeibjbicpaaGreat.WM
