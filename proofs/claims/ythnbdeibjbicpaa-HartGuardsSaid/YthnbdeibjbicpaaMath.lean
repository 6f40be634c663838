/- The plain arithmetic of parts of words: no Go in sight. Conditions: as each lemma says. -/
import Derived.RowKit
import Derived.Laws.BytesArg
import Derived.Laws.BitsAllLaws
import Derived.OpenShut
set_option linter.unusedVariables false
set_option linter.unusedSimpArgs false
namespace Go.Proofs.Ythnbdeibjbicpaa.WM
open Go.RowKit
/-- A shift to the left, as Go tells it. -/
def shl (k : IntKind) (x y : Int) : Int := k.wrap (x * 2 ^ min y.toNat k.bits)
/-- A shift to the right. -/
def shr (k : IntKind) (x y : Int) : Int := x / 2 ^ min y.toNat k.bits

/-- R: the word w with the part (at, n) replaced by v's low n bits. -/
def put (w at_ n v : Nat) : Nat := 2 ^ at_ * (2 ^ n * (w / 2 ^ (at_ + n)) + v % 2 ^ n) + w % 2 ^ at_

theorem put_bit (w a n v i : Nat) : (put w a n v).testBit i = if a ≤ i ∧ i < a + n then v.testBit (i - a) else w.testBit i := by
  unfold put
  rw [Nat.testBit_two_pow_mul_add _ (Nat.mod_lt _ (Nat.two_pow_pos a))]
  by_cases h : i < a
  · rw [if_pos h, if_neg (by omega), Nat.testBit_mod_two_pow]; simp [h]
  · rw [if_neg h, Nat.testBit_two_pow_mul_add _ (Nat.mod_lt _ (Nat.two_pow_pos n))]
    by_cases h2 : i - a < n
    · rw [if_pos h2, if_pos (by omega), Nat.testBit_mod_two_pow]; simp [h2]
    · rw [if_neg h2, if_neg (by omega), Nat.testBit_div_two_pow]
      congr 1; omega

theorem bit_lt {x m i : Nat} (h : x < 2 ^ m) (hi : m ≤ i) : x.testBit i = false :=
  Nat.testBit_lt_two_pow (Nat.lt_of_lt_of_le h (Nat.pow_le_pow_right (by decide) hi))

theorem lt_of_bits {x m : Nat} (h : ∀ i, m ≤ i → x.testBit i = false) : x < 2 ^ m := Nat.lt_pow_two_of_testBit x (fun i hi => h i hi)

theorem put_lt {w a n v m : Nat} (hw : w < 2 ^ m) (h : a + n ≤ m) : put w a n v < 2 ^ m :=
  lt_of_bits fun i hi => by rw [put_bit, if_neg (by omega)]; exact bit_lt hw hi

/-- As the program has it. -/
theorem prog_put (w a n v : Nat) (hw : w < 2 ^ 32) (h : a + n ≤ 32) :
    (w &&& (4294967295 - (2 ^ n - 1) * 2 ^ a)) ||| ((v &&& (2 ^ n - 1)) * 2 ^ a) = put w a n v := by
  apply Nat.eq_of_testBit_eq
  intro i
  have hp : (2 ^ n - 1) * 2 ^ a < 2 ^ 32 := by
    have h1 : 2 ^ n * 2 ^ a ≤ 2 ^ 32 := by rw [← Nat.pow_add]; exact Nat.pow_le_pow_right (by decide) (by omega)
    have h2 : 0 < 2 ^ a := Nat.two_pow_pos a
    have h3 : 0 < 2 ^ n := Nat.two_pow_pos n
    have h4 : (2 ^ n - 1) * 2 ^ a + 2 ^ a = 2 ^ n * 2 ^ a := by rw [← Nat.succ_mul]; congr 1; omega
    omega
  have e1 : 4294967295 - (2 ^ n - 1) * 2 ^ a = 2 ^ 32 - ((2 ^ n - 1) * 2 ^ a + 1) := by omega
  rw [put_bit, Nat.testBit_or, Nat.testBit_and, e1, Nat.testBit_two_pow_sub_succ hp, Nat.testBit_mul_two_pow, Nat.testBit_mul_two_pow, Nat.testBit_two_pow_sub_one, Nat.testBit_and, Nat.testBit_two_pow_sub_one]
  by_cases h32 : i < 32
  · by_cases h1 : a ≤ i
    · by_cases h2 : i < a + n
      · have h3 : i - a < n := by omega
        simp [h1, h2, h3, h32]
      · have h3 : ¬ i - a < n := by omega
        simp [h1, h2, h3, h32]
    · simp [h1, h32]
  · have hwi : w.testBit i = false := bit_lt hw (by omega)
    by_cases h1 : a ≤ i
    · have h3 : ¬ i - a < n := by omega
      have h2 : ¬ i < a + n := by omega
      simp [h1, h2, h3, hwi]
    · omega

theorem prog_bits (w a n : Nat) : (w / 2 ^ a) &&& (2 ^ n - 1) = w / 2 ^ a % 2 ^ n := Nat.and_two_pow_sub_one_eq_mod _ _

theorem bits_step (x i : Nat) : (x % 2 ^ i) ||| ((x / 2 ^ i % 2) * 2 ^ i) = x % 2 ^ (i + 1) := by
  apply Nat.eq_of_testBit_eq
  intro j
  rw [Nat.testBit_or, Nat.testBit_mod_two_pow, Nat.testBit_mul_two_pow, Nat.testBit_mod_two_pow]
  have e : ∀ k, (x / 2 ^ i % 2).testBit k = (decide (k < 1) && x.testBit (i + k)) := fun k => by
    rw [show (2:Nat) = 2 ^ 1 from rfl, Nat.testBit_mod_two_pow, show (2:Nat)^1 = 2 from rfl, Nat.testBit_div_two_pow, Nat.add_comm]
  rw [e]
  by_cases h1 : j < i
  · have h2 : ¬ i ≤ j := by omega
    have h3 : j < i + 1 := by omega
    simp [h1, h2, h3]
  · by_cases h2 : j = i
    · subst h2; simp
    · have h3 : ¬ j < i + 1 := by omega
      have h4 : ¬ j - i < 1 := by omega
      simp [h1, h3, h4]

theorem put_bit_nat (w a n v i : Nat) : put w a n v / 2 ^ i % 2 = if a ≤ i ∧ i < a + n then v / 2 ^ (i - a) % 2 else w / 2 ^ i % 2 := by
  have h := put_bit w a n v i
  have hm := Nat.mod_two_eq_zero_or_one (put w a n v / 2 ^ i)
  have hm1 := Nat.mod_two_eq_zero_or_one (v / 2 ^ (i - a))
  have hm2 := Nat.mod_two_eq_zero_or_one (w / 2 ^ i)
  rw [Nat.testBit_eq_decide_div_mod_eq] at h
  by_cases hc : a ≤ i ∧ i < a + n
  · rw [if_pos hc] at h ⊢
    rw [Nat.testBit_eq_decide_div_mod_eq] at h
    have h' := decide_eq_decide.1 h
    omega
  · rw [if_neg hc] at h ⊢
    rw [Nat.testBit_eq_decide_div_mod_eq] at h
    have h' := decide_eq_decide.1 h
    omega

/-! ### On whole numbers -/
theorem pow_cast (n : Nat) : ((2 ^ n : Nat) : Int) = (2 : Int) ^ n := by simp
theorem two32 : (2 : Nat) ^ 32 = 4294967296 := rfl
theorem pow_le32 {n : Nat} (h : n ≤ 32) : 2 ^ n ≤ 4294967296 := Nat.pow_le_pow_right (by decide) h
theorem mask_lt {n : Nat} (h : n ≤ 32) : 2 ^ n - 1 < 4294967296 := by
  have h1 := pow_le32 h
  have h2 := Nat.two_pow_pos n
  omega

/-- mask. -/
theorem mask_val (n : Nat) (h : n ≤ 32) : ((shl .u32 1 (n : Int)) - 1) % 4294967296 = ((2 ^ n - 1 : Nat) : Int) := by
  unfold shl
  rw [IntKind.wrap_u32, Int.toNat_natCast, Int.one_mul, show IntKind.u32.bits = 32 from rfl, Nat.min_eq_left h, ← pow_cast]
  have h1 := pow_le32 h
  have h2 := Nat.two_pow_pos n
  omega

theorem shr_val (w a : Nat) (h : a ≤ 32) : shr .u32 (w : Int) (a : Int) = ((w / 2 ^ a : Nat) : Int) := by
  unfold shr
  rw [Int.toNat_natCast, show IntKind.u32.bits = 32 from rfl, Nat.min_eq_left h, ← pow_cast]
  exact (Int.natCast_ediv _ _).symm

theorem shl_val (x a : Nat) (h : a ≤ 32) : shl .u32 (x : Int) (a : Int) = ((x * 2 ^ a % 4294967296 : Nat) : Int) := by
  unfold shl
  rw [IntKind.wrap_u32, Int.toNat_natCast, show IntKind.u32.bits = 32 from rfl, Nat.min_eq_left h, ← pow_cast, ← Int.natCast_mul]
  omega

theorem shl_val_lt (x a : Nat) (h : a ≤ 32) (hx : x * 2 ^ a < 4294967296) : shl .u32 (x : Int) (a : Int) = ((x * 2 ^ a : Nat) : Int) := by
  rw [shl_val x a h, Nat.mod_eq_of_lt hx]

theorem div_lt {w : Nat} (a : Nat) (hw : w < 4294967296) : w / 2 ^ a < 4294967296 := Nat.lt_of_le_of_lt (Nat.div_le_self _ _) hw

theorem bits_val (w a n : Nat) (hw : w < 4294967296) (ha : a ≤ 32) (hn : n ≤ 32) : Go.bits .and .u32 (shr .u32 (w : Int) (a : Int)) ((2 ^ n - 1 : Nat) : Int) = ((w / 2 ^ a % 2 ^ n : Nat) : Int) := by
  rw [shr_val w a ha, u32_and_nat _ _ (div_lt a hw) (mask_lt hn), prog_bits]

theorem mask_shift {a n : Nat} (h : a + n ≤ 32) : (2 ^ n - 1) * 2 ^ a < 4294967296 := by
  have h1 : 2 ^ n * 2 ^ a ≤ 4294967296 := by rw [← Nat.pow_add]; exact pow_le32 (by omega)
  have h2 := Nat.two_pow_pos a
  have h3 := Nat.two_pow_pos n
  have h4 : (2 ^ n - 1) * 2 ^ a + 2 ^ a = 2 ^ n * 2 ^ a := by rw [← Nat.succ_mul]; congr 1; omega
  omega

theorem with_val (w a n v : Nat) (hw : w < 4294967296) (hv : v < 4294967296) (h : a + n ≤ 32) :
    Go.bits .or .u32 (Go.bits .andNot .u32 (w : Int) (shl .u32 ((2 ^ n - 1 : Nat) : Int) (a : Int))) (shl .u32 (Go.bits .and .u32 (v : Int) ((2 ^ n - 1 : Nat) : Int)) (a : Int)) = ((put w a n v : Nat) : Int) := by
  have hm := mask_shift h
  rw [shl_val_lt _ _ (by omega) hm, u32_andNot_nat _ _ hw hm, u32_and_nat _ _ hv (mask_lt (by omega))]
  have hv2 : (v &&& (2 ^ n - 1)) * 2 ^ a ≤ (2 ^ n - 1) * 2 ^ a := Nat.mul_le_mul_right _ Nat.and_le_right
  rw [shl_val_lt _ _ (by omega) (by omega), u32_or_nat _ _ (Nat.lt_of_le_of_lt Nat.and_le_left hw) (by omega), prog_put w a n v hw h]

theorem bit_val (w i : Nat) (hw : w < 4294967296) (hi : i ≤ 32) : Go.bits .and .u32 (shr .u32 (w : Int) (i : Int)) 1 = ((w / 2 ^ i % 2 : Nat) : Int) := by
  have := bits_val w i 1 hw hi (by omega)
  simpa using this

theorem or_step (x b i : Nat) (hx : x < 2 ^ i) (hb : b < 2) (hi : i < 32) : Go.bits .or .u32 (x : Int) (shl .u32 (b : Int) (i : Int)) = ((x ||| b * 2 ^ i : Nat) : Int) := by
  have h1 : 2 ^ (i + 1) ≤ 4294967296 := pow_le32 hi
  have h2 := Nat.two_pow_pos i
  rw [Nat.pow_succ] at h1
  have h3 : b * 2 ^ i ≤ 1 * 2 ^ i := Nat.mul_le_mul_right _ (by omega)
  rw [shl_val_lt _ _ (by omega) (by omega), u32_or_nat _ _ (by omega) (by omega)]

theorem u64_nat (n : Nat) (h : n ≤ 4294967296) : IntKind.u64.wrap (n : Int) = n := by
  simp only [IntKind.wrap, IntKind.bits, IntKind.signed, Bool.false_and, Bool.false_eq_true, if_false]
  omega

/-! ### In the walk's own forms -/
theorem bits_form (x a n : Nat) (hx : x < 4294967296) (h : a + n ≤ 32) : Go.bits .and .u32 ((x : Int) / 2 ^ a) ((2 ^ n - 1 : Nat) : Int) = ((x / 2 ^ a % 2 ^ n : Nat) : Int) := by
  rw [← pow_cast, ← Int.natCast_ediv, u32_and_nat _ _ (div_lt a hx) (mask_lt (by omega)), prog_bits]
theorem with_form (x a n v : Nat) (hx : x < 4294967296) (hv : v < 4294967296) (h : a + n ≤ 32) :
    Go.bits .or .u32 (Go.bits .andNot .u32 (x : Int) (((2 ^ n - 1 : Nat) : Int) * 2 ^ a % 4294967296)) (Go.bits .and .u32 (v : Int) ((2 ^ n - 1 : Nat) : Int) * 2 ^ a % 4294967296) = ((put x a n v : Nat) : Int) := by
  have h1 := with_val x a n v hx hv h
  have h2 : ∀ y : Int, shl .u32 y (a : Int) = y * 2 ^ a % 4294967296 := fun y => by
    unfold shl
    rw [IntKind.wrap_u32, Int.toNat_natCast, show IntKind.u32.bits = 32 from rfl, Nat.min_eq_left (by omega)]
  rw [h2, h2] at h1
  exact h1
/-- The number that the lowest n bits of v are, with a sign. -/
def sgn (v n : Nat) : Int := if v % 2 ^ n < 2 ^ (n - 1) then ((v % 2 ^ n : Nat) : Int) else ((v % 2 ^ n : Nat) : Int) - ((2 ^ n : Nat) : Int)
theorem pow_split {n : Nat} (h2 : n ≤ 32) : 2 ^ n * 2 ^ (32 - n) = 4294967296 := by rw [← Nat.pow_add, Nat.add_sub_cancel' h2]
theorem pow_half {n : Nat} (h1 : 1 ≤ n) : 2 ^ n = 2 * 2 ^ (n - 1) := by
  obtain ⟨m, rfl⟩ : ∃ m, n = m + 1 := ⟨n - 1, by omega⟩
  rw [Nat.pow_succ, Nat.add_sub_cancel]; omega
theorem signed_form (v n : Nat) (h1 : 1 ≤ n) (h2 : n ≤ 32) : wrap32 ((v : Int) * 2 ^ (32 - n) % 4294967296) / 2 ^ (32 - n) = sgn v n := by
  have e0 : (v : Int) * 2 ^ (32 - n) % 4294967296 = ((v % 2 ^ n * 2 ^ (32 - n) : Nat) : Int) := by
    rw [← pow_cast, ← Int.natCast_mul, Nat.mul_mod_mul_right (2 ^ (32 - n)) v (2 ^ n) |>.symm, pow_split h2]; rfl
  rw [e0, ← pow_cast]
  have hp := Nat.two_pow_pos (32 - n)
  have hs := pow_split h2
  have hh := pow_half h1
  have hm : v % 2 ^ n < 2 ^ n := Nat.mod_lt _ (Nat.two_pow_pos n)
  unfold sgn
  generalize v % 2 ^ n = y at *
  have hhp : 2 ^ (n - 1) * 2 ^ (32 - n) = 2147483648 := by
    rw [hh, Nat.mul_assoc] at hs
    omega
  generalize 2 ^ (32 - n) = p at *
  generalize 2 ^ (n - 1) = H at *
  generalize 2 ^ n = M at *
  have hp0 : (p : Int) ≠ 0 := by omega
  by_cases hy : y < H
  · rw [if_pos hy]
    have h3 : y * p < H * p := Nat.mul_lt_mul_of_pos_right hy hp
    rw [show wrap32 ((y * p : Nat) : Int) = ((y * p : Nat) : Int) from by unfold wrap32; omega, Int.natCast_mul, Int.mul_ediv_cancel _ hp0]
  · rw [if_neg hy]
    have h3 : H * p ≤ y * p := Nat.mul_le_mul_right p (by omega)
    have h4 : y * p < M * p := Nat.mul_lt_mul_of_pos_right hm hp
    have h5 : wrap32 ((y * p : Nat) : Int) = ((y : Int) - (M : Int)) * p := by
      rw [Int.sub_mul, ← Int.natCast_mul, ← Int.natCast_mul, hs]
      unfold wrap32; omega
    rw [h5, Int.mul_ediv_cancel _ hp0]
/-- Does v fit into n bits? -/
def fitsB (v : Int) (n : Nat) : Bool := decide (-((2 ^ (n - 1) : Nat) : Int) ≤ v ∧ v < ((2 ^ (n - 1) : Nat) : Int))
theorem fits_form (v : Int) (n : Nat) : (v / 2 ^ (n - 1) == 0 || v / 2 ^ (n - 1) == -1) = fitsB v n := by
  unfold fitsB
  rw [← pow_cast]
  have hp := Nat.two_pow_pos (n - 1)
  generalize 2 ^ (n - 1) = p at *
  have hp' : (0 : Int) < p := by omega
  have a1 := Int.le_ediv_iff_mul_le (a := -1) (b := v) hp'
  have a2 := Int.ediv_lt_iff_lt_mul (a := v) (b := 1) hp'
  generalize v / (p : Int) = q at *
  rw [Bool.eq_iff_iff]
  simp only [Bool.or_eq_true, beq_iff_eq, decide_eq_true_eq]
  omega
theorem bit_form (x i : Nat) (hx : x < 4294967296) : Go.bits .and .u32 ((x : Int) / 2 ^ i) 1 = ((x / 2 ^ i % 2 : Nat) : Int) := by
  rw [← pow_cast, ← Int.natCast_ediv, show (1 : Int) = ((1 : Nat) : Int) from rfl, u32_and_nat _ _ (div_lt i hx) (by omega), nat_mask1]
theorem or_form (y b k : Nat) (hy : y < 2 ^ k) (hb : b < 2) (hk : k < 32) : Go.bits .or .u32 (y : Int) ((b : Int) * 2 ^ k % 4294967296) = ((y ||| b * 2 ^ k : Nat) : Int) := by
  have h := or_step y b k hy hb hk
  have h2 : shl .u32 (b : Int) (k : Int) = (b : Int) * 2 ^ k % 4294967296 := by
    unfold shl
    rw [IntKind.wrap_u32, Int.toNat_natCast, show IntKind.u32.bits = 32 from rfl, Nat.min_eq_left (by omega)]
  rw [h2] at h
  exact h
theorem cast_part (x a k : Nat) : (x : Int) / 2 ^ a % 2 ^ k = ((x / 2 ^ a % 2 ^ k : Nat) : Int) := by
  rw [← pow_cast, ← pow_cast, ← Int.natCast_ediv, ← Int.natCast_emod]
theorem cast_bit (x a : Nat) : (x : Int) / 2 ^ a % 2 = ((x / 2 ^ a % 2 : Nat) : Int) := by
  rw [← pow_cast, ← Int.natCast_ediv]; omega
theorem rbits_round (x a k : Nat) (hk : k < 32) : Go.bits .or .u32 ((x : Int) / 2 ^ a % 2 ^ k) ((x : Int) / 2 ^ (a + k) % 2 * 2 ^ k % 4294967296) = ((x / 2 ^ a % 2 ^ (k + 1) : Nat) : Int) := by
  rw [cast_part, cast_bit, or_form _ _ k (Nat.mod_lt _ (Nat.two_pow_pos k)) (Nat.mod_lt _ (by decide)) hk, Nat.pow_add, ← Nat.div_div_eq_div_mul, bits_step]
theorem rwith_round (r y j k : Nat) (hk : k < 32) (hj : r / 2 ^ k % 2 = y / 2 ^ j % 2) : Go.bits .or .u32 ((r : Int) % 2 ^ k) ((y : Int) / 2 ^ j % 2 * 2 ^ k % 4294967296) = ((r % 2 ^ (k + 1) : Nat) : Int) := by
  rw [cast_bit, ← pow_cast k, ← Int.natCast_emod, pow_cast k, or_form _ _ k (Nat.mod_lt _ (Nat.two_pow_pos k)) (Nat.mod_lt _ (by decide)) hk, ← hj, bits_step]
theorem top_bit (v n : Nat) (h1 : 1 ≤ n) : v / 2 ^ (n - 1) % 2 = 1 ↔ ¬ v % 2 ^ n < 2 ^ (n - 1) := by
  have e := Nat.mod_mul_right_div_self v (2 ^ (n - 1)) 2
  have hh : 2 ^ (n - 1) * 2 = 2 ^ n := by rw [pow_half h1]; omega
  rw [hh] at e
  have hm : v % 2 ^ n < 2 ^ n := Nat.mod_lt _ (Nat.two_pow_pos n)
  have hp := Nat.two_pow_pos (n - 1)
  rw [← e]
  generalize v % 2 ^ n = y at *
  have a1 := Nat.div_lt_iff_lt_mul (x := y) (y := 1) hp
  have a2 := Nat.div_lt_iff_lt_mul (x := y) (y := 2) hp
  omega
theorem sgn_neg (v n : Nat) (h1 : 1 ≤ n) (h : v / 2 ^ (n - 1) % 2 = 1) : sgn v n = ((v % 2 ^ n : Nat) : Int) - ((2 ^ n : Nat) : Int) := by
  unfold sgn; rw [if_neg ((top_bit v n h1).1 h)]
theorem sgn_pos (v n : Nat) (h1 : 1 ≤ n) (h : ¬ v / 2 ^ (n - 1) % 2 = 1) : sgn v n = ((v % 2 ^ n : Nat) : Int) := by
  unfold sgn; rw [if_pos (Decidable.not_not.1 (fun e => h ((top_bit v n h1).2 e)))]
theorem sgn_range (v n : Nat) (h1 : 1 ≤ n) (h2 : n ≤ 32) : -2147483648 ≤ sgn v n ∧ sgn v n ≤ 2147483647 := by
  have hm : v % 2 ^ n < 2 ^ n := Nat.mod_lt _ (Nat.two_pow_pos n)
  have hh := pow_half h1
  have hl : 2 ^ (n - 1) ≤ 2 ^ 31 := Nat.pow_le_pow_right (by decide) (by omega)
  unfold sgn
  split <;> omega
theorem p32 {n : Nat} (h : n ≤ 32) : (0 : Int) < 2 ^ n ∧ (2 : Int) ^ n ≤ 4294967296 := by
  have h1 := pow_le32 h
  have h2 := Nat.two_pow_pos n
  rw [← pow_cast]; omega
theorem cast_mod (x n : Nat) : (x : Int) % 2 ^ n = ((x % 2 ^ n : Nat) : Int) := by rw [← pow_cast, ← Int.natCast_emod]
theorem rsg_neg (v n : Nat) (h1 : 1 ≤ n) (h2 : n ≤ 32) (h : (v : Int) / 2 ^ (n - 1) % 2 = 1) : wrap32 (wrap64 (wrap64 ((v : Int) % 2 ^ n) - wrap64 (2 ^ n))) = sgn v n := by
  have hr := sgn_range v n h1 h2
  rw [cast_bit] at h
  rw [sgn_neg v n h1 (by omega)] at *
  have hm : v % 2 ^ n < 2 ^ n := Nat.mod_lt _ (Nat.two_pow_pos n)
  have hp := pow_le32 h2
  rw [cast_mod, ← pow_cast]
  generalize v % 2 ^ n = y at *
  generalize 2 ^ n = M at *
  rw [show wrap64 (y : Int) = y from by unfold wrap64; omega, show wrap64 (M : Int) = M from by unfold wrap64; omega, show wrap64 ((y : Int) - M) = (y : Int) - M from by unfold wrap64; omega]
  unfold wrap32; omega
theorem rsg_pos (v n : Nat) (h1 : 1 ≤ n) (h2 : n ≤ 32) (h : ¬ (v : Int) / 2 ^ (n - 1) % 2 = 1) : wrap32 (wrap64 ((v : Int) % 2 ^ n)) = sgn v n := by
  have hr := sgn_range v n h1 h2
  rw [cast_bit] at h
  rw [sgn_pos v n h1 (by omega)] at *
  rw [cast_mod]
  generalize v % 2 ^ n = y at *
  rw [show wrap64 (y : Int) = y from by unfold wrap64; omega]
  unfold wrap32; omega
theorem rfits_yes_form (v : Int) (n : Nat) (h1 : 1 ≤ n) (h2 : n ≤ 32) (h : wrap64 (-wrap64 (2 ^ (n - 1))) ≤ v) : decide (v ≤ wrap64 (wrap64 (2 ^ (n - 1)) - 1)) = fitsB v n := by
  have hp := pow_le32 (n := n - 1) (by omega)
  have hq := Nat.two_pow_pos (n - 1)
  unfold fitsB
  rw [← pow_cast] at h ⊢
  generalize 2 ^ (n - 1) = M at *
  rw [show wrap64 (M : Int) = M from by unfold wrap64; omega] at h ⊢
  rw [show wrap64 (-(M : Int)) = -M from by unfold wrap64; omega] at h
  rw [show wrap64 ((M : Int) - 1) = (M : Int) - 1 from by unfold wrap64; omega]
  exact decide_eq_decide.2 (by omega)
theorem rfits_no_form (v : Int) (n : Nat) (h1 : 1 ≤ n) (h2 : n ≤ 32) (h : v < wrap64 (-wrap64 (2 ^ (n - 1)))) : false = fitsB v n := by
  have hp := pow_le32 (n := n - 1) (by omega)
  have hq := Nat.two_pow_pos (n - 1)
  unfold fitsB
  rw [← pow_cast] at h
  generalize 2 ^ (n - 1) = M at *
  rw [show wrap64 (M : Int) = M from by unfold wrap64; omega] at h
  rw [show wrap64 (-(M : Int)) = -M from by unfold wrap64; omega] at h
  exact (decide_eq_false (by omega)).symm

/-! ### Digits -/
/-- What a byte is as a digit to the base 16; 16: none. -/
def dig (c : Nat) : Nat := if 48 ≤ c ∧ c ≤ 57 then c - 48 else if 97 ≤ c ∧ c ≤ 102 then c - 87 else 16
def byteAt (s : ByteArray) (k : Nat) : Nat := if h : k < s.size then (s[k]'h).toNat else 0
theorem byteAt_eq (s : ByteArray) (k : Nat) (h : k < s.size) : byteAt s k = (s[k]'h).toNat := by simp [byteAt, h]
/-- The word that the first k bytes are. -/
def parseN (s : ByteArray) : Nat → Option Nat
  | 0 => some 0
  | k + 1 => (parseN s k).bind fun v => if dig (byteAt s k) < 16 then some (v * 16 + dig (byteAt s k)) else none
theorem parseN_lt (s : ByteArray) : ∀ k v, parseN s k = some v → v < 16 ^ k
  | 0, v, h => by simp [parseN] at h; omega
  | k + 1, v, h => by
    simp only [parseN, Option.bind_eq_some_iff] at h
    obtain ⟨u, hu, h⟩ := h
    have hl := parseN_lt s k u hu
    split at h
    · simp at h; rw [Nat.pow_succ]; omega
    · simp at h
theorem parseN_none (s : ByteArray) (k : Nat) (h : parseN s k = none) : ∀ j, parseN s (k + j) = none
  | 0 => h
  | j + 1 => by rw [← Nat.add_assoc]; simp [parseN, parseN_none s k h j]
theorem parseN_bad (s : ByteArray) (k : Nat) (hk : k < 8) (h : dig (byteAt s k) = 16) : parseN s 8 = none := by
  have h1 : parseN s (k + 1) = none := by
    simp only [parseN, h]; cases parseN s k <;> simp
  have := parseN_none s (k + 1) h1 (7 - k)
  rwa [show k + 1 + (7 - k) = 8 from by omega] at this
theorem parseN_good (s : ByteArray) (k v d : Nat) (hv : parseN s k = some v) (h : dig (byteAt s k) = d) (hd : d < 16) : parseN s (k + 1) = some (v * 16 + d) := by
  simp only [parseN, hv, Option.bind_some, h, if_pos hd]
/-- What Parse tells. -/
def parseR (s : ByteArray) : Int × Int := if s.size = 8 then match parseN s 8 with | some v => ((v : Int), 0) | none => (0, 4) else (0, 4)
theorem parseR_size (s : ByteArray) (h : s.size ≠ 8) : parseR s = (0, 4) := by simp [parseR, h]
theorem parseR_none (s : ByteArray) (h : parseN s 8 = none) : parseR s = (0, 4) := by simp [parseR, h]
theorem parseR_some (s : ByteArray) (v : Nat) (hs : s.size = 8) (h : parseN s 8 = some v) : parseR s = ((v : Int), 0) := by simp [parseR, h, hs]
theorem or16 (v d k : Nat) (hv : v < 16 ^ k) (hk : k < 8) (hd : d < 16) : Go.bits .or .u32 ((v : Int) * 16 % 4294967296) (d : Int) = ((v * 16 + d : Nat) : Int) := by
  have h7 : 16 ^ k ≤ 16 ^ 7 := Nat.pow_le_pow_right (by decide) (by omega)
  have h7' : (16 : Nat) ^ 7 = 268435456 := rfl
  rw [show (v : Int) * 16 % 4294967296 = ((v * 16 : Nat) : Int) from by omega, u32_or_nat _ _ (by omega) (by omega), nat_join 4 (v * 16) d (by omega) (by omega)]
/-- The reference's search: what has been found among the first j digits. -/
def sofar (d j : Nat) : Nat := if d < j then d else 16
theorem dig_le (c : Nat) : dig c ≤ 16 := by unfold dig; split <;> (try split) <;> omega
theorem sofar_0 (d : Nat) : sofar d 0 = 16 := by simp [sofar]
theorem sofar_hit (d : Nat) : sofar d (d + 1) = d := by simp [sofar]
theorem sofar_miss (d j : Nat) (h : d ≠ j) : sofar d (j + 1) = sofar d j := by
  unfold sofar
  by_cases h1 : d < j
  · rw [if_pos h1, if_pos (by omega)]
  · rw [if_neg h1, if_neg (by omega)]
theorem sofar_16 (c : Nat) : sofar (dig c) 16 = dig c := by
  have := dig_le c
  unfold sofar; split <;> omega
/-- The code of digit j. -/
def dgc (j : Nat) : Nat := if j < 10 then 48 + j else 87 + j
theorem dgc_dig (c j : Nat) (hj : j < 16) : dgc j = c ↔ dig c = j := by
  unfold dgc dig
  split <;> split <;> (try split) <;> omega
theorem digits_at : ∀ j (h : j < 16), ((({ data := #[48, 49, 50, 51, 52, 53, 54, 55, 56, 57, 97, 98, 99, 100, 101, 102] } : ByteArray)[j]'h).toNat) = dgc j := by decide
theorem digits_eq (c : UInt8) (j : Nat) (h : j < 16) (hd : dig c.toNat = j) : ((((({ data := #[48, 49, 50, 51, 52, 53, 54, 55, 56, 57, 97, 98, 99, 100, 101, 102] } : ByteArray)[j]'h).toNat) : Int) == (c.toNat : Int)) = true := by
  rw [digits_at, (dgc_dig c.toNat j h).2 hd]; simp
theorem digits_ne (c : UInt8) (j : Nat) (h : j < 16) (hd : dig c.toNat ≠ j) : ((((({ data := #[48, 49, 50, 51, 52, 53, 54, 55, 56, 57, 97, 98, 99, 100, 101, 102] } : ByteArray)[j]'h).toNat) : Int) == (c.toNat : Int)) = false := by
  rw [digits_at, beq_eq_false_iff_ne]
  intro e
  exact hd ((dgc_dig c.toNat j h).1 (by omega))
/-- Hex's cells after k rounds. -/
def hexA (x k : Nat) : Array Value := ((List.range 8).map fun p => Value.int .u8 (if 8 - k ≤ p then (dgc (x / 16 ^ (7 - p) % 16) : Int) else 0)).toArray
theorem hexA_get (x k p : Nat) (h : p < 8) : (hexA x k)[p]? = some (Value.int .u8 (if 8 - k ≤ p then (dgc (x / 16 ^ (7 - p) % 16) : Int) else 0)) := by
  unfold hexA
  rw [List.getElem?_toArray, List.getElem?_map, List.getElem?_range h]; rfl
theorem hexA_size (x k : Nat) : (hexA x k).size = 8 := by simp [hexA]
theorem hexA_set (x k : Nat) (h : k < 8) : (hexA x k).setIfInBounds (7 - k) (Value.int .u8 (dgc (x / 16 ^ k % 16) : Int)) = hexA x (k + 1) := by
  apply Array.ext
  · simp [hexA_size]
  · intro p h1 h2
    rw [hexA_size] at h2
    apply Option.some.inj
    rw [← Array.getElem?_eq_getElem, ← Array.getElem?_eq_getElem, Array.getElem?_setIfInBounds, hexA_get x (k + 1) p h2, hexA_size, hexA_get x k p h2]
    by_cases e : 7 - k = p
    · rw [if_pos e, if_pos (by omega), if_pos (by omega), show 7 - p = k from by omega]
    · rw [if_neg e]
      by_cases e2 : 8 - k ≤ p
      · rw [if_pos e2, if_pos (by omega)]
      · rw [if_neg e2, if_neg (by omega)]
theorem hexA_zero (x : Nat) : hexA x 0 = #[.int .u8 0, .int .u8 0, .int .u8 0, .int .u8 0, .int .u8 0, .int .u8 0, .int .u8 0, .int .u8 0] := rfl
/-- A word's digits. -/
def hexL (x : Nat) : List Int := (List.range 8).map fun p => (dgc (x / 16 ^ (7 - p) % 16) : Int)
def hexS (x : Nat) : ByteArray := strOfNums (hexL x)
theorem and15 (y : Nat) (h : y < 4294967296) : Go.bits .and .u32 (y : Int) 15 = (y : Int) % 16 := by
  rw [show (15 : Int) = ((15 : Nat) : Int) from rfl, u32_and_nat _ _ h (by omega), nat_mask4]; omega
theorem hexL_len (x : Nat) : (hexL x).length = 8 := by simp [hexL]
theorem hexL_get (x p : Nat) (h : p < 8) : (hexL x).getD p 0 = (dgc (x / 16 ^ (7 - p) % 16) : Int) := by
  unfold hexL
  rw [List.getD_eq_getElem?_getD, List.getElem?_map, List.getElem?_range h]; rfl
theorem hexL_take (x k : Nat) (h : k < 8) : (hexL x).take (k + 1) = (hexL x).take k ++ [(dgc (x / 16 ^ (7 - k) % 16) : Int)] := by
  rw [List.take_succ_eq_append_getElem (by rw [hexL_len]; exact h)]
  congr 2
  have := hexL_get x k h
  rwa [List.getD_eq_getElem?_getD, List.getElem?_eq_getElem (by rw [hexL_len]; exact h)] at this
theorem pow16 (k : Nat) : (2 : Nat) ^ (4 * k) = 16 ^ k := by rw [Nat.pow_mul]

/-! ### Laws of the parts alone -/
/-- A word is its parts. -/
theorem halves (x k : Nat) (hx : x < 4294967296) (hk : k ≤ 32) : put (put 0 0 k (x % 2 ^ k)) k (32 - k) (x / 2 ^ k % 2 ^ (32 - k)) = x := by
  apply Nat.eq_of_testBit_eq
  intro i
  rw [put_bit]
  by_cases h1 : k ≤ i ∧ i < k + (32 - k)
  · rw [if_pos h1, Nat.testBit_mod_two_pow, Nat.testBit_div_two_pow, show i - k + k = i from by omega]
    simp [show i - k < 32 - k from by omega]
  · rw [if_neg h1, put_bit]
    by_cases h2 : 0 ≤ i ∧ i < 0 + k
    · rw [if_pos h2, Nat.testBit_mod_two_pow]
      simp [show i < k from by omega]
    · rw [if_neg h2, Nat.zero_testBit]
      exact (bit_lt (m := 32) hx (by omega)).symm
theorem part_lt (x a n : Nat) (hn : n ≤ 32) : x / 2 ^ a % 2 ^ n < 4294967296 := Nat.lt_of_lt_of_le (Nat.mod_lt _ (Nat.two_pow_pos n)) (pow_le32 hn)
theorem put_lt32 {w a n v : Nat} (hw : w < 4294967296) (h : a + n ≤ 32) : put w a n v < 4294967296 := put_lt (m := 32) hw h
/-- What was put is read. -/
theorem put_read (w a n v : Nat) : put w a n v / 2 ^ a % 2 ^ n = v % 2 ^ n := by
  apply Nat.eq_of_testBit_eq
  intro i
  rw [Nat.testBit_mod_two_pow, Nat.testBit_div_two_pow, put_bit, Nat.testBit_mod_two_pow]
  by_cases h : i < n
  · rw [if_pos (by omega), show i + a - a = i from by omega]
  · simp [h]
/-- A part put back leaves the word. -/
theorem put_back (w a n v : Nat) : put (put w a n v) a n (w / 2 ^ a % 2 ^ n) = w := by
  apply Nat.eq_of_testBit_eq
  intro i
  rw [put_bit]
  by_cases h : a ≤ i ∧ i < a + n
  · rw [if_pos h, Nat.testBit_mod_two_pow, Nat.testBit_div_two_pow, show i - a + a = i from by omega]
    simp [show i - a < n from by omega]
  · rw [if_neg h, put_bit, if_neg h]
theorem put_other (w a n v i : Nat) (h : ¬ (a ≤ i ∧ i < a + n)) : put w a n v / 2 ^ i % 2 ^ 1 = w / 2 ^ i % 2 ^ 1 := by
  have := put_bit_nat w a n v i
  rw [if_neg h] at this
  simpa using this
/-- sgn is v, but for the higher bits. -/
theorem sgn_mod (v n : Nat) : (sgn v n) % ((2 ^ n : Nat) : Int) = ((v % 2 ^ n : Nat) : Int) := by
  have hm : v % 2 ^ n < 2 ^ n := Nat.mod_lt _ (Nat.two_pow_pos n)
  unfold sgn
  split
  · exact Int.emod_eq_of_lt (by omega) (by omega)
  · rw [show ((v % 2 ^ n : Nat) : Int) - ((2 ^ n : Nat) : Int) = ((v % 2 ^ n : Nat) : Int) + ((2 ^ n : Nat) : Int) * (-1) from by omega, Int.add_mul_emod_self_left]
    exact Int.emod_eq_of_lt (by omega) (by omega)
theorem sgn_fits (v n : Nat) (h1 : 1 ≤ n) : fitsB (sgn v n) n = true := by
  have hm : v % 2 ^ n < 2 ^ n := Nat.mod_lt _ (Nat.two_pow_pos n)
  have hh := pow_half h1
  unfold fitsB sgn
  apply decide_eq_true
  split <;> omega
theorem mod_mod32 (x : Int) (n : Nat) (h : n ≤ 32) : (x % 4294967296).toNat % 2 ^ n = (x % ((2 ^ n : Nat) : Int)).toNat := by
  have h1 : (2 ^ n : Nat) ∣ 4294967296 := by
    refine ⟨2 ^ (32 - n), ?_⟩
    rw [pow_split h]
  have h2 : ((2 ^ n : Nat) : Int) ∣ 4294967296 := (Int.natCast_dvd_natCast (m := 2 ^ n) (n := 4294967296)).2 h1
  have h3 : x % 4294967296 % ((2 ^ n : Nat) : Int) = x % ((2 ^ n : Nat) : Int) := Int.emod_emod_of_dvd x h2
  have hp := Nat.two_pow_pos n
  obtain ⟨y, hy⟩ : ∃ y : Nat, x % 4294967296 = y := ⟨(x % 4294967296).toNat, by omega⟩
  rw [hy] at h3 ⊢
  rw [Int.toNat_natCast, ← h3, ← Int.natCast_emod, Int.toNat_natCast]
theorem sgn_cut (v : Int) (k : Nat) (hk : k ≤ 32) : (sgn (v % 4294967296).toNat k % 4294967296).toNat % 2 ^ k = (v % 4294967296).toNat % 2 ^ k := by
  rw [mod_mod32 _ _ hk, sgn_mod, Int.toNat_natCast]
theorem sgn_same (v : Int) (k : Nat) (h1 : 1 ≤ k) (hk : k ≤ 32) : fitsB v k = (sgn (v % 4294967296).toNat k == v) := by
  have hm := mod_mod32 v k hk
  have hh := pow_half h1
  have hp := Nat.two_pow_pos (k - 1)
  rw [Bool.eq_iff_iff, beq_iff_eq]
  unfold fitsB sgn
  rw [decide_eq_true_eq, hm]
  generalize 2 ^ (k - 1) = H at *
  rw [hh]
  have e := Int.emod_nonneg v (show ((2 * H : Nat) : Int) ≠ 0 from by omega)
  have e2 := Int.emod_lt_of_pos v (show (0 : Int) < ((2 * H : Nat) : Int) from by omega)
  constructor
  · intro ⟨ha, hb⟩
    by_cases hv : 0 ≤ v
    · rw [Int.emod_eq_of_lt hv (by omega), if_pos (by omega)]; omega
    · have e3 : v % ((2 * H : Nat) : Int) = v + ((2 * H : Nat) : Int) := by
        rw [← Int.add_emod_right]
        exact Int.emod_eq_of_lt (by omega) (by omega)
      rw [e3, if_neg (by omega)]; omega
  · intro h
    split at h <;> omega

/-! ### Texts -/
theorem dgc_lt (d : Nat) (h : d < 16) : dgc d < 256 := by unfold dgc; split <;> omega
theorem dig_dgc (d : Nat) (h : d < 16) : dig (dgc d) = d := (dgc_dig (dgc d) d h).1 rfl
theorem hexS_size (x : Nat) : (hexS x).size = 8 := by unfold hexS; rw [strOfNums_size, hexL_len]
theorem hexS_byte (x p : Nat) (h : p < 8) : byteAt (hexS x) p = dgc (x / 16 ^ (7 - p) % 16) := by
  rw [byteAt_eq _ _ (by rw [hexS_size]; exact h)]
  have hg := hexL_get x p h
  rw [List.getD_eq_getElem?_getD, List.getElem?_eq_getElem (by rw [hexL_len]; exact h)] at hg
  have hd := dgc_lt (x / 16 ^ (7 - p) % 16) (Nat.mod_lt _ (by decide))
  show ((((hexL x).map fun n => UInt8.ofNat n.toNat).toArray)[p]'(by simp [hexL_len]; exact h)).toNat = _
  rw [List.getElem_toArray, List.getElem_map]
  simp only [Option.getD_some] at hg
  rw [hg, Int.toNat_natCast, UInt8.toNat_ofNat']
  exact Nat.mod_eq_of_lt hd
theorem parse_hexN (x : Nat) (hx : x < 16 ^ 8) : ∀ k, k ≤ 8 → parseN (hexS x) k = some (x / 16 ^ (8 - k))
  | 0, _ => by simp [parseN, Nat.div_eq_of_lt hx]
  | k + 1, h => by
    have hd : x / 16 ^ (7 - k) % 16 < 16 := Nat.mod_lt _ (by decide)
    rw [parseN_good (hexS x) k _ _ (parse_hexN x hx k (by omega)) (by rw [hexS_byte x k (by omega), dig_dgc _ hd]) hd]
    have e : 16 ^ (8 - k) = 16 ^ (7 - k) * 16 := by rw [← Nat.pow_succ]; congr 1; omega
    rw [e, ← Nat.div_div_eq_div_mul, show 8 - (k + 1) = 7 - k from by omega]
    congr 1; omega
theorem parse_hex (x : Nat) (hx : x < 4294967296) : parseR (hexS x) = ((x : Int), 0) := by
  rw [parseR_some (hexS x) x (hexS_size x) (by simpa using parse_hexN x hx 8 (by omega))]
theorem parse_digits (s : ByteArray) : ∀ k v, parseN s k = some v → ∀ p, p < k → dig (byteAt s p) = v / 16 ^ (k - 1 - p) % 16 ∧ dig (byteAt s p) < 16
  | 0, v, h, p, hp => by omega
  | k + 1, v, h, p, hp => by
    simp only [parseN, Option.bind_eq_some_iff] at h
    obtain ⟨u, hu, h⟩ := h
    split at h
    · rename_i hd
      simp at h
      by_cases e : p = k
      · subst e
        refine ⟨?_, hd⟩
        rw [show p + 1 - 1 - p = 0 from by omega, Nat.pow_zero, Nat.div_one]
        omega
      · obtain ⟨h1, h2⟩ := parse_digits s k u hu p (by omega)
        refine ⟨?_, h2⟩
        rw [h1, show k + 1 - 1 - p = (k - 1 - p) + 1 from by omega, Nat.pow_succ, Nat.mul_comm, ← Nat.div_div_eq_div_mul, ← h]
        congr 2; omega
    · simp at h
theorem hex_parse (s : ByteArray) (v : Nat) (hs : s.size = 8) (h : parseN s 8 = some v) : hexS v = s := by
  have hp : ∀ p, p < 8 → byteAt (hexS v) p = byteAt s p := fun p hp => by
    obtain ⟨h1, h2⟩ := parse_digits s 8 v h p hp
    rw [hexS_byte v p hp]
    exact (dgc_dig (byteAt s p) _ (Nat.mod_lt _ (by decide))).2 (by rw [h1])
  obtain ⟨a⟩ := s
  have ha : a.size = 8 := hs
  have hb : (hexS v).data.size = 8 := hexS_size v
  have e : (hexS v).data = a := by
    apply Array.ext (by rw [hb, ha])
    intro p h1 h2
    have := hp p (by omega)
    rw [byteAt_eq _ _ (by rw [hexS_size]; omega), byteAt_eq _ _ (by show p < a.size; omega)] at this
    exact UInt8.toNat_inj.1 this
  show (hexS v) = ⟨a⟩
  rw [← e]
/-- Either a word with just these digits, or none. -/
theorem parse_cases (s : ByteArray) : (∃ v : Nat, v < 4294967296 ∧ parseR s = ((v : Int), 0) ∧ hexS v = s) ∨ parseR s = (0, 4) := by
  by_cases hs : s.size = 8
  · cases h : parseN s 8 with
    | none => exact .inr (parseR_none s h)
    | some v => exact .inl ⟨v, parseN_lt s 8 v h, parseR_some s v hs h, hex_parse s v hs h⟩
  · exact .inr (parseR_size s hs)
theorem mask_form (v n : Nat) (hv : v < 4294967296) (h : n ≤ 32) : Go.bits .and .u32 (v : Int) ((2 ^ n % 4294967296 - 1) % 4294967296) = (v : Int) % 2 ^ n := by
  have h1 := pow_le32 h
  have h2 := Nat.two_pow_pos n
  rw [← pow_cast, show (((2 ^ n : Nat) : Int) % 4294967296 - 1) % 4294967296 = ((2 ^ n - 1 : Nat) : Int) from by omega, u32_and_nat _ _ hv (by omega), Nat.and_two_pow_sub_one_eq_mod, Int.natCast_emod]
theorem mask_full (v : Nat) (hv : v < 4294967296) : Go.bits .and .u32 (v : Int) 4294967295 = (v : Int) := by
  rw [show (4294967295 : Int) = ((2 ^ 32 - 1 : Nat) : Int) from rfl, u32_and_nat _ _ hv (by decide), Nat.and_two_pow_sub_one_eq_mod, Nat.mod_eq_of_lt hv]
end Go.Proofs.Ythnbdeibjbicpaa.WM
