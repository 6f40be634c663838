/- Contracts of hart's pass, reckon, plain. Conditions: the cells. -/
import Derived.Test.YthnbdeibjbicpaaHart1
namespace Go.Proofs.Ythnbdeibjbicpaa.PM
set_option linter.unusedVariables false
set_option linter.unusedSimpArgs false
open Go.RowKit
/-- The step under way has become another. -/
def RunP (w : World) (B pc : Nat) (R : Nat → Nat) (s : Value) (why ep home : Nat) (mp : Value) (epoch ow : Nat) (nS nT : Bool) (nA nW : Nat) (e : Ending) (w' : World) : Prop := e = .returned (.tuple #[]) ∧ RunB w' B pc R s why ep home mp epoch ow nS nT nA nW ∧ Upd B w w'
set_option maxRecDepth 100000 in
set_option maxHeartbeats 4000000 in
theorem pass_full (w : World) (B pc : Nat) (R : Nat → Nat) (s : Value) (why ep home : Nat) (mp : Value) (epoch ow : Nat) (nS nT : Bool) (nA nW : Nat) (src : Option Addr) (n cap : Nat) (hs : s = .slice src n cap) (K : RunB w B pc R s why ep home mp epoch ow nS nT nA nW) (y : Nat) (hn : 0 < n) :
    Calls Try.prog 78 #[.pointer (some ⟨B, 0, none⟩), .int .u8 (y : Int)] w fun e w' => RunP w B pc R s y ep home mp epoch ow nS nT nA nW e w' := by
  unfold RunB at K
  have F : Hid (RunP w B pc R s y ep home mp epoch ow nS nT nA nW (.returned (.tuple #[])) (w.setCell ⟨B, 10, none⟩ (.int .u8 (y : Int)))) := Lib.hid ⟨rfl, by
    have k := Blk.set_ K 10 (.int .u8 (y : Int))
    unfold RunB
    simpa using k, (Upd.refl B w).setCell 10 _⟩
  generalize RunP w B pc R s y ep home mp epoch ow nS nT nA nW = Q at F
  have t9 : w.cell? ⟨B, 9, none⟩ = some (s) := K.cell 9
  have ft9 : w.frozen? ⟨B, 9, none⟩ = false := K.frozen 9
  have t10 : w.cell? ⟨B, 10, none⟩ = some (.int .u8 (why : Int)) := K.cell 10
  have ft10 : w.frozen? ⟨B, 10, none⟩ = false := K.frozen 10
  clear K
  subst hs
  have hnz : (0 : Int) < (n : Int) := by omega
  go_enter Try.func78, Try.ntmps78
  go_wp2_with fail
  refine bodyPost_ret (v := .tuple #[]) (by simp [results, Try.results78, go_sem, *]) rfl ?_
  exact F.out
set_option maxRecDepth 100000 in
set_option maxHeartbeats 4000000 in
theorem pass_empty (w : World) (B pc : Nat) (R : Nat → Nat) (s : Value) (why ep home : Nat) (mp : Value) (epoch ow : Nat) (nS nT : Bool) (nA nW : Nat) (src : Option Addr) (cap : Nat) (hs : s = .slice src 0 cap) (K : RunB w B pc R s why ep home mp epoch ow nS nT nA nW) (y : Nat) :
    Calls Try.prog 78 #[.pointer (some ⟨B, 0, none⟩), .int .u8 (y : Int)] w fun e w' => RunP w B home R s why epoch home mp epoch ow true nT nA nW e w' := by
  unfold RunB at K
  have HK := Lib.hid K
  have t0 : w.cell? ⟨B, 0, none⟩ = some (.int .u32 (pc : Int)) := K.cell 0
  have ft0 : w.frozen? ⟨B, 0, none⟩ = false := K.frozen 0
  have t9 : w.cell? ⟨B, 9, none⟩ = some (s) := K.cell 9
  have ft9 : w.frozen? ⟨B, 9, none⟩ = false := K.frozen 9
  have t10 : w.cell? ⟨B, 10, none⟩ = some (.int .u8 (why : Int)) := K.cell 10
  have ft10 : w.frozen? ⟨B, 10, none⟩ = false := K.frozen 10
  have t11 : w.cell? ⟨B, 11, none⟩ = some (.int .u64 (ep : Int)) := K.cell 11
  have ft11 : w.frozen? ⟨B, 11, none⟩ = false := K.frozen 11
  have t12 : w.cell? ⟨B, 12, none⟩ = some (.int .u32 (home : Int)) := K.cell 12
  have ft12 : w.frozen? ⟨B, 12, none⟩ = false := K.frozen 12
  have t14 : w.cell? ⟨B, 14, none⟩ = some (.int .u64 (epoch : Int)) := K.cell 14
  have ft14 : w.frozen? ⟨B, 14, none⟩ = false := K.frozen 14
  have t16 : w.cell? ⟨B, 16, none⟩ = some (.bool nS) := K.cell 16
  have ft16 : w.frozen? ⟨B, 16, none⟩ = false := K.frozen 16
  clear K
  have F : Hid (∀ n : Nat, RunP w B home R s why epoch home mp epoch ow true nT nA nW (.returned (.tuple #[])) ((((w.drewN n).setCell ⟨B, 11, none⟩ (.int .u64 (epoch : Int))).setCell ⟨B, 0, none⟩ (.int .u32 (home : Int))).setCell ⟨B, 16, none⟩ (.bool true))) := Lib.hid fun n => ⟨rfl, by
    have k := Blk.set_ (Blk.set_ (Blk.set_ (HK.out.drewN n) 11 (.int .u64 (epoch : Int))) 0 (.int .u32 (home : Int))) 16 (.bool true)
    unfold RunB
    simpa using k, ((((Upd.refl B w).drewN n).setCell 11 _).setCell 0 _).setCell 16 _⟩
  generalize RunP w B home R s why epoch home mp epoch ow true nT nA nW = Q at F
  subst hs
  go_enter Try.func78, Try.ntmps78
  go_wp2_with fail
  go_region_with (fail)
  all_goals
    go_wp2_with fail
    refine bodyPost_ret (v := .tuple #[]) (by simp [results, Try.results78, go_sem, *]) rfl ?_
    exact F.out _
/-- What the operations on two numbers make. -/
def reck (op a b : Nat) : Nat :=
  if op = 3 then (a + b) % 4294967296
  else if op = 4 then (a + (4294967296 - b)) % 4294967296
  else if op = 5 then (Go.bits .and .u32 (a : Int) (b : Int)).toNat
  else if op = 6 then (Go.bits .or .u32 (a : Int) (b : Int)).toNat
  else if op = 7 then (Go.bits .xor .u32 (a : Int) (b : Int)).toNat
  else if op = 8 then a * 2 ^ (b % 32) % 4294967296
  else if op = 9 then a / 2 ^ (b % 32)
  else if wrap32 (a : Int) < wrap32 (b : Int) then 1 else 0
theorem bits_nonneg (o : BinOp) (a b : Int) : 0 ≤ Go.bits o .u32 a b := by
  unfold Go.bits
  have := fun x => (IntKind.wrap_u32 x)
  first
    | (rw [IntKind.wrap_u32]; omega)
    | (split <;> first | (rw [IntKind.wrap_u32]; omega) | omega)
theorem bits_cast (o : BinOp) (a b : Int) : ((Go.bits o .u32 a b).toNat : Int) = Go.bits o .u32 a b := Int.toNat_of_nonneg (bits_nonneg o a b)
theorem shl_cast (a k : Nat) : ((a * 2 ^ k % 4294967296 : Nat) : Int) = (a : Int) * 2 ^ k % 4294967296 := by simp
theorem shr_cast (a k : Nat) : ((a / 2 ^ k : Nat) : Int) = (a : Int) / 2 ^ k := by simp
theorem reck_3 (a b : Nat) : reck 3 a b = (a + b) % 4294967296 := by simp [reck]
theorem reck_4 (a b : Nat) : reck 4 a b = (a + (4294967296 - b)) % 4294967296 := by simp [reck]
theorem reck_5 (a b : Nat) : reck 5 a b = (Go.bits .and .u32 (a : Int) (b : Int)).toNat := by simp [reck]
theorem reck_6 (a b : Nat) : reck 6 a b = (Go.bits .or .u32 (a : Int) (b : Int)).toNat := by simp [reck]
theorem reck_7 (a b : Nat) : reck 7 a b = (Go.bits .xor .u32 (a : Int) (b : Int)).toNat := by simp [reck]
theorem reck_8 (a b : Nat) : reck 8 a b = a * 2 ^ (b % 32) % 4294967296 := by simp [reck]
theorem reck_9 (a b : Nat) : reck 9 a b = a / 2 ^ (b % 32) := by simp [reck]
theorem reck_10 (a b : Nat) : reck 10 a b = if wrap32 (a : Int) < wrap32 (b : Int) then 1 else 0 := by simp [reck]
theorem and31 (b : Nat) (hb : b < 4294967296) : Go.bits .and .u32 (b : Int) 31 = ((b % 32 : Nat) : Int) := by
  have h := u32_and_nat b 31 hb (by omega)
  have e : b &&& 31 = b % 32 := Nat.and_two_pow_sub_one_eq_mod b 5
  rw [e] at h
  exact h
set_option maxRecDepth 100000 in
set_option maxHeartbeats 4000000 in
theorem reckon_c (w : World) (op a b : Nat) (h1 : 3 ≤ op) (h2 : op ≤ 10) (ha : a < 4294967296) (hb : b < 4294967296) :
    Calls Try.prog 42 #[.int .u8 (op : Int), .int .u32 (a : Int), .int .u32 (b : Int)] w fun e w' => e = .returned (.int .u32 ((reck op a b : Nat) : Int)) ∧ w' = w := by
  have h31 := and31 b hb
  have htm : Int.tmod (b : Int) 32 = ((b % 32 : Nat) : Int) := by rw [Int.tmod_eq_emod_of_nonneg (by omega)]; omega
  have hk : ((b % 32 : Nat) : Int) ≤ 32 := by omega
  have hk0 : 0 ≤ ((b % 32 : Nat) : Int) := by omega
  match op, h1, h2 with
  | 3, _, _ =>
    show Calls Try.prog 42 #[.int .u8 3, .int .u32 (a : Int), .int .u32 (b : Int)] w fun e w' => e = .returned (.int .u32 ((reck 3 a b : Nat) : Int)) ∧ w' = w
    rw [reck_3]
    go_enter Try.func42, Try.ntmps42
    go_wp2_with fail
    go_ret
    exact ⟨ret_int (by omega), rfl⟩
  | 4, _, _ =>
    show Calls Try.prog 42 #[.int .u8 4, .int .u32 (a : Int), .int .u32 (b : Int)] w fun e w' => e = .returned (.int .u32 ((reck 4 a b : Nat) : Int)) ∧ w' = w
    rw [reck_4]
    go_enter Try.func42, Try.ntmps42
    go_wp2_with fail
    go_ret
    exact ⟨ret_int (by omega), rfl⟩
  | 5, _, _ =>
    show Calls Try.prog 42 #[.int .u8 5, .int .u32 (a : Int), .int .u32 (b : Int)] w fun e w' => e = .returned (.int .u32 ((reck 5 a b : Nat) : Int)) ∧ w' = w
    rw [reck_5]
    go_enter Try.func42, Try.ntmps42
    go_wp2_with fail
    go_ret
    exact ⟨ret_int (bits_cast _ _ _).symm, rfl⟩
  | 6, _, _ =>
    show Calls Try.prog 42 #[.int .u8 6, .int .u32 (a : Int), .int .u32 (b : Int)] w fun e w' => e = .returned (.int .u32 ((reck 6 a b : Nat) : Int)) ∧ w' = w
    rw [reck_6]
    go_enter Try.func42, Try.ntmps42
    go_wp2_with fail
    go_ret
    exact ⟨ret_int (bits_cast _ _ _).symm, rfl⟩
  | 7, _, _ =>
    show Calls Try.prog 42 #[.int .u8 7, .int .u32 (a : Int), .int .u32 (b : Int)] w fun e w' => e = .returned (.int .u32 ((reck 7 a b : Nat) : Int)) ∧ w' = w
    rw [reck_7]
    go_enter Try.func42, Try.ntmps42
    go_wp2_with fail
    go_ret
    exact ⟨ret_int (bits_cast _ _ _).symm, rfl⟩
  | 8, _, _ =>
    show Calls Try.prog 42 #[.int .u8 8, .int .u32 (a : Int), .int .u32 (b : Int)] w fun e w' => e = .returned (.int .u32 ((reck 8 a b : Nat) : Int)) ∧ w' = w
    rw [reck_8, shl_cast]
    generalize b % 32 = k at h31 htm hk hk0 ⊢
    go_enter Try.func42, Try.ntmps42
    go_wp2_with fail
    go_ret
    exact ⟨ret_int (by simp), rfl⟩
  | 9, _, _ =>
    show Calls Try.prog 42 #[.int .u8 9, .int .u32 (a : Int), .int .u32 (b : Int)] w fun e w' => e = .returned (.int .u32 ((reck 9 a b : Nat) : Int)) ∧ w' = w
    rw [reck_9, shr_cast]
    generalize b % 32 = k at h31 htm hk hk0 ⊢
    go_enter Try.func42, Try.ntmps42
    go_wp2_with fail
    go_ret
    exact ⟨ret_int (by simp), rfl⟩
  | 10, _, _ =>
    show Calls Try.prog 42 #[.int .u8 10, .int .u32 (a : Int), .int .u32 (b : Int)] w fun e w' => e = .returned (.int .u32 ((reck 10 a b : Nat) : Int)) ∧ w' = w
    by_cases hl : wrap32 (a : Int) < wrap32 (b : Int)
    · rw [reck_10, if_pos hl]
      go_enter Try.func42, Try.ntmps42
      go_wp2_with fail
      go_ret
      exact ⟨rfl, rfl⟩
    · rw [reck_10, if_neg hl]
      go_enter Try.func42, Try.ntmps42
      go_wp2_with fail
      go_ret
      exact ⟨rfl, rfl⟩
end Go.Proofs.Ythnbdeibjbicpaa.PM
