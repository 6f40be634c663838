/- Contracts of reloc.Value and of the reference's. Conditions: the bounds of the kinds. -/
import Derived.Test.YtgnminoiddnheaaRel2
import Derived.ChangeSlices
namespace Go.Proofs.Ytgnminoiddnheaa.R5
set_option linter.unusedVariables false
open Go.RowKit Go.Proofs.Ytgnminoiddnheaa.WM Go.Proofs.Ytgnminoiddnheaa.W1 Go.Proofs.Ytgnminoiddnheaa.R2
theorem old_cell {w : World} {a : Addr} {v : Value} (h : w.cell? a = some v) (o1 o2 : Obj) (n : Nat) : (((w.alloc o1).alloc o2).drewN n).cell? a = some v := by
  have h1 := (World.cell?_alloc_lt w o1 a (World.block_lt_of_cell? w a h)).trans h
  exact (World.cell?_alloc_lt _ o2 a (World.block_lt_of_cell? _ a h1)).trans h1
theorem two_allocs (w : World) (o1 o2 : Obj) : Below w.heap.size w ((w.alloc o1).alloc o2) := ((Below.refl _ _).alloc (Nat.le_refl _) _).alloc (by simp) _
theorem vnil_0 (k t n pc pd : Nat)  (w : World) (hn : n < 65536) (hpc : pc < 4294967296) (hpd : pd < 4294967296) (hk : k = 0)  :
    Calls Try.prog 27 #[.agg #[.int .u8 (k : Int), .int .u16 (t : Int), .int .u16 (n : Int)], .agg #[.int .u32 (pc : Int), .int .u32 (pd : Int)], .slice none 0 0] w fun e w' => e = .returned (.tuple #[.int .u32 0, .int .i64 2]) ∧ Below w.heap.size w w' := by
  have q0 : ((k : Int) == 0) = true := by rw [hk]; rfl
  have q1 : ((k : Int) == 1) = false := by rw [hk]; rfl
  have q2 : ((k : Int) == 2) = false := by rw [hk]; rfl
  have q3 : ((k : Int) == 3) = false := by rw [hk]; rfl
  have q4 : ((k : Int) == 4) = false := by rw [hk]; rfl
  have q5 : ((k : Int) == 5) = false := by rw [hk]; rfl
  have q6 : ((k : Int) == 6) = false := by rw [hk]; rfl
  have q7 : ((k : Int) == 7) = false := by rw [hk]; rfl
  have qg : (k : Int) ≤ 7 := by omega
  clear hk
  go_enter Try.func27, Try.ntmps27
  go_wp2_with fail
  go_ret2
  refine ⟨rfl, ?_⟩
  repeat (first | exact two_allocs _ _ _ | apply below_drewN)
theorem vout_0 (k t n pc pd : Nat) (a : Addr) (len cap : Nat) (w : World) (hn : n < 65536) (hpc : pc < 4294967296) (hpd : pd < 4294967296) (hk : k = 0) (hl : len ≤ n) :
    Calls Try.prog 27 #[.agg #[.int .u8 (k : Int), .int .u16 (t : Int), .int .u16 (n : Int)], .agg #[.int .u32 (pc : Int), .int .u32 (pd : Int)], .slice (some a) len cap] w fun e w' => e = .returned (.tuple #[.int .u32 0, .int .i64 2]) ∧ Below w.heap.size w w' := by
  have q0 : ((k : Int) == 0) = true := by rw [hk]; rfl
  have q1 : ((k : Int) == 1) = false := by rw [hk]; rfl
  have q2 : ((k : Int) == 2) = false := by rw [hk]; rfl
  have q3 : ((k : Int) == 3) = false := by rw [hk]; rfl
  have q4 : ((k : Int) == 4) = false := by rw [hk]; rfl
  have q5 : ((k : Int) == 5) = false := by rw [hk]; rfl
  have q6 : ((k : Int) == 6) = false := by rw [hk]; rfl
  have q7 : ((k : Int) == 7) = false := by rw [hk]; rfl
  have qg : (k : Int) ≤ 7 := by omega
  have hl1 : (len : Int) ≤ (n : Int) := by omega
  clear hk
  go_enter Try.func27, Try.ntmps27
  go_wp2_with fail
  go_ret2
  refine ⟨rfl, ?_⟩
  repeat (first | exact two_allocs _ _ _ | apply below_drewN)
theorem vin_0 (k t n pc pd : Nat) (a : Addr) (len cap : Nat) (z : Int) (w : World) (hn : n < 65536) (hpc : pc < 4294967296) (hpd : pd < 4294967296) (hk : k = 0) (hl : n < len) (hc : w.cell? (a.add n) = some (.int .u32 z)) :
    Calls Try.prog 27 #[.agg #[.int .u8 (k : Int), .int .u16 (t : Int), .int .u16 (n : Int)], .agg #[.int .u32 (pc : Int), .int .u32 (pd : Int)], .slice (some a) len cap] w fun e w' => e = .returned (.tuple #[.int .u32 z, .int .i64 0]) ∧ Below w.heap.size w w' := by
  have q0 : ((k : Int) == 0) = true := by rw [hk]; rfl
  have q1 : ((k : Int) == 1) = false := by rw [hk]; rfl
  have q2 : ((k : Int) == 2) = false := by rw [hk]; rfl
  have q3 : ((k : Int) == 3) = false := by rw [hk]; rfl
  have q4 : ((k : Int) == 4) = false := by rw [hk]; rfl
  have q5 : ((k : Int) == 5) = false := by rw [hk]; rfl
  have q6 : ((k : Int) == 6) = false := by rw [hk]; rfl
  have q7 : ((k : Int) == 7) = false := by rw [hk]; rfl
  have qg : (k : Int) ≤ 7 := by omega
  have hl1 : (n : Int) < (len : Int) := by omega
  have hc1 := fun N => old_cell hc (.cells #[.int .u8 (k : Int), .int .u16 (t : Int), .int .u16 (n : Int)] 53) (.cells #[.int .u32 (pc : Int), .int .u32 (pd : Int)] 55) N
  have hc0 := hc1 0
  rw [World.drewN_zero] at hc0
  clear hk
  go_enter Try.func27, Try.ntmps27
  go_wp2_with fail
  go_ret2
  refine ⟨rfl, ?_⟩
  repeat (first | exact two_allocs _ _ _ | apply below_drewN)
theorem vnil_1 (k t n pc pd : Nat)  (w : World) (hn : n < 65536) (hpc : pc < 4294967296) (hpd : pd < 4294967296) (hk : k = 1)  :
    Calls Try.prog 27 #[.agg #[.int .u8 (k : Int), .int .u16 (t : Int), .int .u16 (n : Int)], .agg #[.int .u32 (pc : Int), .int .u32 (pd : Int)], .slice none 0 0] w fun e w' => e = .returned (.tuple #[.int .u32 0, .int .i64 2]) ∧ Below w.heap.size w w' := by
  have q0 : ((k : Int) == 0) = false := by rw [hk]; rfl
  have q1 : ((k : Int) == 1) = true := by rw [hk]; rfl
  have q2 : ((k : Int) == 2) = false := by rw [hk]; rfl
  have q3 : ((k : Int) == 3) = false := by rw [hk]; rfl
  have q4 : ((k : Int) == 4) = false := by rw [hk]; rfl
  have q5 : ((k : Int) == 5) = false := by rw [hk]; rfl
  have q6 : ((k : Int) == 6) = false := by rw [hk]; rfl
  have q7 : ((k : Int) == 7) = false := by rw [hk]; rfl
  have qg : (k : Int) ≤ 7 := by omega
  clear hk
  go_enter Try.func27, Try.ntmps27
  go_wp2_with fail
  go_ret2
  refine ⟨rfl, ?_⟩
  repeat (first | exact two_allocs _ _ _ | apply below_drewN)
theorem vout_1 (k t n pc pd : Nat) (a : Addr) (len cap : Nat) (w : World) (hn : n < 65536) (hpc : pc < 4294967296) (hpd : pd < 4294967296) (hk : k = 1) (hl : len ≤ n) :
    Calls Try.prog 27 #[.agg #[.int .u8 (k : Int), .int .u16 (t : Int), .int .u16 (n : Int)], .agg #[.int .u32 (pc : Int), .int .u32 (pd : Int)], .slice (some a) len cap] w fun e w' => e = .returned (.tuple #[.int .u32 0, .int .i64 2]) ∧ Below w.heap.size w w' := by
  have q0 : ((k : Int) == 0) = false := by rw [hk]; rfl
  have q1 : ((k : Int) == 1) = true := by rw [hk]; rfl
  have q2 : ((k : Int) == 2) = false := by rw [hk]; rfl
  have q3 : ((k : Int) == 3) = false := by rw [hk]; rfl
  have q4 : ((k : Int) == 4) = false := by rw [hk]; rfl
  have q5 : ((k : Int) == 5) = false := by rw [hk]; rfl
  have q6 : ((k : Int) == 6) = false := by rw [hk]; rfl
  have q7 : ((k : Int) == 7) = false := by rw [hk]; rfl
  have qg : (k : Int) ≤ 7 := by omega
  have hl1 : (len : Int) ≤ (n : Int) := by omega
  clear hk
  go_enter Try.func27, Try.ntmps27
  go_wp2_with fail
  go_ret2
  refine ⟨rfl, ?_⟩
  repeat (first | exact two_allocs _ _ _ | apply below_drewN)
theorem vin_1 (k t n pc pd : Nat) (a : Addr) (len cap : Nat) (z : Int) (w : World) (hn : n < 65536) (hpc : pc < 4294967296) (hpd : pd < 4294967296) (hk : k = 1) (hl : n < len) (hc : w.cell? (a.add n) = some (.int .u32 z)) :
    Calls Try.prog 27 #[.agg #[.int .u8 (k : Int), .int .u16 (t : Int), .int .u16 (n : Int)], .agg #[.int .u32 (pc : Int), .int .u32 (pd : Int)], .slice (some a) len cap] w fun e w' => e = .returned (.tuple #[.int .u32 z, .int .i64 0]) ∧ Below w.heap.size w w' := by
  have q0 : ((k : Int) == 0) = false := by rw [hk]; rfl
  have q1 : ((k : Int) == 1) = true := by rw [hk]; rfl
  have q2 : ((k : Int) == 2) = false := by rw [hk]; rfl
  have q3 : ((k : Int) == 3) = false := by rw [hk]; rfl
  have q4 : ((k : Int) == 4) = false := by rw [hk]; rfl
  have q5 : ((k : Int) == 5) = false := by rw [hk]; rfl
  have q6 : ((k : Int) == 6) = false := by rw [hk]; rfl
  have q7 : ((k : Int) == 7) = false := by rw [hk]; rfl
  have qg : (k : Int) ≤ 7 := by omega
  have hl1 : (n : Int) < (len : Int) := by omega
  have hc1 := fun N => old_cell hc (.cells #[.int .u8 (k : Int), .int .u16 (t : Int), .int .u16 (n : Int)] 53) (.cells #[.int .u32 (pc : Int), .int .u32 (pd : Int)] 55) N
  have hc0 := hc1 0
  rw [World.drewN_zero] at hc0
  clear hk
  go_enter Try.func27, Try.ntmps27
  go_wp2_with fail
  go_ret2
  refine ⟨rfl, ?_⟩
  repeat (first | exact two_allocs _ _ _ | apply below_drewN)
theorem vnil_4 (k t n pc pd : Nat)  (w : World) (hn : n < 65536) (hpc : pc < 4294967296) (hpd : pd < 4294967296) (hk : k = 4)  :
    Calls Try.prog 27 #[.agg #[.int .u8 (k : Int), .int .u16 (t : Int), .int .u16 (n : Int)], .agg #[.int .u32 (pc : Int), .int .u32 (pd : Int)], .slice none 0 0] w fun e w' => e = .returned (.tuple #[.int .u32 0, .int .i64 2]) ∧ Below w.heap.size w w' := by
  have q0 : ((k : Int) == 0) = false := by rw [hk]; rfl
  have q1 : ((k : Int) == 1) = false := by rw [hk]; rfl
  have q2 : ((k : Int) == 2) = false := by rw [hk]; rfl
  have q3 : ((k : Int) == 3) = false := by rw [hk]; rfl
  have q4 : ((k : Int) == 4) = true := by rw [hk]; rfl
  have q5 : ((k : Int) == 5) = false := by rw [hk]; rfl
  have q6 : ((k : Int) == 6) = false := by rw [hk]; rfl
  have q7 : ((k : Int) == 7) = false := by rw [hk]; rfl
  have qg : (k : Int) ≤ 7 := by omega
  clear hk
  go_enter Try.func27, Try.ntmps27
  go_wp2_with fail
  go_ret2
  refine ⟨rfl, ?_⟩
  repeat (first | exact two_allocs _ _ _ | apply below_drewN)
theorem vout_4 (k t n pc pd : Nat) (a : Addr) (len cap : Nat) (w : World) (hn : n < 65536) (hpc : pc < 4294967296) (hpd : pd < 4294967296) (hk : k = 4) (hl : len ≤ n) :
    Calls Try.prog 27 #[.agg #[.int .u8 (k : Int), .int .u16 (t : Int), .int .u16 (n : Int)], .agg #[.int .u32 (pc : Int), .int .u32 (pd : Int)], .slice (some a) len cap] w fun e w' => e = .returned (.tuple #[.int .u32 0, .int .i64 2]) ∧ Below w.heap.size w w' := by
  have q0 : ((k : Int) == 0) = false := by rw [hk]; rfl
  have q1 : ((k : Int) == 1) = false := by rw [hk]; rfl
  have q2 : ((k : Int) == 2) = false := by rw [hk]; rfl
  have q3 : ((k : Int) == 3) = false := by rw [hk]; rfl
  have q4 : ((k : Int) == 4) = true := by rw [hk]; rfl
  have q5 : ((k : Int) == 5) = false := by rw [hk]; rfl
  have q6 : ((k : Int) == 6) = false := by rw [hk]; rfl
  have q7 : ((k : Int) == 7) = false := by rw [hk]; rfl
  have qg : (k : Int) ≤ 7 := by omega
  have hl1 : (len : Int) ≤ (n : Int) := by omega
  clear hk
  go_enter Try.func27, Try.ntmps27
  go_wp2_with fail
  go_ret2
  refine ⟨rfl, ?_⟩
  repeat (first | exact two_allocs _ _ _ | apply below_drewN)
theorem vin_4 (k t n pc pd : Nat) (a : Addr) (len cap : Nat) (z : Int) (w : World) (hn : n < 65536) (hpc : pc < 4294967296) (hpd : pd < 4294967296) (hk : k = 4) (hl : n < len) (hc : w.cell? (a.add n) = some (.int .u32 z)) :
    Calls Try.prog 27 #[.agg #[.int .u8 (k : Int), .int .u16 (t : Int), .int .u16 (n : Int)], .agg #[.int .u32 (pc : Int), .int .u32 (pd : Int)], .slice (some a) len cap] w fun e w' => e = .returned (.tuple #[.int .u32 z, .int .i64 0]) ∧ Below w.heap.size w w' := by
  have q0 : ((k : Int) == 0) = false := by rw [hk]; rfl
  have q1 : ((k : Int) == 1) = false := by rw [hk]; rfl
  have q2 : ((k : Int) == 2) = false := by rw [hk]; rfl
  have q3 : ((k : Int) == 3) = false := by rw [hk]; rfl
  have q4 : ((k : Int) == 4) = true := by rw [hk]; rfl
  have q5 : ((k : Int) == 5) = false := by rw [hk]; rfl
  have q6 : ((k : Int) == 6) = false := by rw [hk]; rfl
  have q7 : ((k : Int) == 7) = false := by rw [hk]; rfl
  have qg : (k : Int) ≤ 7 := by omega
  have hl1 : (n : Int) < (len : Int) := by omega
  have hc1 := fun N => old_cell hc (.cells #[.int .u8 (k : Int), .int .u16 (t : Int), .int .u16 (n : Int)] 53) (.cells #[.int .u32 (pc : Int), .int .u32 (pd : Int)] 55) N
  have hc0 := hc1 0
  rw [World.drewN_zero] at hc0
  clear hk
  go_enter Try.func27, Try.ntmps27
  go_wp2_with fail
  go_ret2
  refine ⟨rfl, ?_⟩
  repeat (first | exact two_allocs _ _ _ | apply below_drewN)
theorem vadd_2 (k t n pc pd : Nat) (sv : Value) (w : World) (hn : n < 65536) (hpc : pc < 4294967296) (hpd : pd < 4294967296) (hk : k = 2)  :
    Calls Try.prog 27 #[.agg #[.int .u8 (k : Int), .int .u16 (t : Int), .int .u16 (n : Int)], .agg #[.int .u32 (pc : Int), .int .u32 (pd : Int)], sv] w fun e w' => e = .returned (.tuple #[.int .u32 (((pd : Int) + (n : Int)) % 4294967296), .int .i64 0]) ∧ Below w.heap.size w w' := by
  have q0 : ((k : Int) == 0) = false := by rw [hk]; rfl
  have q1 : ((k : Int) == 1) = false := by rw [hk]; rfl
  have q2 : ((k : Int) == 2) = true := by rw [hk]; rfl
  have q3 : ((k : Int) == 3) = false := by rw [hk]; rfl
  have q4 : ((k : Int) == 4) = false := by rw [hk]; rfl
  have q5 : ((k : Int) == 5) = false := by rw [hk]; rfl
  have q6 : ((k : Int) == 6) = false := by rw [hk]; rfl
  have q7 : ((k : Int) == 7) = false := by rw [hk]; rfl
  have qg : (k : Int) ≤ 7 := by omega
  clear hk
  go_enter Try.func27, Try.ntmps27
  go_wp2_with fail
  go_ret2
  refine ⟨rfl, ?_⟩
  repeat (first | exact two_allocs _ _ _ | apply below_drewN)
theorem vadd_5 (k t n pc pd : Nat) (sv : Value) (w : World) (hn : n < 65536) (hpc : pc < 4294967296) (hpd : pd < 4294967296) (hk : k = 5)  :
    Calls Try.prog 27 #[.agg #[.int .u8 (k : Int), .int .u16 (t : Int), .int .u16 (n : Int)], .agg #[.int .u32 (pc : Int), .int .u32 (pd : Int)], sv] w fun e w' => e = .returned (.tuple #[.int .u32 (((pd : Int) + (n : Int)) % 4294967296), .int .i64 0]) ∧ Below w.heap.size w w' := by
  have q0 : ((k : Int) == 0) = false := by rw [hk]; rfl
  have q1 : ((k : Int) == 1) = false := by rw [hk]; rfl
  have q2 : ((k : Int) == 2) = false := by rw [hk]; rfl
  have q3 : ((k : Int) == 3) = false := by rw [hk]; rfl
  have q4 : ((k : Int) == 4) = false := by rw [hk]; rfl
  have q5 : ((k : Int) == 5) = true := by rw [hk]; rfl
  have q6 : ((k : Int) == 6) = false := by rw [hk]; rfl
  have q7 : ((k : Int) == 7) = false := by rw [hk]; rfl
  have qg : (k : Int) ≤ 7 := by omega
  clear hk
  go_enter Try.func27, Try.ntmps27
  go_wp2_with fail
  go_ret2
  refine ⟨rfl, ?_⟩
  repeat (first | exact two_allocs _ _ _ | apply below_drewN)
theorem vadd_3 (k t n pc pd : Nat) (sv : Value) (w : World) (hn : n < 65536) (hpc : pc < 4294967296) (hpd : pd < 4294967296) (hk : k = 3)  :
    Calls Try.prog 27 #[.agg #[.int .u8 (k : Int), .int .u16 (t : Int), .int .u16 (n : Int)], .agg #[.int .u32 (pc : Int), .int .u32 (pd : Int)], sv] w fun e w' => e = .returned (.tuple #[.int .u32 (((pc : Int) + (n : Int)) % 4294967296), .int .i64 0]) ∧ Below w.heap.size w w' := by
  have q0 : ((k : Int) == 0) = false := by rw [hk]; rfl
  have q1 : ((k : Int) == 1) = false := by rw [hk]; rfl
  have q2 : ((k : Int) == 2) = false := by rw [hk]; rfl
  have q3 : ((k : Int) == 3) = true := by rw [hk]; rfl
  have q4 : ((k : Int) == 4) = false := by rw [hk]; rfl
  have q5 : ((k : Int) == 5) = false := by rw [hk]; rfl
  have q6 : ((k : Int) == 6) = false := by rw [hk]; rfl
  have q7 : ((k : Int) == 7) = false := by rw [hk]; rfl
  have qg : (k : Int) ≤ 7 := by omega
  clear hk
  go_enter Try.func27, Try.ntmps27
  go_wp2_with fail
  go_ret2
  refine ⟨rfl, ?_⟩
  repeat (first | exact two_allocs _ _ _ | apply below_drewN)
theorem vadd_6 (k t n pc pd : Nat) (sv : Value) (w : World) (hn : n < 65536) (hpc : pc < 4294967296) (hpd : pd < 4294967296) (hk : k = 6)  :
    Calls Try.prog 27 #[.agg #[.int .u8 (k : Int), .int .u16 (t : Int), .int .u16 (n : Int)], .agg #[.int .u32 (pc : Int), .int .u32 (pd : Int)], sv] w fun e w' => e = .returned (.tuple #[.int .u32 (((pc : Int) + (n : Int)) % 4294967296), .int .i64 0]) ∧ Below w.heap.size w w' := by
  have q0 : ((k : Int) == 0) = false := by rw [hk]; rfl
  have q1 : ((k : Int) == 1) = false := by rw [hk]; rfl
  have q2 : ((k : Int) == 2) = false := by rw [hk]; rfl
  have q3 : ((k : Int) == 3) = false := by rw [hk]; rfl
  have q4 : ((k : Int) == 4) = false := by rw [hk]; rfl
  have q5 : ((k : Int) == 5) = false := by rw [hk]; rfl
  have q6 : ((k : Int) == 6) = true := by rw [hk]; rfl
  have q7 : ((k : Int) == 7) = false := by rw [hk]; rfl
  have qg : (k : Int) ≤ 7 := by omega
  clear hk
  go_enter Try.func27, Try.ntmps27
  go_wp2_with fail
  go_ret2
  refine ⟨rfl, ?_⟩
  repeat (first | exact two_allocs _ _ _ | apply below_drewN)
theorem vadd_7 (k t n pc pd : Nat) (sv : Value) (w : World) (hn : n < 65536) (hpc : pc < 4294967296) (hpd : pd < 4294967296) (hk : k = 7)  :
    Calls Try.prog 27 #[.agg #[.int .u8 (k : Int), .int .u16 (t : Int), .int .u16 (n : Int)], .agg #[.int .u32 (pc : Int), .int .u32 (pd : Int)], sv] w fun e w' => e = .returned (.tuple #[.int .u32 (((pc : Int) + (n : Int)) % 4294967296), .int .i64 0]) ∧ Below w.heap.size w w' := by
  have q0 : ((k : Int) == 0) = false := by rw [hk]; rfl
  have q1 : ((k : Int) == 1) = false := by rw [hk]; rfl
  have q2 : ((k : Int) == 2) = false := by rw [hk]; rfl
  have q3 : ((k : Int) == 3) = false := by rw [hk]; rfl
  have q4 : ((k : Int) == 4) = false := by rw [hk]; rfl
  have q5 : ((k : Int) == 5) = false := by rw [hk]; rfl
  have q6 : ((k : Int) == 6) = false := by rw [hk]; rfl
  have q7 : ((k : Int) == 7) = true := by rw [hk]; rfl
  have qg : (k : Int) ≤ 7 := by omega
  clear hk
  go_enter Try.func27, Try.ntmps27
  go_wp2_with fail
  go_ret2
  refine ⟨rfl, ?_⟩
  repeat (first | exact two_allocs _ _ _ | apply below_drewN)
theorem vbig_8 (k t n pc pd : Nat) (sv : Value) (w : World) (hn : n < 65536) (hpc : pc < 4294967296) (hpd : pd < 4294967296) (hk : 7 < k)  :
    Calls Try.prog 27 #[.agg #[.int .u8 (k : Int), .int .u16 (t : Int), .int .u16 (n : Int)], .agg #[.int .u32 (pc : Int), .int .u32 (pd : Int)], sv] w fun e w' => e = .returned (.tuple #[.int .u32 0, .int .i64 2]) ∧ Below w.heap.size w w' := by
  have q0 : ((k : Int) == 0) = false := by rw [beq_eq_false_iff_ne]; omega
  have q1 : ((k : Int) == 1) = false := by rw [beq_eq_false_iff_ne]; omega
  have q2 : ((k : Int) == 2) = false := by rw [beq_eq_false_iff_ne]; omega
  have q3 : ((k : Int) == 3) = false := by rw [beq_eq_false_iff_ne]; omega
  have q4 : ((k : Int) == 4) = false := by rw [beq_eq_false_iff_ne]; omega
  have q5 : ((k : Int) == 5) = false := by rw [beq_eq_false_iff_ne]; omega
  have q6 : ((k : Int) == 6) = false := by rw [beq_eq_false_iff_ne]; omega
  have q7 : ((k : Int) == 7) = false := by rw [beq_eq_false_iff_ne]; omega
  have qg : (7 : Int) < (k : Int) := by omega
  clear hk
  go_enter Try.func27, Try.ntmps27
  go_wp2_with fail
  go_ret2
  refine ⟨rfl, ?_⟩
  repeat (first | exact two_allocs _ _ _ | apply below_drewN)
theorem rvnil_0 (k t n pc pd : Nat)  (w : World) (hn : n < 65536) (hpc : pc < 4294967296) (hpd : pd < 4294967296) (hk : k = 0)  :
    Calls Try.prog 28 #[.agg #[.int .u8 (k : Int), .int .u16 (t : Int), .int .u16 (n : Int)], .agg #[.int .u32 (pc : Int), .int .u32 (pd : Int)], .slice none 0 0] w fun e w' => e = .returned (.tuple #[.int .u32 0, .int .i64 2]) ∧ Below w.heap.size w w' := by
  have q0 : ((k : Int) == 0) = true := by rw [hk]; rfl
  have q1 : ((k : Int) == 1) = false := by rw [hk]; rfl
  have q2 : ((k : Int) == 2) = false := by rw [hk]; rfl
  have q3 : ((k : Int) == 3) = false := by rw [hk]; rfl
  have q4 : ((k : Int) == 4) = false := by rw [hk]; rfl
  have q5 : ((k : Int) == 5) = false := by rw [hk]; rfl
  have q6 : ((k : Int) == 6) = false := by rw [hk]; rfl
  have q7 : ((k : Int) == 7) = false := by rw [hk]; rfl
  have qg : (k : Int) ≤ 7 := by omega
  have hi := fun W => import_c k W
  rw [show impK k = true from by rw [hk]; rfl] at hi
  have HI := Lib.hid hi
  clear hi
  clear hk
  go_enter Try.func28, Try.ntmps28
  go_wp2_with fail
  all_goals (go_wp2_with (first | (go_at_call 47; (with_reducible refine (HI.out _).mono ?_); rintro e w' ⟨rfl, ⟨nd, rfl⟩⟩; (try first | exact ⟨rfl, _, World.drewN_drewN _ _ _⟩ | exact ⟨rfl, _, Eq.trans (World.drewN_drewN _ _ _) (congrArg (World.drewN _) (Nat.add_assoc _ _ _))⟩)))); repeat (go_quiet (first | (go_at_call 47; (with_reducible refine (HI.out _).mono ?_); rintro e w' ⟨rfl, ⟨nd, rfl⟩⟩; (try first | exact ⟨rfl, _, World.drewN_drewN _ _ _⟩ | exact ⟨rfl, _, Eq.trans (World.drewN_drewN _ _ _) (congrArg (World.drewN _) (Nat.add_assoc _ _ _))⟩))); try go_wp2_with (first | (go_at_call 47; (with_reducible refine (HI.out _).mono ?_); rintro e w' ⟨rfl, ⟨nd, rfl⟩⟩; (try first | exact ⟨rfl, _, World.drewN_drewN _ _ _⟩ | exact ⟨rfl, _, Eq.trans (World.drewN_drewN _ _ _) (congrArg (World.drewN _) (Nat.add_assoc _ _ _))⟩))))
  go_ret2
  refine ⟨rfl, ?_⟩
  repeat (first | exact two_allocs _ _ _ | apply below_drewN)
theorem rvout_0 (k t n pc pd : Nat) (a : Addr) (len cap : Nat) (w : World) (hn : n < 65536) (hpc : pc < 4294967296) (hpd : pd < 4294967296) (hk : k = 0) (hl : len ≤ n) :
    Calls Try.prog 28 #[.agg #[.int .u8 (k : Int), .int .u16 (t : Int), .int .u16 (n : Int)], .agg #[.int .u32 (pc : Int), .int .u32 (pd : Int)], .slice (some a) len cap] w fun e w' => e = .returned (.tuple #[.int .u32 0, .int .i64 2]) ∧ Below w.heap.size w w' := by
  have q0 : ((k : Int) == 0) = true := by rw [hk]; rfl
  have q1 : ((k : Int) == 1) = false := by rw [hk]; rfl
  have q2 : ((k : Int) == 2) = false := by rw [hk]; rfl
  have q3 : ((k : Int) == 3) = false := by rw [hk]; rfl
  have q4 : ((k : Int) == 4) = false := by rw [hk]; rfl
  have q5 : ((k : Int) == 5) = false := by rw [hk]; rfl
  have q6 : ((k : Int) == 6) = false := by rw [hk]; rfl
  have q7 : ((k : Int) == 7) = false := by rw [hk]; rfl
  have qg : (k : Int) ≤ 7 := by omega
  have hl1 : (len : Int) ≤ (n : Int) := by omega
  have hi := fun W => import_c k W
  rw [show impK k = true from by rw [hk]; rfl] at hi
  have HI := Lib.hid hi
  clear hi
  clear hk
  go_enter Try.func28, Try.ntmps28
  go_wp2_with fail
  all_goals (go_wp2_with (first | (go_at_call 47; (with_reducible refine (HI.out _).mono ?_); rintro e w' ⟨rfl, ⟨nd, rfl⟩⟩; (try first | exact ⟨rfl, _, World.drewN_drewN _ _ _⟩ | exact ⟨rfl, _, Eq.trans (World.drewN_drewN _ _ _) (congrArg (World.drewN _) (Nat.add_assoc _ _ _))⟩)))); repeat (go_quiet (first | (go_at_call 47; (with_reducible refine (HI.out _).mono ?_); rintro e w' ⟨rfl, ⟨nd, rfl⟩⟩; (try first | exact ⟨rfl, _, World.drewN_drewN _ _ _⟩ | exact ⟨rfl, _, Eq.trans (World.drewN_drewN _ _ _) (congrArg (World.drewN _) (Nat.add_assoc _ _ _))⟩))); try go_wp2_with (first | (go_at_call 47; (with_reducible refine (HI.out _).mono ?_); rintro e w' ⟨rfl, ⟨nd, rfl⟩⟩; (try first | exact ⟨rfl, _, World.drewN_drewN _ _ _⟩ | exact ⟨rfl, _, Eq.trans (World.drewN_drewN _ _ _) (congrArg (World.drewN _) (Nat.add_assoc _ _ _))⟩))))
  go_ret2
  refine ⟨rfl, ?_⟩
  repeat (first | exact two_allocs _ _ _ | apply below_drewN)
theorem rvin_0 (k t n pc pd : Nat) (a : Addr) (len cap : Nat) (z : Int) (w : World) (hn : n < 65536) (hpc : pc < 4294967296) (hpd : pd < 4294967296) (hk : k = 0) (hl : n < len) (hc : w.cell? (a.add n) = some (.int .u32 z)) :
    Calls Try.prog 28 #[.agg #[.int .u8 (k : Int), .int .u16 (t : Int), .int .u16 (n : Int)], .agg #[.int .u32 (pc : Int), .int .u32 (pd : Int)], .slice (some a) len cap] w fun e w' => e = .returned (.tuple #[.int .u32 z, .int .i64 0]) ∧ Below w.heap.size w w' := by
  have q0 : ((k : Int) == 0) = true := by rw [hk]; rfl
  have q1 : ((k : Int) == 1) = false := by rw [hk]; rfl
  have q2 : ((k : Int) == 2) = false := by rw [hk]; rfl
  have q3 : ((k : Int) == 3) = false := by rw [hk]; rfl
  have q4 : ((k : Int) == 4) = false := by rw [hk]; rfl
  have q5 : ((k : Int) == 5) = false := by rw [hk]; rfl
  have q6 : ((k : Int) == 6) = false := by rw [hk]; rfl
  have q7 : ((k : Int) == 7) = false := by rw [hk]; rfl
  have qg : (k : Int) ≤ 7 := by omega
  have hl1 : (n : Int) < (len : Int) := by omega
  have hc1 := fun N => old_cell hc (.cells #[.int .u8 (k : Int), .int .u16 (t : Int), .int .u16 (n : Int)] 53) (.cells #[.int .u32 (pc : Int), .int .u32 (pd : Int)] 59) N
  have hc0 := hc1 0
  rw [World.drewN_zero] at hc0
  have hi := fun W => import_c k W
  rw [show impK k = true from by rw [hk]; rfl] at hi
  have HI := Lib.hid hi
  clear hi
  clear hk
  go_enter Try.func28, Try.ntmps28
  go_wp2_with fail
  all_goals (go_wp2_with (first | (go_at_call 47; (with_reducible refine (HI.out _).mono ?_); rintro e w' ⟨rfl, ⟨nd, rfl⟩⟩; (try first | exact ⟨rfl, _, World.drewN_drewN _ _ _⟩ | exact ⟨rfl, _, Eq.trans (World.drewN_drewN _ _ _) (congrArg (World.drewN _) (Nat.add_assoc _ _ _))⟩)))); repeat (go_quiet (first | (go_at_call 47; (with_reducible refine (HI.out _).mono ?_); rintro e w' ⟨rfl, ⟨nd, rfl⟩⟩; (try first | exact ⟨rfl, _, World.drewN_drewN _ _ _⟩ | exact ⟨rfl, _, Eq.trans (World.drewN_drewN _ _ _) (congrArg (World.drewN _) (Nat.add_assoc _ _ _))⟩))); try go_wp2_with (first | (go_at_call 47; (with_reducible refine (HI.out _).mono ?_); rintro e w' ⟨rfl, ⟨nd, rfl⟩⟩; (try first | exact ⟨rfl, _, World.drewN_drewN _ _ _⟩ | exact ⟨rfl, _, Eq.trans (World.drewN_drewN _ _ _) (congrArg (World.drewN _) (Nat.add_assoc _ _ _))⟩))))
  go_ret2
  refine ⟨rfl, ?_⟩
  repeat (first | exact two_allocs _ _ _ | apply below_drewN)
theorem rvnil_1 (k t n pc pd : Nat)  (w : World) (hn : n < 65536) (hpc : pc < 4294967296) (hpd : pd < 4294967296) (hk : k = 1)  :
    Calls Try.prog 28 #[.agg #[.int .u8 (k : Int), .int .u16 (t : Int), .int .u16 (n : Int)], .agg #[.int .u32 (pc : Int), .int .u32 (pd : Int)], .slice none 0 0] w fun e w' => e = .returned (.tuple #[.int .u32 0, .int .i64 2]) ∧ Below w.heap.size w w' := by
  have q0 : ((k : Int) == 0) = false := by rw [hk]; rfl
  have q1 : ((k : Int) == 1) = true := by rw [hk]; rfl
  have q2 : ((k : Int) == 2) = false := by rw [hk]; rfl
  have q3 : ((k : Int) == 3) = false := by rw [hk]; rfl
  have q4 : ((k : Int) == 4) = false := by rw [hk]; rfl
  have q5 : ((k : Int) == 5) = false := by rw [hk]; rfl
  have q6 : ((k : Int) == 6) = false := by rw [hk]; rfl
  have q7 : ((k : Int) == 7) = false := by rw [hk]; rfl
  have qg : (k : Int) ≤ 7 := by omega
  have hi := fun W => import_c k W
  rw [show impK k = true from by rw [hk]; rfl] at hi
  have HI := Lib.hid hi
  clear hi
  clear hk
  go_enter Try.func28, Try.ntmps28
  go_wp2_with fail
  all_goals (go_wp2_with (first | (go_at_call 47; (with_reducible refine (HI.out _).mono ?_); rintro e w' ⟨rfl, ⟨nd, rfl⟩⟩; (try first | exact ⟨rfl, _, World.drewN_drewN _ _ _⟩ | exact ⟨rfl, _, Eq.trans (World.drewN_drewN _ _ _) (congrArg (World.drewN _) (Nat.add_assoc _ _ _))⟩)))); repeat (go_quiet (first | (go_at_call 47; (with_reducible refine (HI.out _).mono ?_); rintro e w' ⟨rfl, ⟨nd, rfl⟩⟩; (try first | exact ⟨rfl, _, World.drewN_drewN _ _ _⟩ | exact ⟨rfl, _, Eq.trans (World.drewN_drewN _ _ _) (congrArg (World.drewN _) (Nat.add_assoc _ _ _))⟩))); try go_wp2_with (first | (go_at_call 47; (with_reducible refine (HI.out _).mono ?_); rintro e w' ⟨rfl, ⟨nd, rfl⟩⟩; (try first | exact ⟨rfl, _, World.drewN_drewN _ _ _⟩ | exact ⟨rfl, _, Eq.trans (World.drewN_drewN _ _ _) (congrArg (World.drewN _) (Nat.add_assoc _ _ _))⟩))))
  go_ret2
  refine ⟨rfl, ?_⟩
  repeat (first | exact two_allocs _ _ _ | apply below_drewN)
theorem rvout_1 (k t n pc pd : Nat) (a : Addr) (len cap : Nat) (w : World) (hn : n < 65536) (hpc : pc < 4294967296) (hpd : pd < 4294967296) (hk : k = 1) (hl : len ≤ n) :
    Calls Try.prog 28 #[.agg #[.int .u8 (k : Int), .int .u16 (t : Int), .int .u16 (n : Int)], .agg #[.int .u32 (pc : Int), .int .u32 (pd : Int)], .slice (some a) len cap] w fun e w' => e = .returned (.tuple #[.int .u32 0, .int .i64 2]) ∧ Below w.heap.size w w' := by
  have q0 : ((k : Int) == 0) = false := by rw [hk]; rfl
  have q1 : ((k : Int) == 1) = true := by rw [hk]; rfl
  have q2 : ((k : Int) == 2) = false := by rw [hk]; rfl
  have q3 : ((k : Int) == 3) = false := by rw [hk]; rfl
  have q4 : ((k : Int) == 4) = false := by rw [hk]; rfl
  have q5 : ((k : Int) == 5) = false := by rw [hk]; rfl
  have q6 : ((k : Int) == 6) = false := by rw [hk]; rfl
  have q7 : ((k : Int) == 7) = false := by rw [hk]; rfl
  have qg : (k : Int) ≤ 7 := by omega
  have hl1 : (len : Int) ≤ (n : Int) := by omega
  have hi := fun W => import_c k W
  rw [show impK k = true from by rw [hk]; rfl] at hi
  have HI := Lib.hid hi
  clear hi
  clear hk
  go_enter Try.func28, Try.ntmps28
  go_wp2_with fail
  all_goals (go_wp2_with (first | (go_at_call 47; (with_reducible refine (HI.out _).mono ?_); rintro e w' ⟨rfl, ⟨nd, rfl⟩⟩; (try first | exact ⟨rfl, _, World.drewN_drewN _ _ _⟩ | exact ⟨rfl, _, Eq.trans (World.drewN_drewN _ _ _) (congrArg (World.drewN _) (Nat.add_assoc _ _ _))⟩)))); repeat (go_quiet (first | (go_at_call 47; (with_reducible refine (HI.out _).mono ?_); rintro e w' ⟨rfl, ⟨nd, rfl⟩⟩; (try first | exact ⟨rfl, _, World.drewN_drewN _ _ _⟩ | exact ⟨rfl, _, Eq.trans (World.drewN_drewN _ _ _) (congrArg (World.drewN _) (Nat.add_assoc _ _ _))⟩))); try go_wp2_with (first | (go_at_call 47; (with_reducible refine (HI.out _).mono ?_); rintro e w' ⟨rfl, ⟨nd, rfl⟩⟩; (try first | exact ⟨rfl, _, World.drewN_drewN _ _ _⟩ | exact ⟨rfl, _, Eq.trans (World.drewN_drewN _ _ _) (congrArg (World.drewN _) (Nat.add_assoc _ _ _))⟩))))
  go_ret2
  refine ⟨rfl, ?_⟩
  repeat (first | exact two_allocs _ _ _ | apply below_drewN)
theorem rvin_1 (k t n pc pd : Nat) (a : Addr) (len cap : Nat) (z : Int) (w : World) (hn : n < 65536) (hpc : pc < 4294967296) (hpd : pd < 4294967296) (hk : k = 1) (hl : n < len) (hc : w.cell? (a.add n) = some (.int .u32 z)) :
    Calls Try.prog 28 #[.agg #[.int .u8 (k : Int), .int .u16 (t : Int), .int .u16 (n : Int)], .agg #[.int .u32 (pc : Int), .int .u32 (pd : Int)], .slice (some a) len cap] w fun e w' => e = .returned (.tuple #[.int .u32 z, .int .i64 0]) ∧ Below w.heap.size w w' := by
  have q0 : ((k : Int) == 0) = false := by rw [hk]; rfl
  have q1 : ((k : Int) == 1) = true := by rw [hk]; rfl
  have q2 : ((k : Int) == 2) = false := by rw [hk]; rfl
  have q3 : ((k : Int) == 3) = false := by rw [hk]; rfl
  have q4 : ((k : Int) == 4) = false := by rw [hk]; rfl
  have q5 : ((k : Int) == 5) = false := by rw [hk]; rfl
  have q6 : ((k : Int) == 6) = false := by rw [hk]; rfl
  have q7 : ((k : Int) == 7) = false := by rw [hk]; rfl
  have qg : (k : Int) ≤ 7 := by omega
  have hl1 : (n : Int) < (len : Int) := by omega
  have hc1 := fun N => old_cell hc (.cells #[.int .u8 (k : Int), .int .u16 (t : Int), .int .u16 (n : Int)] 53) (.cells #[.int .u32 (pc : Int), .int .u32 (pd : Int)] 59) N
  have hc0 := hc1 0
  rw [World.drewN_zero] at hc0
  have hi := fun W => import_c k W
  rw [show impK k = true from by rw [hk]; rfl] at hi
  have HI := Lib.hid hi
  clear hi
  clear hk
  go_enter Try.func28, Try.ntmps28
  go_wp2_with fail
  all_goals (go_wp2_with (first | (go_at_call 47; (with_reducible refine (HI.out _).mono ?_); rintro e w' ⟨rfl, ⟨nd, rfl⟩⟩; (try first | exact ⟨rfl, _, World.drewN_drewN _ _ _⟩ | exact ⟨rfl, _, Eq.trans (World.drewN_drewN _ _ _) (congrArg (World.drewN _) (Nat.add_assoc _ _ _))⟩)))); repeat (go_quiet (first | (go_at_call 47; (with_reducible refine (HI.out _).mono ?_); rintro e w' ⟨rfl, ⟨nd, rfl⟩⟩; (try first | exact ⟨rfl, _, World.drewN_drewN _ _ _⟩ | exact ⟨rfl, _, Eq.trans (World.drewN_drewN _ _ _) (congrArg (World.drewN _) (Nat.add_assoc _ _ _))⟩))); try go_wp2_with (first | (go_at_call 47; (with_reducible refine (HI.out _).mono ?_); rintro e w' ⟨rfl, ⟨nd, rfl⟩⟩; (try first | exact ⟨rfl, _, World.drewN_drewN _ _ _⟩ | exact ⟨rfl, _, Eq.trans (World.drewN_drewN _ _ _) (congrArg (World.drewN _) (Nat.add_assoc _ _ _))⟩))))
  go_ret2
  refine ⟨rfl, ?_⟩
  repeat (first | exact two_allocs _ _ _ | apply below_drewN)
theorem rvnil_4 (k t n pc pd : Nat)  (w : World) (hn : n < 65536) (hpc : pc < 4294967296) (hpd : pd < 4294967296) (hk : k = 4)  :
    Calls Try.prog 28 #[.agg #[.int .u8 (k : Int), .int .u16 (t : Int), .int .u16 (n : Int)], .agg #[.int .u32 (pc : Int), .int .u32 (pd : Int)], .slice none 0 0] w fun e w' => e = .returned (.tuple #[.int .u32 0, .int .i64 2]) ∧ Below w.heap.size w w' := by
  have q0 : ((k : Int) == 0) = false := by rw [hk]; rfl
  have q1 : ((k : Int) == 1) = false := by rw [hk]; rfl
  have q2 : ((k : Int) == 2) = false := by rw [hk]; rfl
  have q3 : ((k : Int) == 3) = false := by rw [hk]; rfl
  have q4 : ((k : Int) == 4) = true := by rw [hk]; rfl
  have q5 : ((k : Int) == 5) = false := by rw [hk]; rfl
  have q6 : ((k : Int) == 6) = false := by rw [hk]; rfl
  have q7 : ((k : Int) == 7) = false := by rw [hk]; rfl
  have qg : (k : Int) ≤ 7 := by omega
  have hi := fun W => import_c k W
  rw [show impK k = true from by rw [hk]; rfl] at hi
  have HI := Lib.hid hi
  clear hi
  clear hk
  go_enter Try.func28, Try.ntmps28
  go_wp2_with fail
  all_goals (go_wp2_with (first | (go_at_call 47; (with_reducible refine (HI.out _).mono ?_); rintro e w' ⟨rfl, ⟨nd, rfl⟩⟩; (try first | exact ⟨rfl, _, World.drewN_drewN _ _ _⟩ | exact ⟨rfl, _, Eq.trans (World.drewN_drewN _ _ _) (congrArg (World.drewN _) (Nat.add_assoc _ _ _))⟩)))); repeat (go_quiet (first | (go_at_call 47; (with_reducible refine (HI.out _).mono ?_); rintro e w' ⟨rfl, ⟨nd, rfl⟩⟩; (try first | exact ⟨rfl, _, World.drewN_drewN _ _ _⟩ | exact ⟨rfl, _, Eq.trans (World.drewN_drewN _ _ _) (congrArg (World.drewN _) (Nat.add_assoc _ _ _))⟩))); try go_wp2_with (first | (go_at_call 47; (with_reducible refine (HI.out _).mono ?_); rintro e w' ⟨rfl, ⟨nd, rfl⟩⟩; (try first | exact ⟨rfl, _, World.drewN_drewN _ _ _⟩ | exact ⟨rfl, _, Eq.trans (World.drewN_drewN _ _ _) (congrArg (World.drewN _) (Nat.add_assoc _ _ _))⟩))))
  go_ret2
  refine ⟨rfl, ?_⟩
  repeat (first | exact two_allocs _ _ _ | apply below_drewN)
theorem rvout_4 (k t n pc pd : Nat) (a : Addr) (len cap : Nat) (w : World) (hn : n < 65536) (hpc : pc < 4294967296) (hpd : pd < 4294967296) (hk : k = 4) (hl : len ≤ n) :
    Calls Try.prog 28 #[.agg #[.int .u8 (k : Int), .int .u16 (t : Int), .int .u16 (n : Int)], .agg #[.int .u32 (pc : Int), .int .u32 (pd : Int)], .slice (some a) len cap] w fun e w' => e = .returned (.tuple #[.int .u32 0, .int .i64 2]) ∧ Below w.heap.size w w' := by
  have q0 : ((k : Int) == 0) = false := by rw [hk]; rfl
  have q1 : ((k : Int) == 1) = false := by rw [hk]; rfl
  have q2 : ((k : Int) == 2) = false := by rw [hk]; rfl
  have q3 : ((k : Int) == 3) = false := by rw [hk]; rfl
  have q4 : ((k : Int) == 4) = true := by rw [hk]; rfl
  have q5 : ((k : Int) == 5) = false := by rw [hk]; rfl
  have q6 : ((k : Int) == 6) = false := by rw [hk]; rfl
  have q7 : ((k : Int) == 7) = false := by rw [hk]; rfl
  have qg : (k : Int) ≤ 7 := by omega
  have hl1 : (len : Int) ≤ (n : Int) := by omega
  have hi := fun W => import_c k W
  rw [show impK k = true from by rw [hk]; rfl] at hi
  have HI := Lib.hid hi
  clear hi
  clear hk
  go_enter Try.func28, Try.ntmps28
  go_wp2_with fail
  all_goals (go_wp2_with (first | (go_at_call 47; (with_reducible refine (HI.out _).mono ?_); rintro e w' ⟨rfl, ⟨nd, rfl⟩⟩; (try first | exact ⟨rfl, _, World.drewN_drewN _ _ _⟩ | exact ⟨rfl, _, Eq.trans (World.drewN_drewN _ _ _) (congrArg (World.drewN _) (Nat.add_assoc _ _ _))⟩)))); repeat (go_quiet (first | (go_at_call 47; (with_reducible refine (HI.out _).mono ?_); rintro e w' ⟨rfl, ⟨nd, rfl⟩⟩; (try first | exact ⟨rfl, _, World.drewN_drewN _ _ _⟩ | exact ⟨rfl, _, Eq.trans (World.drewN_drewN _ _ _) (congrArg (World.drewN _) (Nat.add_assoc _ _ _))⟩))); try go_wp2_with (first | (go_at_call 47; (with_reducible refine (HI.out _).mono ?_); rintro e w' ⟨rfl, ⟨nd, rfl⟩⟩; (try first | exact ⟨rfl, _, World.drewN_drewN _ _ _⟩ | exact ⟨rfl, _, Eq.trans (World.drewN_drewN _ _ _) (congrArg (World.drewN _) (Nat.add_assoc _ _ _))⟩))))
  go_ret2
  refine ⟨rfl, ?_⟩
  repeat (first | exact two_allocs _ _ _ | apply below_drewN)
theorem rvin_4 (k t n pc pd : Nat) (a : Addr) (len cap : Nat) (z : Int) (w : World) (hn : n < 65536) (hpc : pc < 4294967296) (hpd : pd < 4294967296) (hk : k = 4) (hl : n < len) (hc : w.cell? (a.add n) = some (.int .u32 z)) :
    Calls Try.prog 28 #[.agg #[.int .u8 (k : Int), .int .u16 (t : Int), .int .u16 (n : Int)], .agg #[.int .u32 (pc : Int), .int .u32 (pd : Int)], .slice (some a) len cap] w fun e w' => e = .returned (.tuple #[.int .u32 z, .int .i64 0]) ∧ Below w.heap.size w w' := by
  have q0 : ((k : Int) == 0) = false := by rw [hk]; rfl
  have q1 : ((k : Int) == 1) = false := by rw [hk]; rfl
  have q2 : ((k : Int) == 2) = false := by rw [hk]; rfl
  have q3 : ((k : Int) == 3) = false := by rw [hk]; rfl
  have q4 : ((k : Int) == 4) = true := by rw [hk]; rfl
  have q5 : ((k : Int) == 5) = false := by rw [hk]; rfl
  have q6 : ((k : Int) == 6) = false := by rw [hk]; rfl
  have q7 : ((k : Int) == 7) = false := by rw [hk]; rfl
  have qg : (k : Int) ≤ 7 := by omega
  have hl1 : (n : Int) < (len : Int) := by omega
  have hc1 := fun N => old_cell hc (.cells #[.int .u8 (k : Int), .int .u16 (t : Int), .int .u16 (n : Int)] 53) (.cells #[.int .u32 (pc : Int), .int .u32 (pd : Int)] 59) N
  have hc0 := hc1 0
  rw [World.drewN_zero] at hc0
  have hi := fun W => import_c k W
  rw [show impK k = true from by rw [hk]; rfl] at hi
  have HI := Lib.hid hi
  clear hi
  clear hk
  go_enter Try.func28, Try.ntmps28
  go_wp2_with fail
  all_goals (go_wp2_with (first | (go_at_call 47; (with_reducible refine (HI.out _).mono ?_); rintro e w' ⟨rfl, ⟨nd, rfl⟩⟩; (try first | exact ⟨rfl, _, World.drewN_drewN _ _ _⟩ | exact ⟨rfl, _, Eq.trans (World.drewN_drewN _ _ _) (congrArg (World.drewN _) (Nat.add_assoc _ _ _))⟩)))); repeat (go_quiet (first | (go_at_call 47; (with_reducible refine (HI.out _).mono ?_); rintro e w' ⟨rfl, ⟨nd, rfl⟩⟩; (try first | exact ⟨rfl, _, World.drewN_drewN _ _ _⟩ | exact ⟨rfl, _, Eq.trans (World.drewN_drewN _ _ _) (congrArg (World.drewN _) (Nat.add_assoc _ _ _))⟩))); try go_wp2_with (first | (go_at_call 47; (with_reducible refine (HI.out _).mono ?_); rintro e w' ⟨rfl, ⟨nd, rfl⟩⟩; (try first | exact ⟨rfl, _, World.drewN_drewN _ _ _⟩ | exact ⟨rfl, _, Eq.trans (World.drewN_drewN _ _ _) (congrArg (World.drewN _) (Nat.add_assoc _ _ _))⟩))))
  go_ret2
  refine ⟨rfl, ?_⟩
  repeat (first | exact two_allocs _ _ _ | apply below_drewN)
theorem rvadd_2 (k t n pc pd : Nat) (sv : Value) (w : World) (hn : n < 65536) (hpc : pc < 4294967296) (hpd : pd < 4294967296) (hk : k = 2)  :
    Calls Try.prog 28 #[.agg #[.int .u8 (k : Int), .int .u16 (t : Int), .int .u16 (n : Int)], .agg #[.int .u32 (pc : Int), .int .u32 (pd : Int)], sv] w fun e w' => e = .returned (.tuple #[.int .u32 (((pd : Int) + (n : Int)) % 4294967296), .int .i64 0]) ∧ Below w.heap.size w w' := by
  have q0 : ((k : Int) == 0) = false := by rw [hk]; rfl
  have q1 : ((k : Int) == 1) = false := by rw [hk]; rfl
  have q2 : ((k : Int) == 2) = true := by rw [hk]; rfl
  have q3 : ((k : Int) == 3) = false := by rw [hk]; rfl
  have q4 : ((k : Int) == 4) = false := by rw [hk]; rfl
  have q5 : ((k : Int) == 5) = false := by rw [hk]; rfl
  have q6 : ((k : Int) == 6) = false := by rw [hk]; rfl
  have q7 : ((k : Int) == 7) = false := by rw [hk]; rfl
  have qg : (k : Int) ≤ 7 := by omega
  have hi := fun W => import_c k W
  rw [show impK k = false from by rw [hk]; rfl] at hi
  have HI := Lib.hid hi
  clear hi
  clear hk
  go_enter Try.func28, Try.ntmps28
  go_wp2_with fail
  all_goals (go_wp2_with (first | (go_at_call 47; (with_reducible refine (HI.out _).mono ?_); rintro e w' ⟨rfl, ⟨nd, rfl⟩⟩; (try first | exact ⟨rfl, _, World.drewN_drewN _ _ _⟩ | exact ⟨rfl, _, Eq.trans (World.drewN_drewN _ _ _) (congrArg (World.drewN _) (Nat.add_assoc _ _ _))⟩)))); repeat (go_quiet (first | (go_at_call 47; (with_reducible refine (HI.out _).mono ?_); rintro e w' ⟨rfl, ⟨nd, rfl⟩⟩; (try first | exact ⟨rfl, _, World.drewN_drewN _ _ _⟩ | exact ⟨rfl, _, Eq.trans (World.drewN_drewN _ _ _) (congrArg (World.drewN _) (Nat.add_assoc _ _ _))⟩))); try go_wp2_with (first | (go_at_call 47; (with_reducible refine (HI.out _).mono ?_); rintro e w' ⟨rfl, ⟨nd, rfl⟩⟩; (try first | exact ⟨rfl, _, World.drewN_drewN _ _ _⟩ | exact ⟨rfl, _, Eq.trans (World.drewN_drewN _ _ _) (congrArg (World.drewN _) (Nat.add_assoc _ _ _))⟩))))
  go_ret2
  refine ⟨rfl, ?_⟩
  repeat (first | exact two_allocs _ _ _ | apply below_drewN)
theorem rvadd_5 (k t n pc pd : Nat) (sv : Value) (w : World) (hn : n < 65536) (hpc : pc < 4294967296) (hpd : pd < 4294967296) (hk : k = 5)  :
    Calls Try.prog 28 #[.agg #[.int .u8 (k : Int), .int .u16 (t : Int), .int .u16 (n : Int)], .agg #[.int .u32 (pc : Int), .int .u32 (pd : Int)], sv] w fun e w' => e = .returned (.tuple #[.int .u32 (((pd : Int) + (n : Int)) % 4294967296), .int .i64 0]) ∧ Below w.heap.size w w' := by
  have q0 : ((k : Int) == 0) = false := by rw [hk]; rfl
  have q1 : ((k : Int) == 1) = false := by rw [hk]; rfl
  have q2 : ((k : Int) == 2) = false := by rw [hk]; rfl
  have q3 : ((k : Int) == 3) = false := by rw [hk]; rfl
  have q4 : ((k : Int) == 4) = false := by rw [hk]; rfl
  have q5 : ((k : Int) == 5) = true := by rw [hk]; rfl
  have q6 : ((k : Int) == 6) = false := by rw [hk]; rfl
  have q7 : ((k : Int) == 7) = false := by rw [hk]; rfl
  have qg : (k : Int) ≤ 7 := by omega
  have hi := fun W => import_c k W
  rw [show impK k = false from by rw [hk]; rfl] at hi
  have HI := Lib.hid hi
  clear hi
  clear hk
  go_enter Try.func28, Try.ntmps28
  go_wp2_with fail
  all_goals (go_wp2_with (first | (go_at_call 47; (with_reducible refine (HI.out _).mono ?_); rintro e w' ⟨rfl, ⟨nd, rfl⟩⟩; (try first | exact ⟨rfl, _, World.drewN_drewN _ _ _⟩ | exact ⟨rfl, _, Eq.trans (World.drewN_drewN _ _ _) (congrArg (World.drewN _) (Nat.add_assoc _ _ _))⟩)))); repeat (go_quiet (first | (go_at_call 47; (with_reducible refine (HI.out _).mono ?_); rintro e w' ⟨rfl, ⟨nd, rfl⟩⟩; (try first | exact ⟨rfl, _, World.drewN_drewN _ _ _⟩ | exact ⟨rfl, _, Eq.trans (World.drewN_drewN _ _ _) (congrArg (World.drewN _) (Nat.add_assoc _ _ _))⟩))); try go_wp2_with (first | (go_at_call 47; (with_reducible refine (HI.out _).mono ?_); rintro e w' ⟨rfl, ⟨nd, rfl⟩⟩; (try first | exact ⟨rfl, _, World.drewN_drewN _ _ _⟩ | exact ⟨rfl, _, Eq.trans (World.drewN_drewN _ _ _) (congrArg (World.drewN _) (Nat.add_assoc _ _ _))⟩))))
  go_ret2
  refine ⟨rfl, ?_⟩
  repeat (first | exact two_allocs _ _ _ | apply below_drewN)
theorem rvadd_3 (k t n pc pd : Nat) (sv : Value) (w : World) (hn : n < 65536) (hpc : pc < 4294967296) (hpd : pd < 4294967296) (hk : k = 3)  :
    Calls Try.prog 28 #[.agg #[.int .u8 (k : Int), .int .u16 (t : Int), .int .u16 (n : Int)], .agg #[.int .u32 (pc : Int), .int .u32 (pd : Int)], sv] w fun e w' => e = .returned (.tuple #[.int .u32 (((pc : Int) + (n : Int)) % 4294967296), .int .i64 0]) ∧ Below w.heap.size w w' := by
  have q0 : ((k : Int) == 0) = false := by rw [hk]; rfl
  have q1 : ((k : Int) == 1) = false := by rw [hk]; rfl
  have q2 : ((k : Int) == 2) = false := by rw [hk]; rfl
  have q3 : ((k : Int) == 3) = true := by rw [hk]; rfl
  have q4 : ((k : Int) == 4) = false := by rw [hk]; rfl
  have q5 : ((k : Int) == 5) = false := by rw [hk]; rfl
  have q6 : ((k : Int) == 6) = false := by rw [hk]; rfl
  have q7 : ((k : Int) == 7) = false := by rw [hk]; rfl
  have qg : (k : Int) ≤ 7 := by omega
  have hi := fun W => import_c k W
  rw [show impK k = false from by rw [hk]; rfl] at hi
  have HI := Lib.hid hi
  clear hi
  clear hk
  go_enter Try.func28, Try.ntmps28
  go_wp2_with fail
  all_goals (go_wp2_with (first | (go_at_call 47; (with_reducible refine (HI.out _).mono ?_); rintro e w' ⟨rfl, ⟨nd, rfl⟩⟩; (try first | exact ⟨rfl, _, World.drewN_drewN _ _ _⟩ | exact ⟨rfl, _, Eq.trans (World.drewN_drewN _ _ _) (congrArg (World.drewN _) (Nat.add_assoc _ _ _))⟩)))); repeat (go_quiet (first | (go_at_call 47; (with_reducible refine (HI.out _).mono ?_); rintro e w' ⟨rfl, ⟨nd, rfl⟩⟩; (try first | exact ⟨rfl, _, World.drewN_drewN _ _ _⟩ | exact ⟨rfl, _, Eq.trans (World.drewN_drewN _ _ _) (congrArg (World.drewN _) (Nat.add_assoc _ _ _))⟩))); try go_wp2_with (first | (go_at_call 47; (with_reducible refine (HI.out _).mono ?_); rintro e w' ⟨rfl, ⟨nd, rfl⟩⟩; (try first | exact ⟨rfl, _, World.drewN_drewN _ _ _⟩ | exact ⟨rfl, _, Eq.trans (World.drewN_drewN _ _ _) (congrArg (World.drewN _) (Nat.add_assoc _ _ _))⟩))))
  go_ret2
  refine ⟨rfl, ?_⟩
  repeat (first | exact two_allocs _ _ _ | apply below_drewN)
theorem rvadd_6 (k t n pc pd : Nat) (sv : Value) (w : World) (hn : n < 65536) (hpc : pc < 4294967296) (hpd : pd < 4294967296) (hk : k = 6)  :
    Calls Try.prog 28 #[.agg #[.int .u8 (k : Int), .int .u16 (t : Int), .int .u16 (n : Int)], .agg #[.int .u32 (pc : Int), .int .u32 (pd : Int)], sv] w fun e w' => e = .returned (.tuple #[.int .u32 (((pc : Int) + (n : Int)) % 4294967296), .int .i64 0]) ∧ Below w.heap.size w w' := by
  have q0 : ((k : Int) == 0) = false := by rw [hk]; rfl
  have q1 : ((k : Int) == 1) = false := by rw [hk]; rfl
  have q2 : ((k : Int) == 2) = false := by rw [hk]; rfl
  have q3 : ((k : Int) == 3) = false := by rw [hk]; rfl
  have q4 : ((k : Int) == 4) = false := by rw [hk]; rfl
  have q5 : ((k : Int) == 5) = false := by rw [hk]; rfl
  have q6 : ((k : Int) == 6) = true := by rw [hk]; rfl
  have q7 : ((k : Int) == 7) = false := by rw [hk]; rfl
  have qg : (k : Int) ≤ 7 := by omega
  have hi := fun W => import_c k W
  rw [show impK k = false from by rw [hk]; rfl] at hi
  have HI := Lib.hid hi
  clear hi
  clear hk
  go_enter Try.func28, Try.ntmps28
  go_wp2_with fail
  all_goals (go_wp2_with (first | (go_at_call 47; (with_reducible refine (HI.out _).mono ?_); rintro e w' ⟨rfl, ⟨nd, rfl⟩⟩; (try first | exact ⟨rfl, _, World.drewN_drewN _ _ _⟩ | exact ⟨rfl, _, Eq.trans (World.drewN_drewN _ _ _) (congrArg (World.drewN _) (Nat.add_assoc _ _ _))⟩)))); repeat (go_quiet (first | (go_at_call 47; (with_reducible refine (HI.out _).mono ?_); rintro e w' ⟨rfl, ⟨nd, rfl⟩⟩; (try first | exact ⟨rfl, _, World.drewN_drewN _ _ _⟩ | exact ⟨rfl, _, Eq.trans (World.drewN_drewN _ _ _) (congrArg (World.drewN _) (Nat.add_assoc _ _ _))⟩))); try go_wp2_with (first | (go_at_call 47; (with_reducible refine (HI.out _).mono ?_); rintro e w' ⟨rfl, ⟨nd, rfl⟩⟩; (try first | exact ⟨rfl, _, World.drewN_drewN _ _ _⟩ | exact ⟨rfl, _, Eq.trans (World.drewN_drewN _ _ _) (congrArg (World.drewN _) (Nat.add_assoc _ _ _))⟩))))
  go_ret2
  refine ⟨rfl, ?_⟩
  repeat (first | exact two_allocs _ _ _ | apply below_drewN)
theorem rvadd_7 (k t n pc pd : Nat) (sv : Value) (w : World) (hn : n < 65536) (hpc : pc < 4294967296) (hpd : pd < 4294967296) (hk : k = 7)  :
    Calls Try.prog 28 #[.agg #[.int .u8 (k : Int), .int .u16 (t : Int), .int .u16 (n : Int)], .agg #[.int .u32 (pc : Int), .int .u32 (pd : Int)], sv] w fun e w' => e = .returned (.tuple #[.int .u32 (((pc : Int) + (n : Int)) % 4294967296), .int .i64 0]) ∧ Below w.heap.size w w' := by
  have q0 : ((k : Int) == 0) = false := by rw [hk]; rfl
  have q1 : ((k : Int) == 1) = false := by rw [hk]; rfl
  have q2 : ((k : Int) == 2) = false := by rw [hk]; rfl
  have q3 : ((k : Int) == 3) = false := by rw [hk]; rfl
  have q4 : ((k : Int) == 4) = false := by rw [hk]; rfl
  have q5 : ((k : Int) == 5) = false := by rw [hk]; rfl
  have q6 : ((k : Int) == 6) = false := by rw [hk]; rfl
  have q7 : ((k : Int) == 7) = true := by rw [hk]; rfl
  have qg : (k : Int) ≤ 7 := by omega
  have hi := fun W => import_c k W
  rw [show impK k = false from by rw [hk]; rfl] at hi
  have HI := Lib.hid hi
  clear hi
  clear hk
  go_enter Try.func28, Try.ntmps28
  go_wp2_with fail
  all_goals (go_wp2_with (first | (go_at_call 47; (with_reducible refine (HI.out _).mono ?_); rintro e w' ⟨rfl, ⟨nd, rfl⟩⟩; (try first | exact ⟨rfl, _, World.drewN_drewN _ _ _⟩ | exact ⟨rfl, _, Eq.trans (World.drewN_drewN _ _ _) (congrArg (World.drewN _) (Nat.add_assoc _ _ _))⟩)))); repeat (go_quiet (first | (go_at_call 47; (with_reducible refine (HI.out _).mono ?_); rintro e w' ⟨rfl, ⟨nd, rfl⟩⟩; (try first | exact ⟨rfl, _, World.drewN_drewN _ _ _⟩ | exact ⟨rfl, _, Eq.trans (World.drewN_drewN _ _ _) (congrArg (World.drewN _) (Nat.add_assoc _ _ _))⟩))); try go_wp2_with (first | (go_at_call 47; (with_reducible refine (HI.out _).mono ?_); rintro e w' ⟨rfl, ⟨nd, rfl⟩⟩; (try first | exact ⟨rfl, _, World.drewN_drewN _ _ _⟩ | exact ⟨rfl, _, Eq.trans (World.drewN_drewN _ _ _) (congrArg (World.drewN _) (Nat.add_assoc _ _ _))⟩))))
  go_ret2
  refine ⟨rfl, ?_⟩
  repeat (first | exact two_allocs _ _ _ | apply below_drewN)
theorem rvbig_8 (k t n pc pd : Nat) (sv : Value) (w : World) (hn : n < 65536) (hpc : pc < 4294967296) (hpd : pd < 4294967296) (hk : 7 < k)  :
    Calls Try.prog 28 #[.agg #[.int .u8 (k : Int), .int .u16 (t : Int), .int .u16 (n : Int)], .agg #[.int .u32 (pc : Int), .int .u32 (pd : Int)], sv] w fun e w' => e = .returned (.tuple #[.int .u32 0, .int .i64 2]) ∧ Below w.heap.size w w' := by
  have q0 : ((k : Int) == 0) = false := by rw [beq_eq_false_iff_ne]; omega
  have q1 : ((k : Int) == 1) = false := by rw [beq_eq_false_iff_ne]; omega
  have q2 : ((k : Int) == 2) = false := by rw [beq_eq_false_iff_ne]; omega
  have q3 : ((k : Int) == 3) = false := by rw [beq_eq_false_iff_ne]; omega
  have q4 : ((k : Int) == 4) = false := by rw [beq_eq_false_iff_ne]; omega
  have q5 : ((k : Int) == 5) = false := by rw [beq_eq_false_iff_ne]; omega
  have q6 : ((k : Int) == 6) = false := by rw [beq_eq_false_iff_ne]; omega
  have q7 : ((k : Int) == 7) = false := by rw [beq_eq_false_iff_ne]; omega
  have qg : (7 : Int) < (k : Int) := by omega
  clear hk
  go_enter Try.func28, Try.ntmps28
  go_wp2_with fail
  go_ret2
  refine ⟨rfl, ?_⟩
  repeat (first | exact two_allocs _ _ _ | apply below_drewN)
end Go.Proofs.Ytgnminoiddnheaa.R5
