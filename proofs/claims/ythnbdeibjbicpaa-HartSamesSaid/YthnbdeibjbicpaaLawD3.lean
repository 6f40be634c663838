/- HartSames walked. Conditions: the harts' cells. -/
import Derived.Test.YthnbdeibjbicpaaLawD2
import Derived.Test.YthnbdeibjbicpaaHartR3
namespace Go.Proofs.Ythnbdeibjbicpaa.PM
set_option linter.unusedVariables false
set_option linter.unusedSimpArgs false
open Go.RowKit
set_option maxRecDepth 100000 in
set_option maxHeartbeats 16000000 in
theorem law_hsames (p1 : Nat) (R1 : Nat → Nat) (s1 : Option Addr) (S1 : List Nat) (c1 y1 e1 m1 p2 : Nat) (R2 : Nat → Nat) (s2 : Option Addr) (S2 : List Nat) (c2 y2 e2 m2 hm : Nat) (w : World) (h1 : Stk w s1 S1) (h2 : Stk w s2 S2) (n1 : S1.length < 35184372088832) :
    Calls Try.prog 3 #[.agg #[.int .u32 (p1 : Int), .int .u32 (R1 0 : Int), .int .u32 (R1 1 : Int), .int .u32 (R1 2 : Int), .int .u32 (R1 3 : Int), .int .u32 (R1 4 : Int), .int .u32 (R1 5 : Int), .int .u32 (R1 6 : Int), .int .u32 (R1 7 : Int), .slice s1 S1.length c1, .int .u8 (y1 : Int), .int .u64 (e1 : Int), .int .u32 (m1 : Int)], .agg #[.int .u32 (p2 : Int), .int .u32 (R2 0 : Int), .int .u32 (R2 1 : Int), .int .u32 (R2 2 : Int), .int .u32 (R2 3 : Int), .int .u32 (R2 4 : Int), .int .u32 (R2 5 : Int), .int .u32 (R2 6 : Int), .int .u32 (R2 7 : Int), .slice s2 S2.length c2, .int .u8 (y2 : Int), .int .u64 (e2 : Int), .int .u32 (m2 : Int)], .int .u32 (hm : Int)] w fun e w' => e = .returned (.bool true) ∧ Below w.heap.size w w' := by
  have n1' : S1.length ≤ 35184372088832 := by omega
  have CC : ∀ W, Stk W s1 S1 → Calls Try.prog 9 #[.agg #[.int .u32 (p1 : Int), .int .u32 (R1 0 : Int), .int .u32 (R1 1 : Int), .int .u32 (R1 2 : Int), .int .u32 (R1 3 : Int), .int .u32 (R1 4 : Int), .int .u32 (R1 5 : Int), .int .u32 (R1 6 : Int), .int .u32 (R1 7 : Int), .slice s1 S1.length c1, .int .u8 (y1 : Int), .int .u64 (e1 : Int), .int .u32 (m1 : Int)]] W fun e w' => Copied9 W p1 R1 y1 e1 m1 S1 e w' := fun W q => copy_c W p1 R1 s1 c1 y1 e1 m1 S1 q n1'
  have RC : ∀ W, Stk W s1 S1 → Calls Try.prog 14 #[.agg #[.int .u32 (p1 : Int), .int .u32 (R1 0 : Int), .int .u32 (R1 1 : Int), .int .u32 (R1 2 : Int), .int .u32 (R1 3 : Int), .int .u32 (R1 4 : Int), .int .u32 (R1 5 : Int), .int .u32 (R1 6 : Int), .int .u32 (R1 7 : Int), .slice s1 S1.length c1, .int .u8 (y1 : Int), .int .u64 (e1 : Int), .int .u32 (m1 : Int)]] W fun e w' => Copied9 W p1 R1 y1 e1 m1 S1 e w' := fun W q => rcopy_c W p1 R1 s1 c1 y1 e1 m1 S1 q n1
  obtain ⟨q, hq⟩ : ∃ q, sameH p1 R1 S1 y1 e1 m1 p2 R2 S2 y2 e2 m2 = q := ⟨_, rfl⟩
  have SAB : ∀ W, Stk W s1 S1 → Stk W s2 S2 → Calls Try.prog 10 #[.agg #[.int .u32 (p1 : Int), .int .u32 (R1 0 : Int), .int .u32 (R1 1 : Int), .int .u32 (R1 2 : Int), .int .u32 (R1 3 : Int), .int .u32 (R1 4 : Int), .int .u32 (R1 5 : Int), .int .u32 (R1 6 : Int), .int .u32 (R1 7 : Int), .slice s1 S1.length c1, .int .u8 (y1 : Int), .int .u64 (e1 : Int), .int .u32 (m1 : Int)], .agg #[.int .u32 (p2 : Int), .int .u32 (R2 0 : Int), .int .u32 (R2 1 : Int), .int .u32 (R2 2 : Int), .int .u32 (R2 3 : Int), .int .u32 (R2 4 : Int), .int .u32 (R2 5 : Int), .int .u32 (R2 6 : Int), .int .u32 (R2 7 : Int), .slice s2 S2.length c2, .int .u8 (y2 : Int), .int .u64 (e2 : Int), .int .u32 (m2 : Int)]] W fun e w' => e = .returned (.bool q) ∧ Below W.heap.size W w' := fun W a b => hq ▸ same_h W p1 R1 S1 y1 e1 m1 p2 R2 S2 y2 e2 m2 s1 s2 c1 c2 a b n1
  have RAB : ∀ W, Stk W s1 S1 → Stk W s2 S2 → Calls Try.prog 11 #[.agg #[.int .u32 (p1 : Int), .int .u32 (R1 0 : Int), .int .u32 (R1 1 : Int), .int .u32 (R1 2 : Int), .int .u32 (R1 3 : Int), .int .u32 (R1 4 : Int), .int .u32 (R1 5 : Int), .int .u32 (R1 6 : Int), .int .u32 (R1 7 : Int), .slice s1 S1.length c1, .int .u8 (y1 : Int), .int .u64 (e1 : Int), .int .u32 (m1 : Int)], .agg #[.int .u32 (p2 : Int), .int .u32 (R2 0 : Int), .int .u32 (R2 1 : Int), .int .u32 (R2 2 : Int), .int .u32 (R2 3 : Int), .int .u32 (R2 4 : Int), .int .u32 (R2 5 : Int), .int .u32 (R2 6 : Int), .int .u32 (R2 7 : Int), .slice s2 S2.length c2, .int .u8 (y2 : Int), .int .u64 (e2 : Int), .int .u32 (m2 : Int)]] W fun e w' => e = .returned (.bool q) ∧ Below W.heap.size W w' := fun W a b => hq ▸ rsame_h W p1 R1 S1 y1 e1 m1 p2 R2 S2 y2 e2 m2 s1 s2 c1 c2 a b n1
  have SCA : ∀ W s3 c3, Stk W s3 S1 → Stk W s1 S1 → Calls Try.prog 10 #[.agg #[.int .u32 (p1 : Int), .int .u32 (R1 0 : Int), .int .u32 (R1 1 : Int), .int .u32 (R1 2 : Int), .int .u32 (R1 3 : Int), .int .u32 (R1 4 : Int), .int .u32 (R1 5 : Int), .int .u32 (R1 6 : Int), .int .u32 (R1 7 : Int), .slice s3 S1.length c3, .int .u8 (y1 : Int), .int .u64 (e1 : Int), .int .u32 (m1 : Int)], .agg #[.int .u32 (p1 : Int), .int .u32 (R1 0 : Int), .int .u32 (R1 1 : Int), .int .u32 (R1 2 : Int), .int .u32 (R1 3 : Int), .int .u32 (R1 4 : Int), .int .u32 (R1 5 : Int), .int .u32 (R1 6 : Int), .int .u32 (R1 7 : Int), .slice s1 S1.length c1, .int .u8 (y1 : Int), .int .u64 (e1 : Int), .int .u32 (m1 : Int)]] W fun e w' => e = .returned (.bool true) ∧ Below W.heap.size W w' := fun W s3 c3 a b => sameH_refl p1 R1 S1 y1 e1 m1 ▸ same_h W p1 R1 S1 y1 e1 m1 p1 R1 S1 y1 e1 m1 s3 s1 c3 c1 a b n1
  have RAW : ∀ W s4 c4, Stk W s1 S1 → Stk W s4 S1 → Calls Try.prog 11 #[.agg #[.int .u32 (p1 : Int), .int .u32 (R1 0 : Int), .int .u32 (R1 1 : Int), .int .u32 (R1 2 : Int), .int .u32 (R1 3 : Int), .int .u32 (R1 4 : Int), .int .u32 (R1 5 : Int), .int .u32 (R1 6 : Int), .int .u32 (R1 7 : Int), .slice s1 S1.length c1, .int .u8 (y1 : Int), .int .u64 (e1 : Int), .int .u32 (m1 : Int)], .agg #[.int .u32 (p1 : Int), .int .u32 (R1 0 : Int), .int .u32 (R1 1 : Int), .int .u32 (R1 2 : Int), .int .u32 (R1 3 : Int), .int .u32 (R1 4 : Int), .int .u32 (R1 5 : Int), .int .u32 (R1 6 : Int), .int .u32 (R1 7 : Int), .slice s4 S1.length c4, .int .u8 (y1 : Int), .int .u64 (e1 : Int), .int .u32 (m1 : Int)]] W fun e w' => e = .returned (.bool true) ∧ Below W.heap.size W w' := fun W s4 c4 a b => sameH_refl p1 R1 S1 y1 e1 m1 ▸ rsame_h W p1 R1 S1 y1 e1 m1 p1 R1 S1 y1 e1 m1 s1 s4 c1 c4 a b n1
  have HN : ∀ W, Calls Try.prog 12 #[.int .u32 (hm : Int)] W fun e w' => e = .returned (.agg #[.int .u32 (hm : Int), .int .u32 0, .int .u32 0, .int .u32 0, .int .u32 0, .int .u32 0, .int .u32 0, .int .u32 0, .int .u32 0, .slice none 0 0, .int .u8 0, .int .u64 0, .int .u32 (hm : Int)]) ∧ Below W.heap.size W w' := fun W => hnew_c W hm
  have RN : ∀ W, Calls Try.prog 13 #[.int .u32 (hm : Int)] W fun e w' => e = .returned (.agg #[.int .u32 (hm : Int), .int .u32 0, .int .u32 0, .int .u32 0, .int .u32 0, .int .u32 0, .int .u32 0, .int .u32 0, .int .u32 0, .slice none 0 0, .int .u8 0, .int .u64 0, .int .u32 (hm : Int)]) ∧ Below W.heap.size W w' := fun W => rhnew_c W hm
  have RNN : ∀ W, Calls Try.prog 11 #[.agg #[.int .u32 (hm : Int), .int .u32 0, .int .u32 0, .int .u32 0, .int .u32 0, .int .u32 0, .int .u32 0, .int .u32 0, .int .u32 0, .slice none 0 0, .int .u8 0, .int .u64 0, .int .u32 (hm : Int)], .agg #[.int .u32 (hm : Int), .int .u32 0, .int .u32 0, .int .u32 0, .int .u32 0, .int .u32 0, .int .u32 0, .int .u32 0, .int .u32 0, .slice none 0 0, .int .u8 0, .int .u64 0, .int .u32 (hm : Int)]] W fun e w' => e = .returned (.bool true) ∧ Below W.heap.size W w' := fun W => sameH_refl hm (fun _ => 0) [] 0 0 hm ▸ rsame_h W hm (fun _ => 0) [] 0 0 hm hm (fun _ => 0) [] 0 0 hm none none 0 0 Stk.nil Stk.nil (by decide)
  clear hq n1'
  replace CC := Lib.hid CC
  replace RC := Lib.hid RC
  replace SAB := Lib.hid SAB
  replace RAB := Lib.hid RAB
  replace SCA := Lib.hid SCA
  replace RAW := Lib.hid RAW
  replace HN := Lib.hid HN
  replace RN := Lib.hid RN
  replace RNN := Lib.hid RNN
  generalize hW : (w.alloc (.cells #[.int .u32 (p1 : Int), .int .u32 (R1 0 : Int), .int .u32 (R1 1 : Int), .int .u32 (R1 2 : Int), .int .u32 (R1 3 : Int), .int .u32 (R1 4 : Int), .int .u32 (R1 5 : Int), .int .u32 (R1 6 : Int), .int .u32 (R1 7 : Int), .slice s1 S1.length c1, .int .u8 (y1 : Int), .int .u64 (e1 : Int), .int .u32 (m1 : Int)] 28)).alloc (.cells #[.int .u32 (p2 : Int), .int .u32 (R2 0 : Int), .int .u32 (R2 1 : Int), .int .u32 (R2 2 : Int), .int .u32 (R2 3 : Int), .int .u32 (R2 4 : Int), .int .u32 (R2 5 : Int), .int .u32 (R2 6 : Int), .int .u32 (R2 7 : Int), .slice s2 S2.length c2, .int .u8 (y2 : Int), .int .u64 (e2 : Int), .int .u32 (m2 : Int)] 28) = W0
  have KA : Hid (Blk W0 w.heap.size 28 #[.int .u32 (p1 : Int), .int .u32 (R1 0 : Int), .int .u32 (R1 1 : Int), .int .u32 (R1 2 : Int), .int .u32 (R1 3 : Int), .int .u32 (R1 4 : Int), .int .u32 (R1 5 : Int), .int .u32 (R1 6 : Int), .int .u32 (R1 7 : Int), .slice s1 S1.length c1, .int .u8 (y1 : Int), .int .u64 (e1 : Int), .int .u32 (m1 : Int)]) := Lib.hid (hW ▸ (Blk.new w 28 #[.int .u32 (p1 : Int), .int .u32 (R1 0 : Int), .int .u32 (R1 1 : Int), .int .u32 (R1 2 : Int), .int .u32 (R1 3 : Int), .int .u32 (R1 4 : Int), .int .u32 (R1 5 : Int), .int .u32 (R1 6 : Int), .int .u32 (R1 7 : Int), .slice s1 S1.length c1, .int .u8 (y1 : Int), .int .u64 (e1 : Int), .int .u32 (m1 : Int)]).alloc _)
  have KB : Hid (Blk W0 (w.heap.size + 1) 28 #[.int .u32 (p2 : Int), .int .u32 (R2 0 : Int), .int .u32 (R2 1 : Int), .int .u32 (R2 2 : Int), .int .u32 (R2 3 : Int), .int .u32 (R2 4 : Int), .int .u32 (R2 5 : Int), .int .u32 (R2 6 : Int), .int .u32 (R2 7 : Int), .slice s2 S2.length c2, .int .u8 (y2 : Int), .int .u64 (e2 : Int), .int .u32 (m2 : Int)]) := Lib.hid (by
    have k := Blk.new (w.alloc (.cells #[.int .u32 (p1 : Int), .int .u32 (R1 0 : Int), .int .u32 (R1 1 : Int), .int .u32 (R1 2 : Int), .int .u32 (R1 3 : Int), .int .u32 (R1 4 : Int), .int .u32 (R1 5 : Int), .int .u32 (R1 6 : Int), .int .u32 (R1 7 : Int), .slice s1 S1.length c1, .int .u8 (y1 : Int), .int .u64 (e1 : Int), .int .u32 (m1 : Int)] 28)) 28 #[.int .u32 (p2 : Int), .int .u32 (R2 0 : Int), .int .u32 (R2 1 : Int), .int .u32 (R2 2 : Int), .int .u32 (R2 3 : Int), .int .u32 (R2 4 : Int), .int .u32 (R2 5 : Int), .int .u32 (R2 6 : Int), .int .u32 (R2 7 : Int), .slice s2 S2.length c2, .int .u8 (y2 : Int), .int .u64 (e2 : Int), .int .u32 (m2 : Int)]
    have e : (w.alloc (.cells #[.int .u32 (p1 : Int), .int .u32 (R1 0 : Int), .int .u32 (R1 1 : Int), .int .u32 (R1 2 : Int), .int .u32 (R1 3 : Int), .int .u32 (R1 4 : Int), .int .u32 (R1 5 : Int), .int .u32 (R1 6 : Int), .int .u32 (R1 7 : Int), .slice s1 S1.length c1, .int .u8 (y1 : Int), .int .u64 (e1 : Int), .int .u32 (m1 : Int)] 28)).heap.size = w.heap.size + 1 := by simp
    rw [e] at k
    exact hW ▸ k)
  have B0 : Hid (Below w.heap.size w W0) := Lib.hid (hW ▸ ((Below.refl _ w).alloc (Nat.le_refl _) _).alloc (by simp) _)
  have Z0 : Hid (W0.heap.size = w.heap.size + 2) := Lib.hid (hW ▸ by simp)
  have H1 := Lib.hid h1
  have H2 := Lib.hid h2
  have N1 := Lib.hid n1
  have KW := Lib.hid hW
  clear h1 h2 n1 hW
  go_enter Try.func3, Try.ntmps3
  go_wp2_with fail
  (try rw [KW.out])
  refine (CC.out _ (H1.out.kept B0.out)).mono ?_
  rintro e w1 ⟨s, rfl, ow, hb⟩
  obtain ⟨s3, c3, rfl, _⟩ := ow.form
  have O1 := Lib.hid ow
  have B1 := Lib.hid hb
  clear ow hb
  generalize hW1 : w1.alloc (.cells #[.int .u32 (p1 : Int), .int .u32 (R1 0 : Int), .int .u32 (R1 1 : Int), .int .u32 (R1 2 : Int), .int .u32 (R1 3 : Int), .int .u32 (R1 4 : Int), .int .u32 (R1 5 : Int), .int .u32 (R1 6 : Int), .int .u32 (R1 7 : Int), .slice s3 S1.length c3, .int .u8 (y1 : Int), .int .u64 (e1 : Int), .int .u32 (m1 : Int)] 28) = W1
  have KC : Hid (Blk W1 w1.heap.size 28 #[.int .u32 (p1 : Int), .int .u32 (R1 0 : Int), .int .u32 (R1 1 : Int), .int .u32 (R1 2 : Int), .int .u32 (R1 3 : Int), .int .u32 (R1 4 : Int), .int .u32 (R1 5 : Int), .int .u32 (R1 6 : Int), .int .u32 (R1 7 : Int), .slice s3 S1.length c3, .int .u8 (y1 : Int), .int .u64 (e1 : Int), .int .u32 (m1 : Int)]) := Lib.hid (hW1 ▸ Blk.new w1 _ _)
  have KA1 : Hid (Blk W1 w.heap.size 28 #[.int .u32 (p1 : Int), .int .u32 (R1 0 : Int), .int .u32 (R1 1 : Int), .int .u32 (R1 2 : Int), .int .u32 (R1 3 : Int), .int .u32 (R1 4 : Int), .int .u32 (R1 5 : Int), .int .u32 (R1 6 : Int), .int .u32 (R1 7 : Int), .slice s1 S1.length c1, .int .u8 (y1 : Int), .int .u64 (e1 : Int), .int .u32 (m1 : Int)]) := Lib.hid (hW1 ▸ (KA.out.kept B1.out).alloc _)
  have KB1 : Hid (Blk W1 (w.heap.size + 1) 28 #[.int .u32 (p2 : Int), .int .u32 (R2 0 : Int), .int .u32 (R2 1 : Int), .int .u32 (R2 2 : Int), .int .u32 (R2 3 : Int), .int .u32 (R2 4 : Int), .int .u32 (R2 5 : Int), .int .u32 (R2 6 : Int), .int .u32 (R2 7 : Int), .slice s2 S2.length c2, .int .u8 (y2 : Int), .int .u64 (e2 : Int), .int .u32 (m2 : Int)]) := Lib.hid (hW1 ▸ (KB.out.kept B1.out).alloc _)
  have BB : Hid (Below w1.heap.size w1 W1) := Lib.hid (hW1 ▸ (Below.refl _ w1).alloc (Nat.le_refl _) _)
  have O2 : Hid (Own W1 W0.heap.size (.slice s3 S1.length c3) S1) := Lib.hid (O1.out.kept BB.out)
  have BW : Hid (Below w.heap.size w W1) := Lib.hid ((B0.out.trans (B1.out.mono B0.out.size)).trans (BB.out.mono (Nat.le_trans B0.out.size B1.out.size)))
  have TX := Lib.hid (blk39 (KA1.out.drewN 1) (KB1.out.drewN 1) (KC.out.drewN 1))
  have KW1 := Lib.hid hW1
  clear hW1
  go_wp2_with fail
  (try rw [KW1.out])
  have B2 := Lib.hid (below_drewN (Below.refl W1.heap.size W1) 1)
  go_region_held3 (fun w' => w'.cell? ⟨w.heap.size, 0, none⟩ = some (.int .u32 (p1 : Int)) ∧ w'.cell? ⟨w.heap.size, 1, none⟩ = some (.int .u32 (R1 0 : Int)) ∧ w'.cell? ⟨w.heap.size, 2, none⟩ = some (.int .u32 (R1 1 : Int)) ∧ w'.cell? ⟨w.heap.size, 3, none⟩ = some (.int .u32 (R1 2 : Int)) ∧ w'.cell? ⟨w.heap.size, 4, none⟩ = some (.int .u32 (R1 3 : Int)) ∧ w'.cell? ⟨w.heap.size, 5, none⟩ = some (.int .u32 (R1 4 : Int)) ∧ w'.cell? ⟨w.heap.size, 6, none⟩ = some (.int .u32 (R1 5 : Int)) ∧ w'.cell? ⟨w.heap.size, 7, none⟩ = some (.int .u32 (R1 6 : Int)) ∧ w'.cell? ⟨w.heap.size, 8, none⟩ = some (.int .u32 (R1 7 : Int)) ∧ w'.cell? ⟨w.heap.size, 9, none⟩ = some (.slice s1 S1.length c1) ∧ w'.cell? ⟨w.heap.size, 10, none⟩ = some (.int .u8 (y1 : Int)) ∧ w'.cell? ⟨w.heap.size, 11, none⟩ = some (.int .u64 (e1 : Int)) ∧ w'.cell? ⟨w.heap.size, 12, none⟩ = some (.int .u32 (m1 : Int)) ∧ w'.cell? ⟨w.heap.size + 1, 0, none⟩ = some (.int .u32 (p2 : Int)) ∧ w'.cell? ⟨w.heap.size + 1, 1, none⟩ = some (.int .u32 (R2 0 : Int)) ∧ w'.cell? ⟨w.heap.size + 1, 2, none⟩ = some (.int .u32 (R2 1 : Int)) ∧ w'.cell? ⟨w.heap.size + 1, 3, none⟩ = some (.int .u32 (R2 2 : Int)) ∧ w'.cell? ⟨w.heap.size + 1, 4, none⟩ = some (.int .u32 (R2 3 : Int)) ∧ w'.cell? ⟨w.heap.size + 1, 5, none⟩ = some (.int .u32 (R2 4 : Int)) ∧ w'.cell? ⟨w.heap.size + 1, 6, none⟩ = some (.int .u32 (R2 5 : Int)) ∧ w'.cell? ⟨w.heap.size + 1, 7, none⟩ = some (.int .u32 (R2 6 : Int)) ∧ w'.cell? ⟨w.heap.size + 1, 8, none⟩ = some (.int .u32 (R2 7 : Int)) ∧ w'.cell? ⟨w.heap.size + 1, 9, none⟩ = some (.slice s2 S2.length c2) ∧ w'.cell? ⟨w.heap.size + 1, 10, none⟩ = some (.int .u8 (y2 : Int)) ∧ w'.cell? ⟨w.heap.size + 1, 11, none⟩ = some (.int .u64 (e2 : Int)) ∧ w'.cell? ⟨w.heap.size + 1, 12, none⟩ = some (.int .u32 (m2 : Int)) ∧ w'.cell? ⟨w1.heap.size, 0, none⟩ = some (.int .u32 (p1 : Int)) ∧ w'.cell? ⟨w1.heap.size, 1, none⟩ = some (.int .u32 (R1 0 : Int)) ∧ w'.cell? ⟨w1.heap.size, 2, none⟩ = some (.int .u32 (R1 1 : Int)) ∧ w'.cell? ⟨w1.heap.size, 3, none⟩ = some (.int .u32 (R1 2 : Int)) ∧ w'.cell? ⟨w1.heap.size, 4, none⟩ = some (.int .u32 (R1 3 : Int)) ∧ w'.cell? ⟨w1.heap.size, 5, none⟩ = some (.int .u32 (R1 4 : Int)) ∧ w'.cell? ⟨w1.heap.size, 6, none⟩ = some (.int .u32 (R1 5 : Int)) ∧ w'.cell? ⟨w1.heap.size, 7, none⟩ = some (.int .u32 (R1 6 : Int)) ∧ w'.cell? ⟨w1.heap.size, 8, none⟩ = some (.int .u32 (R1 7 : Int)) ∧ w'.cell? ⟨w1.heap.size, 9, none⟩ = some (.slice s3 S1.length c3) ∧ w'.cell? ⟨w1.heap.size, 10, none⟩ = some (.int .u8 (y1 : Int)) ∧ w'.cell? ⟨w1.heap.size, 11, none⟩ = some (.int .u64 (e1 : Int)) ∧ w'.cell? ⟨w1.heap.size, 12, none⟩ = some (.int .u32 (m1 : Int))) (first | exact TX.out | (apply keep39 hb8; assumption) | (apply keep39 hb7; assumption) | (apply keep39 hb6; assumption) | (apply keep39 hb5; assumption) | (apply keep39 hb4; assumption) | (apply keep39 hb3; assumption) | go_keep) ((first
    | (go_at_call 10; (with_reducible refine (SAB.out _ ?_ ?_).mono ?_); (first | exact H1.out.kept (BW.out.trans (B2.out.mono BW.out.size))); (first | exact H2.out.kept (BW.out.trans (B2.out.mono BW.out.size))); rintro e w3 ⟨rfl, hb3⟩; have B3 := Lib.hid (B2.out.trans (hb3.mono B2.out.size)))
    | (go_at_call 11; (with_reducible refine (RAB.out _ ?_ ?_).mono ?_); (first | exact H1.out.kept (BW.out.trans (B3.out.mono BW.out.size))); (first | exact H2.out.kept (BW.out.trans (B3.out.mono BW.out.size))); rintro e w4 ⟨rfl, hb4⟩; have B4 := Lib.hid (B3.out.trans (hb4.mono B3.out.size)))
    | (go_at_call 10; (with_reducible refine (SCA.out _ _ _ ?_ ?_).mono ?_); (first | exact (O2.out.kept B4.out).stk); (first | exact H1.out.kept (BW.out.trans (B4.out.mono BW.out.size))); rintro e w5 ⟨rfl, hb5⟩; have B5 := Lib.hid (B4.out.trans (hb5.mono B4.out.size)))
    | (go_at_call 12; (with_reducible refine (HN.out _).mono ?_); rintro e w6 ⟨rfl, hb6⟩; have B6 := Lib.hid (B5.out.trans (hb6.mono B5.out.size)))
    | (go_at_call 13; (with_reducible refine (RN.out _).mono ?_); rintro e w7 ⟨rfl, hb7⟩; have B7 := Lib.hid (B6.out.trans (hb7.mono B6.out.size)))
    | (go_at_call 11; (with_reducible refine (RNN.out _).mono ?_); rintro e w8 ⟨rfl, hb8⟩; have B8 := Lib.hid (B7.out.trans (hb8.mono B7.out.size)))))
  clear hb3 hb4 hb5 hb6 hb7 hb8 TX KB1 KB CC SAB RAB SCA HN RN RNN H2
  have KA8 := Lib.hid (KA1.out.kept B8.out)
  have KC8 := Lib.hid (KC.out.kept B8.out)
  have O8 := Lib.hid (O2.out.kept B8.out)
  have BW8 := Lib.hid (BW.out.trans (B8.out.mono BW.out.size))
  have a0 : w8.cell? ⟨w.heap.size, 0, none⟩ = some (.int .u32 (p1 : Int)) := KA8.out.cell 0
  have a1 : w8.cell? ⟨w.heap.size, 1, none⟩ = some (.int .u32 (R1 0 : Int)) := KA8.out.cell 1
  have a2 : w8.cell? ⟨w.heap.size, 2, none⟩ = some (.int .u32 (R1 1 : Int)) := KA8.out.cell 2
  have a3 : w8.cell? ⟨w.heap.size, 3, none⟩ = some (.int .u32 (R1 2 : Int)) := KA8.out.cell 3
  have a4 : w8.cell? ⟨w.heap.size, 4, none⟩ = some (.int .u32 (R1 3 : Int)) := KA8.out.cell 4
  have a5 : w8.cell? ⟨w.heap.size, 5, none⟩ = some (.int .u32 (R1 4 : Int)) := KA8.out.cell 5
  have a6 : w8.cell? ⟨w.heap.size, 6, none⟩ = some (.int .u32 (R1 5 : Int)) := KA8.out.cell 6
  have a7 : w8.cell? ⟨w.heap.size, 7, none⟩ = some (.int .u32 (R1 6 : Int)) := KA8.out.cell 7
  have a8 : w8.cell? ⟨w.heap.size, 8, none⟩ = some (.int .u32 (R1 7 : Int)) := KA8.out.cell 8
  have a9 : w8.cell? ⟨w.heap.size, 9, none⟩ = some (.slice s1 S1.length c1) := KA8.out.cell 9
  have a10 : w8.cell? ⟨w.heap.size, 10, none⟩ = some (.int .u8 (y1 : Int)) := KA8.out.cell 10
  have a11 : w8.cell? ⟨w.heap.size, 11, none⟩ = some (.int .u64 (e1 : Int)) := KA8.out.cell 11
  have a12 : w8.cell? ⟨w.heap.size, 12, none⟩ = some (.int .u32 (m1 : Int)) := KA8.out.cell 12
  go_wp2_with fail
  refine (RC.out _ (H1.out.kept BW8.out)).mono ?_
  rintro e w9 ⟨s', rfl, ow, hb⟩
  obtain ⟨s4, c4, rfl, _⟩ := ow.form
  have O9 := Lib.hid ow
  have B9 := Lib.hid hb
  clear ow hb a0 a1 a2 a3 a4 a5 a6 a7 a8 a9 a10 a11 a12
  generalize hX : w9.alloc (.cells #[.int .u32 (p1 : Int), .int .u32 (R1 0 : Int), .int .u32 (R1 1 : Int), .int .u32 (R1 2 : Int), .int .u32 (R1 3 : Int), .int .u32 (R1 4 : Int), .int .u32 (R1 5 : Int), .int .u32 (R1 6 : Int), .int .u32 (R1 7 : Int), .slice s4 S1.length c4, .int .u8 (y1 : Int), .int .u64 (e1 : Int), .int .u32 (m1 : Int)] 28) = X
  have KW9 : Hid (Blk X w9.heap.size 28 #[.int .u32 (p1 : Int), .int .u32 (R1 0 : Int), .int .u32 (R1 1 : Int), .int .u32 (R1 2 : Int), .int .u32 (R1 3 : Int), .int .u32 (R1 4 : Int), .int .u32 (R1 5 : Int), .int .u32 (R1 6 : Int), .int .u32 (R1 7 : Int), .slice s4 S1.length c4, .int .u8 (y1 : Int), .int .u64 (e1 : Int), .int .u32 (m1 : Int)]) := Lib.hid (hX ▸ Blk.new w9 _ _)
  have BX : Hid (Below w9.heap.size w9 X) := Lib.hid (hX ▸ (Below.refl _ w9).alloc (Nat.le_refl _) _)
  have KAX := Lib.hid ((KA8.out.kept B9.out).kept BX.out)
  have KCX := Lib.hid ((KC8.out.kept B9.out).kept BX.out)
  have OCX := Lib.hid ((O8.out.kept B9.out).kept BX.out)
  have OWX := Lib.hid (O9.out.kept BX.out)
  have BWX := Lib.hid ((BW8.out.trans (B9.out.mono BW8.out.size)).trans (BX.out.mono (Nat.le_trans BW8.out.size B9.out.size)))
  obtain ⟨g, hgp, hg1, hg2, hg3, hg4, hg5⟩ : ∃ g, (0 < S1.length → s3 = some ⟨g, 0, none⟩ ∧ S1.length ≤ c3 ∧ Wds X g S1) ∧ w.heap.size ≤ g ∧ w.heap.size ≠ g ∧ w1.heap.size ≠ g ∧ w9.heap.size ≠ g ∧ (Value.slice s4 S1.length c4).ownBlock ≠ some g := by
    have k0 := BWX.out.size
    have k1 := KAX.out.lt
    have k2 := KCX.out.lt
    have k3 := KW9.out.lt
    have k4 := BX.out.size
    have k5 := B9.out.size
    have k6 := KC8.out.lt
    have k7 := Z0.out
    have k8 := B1.out.size
    rcases Nat.eq_zero_or_pos S1.length with z | p
    · exact ⟨X.heap.size, fun h => by omega, by omega, by omega, by omega, by omega, fun e => by have := (OWX.out.lt _ e).2; omega⟩
    · obtain ⟨g, hbg, hp, _⟩ := OCX.out.seat (by omega)
      obtain ⟨es, hc, _, hW⟩ := hp p
      have q1 := (O1.out.lt g (by rw [es]; rfl)).2
      exact ⟨g, fun _ => ⟨es, hc, hW⟩, by omega, by omega, by omega, by omega, fun e => by have := (O9.out.lt _ e).1; omega⟩
  have KX := Lib.hid hX
  have HGP := Lib.hid hgp
  have HG5 := Lib.hid hg5
  clear hX hgp hg5 B2 B3 B4 B5 B6 B7 B8 KA1 KC O2 O1 BB KA8 KC8 O8 BW8 O9 B9 BX OCX RC KW1 KW KA B0 B1 BW
  go_wp2_with fail
  (try rw [KX.out])
  go_loopg [10] S1.length (fun gg s10 wr => ∃ kk : Nat, kk ≤ S1.length ∧ S1.length - kk ≤ gg ∧ s10 = .int .i64 (kk : Int) ∧ Hid (Upd g X wr) ∧ Hid (0 < S1.length → ∃ Sx : List Nat, Sx.length = S1.length ∧ Wds wr g Sx))
  case atStart => exact ⟨0, Nat.zero_le _, by omega, rfl, Lib.hid (Upd.refl g X), Lib.hid fun h => ⟨S1, rfl, (HGP.out h).2.2⟩⟩
  case round =>
    obtain ⟨kk, hkk, hg, rfl, UG, WG⟩ := hrel
    have KCr := UG.out.blk KCX.out hg3
    have hn1 := N1.out
    by_cases hlt : kk < S1.length
    · have hltz : (kk : Int) < (S1.length : Int) := by omega
      obtain ⟨es, hcap, _⟩ := HGP.out (by omega)
      obtain ⟨Sx, hSl, hW⟩ := WG.out (by omega)
      have c9 : wr.cell? ⟨w1.heap.size, 9, none⟩ = some (.slice (some ⟨g, 0, none⟩) S1.length c3) := by
        rw [← es]
        exact KCr.cell 9
      obtain ⟨x, hx⟩ : ∃ x, Sx[kk]! = x := ⟨_, rfl⟩
      have gx : wr.cell? ⟨g, kk, none⟩ = some (.int .u32 (x : Int)) := hx ▸ hW.cell kk (by omega)
      have fx : wr.frozen? ⟨g, kk, none⟩ = false := hW.free kk
      have hwx := wrap_inc x
      have REL : Hid (Upd g X (wr.setCell ⟨g, kk, none⟩ (.int .u32 (inc x : Int))) ∧ ∃ Sx : List Nat, Sx.length = S1.length ∧ Wds (wr.setCell ⟨g, kk, none⟩ (.int .u32 (inc x : Int))) g Sx) := Lib.hid ⟨UG.out.setCell kk _, hW.bump hSl hlt (inc x)⟩
      clear es hSl hW hx KCr
      go_wp2_with fail
      go_roundg (S1.length - (kk + 1))
      case measure => omega
      case rel => exact ⟨kk + 1, by omega, by omega, by go_num, Lib.hid REL.out.1, Lib.hid fun _ => REL.out.2⟩
    · have hltz : ¬ (kk : Int) < (S1.length : Int) := by omega
      have c9 : wr.cell? ⟨w1.heap.size, 9, none⟩ = some (.slice s3 S1.length c3) := KCr.cell 9
      have BR := Lib.hid (UG.out.below BWX.out hg1)
      have KAr := Lib.hid (UG.out.blk KAX.out hg2)
      have KWr := Lib.hid (UG.out.blk KW9.out hg4)
      have OWr := Lib.hid (OWX.out.upd UG.out HG5.out)
      have a0 : wr.cell? ⟨w.heap.size, 0, none⟩ = some (.int .u32 (p1 : Int)) := KAr.out.cell 0
      have a1 : wr.cell? ⟨w.heap.size, 1, none⟩ = some (.int .u32 (R1 0 : Int)) := KAr.out.cell 1
      have a2 : wr.cell? ⟨w.heap.size, 2, none⟩ = some (.int .u32 (R1 1 : Int)) := KAr.out.cell 2
      have a3 : wr.cell? ⟨w.heap.size, 3, none⟩ = some (.int .u32 (R1 2 : Int)) := KAr.out.cell 3
      have a4 : wr.cell? ⟨w.heap.size, 4, none⟩ = some (.int .u32 (R1 3 : Int)) := KAr.out.cell 4
      have a5 : wr.cell? ⟨w.heap.size, 5, none⟩ = some (.int .u32 (R1 4 : Int)) := KAr.out.cell 5
      have a6 : wr.cell? ⟨w.heap.size, 6, none⟩ = some (.int .u32 (R1 5 : Int)) := KAr.out.cell 6
      have a7 : wr.cell? ⟨w.heap.size, 7, none⟩ = some (.int .u32 (R1 6 : Int)) := KAr.out.cell 7
      have a8 : wr.cell? ⟨w.heap.size, 8, none⟩ = some (.int .u32 (R1 7 : Int)) := KAr.out.cell 8
      have a9 : wr.cell? ⟨w.heap.size, 9, none⟩ = some (.slice s1 S1.length c1) := KAr.out.cell 9
      have a10 : wr.cell? ⟨w.heap.size, 10, none⟩ = some (.int .u8 (y1 : Int)) := KAr.out.cell 10
      have a11 : wr.cell? ⟨w.heap.size, 11, none⟩ = some (.int .u64 (e1 : Int)) := KAr.out.cell 11
      have a12 : wr.cell? ⟨w.heap.size, 12, none⟩ = some (.int .u32 (m1 : Int)) := KAr.out.cell 12
      have b0 : wr.cell? ⟨w9.heap.size, 0, none⟩ = some (.int .u32 (p1 : Int)) := KWr.out.cell 0
      have b1 : wr.cell? ⟨w9.heap.size, 1, none⟩ = some (.int .u32 (R1 0 : Int)) := KWr.out.cell 1
      have b2 : wr.cell? ⟨w9.heap.size, 2, none⟩ = some (.int .u32 (R1 1 : Int)) := KWr.out.cell 2
      have b3 : wr.cell? ⟨w9.heap.size, 3, none⟩ = some (.int .u32 (R1 2 : Int)) := KWr.out.cell 3
      have b4 : wr.cell? ⟨w9.heap.size, 4, none⟩ = some (.int .u32 (R1 3 : Int)) := KWr.out.cell 4
      have b5 : wr.cell? ⟨w9.heap.size, 5, none⟩ = some (.int .u32 (R1 4 : Int)) := KWr.out.cell 5
      have b6 : wr.cell? ⟨w9.heap.size, 6, none⟩ = some (.int .u32 (R1 5 : Int)) := KWr.out.cell 6
      have b7 : wr.cell? ⟨w9.heap.size, 7, none⟩ = some (.int .u32 (R1 6 : Int)) := KWr.out.cell 7
      have b8 : wr.cell? ⟨w9.heap.size, 8, none⟩ = some (.int .u32 (R1 7 : Int)) := KWr.out.cell 8
      have b9 : wr.cell? ⟨w9.heap.size, 9, none⟩ = some (.slice s4 S1.length c4) := KWr.out.cell 9
      have b10 : wr.cell? ⟨w9.heap.size, 10, none⟩ = some (.int .u8 (y1 : Int)) := KWr.out.cell 10
      have b11 : wr.cell? ⟨w9.heap.size, 11, none⟩ = some (.int .u64 (e1 : Int)) := KWr.out.cell 11
      have b12 : wr.cell? ⟨w9.heap.size, 12, none⟩ = some (.int .u32 (m1 : Int)) := KWr.out.cell 12
      clear KCr UG WG HGP KCX OWX KAX KW9 BWX HG5
      go_wp2_with fail
      refine (RAW.out _ _ _ (H1.out.kept BR.out) OWr.out.stk).mono ?_
      rintro e wA ⟨rfl, hbA⟩
      have BA := Lib.hid (BR.out.trans (hbA.mono BR.out.size))
      clear hbA a0 b0 a1 b1 a2 b2 a3 b3 a4 b4 a5 b5 a6 b6 a7 b7 a8 b8 a9 b9 a10 b10 a11 b11 a12 b12 c9
      go_wp2_with fail
      refine (awake09_c _).mono ?_
      rintro e wB ⟨rfl, hbB⟩
      have BB := Lib.hid (BA.out.trans (hbB.mono BA.out.size))
      clear hbB
      go_wp2_with fail
      go_ret
      exact ⟨rfl, BB.out⟩
end Go.Proofs.Ythnbdeibjbicpaa.PM
