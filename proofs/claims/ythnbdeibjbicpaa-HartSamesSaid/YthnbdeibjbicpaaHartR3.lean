/- Contract of budwoodref09's Same. Conditions: the cells. -/
import Derived.Test.YthnbdeibjbicpaaHartR2
namespace Go.Proofs.Ythnbdeibjbicpaa.PM
set_option linter.unusedVariables false
set_option linter.unusedSimpArgs false
open Go.RowKit
set_option maxRecDepth 100000 in
set_option maxHeartbeats 8000000 in
theorem rsame_h (w : World) (p1 : Nat) (R1 : Nat → Nat) (S1 : List Nat) (y1 e1 m1 : Nat) (p2 : Nat) (R2 : Nat → Nat) (S2 : List Nat) (y2 e2 m2 : Nat) (s1 s2 : Option Addr) (c1 c2 : Nat) (h1 : Stk w s1 S1) (h2 : Stk w s2 S2) (hn : S1.length < 35184372088832) :
    Calls Try.prog 11 #[hv p1 R1 (.slice s1 S1.length c1) y1 e1 m1, hv p2 R2 (.slice s2 S2.length c2) y2 e2 m2] w fun e w' => e = .returned (.bool (sameH p1 R1 S1 y1 e1 m1 p2 R2 S2 y2 e2 m2)) ∧ Below w.heap.size w w' := by
  have HE := fun W => eq8 W R1 R2
  have B2 : Hid (∀ A B, Below w.heap.size w ((w.alloc A).alloc B)) := Lib.hid fun A B => ((Below.refl _ w).alloc (Nat.le_refl _) _).alloc (by simp) _
  have H1 := Lib.hid h1
  have H2 := Lib.hid h2
  unfold sameH hv
  clear h1 h2
  obtain ⟨q6, hq6⟩ : ∃ q, decide (S1 = S2) = q := ⟨_, rfl⟩
  rw [hq6]
  have Q6 := Lib.hid hq6
  clear hq6
  generalize eqR R1 R2 = q2 at HE ⊢
  cases k1 : ((p1 : Int) == (p2 : Int))
  · have nk1 : ((p1 : Int) != (p2 : Int)) = true := by simp [bne, k1]
    go_enter Try.func11, Try.ntmps11
    go_wp2_with fail
    go_ret
    exact ⟨by simp, B2.out _ _⟩
  have nk1 : ((p1 : Int) != (p2 : Int)) = false := by simp [bne, k1]
  cases q2
  · skip
    go_enter Try.func11, Try.ntmps11
    go_wp2_with fail
    go_ret
    exact ⟨by simp, B2.out _ _⟩
  cases k3 : ((y1 : Int) == (y2 : Int))
  · have nk3 : ((y1 : Int) != (y2 : Int)) = true := by simp [bne, k3]
    go_enter Try.func11, Try.ntmps11
    go_wp2_with fail
    go_ret
    exact ⟨by simp, B2.out _ _⟩
  have nk3 : ((y1 : Int) != (y2 : Int)) = false := by simp [bne, k3]
  cases k4 : ((e1 : Int) == (e2 : Int))
  · have nk4 : ((e1 : Int) != (e2 : Int)) = true := by simp [bne, k4]
    go_enter Try.func11, Try.ntmps11
    go_wp2_with fail
    go_ret
    exact ⟨by simp, B2.out _ _⟩
  have nk4 : ((e1 : Int) != (e2 : Int)) = false := by simp [bne, k4]
  cases k5 : ((m1 : Int) == (m2 : Int))
  · have nk5 : ((m1 : Int) != (m2 : Int)) = true := by simp [bne, k5]
    go_enter Try.func11, Try.ntmps11
    go_wp2_with fail
    go_ret
    exact ⟨by simp, B2.out _ _⟩
  have nk5 : ((m1 : Int) != (m2 : Int)) = false := by simp [bne, k5]
  by_cases hnm : S1.length = S2.length
  rotate_left
  · have hz : ((S1.length : Int) != (S2.length : Int)) = true := by simp; omega
    have hd : q6 = false := by rw [← Q6.out]; exact decide_eq_false (fun e => hnm (by rw [e]))
    subst hd
    clear H1 H2 Q6
    generalize S1.length = n1 at hnm hz hn ⊢
    generalize S2.length = n2 at hnm hz ⊢
    go_enter Try.func11, Try.ntmps11
    go_wp2_with fail
    go_ret
    exact ⟨by simp, B2.out _ _⟩
  generalize hn1 : S1.length = n at hnm hn
  have N1 := Lib.hid hn1
  have N2 := Lib.hid hnm
  rw [← hnm]
  clear hn1 hnm
  have KA := Lib.hid ((Blk.new w 28 #[.int .u32 (p1 : Int), .int .u32 (R1 0 : Int), .int .u32 (R1 1 : Int), .int .u32 (R1 2 : Int), .int .u32 (R1 3 : Int), .int .u32 (R1 4 : Int), .int .u32 (R1 5 : Int), .int .u32 (R1 6 : Int), .int .u32 (R1 7 : Int), (.slice s1 n c1), .int .u8 (y1 : Int), .int .u64 (e1 : Int), .int .u32 (m1 : Int)]).alloc (.cells #[.int .u32 (p2 : Int), .int .u32 (R2 0 : Int), .int .u32 (R2 1 : Int), .int .u32 (R2 2 : Int), .int .u32 (R2 3 : Int), .int .u32 (R2 4 : Int), .int .u32 (R2 5 : Int), .int .u32 (R2 6 : Int), .int .u32 (R2 7 : Int), (.slice s2 n c2), .int .u8 (y2 : Int), .int .u64 (e2 : Int), .int .u32 (m2 : Int)] 28))
  have KB := Lib.hid (Blk.new (w.alloc (.cells #[.int .u32 (p1 : Int), .int .u32 (R1 0 : Int), .int .u32 (R1 1 : Int), .int .u32 (R1 2 : Int), .int .u32 (R1 3 : Int), .int .u32 (R1 4 : Int), .int .u32 (R1 5 : Int), .int .u32 (R1 6 : Int), .int .u32 (R1 7 : Int), (.slice s1 n c1), .int .u8 (y1 : Int), .int .u64 (e1 : Int), .int .u32 (m1 : Int)] 28)) 28 #[.int .u32 (p2 : Int), .int .u32 (R2 0 : Int), .int .u32 (R2 1 : Int), .int .u32 (R2 2 : Int), .int .u32 (R2 3 : Int), .int .u32 (R2 4 : Int), .int .u32 (R2 5 : Int), .int .u32 (R2 6 : Int), .int .u32 (R2 7 : Int), (.slice s2 n c2), .int .u8 (y2 : Int), .int .u64 (e2 : Int), .int .u32 (m2 : Int)])
  have sz : (w.alloc (.cells #[.int .u32 (p1 : Int), .int .u32 (R1 0 : Int), .int .u32 (R1 1 : Int), .int .u32 (R1 2 : Int), .int .u32 (R1 3 : Int), .int .u32 (R1 4 : Int), .int .u32 (R1 5 : Int), .int .u32 (R1 6 : Int), .int .u32 (R1 7 : Int), (.slice s1 n c1), .int .u8 (y1 : Int), .int .u64 (e1 : Int), .int .u32 (m1 : Int)] 28)).heap.size = w.heap.size + 1 := by simp
  rw [sz] at KB
  clear sz
  have X1 : Hid (Stk ((w.alloc (.cells #[.int .u32 (p1 : Int), .int .u32 (R1 0 : Int), .int .u32 (R1 1 : Int), .int .u32 (R1 2 : Int), .int .u32 (R1 3 : Int), .int .u32 (R1 4 : Int), .int .u32 (R1 5 : Int), .int .u32 (R1 6 : Int), .int .u32 (R1 7 : Int), (.slice s1 n c1), .int .u8 (y1 : Int), .int .u64 (e1 : Int), .int .u32 (m1 : Int)] 28)).alloc (.cells #[.int .u32 (p2 : Int), .int .u32 (R2 0 : Int), .int .u32 (R2 1 : Int), .int .u32 (R2 2 : Int), .int .u32 (R2 3 : Int), .int .u32 (R2 4 : Int), .int .u32 (R2 5 : Int), .int .u32 (R2 6 : Int), .int .u32 (R2 7 : Int), (.slice s2 n c2), .int .u8 (y2 : Int), .int .u64 (e2 : Int), .int .u32 (m2 : Int)] 28)) s1 S1) := Lib.hid ((H1.out.kept ((Below.refl _ w).alloc (Nat.le_refl _) _)).kept ((Below.refl _ _).alloc (Nat.le_refl _) _))
  have X2 : Hid (Stk ((w.alloc (.cells #[.int .u32 (p1 : Int), .int .u32 (R1 0 : Int), .int .u32 (R1 1 : Int), .int .u32 (R1 2 : Int), .int .u32 (R1 3 : Int), .int .u32 (R1 4 : Int), .int .u32 (R1 5 : Int), .int .u32 (R1 6 : Int), .int .u32 (R1 7 : Int), (.slice s1 n c1), .int .u8 (y1 : Int), .int .u64 (e1 : Int), .int .u32 (m1 : Int)] 28)).alloc (.cells #[.int .u32 (p2 : Int), .int .u32 (R2 0 : Int), .int .u32 (R2 1 : Int), .int .u32 (R2 2 : Int), .int .u32 (R2 3 : Int), .int .u32 (R2 4 : Int), .int .u32 (R2 5 : Int), .int .u32 (R2 6 : Int), .int .u32 (R2 7 : Int), (.slice s2 n c2), .int .u8 (y2 : Int), .int .u64 (e2 : Int), .int .u32 (m2 : Int)] 28)) s2 S2) := Lib.hid ((H2.out.kept ((Below.refl _ w).alloc (Nat.le_refl _) _)).kept ((Below.refl _ _).alloc (Nat.le_refl _) _))
  have BW := Lib.hid (B2.out (.cells #[.int .u32 (p1 : Int), .int .u32 (R1 0 : Int), .int .u32 (R1 1 : Int), .int .u32 (R1 2 : Int), .int .u32 (R1 3 : Int), .int .u32 (R1 4 : Int), .int .u32 (R1 5 : Int), .int .u32 (R1 6 : Int), .int .u32 (R1 7 : Int), (.slice s1 n c1), .int .u8 (y1 : Int), .int .u64 (e1 : Int), .int .u32 (m1 : Int)] 28) (.cells #[.int .u32 (p2 : Int), .int .u32 (R2 0 : Int), .int .u32 (R2 1 : Int), .int .u32 (R2 2 : Int), .int .u32 (R2 3 : Int), .int .u32 (R2 4 : Int), .int .u32 (R2 5 : Int), .int .u32 (R2 6 : Int), .int .u32 (R2 7 : Int), (.slice s2 n c2), .int .u8 (y2 : Int), .int .u64 (e2 : Int), .int .u32 (m2 : Int)] 28))
  generalize hW : (w.alloc (.cells #[.int .u32 (p1 : Int), .int .u32 (R1 0 : Int), .int .u32 (R1 1 : Int), .int .u32 (R1 2 : Int), .int .u32 (R1 3 : Int), .int .u32 (R1 4 : Int), .int .u32 (R1 5 : Int), .int .u32 (R1 6 : Int), .int .u32 (R1 7 : Int), (.slice s1 n c1), .int .u8 (y1 : Int), .int .u64 (e1 : Int), .int .u32 (m1 : Int)] 28)).alloc (.cells #[.int .u32 (p2 : Int), .int .u32 (R2 0 : Int), .int .u32 (R2 1 : Int), .int .u32 (R2 2 : Int), .int .u32 (R2 3 : Int), .int .u32 (R2 4 : Int), .int .u32 (R2 5 : Int), .int .u32 (R2 6 : Int), .int .u32 (R2 7 : Int), (.slice s2 n c2), .int .u8 (y2 : Int), .int .u64 (e2 : Int), .int .u32 (m2 : Int)] 28) = W at KA KB X1 X2 BW
  have KW := Lib.hid hW
  clear hW H1 H2 B2
  have a9 : W.cell? ⟨w.heap.size, 9, none⟩ = some (.slice s1 n c1) := KA.out.cell 9
  have b9 : W.cell? ⟨w.heap.size + 1, 9, none⟩ = some (.slice s2 n c2) := KB.out.cell 9
  go_enter Try.func11, Try.ntmps11
  go_wp2_with fail
  (try rw [KW.out])
  go_loopg [5] n (fun g s5 wr => ∃ kk q : Nat, kk ≤ n ∧ n - kk ≤ g ∧ s5 = .int .i64 (kk : Int) ∧ wr = W.drewN q ∧ Hid (∀ j, j < kk → S1[j]! = S2[j]!))
  case atStart => exact ⟨0, 0, Nat.zero_le _, by omega, rfl, rfl, Lib.hid fun j hj => absurd hj (Nat.not_lt_zero _)⟩
  case round =>
    obtain ⟨kk, q, hkk, hg, rfl, rfl, A⟩ := hrel
    have a9' : (W.drewN q).cell? ⟨w.heap.size, 9, none⟩ = some (.slice s1 n c1) := a9
    have b9' : (W.drewN q).cell? ⟨w.heap.size + 1, 9, none⟩ = some (.slice s2 n c2) := b9
    clear a9 b9
    by_cases hlt : kk < n
    · have hltz : (kk : Int) < (n : Int) := by omega
      obtain ⟨b1, o1, rfl, hl1, g1⟩ := X1.out kk (by rw [N1.out]; exact hlt)
      obtain ⟨b2, o2, rfl, hl2, g2⟩ := X2.out kk (by rw [← N2.out]; exact hlt)
      obtain ⟨x, hx⟩ : ∃ x, S1[kk]! = x := ⟨_, rfl⟩
      obtain ⟨y, hy⟩ : ∃ y, S2[kk]! = y := ⟨_, rfl⟩
      rw [hx] at g1
      rw [hy] at g2
      have g1 : (W.drewN q).cell? ⟨b1, o1 + kk, none⟩ = some (.int .u32 (x : Int)) := g1
      have g2 : (W.drewN q).cell? ⟨b2, o2 + kk, none⟩ = some (.int .u32 (y : Int)) := g2
      generalize hwq : W.drewN q = wq at g1 g2 a9' b9' ⊢
      have WQ := Lib.hid hwq
      have X := Lib.hid hx
      have Y := Lib.hid hy
      clear hx hy hwq
      cases hxy : ((x : Int) == (y : Int)) with
      | true =>
        have hne : ((x : Int) != (y : Int)) = false := by simp [bne, hxy]
        have E := Lib.hid hxy
        clear hxy
        go_wp2_with fail
        go_quiet (fail)
        go_wp2
        go_roundg (n - (kk + 1))
        case measure => omega
        case rel =>
          refine ⟨kk + 1, q + nq, by omega, by omega, by go_num, by rw [← WQ.out, World.drewN_drewN], Lib.hid fun j hj => ?_⟩
          by_cases e : j = kk
          · subst e
            rw [X.out, Y.out]
            have := E.out
            simp at this
            omega
          · exact A.out j (by omega)
      | false =>
        have hne : ((x : Int) != (y : Int)) = true := by simp [bne, hxy]
        have E := Lib.hid hxy
        have hd : q6 = false := by
          rw [← Q6.out]
          exact decide_eq_false (fun e => by
            have := E.out
            rw [← X.out, ← Y.out, e] at this
            simp at this)
        subst hd
        clear hxy
        go_wp2_with fail
        go_quiet (fail)
        go_wp2
        go_ret
        exact ⟨by rfl, by rw [← WQ.out]; exact below_drewN (below_drewN BW.out _) _⟩
    · have : kk = n := by omega
      subst this
      have hd : q6 = true := by rw [← Q6.out]; exact decide_eq_true (bang_ext (by rw [N1.out]; exact N2.out) (fun j hj => A.out j (by rw [N1.out] at hj; exact hj)))
      subst hd
      go_wp2
      go_ret
      exact ⟨by rfl, below_drewN BW.out _⟩
end Go.Proofs.Ythnbdeibjbicpaa.PM
