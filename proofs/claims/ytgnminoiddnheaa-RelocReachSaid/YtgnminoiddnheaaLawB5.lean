/- The walk of RelocReach, out of contracts. Conditions: the bounds of the kinds. -/
import Derived.Test.YtgnminoiddnheaaLawB4
namespace Go.Proofs.Ytgnminoiddnheaa.B5
set_option linter.unusedVariables false
open Go.RowKit Go.Proofs.Ytgnminoiddnheaa.WM Go.Proofs.Ytgnminoiddnheaa.IM Go.Proofs.Ytgnminoiddnheaa.W1 Go.Proofs.Ytgnminoiddnheaa.I1 Go.Proofs.Ytgnminoiddnheaa.I2 Go.Proofs.Ytgnminoiddnheaa.I6 Go.Proofs.Ytgnminoiddnheaa.I7 Go.Proofs.Ytgnminoiddnheaa.I8 Go.Proofs.Ytgnminoiddnheaa.I9 Go.Proofs.Ytgnminoiddnheaa.B1 Go.Proofs.Ytgnminoiddnheaa.R2 Go.Proofs.Ytgnminoiddnheaa.R1 Go.Proofs.Ytgnminoiddnheaa.R3 Go.Proofs.Ytgnminoiddnheaa.R4 Go.Proofs.Ytgnminoiddnheaa.B4
/-- An instruction of which nothing but the register is said. -/
theorem plain_may (o d : Nat) (h : (o = 17 ∧ d = 0) ∨ (o = 2 ∧ d < 8)) : chk o d 0 0 0 = 0 := by
  refine may_chk ⟨⟨by omega, ?_, rfl, rfl, .inr rfl⟩, by decide, fun _ => by decide, fun e => by omega⟩
  rcases h with ⟨e, e2⟩ | ⟨e, e2⟩
  · subst e2; rfl
  · exact regB_ok (by omega) (by rw [e]; rfl)
/-- What Apply tells of such a word. -/
theorem plain_ap (o d k v : Nat) (hk : k ≤ 7) (ho : o = opOf k) (hd : d < 8) (hc : isCall k = true → d = 0) (hv : v < 4294967296) :
    (apE (encN o d 0 0 0) k v = 0 ∧ v ≤ reachV k) ∨ (apE (encN o d 0 0 0) k v = 30 ∧ reachV k < v) := by
  have hp : chk o d 0 0 0 = 0 := plain_may o d (by
    unfold opOf at ho
    cases hq : isCall k with
    | true => rw [hq, if_pos rfl] at ho; exact .inl ⟨ho, hc hq⟩
    | false => rw [hq, if_neg (by decide)] at ho; exact .inr ⟨ho, hd⟩)
  have hm := chk_may hp
  obtain ⟨e0, e1, e2, e3, e4⟩ := dec_enc hm
  have hb : bl (encN o d 0 0 0) k := ⟨ok_enc hm, by rw [e0]; exact ho⟩
  unfold apE reachV
  cases hw : wordK k with
  | true => left; simp; omega
  | false =>
    cases hcd : codeK k with
    | false => have := none_facts hw hcd; omega
    | true =>
      have hn : ¬ ¬ (bl (encN o d 0 0 0) k ∧ dI (encN o d 0 0 0) = 0) := by rw [Classical.not_not]; exact ⟨hb, e4⟩
      by_cases h2 : 1048576 ≤ v
      · right; simp [hb, e4, h2]; omega
      · left; simp [hb, e4, h2]; omega
set_option maxHeartbeats 4000000 in
theorem law_reach_a (k8 d8 v k d : Nat) (w : World) (hv : v < 4294967296) (e8 : (k8 : Int) % 8 = (k : Int)) (hd8 : (d8 : Int) % 8 = (d : Int)) (q0 q7 : Bool) (hq0 : ((k : Int) == 0) = q0) (hq7 : ((k : Int) == 7) = q7) (hk : k ≤ 7) (o dd : Nat)
    (ho : o = opOf k) (hop : o = if (q0 || q7) = true then 17 else 2) (hdd : dd = if (q0 || q7) = true then 0 else d) (hdl : d < 8) (hic : isCall k = (q0 || q7)) :
    Calls Try.prog 12 #[.int .u8 (k8 : Int), .int .u8 (d8 : Int), .int .u32 (v : Int)] w fun e w' => e = .returned (.bool true) ∧ Below w.heap.size w w' := by
  have hd1 : dd < 8 := by rw [hdd]; split <;> omega
  have hc1 : isCall k = true → dd = 0 := fun e => by rw [hic] at e; rw [hdd, if_pos e]
  have hp : chk o dd 0 0 0 = 0 := plain_may o dd (by
    rw [hop, hdd]
    cases (q0 || q7)
    · right; exact ⟨rfl, hdl⟩
    · left; exact ⟨rfl, rfl⟩)
  have hx := encN_lt (chk_may hp)
  have hap := plain_ap o dd k v hk ho hd1 hc1 hv
  have H1 := Lib.hid (fun W => encode_ok o dd 0 0 0 W (by decide) (by decide) hp)
  have H2 := Lib.hid (fun W => apply_c (encN o dd 0 0 0) k v W hx hv)
  have H3 := Lib.hid (fun W => reach_c k W)
  generalize encN o dd 0 0 0 = x at H1 H2 hx hap
  generalize apX x k v = y at H2
  generalize apE x k v = c at H2 hap
  generalize reachV k = r at H3 hap
  clear hc1 hp hk ho hic hx hd1
  cases q0 <;> cases q7 <;> simp only [Bool.or_self, Bool.or_true, Bool.true_or, Bool.false_eq_true, if_true, if_false] at hop hdd <;> subst hop hdd <;> rcases hap with ⟨hc, hr⟩ | ⟨hc, hr⟩ <;> subst hc
  all_goals
    go_enter Try.func12, Try.ntmps12
    go_wp2_with fail
    refine (H1.out _).mono ?_
    rintro e w1 ⟨rfl, hb1⟩
    go_wp2_with fail
    refine (H2.out _).mono ?_
    rintro e w2 ⟨rfl, hb2⟩
    (first | have hr1 : ((v : Int) ≤ (r : Int)) := by omega | have hr1 : ¬ ((v : Int) ≤ (r : Int)) := by omega)
    (first | have hr2 : decide ((v : Int) ≤ (r : Int)) = true := decide_eq_true hr1 | have hr2 : decide ((v : Int) ≤ (r : Int)) = false := decide_eq_false hr1)
    (go_wp2_with (first | (go_at_call 32; (with_reducible refine (H3.out _).mono ?_); rintro e w' ⟨rfl, ⟨nd, rfl⟩⟩; (try first | exact ⟨rfl, _, World.drewN_drewN _ _ _⟩ | exact ⟨rfl, _, Eq.trans (World.drewN_drewN _ _ _) (congrArg (World.drewN _) (Nat.add_assoc _ _ _))⟩)) | (go_at_call 29; (with_reducible refine (Go.Proofs.Ytgnminoiddnheaa.B4.awake_c _).mono ?_); rintro e w' ⟨rfl, hb⟩))); repeat (go_quiet (first | (go_at_call 32; (with_reducible refine (H3.out _).mono ?_); rintro e w' ⟨rfl, ⟨nd, rfl⟩⟩; (try first | exact ⟨rfl, _, World.drewN_drewN _ _ _⟩ | exact ⟨rfl, _, Eq.trans (World.drewN_drewN _ _ _) (congrArg (World.drewN _) (Nat.add_assoc _ _ _))⟩)) | (go_at_call 29; (with_reducible refine (Go.Proofs.Ytgnminoiddnheaa.B4.awake_c _).mono ?_); rintro e w' ⟨rfl, hb⟩)); try go_wp2_with (first | (go_at_call 32; (with_reducible refine (H3.out _).mono ?_); rintro e w' ⟨rfl, ⟨nd, rfl⟩⟩; (try first | exact ⟨rfl, _, World.drewN_drewN _ _ _⟩ | exact ⟨rfl, _, Eq.trans (World.drewN_drewN _ _ _) (congrArg (World.drewN _) (Nat.add_assoc _ _ _))⟩)) | (go_at_call 29; (with_reducible refine (Go.Proofs.Ytgnminoiddnheaa.B4.awake_c _).mono ?_); rintro e w' ⟨rfl, hb⟩)))
    go_ret
    exact ⟨by first | rfl | exact ret_bool (by simp; omega), below_then (below_then hb1 hb2) (below_then (below_drewN (Below.refl _ _) _) hb)⟩
theorem law_reach (k8 d8 v : Nat) (w : World) (hk8 : k8 < 256) (hd8 : d8 < 256) (hv : v < 4294967296) :
    Calls Try.prog 12 #[.int .u8 (k8 : Int), .int .u8 (d8 : Int), .int .u32 (v : Int)] w fun e w' => e = .returned (.bool true) ∧ Below w.heap.size w w' := by
  have hkl : k8 % 8 ≤ 7 := by omega
  have hb : ∀ k, k ≤ 7 → isCall k = (((k : Int) == 0) || ((k : Int) == 7)) := by decide
  refine law_reach_a k8 d8 v (k8 % 8) (d8 % 8) w hv (by omega) (by omega) _ _ rfl rfl hkl (opOf (k8 % 8)) _ rfl ?_ rfl (by omega) (hb _ hkl)
  unfold opOf
  rw [hb _ hkl]
end Go.Proofs.Ytgnminoiddnheaa.B5
