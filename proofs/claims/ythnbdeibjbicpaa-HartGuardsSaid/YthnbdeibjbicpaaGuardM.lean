/- What a step may change, plainly. No program in sight. No condition. -/
import Derived.Test.YthnbdeibjbicpaaLandM
set_option linter.unusedSimpArgs false
namespace Go.Proofs.Ythnbdeibjbicpaa.PM
set_option linter.unusedVariables false
section
variable {G : Nat → Nat} {T : List Page} {L : List Nat} {pc : Nat} {R : Nat → Nat} {S : List Nat} {ep home epoch : Nat}
/-- What HartGuards asks of a step. -/
structure Guard (G : Nat → Nat) (T : List Page) (L : List Nat) (pc : Nat) (S : List Nat) (ep home epoch : Nat) (o : Out) : Prop where
  words : ∀ x, peekM G o.L x = peekM G L x ∨ (o.nT = true ∧ o.nA = x ∧ peekM G o.L x = o.nW ∧ (getP T (pageOf x)).wr = true)
  safe : o.nS = true → o.ep = epoch ∧ o.pc = home ∧ o.S = [] ∧ S = []
  ep : o.nS = true ∨ o.ep = ep
  pc : o.why = 0 ∨ o.pc = pc
  len : o.S.length ≤ max S.length 16
  lw : o.L.length = L.length
theorem stay_guard (y : Nat) : Guard G T L pc S ep home epoch (stay L pc R S ep y) :=
  ⟨fun x => .inl rfl, (fun h => by cases h), .inr rfl, .inr rfl, Nat.le_max_left _ _, rfl⟩
theorem goto_guard (tt_ : Nat) (R' : Nat → Nat) (S' : List Nat) (h : S'.length ≤ max S.length 16) : Guard G T L pc S ep home epoch (goto L S' ep tt_ R') :=
  ⟨fun x => .inl rfl, (fun h => by cases h), .inr rfl, .inl rfl, h, rfl⟩
theorem pass_guard (y : Nat) : Guard G T L pc S ep home epoch (passM L pc R S ep home epoch y) := by
  unfold passM
  split
  · rename_i h
    exact ⟨fun x => .inl rfl, fun _ => ⟨rfl, rfl, h, h⟩, .inl rfl, .inl rfl, Nat.le_max_left _ _, rfl⟩
  · exact stay_guard y
theorem exec_guard (ow op rd ra rb : Nat) (imm : Int) (hl : L.length = 16 * T.length) (few : T.length ≤ 256) : Guard G T L pc S ep home epoch (exec G T L pc R S ep home epoch ow op rd ra rb imm) := by
  have sm : S.length ≤ max S.length 16 := Nat.le_max_left _ _
  unfold exec
  split
  · exact goto_guard _ _ _ sm
  split
  · unfold touchM
    simp only
    split
    · split
      · exact goto_guard _ _ _ sm
      · exact stay_guard _
    · split
      · rename_i hs
        unfold storeM at hs ⊢
        split at hs
        · rename_i hw
          rw [if_pos hw]
          have hin := wrB_in hl few hw
          unfold inB at hin
          simp only [Bool.and_eq_true, decide_eq_true_eq] at hin
          have hwr : (getP T (pageOf ((getR R ra + immU imm) % 4294967296))).wr = true := by
            unfold wrB at hw
            simp only [Bool.and_eq_true] at hw
            exact hw.1.1.1
          refine ⟨fun x => ?_, (fun h => by cases h), .inr rfl, .inl rfl, sm, by simp⟩
          by_cases e : x = (getR R ra + immU imm) % 4294967296
          · subst e
            refine .inr ⟨rfl, rfl, ?_, hwr⟩
            unfold peekM
            rw [if_neg (by omega), if_neg (by omega), if_pos (by rw [List.length_set]; omega), nat_set _ _ _ _ (by omega), if_pos rfl]
          · left
            unfold peekM
            simp only [List.length_set]
            split
            · rfl
            split
            · rfl
            split
            · rename_i h
              rw [nat_set _ _ _ _ h.2, if_neg (by omega)]
            · rfl
        · cases hs
      · exact stay_guard _
  split
  · unfold jumpM
    split
    · exact goto_guard _ _ _ sm
    split
    · exact goto_guard _ _ _ sm
    split
    · exact goto_guard _ _ _ sm
    split
    · split
      · rename_i h
        exact goto_guard _ _ _ (by rw [List.length_append, List.length_singleton]; omega)
      · exact stay_guard _
    split
    · split
      · exact pass_guard _
      · exact goto_guard _ _ _ (by rw [List.length_dropLast]; omega)
    split
    · exact goto_guard _ _ _ sm
    split
    · exact pass_guard _
    split
    · exact pass_guard _
    · exact goto_guard _ _ _ sm
  · unfold plainM
    split
    · exact stay_guard _
    split
    · exact goto_guard _ _ _ sm
    split
    · exact goto_guard _ _ _ sm
    · exact goto_guard _ _ _ sm
theorem hstep_guard (why : Nat) (hl : L.length = 16 * T.length) (few : T.length ≤ 256) : Guard G T L pc S ep home epoch (hstep G T L pc R S ep home epoch why) := by
  unfold hstep
  split
  · exact stay_guard _
  split
  · exact stay_guard _
  split
  · exact stay_guard _
  · exact exec_guard _ _ _ _ _ _ hl few
end
end Go.Proofs.Ythnbdeibjbicpaa.PM
