/- IsaApart: two instructions that may be have one word just if they are one. Conditions: none. -/
import Derived.Test.YtgnminoiddnheaaLawB2
import Derived.Test.YtgnminoiddnheaaOpenIns
namespace Go.Proofs.Ytgnminoiddnheaa.isaApart
open Go.ChangeShapes Go.WideShapes Go.ChangeAt Go.RowKit Go.Proofs.Ytgnminoiddnheaa.Frame
open Go.ChangeMaps (open_string shut_string)
set_option linter.unusedVariables false
set_option maxRecDepth 100000 in
theorem lifted (os : Os) (started : os.Started) (H : Type) (enc : TypeId × Value → H) :
    ReturnsInHanded {} Try.checked os 7 .any (Rows.isaApartSpec.pre6 enc Try.prog Try.f7 Rows.isaApartRow.domain false) (Rows.isaApartSpec.post enc Try.prog Try.f7 false true false false) := by
  refine returnsInHanded_of_change_sized (C := Try.checked) own started (by kernel_rfl) Try.func7
    (ChangeSpec.witness6 (enc := enc) (C := Try.checked) false ⟨#[], #[.agg #[.int .u8 0, .int .u8 0, .int .u8 0, .int .u8 0, .int .i32 0], .agg #[.int .u8 0, .int .u8 0, .int .u8 0, .int .u8 0, .int .i32 0]], []⟩ 8 (by kernel_rfl) (by kernel_rfl) (by kernel_rfl) (by kernel_rfl)) ?_
  intro W base args ds gs before hval0 hW hcnd hsz0 _
  have hsz : (DataW.weightsEach Try.prog (Try.f7.params.toList ++ Rows.isaApartSpec.plain.varTypes Try.prog) (ds ++ gs)).all (· ≤ reachBytes) = true := hsz0
  have hval : ∀ (j : Nat) t v, Try.f7.params[j]? = some t → args[j]? = some v → Value.okWide Try.prog W .any base t v := hval0
  have hW0 := hW
  obtain ⟨p, q, hA0, hV, rfl, hfz, hnd⟩ := hW
  have hA : DataW.TrodAll enc Try.prog W 0 (fun _ => true) true Try.f7.params.toList args.toList ds p := hA0
  rw [Try.params7] at hA hval hsz
  obtain ⟨v0, vs0, d0, ds0, p0, q0, hargs, rfl, rfl, h0, r0⟩ := trodAll_cons hA
  obtain ⟨v1, vs1, d1, ds1, p1, q1, rfl, rfl, rfl, h1, r1⟩ := trodAll_cons r0
  obtain ⟨rfl, rfl, rfl⟩ := trodAll_nil r1
  obtain rfl : args = #[v0, v1] := by cases args; simp_all
  obtain ⟨rfl, rfl⟩ := trodVars_none hV
  obtain ⟨op0, d_0, a_0, b_0, i0, rfl, m0, M0⟩ := open_ins (hval 0 24 v0 rfl rfl) h0
  obtain ⟨op1, d_1, a_1, b_1, i1, rfl, m1, M1⟩ := open_ins (hval 1 24 v1 rfl rfl) h1
  clear hA0 hval0 hsz0
  refine (B1.law_apart op0 d_0 a_0 b_0 i0 op1 d_1 a_1 b_1 i1 W m0 M0 m1 M1).mono fun e W' ⟨he, bel⟩ => ?_
  subst he
  exact ⟨_, rfl, post_true laid Try.underlying4 rfl (read_of (by kernel_rfl)) rfl rfl hW0 bel⟩
theorem over : Rows.isaApartRow.holds Try.pinned (OpenSpec.ofChange Rows.isaApartSpec) :=
  OpenClaim.holds_of_wide 7 Try.f7 rfl rfl rfl rfl rfl rfl rfl ⟨rfl, rfl, rfl, rfl, rfl⟩ rfl rfl rfl rfl rfl (by kernel_rfl) Try.func7 (by kernel_rfl)
    (of_decide_eq_true (by kernel_rfl)) (by unfold Func.isWrapper; first | (rw [if_pos (by decide +kernel)]; kernel_rfl) | (rw [if_neg (by decide +kernel)]; exact ⟨rfl, rfl⟩))
    (fun os started H enc _ => lifted os started H enc)
end Go.Proofs.Ytgnminoiddnheaa.isaApart
namespace Go.Proofs.Ytgnminoiddnheaa
/-- The statement. -/
theorem isaApart_holds : Rows.IsaApartSaid := isaApart.over
#print axioms isaApart_holds
end Go.Proofs.Ytgnminoiddnheaa
