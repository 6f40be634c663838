/- HartSames: any two harts are told to be one as the reference says; a copy is one, and has a stack of its own. Conditions: none. -/
import Derived.Test.YthnbdeibjbicpaaLawD3
import Derived.Test.YthnbdeibjbicpaaOpenH2
set_option linter.unusedSimpArgs false
namespace Go.Proofs.Ythnbdeibjbicpaa.hartSames
open Go.ChangeShapes Go.WideShapes Go.ChangeAt Go.RowKit Go.Proofs.Ythnbdeibjbicpaa.Frame
open Go.ChangeMaps (open_string shut_string)
set_option linter.unusedVariables false
set_option maxRecDepth 100000 in
theorem lifted (os : Os) (started : os.Started) (H : Type) (enc : TypeId × Value → H) :
    ReturnsInHanded {} Try.checked os 3 .any (Rows.hartSamesSpec.pre6 enc Try.prog Try.f3 Rows.hartSamesRow.domain false) (Rows.hartSamesSpec.post enc Try.prog Try.f3 false true false false) := by
  refine returnsInHanded_of_change_sized (C := Try.checked) own started (by kernel_rfl) Try.func3
    (ChangeSpec.witness6 (enc := enc) (C := Try.checked) false ⟨#[], #[.agg #[.int .u32 0, .int .u32 0, .int .u32 0, .int .u32 0, .int .u32 0, .int .u32 0, .int .u32 0, .int .u32 0, .int .u32 0, .slice none 0 0, .int .u8 0, .int .u64 0, .int .u32 0], .agg #[.int .u32 0, .int .u32 0, .int .u32 0, .int .u32 0, .int .u32 0, .int .u32 0, .int .u32 0, .int .u32 0, .int .u32 0, .slice none 0 0, .int .u8 0, .int .u64 0, .int .u32 0], .int .u32 0], []⟩ 8 (by kernel_rfl) (by kernel_rfl) (by kernel_rfl) (by kernel_rfl)) ?_
  intro W base args ds gs before hval0 hW hcnd hsz0 _
  have hsz : (DataW.weightsEach Try.prog (Try.f3.params.toList ++ Rows.hartSamesSpec.plain.varTypes Try.prog) (ds ++ gs)).all (· ≤ reachBytes) = true := hsz0
  have hval : ∀ (j : Nat) t v, Try.f3.params[j]? = some t → args[j]? = some v → Value.okWide Try.prog W .any base t v := hval0
  have hW0 := hW
  obtain ⟨p, q, hA0, hV, rfl, hfz, hnd⟩ := hW
  have hA : DataW.TrodAll enc Try.prog W 0 (fun _ => true) true Try.f3.params.toList args.toList ds p := hA0
  rw [Try.params3] at hA hval hsz
  obtain ⟨v0, vs0, d0, ds0, p0, q0, hargs, rfl, rfl, h0, r0⟩ := trodAll_cons hA
  obtain ⟨v1, vs1, d1, ds1, p1, q1, rfl, rfl, rfl, h1, r1⟩ := trodAll_cons r0
  obtain ⟨v2, vs2, d2, ds2, p2, q2, rfl, rfl, rfl, h2, r2⟩ := trodAll_cons r1
  obtain ⟨rfl, rfl, rfl⟩ := trodAll_nil r2
  obtain rfl : args = #[v0, v1, v2] := by cases args; simp_all
  obtain ⟨rfl, rfl⟩ := trodVars_none hV
  obtain ⟨p1, R1, s1, S1, c1, y1, e1, m1, rfl, hS1, hM1, hp1, hR1, hb1, hw1⟩ := open_hart (hval 0 28 v0 rfl rfl) h0
  obtain ⟨p2, R2, s2, S2, c2, y2, e2, m2, rfl, hS2, hM2, hp2, hR2, hb2, hw2⟩ := open_hart (hval 1 28 v1 rfl rfl) h1
  obtain ⟨a2, rfl, rfl, rfl, w2⟩ := open_int Try.underlying22 (hval 2 22 v2 rfl rfl) h2
  obtain ⟨hm, rfl⟩ := Int.eq_ofNat_of_zero_le (bounds_u32 w2).1
  have n1 := hart_len hsz (j := 0) rfl rfl hw1
  clear hA0 hval0 hsz0
  refine (PM.law_hsames p1 R1 s1 S1 c1 y1 e1 m1 p2 R2 s2 S2 c2 y2 e2 m2 hm W hS1 hS2 n1).mono fun e W' ⟨he, bel⟩ => ?_
  subst he
  exact ⟨_, rfl, post_true laid Try.underlying4 rfl (read_of (by kernel_rfl)) rfl rfl hW0 bel⟩
theorem over : Rows.hartSamesRow.holds Try.pinned (OpenSpec.ofChange Rows.hartSamesSpec) :=
  OpenClaim.holds_of_wide 3 Try.f3 rfl rfl rfl rfl rfl rfl rfl ⟨rfl, rfl, rfl, rfl, rfl⟩ rfl rfl rfl rfl rfl (by kernel_rfl) Try.func3 (by kernel_rfl)
    (of_decide_eq_true (by kernel_rfl)) (by unfold Func.isWrapper; first | (rw [if_pos (by decide +kernel)]; kernel_rfl) | (rw [if_neg (by decide +kernel)]; exact ⟨rfl, rfl⟩))
    (fun os started H enc _ => lifted os started H enc)
end Go.Proofs.Ythnbdeibjbicpaa.hartSames
namespace Go.Proofs.Ythnbdeibjbicpaa
/-- The statement. -/
theorem hartSames_holds : Rows.HartSamesSaid := hartSames.over
#print axioms hartSames_holds
end Go.Proofs.Ythnbdeibjbicpaa
