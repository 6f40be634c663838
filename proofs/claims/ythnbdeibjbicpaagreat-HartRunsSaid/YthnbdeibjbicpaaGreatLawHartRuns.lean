/- HartRuns: so do many steps of one hart, one behind the other, with any epochs. Conditions: none. -/
import Derived.Test.YthnbdeibjbicpaaGreatLawG1
import Derived.Test.YthnbdeibjbicpaaGreatKOpen
set_option linter.unusedSimpArgs false
namespace Go.Proofs.YthnbdeibjbicpaaGreat.hartRuns
open Go.ChangeShapes Go.WideShapes Go.ChangeAt Go.RowKit Go.Proofs.YthnbdeibjbicpaaGreat.Frame
open Go.ChangeMaps (open_string shut_string)
set_option linter.unusedVariables false
set_option maxRecDepth 100000 in
theorem lifted (os : Os) (started : os.Started) (H : Type) (enc : TypeId × Value → H) :
    ReturnsInHanded {} Tryz.checked os 4 .any (Rows.hartRunsSpec.pre6 enc Tryz.prog Tryz.f4 Rows.hartRunsRow.domain false) (Rows.hartRunsSpec.post enc Tryz.prog Tryz.f4 false true false false) := by
  refine returnsInHanded_of_change_sized (C := Tryz.checked) own started (by kernel_rfl) Tryz.func4
    (ChangeSpec.witness6 (enc := enc) (C := Tryz.checked) false ⟨#[], #[.agg #[.slice none 0 0, .slice none 0 0, .int .u32 0, .bool false], .agg #[.int .u32 0, .int .u32 0, .int .u32 0, .int .u32 0, .int .u32 0, .int .u32 0, .int .u32 0, .int .u32 0, .int .u32 0, .slice none 0 0, .int .u8 0, .int .u64 0, .int .u32 0], .slice none 0 0], []⟩ 8 (by kernel_rfl) (by kernel_rfl) (by kernel_rfl) (by kernel_rfl)) ?_
  intro W base args ds gs before hval0 hW hcnd hsz0 _
  have hsz : (DataW.weightsEach Tryz.prog (Tryz.f4.params.toList ++ Rows.hartRunsSpec.plain.varTypes Tryz.prog) (ds ++ gs)).all (· ≤ reachBytes) = true := hsz0
  have hval : ∀ (j : Nat) t v, Tryz.f4.params[j]? = some t → args[j]? = some v → Value.okWide Tryz.prog W .any base t v := hval0
  have hW0 := hW
  obtain ⟨p, q, hA0, hV, rfl, hfz, hnd⟩ := hW
  have hA : DataW.TrodAll enc Tryz.prog W 0 (fun _ => true) true Tryz.f4.params.toList args.toList ds p := hA0
  rw [Tryz.params4] at hA hval hsz
  obtain ⟨v0, vs0, d0, ds0, p0, q0, hargs, rfl, rfl, h0, r0⟩ := trodAll_cons hA
  obtain ⟨v1, vs1, d1, ds1, p1, q1, rfl, rfl, rfl, h1, r1⟩ := trodAll_cons r0
  obtain ⟨v2, vs2, d2, ds2, p2, q2, rfl, rfl, rfl, h2, r2⟩ := trodAll_cons r1
  obtain ⟨rfl, rfl, rfl⟩ := trodAll_nil r2
  obtain rfl : args = #[v0, v1, v2] := by cases args; simp_all
  obtain ⟨rfl, rfl⟩ := trodVars_none hV
  obtain ⟨s1, C, c1, s2, D, c2, gate, ret, rfl, k1, k2, q1, q2, hg⟩ := open_land (hval 0 25 v0 rfl rfl) h0
  obtain ⟨p, R, s, S, c, y, ep, hm, rfl, hS, hM, hp, hR, hb, hw⟩ := open_hart (hval 1 30 v1 rfl rfl) h1
  have hm4 := home_lt h1
  obtain ⟨se, E, cE, rfl, hE, hE8⟩ := open_byte_row (hval 2 51 v2 rfl rfl) h2
  have n1 := hart_len hsz (j := 1) rfl rfl hw
  clear hA0 hval0 hsz0
  refine (PM.law_hruns s1 C c1 s2 D c2 gate ret p R s S c y ep hm se E cE W k1 k2 hS hE n1 q1 q2 hg hp hR (mem_of_get hb) hm4 hE8).mono fun e W' ⟨he, bel⟩ => ?_
  subst he
  exact ⟨_, rfl, post_true laid Tryz.underlying4 rfl (read_of (by kernel_rfl)) rfl rfl hW0 bel⟩
theorem over : Rows.hartRunsRow.holds Tryz.pinned (OpenSpec.ofChange Rows.hartRunsSpec) :=
  OpenClaim.holds_of_wide 4 Tryz.f4 rfl rfl rfl rfl rfl rfl rfl ⟨rfl, rfl, rfl, rfl, rfl⟩ rfl rfl rfl rfl rfl (by kernel_rfl) Tryz.func4 (by kernel_rfl)
    (of_decide_eq_true (by kernel_rfl)) (by unfold Func.isWrapper; first | (rw [if_pos (by decide +kernel)]; kernel_rfl) | (rw [if_neg (by decide +kernel)]; exact ⟨rfl, rfl⟩))
    (fun os started H enc _ => lifted os started H enc)
end Go.Proofs.YthnbdeibjbicpaaGreat.hartRuns
namespace Go.Proofs.YthnbdeibjbicpaaGreat
/-- The statement. -/
theorem hartRuns_holds : Rows.HartRunsSaid := hartRuns.over
#print axioms hartRuns_holds
end Go.Proofs.YthnbdeibjbicpaaGreat
