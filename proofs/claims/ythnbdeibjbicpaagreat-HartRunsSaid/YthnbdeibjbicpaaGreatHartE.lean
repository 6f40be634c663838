/- The contract of hart.Step. Conditions: the hart's and the memory's cells; the registers, PC and what is fetched are words. -/
import Derived.Test.YthnbdeibjbicpaaGreatHartB
import Derived.Test.YthnbdeibjbicpaaGreatHartC
import Derived.Test.YthnbdeibjbicpaaGreatHartD
set_option linter.unusedSimpArgs false
namespace Go.Proofs.YthnbdeibjbicpaaGreat.PM
set_option linter.unusedVariables false
open Go.RowKit
theorem step_c (w : World) (M g h c d cd : Nat) (G : Nat → Nat) (T : List Page) (L : List Nat) (pc : Nat) (R : Nat → Nat) (S : List Nat) (ep home epoch why : Nat) (src : Option Addr) (cap : Nat) (m : Mem w M g h c d cd G T L) (hS : Stk w src S) (hn : S.length < 35184372088832)
    (hpc : pc < 4294967296) (hR : ∀ i, i < 8 → R i < 4294967296) (hf0 : (fetchM G T L pc ep).1 < 4294967296) :
    Calls Tryz.prog 7 #[hv pc R (.slice src S.length cap) why ep home, .pointer (some ⟨M, 0, none⟩), .int .u64 (epoch : Int)] w fun e w' => StepP w M g h c d cd G T home (hstep G T L pc R S ep home epoch why) e w' := by
  unfold hstep
  by_cases hw : why ≠ 0
  · rw [if_pos hw]
    exact step_still w M g h c d cd G T L pc R S ep home epoch why src cap m hS hn (by simp; omega)
  rw [if_neg hw]
  have hz : why = 0 := by omega
  have hwb : ((why : Int) != 0) = false := by simp; omega
  by_cases hf : (fetchM G T L pc ep).2.2 = false
  · rw [if_pos hf]
    exact step_fetch_no w M g h c d cd G T L pc R S ep home epoch why src cap m hS hn hwb hpc hf
  rw [if_neg hf]
  have hf : (fetchM G T L pc ep).2.2 = true := by simpa using hf
  by_cases hb : IM.chk (IM.dOp (fetchM G T L pc ep).1) (IM.dD (fetchM G T L pc ep).1) (IM.dA (fetchM G T L pc ep).1) (IM.dB (fetchM G T L pc ep).1) (IM.dI (fetchM G T L pc ep).1) ≠ 0 ∨ IM.encN (IM.dOp (fetchM G T L pc ep).1) (IM.dD (fetchM G T L pc ep).1) (IM.dA (fetchM G T L pc ep).1) (IM.dB (fetchM G T L pc ep).1) (IM.dI (fetchM G T L pc ep).1) ≠ (fetchM G T L pc ep).1
  · rw [if_pos hb]
    exact step_word_no w M g h c d cd G T L pc R S ep home epoch why src cap m hS hn hwb hpc hf hf0 hb
  rw [if_neg hb]
  rcases hq : fetchM G T L pc ep with ⟨f0, f1, f2⟩
  rw [hq] at hf hf0 hb
  simp only at hf hf0 hb ⊢
  subst hf
  have h1 : IM.chk (IM.dOp f0) (IM.dD f0) (IM.dA f0) (IM.dB f0) (IM.dI f0) = 0 := by
    rcases Decidable.em (IM.chk (IM.dOp f0) (IM.dD f0) (IM.dA f0) (IM.dB f0) (IM.dI f0) = 0) with q | q
    · exact q
    · exact absurd (.inl q) hb
  have h2 : IM.encN (IM.dOp f0) (IM.dD f0) (IM.dA f0) (IM.dB f0) (IM.dI f0) = f0 := by
    rcases Decidable.em (IM.encN (IM.dOp f0) (IM.dD f0) (IM.dA f0) (IM.dB f0) (IM.dI f0) = f0) with q | q
    · exact q
    · exact absurd (.inr q) hb
  have may := IM.chk_may h1
  have rng := may.range
  have ho := may.good.ho
  have hd := IM.regB_le may.good.hd
  have ha := IM.regB_le may.good.ha
  have hbb := IM.regB_le may.good.hb
  have en := may.enter
  have DO := fun W => dec_ok f0 hf0 h1 h2 W
  clear h1 h2 may hb
  generalize IM.dOp f0 = op at *
  generalize IM.dD f0 = rd at *
  generalize IM.dA f0 = ra at *
  generalize IM.dB f0 = rb at *
  generalize IM.dI f0 = imm at *
  unfold exec
  have nb : ∀ k : Nat, op ≠ k → ((op : Int) == (k : Int)) = false := fun k h => by rw [beq_eq_false_iff_ne]; omega
  by_cases c1 : 3 ≤ op ∧ op ≤ 10
  · rw [if_pos c1]
    exact step_reckon w M g h c d cd G T L pc R S ep home epoch why src cap m hS hn hwb hpc hz f0 f1 hq op rd ra rb imm DO _ c1.1 c1.2 (by omega) (by omega) (by omega) hR rfl
  rw [if_neg c1]
  by_cases c2 : op = 12 ∨ op = 13
  · rw [if_pos c2]
    exact step_touch w M g h c d cd G T L pc R S ep home epoch why src cap m hS hn hwb hpc hz f0 f1 hq op rd ra rb imm DO _ (by omega) (by omega) (by rcases c2 with e | e <;> subst e <;> rfl)
      (fun W B s p => touch_g W _ B pc R s S ep home M g h c d cd G T L epoch f1 p op rd ra rb imm (by omega) (by omega) c2)
  rw [if_neg c2]
  by_cases c3 : 14 ≤ op
  · rw [if_pos c3]
    exact step_jump w M g h c d cd G T L pc R S ep home epoch why src cap m hS hn hwb hpc hz f0 f1 hq op rd ra rb imm DO _ (by omega) (by omega) (nb 12 (by omega)) (nb 13 (by omega)) (by omega)
      (fun W B s p => jump_g W _ B pc R s S ep home M g h c d cd G T L epoch f1 p op rd ra rb imm (by omega) (by omega) (by omega) (by omega) c3 ho hn en)
  rw [if_neg c3]
  by_cases c4 : op = 11
  · exact step_addi w M g h c d cd G T L pc R S ep home epoch why src cap m hS hn hwb hpc hz f0 f1 hq op rd ra rb imm DO _ (by omega) (by omega) (nb 12 (by omega)) (nb 13 (by omega)) (by omega)
      (fun W B s p => plain_g W _ B pc R s S ep home M g h c d cd G T L epoch f1 p op rd ra rb imm (by omega) (by omega) (by omega))
  · exact step_plain w M g h c d cd G T L pc R S ep home epoch why src cap m hS hn hwb hpc hz f0 f1 hq op rd ra rb imm DO _ (by omega) (nb 12 (by omega)) (nb 13 (by omega)) (by omega)
      (fun W B s p => plain_g W _ B pc R s S ep home M g h c d cd G T L epoch f1 p op rd ra rb imm (by omega) (by omega) (by omega))
end Go.Proofs.YthnbdeibjbicpaaGreat.PM
