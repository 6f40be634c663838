/- The contract of budwoodref09's Step. Conditions: the hart's and the memory's cells; the registers, PC and what is fetched are words. -/
import Derived.Test.YthnbdeibjbicpaaGreatKStepC
import Derived.Test.YthnbdeibjbicpaaGreatStepF
import Derived.Test.YthnbdeibjbicpaaGreatStepG
import Derived.Test.YthnbdeibjbicpaaGreatStepH
import Derived.Test.YthnbdeibjbicpaaGreatStepI
import Derived.Test.YthnbdeibjbicpaaGreatKStepK
set_option linter.unusedSimpArgs false
namespace Go.Proofs.YthnbdeibjbicpaaGreat.PM
set_option linter.unusedVariables false
open Go.RowKit
theorem rdec_ok (x : Nat) (hx : x < 4294967296) (h1 : IM.chk (IM.dOp x) (IM.dD x) (IM.dA x) (IM.dB x) (IM.dI x) = 0) (h2 : IM.encN (IM.dOp x) (IM.dD x) (IM.dA x) (IM.dB x) (IM.dI x) = x) (W : World) :
    Calls Tryz.prog 36 #[.int .u32 (x : Int)] W fun e w' => e = .returned (.tuple #[.agg #[.int .u8 (IM.dOp x : Int), .int .u8 (IM.dD x : Int), .int .u8 (IM.dA x : Int), .int .u8 (IM.dB x : Int), .int .i32 (IM.dI x)], .int .i64 0]) ∧ Below W.heap.size W w' := by
  have := I8.rdecode_go x _ _ _ _ _ W hx rfl rfl rfl rfl rfl _ rfl 0 h1 x (by unfold I7.encV; rw [if_pos h1]; exact h2) false false rfl (by simp)
  exact this.mono fun e w' r => ⟨by simpa using r.1, r.2⟩
theorem rdec_no (x : Nat) (hx : x < 4294967296) (h : IM.chk (IM.dOp x) (IM.dD x) (IM.dA x) (IM.dB x) (IM.dI x) ≠ 0 ∨ IM.encN (IM.dOp x) (IM.dD x) (IM.dA x) (IM.dB x) (IM.dI x) ≠ x) (W : World) :
    Calls Tryz.prog 36 #[.int .u32 (x : Int)] W fun e w' => e = .returned (.tuple #[.agg #[.int .u8 0, .int .u8 0, .int .u8 0, .int .u8 0, .int .i32 0], .int .i64 10]) ∧ Below W.heap.size W w' := by
  have key := fun t1 t2 a b => I8.rdecode_go x _ _ _ _ _ W hx rfl rfl rfl rfl rfl _ rfl _ rfl _ rfl t1 t2 a b
  by_cases h1 : IM.chk (IM.dOp x) (IM.dD x) (IM.dA x) (IM.dB x) (IM.dI x) = 0
  · have h2 : IM.encN (IM.dOp x) (IM.dD x) (IM.dA x) (IM.dB x) (IM.dI x) ≠ x := by
      rcases h with h | h
      · exact absurd h1 h
      · exact h
    have := key false true (by simp [h1]) (by unfold I7.encV; rw [if_pos h1]; simp; omega)
    exact this.mono fun e w' r => ⟨by simpa using r.1, r.2⟩
  · have := key true _ (by simpa using h1) rfl
    exact this.mono fun e w' r => ⟨by simpa using r.1, r.2⟩
theorem len_store9 (T : List Page) (L : List Nat) (x v ep o : Nat) : (storeM T L x v ep o).1.length = L.length := by
  unfold storeM
  split <;> simp
theorem wrap_sum (a b : Nat) : IntKind.u32.wrap ((a : Int) + (b : Int)) = (((a + b) % 4294967296 : Nat) : Int) := by
  unfold IntKind.wrap
  simp [IntKind.bits, IntKind.signed]
theorem rstep_c (w : World) (b cb e ce : Nat) (G : Nat → Nat) (T : List Page) (L : List Nat) (pc : Nat) (R : Nat → Nat) (S : List Nat) (ep home epoch why : Nat) (src : Option Addr) (cap : Nat) (r : RM w b e T L) (hS : Stk w src S) (hn : S.length < 35184372088832)
    (hpc : pc < 4294967296) (hR : ∀ i, i < 8 → R i < 4294967296) (hf0 : (fetchM G T L pc ep).1 < 4294967296) :
    Calls Tryz.prog 8 #[hv pc R (.slice src S.length cap) why ep home, rm G b cb T e ce L, .int .u64 (epoch : Int)] w fun en w' => RStep w b cb e G T home (hstep G T L pc R S ep home epoch why) en w' := by
  have FCA := fun W (q : RM W b e T L) => rfetch_c W G b cb e ce T L q pc ep hpc
  unfold hstep
  by_cases hw : why ≠ 0
  · rw [if_pos hw]
    exact rstep_still w b cb e ce G T L pc R S ep home epoch why src cap r hS hn (by simp; omega)
  rw [if_neg hw]
  have hz : why = 0 := by omega
  subst hz
  have hwb : (((0 : Nat) : Int) != 0) = false := by simp
  clear hw
  rcases hq : fetchM G T L pc ep with ⟨f0, f1, f2⟩
  rw [hq] at hf0 FCA
  simp only at hf0 ⊢
  by_cases hf : f2 = false
  · subst hf
    rw [if_pos rfl]
    exact rstep_fetch w b cb e ce G T L pc R S ep home epoch 0 src cap r hS hn f0 f1 hwb FCA
  rw [if_neg hf]
  have hf : f2 = true := by simpa using hf
  subst hf
  by_cases hb : IM.chk (IM.dOp f0) (IM.dD f0) (IM.dA f0) (IM.dB f0) (IM.dI f0) ≠ 0 ∨ IM.encN (IM.dOp f0) (IM.dD f0) (IM.dA f0) (IM.dB f0) (IM.dI f0) ≠ f0
  · rw [if_pos hb]
    exact rstep_word w b cb e ce G T L pc R S ep home epoch 0 src cap r hS hn f0 f1 hwb FCA (rdec_no f0 hf0 hb)
  rw [if_neg hb]
  have h1 : IM.chk (IM.dOp f0) (IM.dD f0) (IM.dA f0) (IM.dB f0) (IM.dI f0) = 0 := by
    rcases Decidable.em (IM.chk (IM.dOp f0) (IM.dD f0) (IM.dA f0) (IM.dB f0) (IM.dI f0) = 0) with q | q
    · exact q
    · exact absurd (.inl q) hb
  have h2 : IM.encN (IM.dOp f0) (IM.dD f0) (IM.dA f0) (IM.dB f0) (IM.dI f0) = f0 := by
    rcases Decidable.em (IM.encN (IM.dOp f0) (IM.dD f0) (IM.dA f0) (IM.dB f0) (IM.dI f0) = f0) with q | q
    · exact q
    · exact absurd (.inr q) hb
  have may := IM.chk_may h1
  have rng := may.range
  have ho := may.good.ho
  have hd := IM.regB_le may.good.hd
  have ha := IM.regB_le may.good.ha
  have hbb := IM.regB_le may.good.hb
  have en := may.enter
  have DO := fun W => rdec_ok f0 hf0 h1 h2 W
  clear h1 h2 may hb
  generalize IM.dOp f0 = op at *
  generalize IM.dD f0 = rd at *
  generalize IM.dA f0 = ra at *
  generalize IM.dB f0 = rb at *
  generalize IM.dI f0 = imm at *
  have TG : ∀ W, Calls Tryz.prog 38 #[.int .u32 (pc : Int), .agg #[.int .u8 (op : Int), .int .u8 (rd : Int), .int .u8 (ra : Int), .int .u8 (rb : Int), .int .i32 imm]] W fun e w' => e = .returned (.tuple #[.int .u32 ((tgtN pc op rd ra rb imm : Nat) : Int), .bool (I9.tgtB op rd ra rb imm)]) ∧ Below W.heap.size W w' := fun W => by
    have := I9.rtarget pc op rd ra rb imm W (by omega) (by omega)
    rw [tgtN_eq] at this
    exact this
  have hi := immU_eq imm
  have gal := getR_ltM hR (show ra < 8 by omega)
  have gdl := getR_ltM hR (show rd < 8 by omega)
  have gbl := getR_ltM hR (show rb < 8 by omega)
  unfold exec
  by_cases c1 : 3 ≤ op ∧ op ≤ 10
  · rw [if_pos c1]
    exact rinstr_reck w b cb e ce G T L pc R S ep home epoch 0 src cap r hS hn f0 f1 op rd ra rb imm _ _ _ _ _ hwb FCA DO TG hi rfl rfl (by omega) (by omega) _ _ rfl (by omega) rfl gal gbl _ c1 (fun _ => rfl)
  rw [if_neg c1]
  by_cases c2 : op = 12 ∨ op = 13
  · rw [if_pos c2]
    have LDC := fun W (q : RM W b e T L) => rload_c W G b cb e ce T L q ((getR R ra + immU imm) % 4294967296) ep (by omega)
    have STC := fun W (q : RM W b e T L) => rstore_c W G b cb e ce T L q ((getR R ra + immU imm) % 4294967296) (getR R rd) ep f1 (by omega)
    have hl2 := len_store9 T L ((getR R ra + immU imm) % 4294967296) (getR R rd) ep f1
    refine rinstr_touch w b cb e ce G T L pc R S ep home epoch 0 src cap r hS hn f0 f1 op rd ra rb imm _ _ _ _ _ hwb FCA DO TG hi rfl rfl (by omega) (by omega) _ (loadM G T L ((getR R ra + immU imm) % 4294967296) ep).1 (loadM G T L ((getR R ra + immU imm) % 4294967296) ep).2 (storeM T L ((getR R ra + immU imm) % 4294967296) (getR R rd) ep f1).2 (storeM T L ((getR R ra + immU imm) % 4294967296) (getR R rd) ep f1).1 rfl LDC STC hl2 _ ?_ ?_ ?_ ?_ ?_
    · rcases c2 with h | h
      · cases (loadM G T L ((getR R ra + immU imm) % 4294967296) ep).2
        · exact .inr (.inl ⟨h, rfl⟩)
        · exact .inl ⟨h, rfl⟩
      · cases (storeM T L ((getR R ra + immU imm) % 4294967296) (getR R rd) ep f1).2
        · exact .inr (.inr (.inr ⟨h, rfl⟩))
        · exact .inr (.inr (.inl ⟨h, rfl⟩))
    · rintro ⟨h, q⟩
      unfold touchM
      simp only
      rw [if_pos h, if_pos q]
      rfl
    · rintro ⟨h, q⟩
      unfold touchM
      simp only
      rw [if_pos h, if_neg (by rw [q]; decide)]
      rfl
    · rintro ⟨h, q⟩
      unfold touchM
      simp only
      rw [if_neg (by omega), if_pos q]
    · rintro ⟨h, q⟩
      unfold touchM
      simp only
      rw [if_neg (by omega), if_neg (by rw [q]; decide)]
      rfl
  rw [if_neg c2]
  by_cases c3 : 14 ≤ op
  · rw [if_pos c3]
    have PS : ∀ y : Nat, S = [] → passM L pc R S ep home epoch y = ⟨home, R, S, 0, epoch, L, true, false, 0, 0⟩ := fun y h => by unfold passM; rw [if_pos h]
    have PN : ∀ y : Nat, ¬ S = [] → passM L pc R S ep home epoch y = stay L pc R S ep y := fun y h => by unfold passM; rw [if_neg h]
    by_cases d1 : op = 14 ∨ op = 15 ∨ op = 16 ∨ op = 19
    · refine rinstr_jump w b cb e ce G T L pc R S ep home epoch 0 src cap r hS hn f0 f1 op rd ra rb imm _ _ _ _ _ hwb FCA DO TG hi rfl rfl (by omega) (by omega) _ ?_ ?_ ?_ ?_ ?_ ?_ ?_
      · rcases d1 with h | h | h | h
        · exact .inl h
        · by_cases q : getR R rd = getR R ra
          · exact .inr (.inl ⟨h, q⟩)
          · exact .inr (.inr (.inl ⟨h, q⟩))
        · by_cases q : getR R rd = getR R ra
          · exact .inr (.inr (.inr (.inl ⟨h, q⟩)))
          · exact .inr (.inr (.inr (.inr (.inl ⟨h, q⟩))))
        · exact .inr (.inr (.inr (.inr (.inr h))))
      · intro h
        unfold jumpM
        rw [if_pos h]
        rfl
      · rintro ⟨h, q⟩
        unfold jumpM
        rw [if_neg (by omega), if_pos h, if_pos q]
        rfl
      · rintro ⟨h, q⟩
        unfold jumpM
        rw [if_neg (by omega), if_pos h, if_neg q]
        rfl
      · rintro ⟨h, q⟩
        unfold jumpM
        rw [if_neg (by omega), if_neg (by omega), if_pos h, if_pos q]
        rfl
      · rintro ⟨h, q⟩
        unfold jumpM
        rw [if_neg (by omega), if_neg (by omega), if_pos h, if_neg q]
        rfl
      · intro h
        unfold jumpM
        rw [if_neg (by omega), if_neg (by omega), if_neg (by omega), if_neg (by omega), if_neg (by omega), if_pos h]
        rfl
    by_cases d2 : op = 17 ∨ op = 18
    · refine rinstr_stack w b cb e ce G T L pc R S ep home epoch 0 src cap r hS hn f0 f1 op rd ra rb imm _ _ _ _ _ hwb FCA DO TG hi rfl rfl (by omega) (by omega) S.dropLast (S.getLastD 0) ?lst _ ?_ ?_ ?_ ?_ ?_
      case lst =>
        intro q
        rw [List.getLastD_eq_getLast?, List.getLast?_eq_some_getLast q]
        exact (List.dropLast_concat_getLast q).symm
      · rcases d2 with h | h
        · by_cases q : S.length < 16
          · exact .inl ⟨h, q⟩
          · exact .inr (.inl ⟨h, q⟩)
        · by_cases q : S = []
          · exact .inr (.inr (.inl ⟨h, q⟩))
          · exact .inr (.inr (.inr ⟨h, q⟩))
      · rintro ⟨h, q⟩
        unfold jumpM
        rw [if_neg (by omega), if_neg (by omega), if_neg (by omega), if_pos h, if_pos q]
        rfl
      · rintro ⟨h, q⟩
        unfold jumpM
        rw [if_neg (by omega), if_neg (by omega), if_neg (by omega), if_pos h, if_neg q]
        rfl
      · rintro ⟨h, q⟩
        unfold jumpM
        rw [if_neg (by omega), if_neg (by omega), if_neg (by omega), if_neg (by omega), if_pos h, if_pos q, PS 6 q]
      · rintro ⟨h, q⟩
        unfold jumpM
        rw [if_neg (by omega), if_neg (by omega), if_neg (by omega), if_neg (by omega), if_pos h, if_neg q]
        rfl
    have d3 : op = 20 ∨ op = 21 := by omega
    have GC := fun W => rgate_c W G b cb e ce T L ((Int.tdiv imm 8).toNat : Int)
    have gi8 : op = 21 → (if 0 ≤ ((Int.tdiv imm 8).toNat : Int) ∧ ((Int.tdiv imm 8).toNat : Int) < 8 then G ((Int.tdiv imm 8).toNat : Int).toNat else 0) = G (Int.tdiv imm 8).toNat := fun h => by
      obtain ⟨z0, z63⟩ := en h
      have : Int.tdiv imm 8 = imm / 8 := Int.tdiv_eq_ediv_of_nonneg z0
      rw [if_pos (by rw [this]; omega)]
      rfl
    generalize hgv : (if 0 ≤ ((Int.tdiv imm 8).toNat : Int) ∧ ((Int.tdiv imm 8).toNat : Int) < 8 then G ((Int.tdiv imm 8).toNat : Int).toNat else 0) = gv at GC gi8
    refine rinstr_safe w b cb e ce G T L pc R S ep home epoch 0 src cap r hS hn f0 f1 op rd ra rb imm _ _ _ _ _ hwb FCA DO TG hi rfl rfl (by omega) (by omega) (Int.tdiv imm 8).toNat gv (Int.tmod imm 8).toNat _ GC ?e1 ?e2 (wrap_sum _ _) _ ?_ ?_ ?_ ?_ ?_ ?_
    case e1 =>
      intro h
      obtain ⟨z0, z63⟩ := en h
      have w1 : wrap64 imm = imm := by unfold wrap64; omega
      have w2 : Int.tdiv imm 8 = imm / 8 := Int.tdiv_eq_ediv_of_nonneg z0
      rw [w1, w2]
      unfold wrap64
      omega
    case e2 =>
      intro h
      obtain ⟨z0, z63⟩ := en h
      have e1 : ((immU imm : Nat) : Int) = imm := by rw [← hi]; omega
      rw [e1, Int.tmod_eq_emod_of_nonneg z0]
      omega
    · rcases d3 with h | h
      · by_cases q : S = []
        · exact .inl ⟨h, q⟩
        · exact .inr (.inl ⟨h, q⟩)
      · by_cases g0 : gv = 0
        · by_cases q : S = []
          · exact .inr (.inr (.inl ⟨h, g0, q⟩))
          · exact .inr (.inr (.inr (.inl ⟨h, g0, q⟩)))
        · exact .inr (.inr (.inr (.inr ⟨h, g0⟩)))
    · rintro ⟨h, q⟩
      unfold jumpM
      rw [if_neg (by omega), if_neg (by omega), if_neg (by omega), if_neg (by omega), if_neg (by omega), if_neg (by omega), if_pos h, PS 6 q]
    · rintro ⟨h, q⟩
      unfold jumpM
      rw [if_neg (by omega), if_neg (by omega), if_neg (by omega), if_neg (by omega), if_neg (by omega), if_neg (by omega), if_pos h, PN 6 q]
      rfl
    · rintro ⟨h, g0, q⟩
      unfold jumpM
      rw [if_neg (by omega), if_neg (by omega), if_neg (by omega), if_neg (by omega), if_neg (by omega), if_neg (by omega), if_neg (by omega), ← gi8 h, if_pos g0, PS 2 q]
    · rintro ⟨h, g0, q⟩
      unfold jumpM
      rw [if_neg (by omega), if_neg (by omega), if_neg (by omega), if_neg (by omega), if_neg (by omega), if_neg (by omega), if_neg (by omega), ← gi8 h, if_pos g0, PN 2 q]
      rfl
    · rintro ⟨h, g0⟩
      unfold jumpM
      rw [if_neg (by omega), if_neg (by omega), if_neg (by omega), if_neg (by omega), if_neg (by omega), if_neg (by omega), if_neg (by omega), ← gi8 h, if_neg g0]
      rfl
  rw [if_neg c3]
  refine rinstr_plain w b cb e ce G T L pc R S ep home epoch 0 src cap r hS hn f0 f1 op rd ra rb imm _ _ _ _ _ hwb FCA DO TG hi rfl rfl (by omega) (by omega) _ (by omega) ?_ ?_ ?_ ?_
  · intro h
    unfold plainM
    rw [if_pos h]
    rfl
  · intro h
    unfold plainM
    rw [if_neg (by omega), if_neg (by omega), if_neg (by omega)]
    rfl
  · intro h
    unfold plainM
    rw [if_neg (by omega), if_pos h]
    rfl
  · intro h
    unfold plainM
    rw [if_neg (by omega), if_neg (by omega), if_pos h]
    rfl
end Go.Proofs.YthnbdeibjbicpaaGreat.PM
