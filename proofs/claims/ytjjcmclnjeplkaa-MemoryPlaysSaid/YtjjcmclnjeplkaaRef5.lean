/- Contract of the reference's Used. Conditions: the slice's cells. -/
import Derived.Test.YtjjcmclnjeplkaaRef2
import Derived.Test.YtjjcmclnjeplkaaTab9
set_option linter.unusedSimpArgs false
namespace Go.Proofs.Ytjjcmclnjeplkaa.PM
set_option linter.unusedVariables false
open Go.RowKit
def bools (T : List Page) : List Value := T.map (fun p => Value.bool (usedB p))
theorem bools_next (T : List Page) (i : Nat) (hi : i < T.length) : bools (T.take (i + 1)) = bools (T.take i) ++ [.bool (usedB T[i]!)] := by
  rw [take_succ_eq T i hi]; simp [bools]
def RUsed (w : World) (T : List Page) (e : Ending) (w' : World) : Prop := ∃ v, e = .returned v ∧ w'.ownsRow (w.heap.size + 1) 4 1 v T.length (bools T) ∧ Below w.heap.size w w'
set_option maxHeartbeats 4000000 in
set_option maxRecDepth 100000 in
theorem rused_c (w : World) (b c : Nat) (T : List Page) (hp : Pgs w b T) (few : T.length ≤ 256) :
    Calls Try.prog 70 #[rv b c T] w fun e w' => RUsed w T e w' := by
  obtain ⟨i0, hi, hz0, hz1, hz2⟩ := info_parts info_bool
  have HP := Lib.hid hp
  have hb := hp.lt
  clear hp
  unfold rv
  go_enter Try.func70, Try.ntmps70
  go_wp2
  go_loopg [3, 4] T.length (fun gg s3 s4 wr => ∃ kk : Nat, kk ≤ T.length ∧ T.length - kk ≤ gg ∧ s4 = .int .i64 (kk : Int) ∧ Hid (wr.ownsRow (w.heap.size + 1) 4 1 s3 kk (bools (T.take kk))) ∧ Hid (Below (w.heap.size + 1) (w.alloc (.cells #[.slice (some ⟨b, 0, none⟩) T.length c] 44)) wr))
  case atStart => exact ⟨0, Nat.zero_le _, by omega, rfl, Lib.hid (World.ownsRow_nil _ _ _ _), Lib.hid (Below.refl _ _)⟩
  case round =>
    obtain ⟨kk, hkk, hg, rfl, OW, BW⟩ := hrel
    have r0 : wr.cell? ⟨w.heap.size, 0, none⟩ = some (.slice (some ⟨b, 0, none⟩) T.length c) := (BW.out.cell (p := ⟨w.heap.size, 0, none⟩) (by show w.heap.size < w.heap.size + 1; omega)).trans (by simp)
    have hws : w.heap.size + 1 ≤ wr.heap.size := by have := BW.out.size; simpa using this
    by_cases hlt : kk < T.length
    · have hltz : (kk : Int) < (T.length : Int) := by omega
      have hl := ((HP.out.alloc (.cells #[.slice (some ⟨b, 0, none⟩) T.length c] 44)).kept (BW.out.mono (by simp) : Below (w.alloc (.cells #[.slice (some ⟨b, 0, none⟩) T.length c] 44)).heap.size _ wr)).lies hlt
      have hnx := bools_next T kk hlt
      have hub := usedB_eq T[kk]!
      generalize T[kk]! = y at hl hnx hub
      have c0 := hl.c0
      have HX := Lib.hid hnx
      have HU := Lib.hid hub
      clear hl hnx hub
      go_wp2_with (at_builtin; refine wpList_append_own _ rfl _ _ 55 rfl (w.heap.size + 1) 4 i0 (.bool false) 1 1 Try.underlying55 hi hz0 hz1 hz2 rfl (by decide) _ _ _ rfl (OW.out.alloc _) ⟨wr.heap.size, 0, none⟩ 1 1 [.bool ((y.s : Int) != 0)] rfl rfl ?c1 ?c2 ?c3 ?c4 ?c5 ?_)
      case c1 =>
        intro j u hj
        match j, hj with
        | 0, hj => simp at hj; subst hj; simp [Addr.add]
      case c2 => intro u hu; simp at hu; subst hu; rfl
      case c3 => unfold maxLen; omega
      case c4 => omega
      case c5 => simp; omega
      intro v' w1 hown hgrow _
      have HB := Lib.hid ((BW.out.alloc hws _).grown hgrow (by simp; omega) (fun g hg => (OW.out.lt g hg).1))
      have HO : Hid (w1.ownsRow (w.heap.size + 1) 4 1 v' (kk + 1) (bools (T.take (kk + 1)))) := Lib.hid (by rw [HX.out, HU.out]; exact hown)
      clear hown hgrow
      go_wp2
      go_roundg (T.length - (kk + 1))
      case measure => omega
      case rel => exact ⟨kk + 1, by omega, by omega, by go_num, HO, HB⟩
    · have hltz : ¬ (kk : Int) < (T.length : Int) := by omega
      have : kk = T.length := by omega
      subst this
      have F : Hid (RUsed w T (.returned u3) wr) := Lib.hid ⟨u3, rfl, by simpa using OW.out, ((Below.refl _ _).alloc (Nat.le_refl _) _).trans (BW.out.mono (by omega))⟩
      clear OW BW
      go_wp2
      go_ret
      exact F.out
end Go.Proofs.Ytjjcmclnjeplkaa.PM
