/- Contracts of the reference's Publish, Retire, Release. Conditions: the slice's cells. -/
import Derived.Test.YtjjcmclnjeplkaaRef3
import Derived.BigRegion
set_option linter.unusedSimpArgs false
namespace Go.Proofs.Ytjjcmclnjeplkaa.PM
set_option linter.unusedVariables false
open Go.RowKit
/-- What the reference's Publish does with the n-th page of an owner. -/
def pubFr (ow : Nat) (code : Int) (n : Nat) (_ : Page) : Page := ⟨2, decide ((n : Int) < code), decide (code ≤ (n : Int)), ow, 0⟩
def rpubM (T : List Page) (ow : Nat) (code : Int) : List Page × Nat :=
  if T.countP (sel ow (isS 1)) = 0 then (T, 8)
  else if code < 0 ∨ (T.countP (sel ow (isS 1)) : Int) < code then (T, 2)
  else (go (sel ow (isS 1)) (pubFr ow code) 0 T, 0)
theorem nums_at (l : List Nat) (r j : Nat) (h : l[r]? = some j) : (nums l)[r]? = some (.int .i64 (j : Int)) := by simp [nums, h]
theorem isS_or (q : Nat) (s : Nat) : isS q s = (((s : Int) == (q : Int)) || ((s : Int) == (q : Int))) := by
  unfold isS; rw [Bool.or_self, Bool.eq_iff_iff]; simp; omega
theorem isI_or (s : Nat) : isI s = (((s : Int) == ((1 : Nat) : Int)) || ((s : Int) == ((3 : Nat) : Int))) := by
  unfold isI; rw [Bool.eq_iff_iff]; simp; omega
set_option maxHeartbeats 8000000 in
theorem rret_c (w : World) (b c : Nat) (T : List Page) (hp : Pgs w b T) (few : T.length ≤ 256) (ow ep : Nat) :
    Calls Try.prog 68 #[rv b c T, .int .u16 (ow : Int), .int .u64 (ep : Int)] w fun e w' => RDone w b (retM T ow ep).1 (retM T ow ep).2 e w' := by
  have hb := hp.lt
  generalize hW0 : (w.alloc (.cells #[.slice (some ⟨b, 0, none⟩) T.length c] 44)).alloc (.cells #[.slice none 0 0] 44) = W0
  have BA : Blk W0 w.heap.size 44 #[.slice (some ⟨b, 0, none⟩) T.length c] := by rw [← hW0]; exact (Blk.new w _ _).alloc _
  have BZ : Blk W0 (w.heap.size + 1) 44 #[.slice none 0 0] := by
    rw [← hW0]
    have := Blk.new (w.alloc (.cells #[.slice (some ⟨b, 0, none⟩) T.length c] 44)) 44 #[.slice none 0 0]
    simpa using this
  have PW0 : Pgs W0 b T := by rw [← hW0]; exact (hp.alloc _).alloc _
  have S0 : W0.heap.size = w.heap.size + 2 := by rw [← hW0]; simp
  have B0 : Below w.heap.size w W0 := by rw [← hW0]; exact ((Below.refl _ _).alloc (Nat.le_refl _) _).alloc (by simp) _
  have OF := Lib.hid (of_c W0 b c T PW0 few ow 2 2 (isS 2) (isS_or 2))
  have NX := Lib.hid (goN_next (sel ow (isS 2)) (retF ep) T)
  have NZ := Lib.hid (goN_low (sel ow (isS 2)) (retF ep) 0 0 (Nat.le_refl _) T)
  have NF := Lib.hid (goN_high (sel ow (isS 2)) (retF ep) (T.countP (sel ow (isS 2))) 0 T (by omega))
  have NL := Lib.hid (fun r => goN_length (sel ow (isS 2)) (retF ep) r 0 T)
  have GL := Lib.hid (go_length (sel ow (isS 2)) (retF ep) 0 T)
  have hcl : T.countP (sel ow (isS 2)) ≤ T.length := List.countP_le_length
  have IX := Lib.hid (idx_length (sel ow (isS 2)) 0 T)
  unfold retM
  generalize hcn : T.countP (sel ow (isS 2)) = n at hcl NX NF OF IX ⊢
  have CN := Lib.hid hcn
  clear hcn
  have KW := Lib.hid hW0
  have BA := Lib.hid BA
  have BZ := Lib.hid BZ
  have PW0 := Lib.hid PW0
  have S0 := Lib.hid S0
  have B0 := Lib.hid B0
  clear hW0 hp
  unfold rv
  by_cases h0 : n = 0
  · rw [if_pos h0]
    subst h0
    go_enter Try.func68, Try.ntmps68
    go_wp2_with fail
    rw [KW.out]
    refine OF.out.mono ?_
    rintro e w1 ⟨v, rfl, hown, hb1⟩
    have s1 := hb1.size
    rw [S0.out] at s1
    have r0 : w1.cell? ⟨w.heap.size, 0, none⟩ = some (.slice (some ⟨b, 0, none⟩) T.length c) := (BA.out.kept hb1).cell 0
    have r1 : w1.cell? ⟨w.heap.size + 1, 0, none⟩ = some (.slice none 0 0) := (BZ.out.kept hb1).cell 0
    have r2 : w1.frozen? ⟨w.heap.size + 1, 0, none⟩ = false := (BZ.out.kept hb1).frozen 0
    have FD : ∀ (k : Nat) (u : Value), Hid (RDone w b T k (.returned (.tuple #[rv b c T, .int .i64 (k : Int)])) (w1.setCell ⟨w.heap.size + 1, 0, none⟩ u)) := fun k u => Lib.hid ⟨b, c, rfl, (PW0.out.kept hb1).far (by show b ≠ w.heap.size + 1; omega) _, Or.inl rfl, (B0.out.trans (hb1.mono (by rw [S0.out]; omega))).setCell (by show w.heap.size ≤ w.heap.size + 1; omega) _⟩
    obtain ⟨hlen, hv⟩ := hown
    rw [CN.out] at hv hlen
    clear hb1
    rcases hv with ⟨rfl, hn0⟩ | ⟨q, cap, cur, rfl, hq, hh, hcap, hmax, hsz, htk⟩
    · clear hlen
      go_wp2_with fail
      (try simp only [Exit.inBlock, Exit.then])
      refine bodyPost_ret (v := .tuple #[.agg #[.slice (some ⟨b, 0, none⟩) T.length c], .int .i64 8]) (by simp [results, Try.results68, go_sem, *]) rfl ?_
      exact (FD 8 _).out
    · clear hlen hh hsz htk
      go_wp2_with fail
      (try simp only [Exit.inBlock, Exit.then])
      refine bodyPost_ret (v := .tuple #[.agg #[.slice (some ⟨b, 0, none⟩) T.length c], .int .i64 8]) (by simp [results, Try.results68, go_sem, *]) rfl ?_
      exact (FD 8 _).out
  rw [if_neg h0]
  have hnz : ¬ (n : Int) = 0 := by omega
  go_enter Try.func68, Try.ntmps68
  go_wp2_with fail
  rw [KW.out]
  refine OF.out.mono ?_
  rintro e w1 ⟨v, rfl, hown, hb1⟩
  have s1 := hb1.size
  rw [S0.out] at s1
  have r0 : w1.cell? ⟨w.heap.size, 0, none⟩ = some (.slice (some ⟨b, 0, none⟩) T.length c) := (BA.out.kept hb1).cell 0
  have r1 : w1.cell? ⟨w.heap.size + 1, 0, none⟩ = some (.slice none 0 0) := (BZ.out.kept hb1).cell 0
  have r2 : w1.frozen? ⟨w.heap.size + 1, 0, none⟩ = false := (BZ.out.kept hb1).frozen 0
  have FD : ∀ (k : Nat) (u : Value), Hid (RDone w b T k (.returned (.tuple #[rv b c T, .int .i64 (k : Int)])) (w1.setCell ⟨w.heap.size + 1, 0, none⟩ u)) := fun k u => Lib.hid ⟨b, c, rfl, (PW0.out.kept hb1).far (by show b ≠ w.heap.size + 1; omega) _, Or.inl rfl, (B0.out.trans (hb1.mono (by rw [S0.out]; omega))).setCell (by show w.heap.size ≤ w.heap.size + 1; omega) _⟩
  rw [CN.out] at hown
  obtain ⟨q, cap, rfl⟩ : ∃ q cap, v = .slice (some ⟨q, 0, none⟩) n cap := by
    rcases hown.2 with ⟨_, hn0⟩ | ⟨q, cap, _, hv, _⟩
    · exact absurd hn0 h0
    · exact ⟨q, cap, hv⟩
  have hq := (hown.lt q rfl)
  rw [S0.out] at hq
  have CQ : ∀ r j : Nat, (idx (sel ow (isS 2)) 0 T)[r]? = some j → w1.cell? ⟨q, r, none⟩ = some (.int .i64 (j : Int)) := fun r j hj => by
    have := hown.cells rfl r _ (nums_at _ _ _ hj)
    rw [add_row] at this
    exact this
  have CQ := Lib.hid CQ
  have CC := Lib.hid (copied_c w1 b c T (PW0.out.kept hb1) few)
  have BZ1 := Lib.hid (BZ.out.kept hb1)
  have HB1 := Lib.hid (B0.out.trans (hb1.mono (by rw [S0.out]; omega)))
  clear hown hb1 FD
  go_wp2_with fail
  refine CC.out.mono ?_
  rintro e w2 ⟨b', c', rfl, hb', hp', hbel⟩
  have s2 := hbel.size
  have HP3 := Lib.hid hp'
  have BZ3 := Lib.hid ((BZ1.out.kept hbel).alloc (.cells #[.slice (some ⟨b', 0, none⟩) T.length c'] 44))
  have BX3 := Lib.hid (Blk.new w2 44 #[.slice (some ⟨b', 0, none⟩) T.length c'])
  have HB3 := Lib.hid ((HB1.out.trans (hbel.mono (by omega))).alloc (by omega) (.cells #[.slice (some ⟨b', 0, none⟩) T.length c'] 44))
  have CQ3 : ∀ r j : Nat, (idx (sel ow (isS 2)) 0 T)[r]? = some j → (w2.alloc (.cells #[.slice (some ⟨b', 0, none⟩) T.length c'] 44)).cell? ⟨q, r, none⟩ = some (.int .i64 (j : Int)) := fun r j hj => by
    rw [World.cell?_alloc_past _ _ _ (by omega)]
    exact (hbel.cell (p := ⟨q, r, none⟩) hq.2).trans (CQ.out r j hj)
  have CQ3 := Lib.hid CQ3
  have hp3 := hp'.lt
  have hqb : q ≠ b' := by omega
  have hq2 : q < w2.heap.size := by omega
  clear hp' hbel r0 r1 r2 CQ
  go_wp2_with fail
  go_loopg [10] n (fun gg si wr => ∃ kk : Nat, kk ≤ n ∧ n - kk ≤ gg ∧ si = .int .i64 (kk : Int) ∧ Hid (Pgs wr b' (goN (sel ow (isS 2)) (retF ep) kk 0 T)) ∧ Hid (Upd b' (w2.alloc (.cells #[.slice (some ⟨b', 0, none⟩) T.length c'] 44)) wr))
  case atStart => exact ⟨0, Nat.zero_le _, by omega, rfl, Lib.hid (by rw [NZ.out]; exact HP3.out.alloc _), Lib.hid (Upd.refl _ _)⟩
  case round =>
    obtain ⟨kk, hkk, hg, rfl, PW, UW⟩ := hrel
    have x0 : wr.cell? ⟨w2.heap.size, 0, none⟩ = some (.slice (some ⟨b', 0, none⟩) T.length c') := (UW.out.blk BX3.out (by omega)).cell 0
    by_cases hlt : kk < n
    · have hltz : (kk : Int) < (n : Int) := by omega
      obtain ⟨j, hj, hjl, hjs, hje, hjn⟩ := NX.out kk hlt
      have l0 : wr.cell? ⟨q, kk, none⟩ = some (.int .i64 (j : Int)) := (UW.out.cell (p := ⟨q, kk, none⟩) (by simp; omega) hqb).trans (CQ3.out kk j hj)
      have hjz : (j : Int) < (T.length : Int) := by omega
      have hjl2 : j < (goN (sel ow (isS 2)) (retF ep) kk 0 T).length := by rw [NL.out]; exact hjl
      have hl := PW.out.lies hjl2
      have fz := PW.out.free
      have HS := Lib.hid (PW.out.set04 hjl2 3 ep _ hje)
      have HU := Lib.hid ((UW.out.setCell (j * 5) (.int .u8 3)).setCell (j * 5 + 4) (.int .u64 (ep : Int)))
      have HS : Hid (Pgs ((wr.setCell ⟨b', j * 5, none⟩ (.int .u8 ((3 : Nat) : Int))).setCell ⟨b', j * 5 + 4, none⟩ (.int .u64 (ep : Int))) b' (goN (sel ow (isS 2)) (retF ep) (kk + 1) 0 T)) := by
        rw [hjn]; exact HS
      clear hj hjs hje hjn
      generalize (goN (sel ow (isS 2)) (retF ep) kk 0 T)[j]! = y at hl
      obtain ⟨c0, c1, c2, c3, c4⟩ := hl
      have f0 := fz (j * 5)
      have f1 := fz (j * 5 + 1)
      have f2 := fz (j * 5 + 2)
      have f3 := fz (j * 5 + 3)
      have f4 := fz (j * 5 + 4)
      have n1 : ¬ q = b' := hqb
      have n2 : ¬ w2.heap.size = b' := by omega
      clear fz PW
      go_wp2_with fail
      go_region
      all_goals go_wp2_with fail
      go_roundg (n - (kk + 1))
      case measure => omega
      case rel => exact ⟨kk + 1, by omega, by omega, by go_num, Lib.hid (HS.out.drewN 1), Lib.hid (HU.out.drewN 1)⟩
    · have hltz : ¬ (kk : Int) < (n : Int) := by omega
      have : kk = n := by omega
      subst this
      have x1 : wr.cell? ⟨w.heap.size + 1, 0, none⟩ = some (.slice none 0 0) := (UW.out.blk BZ3.out (by omega)).cell 0
      have x2 : wr.frozen? ⟨w.heap.size + 1, 0, none⟩ = false := (UW.out.blk BZ3.out (by omega)).frozen 0
      have PF : Pgs wr b' (go (sel ow (isS 2)) (retF ep) 0 T) := by rw [← NF.out]; exact PW.out
      have FD : ∀ (u : Value), Hid (RDone w b (go (sel ow (isS 2)) (retF ep) 0 T) 0 (.returned (.tuple #[rv b' c' (go (sel ow (isS 2)) (retF ep) 0 T), .int .i64 ((0 : Nat) : Int)])) (wr.setCell ⟨w.heap.size + 1, 0, none⟩ u)) := fun u => Lib.hid ⟨b', c', rfl, PF.far (by show b' ≠ w.heap.size + 1; omega) _, Or.inr (by omega), (UW.out.below HB3.out (by omega)).setCell (by show w.heap.size ≤ w.heap.size + 1; omega) _⟩
      clear PW PF
      go_wp2_with fail
      (try simp only [Exit.inBlock, Exit.then])
      refine bodyPost_ret (v := .tuple #[.agg #[.slice (some ⟨b', 0, none⟩) T.length c'], .int .i64 0]) (by simp [results, Try.results68, go_sem, *]) rfl ?_
      have := (FD (.slice (some ⟨b', 0, none⟩) T.length c')).out
      unfold rv at this
      rw [GL.out] at this
      exact this
set_option maxHeartbeats 8000000 in
theorem rrel_c (w : World) (b c : Nat) (T : List Page) (hp : Pgs w b T) (few : T.length ≤ 256) (ow : Nat) :
    Calls Try.prog 69 #[rv b c T, .int .u16 (ow : Int)] w fun e w' => RDone w b (relM T ow).1 (relM T ow).2 e w' := by
  have hb := hp.lt
  generalize hW0 : (w.alloc (.cells #[.slice (some ⟨b, 0, none⟩) T.length c] 44)).alloc (.cells #[.slice none 0 0] 44) = W0
  have BA : Blk W0 w.heap.size 44 #[.slice (some ⟨b, 0, none⟩) T.length c] := by rw [← hW0]; exact (Blk.new w _ _).alloc _
  have BZ : Blk W0 (w.heap.size + 1) 44 #[.slice none 0 0] := by
    rw [← hW0]
    have := Blk.new (w.alloc (.cells #[.slice (some ⟨b, 0, none⟩) T.length c] 44)) 44 #[.slice none 0 0]
    simpa using this
  have PW0 : Pgs W0 b T := by rw [← hW0]; exact (hp.alloc _).alloc _
  have S0 : W0.heap.size = w.heap.size + 2 := by rw [← hW0]; simp
  have B0 : Below w.heap.size w W0 := by rw [← hW0]; exact ((Below.refl _ _).alloc (Nat.le_refl _) _).alloc (by simp) _
  have OF := Lib.hid (of_c W0 b c T PW0 few ow 1 3 isI isI_or)
  have NX := Lib.hid (goN_next (sel ow isI) relF T)
  have NZ := Lib.hid (goN_low (sel ow isI) relF 0 0 (Nat.le_refl _) T)
  have NF := Lib.hid (goN_high (sel ow isI) relF (T.countP (sel ow isI)) 0 T (by omega))
  have NL := Lib.hid (fun r => goN_length (sel ow isI) relF r 0 T)
  have GL := Lib.hid (go_length (sel ow isI) relF 0 T)
  have hcl : T.countP (sel ow isI) ≤ T.length := List.countP_le_length
  have IX := Lib.hid (idx_length (sel ow isI) 0 T)
  unfold relM
  generalize hcn : T.countP (sel ow isI) = n at hcl NX NF OF IX ⊢
  have CN := Lib.hid hcn
  clear hcn
  have KW := Lib.hid hW0
  have BA := Lib.hid BA
  have BZ := Lib.hid BZ
  have PW0 := Lib.hid PW0
  have S0 := Lib.hid S0
  have B0 := Lib.hid B0
  clear hW0 hp
  unfold rv
  by_cases h0 : n = 0
  · rw [if_pos h0]
    subst h0
    go_enter Try.func69, Try.ntmps69
    go_wp2_with fail
    rw [KW.out]
    refine OF.out.mono ?_
    rintro e w1 ⟨v, rfl, hown, hb1⟩
    have s1 := hb1.size
    rw [S0.out] at s1
    have r0 : w1.cell? ⟨w.heap.size, 0, none⟩ = some (.slice (some ⟨b, 0, none⟩) T.length c) := (BA.out.kept hb1).cell 0
    have r1 : w1.cell? ⟨w.heap.size + 1, 0, none⟩ = some (.slice none 0 0) := (BZ.out.kept hb1).cell 0
    have r2 : w1.frozen? ⟨w.heap.size + 1, 0, none⟩ = false := (BZ.out.kept hb1).frozen 0
    have FD : ∀ (k : Nat) (u : Value), Hid (RDone w b T k (.returned (.tuple #[rv b c T, .int .i64 (k : Int)])) (w1.setCell ⟨w.heap.size + 1, 0, none⟩ u)) := fun k u => Lib.hid ⟨b, c, rfl, (PW0.out.kept hb1).far (by show b ≠ w.heap.size + 1; omega) _, Or.inl rfl, (B0.out.trans (hb1.mono (by rw [S0.out]; omega))).setCell (by show w.heap.size ≤ w.heap.size + 1; omega) _⟩
    obtain ⟨hlen, hv⟩ := hown
    rw [CN.out] at hv hlen
    clear hb1
    rcases hv with ⟨rfl, hn0⟩ | ⟨q, cap, cur, rfl, hq, hh, hcap, hmax, hsz, htk⟩
    · clear hlen
      go_wp2_with fail
      (try simp only [Exit.inBlock, Exit.then])
      refine bodyPost_ret (v := .tuple #[.agg #[.slice (some ⟨b, 0, none⟩) T.length c], .int .i64 8]) (by simp [results, Try.results69, go_sem, *]) rfl ?_
      exact (FD 8 _).out
    · clear hlen hh hsz htk
      go_wp2_with fail
      (try simp only [Exit.inBlock, Exit.then])
      refine bodyPost_ret (v := .tuple #[.agg #[.slice (some ⟨b, 0, none⟩) T.length c], .int .i64 8]) (by simp [results, Try.results69, go_sem, *]) rfl ?_
      exact (FD 8 _).out
  rw [if_neg h0]
  have hnz : ¬ (n : Int) = 0 := by omega
  go_enter Try.func69, Try.ntmps69
  go_wp2_with fail
  rw [KW.out]
  refine OF.out.mono ?_
  rintro e w1 ⟨v, rfl, hown, hb1⟩
  have s1 := hb1.size
  rw [S0.out] at s1
  have r0 : w1.cell? ⟨w.heap.size, 0, none⟩ = some (.slice (some ⟨b, 0, none⟩) T.length c) := (BA.out.kept hb1).cell 0
  have r1 : w1.cell? ⟨w.heap.size + 1, 0, none⟩ = some (.slice none 0 0) := (BZ.out.kept hb1).cell 0
  have r2 : w1.frozen? ⟨w.heap.size + 1, 0, none⟩ = false := (BZ.out.kept hb1).frozen 0
  have FD : ∀ (k : Nat) (u : Value), Hid (RDone w b T k (.returned (.tuple #[rv b c T, .int .i64 (k : Int)])) (w1.setCell ⟨w.heap.size + 1, 0, none⟩ u)) := fun k u => Lib.hid ⟨b, c, rfl, (PW0.out.kept hb1).far (by show b ≠ w.heap.size + 1; omega) _, Or.inl rfl, (B0.out.trans (hb1.mono (by rw [S0.out]; omega))).setCell (by show w.heap.size ≤ w.heap.size + 1; omega) _⟩
  rw [CN.out] at hown
  obtain ⟨q, cap, rfl⟩ : ∃ q cap, v = .slice (some ⟨q, 0, none⟩) n cap := by
    rcases hown.2 with ⟨_, hn0⟩ | ⟨q, cap, _, hv, _⟩
    · exact absurd hn0 h0
    · exact ⟨q, cap, hv⟩
  have hq := (hown.lt q rfl)
  rw [S0.out] at hq
  have CQ : ∀ r j : Nat, (idx (sel ow isI) 0 T)[r]? = some j → w1.cell? ⟨q, r, none⟩ = some (.int .i64 (j : Int)) := fun r j hj => by
    have := hown.cells rfl r _ (nums_at _ _ _ hj)
    rw [add_row] at this
    exact this
  have CQ := Lib.hid CQ
  have CC := Lib.hid (copied_c w1 b c T (PW0.out.kept hb1) few)
  have BZ1 := Lib.hid (BZ.out.kept hb1)
  have HB1 := Lib.hid (B0.out.trans (hb1.mono (by rw [S0.out]; omega)))
  clear hown hb1 FD
  go_wp2_with fail
  refine CC.out.mono ?_
  rintro e w2 ⟨b', c', rfl, hb', hp', hbel⟩
  have s2 := hbel.size
  have HP3 := Lib.hid hp'
  have BZ3 := Lib.hid ((BZ1.out.kept hbel).alloc (.cells #[.slice (some ⟨b', 0, none⟩) T.length c'] 44))
  have BX3 := Lib.hid (Blk.new w2 44 #[.slice (some ⟨b', 0, none⟩) T.length c'])
  have HB3 := Lib.hid ((HB1.out.trans (hbel.mono (by omega))).alloc (by omega) (.cells #[.slice (some ⟨b', 0, none⟩) T.length c'] 44))
  have CQ3 : ∀ r j : Nat, (idx (sel ow isI) 0 T)[r]? = some j → (w2.alloc (.cells #[.slice (some ⟨b', 0, none⟩) T.length c'] 44)).cell? ⟨q, r, none⟩ = some (.int .i64 (j : Int)) := fun r j hj => by
    rw [World.cell?_alloc_past _ _ _ (by omega)]
    exact (hbel.cell (p := ⟨q, r, none⟩) hq.2).trans (CQ.out r j hj)
  have CQ3 := Lib.hid CQ3
  have hp3 := hp'.lt
  have hqb : q ≠ b' := by omega
  have hq2 : q < w2.heap.size := by omega
  clear hp' hbel r0 r1 r2 CQ
  go_wp2_with fail
  go_loopg [8] n (fun gg si wr => ∃ kk : Nat, kk ≤ n ∧ n - kk ≤ gg ∧ si = .int .i64 (kk : Int) ∧ Hid (Pgs wr b' (goN (sel ow isI) relF kk 0 T)) ∧ Hid (Upd b' (w2.alloc (.cells #[.slice (some ⟨b', 0, none⟩) T.length c'] 44)) wr))
  case atStart => exact ⟨0, Nat.zero_le _, by omega, rfl, Lib.hid (by rw [NZ.out]; exact HP3.out.alloc _), Lib.hid (Upd.refl _ _)⟩
  case round =>
    obtain ⟨kk, hkk, hg, rfl, PW, UW⟩ := hrel
    have x0 : wr.cell? ⟨w2.heap.size, 0, none⟩ = some (.slice (some ⟨b', 0, none⟩) T.length c') := (UW.out.blk BX3.out (by omega)).cell 0
    by_cases hlt : kk < n
    · have hltz : (kk : Int) < (n : Int) := by omega
      obtain ⟨j, hj, hjl, hjs, hje, hjn⟩ := NX.out kk hlt
      have l0 : wr.cell? ⟨q, kk, none⟩ = some (.int .i64 (j : Int)) := (UW.out.cell (p := ⟨q, kk, none⟩) (by simp; omega) hqb).trans (CQ3.out kk j hj)
      have hjz : (j : Int) < (T.length : Int) := by omega
      have hjl2 : j < (goN (sel ow isI) relF kk 0 T).length := by rw [NL.out]; exact hjl
      have hl := PW.out.lies hjl2
      have fz := PW.out.free
      have HS := Lib.hid (PW.out.set hjl2 (relF kk T[j]!))
      have HU := Lib.hid (UW.out.store (j * 5) (relF kk T[j]!))
      rw [← hjn] at HS
      clear hj hjs hje hjn
      generalize (goN (sel ow isI) relF kk 0 T)[j]! = y at hl
      obtain ⟨c0, c1, c2, c3, c4⟩ := hl
      have f0 := fz (j * 5)
      have f1 := fz (j * 5 + 1)
      have f2 := fz (j * 5 + 2)
      have f3 := fz (j * 5 + 3)
      have f4 := fz (j * 5 + 4)
      have n1 : ¬ q = b' := hqb
      have n2 : ¬ w2.heap.size = b' := by omega
      clear fz PW
      go_wp2_with fail
      go_region
      all_goals go_wp2_with fail
      go_roundg (n - (kk + 1))
      case measure => omega
      case rel => exact ⟨kk + 1, by omega, by omega, by go_num, Lib.hid (HS.out.drewN 1), Lib.hid (HU.out.drewN 1)⟩
    · have hltz : ¬ (kk : Int) < (n : Int) := by omega
      have : kk = n := by omega
      subst this
      have x1 : wr.cell? ⟨w.heap.size + 1, 0, none⟩ = some (.slice none 0 0) := (UW.out.blk BZ3.out (by omega)).cell 0
      have x2 : wr.frozen? ⟨w.heap.size + 1, 0, none⟩ = false := (UW.out.blk BZ3.out (by omega)).frozen 0
      have PF : Pgs wr b' (go (sel ow isI) relF 0 T) := by rw [← NF.out]; exact PW.out
      have FD : ∀ (u : Value), Hid (RDone w b (go (sel ow isI) relF 0 T) 0 (.returned (.tuple #[rv b' c' (go (sel ow isI) relF 0 T), .int .i64 ((0 : Nat) : Int)])) (wr.setCell ⟨w.heap.size + 1, 0, none⟩ u)) := fun u => Lib.hid ⟨b', c', rfl, PF.far (by show b' ≠ w.heap.size + 1; omega) _, Or.inr (by omega), (UW.out.below HB3.out (by omega)).setCell (by show w.heap.size ≤ w.heap.size + 1; omega) _⟩
      clear PW PF
      go_wp2_with fail
      (try simp only [Exit.inBlock, Exit.then])
      refine bodyPost_ret (v := .tuple #[.agg #[.slice (some ⟨b', 0, none⟩) T.length c'], .int .i64 0]) (by simp [results, Try.results69, go_sem, *]) rfl ?_
      have := (FD (.slice (some ⟨b', 0, none⟩) T.length c')).out
      unfold rv at this
      rw [GL.out] at this
      exact this
set_option maxHeartbeats 8000000 in
theorem rpub_c (w : World) (b c : Nat) (T : List Page) (hp : Pgs w b T) (few : T.length ≤ 256) (ow : Nat) (code : Int) :
    Calls Try.prog 67 #[rv b c T, .int .u16 (ow : Int), .int .i64 code] w fun e w' => RDone w b (rpubM T ow code).1 (rpubM T ow code).2 e w' := by
  have hb := hp.lt
  generalize hW0 : (w.alloc (.cells #[.slice (some ⟨b, 0, none⟩) T.length c] 44)).alloc (.cells #[.slice none 0 0] 44) = W0
  have BA : Blk W0 w.heap.size 44 #[.slice (some ⟨b, 0, none⟩) T.length c] := by rw [← hW0]; exact (Blk.new w _ _).alloc _
  have BZ : Blk W0 (w.heap.size + 1) 44 #[.slice none 0 0] := by
    rw [← hW0]
    have := Blk.new (w.alloc (.cells #[.slice (some ⟨b, 0, none⟩) T.length c] 44)) 44 #[.slice none 0 0]
    simpa using this
  have PW0 : Pgs W0 b T := by rw [← hW0]; exact (hp.alloc _).alloc _
  have S0 : W0.heap.size = w.heap.size + 2 := by rw [← hW0]; simp
  have B0 : Below w.heap.size w W0 := by rw [← hW0]; exact ((Below.refl _ _).alloc (Nat.le_refl _) _).alloc (by simp) _
  have OF := Lib.hid (of_c W0 b c T PW0 few ow 1 1 (isS 1) (isS_or 1))
  have NX := Lib.hid (goN_next (sel ow (isS 1)) (pubFr ow code) T)
  have NZ := Lib.hid (goN_low (sel ow (isS 1)) (pubFr ow code) 0 0 (Nat.le_refl _) T)
  have NF := Lib.hid (goN_high (sel ow (isS 1)) (pubFr ow code) (T.countP (sel ow (isS 1))) 0 T (by omega))
  have NL := Lib.hid (fun r => goN_length (sel ow (isS 1)) (pubFr ow code) r 0 T)
  have GL := Lib.hid (go_length (sel ow (isS 1)) (pubFr ow code) 0 T)
  have hcl : T.countP (sel ow (isS 1)) ≤ T.length := List.countP_le_length
  have IX := Lib.hid (idx_length (sel ow (isS 1)) 0 T)
  unfold rpubM
  generalize hcn : T.countP (sel ow (isS 1)) = n at hcl NX NF OF IX ⊢
  have CN := Lib.hid hcn
  clear hcn
  have KW := Lib.hid hW0
  have BA := Lib.hid BA
  have BZ := Lib.hid BZ
  have PW0 := Lib.hid PW0
  have S0 := Lib.hid S0
  have B0 := Lib.hid B0
  clear hW0 hp
  unfold rv
  by_cases h0 : n = 0
  · rw [if_pos h0]
    subst h0
    go_enter Try.func67, Try.ntmps67
    go_wp2_with fail
    rw [KW.out]
    refine OF.out.mono ?_
    rintro e w1 ⟨v, rfl, hown, hb1⟩
    have s1 := hb1.size
    rw [S0.out] at s1
    have r0 : w1.cell? ⟨w.heap.size, 0, none⟩ = some (.slice (some ⟨b, 0, none⟩) T.length c) := (BA.out.kept hb1).cell 0
    have r1 : w1.cell? ⟨w.heap.size + 1, 0, none⟩ = some (.slice none 0 0) := (BZ.out.kept hb1).cell 0
    have r2 : w1.frozen? ⟨w.heap.size + 1, 0, none⟩ = false := (BZ.out.kept hb1).frozen 0
    have FD : ∀ (k : Nat) (u : Value), Hid (RDone w b T k (.returned (.tuple #[rv b c T, .int .i64 (k : Int)])) (w1.setCell ⟨w.heap.size + 1, 0, none⟩ u)) := fun k u => Lib.hid ⟨b, c, rfl, (PW0.out.kept hb1).far (by show b ≠ w.heap.size + 1; omega) _, Or.inl rfl, (B0.out.trans (hb1.mono (by rw [S0.out]; omega))).setCell (by show w.heap.size ≤ w.heap.size + 1; omega) _⟩
    obtain ⟨hlen, hv⟩ := hown
    rw [CN.out] at hv hlen
    clear hb1
    rcases hv with ⟨rfl, hn0⟩ | ⟨q, cap, cur, rfl, hq, hh, hcap, hmax, hsz, htk⟩
    · clear hlen
      go_wp2_with fail
      (try simp only [Exit.inBlock, Exit.then])
      refine bodyPost_ret (v := .tuple #[.agg #[.slice (some ⟨b, 0, none⟩) T.length c], .int .i64 8]) (by simp [results, Try.results67, go_sem, *]) rfl ?_
      exact (FD 8 _).out
    · clear hlen hh hsz htk
      go_wp2_with fail
      (try simp only [Exit.inBlock, Exit.then])
      refine bodyPost_ret (v := .tuple #[.agg #[.slice (some ⟨b, 0, none⟩) T.length c], .int .i64 8]) (by simp [results, Try.results67, go_sem, *]) rfl ?_
      exact (FD 8 _).out
  rw [if_neg h0]
  have hnz : ¬ (n : Int) = 0 := by omega
  by_cases h1 : code < 0
  · rw [if_pos (Or.inl h1)]
    go_enter Try.func67, Try.ntmps67
    go_wp2_with fail
    rw [KW.out]
    refine OF.out.mono ?_
    rintro e w1 ⟨v, rfl, hown, hb1⟩
    have s1 := hb1.size
    rw [S0.out] at s1
    have r0 : w1.cell? ⟨w.heap.size, 0, none⟩ = some (.slice (some ⟨b, 0, none⟩) T.length c) := (BA.out.kept hb1).cell 0
    have r1 : w1.cell? ⟨w.heap.size + 1, 0, none⟩ = some (.slice none 0 0) := (BZ.out.kept hb1).cell 0
    have r2 : w1.frozen? ⟨w.heap.size + 1, 0, none⟩ = false := (BZ.out.kept hb1).frozen 0
    have FD : ∀ (k : Nat) (u : Value), Hid (RDone w b T k (.returned (.tuple #[rv b c T, .int .i64 (k : Int)])) (w1.setCell ⟨w.heap.size + 1, 0, none⟩ u)) := fun k u => Lib.hid ⟨b, c, rfl, (PW0.out.kept hb1).far (by show b ≠ w.heap.size + 1; omega) _, Or.inl rfl, (B0.out.trans (hb1.mono (by rw [S0.out]; omega))).setCell (by show w.heap.size ≤ w.heap.size + 1; omega) _⟩
    obtain ⟨hlen, hv⟩ := hown
    rw [CN.out] at hv hlen
    clear hb1
    rcases hv with ⟨rfl, hn0⟩ | ⟨q, cap, cur, rfl, hq, hh, hcap, hmax, hsz, htk⟩
    · exact absurd hn0 h0
    clear hlen hh hsz htk
    go_wp2_with fail
    (try simp only [Exit.inBlock, Exit.then])
    refine bodyPost_ret (v := .tuple #[.agg #[.slice (some ⟨b, 0, none⟩) T.length c], .int .i64 2]) (by simp [results, Try.results67, go_sem, *]) rfl ?_
    exact (FD 2 _).out
  by_cases h2 : (n : Int) < code
  · rw [if_pos (Or.inr h2)]
    go_enter Try.func67, Try.ntmps67
    go_wp2_with fail
    rw [KW.out]
    refine OF.out.mono ?_
    rintro e w1 ⟨v, rfl, hown, hb1⟩
    have s1 := hb1.size
    rw [S0.out] at s1
    have r0 : w1.cell? ⟨w.heap.size, 0, none⟩ = some (.slice (some ⟨b, 0, none⟩) T.length c) := (BA.out.kept hb1).cell 0
    have r1 : w1.cell? ⟨w.heap.size + 1, 0, none⟩ = some (.slice none 0 0) := (BZ.out.kept hb1).cell 0
    have r2 : w1.frozen? ⟨w.heap.size + 1, 0, none⟩ = false := (BZ.out.kept hb1).frozen 0
    have FD : ∀ (k : Nat) (u : Value), Hid (RDone w b T k (.returned (.tuple #[rv b c T, .int .i64 (k : Int)])) (w1.setCell ⟨w.heap.size + 1, 0, none⟩ u)) := fun k u => Lib.hid ⟨b, c, rfl, (PW0.out.kept hb1).far (by show b ≠ w.heap.size + 1; omega) _, Or.inl rfl, (B0.out.trans (hb1.mono (by rw [S0.out]; omega))).setCell (by show w.heap.size ≤ w.heap.size + 1; omega) _⟩
    obtain ⟨hlen, hv⟩ := hown
    rw [CN.out] at hv hlen
    clear hb1
    rcases hv with ⟨rfl, hn0⟩ | ⟨q, cap, cur, rfl, hq, hh, hcap, hmax, hsz, htk⟩
    · exact absurd hn0 h0
    clear hlen hh hsz htk
    go_wp2_with fail
    (try simp only [Exit.inBlock, Exit.then])
    refine bodyPost_ret (v := .tuple #[.agg #[.slice (some ⟨b, 0, none⟩) T.length c], .int .i64 2]) (by simp [results, Try.results67, go_sem, *]) rfl ?_
    exact (FD 2 _).out
  rw [if_neg (by omega)]
  go_enter Try.func67, Try.ntmps67
  go_wp2_with fail
  rw [KW.out]
  refine OF.out.mono ?_
  rintro e w1 ⟨v, rfl, hown, hb1⟩
  have s1 := hb1.size
  rw [S0.out] at s1
  have r0 : w1.cell? ⟨w.heap.size, 0, none⟩ = some (.slice (some ⟨b, 0, none⟩) T.length c) := (BA.out.kept hb1).cell 0
  have r1 : w1.cell? ⟨w.heap.size + 1, 0, none⟩ = some (.slice none 0 0) := (BZ.out.kept hb1).cell 0
  have r2 : w1.frozen? ⟨w.heap.size + 1, 0, none⟩ = false := (BZ.out.kept hb1).frozen 0
  have FD : ∀ (k : Nat) (u : Value), Hid (RDone w b T k (.returned (.tuple #[rv b c T, .int .i64 (k : Int)])) (w1.setCell ⟨w.heap.size + 1, 0, none⟩ u)) := fun k u => Lib.hid ⟨b, c, rfl, (PW0.out.kept hb1).far (by show b ≠ w.heap.size + 1; omega) _, Or.inl rfl, (B0.out.trans (hb1.mono (by rw [S0.out]; omega))).setCell (by show w.heap.size ≤ w.heap.size + 1; omega) _⟩
  rw [CN.out] at hown
  obtain ⟨q, cap, rfl⟩ : ∃ q cap, v = .slice (some ⟨q, 0, none⟩) n cap := by
    rcases hown.2 with ⟨_, hn0⟩ | ⟨q, cap, _, hv, _⟩
    · exact absurd hn0 h0
    · exact ⟨q, cap, hv⟩
  have hq := (hown.lt q rfl)
  rw [S0.out] at hq
  have CQ : ∀ r j : Nat, (idx (sel ow (isS 1)) 0 T)[r]? = some j → w1.cell? ⟨q, r, none⟩ = some (.int .i64 (j : Int)) := fun r j hj => by
    have := hown.cells rfl r _ (nums_at _ _ _ hj)
    rw [add_row] at this
    exact this
  have CQ := Lib.hid CQ
  have CC := Lib.hid (copied_c w1 b c T (PW0.out.kept hb1) few)
  have BZ1 := Lib.hid (BZ.out.kept hb1)
  have HB1 := Lib.hid (B0.out.trans (hb1.mono (by rw [S0.out]; omega)))
  clear hown hb1 FD
  go_wp2_with fail
  refine CC.out.mono ?_
  rintro e w2 ⟨b', c', rfl, hb', hp', hbel⟩
  have s2 := hbel.size
  have HP3 := Lib.hid hp'
  have BZ3 := Lib.hid ((BZ1.out.kept hbel).alloc (.cells #[.slice (some ⟨b', 0, none⟩) T.length c'] 44))
  have BX3 := Lib.hid (Blk.new w2 44 #[.slice (some ⟨b', 0, none⟩) T.length c'])
  have HB3 := Lib.hid ((HB1.out.trans (hbel.mono (by omega))).alloc (by omega) (.cells #[.slice (some ⟨b', 0, none⟩) T.length c'] 44))
  have CQ3 : ∀ r j : Nat, (idx (sel ow (isS 1)) 0 T)[r]? = some j → (w2.alloc (.cells #[.slice (some ⟨b', 0, none⟩) T.length c'] 44)).cell? ⟨q, r, none⟩ = some (.int .i64 (j : Int)) := fun r j hj => by
    rw [World.cell?_alloc_past _ _ _ (by omega)]
    exact (hbel.cell (p := ⟨q, r, none⟩) hq.2).trans (CQ.out r j hj)
  have CQ3 := Lib.hid CQ3
  have hp3 := hp'.lt
  have hqb : q ≠ b' := by omega
  have hq2 : q < w2.heap.size := by omega
  clear hp' hbel r0 r1 r2 CQ
  go_wp2_with fail
  go_loopg [10] n (fun gg si wr => ∃ kk : Nat, kk ≤ n ∧ n - kk ≤ gg ∧ si = .int .i64 (kk : Int) ∧ Hid (Pgs wr b' (goN (sel ow (isS 1)) (pubFr ow code) kk 0 T)) ∧ Hid (Upd b' (w2.alloc (.cells #[.slice (some ⟨b', 0, none⟩) T.length c'] 44)) wr))
  case atStart => exact ⟨0, Nat.zero_le _, by omega, rfl, Lib.hid (by rw [NZ.out]; exact HP3.out.alloc _), Lib.hid (Upd.refl _ _)⟩
  case round =>
    obtain ⟨kk, hkk, hg, rfl, PW, UW⟩ := hrel
    have x0 : wr.cell? ⟨w2.heap.size, 0, none⟩ = some (.slice (some ⟨b', 0, none⟩) T.length c') := (UW.out.blk BX3.out (by omega)).cell 0
    by_cases hlt : kk < n
    · have hltz : (kk : Int) < (n : Int) := by omega
      obtain ⟨j, hj, hjl, hjs, hje, hjn⟩ := NX.out kk hlt
      have l0 : wr.cell? ⟨q, kk, none⟩ = some (.int .i64 (j : Int)) := (UW.out.cell (p := ⟨q, kk, none⟩) (by simp; omega) hqb).trans (CQ3.out kk j hj)
      have hjz : (j : Int) < (T.length : Int) := by omega
      have hjl2 : j < (goN (sel ow (isS 1)) (pubFr ow code) kk 0 T).length := by rw [NL.out]; exact hjl
      have hl := PW.out.lies hjl2
      have fz := PW.out.free
      have HS := Lib.hid (PW.out.set hjl2 (pubFr ow code kk T[j]!))
      have HU := Lib.hid (UW.out.store (j * 5) (pubFr ow code kk T[j]!))
      rw [← hjn] at HS
      clear hj hjs hje hjn
      generalize (goN (sel ow (isS 1)) (pubFr ow code) kk 0 T)[j]! = y at hl
      obtain ⟨c0, c1, c2, c3, c4⟩ := hl
      have f0 := fz (j * 5)
      have f1 := fz (j * 5 + 1)
      have f2 := fz (j * 5 + 2)
      have f3 := fz (j * 5 + 3)
      have f4 := fz (j * 5 + 4)
      have n1 : ¬ q = b' := hqb
      have n2 : ¬ w2.heap.size = b' := by omega
      clear fz PW
      go_wp2_with fail
      go_region
      all_goals go_wp2_with fail
      go_roundg (n - (kk + 1))
      case measure => omega
      case rel => exact ⟨kk + 1, by omega, by omega, by go_num, Lib.hid (HS.out.drewN 1), Lib.hid (HU.out.drewN 1)⟩
    · have hltz : ¬ (kk : Int) < (n : Int) := by omega
      have : kk = n := by omega
      subst this
      have x1 : wr.cell? ⟨w.heap.size + 1, 0, none⟩ = some (.slice none 0 0) := (UW.out.blk BZ3.out (by omega)).cell 0
      have x2 : wr.frozen? ⟨w.heap.size + 1, 0, none⟩ = false := (UW.out.blk BZ3.out (by omega)).frozen 0
      have PF : Pgs wr b' (go (sel ow (isS 1)) (pubFr ow code) 0 T) := by rw [← NF.out]; exact PW.out
      have FD : ∀ (u : Value), Hid (RDone w b (go (sel ow (isS 1)) (pubFr ow code) 0 T) 0 (.returned (.tuple #[rv b' c' (go (sel ow (isS 1)) (pubFr ow code) 0 T), .int .i64 ((0 : Nat) : Int)])) (wr.setCell ⟨w.heap.size + 1, 0, none⟩ u)) := fun u => Lib.hid ⟨b', c', rfl, PF.far (by show b' ≠ w.heap.size + 1; omega) _, Or.inr (by omega), (UW.out.below HB3.out (by omega)).setCell (by show w.heap.size ≤ w.heap.size + 1; omega) _⟩
      clear PW PF
      go_wp2_with fail
      (try simp only [Exit.inBlock, Exit.then])
      refine bodyPost_ret (v := .tuple #[.agg #[.slice (some ⟨b', 0, none⟩) T.length c'], .int .i64 0]) (by simp [results, Try.results67, go_sem, *]) rfl ?_
      have := (FD (.slice (some ⟨b', 0, none⟩) T.length c')).out
      unfold rv at this
      rw [GL.out] at this
      exact this
end Go.Proofs.Ytjjcmclnjeplkaa.PM
