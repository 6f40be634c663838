/- The calls on a table, plainly, and law06's do. Conditions: the tables' cells. -/
import Derived.Test.YtjjcmclnjeplkaaLawC2
set_option linter.unusedSimpArgs false
namespace Go.Proofs.Ytjjcmclnjeplkaa.PM
set_option linter.unusedVariables false
open Go.RowKit
structure Act where
  k : Nat
  fr : Int
  n : Int
  ow : Nat
  ep : Nat
instance : Inhabited Act := ⟨⟨0, 0, 0, 0, 0⟩⟩
def stepM (T : List Page) (a : Act) : List Page × Nat :=
  if a.k % 4 = 0 then stageM T a.fr a.n a.ow else if a.k % 4 = 1 then pubM T a.ow a.n else if a.k % 4 = 2 then retM T a.ow a.ep else relM T a.ow
/-- Pages that are staged have no epoch. -/
def OkT (T : List Page) : Prop := ∀ p ∈ T, p.s = 1 → p.ep = 0
theorem fillN_mem (ow : Nat) (T : List Page) (f k : Nat) (p : Page) (h : p ∈ fillN ow T f k) : p ∈ T ∨ p = stg ow := by
  induction k with
  | zero => exact Or.inl h
  | succ k ih =>
    unfold fillN at h
    rcases List.mem_or_eq_of_mem_set h with h | h
    · exact ih h
    · exact Or.inr h
theorem go_mem (sl : Page → Bool) (f : Nat → Page → Page) (k : Nat) (T : List Page) (p : Page) (h : p ∈ go sl f k T) : p ∈ T ∨ ∃ n q, q ∈ T ∧ p = f n q := by
  induction T generalizing k with
  | nil => simp [go] at h
  | cons y T ih =>
    unfold go at h
    split at h
    · rcases List.mem_cons.1 h with rfl | h
      · exact Or.inr ⟨_, y, by simp, rfl⟩
      · rcases ih _ h with h | ⟨n, q, hq, rfl⟩
        · exact Or.inl (by simp [h])
        · exact Or.inr ⟨n, q, by simp [hq], rfl⟩
    · rcases List.mem_cons.1 h with rfl | h
      · exact Or.inl (by simp)
      · rcases ih _ h with h | ⟨n, q, hq, rfl⟩
        · exact Or.inl (by simp [h])
        · exact Or.inr ⟨n, q, by simp [hq], rfl⟩
theorem ok_new (n : Nat) : OkT (List.replicate n nz) := by
  intro p hp hs
  rw [List.eq_of_mem_replicate hp]; rfl
theorem ok_step (T : List Page) (a : Act) (h : OkT T) : OkT (stepM T a).1 := by
  unfold stepM
  split
  · unfold stageM
    split
    · exact h
    · split
      · exact h
      · split
        · exact h
        · intro p hp hs
          rcases fillN_mem _ _ _ _ _ hp with hp | rfl
          · exact h p hp hs
          · rfl
  · split
    · unfold pubM
      split
      · exact h
      · split
        · exact h
        · intro p hp hs
          rcases go_mem _ _ _ _ _ hp with hp | ⟨n, q, hq, rfl⟩
          · exact h p hp hs
          · exact absurd hs (by decide : ¬ (2 : Nat) = 1)
    · split
      · unfold retM
        split
        · exact h
        · intro p hp hs
          rcases go_mem _ _ _ _ _ hp with hp | ⟨n, q, hq, rfl⟩
          · exact h p hp hs
          · exact absurd hs (by decide : ¬ (3 : Nat) = 1)
      · unfold relM
        split
        · exact h
        · intro p hp hs
          rcases go_mem _ _ _ _ _ hp with hp | ⟨n, q, hq, rfl⟩
          · exact h p hp hs
          · rfl
theorem len_step (T : List Page) (a : Act) : (stepM T a).1.length = T.length := by
  unfold stepM stageM pubM retM relM
  repeat' split
  all_goals first | rfl | exact fillN_length _ _ _ _ | exact go_length _ _ _ _
theorem go_congr (sl : Page → Bool) (f f' : Nat → Page → Page) (k : Nat) (T : List Page) (h : ∀ n p, p ∈ T → sl p = true → f n p = f' n p) : go sl f k T = go sl f' k T := by
  induction T generalizing k with
  | nil => rfl
  | cons y T ih =>
    have h2 := fun k => ih k (fun n p hp => h n p (by simp [hp]))
    unfold go
    cases hy : sl y with
    | true => simp [h2, h k y (by simp) hy]
    | false => simp [h2]
/-- The reference's Publish does the same. -/
theorem rpub_eq (T : List Page) (ow : Nat) (code : Int) (h : OkT T) : rpubM T ow code = pubM T ow code := by
  unfold rpubM pubM
  have e : go (sel ow (isS 1)) (pubFr ow code) 0 T = go (sel ow (isS 1)) (pubF code) 0 T := by
    refine go_congr _ _ _ _ _ (fun n p hp hs => ?_)
    unfold sel isS at hs
    simp only [Bool.and_eq_true, beq_iff_eq] at hs
    unfold pubFr pubF
    rw [h p hp hs.2.2, hs.1]
  rw [e]
def actv (a : Act) : Value := .agg #[.int .u8 (a.k : Int), .int .i64 a.fr, .int .i64 a.n, .int .u16 (a.ow : Int), .int .u64 (a.ep : Int)]
def DoP (w : World) (g h c b : Nat) (T : List Page) (e : Ending) (w' : World) : Prop :=
  ∃ b' c', e = .returned (.tuple #[rv b' c' T, .bool true]) ∧ Tab w' g h c T ∧ Pgs w' b' T ∧ (b' = b ∨ w.heap.size ≤ b') ∧ Upd h w w'
theorem Tab.far {w : World} {g h c : Nat} {T : List Page} (t : Tab w g h c T) {p : Addr} (h1 : g ≠ p.block) (h2 : h ≠ p.block) (u : Value) : Tab (w.setCell p u) g h c T :=
  ⟨(World.cell?_of_block (a := ⟨g, 0, none⟩) (Below.heap_setCell w p u g h1)).trans t.row, by simpa [World.setCell] using t.lt, t.ne, t.pgs.far h2 u, t.few, t.cap⟩
set_option maxHeartbeats 8000000 in
theorem do_c (w : World) (g h c b cb : Nat) (T : List Page) (t : Tab w g h c T) (hp : Pgs w b T) (hbh : b ≠ h) (ok : OkT T) (a : Act) :
    Calls Try.prog 30 #[.pointer (some ⟨g, 0, none⟩), rv b cb T, actv a] w fun e w' => DoP w g h c b (stepM T a).1 e w' := by
  obtain ⟨k, fr, n, ow, ep⟩ := a
  have hgl := t.lt
  have hhl := t.pgs.lt
  have hbl := hp.lt
  have few := t.few
  unfold stepM actv rv
  simp only
  generalize hW0 : ((w.alloc (.cells #[.slice (some ⟨b, 0, none⟩) T.length cb] 44)).alloc (.cells #[.int .u8 (k : Int), .int .i64 fr, .int .i64 n, .int .u16 (ow : Int), .int .u64 (ep : Int)] 49)).alloc (.cells #[.slice none 0 0] 44) = W0
  have B4 : Blk W0 w.heap.size 44 #[.slice (some ⟨b, 0, none⟩) T.length cb] := by rw [← hW0]; exact ((Blk.new w _ _).alloc _).alloc _
  have B5 : Blk W0 (w.heap.size + 1) 49 #[.int .u8 (k : Int), .int .i64 fr, .int .i64 n, .int .u16 (ow : Int), .int .u64 (ep : Int)] := by
    rw [← hW0]
    have := (Blk.new (w.alloc (.cells #[.slice (some ⟨b, 0, none⟩) T.length cb] 44)) 49 #[.int .u8 (k : Int), .int .i64 fr, .int .i64 n, .int .u16 (ow : Int), .int .u64 (ep : Int)]).alloc (.cells #[.slice none 0 0] 44)
    simpa using this
  have B6 : Blk W0 (w.heap.size + 2) 44 #[.slice none 0 0] := by
    rw [← hW0]
    have := Blk.new ((w.alloc (.cells #[.slice (some ⟨b, 0, none⟩) T.length cb] 44)).alloc (.cells #[.int .u8 (k : Int), .int .i64 fr, .int .i64 n, .int .u16 (ow : Int), .int .u64 (ep : Int)] 49)) 44 #[.slice none 0 0]
    simpa using this
  have T0 : Tab W0 g h c T := by rw [← hW0]; exact ((t.alloc _).alloc _).alloc _
  have P0 : Pgs W0 b T := by rw [← hW0]; exact ((hp.alloc _).alloc _).alloc _
  have U0 : Upd h w W0 := by rw [← hW0]; exact (((Upd.refl h w).alloc _).alloc _).alloc _
  have S0 : W0.heap.size = w.heap.size + 3 := by rw [← hW0]; simp
  have FD : ∀ (T' : List Page) (w1 w2 : World) (m : Nat) (e : Ending), Tab w1 g h c T' → Upd h W0 w1 → RDone w1 b T' m e w2 → ∃ b' c', e = .returned (.tuple #[rv b' c' T', .int .i64 (m : Int)]) ∧ (w2.cell? ⟨w.heap.size, 0, none⟩ = some (.slice (some ⟨b, 0, none⟩) T.length cb) ∧ w2.frozen? ⟨w.heap.size, 0, none⟩ = false ∧ w2.cell? ⟨w.heap.size + 2, 0, none⟩ = some (.slice none 0 0) ∧ w2.frozen? ⟨w.heap.size + 2, 0, none⟩ = false) ∧
      Hid (∀ u u', DoP w g h c b T' (.returned (.tuple #[rv b' c' T', .bool true])) ((w2.setCell ⟨w.heap.size, 0, none⟩ u).setCell ⟨w.heap.size + 2, 0, none⟩ u')) := by
    intro T' w1 w2 m e t1 u1 hr
    obtain ⟨b', c', rfl, hp', hbb, hbel⟩ := hr
    have k4 := (u1.blk B4 (by omega)).kept hbel
    have k6 := (u1.blk B6 (by omega)).kept hbel
    have s1 := u1.size
    refine ⟨b', c', rfl, ⟨k4.cell 0, k4.frozen 0, k6.cell 0, k6.frozen 0⟩, Lib.hid (fun u u' => ⟨b', c', rfl, ((t1.kept hbel).far (by show g ≠ w.heap.size; omega) (by show h ≠ w.heap.size; omega) _).far (by show g ≠ w.heap.size + 2; omega) (by show h ≠ w.heap.size + 2; omega) _, (hp'.far (by show b' ≠ w.heap.size; omega) _).far (by show b' ≠ w.heap.size + 2; omega) _, by omega, (((U0.trans u1).then_ hbel).setFar (Nat.le_refl _) _ _).setFar (by omega) _ _⟩)⟩
  have A5 : ∀ w1, Upd h W0 w1 → (w1.cell? ⟨w.heap.size, 0, none⟩ = some (.slice (some ⟨b, 0, none⟩) T.length cb)) ∧ w1.cell? ⟨w.heap.size + 1, 0, none⟩ = some (.int .u8 (k : Int)) ∧ w1.cell? ⟨w.heap.size + 1, 1, none⟩ = some (.int .i64 fr) ∧ w1.cell? ⟨w.heap.size + 1, 2, none⟩ = some (.int .i64 n) ∧ w1.cell? ⟨w.heap.size + 1, 3, none⟩ = some (.int .u16 (ow : Int)) ∧ w1.cell? ⟨w.heap.size + 1, 4, none⟩ = some (.int .u64 (ep : Int)) ∧ Pgs w1 b T := fun w1 u1 =>
    ⟨(u1.blk B4 (by omega)).cell 0, (u1.blk B5 (by omega)).cell 0, (u1.blk B5 (by omega)).cell 1, (u1.blk B5 (by omega)).cell 2, (u1.blk B5 (by omega)).cell 3, (u1.blk B5 (by omega)).cell 4, u1.pgs P0 hbh⟩
  have htm : Int.tmod (k : Int) 4 = ((k % 4 : Nat) : Int) := by rw [Int.tmod_eq_emod_of_nonneg (by omega)]; omega
  have FD := Lib.hid FD
  have A5 := Lib.hid A5
  have KW := Lib.hid hW0
  have T0 := Lib.hid T0
  have RP := Lib.hid (rpub_eq T ow n ok)
  clear hW0 B4 B5 B6 P0 U0 S0 t hp ok
  by_cases k0 : k % 4 = 0
  · rw [if_pos k0]
    have hm : Int.tmod (k : Int) 4 = 0 := by rw [htm, k0]; rfl
    clear htm
    have RC := Lib.hid (stage_c W0 g h c T T0.out fr n ow)
    have RR : ∀ w1, Pgs w1 b T → Hid (Calls Try.prog 66 #[rv b cb T, .int .i64 fr, .int .i64 n, .int .u16 (ow : Int)] w1 fun e w' => RDone w1 b (stageM T fr n ow).1 (stageM T fr n ow).2 e w') := fun w1 q7 => Lib.hid (rstage_c w1 b cb T q7 few fr n ow)
    generalize stageM T fr n ow = R at RC RR ⊢
    have RR := Lib.hid RR
    go_enter Try.func30, Try.ntmps30
    go_wp2_with fail
    rw [KW.out]
    refine RC.out.mono ?_
    rintro e w1 ⟨rfl, t1, u1⟩
    obtain ⟨q0, q1, q2, q3, q4, q5, q7⟩ := A5.out _ u1
    have RX := RR.out w1 q7
    have FX := Lib.hid (fun (w2 : World) (e : Ending) (hr : RDone w1 b R.1 R.2 e w2) => FD.out _ _ _ _ _ t1 u1 hr)
    clear t1 u1 q7
    unfold rv at RX
    go_wp2_with fail
    refine RX.out.mono ?_
    rintro e w2 hr
    obtain ⟨b', c', rfl, ⟨z0, z1, z2, z3⟩, FF⟩ := FX.out _ _ hr
    clear hr
    unfold rv at FF ⊢
    go_wp2_with fail
    refine bodyPost_ret (v := .tuple #[.agg #[.slice (some ⟨b', 0, none⟩) R.1.length c'], .bool true]) (by simp [results, Try.results30, go_sem, *]) rfl ?_
    exact FF.out _ _
  rw [if_neg k0]
  by_cases k1 : k % 4 = 1
  · rw [if_pos k1]
    have hm : Int.tmod (k : Int) 4 = 1 := by rw [htm, k1]; rfl
    clear htm
    have RC := Lib.hid (pub_c W0 g h c T T0.out ow n)
    have RR : ∀ w1, Pgs w1 b T → Hid (Calls Try.prog 67 #[rv b cb T, .int .u16 (ow : Int), .int .i64 n] w1 fun e w' => RDone w1 b (pubM T ow n).1 (pubM T ow n).2 e w') := fun w1 q7 => Lib.hid (by rw [← RP.out]; exact rpub_c w1 b cb T q7 few ow n)
    generalize pubM T ow n = R at RC RR ⊢
    have RR := Lib.hid RR
    go_enter Try.func30, Try.ntmps30
    go_wp2_with fail
    rw [KW.out]
    refine RC.out.mono ?_
    rintro e w1 ⟨rfl, t1, u1⟩
    obtain ⟨q0, q1, q2, q3, q4, q5, q7⟩ := A5.out _ u1
    have RX := RR.out w1 q7
    have FX := Lib.hid (fun (w2 : World) (e : Ending) (hr : RDone w1 b R.1 R.2 e w2) => FD.out _ _ _ _ _ t1 u1 hr)
    clear t1 u1 q7
    unfold rv at RX
    go_wp2_with fail
    refine RX.out.mono ?_
    rintro e w2 hr
    obtain ⟨b', c', rfl, ⟨z0, z1, z2, z3⟩, FF⟩ := FX.out _ _ hr
    clear hr
    unfold rv at FF ⊢
    go_wp2_with fail
    refine bodyPost_ret (v := .tuple #[.agg #[.slice (some ⟨b', 0, none⟩) R.1.length c'], .bool true]) (by simp [results, Try.results30, go_sem, *]) rfl ?_
    exact FF.out _ _
  rw [if_neg k1]
  by_cases k2 : k % 4 = 2
  · rw [if_pos k2]
    have hm : Int.tmod (k : Int) 4 = 2 := by rw [htm, k2]; rfl
    clear htm
    have RC := Lib.hid (ret_c W0 g h c T T0.out ow ep)
    have RR : ∀ w1, Pgs w1 b T → Hid (Calls Try.prog 68 #[rv b cb T, .int .u16 (ow : Int), .int .u64 (ep : Int)] w1 fun e w' => RDone w1 b (retM T ow ep).1 (retM T ow ep).2 e w') := fun w1 q7 => Lib.hid (rret_c w1 b cb T q7 few ow ep)
    generalize retM T ow ep = R at RC RR ⊢
    have RR := Lib.hid RR
    go_enter Try.func30, Try.ntmps30
    go_wp2_with fail
    rw [KW.out]
    refine RC.out.mono ?_
    rintro e w1 ⟨rfl, t1, u1⟩
    obtain ⟨q0, q1, q2, q3, q4, q5, q7⟩ := A5.out _ u1
    have RX := RR.out w1 q7
    have FX := Lib.hid (fun (w2 : World) (e : Ending) (hr : RDone w1 b R.1 R.2 e w2) => FD.out _ _ _ _ _ t1 u1 hr)
    clear t1 u1 q7
    unfold rv at RX
    go_wp2_with fail
    refine RX.out.mono ?_
    rintro e w2 hr
    obtain ⟨b', c', rfl, ⟨z0, z1, z2, z3⟩, FF⟩ := FX.out _ _ hr
    clear hr
    unfold rv at FF ⊢
    go_wp2_with fail
    refine bodyPost_ret (v := .tuple #[.agg #[.slice (some ⟨b', 0, none⟩) R.1.length c'], .bool true]) (by simp [results, Try.results30, go_sem, *]) rfl ?_
    exact FF.out _ _
  rw [if_neg k2]
  have k3 : k % 4 = 3 := by omega
  have hm : Int.tmod (k : Int) 4 = 3 := by rw [htm, k3]; rfl
  clear htm
  have RC := Lib.hid (rel_c W0 g h c T T0.out ow)
  have RR : ∀ w1, Pgs w1 b T → Hid (Calls Try.prog 69 #[rv b cb T, .int .u16 (ow : Int)] w1 fun e w' => RDone w1 b (relM T ow).1 (relM T ow).2 e w') := fun w1 q7 => Lib.hid (rrel_c w1 b cb T q7 few ow)
  generalize relM T ow = R at RC RR ⊢
  have RR := Lib.hid RR
  go_enter Try.func30, Try.ntmps30
  go_wp2_with fail
  rw [KW.out]
  refine RC.out.mono ?_
  rintro e w1 ⟨rfl, t1, u1⟩
  obtain ⟨q0, q1, q2, q3, q4, q5, q7⟩ := A5.out _ u1
  have RX := RR.out w1 q7
  have FX := Lib.hid (fun (w2 : World) (e : Ending) (hr : RDone w1 b R.1 R.2 e w2) => FD.out _ _ _ _ _ t1 u1 hr)
  clear t1 u1 q7
  unfold rv at RX
  go_wp2_with fail
  refine RX.out.mono ?_
  rintro e w2 hr
  obtain ⟨b', c', rfl, ⟨z0, z1, z2, z3⟩, FF⟩ := FX.out _ _ hr
  clear hr
  unfold rv at FF ⊢
  go_wp2_with fail
  refine bodyPost_ret (v := .tuple #[.agg #[.slice (some ⟨b', 0, none⟩) R.1.length c'], .bool true]) (by simp [results, Try.results30, go_sem, *]) rfl ?_
  exact FF.out _ _
end Go.Proofs.Ytjjcmclnjeplkaa.PM
