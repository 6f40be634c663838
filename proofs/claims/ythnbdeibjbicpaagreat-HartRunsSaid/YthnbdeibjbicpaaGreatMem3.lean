/- Contracts of memory's Put, SetGate, Fetch, Load, Store. Conditions: the memory's cells. -/
import Derived.Test.YthnbdeibjbicpaaGreatKMem
import Derived.Test.YthnbdeibjbicpaaGreatPage1
set_option linter.unusedSimpArgs false
namespace Go.Proofs.YthnbdeibjbicpaaGreat.PM
set_option linter.unusedVariables false
open Go.RowKit
theorem keep1m {w w' : World} {g i : Nat} {v : Value} (hb : Below w.heap.size w w') (c : w.cell? ⟨g, i, none⟩ = some v) : w'.cell? ⟨g, i, none⟩ = some v := (hb.cell (World.block_lt_of_cell? _ _ c)).trans c
/-- The worlds part in three blocks alone, and in what is new. -/
structure Upd3 (M h d : Nat) (w w' : World) : Prop where
  os : w'.os = w.os
  tape : w'.tape = w.tape
  output : w'.output = w.output
  size : w.heap.size ≤ w'.heap.size
  block : ∀ k, k < w.heap.size → k ≠ M → k ≠ h → k ≠ d → w'.heap[k]? = w.heap[k]?
section
variable {M h d : Nat} {w w' w'' : World}
theorem Upd3.ofM (u : Upd M w w') : Upd3 M h d w w' := ⟨u.os, u.tape, u.output, u.size, fun k hk a _ _ => u.block k hk a⟩
theorem Upd3.ofh (u : Upd h w w') : Upd3 M h d w w' := ⟨u.os, u.tape, u.output, u.size, fun k hk _ a _ => u.block k hk a⟩
theorem Upd3.ofd (u : Upd d w w') : Upd3 M h d w w' := ⟨u.os, u.tape, u.output, u.size, fun k hk _ _ a => u.block k hk a⟩
theorem Upd3.of (b : Below w.heap.size w w') : Upd3 M h d w w' := ⟨b.os, b.tape, b.output, b.size, fun k hk _ _ _ => b.block k hk⟩
theorem Upd3.trans (a : Upd3 M h d w w') (b : Upd3 M h d w' w'') : Upd3 M h d w w'' :=
  ⟨b.os.trans a.os, b.tape.trans a.tape, b.output.trans a.output, Nat.le_trans a.size b.size, fun k hk n1 n2 n3 => (b.block k (Nat.lt_of_lt_of_le hk a.size) n1 n2 n3).trans (a.block k hk n1 n2 n3)⟩
theorem Upd3.then_ (a : Upd3 M h d w w') (b : Below w'.heap.size w' w'') : Upd3 M h d w w'' := a.trans (Upd3.of b)
theorem Upd3.below {w0 : World} (a : Upd3 M h d w w') (b : Below w0.heap.size w0 w) (h1 : w0.heap.size ≤ M) (h2 : w0.heap.size ≤ h) (h3 : w0.heap.size ≤ d) : Below w0.heap.size w0 w' :=
  b.trans ⟨a.os, a.tape, a.output, a.size, fun k hk => a.block k (Nat.lt_of_lt_of_le hk b.size) (by omega) (by omega) (by omega)⟩
theorem Upd3.blk (a : Upd3 M h d w w') {k : Nat} {t : TypeId} {cs : Array Value} (hk : Blk w k t cs) (n1 : k ≠ M) (n2 : k ≠ h) (n3 : k ≠ d) : Blk w' k t cs := (a.block k hk.lt n1 n2 n3).trans hk
end
section
variable {w w' : World} {M g h c d cd : Nat} {G : Nat → Nat} {T : List Page} {L : List Nat}
/-- The table was turned. -/
theorem Mem.table (m : Mem w M g h c d cd G T L) {T' : List Page} (t : Tab w' g h c T') (u : Upd h w w') (hl : T'.length = T.length) : Mem w' M g h c d cd G T' L :=
  ⟨m.ten.upd u m.Mh, t, m.wds.upd u (fun e => m.hd e.symm), by rw [hl]; exact m.len, m.cap, m.Mg, m.Mh, m.Md, m.gd, m.hd⟩
/-- A word was turned. -/
theorem Mem.word (m : Mem w M g h c d cd G T L) {i : Nat} (hi : i < L.length) (x : Nat) : Mem (w.setCell ⟨d, i, none⟩ (.int .u32 (x : Int))) M g h c d cd G T (L.set i x) := by
  refine ⟨?_, m.tab.upd ((Upd.refl d w).setCell i _) m.gd m.hd, m.wds.set hi x, by rw [List.length_set]; exact m.len, by rw [List.length_set]; exact m.cap, m.Mg, m.Mh, m.Md, m.gd, m.hd⟩
  rw [List.length_set]
  exact m.ten.far m.Md _
/-- A gate was turned. -/
theorem Mem.gate (m : Mem w M g h c d cd G T L) {i : Nat} (hi : i < 8) (x : Nat) : Mem (w.setCell ⟨M, i, none⟩ (.int .u32 (x : Int))) M g h c d cd (fun j => if j = i then x else G j) T L :=
  ⟨m.ten.set hi x, m.tab.upd ((Upd.refl M w).setCell i _) (fun e => m.Mg e.symm) (fun e => m.Mh e.symm), m.wds.far (fun e => m.Md e.symm) _, m.len, m.cap, m.Mg, m.Mh, m.Md, m.gd, m.hd⟩
end
/-- Is an address in a page? -/
def inB (L : List Nat) (x : Nat) : Bool := decide (80 ≤ x) && decide (x - 80 < L.length)
theorem wordAt_eq (d : Nat) (L : List Nat) (x : Nat) : wordAt d L x = if inB L x = true then some ⟨d, x - 80, none⟩ else none := by
  unfold wordAt inB
  by_cases h : 80 ≤ x ∧ x - 80 < L.length
  · rw [if_pos h, if_pos (by simp [h.1, h.2])]
  · rw [if_neg h, if_neg (by simp only [Bool.and_eq_true, decide_eq_true_eq]; exact h)]
/-- A page's state, of the page as a value. -/
theorem field0 (W : World) (x wr : Bool) (ow ep : Int) (n : Int) : (Instr.field 109 (.agg #[.int .u8 n, .bool x, .bool wr, .int .u16 ow, .int .u64 ep]) 0).run Tryz.prog W = .ok (.int .u8 n) W := by
  kernel_rfl
/-- What Put makes of the words, and its answer. -/
def putM (T : List Page) (L : List Nat) (x v : Nat) : List Nat × Nat :=
  if inB L x = true then (if (getP T (pageOf x)).s = 1 then (L.set (x - 80) v, 0) else (L, 9)) else (L, 11)
set_option maxRecDepth 100000 in
set_option maxHeartbeats 2000000 in
theorem put_c {w : World} {M g h c d cd : Nat} {G : Nat → Nat} {T : List Page} {L : List Nat} (m : Mem w M g h c d cd G T L) (x v : Nat) (hx : x < 4294967296) :
    Calls Tryz.prog 17 #[.pointer (some ⟨M, 0, none⟩), .int .u32 (x : Int), .int .u32 (v : Int)] w fun e w' => e = .returned (.int .i64 ((putM T L x v).2 : Int)) ∧ Mem w' M g h c d cd G T (putM T L x v).1 ∧ Upd d w w' := by
  have WC := Lib.hid (word_c m x hx)
  rw [wordAt_eq] at WC
  have OC := ofp_c m x hx
  have MM := Lib.hid m
  unfold putM
  cases hb : inB L x with
  | false =>
    rw [if_neg (by decide)]
    rw [hb, if_neg (by decide)] at WC
    clear OC m hb
    go_enter Tryz.func17, Tryz.ntmps17
    go_wp2_with fail
    refine WC.out.mono ?_
    rintro e w1 ⟨rfl, rfl⟩
    go_wp2_with fail
    go_ret
    exact ⟨rfl, MM.out, Upd.refl _ _⟩
  | true =>
    rw [if_pos rfl]
    rw [hb, if_pos rfl] at WC
    have hi : x - 80 < L.length := by
      unfold inB at hb
      simp only [Bool.and_eq_true, decide_eq_true_eq] at hb
      exact hb.2
    generalize getP T (pageOf x) = p at OC ⊢
    obtain ⟨s, x_, wr, ow, ep⟩ := p
    have OC : Hid (Calls Tryz.prog 60 #[.pointer (some ⟨M, 0, none⟩), .int .u32 (x : Int)] w fun e w' => e = .returned (.agg #[.int .u8 (s : Int), .bool x_, .bool wr, .int .u16 (ow : Int), .int .u64 (ep : Int)]) ∧ Below w.heap.size w w') := Lib.hid OC
    simp only
    have HI := Lib.hid hi
    generalize x - 80 = y at WC hi HI ⊢
    clear m hb hi
    by_cases h1 : s = 1
    · rw [if_pos h1]
      subst h1
      have HF := fun W => field0 W x_ wr (ow : Int) (ep : Int) 1
      go_enter Tryz.func17, Tryz.ntmps17
      go_wp2_with fail
      refine WC.out.mono ?_
      rintro e w1 ⟨rfl, rfl⟩
      go_wp2_with fail
      refine OC.out.mono ?_
      rintro e w2 ⟨rfl, hb⟩
      have M2 := Lib.hid (MM.out.kept hb)
      have c0 := M2.out.wds.cell y HI.out
      have f0 := M2.out.wds.free y
      have F := Lib.hid (And.intro (M2.out.word HI.out v) ((Upd.of hb : Upd d _ _).setCell y (.int .u32 (v : Int))))
      generalize L[y]! = z at c0
      clear hb
      go_wp2_with fail
      go_ret
      exact ⟨rfl, F.out.1, F.out.2⟩
    · rw [if_neg h1]
      have hne : ((s : Int) != 1) = true := by simp; omega
      clear h1
      have HF := fun W => field0 W x_ wr (ow : Int) (ep : Int) (s : Int)
      go_enter Tryz.func17, Tryz.ntmps17
      go_wp2_with fail
      refine WC.out.mono ?_
      rintro e w1 ⟨rfl, rfl⟩
      go_wp2_with fail
      refine OC.out.mono ?_
      rintro e w2 ⟨rfl, hb⟩
      have F := Lib.hid (And.intro (MM.out.kept hb) (Upd.of hb : Upd d _ _))
      clear hb
      go_wp2_with fail
      go_ret
      exact ⟨rfl, F.out.1, F.out.2⟩
/-- What SetGate makes of the gates, and its answer. -/
def setM (G : Nat → Nat) (i : Int) (x : Nat) : (Nat → Nat) × Nat := if 0 ≤ i ∧ i < 8 then (fun j => if j = i.toNat then x else G j, 0) else (G, 2)
set_option maxRecDepth 100000 in
theorem setgate_c {w : World} {M g h c d cd : Nat} {G : Nat → Nat} {T : List Page} {L : List Nat} (m : Mem w M g h c d cd G T L) (i : Int) (v : Nat) :
    Calls Tryz.prog 21 #[.pointer (some ⟨M, 0, none⟩), .int .i64 i, .int .u32 (v : Int)] w fun e w' => e = .returned (.int .i64 ((setM G i v).2 : Int)) ∧ Mem w' M g h c d cd (setM G i v).1 T L ∧ Upd M w w' := by
  unfold setM
  by_cases h0 : i < 0
  · rw [if_neg (by omega)]
    have MM := Lib.hid m
    clear m
    go_enter Tryz.func21, Tryz.ntmps21
    go_wp2_with fail
    go_ret
    exact ⟨rfl, MM.out, Upd.refl _ _⟩
  by_cases h1 : 8 ≤ i
  · rw [if_neg (by omega)]
    have MM := Lib.hid m
    clear m
    go_enter Tryz.func21, Tryz.ntmps21
    go_wp2_with fail
    go_ret
    exact ⟨rfl, MM.out, Upd.refl _ _⟩
  obtain ⟨y, rfl⟩ : ∃ y : Nat, i = (y : Int) := ⟨i.toNat, by omega⟩
  rw [if_pos (by omega), Int.toNat_natCast]
  have cg := m.ten.gate y (by omega)
  have fg := m.ten.free y
  have hy : (y : Int) < 8 := by omega
  have hy8 : y < 8 := by omega
  have F := Lib.hid (And.intro (m.gate hy8 v) ((Upd.refl M w).setCell y (.int .u32 (v : Int))))
  clear m h0 h1
  go_enter Tryz.func21, Tryz.ntmps21
  go_wp2_with fail
  go_ret
  exact ⟨rfl, F.out.1, F.out.2⟩
/-- What an address tells a hart that fetches. -/
def fetchM (G : Nat → Nat) (T : List Page) (L : List Nat) (x ep : Nat) : Nat × Nat × Bool :=
  if x < 64 then (ent x, 0, true)
  else if ((getP T (pageOf x)).x && P1.see (getP T (pageOf x)).s ep (getP T (pageOf x)).ep) = true then (peekM G L x, (getP T (pageOf x)).ow, true) else (0, 0, false)
def f3 (p : Nat × Nat × Bool) : Value := .tuple #[.int .u32 (p.1 : Int), .int .u16 (p.2.1 : Int), .bool p.2.2]
set_option maxRecDepth 100000 in
set_option maxHeartbeats 4000000 in
theorem fetch_c {w : World} {M g h c d cd : Nat} {G : Nat → Nat} {T : List Page} {L : List Nat} (m : Mem w M g h c d cd G T L) (x ep : Nat) (hx : x < 4294967296) :
    Calls Tryz.prog 26 #[.pointer (some ⟨M, 0, none⟩), .int .u32 (x : Int), .int .u64 (ep : Int)] w fun e w' => e = .returned (f3 (fetchM G T L x ep)) ∧ Below w.heap.size w w' := by
  unfold fetchM f3
  by_cases h0 : x < 64
  · rw [if_pos h0]
    have hz : (x : Int) < 64 := by omega
    have S := Lib.hid (fun W => slot_c W x h0)
    clear m
    go_enter Tryz.func26, Tryz.ntmps26
    go_wp2_with fail
    refine (S.out _).mono ?_
    rintro e w1 ⟨rfl, hb⟩
    have HB := Lib.hid hb
    clear hb
    go_wp2_with fail
    go_ret3
    exact ⟨rfl, HB.out⟩
  rw [if_neg h0]
  have hz : ¬ (x : Int) < 64 := by omega
  have OC := ofp_c m x hx
  have PK := Lib.hid (fun W (q : Mem W M g h c d cd G T L) => peek_c q x hx)
  have MM := Lib.hid m
  clear m
  generalize peekM G L x = z at PK ⊢
  generalize getP T (pageOf x) = p at OC ⊢
  obtain ⟨s, x_, wr, ow, pe⟩ := p
  have OC : Hid (Calls Tryz.prog 60 #[.pointer (some ⟨M, 0, none⟩), .int .u32 (x : Int)] w fun e w' => e = .returned (.agg #[.int .u8 (s : Int), .bool x_, .bool wr, .int .u16 (ow : Int), .int .u64 (pe : Int)]) ∧ Below w.heap.size w w') := Lib.hid OC
  simp only
  have RC := fun W => P1.runs_c s x_ wr ow pe ep W
  generalize (x_ && P1.see s ep pe) = R at RC ⊢
  have RC : Hid (∀ W, Calls Tryz.prog 73 #[.agg #[.int .u8 (s : Int), .bool x_, .bool wr, .int .u16 (ow : Int), .int .u64 (pe : Int)], .int .u64 (ep : Int)] W fun r w' => r = .returned (.bool R) ∧ Below W.heap.size W w') := Lib.hid RC
  cases R with
  | false =>
    rw [if_neg (by decide)]
    go_enter Tryz.func26, Tryz.ntmps26
    go_wp2_with fail
    refine OC.out.mono ?_
    rintro e w1 ⟨rfl, hb⟩
    have B1 := Lib.hid (hb.alloc hb.size (.cells #[.int .u8 (s : Int), .bool x_, .bool wr, .int .u16 (ow : Int), .int .u64 (pe : Int)] 109))
    clear hb
    go_wp2_with fail
    refine (RC.out _).mono ?_
    rintro e w2 ⟨rfl, hb⟩
    have B2 := Lib.hid (B1.out.trans (hb.mono B1.out.size))
    clear hb
    go_wp2_with fail
    go_ret3
    exact ⟨rfl, B2.out⟩
  | true =>
    rw [if_pos rfl]
    go_enter Tryz.func26, Tryz.ntmps26
    go_wp2_with fail
    refine OC.out.mono ?_
    rintro e w1 ⟨rfl, hb⟩
    have B1 := Lib.hid (hb.alloc hb.size (.cells #[.int .u8 (s : Int), .bool x_, .bool wr, .int .u16 (ow : Int), .int .u64 (pe : Int)] 109))
    clear hb
    go_wp2_with fail
    refine (RC.out _).mono ?_
    rintro e w2 ⟨rfl, hb⟩
    have B2 := Lib.hid (B1.out.trans (hb.mono B1.out.size))
    have MP := Lib.hid (MM.out.kept B2.out)
    have KB := ((Blk.new w1 109 #[.int .u8 (s : Int), .bool x_, .bool wr, .int .u16 (ow : Int), .int .u64 (pe : Int)]).kept hb)
    obtain ⟨c0, c1, c2, c3, c4⟩ := KB.five
    clear hb KB
    go_wp2_with fail
    go_region_held3 (fun w' => w'.cell? ⟨w1.heap.size, 3, none⟩ = some (.int .u16 (ow : Int))) (first | go_keep | (apply keep1m; assumption; assumption)) ((first | (go_at_call 47; (with_reducible refine (PK.out _ ?_).mono ?_); (first | exact MP.out | exact MP.out.drewN 1); rintro e w3 ⟨rfl, hb3⟩)))
    have B3 := Lib.hid ((B2.out.trans (((Below.refl _ w2).drew).mono B2.out.size)).trans (hb3.mono B2.out.size))
    clear hb3
    go_wp2_with fail
    go_ret3
    exact ⟨rfl, B3.out⟩
/-- What an address tells a hart that loads. -/
def loadM (G : Nat → Nat) (T : List Page) (L : List Nat) (x ep : Nat) : Nat × Bool :=
  if 80 ≤ x ∧ P1.see (getP T (pageOf x)).s ep (getP T (pageOf x)).ep = false then (0, false) else (peekM G L x, true)
def f2 (p : Nat × Bool) : Value := .tuple #[.int .u32 (p.1 : Int), .bool p.2]
set_option maxRecDepth 100000 in
set_option maxHeartbeats 4000000 in
theorem load_c {w : World} {M g h c d cd : Nat} {G : Nat → Nat} {T : List Page} {L : List Nat} (m : Mem w M g h c d cd G T L) (x ep : Nat) (hx : x < 4294967296) :
    Calls Tryz.prog 78 #[.pointer (some ⟨M, 0, none⟩), .int .u32 (x : Int), .int .u64 (ep : Int)] w fun e w' => e = .returned (f2 (loadM G T L x ep)) ∧ Below w.heap.size w w' := by
  unfold loadM f2
  have PK := Lib.hid (fun W (q : Mem W M g h c d cd G T L) => peek_c q x hx)
  generalize peekM G L x = z at PK ⊢
  by_cases h0 : 80 ≤ x
  · have hz : (80 : Int) ≤ (x : Int) := by omega
    have OC := ofp_c m x hx
    have MM := Lib.hid m
    clear m
    generalize getP T (pageOf x) = p at OC ⊢
    obtain ⟨s, x_, wr, ow, pe⟩ := p
    have OC : Hid (Calls Tryz.prog 60 #[.pointer (some ⟨M, 0, none⟩), .int .u32 (x : Int)] w fun e w' => e = .returned (.agg #[.int .u8 (s : Int), .bool x_, .bool wr, .int .u16 (ow : Int), .int .u64 (pe : Int)]) ∧ Below w.heap.size w w') := Lib.hid OC
    simp only
    have RC := fun W => P1.reads_c s x_ wr ow pe ep W
    generalize P1.see s ep pe = R at RC ⊢
    have RC : Hid (∀ W, Calls Tryz.prog 96 #[.agg #[.int .u8 (s : Int), .bool x_, .bool wr, .int .u16 (ow : Int), .int .u64 (pe : Int)], .int .u64 (ep : Int)] W fun r w' => r = .returned (.bool R) ∧ Below W.heap.size W w') := Lib.hid RC
    cases R with
    | false =>
      rw [if_pos ⟨h0, rfl⟩]
      go_enter Tryz.func78, Tryz.ntmps78
      go_wp2_with fail
      refine OC.out.mono ?_
      rintro e w1 ⟨rfl, hb⟩
      have B1 := Lib.hid hb
      clear hb
      go_wp2_with fail
      refine (RC.out _).mono ?_
      rintro e w2 ⟨rfl, hb⟩
      have B2 := Lib.hid (B1.out.trans (hb.mono B1.out.size))
      clear hb
      go_wp2_with fail
      go_ret2
      exact ⟨rfl, B2.out⟩
    | true =>
      rw [if_neg (by simp)]
      go_enter Tryz.func78, Tryz.ntmps78
      go_wp2_with fail
      refine OC.out.mono ?_
      rintro e w1 ⟨rfl, hb⟩
      have B1 := Lib.hid hb
      clear hb
      go_wp2_with fail
      refine (RC.out _).mono ?_
      rintro e w2 ⟨rfl, hb⟩
      have B2 := Lib.hid (B1.out.trans (hb.mono B1.out.size))
      clear hb
      have PP := Lib.hid (PK.out _ (MM.out.kept B2.out))
      go_wp2_with fail
      refine PP.out.mono ?_
      rintro e w3 ⟨rfl, hb⟩
      have B3 := Lib.hid (B2.out.trans (hb.mono B2.out.size))
      clear hb
      go_wp2_with fail
      go_ret2
      exact ⟨rfl, B3.out⟩
  · rw [if_neg (by omega)]
    have hz : ¬ (80 : Int) ≤ (x : Int) := by omega
    have PP := Lib.hid (PK.out _ m)
    clear m
    go_enter Tryz.func78, Tryz.ntmps78
    go_wp2_with fail
    refine PP.out.mono ?_
    rintro e w3 ⟨rfl, hb⟩
    have B3 := Lib.hid hb
    clear hb
    go_wp2_with fail
    go_ret2
    exact ⟨rfl, B3.out⟩
/-- May code of an owner write a page? -/
def wrB (p : Page) (ep o : Nat) : Bool := p.wr && ((o : Int) != 0) && ((p.ow : Int) == (o : Int)) && P1.see p.s ep p.ep
/-- What Store makes of the words, and its answer. -/
def storeM (T : List Page) (L : List Nat) (x v ep o : Nat) : List Nat × Bool := if wrB (getP T (pageOf x)) ep o = true then (L.set (x - 80) v, true) else (L, false)
theorem wrB_in {T : List Page} {L : List Nat} (hl : L.length = 16 * T.length) (few : T.length ≤ 256) {x ep o : Nat} (h : wrB (getP T (pageOf x)) ep o = true) : inB L x = true := by
  unfold wrB at h
  simp only [Bool.and_eq_true] at h
  have h4 := h.2
  unfold getP at h4
  by_cases hq : 0 ≤ pageOf x ∧ pageOf x < (T.length : Int)
  · unfold pageOf at hq
    unfold inB
    by_cases h0 : x < 80 ∨ 4176 ≤ x
    · rw [if_pos h0] at hq; omega
    · rw [if_neg h0] at hq
      simp only [Bool.and_eq_true, decide_eq_true_eq]
      omega
  · rw [if_neg hq] at h4
    exact absurd h4 (by simp [nz, P1.see])
set_option maxRecDepth 100000 in
set_option maxHeartbeats 4000000 in
theorem store_c {w : World} {M g h c d cd : Nat} {G : Nat → Nat} {T : List Page} {L : List Nat} (m : Mem w M g h c d cd G T L) (x v ep o : Nat) (hx : x < 4294967296) :
    Calls Tryz.prog 79 #[.pointer (some ⟨M, 0, none⟩), .int .u32 (x : Int), .int .u32 (v : Int), .int .u64 (ep : Int), .int .u16 (o : Int)] w fun e w' => e = .returned (.bool (storeM T L x v ep o).2) ∧ Mem w' M g h c d cd G T (storeM T L x v ep o).1 ∧ Upd d w w' := by
  unfold storeM
  have WC := Lib.hid (fun W (q : Mem W M g h c d cd G T L) => word_c q x hx)
  have hin := fun hh => wrB_in m.len m.tab.few (x := x) (ep := ep) (o := o) hh
  have OC := ofp_c m x hx
  have MM := Lib.hid m
  clear m
  generalize getP T (pageOf x) = p at OC hin ⊢
  have hwr : ∃ R, wrB p ep o = R := ⟨_, rfl⟩
  obtain ⟨R, hR⟩ := hwr
  have WR := fun W => P1.writes_c p.s p.x p.wr p.ow p.ep ep o W
  have WR : ∀ W, Calls Tryz.prog 102 #[P1.pg p.s p.x p.wr p.ow p.ep, .int .u64 (ep : Int), .int .u16 (o : Int)] W fun r w' => r = .returned (.bool (wrB p ep o)) ∧ Below W.heap.size W w' := WR
  rw [hR] at WR hin ⊢
  clear hR
  obtain ⟨s, x_, wr, ow, pe⟩ := p
  have OC : Hid (Calls Tryz.prog 60 #[.pointer (some ⟨M, 0, none⟩), .int .u32 (x : Int)] w fun e w' => e = .returned (.agg #[.int .u8 (s : Int), .bool x_, .bool wr, .int .u16 (ow : Int), .int .u64 (pe : Int)]) ∧ Below w.heap.size w w') := Lib.hid OC
  have WR : Hid (∀ W, Calls Tryz.prog 102 #[.agg #[.int .u8 (s : Int), .bool x_, .bool wr, .int .u16 (ow : Int), .int .u64 (pe : Int)], .int .u64 (ep : Int), .int .u16 (o : Int)] W fun r w' => r = .returned (.bool R) ∧ Below W.heap.size W w') := Lib.hid WR
  cases R with
  | false =>
    rw [if_neg (by decide)]
    clear hin
    go_enter Tryz.func79, Tryz.ntmps79
    go_wp2_with fail
    refine OC.out.mono ?_
    rintro e w1 ⟨rfl, hb⟩
    have B1 := Lib.hid hb
    clear hb
    go_wp2_with fail
    refine (WR.out _).mono ?_
    rintro e w2 ⟨rfl, hb⟩
    have B2 := Lib.hid (B1.out.trans (hb.mono B1.out.size))
    clear hb
    go_wp2_with fail
    go_ret
    exact ⟨rfl, MM.out.kept B2.out, Upd.of B2.out⟩
  | true =>
    rw [if_pos rfl]
    have hib := hin rfl
    have hi : x - 80 < L.length := by
      unfold inB at hib
      simp only [Bool.and_eq_true, decide_eq_true_eq] at hib
      exact hib.2
    have WC := fun W q => WC.out W q
    rw [wordAt_eq, hib, if_pos rfl] at WC
    have HI := Lib.hid hi
    generalize x - 80 = y at WC hi HI ⊢
    have WC := Lib.hid WC
    clear hin hib hi
    go_enter Tryz.func79, Tryz.ntmps79
    go_wp2_with fail
    refine OC.out.mono ?_
    rintro e w1 ⟨rfl, hb⟩
    have B1 := Lib.hid hb
    clear hb
    go_wp2_with fail
    refine (WR.out _).mono ?_
    rintro e w2 ⟨rfl, hb⟩
    have B2 := Lib.hid (B1.out.trans (hb.mono B1.out.size))
    have M2 := Lib.hid (MM.out.kept B2.out)
    have c0 := M2.out.wds.cell y HI.out
    have f0 := M2.out.wds.free y
    have F := Lib.hid (And.intro (M2.out.word HI.out v) ((Upd.of B2.out : Upd d _ _).setCell y (.int .u32 (v : Int))))
    generalize L[y]! = z at c0
    clear hb
    go_wp2_with fail
    refine (WC.out _ M2.out).mono ?_
    rintro e w3 ⟨rfl, rfl⟩
    go_wp2_with fail
    go_ret
    exact ⟨rfl, F.out.1, F.out.2⟩
end Go.Proofs.YthnbdeibjbicpaaGreat.PM
