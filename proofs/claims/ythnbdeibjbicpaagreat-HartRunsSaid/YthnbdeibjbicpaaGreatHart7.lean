/- The stack; contracts of hart's jump: Call, and a Ret that pops. Conditions: the cells. -/
import Derived.Test.YthnbdeibjbicpaaGreatKHartD
import Derived.Deep.RegionLaw
import Derived.OwnWalk
import Derived.WalkSmall
namespace Go.Proofs.YthnbdeibjbicpaaGreat.PM
set_option linter.unusedVariables false
set_option linter.unusedSimpArgs false
open Go.RowKit
/-- append to a row of the call's own, as one step of a region that draws. -/
theorem step_append_own {P : Program} {ops : Array Oper} {o : Oper} {a : Act} {w : World} {K : Act → World → Prop} {Q : Exit → Act → World → Prop} {E : Prop}
    (hg : o.guard = none) (s x : Operand) (t : TypeId) (hop : o.op = Op.call { callee := Callee.builtin Builtin.append, args := #[s, x], argTypes := #[t, t] })
    (e : TypeId) (i : TypeInfo) (z : Value) (size bytes : Nat) (h1 : P.underlying t = some (.slice e)) (h2 : P.info? e = some i) (h3 : i.zero = some z) (h4 : i.size = size) (h5 : i.bytes = bytes) (h6 : z.cells.size = size) (h7 : 0 < size)
    (base : Nat) (v : Value) (n : Nat) (xs : List Value) (hs : a.eval s = v) (hown : w.ownsRow base e size v n xs)
    (ad : Addr) (m c : Nat) (news : List Value) (hx : a.eval x = .slice (some ad) m c) (hn : news.length = m * size) (hc : ∀ j u, news[j]? = some u → w.cell? (ad.add j) = some u) (h1c : ∀ u ∈ news, u.oneCell' = true)
    (b1 : n + m ≤ maxLen) (b2 : (n + m) * bytes ≤ 140737488355328) (hb : base ≤ w.heap.size)
    (hK : ∀ v' w', w'.ownsRow base e size v' (n + m) (xs ++ news) → w.grownBy w' v.ownBlock → K (a.put o.dst v') w') :
    if Region.wanted o (yielded ops a.tmps) = true then Oper.wp P o a w K Q else E := by
  have hw : Region.wanted o (yielded ops a.tmps) = true := by simp [Region.wanted, hg]
  rw [if_pos hw]
  obtain ⟨v', w', hrun, r1, r2, _⟩ := run_append_own (P := P) w base t o.type e i z size bytes h1 h2 h3 h4 h5 h6 h7 v n xs hown ad m c news hn hc h1c b1 b2 hb
  unfold Oper.wp
  simp [execOp, hop, resolve, invoke, builtin, hs, hx, hrun, Result.andThen]
  exact hK v' w' r1 r2
def u32s (S : List Nat) : List Value := S.map fun (x : Nat) => Value.int .u32 (x : Int)
/-- A stack of the call's own. -/
def Own (w : World) (base : Nat) (s : Value) (S : List Nat) : Prop := w.ownsRow base 23 1 s S.length (u32s S)
theorem Own.block {w w' : World} {base : Nat} {s : Value} {S : List Nat} (o : Own w base s S) (h : ∀ k, s.ownBlock = some k → w'.heap[k]? = w.heap[k]?) : Own w' base s S := by
  obtain ⟨hl, h1 | ⟨g, cap, cur, rfl, hg, hb, hr⟩⟩ := o
  · exact ⟨hl, .inl h1⟩
  · exact ⟨hl, .inr ⟨g, cap, cur, rfl, hg, (h g rfl).trans hb, hr⟩⟩
theorem Own.lt {w : World} {base : Nat} {s : Value} {S : List Nat} (o : Own w base s S) : ∀ k, s.ownBlock = some k → base ≤ k ∧ k < w.heap.size := World.ownsRow.lt o
theorem Own.kept {w w' : World} {base : Nat} {s : Value} {S : List Nat} (o : Own w base s S) (hb : Below w.heap.size w w') : Own w' base s S := o.block fun k hk => hb.block k (o.lt k hk).2
theorem Own.upd {w w' : World} {base B : Nat} {s : Value} {S : List Nat} (o : Own w base s S) (u : Upd B w w') (h : s.ownBlock ≠ some B) : Own w' base s S :=
  o.block fun k hk => u.block k (o.lt k hk).2 (fun e => h (by rw [hk, e]))
/-- The stack's block is not the run's. -/
theorem Own.apart {w : World} {base B : Nat} {s : Value} {S : List Nat} {cs : Array Value} (o : Own w base s S) (k : Blk w B 73 cs) : s.ownBlock ≠ some B := by
  obtain ⟨hl, ⟨rfl, _⟩ | ⟨g, cap, cur, rfl, hg, hb, _⟩⟩ := o
  · intro e; cases e
  · intro e
    have e : g = B := by simpa [Value.ownBlock] using e
    subst e
    unfold Blk at k
    rw [hb] at k
    simp at k
theorem Own.form {w : World} {base : Nat} {s : Value} {S : List Nat} (o : Own w base s S) : ∃ src cap, s = .slice src S.length cap ∧ S.length ≤ cap := by
  obtain ⟨hl, ⟨rfl, h0⟩ | ⟨g, cap, cur, rfl, hg, hb, hn, _⟩⟩ := o
  · exact ⟨none, 0, by rw [h0], by omega⟩
  · exact ⟨_, cap, rfl, hn⟩
theorem Own.form_pos {w : World} {base : Nat} {s : Value} {S : List Nat} (o : Own w base s S) (h : 0 < S.length) : ∃ g cap, s = .slice (some ⟨g, 0, none⟩) S.length cap ∧ S.length ≤ cap := by
  obtain ⟨hl, ⟨rfl, h0⟩ | ⟨g, cap, cur, rfl, hg, hb, hn, _⟩⟩ := o
  · omega
  · exact ⟨g, cap, rfl, hn⟩
theorem Own.cell {w : World} {base g cap : Nat} {S : List Nat} (o : Own w base (.slice (some ⟨g, 0, none⟩) S.length cap) S) (i : Nat) (hi : i < S.length) : w.cell? ⟨g, i, none⟩ = some (.int .u32 ((S[i]! : Nat) : Int)) := by
  have := World.ownsRow.cells o (g := g) rfl i (.int .u32 ((S[i]! : Nat) : Int)) (by
    unfold u32s
    rw [List.getElem?_map, List.getElem!_eq_getElem?_getD, List.getElem?_eq_getElem hi]
    rfl)
  rw [add_row] at this
  exact this
theorem Own.pop {w : World} {base g cap x : Nat} {S : List Nat} (o : Own w base (.slice (some ⟨g, 0, none⟩) (S.length + 1) cap) (S ++ [x])) : Own w base (.slice (some ⟨g, 0, none⟩) S.length cap) S := by
  have e : u32s (S ++ [x]) = u32s S ++ [.int .u32 (x : Int)] := by simp [u32s]
  have h : w.ownsRow base 23 1 (.slice (some ⟨g, 0, none⟩) (S.length + 1) cap) (S.length + 1) (u32s S ++ [.int .u32 (x : Int)]) := by
    have h := o
    unfold Own at h
    rw [e, List.length_append] at h
    exact h
  exact ownsRow_pop (by simp [u32s]) h
/-- Behind a jump that may turn the stack. -/
def JP (w : World) (base B pc : Nat) (R : Nat → Nat) (why ep home : Nat) (mp : Value) (epoch ow : Nat) (nS nT : Bool) (nA nW : Nat) (S : List Nat) (e : Ending) (w' : World) : Prop :=
  e = .returned (.tuple #[]) ∧ ∃ s, RunB w' B pc R s why ep home mp epoch ow nS nT nA nW ∧ Own w' base s S ∧ Below base w w'
set_option maxRecDepth 100000 in
set_option maxHeartbeats 8000000 in
theorem jump_17_full (w : World) (B pc : Nat) (R : Nat → Nat) (s : Value) (why ep home : Nat) (M g h c d cd : Nat) (G : Nat → Nat) (T : List Page) (L : List Nat) (epoch ow : Nat) (nS nT : Bool) (nA nW : Nat) (K : RunB w B pc R s why ep home (.pointer (some ⟨M, 0, none⟩)) epoch ow nS nT nA nW) (rd ra rb : Nat) (imm : Int) (hd : rd < 8) (ha : ra < 8) (tg : Nat) (tb : Bool) (TG : ∀ W, Calls Tryz.prog 80 #[.int .u32 (pc : Int), .agg #[.int .u8 17, .int .u8 (rd : Int), .int .u8 (ra : Int), .int .u8 (rb : Int), .int .i32 imm]] W fun e w' => e = .returned (.tuple #[.int .u32 (tg : Int), .bool tb]) ∧ Below W.heap.size W w') (src : Option Addr) (n cap : Nat) (hs : s = .slice src n cap) (hn : 16 ≤ n) :
    Calls Tryz.prog 32 #[.pointer (some ⟨B, 0, none⟩), .agg #[.int .u8 17, .int .u8 (rd : Int), .int .u8 (ra : Int), .int .u8 (rb : Int), .int .i32 imm]] w fun e w' => RunP w B pc R s 6 ep home (.pointer (some ⟨M, 0, none⟩)) epoch ow nS nT nA nW e w' := by
  unfold RunB at K
  have hwi := wrap_inc pc
  replace TG := Lib.hid TG
  have hnz : (16 : Int) ≤ (n : Int) := by omega
  have K0 : Hid (RunB (w.alloc (.cells #[.int .u8 17, .int .u8 (rd : Int), .int .u8 (ra : Int), .int .u8 (rb : Int), .int .i32 imm] 78)) B pc R s why ep home (.pointer (some ⟨M, 0, none⟩)) epoch ow nS nT nA nW) := Lib.hid (Blk.alloc K _)
  have I0 := Lib.hid (Blk.new w 78 #[.int .u8 17, .int .u8 (rd : Int), .int .u8 (ra : Int), .int .u8 (rb : Int), .int .i32 imm])
  have hB : B < w.heap.size := K.lt
  generalize hW : w.alloc (.cells #[.int .u8 17, .int .u8 (rd : Int), .int .u8 (ra : Int), .int .u8 (rb : Int), .int .i32 imm] 78) = W at K0 I0
  have UW : Hid (Upd B w W) := Lib.hid (hW ▸ (Upd.refl B w).alloc _)
  have KW := Lib.hid hW
  clear hW K
  have TX : Hid ((W.drew.cell? ⟨B, 0, none⟩ = some (.int .u32 (pc : Int))) ∧ W.drew.cell? ⟨w.heap.size, 0, none⟩ = some (.int .u8 17) ∧ W.drew.cell? ⟨w.heap.size, 1, none⟩ = some (.int .u8 (rd : Int)) ∧ W.drew.cell? ⟨w.heap.size, 2, none⟩ = some (.int .u8 (ra : Int)) ∧ W.drew.cell? ⟨w.heap.size, 3, none⟩ = some (.int .u8 (rb : Int)) ∧ W.drew.cell? ⟨w.heap.size, 4, none⟩ = some (.int .i32 imm)) := Lib.hid ⟨K0.out.cell 0, I0.out.cell 0, I0.out.cell 1, I0.out.cell 2, I0.out.cell 3, I0.out.cell 4⟩
  go_enter Tryz.func32, Tryz.ntmps32
  go_wp2_with fail
  (try rw [KW.out])
  go_region_held3 (fun w' => w'.cell? ⟨B, 0, none⟩ = some (.int .u32 (pc : Int)) ∧ w'.cell? ⟨w.heap.size, 0, none⟩ = some (.int .u8 17) ∧ w'.cell? ⟨w.heap.size, 1, none⟩ = some (.int .u8 (rd : Int)) ∧ w'.cell? ⟨w.heap.size, 2, none⟩ = some (.int .u8 (ra : Int)) ∧ w'.cell? ⟨w.heap.size, 3, none⟩ = some (.int .u8 (rb : Int)) ∧ w'.cell? ⟨w.heap.size, 4, none⟩ = some (.int .i32 imm)) (first | exact TX.out | (apply keep6 hb1; assumption) | go_keep) ((first | (go_at_call 80; (with_reducible refine (TG.out _).mono ?_); rintro e w1 ⟨rfl, hb1⟩)))
  have hb1 : Below W.heap.size W w1 := (below_drewN (Below.refl _ _) 1).trans hb1
  have K1 : Hid (RunB w1 B pc R s why ep home (.pointer (some ⟨M, 0, none⟩)) epoch ow nS nT nA nW) := Lib.hid (Blk.kept K0.out hb1)
  have I1 := Lib.hid (I0.out.kept hb1)
  have U1 := Lib.hid (UW.out.then_ hb1)
  clear hb1 TX K0 I0 UW KW TG
  have i0 : w1.cell? ⟨w.heap.size, 0, none⟩ = some (.int .u8 17) := I1.out.cell 0
  have t9 : w1.cell? ⟨B, 9, none⟩ = some (s) := K1.out.cell 9
  have ft9 : w1.frozen? ⟨B, 9, none⟩ = false := K1.out.frozen 9
  have t10 : w1.cell? ⟨B, 10, none⟩ = some (.int .u8 (why : Int)) := K1.out.cell 10
  have ft10 : w1.frozen? ⟨B, 10, none⟩ = false := K1.out.frozen 10
  rw [hs] at t9
  have F : Hid (RunP w B pc R s 6 ep home (.pointer (some ⟨M, 0, none⟩)) epoch ow nS nT nA nW (.returned (.tuple #[])) (w1.setCell ⟨B, 10, none⟩ (.int .u8 6))) := Lib.hid ⟨rfl, by
    have k := Blk.set_ K1.out 10 (.int .u8 6)
    unfold RunB
    simpa using k, U1.out.setCell 10 _⟩
  clear K1 I1 U1
  go_wp2_with fail
  refine bodyPost_ret (v := .tuple #[]) (by simp [results, Tryz.results32, go_sem, *]) rfl ?_
  exact F.out
set_option maxRecDepth 100000 in
set_option maxHeartbeats 8000000 in
theorem jump_18_pop (w : World) (B pc : Nat) (R : Nat → Nat) (s : Value) (why ep home : Nat) (M g h c d cd : Nat) (G : Nat → Nat) (T : List Page) (L : List Nat) (epoch ow : Nat) (nS nT : Bool) (nA nW : Nat) (K : RunB w B pc R s why ep home (.pointer (some ⟨M, 0, none⟩)) epoch ow nS nT nA nW) (rd ra rb : Nat) (imm : Int) (hd : rd < 8) (ha : ra < 8) (tg : Nat) (tb : Bool) (TG : ∀ W, Calls Tryz.prog 80 #[.int .u32 (pc : Int), .agg #[.int .u8 18, .int .u8 (rd : Int), .int .u8 (ra : Int), .int .u8 (rb : Int), .int .i32 imm]] W fun e w' => e = .returned (.tuple #[.int .u32 (tg : Int), .bool tb]) ∧ Below W.heap.size W w') (base x : Nat) (S : List Nat) (ho : Own w base s (S ++ [x])) (hS : S.length < 35184372088832) (hbB : base ≤ B) :
    Calls Tryz.prog 32 #[.pointer (some ⟨B, 0, none⟩), .agg #[.int .u8 18, .int .u8 (rd : Int), .int .u8 (ra : Int), .int .u8 (rb : Int), .int .i32 imm]] w fun e w' => JP w base B x R why ep home (.pointer (some ⟨M, 0, none⟩)) epoch ow nS nT nA nW S e w' := by
  unfold RunB at K
  have hwi := wrap_inc pc
  replace TG := Lib.hid TG
  have O0 : Hid (Own (w.alloc (.cells #[.int .u8 18, .int .u8 (rd : Int), .int .u8 (ra : Int), .int .u8 (rb : Int), .int .i32 imm] 78)) base s (S ++ [x])) := Lib.hid (ho.kept ((Below.refl _ w).alloc (Nat.le_refl _) _))
  obtain ⟨gs, cap, hs, hcap⟩ := ho.form_pos (by simp)
  rw [List.length_append] at hs hcap
  have hs : s = .slice (some ⟨gs, 0, none⟩) (S.length + 1) cap := hs
  have hcap : S.length + 1 ≤ cap := hcap
  clear ho
  have K0 : Hid (RunB (w.alloc (.cells #[.int .u8 18, .int .u8 (rd : Int), .int .u8 (ra : Int), .int .u8 (rb : Int), .int .i32 imm] 78)) B pc R s why ep home (.pointer (some ⟨M, 0, none⟩)) epoch ow nS nT nA nW) := Lib.hid (Blk.alloc K _)
  have I0 := Lib.hid (Blk.new w 78 #[.int .u8 18, .int .u8 (rd : Int), .int .u8 (ra : Int), .int .u8 (rb : Int), .int .i32 imm])
  have hB : B < w.heap.size := K.lt
  generalize hW : w.alloc (.cells #[.int .u8 18, .int .u8 (rd : Int), .int .u8 (ra : Int), .int .u8 (rb : Int), .int .i32 imm] 78) = W at K0 I0 O0
  have UW : Hid (Upd B w W) := Lib.hid (hW ▸ (Upd.refl B w).alloc _)
  have KW := Lib.hid hW
  clear hW K
  have TX : Hid ((W.drew.cell? ⟨B, 0, none⟩ = some (.int .u32 (pc : Int))) ∧ W.drew.cell? ⟨w.heap.size, 0, none⟩ = some (.int .u8 18) ∧ W.drew.cell? ⟨w.heap.size, 1, none⟩ = some (.int .u8 (rd : Int)) ∧ W.drew.cell? ⟨w.heap.size, 2, none⟩ = some (.int .u8 (ra : Int)) ∧ W.drew.cell? ⟨w.heap.size, 3, none⟩ = some (.int .u8 (rb : Int)) ∧ W.drew.cell? ⟨w.heap.size, 4, none⟩ = some (.int .i32 imm)) := Lib.hid ⟨K0.out.cell 0, I0.out.cell 0, I0.out.cell 1, I0.out.cell 2, I0.out.cell 3, I0.out.cell 4⟩
  go_enter Tryz.func32, Tryz.ntmps32
  go_wp2_with fail
  (try rw [KW.out])
  go_region_held3 (fun w' => w'.cell? ⟨B, 0, none⟩ = some (.int .u32 (pc : Int)) ∧ w'.cell? ⟨w.heap.size, 0, none⟩ = some (.int .u8 18) ∧ w'.cell? ⟨w.heap.size, 1, none⟩ = some (.int .u8 (rd : Int)) ∧ w'.cell? ⟨w.heap.size, 2, none⟩ = some (.int .u8 (ra : Int)) ∧ w'.cell? ⟨w.heap.size, 3, none⟩ = some (.int .u8 (rb : Int)) ∧ w'.cell? ⟨w.heap.size, 4, none⟩ = some (.int .i32 imm)) (first | exact TX.out | (apply keep6 hb1; assumption) | go_keep) ((first | (go_at_call 80; (with_reducible refine (TG.out _).mono ?_); rintro e w1 ⟨rfl, hb1⟩)))
  have hb1 : Below W.heap.size W w1 := (below_drewN (Below.refl _ _) 1).trans hb1
  have K1 : Hid (RunB w1 B pc R s why ep home (.pointer (some ⟨M, 0, none⟩)) epoch ow nS nT nA nW) := Lib.hid (Blk.kept K0.out hb1)
  have I1 := Lib.hid (I0.out.kept hb1)
  have U1 := Lib.hid (UW.out.then_ hb1)
  have H1 := Lib.hid hb1
  clear hb1 TX K0 I0 UW KW TG
  have O1 := Lib.hid (O0.out.kept H1.out)
  have i0 : w1.cell? ⟨w.heap.size, 0, none⟩ = some (.int .u8 18) := I1.out.cell 0
  have t0 : w1.cell? ⟨B, 0, none⟩ = some (.int .u32 (pc : Int)) := K1.out.cell 0
  have ft0 : w1.frozen? ⟨B, 0, none⟩ = false := K1.out.frozen 0
  have t9 : w1.cell? ⟨B, 9, none⟩ = some (s) := K1.out.cell 9
  have ft9 : w1.frozen? ⟨B, 9, none⟩ = false := K1.out.frozen 9
  rw [hs] at t9
  have cx : w1.cell? ⟨gs, S.length, none⟩ = some (.int .u32 (x : Int)) := by
    have o := O1.out
    rw [hs] at o
    have := World.ownsRow.cells o (g := gs) rfl S.length (.int .u32 (x : Int)) (by simp [u32s])
    rw [add_row] at this
    exact this
  have hl1 : (S.length : Int) + 1 - 1 = (S.length : Int) := by omega
  have hw1 : IntKind.i64.wrap (S.length : Int) = (S.length : Int) := by unfold IntKind.wrap; simp [IntKind.bits, IntKind.signed]; omega
  have hp : (0 : Int) < (S.length : Int) + 1 := by omega
  have hbase : base ≤ w.heap.size := by have := K1.out.lt; omega
  have F : Hid (∀ n, JP w base B x R why ep home (.pointer (some ⟨M, 0, none⟩)) epoch ow nS nT nA nW S (.returned (.tuple #[])) (((w1.drewN n).setCell ⟨B, 0, none⟩ (.int .u32 (x : Int))).setCell ⟨B, 9, none⟩ (.slice (some ⟨gs, 0, none⟩) S.length cap))) := Lib.hid fun n => by
    have u : Upd B w1 (((w1.drewN n).setCell ⟨B, 0, none⟩ (.int .u32 (x : Int))).setCell ⟨B, 9, none⟩ (.slice (some ⟨gs, 0, none⟩) S.length cap)) := (((Upd.refl B w1).drewN n).setCell 0 _).setCell 9 _
    have k := Blk.set_ (Blk.set_ (Blk.drewN K1.out n) 0 (.int .u32 (x : Int))) 9 (.slice (some ⟨gs, 0, none⟩) S.length cap)
    have o := O1.out.upd u (O1.out.apart K1.out)
    rw [hs] at o
    have U := U1.out.trans u
    refine ⟨rfl, _, by unfold RunB; simpa using k, o.pop, ⟨U.os, U.tape, U.output, U.size, fun k hk => U.block k (by omega) (by omega)⟩⟩
  clear O1 K1 I1 U1 H1
  go_wp2_with fail
  go_region_with (fail)
  all_goals
    go_wp2_with fail
    refine bodyPost_ret (v := .tuple #[]) (by simp [results, Tryz.results32, go_sem, *]) rfl ?_
    exact F.out _
set_option maxRecDepth 100000 in
set_option maxHeartbeats 8000000 in
theorem jump_17 (w : World) (B pc : Nat) (R : Nat → Nat) (s : Value) (why ep home : Nat) (M g h c d cd : Nat) (G : Nat → Nat) (T : List Page) (L : List Nat) (epoch ow : Nat) (nS nT : Bool) (nA nW : Nat) (K : RunB w B pc R s why ep home (.pointer (some ⟨M, 0, none⟩)) epoch ow nS nT nA nW) (rd ra rb : Nat) (imm : Int) (hd : rd < 8) (ha : ra < 8) (tg : Nat) (tb : Bool) (TG : ∀ W, Calls Tryz.prog 80 #[.int .u32 (pc : Int), .agg #[.int .u8 17, .int .u8 (rd : Int), .int .u8 (ra : Int), .int .u8 (rb : Int), .int .i32 imm]] W fun e w' => e = .returned (.tuple #[.int .u32 (tg : Int), .bool tb]) ∧ Below W.heap.size W w') (base : Nat) (S : List Nat) (ho : Own w base s S) (hS : S.length < 16) (hbB : base ≤ B) :
    Calls Tryz.prog 32 #[.pointer (some ⟨B, 0, none⟩), .agg #[.int .u8 17, .int .u8 (rd : Int), .int .u8 (ra : Int), .int .u8 (rb : Int), .int .i32 imm]] w fun e w' => JP w base B tg R why ep home (.pointer (some ⟨M, 0, none⟩)) epoch ow nS nT nA nW (S ++ [inc pc]) e w' := by
  unfold RunB at K
  have hwi := wrap_inc pc
  replace TG := Lib.hid TG
  have O0 : Hid (Own (w.alloc (.cells #[.int .u8 17, .int .u8 (rd : Int), .int .u8 (ra : Int), .int .u8 (rb : Int), .int .i32 imm] 78)) base s S) := Lib.hid (ho.kept ((Below.refl _ w).alloc (Nat.le_refl _) _))
  obtain ⟨src, cap, hs, hcap⟩ := ho.form
  obtain ⟨ti, hi, hz0, hz1, hz2⟩ := info_parts info_u32
  have hnz : ¬ (16 : Int) ≤ (S.length : Int) := by omega
  have hnz2 : (S.length : Int) < 16 := by omega
  clear ho
  have K0 : Hid (RunB (w.alloc (.cells #[.int .u8 17, .int .u8 (rd : Int), .int .u8 (ra : Int), .int .u8 (rb : Int), .int .i32 imm] 78)) B pc R s why ep home (.pointer (some ⟨M, 0, none⟩)) epoch ow nS nT nA nW) := Lib.hid (Blk.alloc K _)
  have I0 := Lib.hid (Blk.new w 78 #[.int .u8 17, .int .u8 (rd : Int), .int .u8 (ra : Int), .int .u8 (rb : Int), .int .i32 imm])
  have hB : B < w.heap.size := K.lt
  generalize hW : w.alloc (.cells #[.int .u8 17, .int .u8 (rd : Int), .int .u8 (ra : Int), .int .u8 (rb : Int), .int .i32 imm] 78) = W at K0 I0 O0
  have UW : Hid (Upd B w W) := Lib.hid (hW ▸ (Upd.refl B w).alloc _)
  have KW := Lib.hid hW
  clear hW K
  have TX : Hid ((W.drew.cell? ⟨B, 0, none⟩ = some (.int .u32 (pc : Int))) ∧ W.drew.cell? ⟨w.heap.size, 0, none⟩ = some (.int .u8 17) ∧ W.drew.cell? ⟨w.heap.size, 1, none⟩ = some (.int .u8 (rd : Int)) ∧ W.drew.cell? ⟨w.heap.size, 2, none⟩ = some (.int .u8 (ra : Int)) ∧ W.drew.cell? ⟨w.heap.size, 3, none⟩ = some (.int .u8 (rb : Int)) ∧ W.drew.cell? ⟨w.heap.size, 4, none⟩ = some (.int .i32 imm)) := Lib.hid ⟨K0.out.cell 0, I0.out.cell 0, I0.out.cell 1, I0.out.cell 2, I0.out.cell 3, I0.out.cell 4⟩
  go_enter Tryz.func32, Tryz.ntmps32
  go_wp2_with fail
  (try rw [KW.out])
  go_region_held3 (fun w' => w'.cell? ⟨B, 0, none⟩ = some (.int .u32 (pc : Int)) ∧ w'.cell? ⟨w.heap.size, 0, none⟩ = some (.int .u8 17) ∧ w'.cell? ⟨w.heap.size, 1, none⟩ = some (.int .u8 (rd : Int)) ∧ w'.cell? ⟨w.heap.size, 2, none⟩ = some (.int .u8 (ra : Int)) ∧ w'.cell? ⟨w.heap.size, 3, none⟩ = some (.int .u8 (rb : Int)) ∧ w'.cell? ⟨w.heap.size, 4, none⟩ = some (.int .i32 imm)) (first | exact TX.out | (apply keep6 hb1; assumption) | go_keep) ((first | (go_at_call 80; (with_reducible refine (TG.out _).mono ?_); rintro e w1 ⟨rfl, hb1⟩)))
  have hb1 : Below W.heap.size W w1 := (below_drewN (Below.refl _ _) 1).trans hb1
  have K1 : Hid (RunB w1 B pc R s why ep home (.pointer (some ⟨M, 0, none⟩)) epoch ow nS nT nA nW) := Lib.hid (Blk.kept K0.out hb1)
  have I1 := Lib.hid (I0.out.kept hb1)
  have U1 := Lib.hid (UW.out.then_ hb1)
  have H1 := Lib.hid hb1
  clear hb1 TX K0 I0 UW KW TG
  have O1 := Lib.hid (O0.out.kept H1.out)
  have i0 : w1.cell? ⟨w.heap.size, 0, none⟩ = some (.int .u8 17) := I1.out.cell 0
  have t0 : w1.cell? ⟨B, 0, none⟩ = some (.int .u32 (pc : Int)) := K1.out.cell 0
  have ft0 : w1.frozen? ⟨B, 0, none⟩ = false := K1.out.frozen 0
  have t9 : w1.cell? ⟨B, 9, none⟩ = some (s) := K1.out.cell 9
  have ft9 : w1.frozen? ⟨B, 9, none⟩ = false := K1.out.frozen 9
  have hs9 : w1.cell? ⟨B, 9, none⟩ = some (.slice src S.length cap) := by rw [← hs]; exact t9
  clear t9
  have hB1 : B < w1.heap.size := K1.out.lt
  have hbase : base ≤ w.heap.size := by omega
  have KO : Hid (∀ v' w2, w2.ownsRow base 23 1 v' (S.length + 1) (u32s S ++ [.int .u32 (inc pc : Int)]) → ((w1.drewN 1).alloc (.cells #[.int .u32 (inc pc : Int)] 23)).grownBy w2 s.ownBlock → ∃ g c, v' = .slice (some ⟨g, 0, none⟩) (S.length + 1) c ∧ RunB w2 B pc R s why ep home (.pointer (some ⟨M, 0, none⟩)) epoch ow nS nT nA nW ∧ Own w2 base v' (S ++ [inc pc]) ∧ Below base w w2) := Lib.hid fun v' w2 hown hgr => by
    have hap := O1.out.apart K1.out
    have hB2 : B < ((w1.drewN 1).alloc (.cells #[.int .u32 (inc pc : Int)] 23)).heap.size := by simp; omega
    have k2 : RunB w2 B pc R s why ep home (.pointer (some ⟨M, 0, none⟩)) epoch ow nS nT nA nW := (hgr.block B hB2 (fun e => hap e.symm)).trans (Blk.alloc (Blk.drewN K1.out 1) _)
    obtain ⟨g, c, rfl⟩ : ∃ g c, v' = .slice (some ⟨g, 0, none⟩) (S.length + 1) c := by
      obtain ⟨_, ⟨rfl, h0⟩ | ⟨g, c, cur, rfl, _⟩⟩ := hown
      · omega
      · exact ⟨g, c, rfl⟩
    have o2 : Own w2 base (.slice (some ⟨g, 0, none⟩) (S.length + 1) c) (S ++ [inc pc]) := by
      unfold Own
      have e : u32s (S ++ [inc pc]) = u32s S ++ [.int .u32 (inc pc : Int)] := by simp [u32s]
      rw [e, List.length_append]
      exact hown
    have b1 : Below base w w1 := ⟨U1.out.os, U1.out.tape, U1.out.output, U1.out.size, fun k hk => U1.out.block k (by omega) (by omega)⟩
    have s1 := U1.out.size
    refine ⟨g, c, rfl, k2, o2, ?_⟩
    exact ((below_drewN b1 1).alloc (by show base ≤ w1.heap.size; omega) _).grown hgr (by simp; omega) (fun k hk => (O1.out.lt k hk).1)
  go_wp2_with fail
  go_region_law (refine step_append_own rfl (.tmp 75) (.tmp 82) _ rfl 23 ti (.int .u32 0) 1 4 Tryz.underlying22 hi hz0 hz1 hz2 (by kernel_rfl) (by decide) base s S.length (u32s S) (by rw [hs]; simp [Act.eval, Act.put]) ((O1.out.kept (below_drewN (Below.refl _ _) 1)).kept ((Below.refl _ _).alloc (Nat.le_refl _) _)) ⟨w1.heap.size, 0, none⟩ 1 1 [.int .u32 (inc pc : Int)] (by simp [Act.eval, Act.put]) rfl (by intro j u hj; cases j <;> simp_all [Addr.add]) (by intro u hu; simp at hu; subst hu; rfl) (by simp [maxLen]; omega) (by omega) (by simp; have := U1.out.size; omega) ?_; intro v' w2 hown hgr; obtain ⟨g2, c2, rfl, K2, O2, B2⟩ := KO.out v' w2 hown hgr; have q9 : w2.cell? ⟨B, 9, none⟩ = some s := K2.cell 9; have q0 : w2.cell? ⟨B, 0, none⟩ = some (.int .u32 (pc : Int)) := K2.cell 0; have f9' : w2.frozen? ⟨B, 9, none⟩ = false := K2.frozen 9; have f0' : w2.frozen? ⟨B, 0, none⟩ = false := K2.frozen 0; have K2 := Lib.hid K2; have O2 := Lib.hid O2; have B2 := Lib.hid B2)
  all_goals
    have F : Hid (JP w base B tg R why ep home (.pointer (some ⟨M, 0, none⟩)) epoch ow nS nT nA nW (S ++ [inc pc]) (.returned (.tuple #[])) ((w2.setCell ⟨B, 9, none⟩ (.slice (some ⟨g2, 0, none⟩) (S.length + 1) c2)).setCell ⟨B, 0, none⟩ (.int .u32 (tg : Int)))) := Lib.hid ⟨rfl, _, by
      have k := Blk.set_ (Blk.set_ K2.out 9 (.slice (some ⟨g2, 0, none⟩) (S.length + 1) c2)) 0 (.int .u32 (tg : Int))
      unfold RunB
      simpa using k, O2.out.upd (((Upd.refl B w2).setCell 9 _).setCell 0 _) (O2.out.apart K2.out), (B2.out.setCell (p := ⟨B, 9, none⟩) hbB _).setCell (p := ⟨B, 0, none⟩) hbB _⟩
    clear K1 I1 U1 O1 O2 B2 K2 H1 KO
    go_wp2_with fail
    refine bodyPost_ret (v := .tuple #[]) (by simp [results, Tryz.results32, go_sem, *]) rfl ?_
    exact F.out
end Go.Proofs.YthnbdeibjbicpaaGreat.PM
