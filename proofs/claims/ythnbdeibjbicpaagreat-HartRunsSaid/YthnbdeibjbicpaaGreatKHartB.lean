/- What an instruction does to a hart, plainly; the contracts of plain, touch, jump and set under one post. Conditions: the cells. -/
import Derived.Test.YthnbdeibjbicpaaGreatHart7
namespace Go.Proofs.YthnbdeibjbicpaaGreat.PM
set_option linter.unusedVariables false
set_option linter.unusedSimpArgs false
open Go.RowKit
/-- What a step leaves. -/
structure Out where
  pc : Nat
  R : Nat → Nat
  S : List Nat
  why : Nat
  ep : Nat
  L : List Nat
  nS : Bool
  nT : Bool
  nA : Nat
  nW : Nat
section
variable (G : Nat → Nat) (T : List Page) (L : List Nat) (pc : Nat) (R : Nat → Nat) (S : List Nat) (ep home epoch ow : Nat)
def stay (why : Nat) : Out := ⟨pc, R, S, why, ep, L, false, false, 0, 0⟩
def goto (to : Nat) (R' : Nat → Nat) : Out := ⟨to, R', S, 0, ep, L, false, false, 0, 0⟩
def passM (y : Nat) : Out := if S = [] then ⟨home, R, S, 0, epoch, L, true, false, 0, 0⟩ else stay L pc R S ep y
def immU (imm : Int) : Nat := (imm % 4294967296).toNat
def tgtN (op rd ra rb : Nat) (imm : Int) : Nat := (I9.tgt pc op rd ra rb imm).toNat
def plainM (op rd ra rb : Nat) (imm : Int) : Out :=
  if op = 0 then stay L pc R S ep 1
  else if op = 2 then goto L S ep (inc pc) (setR R rd (immU imm))
  else if op = 11 then goto L S ep (inc pc) (setR R rd ((getR R ra + immU imm) % 4294967296))
  else goto L S ep (inc pc) R
def touchM (op rd ra rb : Nat) (imm : Int) : Out :=
  let y := (getR R ra + immU imm) % 4294967296
  if op = 12 then
    if (loadM G T L y ep).2 = true then goto L S ep (inc pc) (setR R rd (loadM G T L y ep).1) else stay L pc R S ep 4
  else
    if (storeM T L y (getR R rd) ep ow).2 = true then ⟨inc pc, R, S, 0, ep, (storeM T L y (getR R rd) ep ow).1, false, true, y, getR R rd⟩ else stay L pc R S ep 5
def jumpM (op rd ra rb : Nat) (imm : Int) : Out :=
  if op = 14 then goto L S ep (tgtN pc op rd ra rb imm) R
  else if op = 15 then goto L S ep (if getR R rd = getR R ra then tgtN pc op rd ra rb imm else inc pc) R
  else if op = 16 then goto L S ep (if getR R rd = getR R ra then inc pc else tgtN pc op rd ra rb imm) R
  else if op = 17 then (if S.length < 16 then goto L (S ++ [inc pc]) ep (tgtN pc op rd ra rb imm) R else stay L pc R S ep 6)
  else if op = 18 then (if S = [] then passM L pc R S ep home epoch 6 else goto L S.dropLast ep (S.getLastD 0) R)
  else if op = 19 then goto L S ep (getR R ra) R
  else if op = 20 then passM L pc R S ep home epoch 6
  else (if G (Int.tdiv imm 8).toNat = 0 then passM L pc R S ep home epoch 2 else goto L S ep ((G (Int.tdiv imm 8).toNat + (Int.tmod imm 8).toNat) % 4294967296) R)
/-- What an instruction does. -/
def exec (op rd ra rb : Nat) (imm : Int) : Out :=
  if 3 ≤ op ∧ op ≤ 10 then goto L S ep (inc pc) (setR R rd (reck op (getR R ra) (getR R rb)))
  else if op = 12 ∨ op = 13 then touchM G T L pc R S ep ow op rd ra rb imm
  else if 14 ≤ op then jumpM G L pc R S ep home epoch op rd ra rb imm
  else plainM L pc R S ep op rd ra rb imm
/-- One step. -/
def hstep (why : Nat) : Out :=
  if why ≠ 0 then stay L pc R S ep why
  else if (fetchM G T L pc ep).2.2 = false then stay L pc R S ep 2
  else if IM.chk (IM.dOp (fetchM G T L pc ep).1) (IM.dD (fetchM G T L pc ep).1) (IM.dA (fetchM G T L pc ep).1) (IM.dB (fetchM G T L pc ep).1) (IM.dI (fetchM G T L pc ep).1) ≠ 0 ∨ IM.encN (IM.dOp (fetchM G T L pc ep).1) (IM.dD (fetchM G T L pc ep).1) (IM.dA (fetchM G T L pc ep).1) (IM.dB (fetchM G T L pc ep).1) (IM.dI (fetchM G T L pc ep).1) ≠ (fetchM G T L pc ep).1 then stay L pc R S ep 3
  else exec G T L pc R S ep home epoch (fetchM G T L pc ep).2.1 (IM.dOp (fetchM G T L pc ep).1) (IM.dD (fetchM G T L pc ep).1) (IM.dA (fetchM G T L pc ep).1) (IM.dB (fetchM G T L pc ep).1) (IM.dI (fetchM G T L pc ep).1)
end
/-- The worlds part in one block and from base on. -/
structure UpdX (base d : Nat) (w w' : World) : Prop where
  os : w'.os = w.os
  tape : w'.tape = w.tape
  output : w'.output = w.output
  size : w.heap.size ≤ w'.heap.size
  block : ∀ k, k < base → k ≠ d → w'.heap[k]? = w.heap[k]?
theorem UpdX.of {base d : Nat} {w w' : World} (b : Below base w w') : UpdX base d w w' := ⟨b.os, b.tape, b.output, b.size, fun k hk _ => b.block k hk⟩
theorem UpdX.trans {base d : Nat} {w w' w'' : World} (a : UpdX base d w w') (b : UpdX base d w' w'') : UpdX base d w w'' :=
  ⟨b.os.trans a.os, b.tape.trans a.tape, b.output.trans a.output, Nat.le_trans a.size b.size, fun k h1 h2 => (b.block k h1 h2).trans (a.block k h1 h2)⟩
/-- What a group of instructions leaves. -/
def GP (w : World) (base B M g h c d cd : Nat) (G : Nat → Nat) (T : List Page) (home epoch ow : Nat) (o : Out) (e : Ending) (w' : World) : Prop :=
  e = .returned (.tuple #[]) ∧ ∃ s, RunB w' B o.pc o.R s o.why o.ep home (.pointer (some ⟨M, 0, none⟩)) epoch ow o.nS o.nT o.nA o.nW ∧ Own w' base s o.S ∧ Mem w' M g h c d cd G T o.L ∧ UpdX base d w w'
/-- The run as a step begins it. -/
structure Pre (w : World) (base B pc : Nat) (R : Nat → Nat) (s : Value) (S : List Nat) (ep home M g h c d cd : Nat) (G : Nat → Nat) (T : List Page) (L : List Nat) (epoch ow : Nat) : Prop where
  run : RunB w B pc R s 0 ep home (.pointer (some ⟨M, 0, none⟩)) epoch ow false false 0 0
  own : Own w base s S
  mem : Mem w M g h c d cd G T L
  bB : base ≤ B
  lM : M < base
  lg : g < base
  lh : h < base
  ld : d < base
section
variable {w w' : World} {base B pc : Nat} {R : Nat → Nat} {s : Value} {S : List Nat} {ep home M g h c d cd : Nat} {G : Nat → Nat} {T : List Page} {L : List Nat} {epoch ow : Nat}
theorem Pre.gp (p : Pre w base B pc R s S ep home M g h c d cd G T L epoch ow) {pc' : Nat} {R' : Nat → Nat} {why' ep' : Nat} {nS nT : Bool} {nA nW : Nat} {e : Ending}
    (r : RunP w B pc' R' s why' ep' home (.pointer (some ⟨M, 0, none⟩)) epoch ow nS nT nA nW e w') : GP w base B M g h c d cd G T home epoch ow ⟨pc', R', S, why', ep', L, nS, nT, nA, nW⟩ e w' := by
  obtain ⟨rfl, k, u⟩ := r
  have q1 := p.bB
  have q2 := p.lM
  have q3 := p.lg
  have q4 := p.lh
  have q5 := p.ld
  exact ⟨rfl, s, k, p.own.upd u (p.own.apart p.run), p.mem.updk u (by omega) (by omega) (by omega) (by omega), ⟨u.os, u.tape, u.output, u.size, fun k hk _ => by
    rcases Nat.lt_or_ge k w.heap.size with hl | hl
    · exact u.block k hl (by omega)
    · have := p.run.lt; omega⟩⟩
theorem Pre.setp (p : Pre w base B pc R s S ep home M g h c d cd G T L epoch ow) {i v : Nat} {e : Ending}
    (r : SetP w B pc R s 0 ep home (.pointer (some ⟨M, 0, none⟩)) epoch ow false false 0 0 i v e w') : GP w base B M g h c d cd G T home epoch ow (goto L S ep (inc pc) (setR R i v)) e w' := p.gp r
theorem Pre.stp (p : Pre w base B pc R s S ep home M g h c d cd G T L epoch ow) {pc' why' : Nat} {L' : List Nat} {nS nT : Bool} {nA nW : Nat} {e : Ending}
    (r : StP w B pc' R s why' ep home M g h c d cd G T L' epoch ow nS nT nA nW e w') : GP w base B M g h c d cd G T home epoch ow ⟨pc', R, S, why', ep, L', nS, nT, nA, nW⟩ e w' := by
  obtain ⟨rfl, k, m, u⟩ := r
  have q1 := p.bB
  have q5 := p.ld
  have lB := p.run.lt
  refine ⟨rfl, s, k, p.own.block (fun k hk => u.block k (p.own.lt k hk).2 ?_ ?_ ?_), m, ⟨u.os, u.tape, u.output, u.size, fun k hk h2 => u.block k (by omega) (by omega) h2 h2⟩⟩
  · intro e; exact p.own.apart p.run (by rw [hk, e])
  · have := (p.own.lt k hk).1; omega
  · have := (p.own.lt k hk).1; omega
theorem Pre.jp (p : Pre w base B pc R s S ep home M g h c d cd G T L epoch ow) {pc' : Nat} {S' : List Nat} {e : Ending}
    (r : JP w base B pc' R 0 ep home (.pointer (some ⟨M, 0, none⟩)) epoch ow false false 0 0 S' e w') : GP w base B M g h c d cd G T home epoch ow (goto L S' ep pc' R) e w' := by
  obtain ⟨rfl, s', k, o, b⟩ := r
  have q2 := p.lM
  have q3 := p.lg
  have q4 := p.lh
  have q5 := p.ld
  have m := p.mem
  have l1 := m.ten.lt
  have l2 := m.tab.lt
  have l3 := m.tab.pgs.lt
  have l4 := m.wds.lt
  refine ⟨rfl, s', k, o, ⟨m.ten.block b.size (b.block M q2), ?_, m.wds.block b.size (b.block d q5), m.len, m.cap, m.Mg, m.Mh, m.Md, m.gd, m.hd⟩, UpdX.of b⟩
  have t := m.tab
  exact ⟨(World.cell?_of_block (w := w) (a := ⟨g, 0, none⟩) (b.block g q3)).trans t.row, Nat.lt_of_lt_of_le l2 b.size, t.ne, ⟨Nat.lt_of_lt_of_le l3 b.size, fun j u hj => (World.cell?_of_block (w := w) (a := ⟨h, j, none⟩) (b.block h q4)).trans (t.pgs.cells j u hj), fun o => (World.frozen?_of_block (w := w) (a := ⟨h, o, none⟩) (b.block h q4)).trans (t.pgs.free o)⟩, t.few, t.cap⟩
end
theorem immU_eq (imm : Int) : imm % 4294967296 = ((immU imm : Nat) : Int) := by unfold immU; omega
theorem tgtN_eq (pc op rd ra rb : Nat) (imm : Int) : I9.tgt pc op rd ra rb imm = ((tgtN pc op rd ra rb imm : Nat) : Int) := by
  unfold tgtN
  have : 0 ≤ I9.tgt pc op rd ra rb imm := by
    unfold I9.tgt
    split
    · split <;> omega
    · omega
  omega
theorem iint_eq (a b : Nat) (q : Bool) (h : decide (a = b) = q) : ((a : Int) == (b : Int)) = q := by
  rw [← h]
  by_cases e : a = b
  · subst e; simp
  · rw [decide_eq_false e, beq_eq_false_iff_ne]; omega
theorem plain_g (w : World) (base B pc : Nat) (R : Nat → Nat) (s : Value) (S : List Nat) (ep home M g h c d cd : Nat) (G : Nat → Nat) (T : List Page) (L : List Nat) (epoch ow : Nat) (p : Pre w base B pc R s S ep home M g h c d cd G T L epoch ow) (op rd ra rb : Nat) (imm : Int) (hd : rd < 8) (ha : ra < 8) (hop : op = 0 ∨ op = 1 ∨ op = 2 ∨ op = 11) :
    Calls Tryz.prog 33 #[.pointer (some ⟨B, 0, none⟩), .agg #[.int .u8 (op : Int), .int .u8 (rd : Int), .int .u8 (ra : Int), .int .u8 (rb : Int), .int .i32 imm]] w fun e w' => GP w base B M g h c d cd G T home epoch ow (plainM L pc R S ep op rd ra rb imm) e w' := by
  rcases hop with rfl | rfl | rfl | rfl
  · exact (plain_0 w B pc R s 0 ep home (.pointer (some ⟨M, 0, none⟩)) epoch ow false false 0 0 p.run rd ra rb imm (immU imm) hd ha (immU_eq imm)).mono fun e w' r => p.gp r
  · exact (plain_1 w B pc R s 0 ep home (.pointer (some ⟨M, 0, none⟩)) epoch ow false false 0 0 p.run rd ra rb imm (immU imm) hd ha (immU_eq imm)).mono fun e w' r => p.gp r
  · exact (plain_2 w B pc R s 0 ep home (.pointer (some ⟨M, 0, none⟩)) epoch ow false false 0 0 p.run rd ra rb imm (immU imm) hd ha (immU_eq imm)).mono fun e w' r => p.gp r
  · exact (plain_11 w B pc R s 0 ep home (.pointer (some ⟨M, 0, none⟩)) epoch ow false false 0 0 p.run rd ra rb imm (immU imm) hd ha (immU_eq imm)).mono fun e w' r => p.gp r
theorem touch_g (w : World) (base B pc : Nat) (R : Nat → Nat) (s : Value) (S : List Nat) (ep home M g h c d cd : Nat) (G : Nat → Nat) (T : List Page) (L : List Nat) (epoch ow : Nat) (p : Pre w base B pc R s S ep home M g h c d cd G T L epoch ow) (op rd ra rb : Nat) (imm : Int) (hd : rd < 8) (ha : ra < 8) (hop : op = 12 ∨ op = 13) :
    Calls Tryz.prog 31 #[.pointer (some ⟨B, 0, none⟩), .agg #[.int .u8 (op : Int), .int .u8 (rd : Int), .int .u8 (ra : Int), .int .u8 (rb : Int), .int .i32 imm]] w fun e w' => GP w base B M g h c d cd G T home epoch ow (touchM G T L pc R S ep ow op rd ra rb imm) e w' := by
  have sB : B ≠ M ∧ B ≠ g ∧ B ≠ h ∧ B ≠ d := by
    have := p.bB
    have := p.lM
    have := p.lg
    have := p.lh
    have := p.ld
    omega
  rcases hop with rfl | rfl
  · show Calls _ _ _ _ fun e w' => GP w base B M g h c d cd G T home epoch ow (if (loadM G T L ((getR R ra + immU imm) % 4294967296) ep).2 = true then goto L S ep (inc pc) (setR R rd (loadM G T L ((getR R ra + immU imm) % 4294967296) ep).1) else stay L pc R S ep 4) e w'
    by_cases hl : (loadM G T L ((getR R ra + immU imm) % 4294967296) ep).2 = true
    · rw [if_pos hl]
      exact (touch_ld_yes w B pc R s 0 ep home M g h c d cd G T L epoch ow false false 0 0 p.run p.mem rd ra rb imm (immU imm) hd ha (immU_eq imm) hl).mono fun e w' r => p.gp r
    · rw [if_neg hl]
      exact (touch_ld_no w B pc R s 0 ep home M g h c d cd G T L epoch ow false false 0 0 p.run p.mem rd ra rb imm (immU imm) hd ha (immU_eq imm) (by simpa using hl)).mono fun e w' r => p.gp r
  · show Calls _ _ _ _ fun e w' => GP w base B M g h c d cd G T home epoch ow (if (storeM T L ((getR R ra + immU imm) % 4294967296) (getR R rd) ep ow).2 = true then ⟨inc pc, R, S, 0, ep, (storeM T L ((getR R ra + immU imm) % 4294967296) (getR R rd) ep ow).1, false, true, (getR R ra + immU imm) % 4294967296, getR R rd⟩ else stay L pc R S ep 5) e w'
    by_cases hl : (storeM T L ((getR R ra + immU imm) % 4294967296) (getR R rd) ep ow).2 = true
    · rw [if_pos hl]
      exact (touch_st_yes w B pc R s 0 ep home M g h c d cd G T L epoch ow false false 0 0 p.run p.mem rd ra rb imm (immU imm) hd ha (immU_eq imm) sB hl).mono fun e w' r => p.stp r
    · rw [if_neg hl]
      exact (touch_st_no w B pc R s 0 ep home M g h c d cd G T L epoch ow false false 0 0 p.run p.mem rd ra rb imm (immU imm) hd ha (immU_eq imm) sB (by simpa using hl)).mono fun e w' r => p.stp r
set_option maxHeartbeats 1000000 in
theorem jump_g (w : World) (base B pc : Nat) (R : Nat → Nat) (s : Value) (S : List Nat) (ep home M g h c d cd : Nat) (G : Nat → Nat) (T : List Page) (L : List Nat) (epoch ow : Nat) (p : Pre w base B pc R s S ep home M g h c d cd G T L epoch ow) (op rd ra rb : Nat) (imm : Int) (hd : rd < 8) (ha : ra < 8) (hm : -2147483648 ≤ imm) (hM : imm ≤ 2147483647) (h14 : 14 ≤ op) (h21 : op ≤ 21) (hS : S.length < 35184372088832) (he : op = 21 → 0 ≤ imm ∧ imm ≤ 63) :
    Calls Tryz.prog 32 #[.pointer (some ⟨B, 0, none⟩), .agg #[.int .u8 (op : Int), .int .u8 (rd : Int), .int .u8 (ra : Int), .int .u8 (rb : Int), .int .i32 imm]] w fun e w' => GP w base B M g h c d cd G T home epoch ow (jumpM G L pc R S ep home epoch op rd ra rb imm) e w' := by
  have TG : ∀ (n : Nat) W, Calls Tryz.prog 80 #[.int .u32 (pc : Int), .agg #[.int .u8 (n : Int), .int .u8 (rd : Int), .int .u8 (ra : Int), .int .u8 (rb : Int), .int .i32 imm]] W fun e w' => e = .returned (.tuple #[.int .u32 ((tgtN pc n rd ra rb imm : Nat) : Int), .bool (I9.tgtB n rd ra rb imm)]) ∧ Below W.heap.size W w' := fun n W => by
    have := I9.target pc n rd ra rb imm W hm hM
    rw [tgtN_eq] at this
    exact this
  have PS : ∀ y : Nat, S = [] → passM L pc R S ep home epoch y = ⟨home, R, S, 0, epoch, L, true, false, 0, 0⟩ := fun y h => by unfold passM; rw [if_pos h]
  have PN : ∀ y : Nat, ¬ S = [] → passM L pc R S ep home epoch y = stay L pc R S ep y := fun y h => by unfold passM; rw [if_neg h]
  obtain ⟨src, cap, hs, hcap⟩ := p.own.form
  have hs0 : S = [] → s = .slice src 0 cap := fun h => by rw [hs, h]; rfl
  have hpos : ¬ S = [] → 0 < S.length := fun h => List.length_pos_iff.2 h
  unfold jumpM
  by_cases e14 : op = 14
  · rw [if_pos e14]; subst e14
    exact (jump_14 w B pc R s 0 ep home M g h c d cd G T L epoch ow false false 0 0 p.run rd ra rb imm hd ha (tgtN pc 14 rd ra rb imm) (I9.tgtB 14 rd ra rb imm) (TG 14)).mono fun e w' r => p.gp r
  rw [if_neg e14]
  by_cases e15 : op = 15
  · rw [if_pos e15]; subst e15
    by_cases q : getR R rd = getR R ra
    · rw [if_pos q]
      exact (jump_15_eq w B pc R s 0 ep home M g h c d cd G T L epoch ow false false 0 0 p.run rd ra rb imm hd ha (tgtN pc 15 rd ra rb imm) (I9.tgtB 15 rd ra rb imm) (TG 15) (iint_eq _ _ true (decide_eq_true q))).mono fun e w' r => p.gp r
    · rw [if_neg q]
      exact (jump_15_ne w B pc R s 0 ep home M g h c d cd G T L epoch ow false false 0 0 p.run rd ra rb imm hd ha (tgtN pc 15 rd ra rb imm) (I9.tgtB 15 rd ra rb imm) (TG 15) (iint_eq _ _ false (decide_eq_false q))).mono fun e w' r => p.gp r
  rw [if_neg e15]
  by_cases e16 : op = 16
  · rw [if_pos e16]; subst e16
    by_cases q : getR R rd = getR R ra
    · rw [if_pos q]
      exact (jump_16_eq w B pc R s 0 ep home M g h c d cd G T L epoch ow false false 0 0 p.run rd ra rb imm hd ha (tgtN pc 16 rd ra rb imm) (I9.tgtB 16 rd ra rb imm) (TG 16) (iint_eq _ _ true (decide_eq_true q))).mono fun e w' r => p.gp r
    · rw [if_neg q]
      exact (jump_16_ne w B pc R s 0 ep home M g h c d cd G T L epoch ow false false 0 0 p.run rd ra rb imm hd ha (tgtN pc 16 rd ra rb imm) (I9.tgtB 16 rd ra rb imm) (TG 16) (iint_eq _ _ false (decide_eq_false q))).mono fun e w' r => p.gp r
  rw [if_neg e16]
  by_cases e17 : op = 17
  · rw [if_pos e17]; subst e17
    by_cases q : S.length < 16
    · rw [if_pos q]
      exact (jump_17 w B pc R s 0 ep home M g h c d cd G T L epoch ow false false 0 0 p.run rd ra rb imm hd ha (tgtN pc 17 rd ra rb imm) (I9.tgtB 17 rd ra rb imm) (TG 17) base S p.own q p.bB).mono fun e w' r => p.jp r
    · rw [if_neg q]
      exact (jump_17_full w B pc R s 0 ep home M g h c d cd G T L epoch ow false false 0 0 p.run rd ra rb imm hd ha (tgtN pc 17 rd ra rb imm) (I9.tgtB 17 rd ra rb imm) (TG 17) src S.length cap hs (by omega)).mono fun e w' r => p.gp r
  rw [if_neg e17]
  by_cases e18 : op = 18
  · rw [if_pos e18]; subst e18
    by_cases q : S = []
    · rw [if_pos q, PS 6 q]
      exact (jump_18_empty w B pc R s 0 ep home M g h c d cd G T L epoch ow false false 0 0 p.run rd ra rb imm hd ha (tgtN pc 18 rd ra rb imm) (I9.tgtB 18 rd ra rb imm) (TG 18) src cap (hs0 q)).mono fun e w' r => p.gp r
    · rw [if_neg q]
      have hc : S = S.dropLast ++ [S.getLastD 0] := by
        rw [List.getLastD_eq_getLast?, List.getLast?_eq_some_getLast q]
        exact (List.dropLast_concat_getLast q).symm
      have ho := p.own
      rw [hc] at ho
      exact (jump_18_pop w B pc R s 0 ep home M g h c d cd G T L epoch ow false false 0 0 p.run rd ra rb imm hd ha (tgtN pc 18 rd ra rb imm) (I9.tgtB 18 rd ra rb imm) (TG 18) base (S.getLastD 0) S.dropLast ho (by rw [List.length_dropLast]; omega) p.bB).mono fun e w' r => p.jp r
  rw [if_neg e18]
  by_cases e19 : op = 19
  · rw [if_pos e19]; subst e19
    exact (jump_19 w B pc R s 0 ep home M g h c d cd G T L epoch ow false false 0 0 p.run rd ra rb imm hd ha (tgtN pc 19 rd ra rb imm) (I9.tgtB 19 rd ra rb imm) (TG 19)).mono fun e w' r => p.gp r
  rw [if_neg e19]
  by_cases e20 : op = 20
  · rw [if_pos e20]; subst e20
    by_cases q : S = []
    · rw [PS 6 q]
      exact (jump_20_empty w B pc R s 0 ep home M g h c d cd G T L epoch ow false false 0 0 p.run rd ra rb imm hd ha (tgtN pc 20 rd ra rb imm) (I9.tgtB 20 rd ra rb imm) (TG 20) src cap (hs0 q)).mono fun e w' r => p.gp r
    · rw [PN 6 q]
      exact (jump_20_full w B pc R s 0 ep home M g h c d cd G T L epoch ow false false 0 0 p.run rd ra rb imm hd ha (tgtN pc 20 rd ra rb imm) (I9.tgtB 20 rd ra rb imm) (TG 20) src S.length cap hs (hpos q)).mono fun e w' r => p.gp r
  rw [if_neg e20]
  obtain rfl : op = 21 := by omega
  obtain ⟨z0, z63⟩ := he rfl
  have hgq : Int.tdiv imm 8 = (((Int.tdiv imm 8).toNat : Nat) : Int) := by rw [Int.tdiv_eq_ediv_of_nonneg z0]; omega
  have hr8 : Int.tmod imm 8 = (((Int.tmod imm 8).toNat : Nat) : Int) := by rw [Int.tmod_eq_emod_of_nonneg z0]; omega
  have hq8 : (Int.tdiv imm 8).toNat < 8 := by rw [Int.tdiv_eq_ediv_of_nonneg z0]; omega
  have hr : (Int.tmod imm 8).toNat < 8 := by rw [Int.tmod_eq_emod_of_nonneg z0]; omega
  by_cases q : G (Int.tdiv imm 8).toNat = 0
  · rw [if_pos q]
    by_cases q2 : S = []
    · rw [PS 2 q2]
      exact (jump_21_empty w B pc R s 0 ep home M g h c d cd G T L epoch ow false false 0 0 p.run p.mem rd ra rb imm hd ha (tgtN pc 21 rd ra rb imm) (I9.tgtB 21 rd ra rb imm) (TG 21) _ _ hgq hr8 z0 z63 hq8 hr q src cap (hs0 q2)).mono fun e w' r => p.gp r
    · rw [PN 2 q2]
      exact (jump_21_full w B pc R s 0 ep home M g h c d cd G T L epoch ow false false 0 0 p.run p.mem rd ra rb imm hd ha (tgtN pc 21 rd ra rb imm) (I9.tgtB 21 rd ra rb imm) (TG 21) _ _ hgq hr8 z0 z63 hq8 hr q src S.length cap hs (hpos q2)).mono fun e w' r => p.gp r
  · rw [if_neg q]
    exact (jump_21_bound w B pc R s 0 ep home M g h c d cd G T L epoch ow false false 0 0 p.run p.mem rd ra rb imm hd ha (tgtN pc 21 rd ra rb imm) (I9.tgtB 21 rd ra rb imm) (TG 21) _ _ hgq hr8 z0 z63 hq8 hr (by rw [beq_eq_false_iff_ne]; omega)).mono fun e w' r => p.gp r
end Go.Proofs.YthnbdeibjbicpaaGreat.PM

/- A step keeps words words, plainly. No program in sight. No condition. -/
set_option linter.unusedSimpArgs false
namespace Go.Proofs.YthnbdeibjbicpaaGreat.PM
set_option linter.unusedVariables false
/-- A memory of words. -/
structure MB (G : Nat → Nat) (L : List Nat) : Prop where
  g : ∀ i, i < 8 → G i < 4294967296
  l : ∀ x ∈ L, x < 4294967296
section
variable {G : Nat → Nat} {L : List Nat} {T : List Page}
theorem MB.peek (b : MB G L) (x : Nat) : peekM G L x < 4294967296 := by
  unfold peekM
  split
  · rename_i h; unfold ent; omega
  split
  · exact b.g _ (by omega)
  split
  · rename_i h
    refine b.l _ ?_
    rw [List.getElem!_eq_getElem?_getD, List.getElem?_eq_getElem h.2]
    simp
  · omega
theorem MB.fetch (b : MB G L) (x ep : Nat) : (fetchM G T L x ep).1 < 4294967296 := by
  unfold fetchM
  split
  · rename_i h; unfold ent; simp only; omega
  split
  · exact b.peek x
  · simp
theorem MB.load (b : MB G L) (x ep : Nat) : (loadM G T L x ep).1 < 4294967296 := by
  unfold loadM
  split
  · simp
  · exact b.peek x
theorem MB.set (b : MB G L) (i : Nat) {v : Nat} (hv : v < 4294967296) : MB G (L.set i v) :=
  ⟨b.g, fun x hx => by
    rcases List.mem_or_eq_of_mem_set hx with h | h
    · exact b.l x h
    · omega⟩
theorem MB.store (b : MB G L) (x ep o : Nat) {v : Nat} (hv : v < 4294967296) : MB G (storeM T L x v ep o).1 := by
  unfold storeM
  split
  · exact b.set _ hv
  · exact b
end
/-- A hart of words. -/
structure HB (pc : Nat) (R : Nat → Nat) (S : List Nat) : Prop where
  pc : pc < 4294967296
  r : ∀ i, i < 8 → R i < 4294967296
  s : ∀ x ∈ S, x < 4294967296
theorem inc_ltM (x : Nat) : inc x < 4294967296 := by unfold inc; omega
theorem immU_ltM (i : Int) : immU i < 4294967296 := by unfold immU; omega
theorem tgtN_ltM (pc op rd ra rb : Nat) (imm : Int) : tgtN pc op rd ra rb imm < 4294967296 := by
  unfold tgtN I9.tgt
  split
  · split <;> omega
  · omega
theorem reck_ltM (op a b : Nat) (ha : a < 4294967296) : reck op a b < 4294967296 := by
  have bb : ∀ o : BinOp, ∀ x y : Int, (Go.bits o .u32 x y).toNat < 4294967296 := fun o x y => by
    unfold Go.bits
    first
      | (rw [IntKind.wrap_u32]; omega)
      | (split <;> first | (rw [IntKind.wrap_u32]; omega) | omega)
  unfold reck
  split
  · omega
  split
  · omega
  split
  · exact bb _ _ _
  split
  · exact bb _ _ _
  split
  · exact bb _ _ _
  split
  · omega
  split
  · exact Nat.lt_of_le_of_lt (Nat.div_le_self _ _) ha
  split <;> omega
section
variable {G : Nat → Nat} {L S : List Nat} {T : List Page} {pc : Nat} {R : Nat → Nat}
theorem getR_ltM (h : ∀ i, i < 8 → R i < 4294967296) {i : Nat} (hi : i < 8) : getR R i < 4294967296 := by
  unfold getR
  split
  · omega
  · exact h i hi
theorem setR_ltM (h : ∀ i, i < 8 → R i < 4294967296) {i v : Nat} (hv : v < 4294967296) : ∀ j, j < 8 → setR R i v j < 4294967296 := fun j hj => by
  unfold setR
  split
  · exact h j hj
  · simp only
    split
    · exact hv
    · exact h j hj
/-- What a step leaves, all words. -/
structure OB (G : Nat → Nat) (o : Out) : Prop where
  h : HB o.pc o.R o.S
  m : MB G o.L
  nA : o.nA < 4294967296
  nW : o.nW < 4294967296
theorem stay_ob (m : MB G L) (b : HB pc R S) (ep y : Nat) : OB G (stay L pc R S ep y) := ⟨b, m, by simp [stay], by simp [stay]⟩
theorem goto_ob (m : MB G L) (ep : Nat) {to : Nat} {R' : Nat → Nat} {S' : List Nat} (b : HB to R' S') : OB G (goto L S' ep to R') := ⟨b, m, by simp [goto], by simp [goto]⟩
theorem pass_ob (m : MB G L) (b : HB pc R S) (ep home epoch y : Nat) (hh : home < 4294967296) : OB G (passM L pc R S ep home epoch y) := by
  unfold passM
  split
  · exact ⟨⟨hh, b.r, b.s⟩, m, by simp, by simp⟩
  · exact stay_ob m b ep y
theorem exec_ob (m : MB G L) (b : HB pc R S) (ep home epoch ow op rd ra rb : Nat) (imm : Int) (hh : home < 4294967296) (hd : rd < 8) (ha : ra < 8) : OB G (exec G T L pc R S ep home epoch ow op rd ra rb imm) := by
  have nx : HB (inc pc) R S := ⟨inc_ltM _, b.r, b.s⟩
  have st : ∀ v, v < 4294967296 → HB (inc pc) (setR R rd v) S := fun v hv => ⟨inc_ltM _, setR_ltM b.r hv, b.s⟩
  have qa := getR_ltM b.r ha
  have qd := getR_ltM b.r hd
  unfold exec
  split
  · exact goto_ob m ep (st _ (reck_ltM _ _ _ qa))
  split
  · unfold touchM
    simp only
    split
    · split
      · exact goto_ob m ep (st _ (m.load _ _))
      · exact stay_ob m b ep _
    · split
      · exact ⟨nx, m.store _ _ _ qd, by simp only; omega, qd⟩
      · exact stay_ob m b ep _
  split
  · have tg : ∀ op, HB (tgtN pc op rd ra rb imm) R S := fun op => ⟨tgtN_ltM _ _ _ _ _ _, b.r, b.s⟩
    unfold jumpM
    split
    · exact goto_ob m ep (tg _)
    split
    · refine goto_ob m ep ?_
      split
      · exact tg _
      · exact nx
    split
    · refine goto_ob m ep ?_
      split
      · exact nx
      · exact tg _
    split
    · split
      · refine goto_ob m ep ⟨tgtN_ltM _ _ _ _ _ _, b.r, fun x hx => ?_⟩
        rcases List.mem_append.1 hx with h | h
        · exact b.s x h
        · rw [List.mem_singleton.1 h]; exact inc_ltM _
      · exact stay_ob m b ep _
    split
    · split
      · exact pass_ob m b ep home epoch _ hh
      · rename_i hn
        refine goto_ob m ep ⟨?_, b.r, fun x hx => b.s x ((List.dropLast_sublist S).subset hx)⟩
        rw [List.getLastD_eq_getLast?, List.getLast?_eq_some_getLast hn]
        exact b.s _ (List.getLast_mem hn)
    split
    · exact goto_ob m ep ⟨qa, b.r, b.s⟩
    split
    · exact pass_ob m b ep home epoch _ hh
    split
    · exact pass_ob m b ep home epoch _ hh
    · exact goto_ob m ep ⟨by omega, b.r, b.s⟩
  · unfold plainM
    split
    · exact stay_ob m b ep _
    split
    · exact goto_ob m ep (st _ (immU_ltM _))
    split
    · exact goto_ob m ep (st _ (by omega))
    · exact goto_ob m ep nx
theorem hstep_ob (m : MB G L) (b : HB pc R S) (ep home epoch why : Nat) (hh : home < 4294967296) : OB G (hstep G T L pc R S ep home epoch why) := by
  unfold hstep
  split
  · exact stay_ob m b ep _
  split
  · exact stay_ob m b ep _
  split
  · exact stay_ob m b ep _
  · exact exec_ob m b ep home epoch _ _ _ _ _ _ hh (Nat.mod_lt _ (by decide)) (Nat.mod_lt _ (by decide))
/-- The stack is never longer than it was, or sixteen deep. -/
theorem hstep_len (ep home epoch why : Nat) : (hstep G T L pc R S ep home epoch why).S.length ≤ max S.length 16 := by
  have ps : ∀ y, (passM L pc R S ep home epoch y).S = S := fun y => by unfold passM; split <;> rfl
  unfold hstep
  split
  · exact Nat.le_max_left _ _
  split
  · exact Nat.le_max_left _ _
  split
  · exact Nat.le_max_left _ _
  unfold exec
  split
  · exact Nat.le_max_left _ _
  split
  · unfold touchM
    simp only
    split
    · split <;> exact Nat.le_max_left _ _
    · split <;> exact Nat.le_max_left _ _
  split
  · unfold jumpM
    split
    · exact Nat.le_max_left _ _
    split
    · exact Nat.le_max_left _ _
    split
    · exact Nat.le_max_left _ _
    split
    · split
      · rename_i h; simp only [goto, List.length_append, List.length_singleton]; omega
      · exact Nat.le_max_left _ _
    split
    · split
      · rw [ps]; exact Nat.le_max_left _ _
      · simp only [goto, List.length_dropLast]; omega
    split
    · exact Nat.le_max_left _ _
    split
    · rw [ps]; exact Nat.le_max_left _ _
    split
    · rw [ps]; exact Nat.le_max_left _ _
    · exact Nat.le_max_left _ _
  · unfold plainM
    split
    · exact Nat.le_max_left _ _
    split
    · exact Nat.le_max_left _ _
    split <;> exact Nat.le_max_left _ _
/-- The words are as many. -/
theorem hstep_words (ep home epoch why : Nat) : (hstep G T L pc R S ep home epoch why).L.length = L.length := by
  have ps : ∀ y, (passM L pc R S ep home epoch y).L = L := fun y => by unfold passM; split <;> rfl
  unfold hstep
  split
  · rfl
  split
  · rfl
  split
  · rfl
  unfold exec
  split
  · rfl
  split
  · unfold touchM
    simp only
    split
    · split <;> rfl
    · split
      · unfold storeM; split <;> simp
      · rfl
  split
  · unfold jumpM
    split
    · rfl
    split
    · rfl
    split
    · rfl
    split
    · split <;> rfl
    split
    · split
      · rw [ps]
      · rfl
    split
    · rfl
    split
    · rw [ps]
    split
    · rw [ps]
    · rfl
  · unfold plainM
    split
    · rfl
    split
    · rfl
    split <;> rfl
end
end Go.Proofs.YthnbdeibjbicpaaGreat.PM
