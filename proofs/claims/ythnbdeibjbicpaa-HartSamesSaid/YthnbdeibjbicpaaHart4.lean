/- Contracts of hart's touch. Conditions: the cells. -/
import Derived.Test.YthnbdeibjbicpaaHart3
namespace Go.Proofs.Ythnbdeibjbicpaa.PM
set_option linter.unusedVariables false
set_option linter.unusedSimpArgs false
open Go.RowKit
set_option maxRecDepth 100000 in
set_option maxHeartbeats 8000000 in
theorem touch_ld_no (w : World) (B pc : Nat) (R : Nat → Nat) (s : Value) (why ep home : Nat) (M g h c d cd : Nat) (G : Nat → Nat) (T : List Page) (L : List Nat) (epoch ow : Nat) (nS nT : Bool) (nA nW : Nat) (K : RunB w B pc R s why ep home (.pointer (some ⟨M, 0, none⟩)) epoch ow nS nT nA nW) (m : Mem w M g h c d cd G T L) (rd ra rb : Nat) (imm : Int) (u : Nat) (hd : rd < 8) (ha : ra < 8) (hu : imm % 4294967296 = (u : Int)) (hl : (loadM G T L ((getR R ra + u) % 4294967296) ep).2 = false) :
    Calls Try.prog 44 #[.pointer (some ⟨B, 0, none⟩), .agg #[.int .u8 12, .int .u8 (rd : Int), .int .u8 (ra : Int), .int .u8 (rb : Int), .int .i32 imm]] w fun e w' => RunP w B pc R s 4 ep home (.pointer (some ⟨M, 0, none⟩)) epoch ow nS nT nA nW e w' := by
  unfold RunB at K
  have hwu : IntKind.u32.wrap imm = (u : Int) := by rw [IntKind.wrap_u32]; exact hu
  have hy : ((getR R ra + u) % 4294967296) < 4294967296 := Nat.mod_lt _ (by decide)
  have RC := Lib.hid (fun W (k : RunB W B pc R s why ep home (.pointer (some ⟨M, 0, none⟩)) epoch ow nS nT nA nW) => reg_c W B pc R s why ep home (.pointer (some ⟨M, 0, none⟩)) epoch ow nS nT nA nW k ra ha)
  have hsum : ((getR R ra : Int) + (u : Int)) % 4294967296 = ((((getR R ra + u) % 4294967296) : Nat) : Int) := by omega
  have hsw : IntKind.u32.wrap ((getR R ra : Int) + (u : Int)) = ((((getR R ra + u) % 4294967296) : Nat) : Int) := by rw [IntKind.wrap_u32]; exact hsum
  have LC := fun W (q : Mem W M g h c d cd G T L) => load_c q ((getR R ra + u) % 4294967296) ep hy
  generalize loadM G T L ((getR R ra + u) % 4294967296) ep = lo at LC hl ⊢
  obtain ⟨lv, lb⟩ := lo
  simp only at LC hl ⊢
  subst hl
  unfold PM.f2 at LC
  simp only at LC
  replace LC := Lib.hid LC

  generalize ((getR R ra + u) % 4294967296) = y at LC hsum hsw hy
  generalize getR R ra = x at RC hsum hsw
  have K0 : Hid (RunB (w.alloc (.cells #[.int .u8 12, .int .u8 (rd : Int), .int .u8 (ra : Int), .int .u8 (rb : Int), .int .i32 imm] 88)) B pc R s why ep home (.pointer (some ⟨M, 0, none⟩)) epoch ow nS nT nA nW) := Lib.hid (Blk.alloc K _)
  have M0 : Hid (Mem (w.alloc (.cells #[.int .u8 12, .int .u8 (rd : Int), .int .u8 (ra : Int), .int .u8 (rb : Int), .int .i32 imm] 88)) M g h c d cd G T L) := Lib.hid (m.alloc _)
  have I0 := Lib.hid (Blk.new w 88 #[.int .u8 12, .int .u8 (rd : Int), .int .u8 (ra : Int), .int .u8 (rb : Int), .int .i32 imm])
  have hB : B < w.heap.size := K.lt
  generalize hW : w.alloc (.cells #[.int .u8 12, .int .u8 (rd : Int), .int .u8 (ra : Int), .int .u8 (rb : Int), .int .i32 imm] 88) = W at K0 M0 I0
  have UW : Hid (Upd B w W) := Lib.hid (hW ▸ (Upd.refl B w).alloc _)
  have KW := Lib.hid hW
  clear hW K m
  have TX : Hid (W.drew.cell? ⟨w.heap.size, 2, none⟩ = some (.int .u8 (ra : Int)) ∧ W.drew.cell? ⟨w.heap.size, 4, none⟩ = some (.int .i32 imm)) := Lib.hid ⟨I0.out.cell 2, I0.out.cell 4⟩
  go_enter Try.func44, Try.ntmps44
  go_wp2_with fail
  (try rw [KW.out])
  go_region_held3 (fun w' => w'.cell? ⟨w.heap.size, 2, none⟩ = some (.int .u8 (ra : Int)) ∧ w'.cell? ⟨w.heap.size, 4, none⟩ = some (.int .i32 imm)) (first | exact TX.out | go_keep) ((first | (go_at_call 43; (with_reducible refine (RC.out _ ?_).mono ?_); (first | exact Blk.drewN K0.out 1); rintro e w1 ⟨rfl, rfl⟩)))
  have K1 : Hid (RunB (W.drewN 1) B pc R s why ep home (.pointer (some ⟨M, 0, none⟩)) epoch ow nS nT nA nW) := Lib.hid (Blk.drewN K0.out 1)
  have M1 := Lib.hid (M0.out.drewN 1)
  have I1 := Lib.hid (I0.out.drewN 1)
  have U1 : Hid (Upd B w (W.drewN 1)) := Lib.hid (UW.out.drewN 1)
  clear TX K0 M0 I0 UW KW
  generalize hW1 : W.drewN 1 = W1 at K1 M1 I1 U1
  have hW1' : W.drew = W1 := hW1
  (try rw [hW1'])
  clear hW1 hW1'
  have i0 : W1.cell? ⟨w.heap.size, 0, none⟩ = some (.int .u8 12) := I1.out.cell 0
  have i1 : W1.cell? ⟨w.heap.size, 1, none⟩ = some (.int .u8 (rd : Int)) := I1.out.cell 1
  have t11 : W1.cell? ⟨B, 11, none⟩ = some (.int .u64 (ep : Int)) := K1.out.cell 11
  have t13 : W1.cell? ⟨B, 13, none⟩ = some (.pointer (some ⟨M, 0, none⟩)) := K1.out.cell 13
  have TX : Hid (W1.drew.cell? ⟨B, 11, none⟩ = some (.int .u64 (ep : Int)) ∧ W1.drew.cell? ⟨B, 13, none⟩ = some (.pointer (some ⟨M, 0, none⟩))) := Lib.hid ⟨t11, t13⟩
  go_wp2_with fail
  go_region_held3 (fun w' => w'.cell? ⟨B, 11, none⟩ = some (.int .u64 (ep : Int)) ∧ w'.cell? ⟨B, 13, none⟩ = some (.pointer (some ⟨M, 0, none⟩))) (first | exact TX.out | ((try dsimp only); (repeat' apply And.intro) <;> (apply keep1m hb2; assumption)) | go_keep) ((first | (go_at_call 75; (with_reducible refine (LC.out _ ?_).mono ?_); (first | exact M1.out.drewN 1); rintro e w2 ⟨rfl, hb2⟩)))
  have hb2 : Below W1.heap.size W1 w2 := (below_drewN (Below.refl _ _) 1).trans hb2
  have K2 : Hid (RunB w2 B pc R s why ep home (.pointer (some ⟨M, 0, none⟩)) epoch ow nS nT nA nW) := Lib.hid (Blk.kept K1.out hb2)
  have I2 := Lib.hid (I1.out.kept hb2)
  have U2 := Lib.hid (U1.out.then_ hb2)
  clear hb2 TX K1 M1 I1 U1 i0 i1 t11 t13
  have t10 : w2.cell? ⟨B, 10, none⟩ = some (.int .u8 (why : Int)) := K2.out.cell 10
  have ft10 : w2.frozen? ⟨B, 10, none⟩ = false := K2.out.frozen 10
  have F : Hid (RunP w B pc R s 4 ep home (.pointer (some ⟨M, 0, none⟩)) epoch ow nS nT nA nW (.returned (.tuple #[])) (w2.setCell ⟨B, 10, none⟩ (.int .u8 4))) := Lib.hid ⟨rfl, by
    have k := Blk.set_ K2.out 10 (.int .u8 4)
    unfold RunB
    simpa using k, U2.out.setCell 10 _⟩
  clear K2 I2 U2 LC RC
  go_wp2_with fail
  refine bodyPost_ret (v := .tuple #[]) (by simp [results, Try.results44, go_sem, *]) rfl ?_
  exact F.out
set_option maxRecDepth 100000 in
set_option maxHeartbeats 8000000 in
theorem touch_ld_yes (w : World) (B pc : Nat) (R : Nat → Nat) (s : Value) (why ep home : Nat) (M g h c d cd : Nat) (G : Nat → Nat) (T : List Page) (L : List Nat) (epoch ow : Nat) (nS nT : Bool) (nA nW : Nat) (K : RunB w B pc R s why ep home (.pointer (some ⟨M, 0, none⟩)) epoch ow nS nT nA nW) (m : Mem w M g h c d cd G T L) (rd ra rb : Nat) (imm : Int) (u : Nat) (hd : rd < 8) (ha : ra < 8) (hu : imm % 4294967296 = (u : Int)) (hl : (loadM G T L ((getR R ra + u) % 4294967296) ep).2 = true) :
    Calls Try.prog 44 #[.pointer (some ⟨B, 0, none⟩), .agg #[.int .u8 12, .int .u8 (rd : Int), .int .u8 (ra : Int), .int .u8 (rb : Int), .int .i32 imm]] w fun e w' => RunP w B (inc pc) (setR R rd (loadM G T L ((getR R ra + u) % 4294967296) ep).1) s why ep home (.pointer (some ⟨M, 0, none⟩)) epoch ow nS nT nA nW e w' := by
  unfold RunB at K
  have hwu : IntKind.u32.wrap imm = (u : Int) := by rw [IntKind.wrap_u32]; exact hu
  have hy : ((getR R ra + u) % 4294967296) < 4294967296 := Nat.mod_lt _ (by decide)
  have RC := Lib.hid (fun W (k : RunB W B pc R s why ep home (.pointer (some ⟨M, 0, none⟩)) epoch ow nS nT nA nW) => reg_c W B pc R s why ep home (.pointer (some ⟨M, 0, none⟩)) epoch ow nS nT nA nW k ra ha)
  have hsum : ((getR R ra : Int) + (u : Int)) % 4294967296 = ((((getR R ra + u) % 4294967296) : Nat) : Int) := by omega
  have hsw : IntKind.u32.wrap ((getR R ra : Int) + (u : Int)) = ((((getR R ra + u) % 4294967296) : Nat) : Int) := by rw [IntKind.wrap_u32]; exact hsum
  have LC := fun W (q : Mem W M g h c d cd G T L) => load_c q ((getR R ra + u) % 4294967296) ep hy
  have SC := fun W (k : RunB W B pc R s why ep home (.pointer (some ⟨M, 0, none⟩)) epoch ow nS nT nA nW) => set_c W B pc R s why ep home (.pointer (some ⟨M, 0, none⟩)) epoch ow nS nT nA nW k rd (loadM G T L ((getR R ra + u) % 4294967296) ep).1 hd
  generalize loadM G T L ((getR R ra + u) % 4294967296) ep = lo at LC SC hl ⊢
  obtain ⟨lv, lb⟩ := lo
  simp only at LC SC hl ⊢
  subst hl
  unfold PM.f2 at LC
  simp only at LC
  replace LC := Lib.hid LC
  replace SC := Lib.hid SC
  generalize ((getR R ra + u) % 4294967296) = y at LC hsum hsw hy SC
  generalize getR R ra = x at RC hsum hsw
  have K0 : Hid (RunB (w.alloc (.cells #[.int .u8 12, .int .u8 (rd : Int), .int .u8 (ra : Int), .int .u8 (rb : Int), .int .i32 imm] 88)) B pc R s why ep home (.pointer (some ⟨M, 0, none⟩)) epoch ow nS nT nA nW) := Lib.hid (Blk.alloc K _)
  have M0 : Hid (Mem (w.alloc (.cells #[.int .u8 12, .int .u8 (rd : Int), .int .u8 (ra : Int), .int .u8 (rb : Int), .int .i32 imm] 88)) M g h c d cd G T L) := Lib.hid (m.alloc _)
  have I0 := Lib.hid (Blk.new w 88 #[.int .u8 12, .int .u8 (rd : Int), .int .u8 (ra : Int), .int .u8 (rb : Int), .int .i32 imm])
  have hB : B < w.heap.size := K.lt
  generalize hW : w.alloc (.cells #[.int .u8 12, .int .u8 (rd : Int), .int .u8 (ra : Int), .int .u8 (rb : Int), .int .i32 imm] 88) = W at K0 M0 I0
  have UW : Hid (Upd B w W) := Lib.hid (hW ▸ (Upd.refl B w).alloc _)
  have KW := Lib.hid hW
  clear hW K m
  have TX : Hid (W.drew.cell? ⟨w.heap.size, 2, none⟩ = some (.int .u8 (ra : Int)) ∧ W.drew.cell? ⟨w.heap.size, 4, none⟩ = some (.int .i32 imm)) := Lib.hid ⟨I0.out.cell 2, I0.out.cell 4⟩
  go_enter Try.func44, Try.ntmps44
  go_wp2_with fail
  (try rw [KW.out])
  go_region_held3 (fun w' => w'.cell? ⟨w.heap.size, 2, none⟩ = some (.int .u8 (ra : Int)) ∧ w'.cell? ⟨w.heap.size, 4, none⟩ = some (.int .i32 imm)) (first | exact TX.out | go_keep) ((first | (go_at_call 43; (with_reducible refine (RC.out _ ?_).mono ?_); (first | exact Blk.drewN K0.out 1); rintro e w1 ⟨rfl, rfl⟩)))
  have K1 : Hid (RunB (W.drewN 1) B pc R s why ep home (.pointer (some ⟨M, 0, none⟩)) epoch ow nS nT nA nW) := Lib.hid (Blk.drewN K0.out 1)
  have M1 := Lib.hid (M0.out.drewN 1)
  have I1 := Lib.hid (I0.out.drewN 1)
  have U1 : Hid (Upd B w (W.drewN 1)) := Lib.hid (UW.out.drewN 1)
  clear TX K0 M0 I0 UW KW
  generalize hW1 : W.drewN 1 = W1 at K1 M1 I1 U1
  have hW1' : W.drew = W1 := hW1
  (try rw [hW1'])
  clear hW1 hW1'
  have i0 : W1.cell? ⟨w.heap.size, 0, none⟩ = some (.int .u8 12) := I1.out.cell 0
  have i1 : W1.cell? ⟨w.heap.size, 1, none⟩ = some (.int .u8 (rd : Int)) := I1.out.cell 1
  have t11 : W1.cell? ⟨B, 11, none⟩ = some (.int .u64 (ep : Int)) := K1.out.cell 11
  have t13 : W1.cell? ⟨B, 13, none⟩ = some (.pointer (some ⟨M, 0, none⟩)) := K1.out.cell 13
  have TX : Hid (W1.drew.cell? ⟨B, 11, none⟩ = some (.int .u64 (ep : Int)) ∧ W1.drew.cell? ⟨B, 13, none⟩ = some (.pointer (some ⟨M, 0, none⟩))) := Lib.hid ⟨t11, t13⟩
  go_wp2_with fail
  go_region_held3 (fun w' => w'.cell? ⟨B, 11, none⟩ = some (.int .u64 (ep : Int)) ∧ w'.cell? ⟨B, 13, none⟩ = some (.pointer (some ⟨M, 0, none⟩))) (first | exact TX.out | ((try dsimp only); (repeat' apply And.intro) <;> (apply keep1m hb2; assumption)) | go_keep) ((first | (go_at_call 75; (with_reducible refine (LC.out _ ?_).mono ?_); (first | exact M1.out.drewN 1); rintro e w2 ⟨rfl, hb2⟩)))
  have hb2 : Below W1.heap.size W1 w2 := (below_drewN (Below.refl _ _) 1).trans hb2
  have K2 : Hid (RunB w2 B pc R s why ep home (.pointer (some ⟨M, 0, none⟩)) epoch ow nS nT nA nW) := Lib.hid (Blk.kept K1.out hb2)
  have I2 := Lib.hid (I1.out.kept hb2)
  have U2 := Lib.hid (U1.out.then_ hb2)
  clear hb2 TX K1 M1 I1 U1 i0 i1 t11 t13
  have i1 : w2.cell? ⟨w.heap.size, 1, none⟩ = some (.int .u8 (rd : Int)) := I2.out.cell 1
  go_wp2_with fail
  refine (SC.out _ K2.out).mono ?_
  rintro e w3 ⟨rfl, k3, u3⟩
  have F : Hid (RunP w B (inc pc) (setR R rd lv) s why ep home (.pointer (some ⟨M, 0, none⟩)) epoch ow nS nT nA nW (.returned (.tuple #[])) w3) := Lib.hid ⟨rfl, k3, U2.out.trans u3⟩
  clear k3 u3 K2 I2 U2 SC LC RC
  go_wp2_with fail
  refine bodyPost_ret (v := .tuple #[]) (by simp [results, Try.results44, go_sem, *]) rfl ?_
  exact F.out
theorem Mem.updk {w w' : World} {M g h c d cd : Nat} {G : Nat → Nat} {T : List Page} {L : List Nat} (m : Mem w M g h c d cd G T L) {k : Nat} (u : Upd k w w') (h1 : M ≠ k) (h2 : g ≠ k) (h3 : h ≠ k) (h4 : d ≠ k) : Mem w' M g h c d cd G T L :=
  ⟨m.ten.upd u h1, m.tab.upd u h2 h3, m.wds.upd u h4, m.len, m.cap, m.Mg, m.Mh, m.Md, m.gd, m.hd⟩
theorem store_not4 {T : List Page} {L : List Nat} {x v ep o : Nat} (h : (storeM T L x v ep o).2 = false) : (storeM T L x v ep o).1 = L := by
  unfold storeM at h ⊢
  split
  · rename_i q; rw [if_pos q] at h; cases h
  · rfl
/-- Behind a store: the run and the words. -/
def StP (w : World) (B pc : Nat) (R : Nat → Nat) (s : Value) (why ep home : Nat) (M g h c d cd : Nat) (G : Nat → Nat) (T : List Page) (L : List Nat) (epoch ow : Nat) (nS nT : Bool) (nA nW : Nat) (e : Ending) (w' : World) : Prop :=
  e = .returned (.tuple #[]) ∧ RunB w' B pc R s why ep home (.pointer (some ⟨M, 0, none⟩)) epoch ow nS nT nA nW ∧ Mem w' M g h c d cd G T L ∧ Upd3 B d d w w'
set_option maxRecDepth 100000 in
set_option maxHeartbeats 8000000 in
theorem touch_st_no (w : World) (B pc : Nat) (R : Nat → Nat) (s : Value) (why ep home : Nat) (M g h c d cd : Nat) (G : Nat → Nat) (T : List Page) (L : List Nat) (epoch ow : Nat) (nS nT : Bool) (nA nW : Nat) (K : RunB w B pc R s why ep home (.pointer (some ⟨M, 0, none⟩)) epoch ow nS nT nA nW) (m : Mem w M g h c d cd G T L) (rd ra rb : Nat) (imm : Int) (u : Nat) (hd : rd < 8) (ha : ra < 8) (hu : imm % 4294967296 = (u : Int)) (sB : B ≠ M ∧ B ≠ g ∧ B ≠ h ∧ B ≠ d) (hl : (storeM T L ((getR R ra + u) % 4294967296) (getR R rd) ep ow).2 = false) :
    Calls Try.prog 44 #[.pointer (some ⟨B, 0, none⟩), .agg #[.int .u8 13, .int .u8 (rd : Int), .int .u8 (ra : Int), .int .u8 (rb : Int), .int .i32 imm]] w fun e w' => StP w B pc R s 5 ep home M g h c d cd G T L epoch ow nS nT nA nW e w' := by
  unfold RunB at K
  have hwu : IntKind.u32.wrap imm = (u : Int) := by rw [IntKind.wrap_u32]; exact hu
  have hy : ((getR R ra + u) % 4294967296) < 4294967296 := Nat.mod_lt _ (by decide)
  have RC := Lib.hid (fun W (k : RunB W B pc R s why ep home (.pointer (some ⟨M, 0, none⟩)) epoch ow nS nT nA nW) => reg_c W B pc R s why ep home (.pointer (some ⟨M, 0, none⟩)) epoch ow nS nT nA nW k ra ha)
  have hsum : ((getR R ra : Int) + (u : Int)) % 4294967296 = ((((getR R ra + u) % 4294967296) : Nat) : Int) := by omega
  have hsw : IntKind.u32.wrap ((getR R ra : Int) + (u : Int)) = ((((getR R ra + u) % 4294967296) : Nat) : Int) := by rw [IntKind.wrap_u32]; exact hsum
  have SC := fun W (q : Mem W M g h c d cd G T L) => store_c q ((getR R ra + u) % 4294967296) (getR R rd) ep ow hy
  have RD := fun W (k : RunB W B pc R s why ep home (.pointer (some ⟨M, 0, none⟩)) epoch ow nS nT nA nW) => reg_c W B pc R s why ep home (.pointer (some ⟨M, 0, none⟩)) epoch ow nS nT nA nW k rd hd
  have hwi := wrap_inc pc
  have hn := store_not4 hl
  generalize storeM T L ((getR R ra + u) % 4294967296) (getR R rd) ep ow = lo at SC hl hn ⊢
  obtain ⟨L1, lb⟩ := lo
  simp only at SC hl hn ⊢
  subst hl
  subst hn
  generalize ((getR R ra + u) % 4294967296) = y at SC hsum hsw hy ⊢
  generalize getR R rd = z at SC RD ⊢
  generalize getR R ra = x at RC hsum hsw
  replace SC := Lib.hid SC
  replace RD := Lib.hid RD
  have K0 : Hid (RunB (w.alloc (.cells #[.int .u8 13, .int .u8 (rd : Int), .int .u8 (ra : Int), .int .u8 (rb : Int), .int .i32 imm] 88)) B pc R s why ep home (.pointer (some ⟨M, 0, none⟩)) epoch ow nS nT nA nW) := Lib.hid (Blk.alloc K _)
  have M0 : Hid (Mem (w.alloc (.cells #[.int .u8 13, .int .u8 (rd : Int), .int .u8 (ra : Int), .int .u8 (rb : Int), .int .i32 imm] 88)) M g h c d cd G T L1) := Lib.hid (m.alloc _)
  have I0 := Lib.hid (Blk.new w 88 #[.int .u8 13, .int .u8 (rd : Int), .int .u8 (ra : Int), .int .u8 (rb : Int), .int .i32 imm])
  have hB : B < w.heap.size := K.lt
  generalize hW : w.alloc (.cells #[.int .u8 13, .int .u8 (rd : Int), .int .u8 (ra : Int), .int .u8 (rb : Int), .int .i32 imm] 88) = W at K0 M0 I0
  have UW : Hid (Upd B w W) := Lib.hid (hW ▸ (Upd.refl B w).alloc _)
  have KW := Lib.hid hW
  clear hW K m
  have TX : Hid (W.drew.cell? ⟨w.heap.size, 2, none⟩ = some (.int .u8 (ra : Int)) ∧ W.drew.cell? ⟨w.heap.size, 4, none⟩ = some (.int .i32 imm)) := Lib.hid ⟨I0.out.cell 2, I0.out.cell 4⟩
  go_enter Try.func44, Try.ntmps44
  go_wp2_with fail
  (try rw [KW.out])
  go_region_held3 (fun w' => w'.cell? ⟨w.heap.size, 2, none⟩ = some (.int .u8 (ra : Int)) ∧ w'.cell? ⟨w.heap.size, 4, none⟩ = some (.int .i32 imm)) (first | exact TX.out | go_keep) ((first | (go_at_call 43; (with_reducible refine (RC.out _ ?_).mono ?_); (first | exact Blk.drewN K0.out 1); rintro e w1 ⟨rfl, rfl⟩)))
  have K1 : Hid (RunB (W.drewN 1) B pc R s why ep home (.pointer (some ⟨M, 0, none⟩)) epoch ow nS nT nA nW) := Lib.hid (Blk.drewN K0.out 1)
  have M1 := Lib.hid (M0.out.drewN 1)
  have I1 := Lib.hid (I0.out.drewN 1)
  have U1 : Hid (Upd B w (W.drewN 1)) := Lib.hid (UW.out.drewN 1)
  clear TX K0 M0 I0 UW KW
  generalize hW1 : W.drewN 1 = W1 at K1 M1 I1 U1
  have hW1' : W.drew = W1 := hW1
  (try rw [hW1'])
  clear hW1 hW1'
  have i0 : W1.cell? ⟨w.heap.size, 0, none⟩ = some (.int .u8 13) := I1.out.cell 0
  have i1 : W1.cell? ⟨w.heap.size, 1, none⟩ = some (.int .u8 (rd : Int)) := I1.out.cell 1
  go_wp2_with fail
  refine (RD.out _ K1.out).mono ?_
  rintro e w1 ⟨rfl, rfl⟩
  have t11 : w1.cell? ⟨B, 11, none⟩ = some (.int .u64 (ep : Int)) := K1.out.cell 11
  have t13 : w1.cell? ⟨B, 13, none⟩ = some (.pointer (some ⟨M, 0, none⟩)) := K1.out.cell 13
  have t15 : w1.cell? ⟨B, 15, none⟩ = some (.int .u16 (ow : Int)) := K1.out.cell 15
  have TX : Hid (w1.drew.cell? ⟨B, 11, none⟩ = some (.int .u64 (ep : Int)) ∧ w1.drew.cell? ⟨B, 13, none⟩ = some (.pointer (some ⟨M, 0, none⟩)) ∧ w1.drew.cell? ⟨B, 15, none⟩ = some (.int .u16 (ow : Int))) := Lib.hid ⟨t11, t13, t15⟩
  have TU : Hid (∀ w2, Upd d w1.drew w2 → w2.cell? ⟨B, 11, none⟩ = some (.int .u64 (ep : Int)) ∧ w2.cell? ⟨B, 13, none⟩ = some (.pointer (some ⟨M, 0, none⟩)) ∧ w2.cell? ⟨B, 15, none⟩ = some (.int .u16 (ow : Int))) := Lib.hid fun w2 u2 => by
    have k := u2.blk (Blk.drewN K1.out 1) sB.2.2.2
    exact ⟨k.cell 11, k.cell 13, k.cell 15⟩
  go_wp2_with fail
  go_region_held3 (fun w' => w'.cell? ⟨B, 11, none⟩ = some (.int .u64 (ep : Int)) ∧ w'.cell? ⟨B, 13, none⟩ = some (.pointer (some ⟨M, 0, none⟩)) ∧ w'.cell? ⟨B, 15, none⟩ = some (.int .u16 (ow : Int))) (first | exact TX.out | exact TU.out _ u2 | go_keep) ((first | (go_at_call 76; (with_reducible refine (SC.out _ ?_).mono ?_); (first | exact M1.out.drewN 1); rintro e w2 ⟨rfl, m2, u2⟩)))
  have u2 : Upd d w1 w2 := ((Upd.refl d w1).drewN 1).trans u2
  have K2 : Hid (RunB w2 B pc R s why ep home (.pointer (some ⟨M, 0, none⟩)) epoch ow nS nT nA nW) := Lib.hid (u2.blk K1.out sB.2.2.2)
  have U2 : Hid (Upd3 B d d w w2) := Lib.hid ((Upd3.ofM U1.out).trans (Upd3.ofd u2))
  have M2 := Lib.hid m2
  clear u2 m2 TX TU K1 M1 I1 U1 i0 i1 t11 t13 t15
  have t10 : w2.cell? ⟨B, 10, none⟩ = some (.int .u8 (why : Int)) := K2.out.cell 10
  have ft10 : w2.frozen? ⟨B, 10, none⟩ = false := K2.out.frozen 10
  have F : Hid (StP w B pc R s 5 ep home M g h c d cd G T L1 epoch ow nS nT nA nW (.returned (.tuple #[])) (w2.setCell ⟨B, 10, none⟩ (.int .u8 5))) := Lib.hid (by
    have u : Upd B w2 (w2.setCell ⟨B, 10, none⟩ (.int .u8 5)) := (Upd.refl B w2).setCell 10 _
    have k := Blk.set_ K2.out 10 (.int .u8 5)
    refine ⟨rfl, ?_, M2.out.updk u sB.1.symm sB.2.1.symm sB.2.2.1.symm sB.2.2.2.symm, U2.out.trans (Upd3.ofM u)⟩
    unfold RunB
    simpa using k)
  clear K2 M2 U2 SC RD RC
  go_wp2_with fail
  refine bodyPost_ret (v := .tuple #[]) (by simp [results, Try.results44, go_sem, *]) rfl ?_
  exact F.out
set_option maxRecDepth 100000 in
set_option maxHeartbeats 8000000 in
theorem touch_st_yes (w : World) (B pc : Nat) (R : Nat → Nat) (s : Value) (why ep home : Nat) (M g h c d cd : Nat) (G : Nat → Nat) (T : List Page) (L : List Nat) (epoch ow : Nat) (nS nT : Bool) (nA nW : Nat) (K : RunB w B pc R s why ep home (.pointer (some ⟨M, 0, none⟩)) epoch ow nS nT nA nW) (m : Mem w M g h c d cd G T L) (rd ra rb : Nat) (imm : Int) (u : Nat) (hd : rd < 8) (ha : ra < 8) (hu : imm % 4294967296 = (u : Int)) (sB : B ≠ M ∧ B ≠ g ∧ B ≠ h ∧ B ≠ d) (hl : (storeM T L ((getR R ra + u) % 4294967296) (getR R rd) ep ow).2 = true) :
    Calls Try.prog 44 #[.pointer (some ⟨B, 0, none⟩), .agg #[.int .u8 13, .int .u8 (rd : Int), .int .u8 (ra : Int), .int .u8 (rb : Int), .int .i32 imm]] w fun e w' => StP w B (inc pc) R s why ep home M g h c d cd G T (storeM T L ((getR R ra + u) % 4294967296) (getR R rd) ep ow).1 epoch ow false true ((getR R ra + u) % 4294967296) (getR R rd) e w' := by
  unfold RunB at K
  have hwu : IntKind.u32.wrap imm = (u : Int) := by rw [IntKind.wrap_u32]; exact hu
  have hy : ((getR R ra + u) % 4294967296) < 4294967296 := Nat.mod_lt _ (by decide)
  have RC := Lib.hid (fun W (k : RunB W B pc R s why ep home (.pointer (some ⟨M, 0, none⟩)) epoch ow nS nT nA nW) => reg_c W B pc R s why ep home (.pointer (some ⟨M, 0, none⟩)) epoch ow nS nT nA nW k ra ha)
  have hsum : ((getR R ra : Int) + (u : Int)) % 4294967296 = ((((getR R ra + u) % 4294967296) : Nat) : Int) := by omega
  have hsw : IntKind.u32.wrap ((getR R ra : Int) + (u : Int)) = ((((getR R ra + u) % 4294967296) : Nat) : Int) := by rw [IntKind.wrap_u32]; exact hsum
  have SC := fun W (q : Mem W M g h c d cd G T L) => store_c q ((getR R ra + u) % 4294967296) (getR R rd) ep ow hy
  have RD := fun W (k : RunB W B pc R s why ep home (.pointer (some ⟨M, 0, none⟩)) epoch ow nS nT nA nW) => reg_c W B pc R s why ep home (.pointer (some ⟨M, 0, none⟩)) epoch ow nS nT nA nW k rd hd
  have hwi := wrap_inc pc
  generalize storeM T L ((getR R ra + u) % 4294967296) (getR R rd) ep ow = lo at SC hl ⊢
  obtain ⟨L1, lb⟩ := lo
  simp only at SC hl ⊢
  subst hl
  generalize ((getR R ra + u) % 4294967296) = y at SC hsum hsw hy ⊢
  generalize getR R rd = z at SC RD ⊢
  generalize getR R ra = x at RC hsum hsw
  replace SC := Lib.hid SC
  replace RD := Lib.hid RD
  have K0 : Hid (RunB (w.alloc (.cells #[.int .u8 13, .int .u8 (rd : Int), .int .u8 (ra : Int), .int .u8 (rb : Int), .int .i32 imm] 88)) B pc R s why ep home (.pointer (some ⟨M, 0, none⟩)) epoch ow nS nT nA nW) := Lib.hid (Blk.alloc K _)
  have M0 : Hid (Mem (w.alloc (.cells #[.int .u8 13, .int .u8 (rd : Int), .int .u8 (ra : Int), .int .u8 (rb : Int), .int .i32 imm] 88)) M g h c d cd G T L) := Lib.hid (m.alloc _)
  have I0 := Lib.hid (Blk.new w 88 #[.int .u8 13, .int .u8 (rd : Int), .int .u8 (ra : Int), .int .u8 (rb : Int), .int .i32 imm])
  have hB : B < w.heap.size := K.lt
  generalize hW : w.alloc (.cells #[.int .u8 13, .int .u8 (rd : Int), .int .u8 (ra : Int), .int .u8 (rb : Int), .int .i32 imm] 88) = W at K0 M0 I0
  have UW : Hid (Upd B w W) := Lib.hid (hW ▸ (Upd.refl B w).alloc _)
  have KW := Lib.hid hW
  clear hW K m
  have TX : Hid (W.drew.cell? ⟨w.heap.size, 2, none⟩ = some (.int .u8 (ra : Int)) ∧ W.drew.cell? ⟨w.heap.size, 4, none⟩ = some (.int .i32 imm)) := Lib.hid ⟨I0.out.cell 2, I0.out.cell 4⟩
  go_enter Try.func44, Try.ntmps44
  go_wp2_with fail
  (try rw [KW.out])
  go_region_held3 (fun w' => w'.cell? ⟨w.heap.size, 2, none⟩ = some (.int .u8 (ra : Int)) ∧ w'.cell? ⟨w.heap.size, 4, none⟩ = some (.int .i32 imm)) (first | exact TX.out | go_keep) ((first | (go_at_call 43; (with_reducible refine (RC.out _ ?_).mono ?_); (first | exact Blk.drewN K0.out 1); rintro e w1 ⟨rfl, rfl⟩)))
  have K1 : Hid (RunB (W.drewN 1) B pc R s why ep home (.pointer (some ⟨M, 0, none⟩)) epoch ow nS nT nA nW) := Lib.hid (Blk.drewN K0.out 1)
  have M1 := Lib.hid (M0.out.drewN 1)
  have I1 := Lib.hid (I0.out.drewN 1)
  have U1 : Hid (Upd B w (W.drewN 1)) := Lib.hid (UW.out.drewN 1)
  clear TX K0 M0 I0 UW KW
  generalize hW1 : W.drewN 1 = W1 at K1 M1 I1 U1
  have hW1' : W.drew = W1 := hW1
  (try rw [hW1'])
  clear hW1 hW1'
  have i0 : W1.cell? ⟨w.heap.size, 0, none⟩ = some (.int .u8 13) := I1.out.cell 0
  have i1 : W1.cell? ⟨w.heap.size, 1, none⟩ = some (.int .u8 (rd : Int)) := I1.out.cell 1
  go_wp2_with fail
  refine (RD.out _ K1.out).mono ?_
  rintro e w1 ⟨rfl, rfl⟩
  have t11 : w1.cell? ⟨B, 11, none⟩ = some (.int .u64 (ep : Int)) := K1.out.cell 11
  have t13 : w1.cell? ⟨B, 13, none⟩ = some (.pointer (some ⟨M, 0, none⟩)) := K1.out.cell 13
  have t15 : w1.cell? ⟨B, 15, none⟩ = some (.int .u16 (ow : Int)) := K1.out.cell 15
  have TX : Hid (w1.drew.cell? ⟨B, 11, none⟩ = some (.int .u64 (ep : Int)) ∧ w1.drew.cell? ⟨B, 13, none⟩ = some (.pointer (some ⟨M, 0, none⟩)) ∧ w1.drew.cell? ⟨B, 15, none⟩ = some (.int .u16 (ow : Int))) := Lib.hid ⟨t11, t13, t15⟩
  have TU : Hid (∀ w2, Upd d w1.drew w2 → w2.cell? ⟨B, 11, none⟩ = some (.int .u64 (ep : Int)) ∧ w2.cell? ⟨B, 13, none⟩ = some (.pointer (some ⟨M, 0, none⟩)) ∧ w2.cell? ⟨B, 15, none⟩ = some (.int .u16 (ow : Int))) := Lib.hid fun w2 u2 => by
    have k := u2.blk (Blk.drewN K1.out 1) sB.2.2.2
    exact ⟨k.cell 11, k.cell 13, k.cell 15⟩
  go_wp2_with fail
  go_region_held3 (fun w' => w'.cell? ⟨B, 11, none⟩ = some (.int .u64 (ep : Int)) ∧ w'.cell? ⟨B, 13, none⟩ = some (.pointer (some ⟨M, 0, none⟩)) ∧ w'.cell? ⟨B, 15, none⟩ = some (.int .u16 (ow : Int))) (first | exact TX.out | exact TU.out _ u2 | go_keep) ((first | (go_at_call 76; (with_reducible refine (SC.out _ ?_).mono ?_); (first | exact M1.out.drewN 1); rintro e w2 ⟨rfl, m2, u2⟩)))
  have u2 : Upd d w1 w2 := ((Upd.refl d w1).drewN 1).trans u2
  have K2 : Hid (RunB w2 B pc R s why ep home (.pointer (some ⟨M, 0, none⟩)) epoch ow nS nT nA nW) := Lib.hid (u2.blk K1.out sB.2.2.2)
  have U2 : Hid (Upd3 B d d w w2) := Lib.hid ((Upd3.ofM U1.out).trans (Upd3.ofd u2))
  have M2 := Lib.hid m2
  clear u2 m2 TX TU K1 M1 I1 U1 i0 i1 t11 t13 t15
  have t0 : w2.cell? ⟨B, 0, none⟩ = some (.int .u32 (pc : Int)) := K2.out.cell 0
  have ft0 : w2.frozen? ⟨B, 0, none⟩ = false := K2.out.frozen 0
  have t16 : w2.cell? ⟨B, 16, none⟩ = some (.bool nS) := K2.out.cell 16
  have ft16 : w2.frozen? ⟨B, 16, none⟩ = false := K2.out.frozen 16
  have t17 : w2.cell? ⟨B, 17, none⟩ = some (.bool nT) := K2.out.cell 17
  have ft17 : w2.frozen? ⟨B, 17, none⟩ = false := K2.out.frozen 17
  have t18 : w2.cell? ⟨B, 18, none⟩ = some (.int .u32 (nA : Int)) := K2.out.cell 18
  have ft18 : w2.frozen? ⟨B, 18, none⟩ = false := K2.out.frozen 18
  have t19 : w2.cell? ⟨B, 19, none⟩ = some (.int .u32 (nW : Int)) := K2.out.cell 19
  have ft19 : w2.frozen? ⟨B, 19, none⟩ = false := K2.out.frozen 19
  have F : Hid (StP w B (inc pc) R s why ep home M g h c d cd G T L1 epoch ow false true y z (.returned (.tuple #[])) (((((w2.setCell ⟨B, 0, none⟩ (.int .u32 (inc pc : Int))).setCell ⟨B, 16, none⟩ (.bool false)).setCell ⟨B, 17, none⟩ (.bool true)).setCell ⟨B, 18, none⟩ (.int .u32 (y : Int))).setCell ⟨B, 19, none⟩ (.int .u32 (z : Int)))) := Lib.hid (by
    have u : Upd B w2 (((((w2.setCell ⟨B, 0, none⟩ (.int .u32 (inc pc : Int))).setCell ⟨B, 16, none⟩ (.bool false)).setCell ⟨B, 17, none⟩ (.bool true)).setCell ⟨B, 18, none⟩ (.int .u32 (y : Int))).setCell ⟨B, 19, none⟩ (.int .u32 (z : Int))) := (((((Upd.refl B w2).setCell 0 _).setCell 16 _).setCell 17 _).setCell 18 _).setCell 19 _
    have k := Blk.set_ (Blk.set_ (Blk.set_ (Blk.set_ (Blk.set_ K2.out 0 (.int .u32 (inc pc : Int))) 16 (.bool false)) 17 (.bool true)) 18 (.int .u32 (y : Int))) 19 (.int .u32 (z : Int))
    refine ⟨rfl, ?_, M2.out.updk u sB.1.symm sB.2.1.symm sB.2.2.1.symm sB.2.2.2.symm, U2.out.trans (Upd3.ofM u)⟩
    unfold RunB
    simpa using k)
  clear K2 M2 U2 SC RD RC
  go_wp2_with fail
  refine bodyPost_ret (v := .tuple #[]) (by simp [results, Try.results44, go_sem, *]) rfl ?_
  exact F.out
end Go.Proofs.Ythnbdeibjbicpaa.PM
