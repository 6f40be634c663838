/- Contracts of hart's touch. Conditions: the cells. -/
import Derived.Test.YthnbdeibjbicpaaGreatKHartA
namespace Go.Proofs.YthnbdeibjbicpaaGreat.PM
set_option linter.unusedVariables false
set_option linter.unusedSimpArgs false
open Go.RowKit
set_option maxRecDepth 100000 in
set_option maxHeartbeats 8000000 in
theorem touch_ld_no (w : World) (B pc : Nat) (R : Nat → Nat) (s : Value) (why ep home : Nat) (M g h c d cd : Nat) (G : Nat → Nat) (T : List Page) (L : List Nat) (epoch ow : Nat) (nS nT : Bool) (nA nW : Nat) (K : RunB w B pc R s why ep home (.pointer (some ⟨M, 0, none⟩)) epoch ow nS nT nA nW) (m : Mem w M g h c d cd G T L) (rd ra rb : Nat) (imm : Int) (u : Nat) (hd : rd < 8) (ha : ra < 8) (hu : imm % 4294967296 = (u : Int)) (hl : (loadM G T L ((getR R ra + u) % 4294967296) ep).2 = false) :
    Calls Tryz.prog 31 #[.pointer (some ⟨B, 0, none⟩), .agg #[.int .u8 12, .int .u8 (rd : Int), .int .u8 (ra : Int), .int .u8 (rb : Int), .int .i32 imm]] w fun e w' => RunP w B pc R s 4 ep home (.pointer (some ⟨M, 0, none⟩)) epoch ow nS nT nA nW e w' := by
  unfold RunB at K
  have hwu : IntKind.u32.wrap imm = (u : Int) := by rw [IntKind.wrap_u32]; exact hu
  have hy : ((getR R ra + u) % 4294967296) < 4294967296 := Nat.mod_lt _ (by decide)
  have RC := Lib.hid (fun W (k : RunB W B pc R s why ep home (.pointer (some ⟨M, 0, none⟩)) epoch ow nS nT nA nW) => reg_c W B pc R s why ep home (.pointer (some ⟨M, 0, none⟩)) epoch ow nS nT nA nW k ra ha)
  have hsum : ((getR R ra : Int) + (u : Int)) % 4294967296 = ((((getR R ra + u) % 4294967296) : Nat) : Int) := by omega
  have hsw : IntKind.u32.wrap ((getR R ra : Int) + (u : Int)) = ((((getR R ra + u) % 4294967296) : Nat) : Int) := by rw [IntKind.wrap_u32]; exact hsum
  have LC := fun W (q : Mem W M g h c d cd G T L) => load_c q ((getR R ra + u) % 4294967296) ep hy
  generalize loadM G T L ((getR R ra + u) % 4294967296) ep = lo at LC hl ⊢
  obtain ⟨lv, lb⟩ := lo
  simp only at LC hl ⊢
  subst hl
  unfold PM.f2 at LC
  simp only at LC
  replace LC := Lib.hid LC

  generalize ((getR R ra + u) % 4294967296) = y at LC hsum hsw hy
  generalize getR R ra = x at RC hsum hsw
  have K0 : Hid (RunB (w.alloc (.cells #[.int .u8 12, .int .u8 (rd : Int), .int .u8 (ra : Int), .int .u8 (rb : Int), .int .i32 imm] 78)) B pc R s why ep home (.pointer (some ⟨M, 0, none⟩)) epoch ow nS nT nA nW) := Lib.hid (Blk.alloc K _)
  have M0 : Hid (Mem (w.alloc (.cells #[.int .u8 12, .int .u8 (rd : Int), .int .u8 (ra : Int), .int .u8 (rb : Int), .int .i32 imm] 78)) M g h c d cd G T L) := Lib.hid (m.alloc _)
  have I0 := Lib.hid (Blk.new w 78 #[.int .u8 12, .int .u8 (rd : Int), .int .u8 (ra : Int), .int .u8 (rb : Int), .int .i32 imm])
  have hB : B < w.heap.size := K.lt
  generalize hW : w.alloc (.cells #[.int .u8 12, .int .u8 (rd : Int), .int .u8 (ra : Int), .int .u8 (rb : Int), .int .i32 imm] 78) = W at K0 M0 I0
  have UW : Hid (Upd B w W) := Lib.hid (hW ▸ (Upd.refl B w).alloc _)
  have KW := Lib.hid hW
  clear hW K m
  have TX : Hid (W.drew.cell? ⟨w.heap.size, 2, none⟩ = some (.int .u8 (ra : Int)) ∧ W.drew.cell? ⟨w.heap.size, 4, none⟩ = some (.int .i32 imm)) := Lib.hid ⟨I0.out.cell 2, I0.out.cell 4⟩
  go_enter Tryz.func31, Tryz.ntmps31
  go_wp2_with fail
  (try rw [KW.out])
  go_region_held3 (fun w' => w'.cell? ⟨w.heap.size, 2, none⟩ = some (.int .u8 (ra : Int)) ∧ w'.cell? ⟨w.heap.size, 4, none⟩ = some (.int .i32 imm)) (first | exact TX.out | go_keep) ((first | (go_at_call 30; (with_reducible refine (RC.out _ ?_).mono ?_); (first | exact Blk.drewN K0.out 1); rintro e w1 ⟨rfl, rfl⟩)))
  have K1 : Hid (RunB (W.drewN 1) B pc R s why ep home (.pointer (some ⟨M, 0, none⟩)) epoch ow nS nT nA nW) := Lib.hid (Blk.drewN K0.out 1)
  have M1 := Lib.hid (M0.out.drewN 1)
  have I1 := Lib.hid (I0.out.drewN 1)
  have U1 : Hid (Upd B w (W.drewN 1)) := Lib.hid (UW.out.drewN 1)
  clear TX K0 M0 I0 UW KW
  generalize hW1 : W.drewN 1 = W1 at K1 M1 I1 U1
  have hW1' : W.drew = W1 := hW1
  (try rw [hW1'])
  clear hW1 hW1'
  have i0 : W1.cell? ⟨w.heap.size, 0, none⟩ = some (.int .u8 12) := I1.out.cell 0
  have i1 : W1.cell? ⟨w.heap.size, 1, none⟩ = some (.int .u8 (rd : Int)) := I1.out.cell 1
  have t11 : W1.cell? ⟨B, 11, none⟩ = some (.int .u64 (ep : Int)) := K1.out.cell 11
  have t13 : W1.cell? ⟨B, 13, none⟩ = some (.pointer (some ⟨M, 0, none⟩)) := K1.out.cell 13
  have TX : Hid (W1.drew.cell? ⟨B, 11, none⟩ = some (.int .u64 (ep : Int)) ∧ W1.drew.cell? ⟨B, 13, none⟩ = some (.pointer (some ⟨M, 0, none⟩))) := Lib.hid ⟨t11, t13⟩
  go_wp2_with fail
  go_region_held3 (fun w' => w'.cell? ⟨B, 11, none⟩ = some (.int .u64 (ep : Int)) ∧ w'.cell? ⟨B, 13, none⟩ = some (.pointer (some ⟨M, 0, none⟩))) (first | exact TX.out | ((try dsimp only); (repeat' apply And.intro) <;> (apply keep1m hb2; assumption)) | go_keep) ((first | (go_at_call 78; (with_reducible refine (LC.out _ ?_).mono ?_); (first | exact M1.out.drewN 1); rintro e w2 ⟨rfl, hb2⟩)))
  have hb2 : Below W1.heap.size W1 w2 := (below_drewN (Below.refl _ _) 1).trans hb2
  have K2 : Hid (RunB w2 B pc R s why ep home (.pointer (some ⟨M, 0, none⟩)) epoch ow nS nT nA nW) := Lib.hid (Blk.kept K1.out hb2)
  have I2 := Lib.hid (I1.out.kept hb2)
  have U2 := Lib.hid (U1.out.then_ hb2)
  clear hb2 TX K1 M1 I1 U1 i0 i1 t11 t13
  have t10 : w2.cell? ⟨B, 10, none⟩ = some (.int .u8 (why : Int)) := K2.out.cell 10
  have ft10 : w2.frozen? ⟨B, 10, none⟩ = false := K2.out.frozen 10
  have F : Hid (RunP w B pc R s 4 ep home (.pointer (some ⟨M, 0, none⟩)) epoch ow nS nT nA nW (.returned (.tuple #[])) (w2.setCell ⟨B, 10, none⟩ (.int .u8 4))) := Lib.hid ⟨rfl, by
    have k := Blk.set_ K2.out 10 (.int .u8 4)
    unfold RunB
    simpa using k, U2.out.setCell 10 _⟩
  clear K2 I2 U2 LC RC
  go_wp2_with fail
  refine bodyPost_ret (v := .tuple #[]) (by simp [results, Tryz.results31, go_sem, *]) rfl ?_
  exact F.out
set_option maxRecDepth 100000 in
set_option maxHeartbeats 8000000 in
theorem touch_ld_yes (w : World) (B pc : Nat) (R : Nat → Nat) (s : Value) (why ep home : Nat) (M g h c d cd : Nat) (G : Nat → Nat) (T : List Page) (L : List Nat) (epoch ow : Nat) (nS nT : Bool) (nA nW : Nat) (K : RunB w B pc R s why ep home (.pointer (some ⟨M, 0, none⟩)) epoch ow nS nT nA nW) (m : Mem w M g h c d cd G T L) (rd ra rb : Nat) (imm : Int) (u : Nat) (hd : rd < 8) (ha : ra < 8) (hu : imm % 4294967296 = (u : Int)) (hl : (loadM G T L ((getR R ra + u) % 4294967296) ep).2 = true) :
    Calls Tryz.prog 31 #[.pointer (some ⟨B, 0, none⟩), .agg #[.int .u8 12, .int .u8 (rd : Int), .int .u8 (ra : Int), .int .u8 (rb : Int), .int .i32 imm]] w fun e w' => RunP w B (inc pc) (setR R rd (loadM G T L ((getR R ra + u) % 4294967296) ep).1) s why ep home (.pointer (some ⟨M, 0, none⟩)) epoch ow nS nT nA nW e w' := by
  unfold RunB at K
  have hwu : IntKind.u32.wrap imm = (u : Int) := by rw [IntKind.wrap_u32]; exact hu
  have hy : ((getR R ra + u) % 4294967296) < 4294967296 := Nat.mod_lt _ (by decide)
  have RC := Lib.hid (fun W (k : RunB W B pc R s why ep home (.pointer (some ⟨M, 0, none⟩)) epoch ow nS nT nA nW) => reg_c W B pc R s why ep home (.pointer (some ⟨M, 0, none⟩)) epoch ow nS nT nA nW k ra ha)
  have hsum : ((getR R ra : Int) + (u : Int)) % 4294967296 = ((((getR R ra + u) % 4294967296) : Nat) : Int) := by omega
  have hsw : IntKind.u32.wrap ((getR R ra : Int) + (u : Int)) = ((((getR R ra + u) % 4294967296) : Nat) : Int) := by rw [IntKind.wrap_u32]; exact hsum
  have LC := fun W (q : Mem W M g h c d cd G T L) => load_c q ((getR R ra + u) % 4294967296) ep hy
  have SC := fun W (k : RunB W B pc R s why ep home (.pointer (some ⟨M, 0, none⟩)) epoch ow nS nT nA nW) => set_c W B pc R s why ep home (.pointer (some ⟨M, 0, none⟩)) epoch ow nS nT nA nW k rd (loadM G T L ((getR R ra + u) % 4294967296) ep).1 hd
  generalize loadM G T L ((getR R ra + u) % 4294967296) ep = lo at LC SC hl ⊢
  obtain ⟨lv, lb⟩ := lo
  simp only at LC SC hl ⊢
  subst hl
  unfold PM.f2 at LC
  simp only at LC
  replace LC := Lib.hid LC
  replace SC := Lib.hid SC
  generalize ((getR R ra + u) % 4294967296) = y at LC hsum hsw hy SC
  generalize getR R ra = x at RC hsum hsw
  have K0 : Hid (RunB (w.alloc (.cells #[.int .u8 12, .int .u8 (rd : Int), .int .u8 (ra : Int), .int .u8 (rb : Int), .int .i32 imm] 78)) B pc R s why ep home (.pointer (some ⟨M, 0, none⟩)) epoch ow nS nT nA nW) := Lib.hid (Blk.alloc K _)
  have M0 : Hid (Mem (w.alloc (.cells #[.int .u8 12, .int .u8 (rd : Int), .int .u8 (ra : Int), .int .u8 (rb : Int), .int .i32 imm] 78)) M g h c d cd G T L) := Lib.hid (m.alloc _)
  have I0 := Lib.hid (Blk.new w 78 #[.int .u8 12, .int .u8 (rd : Int), .int .u8 (ra : Int), .int .u8 (rb : Int), .int .i32 imm])
  have hB : B < w.heap.size := K.lt
  generalize hW : w.alloc (.cells #[.int .u8 12, .int .u8 (rd : Int), .int .u8 (ra : Int), .int .u8 (rb : Int), .int .i32 imm] 78) = W at K0 M0 I0
  have UW : Hid (Upd B w W) := Lib.hid (hW ▸ (Upd.refl B w).alloc _)
  have KW := Lib.hid hW
  clear hW K m
  have TX : Hid (W.drew.cell? ⟨w.heap.size, 2, none⟩ = some (.int .u8 (ra : Int)) ∧ W.drew.cell? ⟨w.heap.size, 4, none⟩ = some (.int .i32 imm)) := Lib.hid ⟨I0.out.cell 2, I0.out.cell 4⟩
  go_enter Tryz.func31, Tryz.ntmps31
  go_wp2_with fail
  (try rw [KW.out])
  go_region_held3 (fun w' => w'.cell? ⟨w.heap.size, 2, none⟩ = some (.int .u8 (ra : Int)) ∧ w'.cell? ⟨w.heap.size, 4, none⟩ = some (.int .i32 imm)) (first | exact TX.out | go_keep) ((first | (go_at_call 30; (with_reducible refine (RC.out _ ?_).mono ?_); (first | exact Blk.drewN K0.out 1); rintro e w1 ⟨rfl, rfl⟩)))
  have K1 : Hid (RunB (W.drewN 1) B pc R s why ep home (.pointer (some ⟨M, 0, none⟩)) epoch ow nS nT nA nW) := Lib.hid (Blk.drewN K0.out 1)
  have M1 := Lib.hid (M0.out.drewN 1)
  have I1 := Lib.hid (I0.out.drewN 1)
  have U1 : Hid (Upd B w (W.drewN 1)) := Lib.hid (UW.out.drewN 1)
  clear TX K0 M0 I0 UW KW
  generalize hW1 : W.drewN 1 = W1 at K1 M1 I1 U1
  have hW1' : W.drew = W1 := hW1
  (try rw [hW1'])
  clear hW1 hW1'
  have i0 : W1.cell? ⟨w.heap.size, 0, none⟩ = some (.int .u8 12) := I1.out.cell 0
  have i1 : W1.cell? ⟨w.heap.size, 1, none⟩ = some (.int .u8 (rd : Int)) := I1.out.cell 1
  have t11 : W1.cell? ⟨B, 11, none⟩ = some (.int .u64 (ep : Int)) := K1.out.cell 11
  have t13 : W1.cell? ⟨B, 13, none⟩ = some (.pointer (some ⟨M, 0, none⟩)) := K1.out.cell 13
  have TX : Hid (W1.drew.cell? ⟨B, 11, none⟩ = some (.int .u64 (ep : Int)) ∧ W1.drew.cell? ⟨B, 13, none⟩ = some (.pointer (some ⟨M, 0, none⟩))) := Lib.hid ⟨t11, t13⟩
  go_wp2_with fail
  go_region_held3 (fun w' => w'.cell? ⟨B, 11, none⟩ = some (.int .u64 (ep : Int)) ∧ w'.cell? ⟨B, 13, none⟩ = some (.pointer (some ⟨M, 0, none⟩))) (first | exact TX.out | ((try dsimp only); (repeat' apply And.intro) <;> (apply keep1m hb2; assumption)) | go_keep) ((first | (go_at_call 78; (with_reducible refine (LC.out _ ?_).mono ?_); (first | exact M1.out.drewN 1); rintro e w2 ⟨rfl, hb2⟩)))
  have hb2 : Below W1.heap.size W1 w2 := (below_drewN (Below.refl _ _) 1).trans hb2
  have K2 : Hid (RunB w2 B pc R s why ep home (.pointer (some ⟨M, 0, none⟩)) epoch ow nS nT nA nW) := Lib.hid (Blk.kept K1.out hb2)
  have I2 := Lib.hid (I1.out.kept hb2)
  have U2 := Lib.hid (U1.out.then_ hb2)
  clear hb2 TX K1 M1 I1 U1 i0 i1 t11 t13
  have i1 : w2.cell? ⟨w.heap.size, 1, none⟩ = some (.int .u8 (rd : Int)) := I2.out.cell 1
  go_wp2_with fail
  refine (SC.out _ K2.out).mono ?_
  rintro e w3 ⟨rfl, k3, u3⟩
  have F : Hid (RunP w B (inc pc) (setR R rd lv) s why ep home (.pointer (some ⟨M, 0, none⟩)) epoch ow nS nT nA nW (.returned (.tuple #[])) w3) := Lib.hid ⟨rfl, k3, U2.out.trans u3⟩
  clear k3 u3 K2 I2 U2 SC LC RC
  go_wp2_with fail
  refine bodyPost_ret (v := .tuple #[]) (by simp [results, Tryz.results31, go_sem, *]) rfl ?_
  exact F.out
theorem Mem.updk {w w' : World} {M g h c d cd : Nat} {G : Nat → Nat} {T : List Page} {L : List Nat} (m : Mem w M g h c d cd G T L) {k : Nat} (u : Upd k w w') (h1 : M ≠ k) (h2 : g ≠ k) (h3 : h ≠ k) (h4 : d ≠ k) : Mem w' M g h c d cd G T L :=
  ⟨m.ten.upd u h1, m.tab.upd u h2 h3, m.wds.upd u h4, m.len, m.cap, m.Mg, m.Mh, m.Md, m.gd, m.hd⟩
theorem store_not4 {T : List Page} {L : List Nat} {x v ep o : Nat} (h : (storeM T L x v ep o).2 = false) : (storeM T L x v ep o).1 = L := by
  unfold storeM at h ⊢
  split
  · rename_i q; rw [if_pos q] at h; cases h
  · rfl
/-- Behind a store: the run and the words. -/
def StP (w : World) (B pc : Nat) (R : Nat → Nat) (s : Value) (why ep home : Nat) (M g h c d cd : Nat) (G : Nat → Nat) (T : List Page) (L : List Nat) (epoch ow : Nat) (nS nT : Bool) (nA nW : Nat) (e : Ending) (w' : World) : Prop :=
  e = .returned (.tuple #[]) ∧ RunB w' B pc R s why ep home (.pointer (some ⟨M, 0, none⟩)) epoch ow nS nT nA nW ∧ Mem w' M g h c d cd G T L ∧ Upd3 B d d w w'
set_option maxRecDepth 100000 in
set_option maxHeartbeats 8000000 in
theorem touch_st_no (w : World) (B pc : Nat) (R : Nat → Nat) (s : Value) (why ep home : Nat) (M g h c d cd : Nat) (G : Nat → Nat) (T : List Page) (L : List Nat) (epoch ow : Nat) (nS nT : Bool) (nA nW : Nat) (K : RunB w B pc R s why ep home (.pointer (some ⟨M, 0, none⟩)) epoch ow nS nT nA nW) (m : Mem w M g h c d cd G T L) (rd ra rb : Nat) (imm : Int) (u : Nat) (hd : rd < 8) (ha : ra < 8) (hu : imm % 4294967296 = (u : Int)) (sB : B ≠ M ∧ B ≠ g ∧ B ≠ h ∧ B ≠ d) (hl : (storeM T L ((getR R ra + u) % 4294967296) (getR R rd) ep ow).2 = false) :
    Calls Tryz.prog 31 #[.pointer (some ⟨B, 0, none⟩), .agg #[.int .u8 13, .int .u8 (rd : Int), .int .u8 (ra : Int), .int .u8 (rb : Int), .int .i32 imm]] w fun e w' => StP w B pc R s 5 ep home M g h c d cd G T L epoch ow nS nT nA nW e w' := by
  unfold RunB at K
  have hwu : IntKind.u32.wrap imm = (u : Int) := by rw [IntKind.wrap_u32]; exact hu
  have hy : ((getR R ra + u) % 4294967296) < 4294967296 := Nat.mod_lt _ (by decide)
  have RC := Lib.hid (fun W (k : RunB W B pc R s why ep home (.pointer (some ⟨M, 0, none⟩)) epoch ow nS nT nA nW) => reg_c W B pc R s why ep home (.pointer (some ⟨M, 0, none⟩)) epoch ow nS nT nA nW k ra ha)
  have hsum : ((getR R ra : Int) + (u : Int)) % 4294967296 = ((((getR R ra + u) % 4294967296) : Nat) : Int) := by omega
  have hsw : IntKind.u32.wrap ((getR R ra : Int) + (u : Int)) = ((((getR R ra + u) % 4294967296) : Nat) : Int) := by rw [IntKind.wrap_u32]; exact hsum
  have SC := fun W (q : Mem W M g h c d cd G T L) => store_c q ((getR R ra + u) % 4294967296) (getR R rd) ep ow hy
  have RD := fun W (k : RunB W B pc R s why ep home (.pointer (some ⟨M, 0, none⟩)) epoch ow nS nT nA nW) => reg_c W B pc R s why ep home (.pointer (some ⟨M, 0, none⟩)) epoch ow nS nT nA nW k rd hd
  have hwi := wrap_inc pc
  have hn := store_not4 hl
  generalize storeM T L ((getR R ra + u) % 4294967296) (getR R rd) ep ow = lo at SC hl hn ⊢
  obtain ⟨L1, lb⟩ := lo
  simp only at SC hl hn ⊢
  subst hl
  subst hn
  generalize ((getR R ra + u) % 4294967296) = y at SC hsum hsw hy ⊢
  generalize getR R rd = z at SC RD ⊢
  generalize getR R ra = x at RC hsum hsw
  replace SC := Lib.hid SC
  replace RD := Lib.hid RD
  have K0 : Hid (RunB (w.alloc (.cells #[.int .u8 13, .int .u8 (rd : Int), .int .u8 (ra : Int), .int .u8 (rb : Int), .int .i32 imm] 78)) B pc R s why ep home (.pointer (some ⟨M, 0, none⟩)) epoch ow nS nT nA nW) := Lib.hid (Blk.alloc K _)
  have M0 : Hid (Mem (w.alloc (.cells #[.int .u8 13, .int .u8 (rd : Int), .int .u8 (ra : Int), .int .u8 (rb : Int), .int .i32 imm] 78)) M g h c d cd G T L1) := Lib.hid (m.alloc _)
  have I0 := Lib.hid (Blk.new w 78 #[.int .u8 13, .int .u8 (rd : Int), .int .u8 (ra : Int), .int .u8 (rb : Int), .int .i32 imm])
  have hB : B < w.heap.size := K.lt
  generalize hW : w.alloc (.cells #[.int .u8 13, .int .u8 (rd : Int), .int .u8 (ra : Int), .int .u8 (rb : Int), .int .i32 imm] 78) = W at K0 M0 I0
  have UW : Hid (Upd B w W) := Lib.hid (hW ▸ (Upd.refl B w).alloc _)
  have KW := Lib.hid hW
  clear hW K m
  have TX : Hid (W.drew.cell? ⟨w.heap.size, 2, none⟩ = some (.int .u8 (ra : Int)) ∧ W.drew.cell? ⟨w.heap.size, 4, none⟩ = some (.int .i32 imm)) := Lib.hid ⟨I0.out.cell 2, I0.out.cell 4⟩
  go_enter Tryz.func31, Tryz.ntmps31
  go_wp2_with fail
  (try rw [KW.out])
  go_region_held3 (fun w' => w'.cell? ⟨w.heap.size, 2, none⟩ = some (.int .u8 (ra : Int)) ∧ w'.cell? ⟨w.heap.size, 4, none⟩ = some (.int .i32 imm)) (first | exact TX.out | go_keep) ((first | (go_at_call 30; (with_reducible refine (RC.out _ ?_).mono ?_); (first | exact Blk.drewN K0.out 1); rintro e w1 ⟨rfl, rfl⟩)))
  have K1 : Hid (RunB (W.drewN 1) B pc R s why ep home (.pointer (some ⟨M, 0, none⟩)) epoch ow nS nT nA nW) := Lib.hid (Blk.drewN K0.out 1)
  have M1 := Lib.hid (M0.out.drewN 1)
  have I1 := Lib.hid (I0.out.drewN 1)
  have U1 : Hid (Upd B w (W.drewN 1)) := Lib.hid (UW.out.drewN 1)
  clear TX K0 M0 I0 UW KW
  generalize hW1 : W.drewN 1 = W1 at K1 M1 I1 U1
  have hW1' : W.drew = W1 := hW1
  (try rw [hW1'])
  clear hW1 hW1'
  have i0 : W1.cell? ⟨w.heap.size, 0, none⟩ = some (.int .u8 13) := I1.out.cell 0
  have i1 : W1.cell? ⟨w.heap.size, 1, none⟩ = some (.int .u8 (rd : Int)) := I1.out.cell 1
  go_wp2_with fail
  refine (RD.out _ K1.out).mono ?_
  rintro e w1 ⟨rfl, rfl⟩
  have t11 : w1.cell? ⟨B, 11, none⟩ = some (.int .u64 (ep : Int)) := K1.out.cell 11
  have t13 : w1.cell? ⟨B, 13, none⟩ = some (.pointer (some ⟨M, 0, none⟩)) := K1.out.cell 13
  have t15 : w1.cell? ⟨B, 15, none⟩ = some (.int .u16 (ow : Int)) := K1.out.cell 15
  have TX : Hid (w1.drew.cell? ⟨B, 11, none⟩ = some (.int .u64 (ep : Int)) ∧ w1.drew.cell? ⟨B, 13, none⟩ = some (.pointer (some ⟨M, 0, none⟩)) ∧ w1.drew.cell? ⟨B, 15, none⟩ = some (.int .u16 (ow : Int))) := Lib.hid ⟨t11, t13, t15⟩
  have TU : Hid (∀ w2, Upd d w1.drew w2 → w2.cell? ⟨B, 11, none⟩ = some (.int .u64 (ep : Int)) ∧ w2.cell? ⟨B, 13, none⟩ = some (.pointer (some ⟨M, 0, none⟩)) ∧ w2.cell? ⟨B, 15, none⟩ = some (.int .u16 (ow : Int))) := Lib.hid fun w2 u2 => by
    have k := u2.blk (Blk.drewN K1.out 1) sB.2.2.2
    exact ⟨k.cell 11, k.cell 13, k.cell 15⟩
  go_wp2_with fail
  go_region_held3 (fun w' => w'.cell? ⟨B, 11, none⟩ = some (.int .u64 (ep : Int)) ∧ w'.cell? ⟨B, 13, none⟩ = some (.pointer (some ⟨M, 0, none⟩)) ∧ w'.cell? ⟨B, 15, none⟩ = some (.int .u16 (ow : Int))) (first | exact TX.out | exact TU.out _ u2 | go_keep) ((first | (go_at_call 79; (with_reducible refine (SC.out _ ?_).mono ?_); (first | exact M1.out.drewN 1); rintro e w2 ⟨rfl, m2, u2⟩)))
  have u2 : Upd d w1 w2 := ((Upd.refl d w1).drewN 1).trans u2
  have K2 : Hid (RunB w2 B pc R s why ep home (.pointer (some ⟨M, 0, none⟩)) epoch ow nS nT nA nW) := Lib.hid (u2.blk K1.out sB.2.2.2)
  have U2 : Hid (Upd3 B d d w w2) := Lib.hid ((Upd3.ofM U1.out).trans (Upd3.ofd u2))
  have M2 := Lib.hid m2
  clear u2 m2 TX TU K1 M1 I1 U1 i0 i1 t11 t13 t15
  have t10 : w2.cell? ⟨B, 10, none⟩ = some (.int .u8 (why : Int)) := K2.out.cell 10
  have ft10 : w2.frozen? ⟨B, 10, none⟩ = false := K2.out.frozen 10
  have F : Hid (StP w B pc R s 5 ep home M g h c d cd G T L1 epoch ow nS nT nA nW (.returned (.tuple #[])) (w2.setCell ⟨B, 10, none⟩ (.int .u8 5))) := Lib.hid (by
    have u : Upd B w2 (w2.setCell ⟨B, 10, none⟩ (.int .u8 5)) := (Upd.refl B w2).setCell 10 _
    have k := Blk.set_ K2.out 10 (.int .u8 5)
    refine ⟨rfl, ?_, M2.out.updk u sB.1.symm sB.2.1.symm sB.2.2.1.symm sB.2.2.2.symm, U2.out.trans (Upd3.ofM u)⟩
    unfold RunB
    simpa using k)
  clear K2 M2 U2 SC RD RC
  go_wp2_with fail
  refine bodyPost_ret (v := .tuple #[]) (by simp [results, Tryz.results31, go_sem, *]) rfl ?_
  exact F.out
set_option maxRecDepth 100000 in
set_option maxHeartbeats 8000000 in
theorem touch_st_yes (w : World) (B pc : Nat) (R : Nat → Nat) (s : Value) (why ep home : Nat) (M g h c d cd : Nat) (G : Nat → Nat) (T : List Page) (L : List Nat) (epoch ow : Nat) (nS nT : Bool) (nA nW : Nat) (K : RunB w B pc R s why ep home (.pointer (some ⟨M, 0, none⟩)) epoch ow nS nT nA nW) (m : Mem w M g h c d cd G T L) (rd ra rb : Nat) (imm : Int) (u : Nat) (hd : rd < 8) (ha : ra < 8) (hu : imm % 4294967296 = (u : Int)) (sB : B ≠ M ∧ B ≠ g ∧ B ≠ h ∧ B ≠ d) (hl : (storeM T L ((getR R ra + u) % 4294967296) (getR R rd) ep ow).2 = true) :
    Calls Tryz.prog 31 #[.pointer (some ⟨B, 0, none⟩), .agg #[.int .u8 13, .int .u8 (rd : Int), .int .u8 (ra : Int), .int .u8 (rb : Int), .int .i32 imm]] w fun e w' => StP w B (inc pc) R s why ep home M g h c d cd G T (storeM T L ((getR R ra + u) % 4294967296) (getR R rd) ep ow).1 epoch ow false true ((getR R ra + u) % 4294967296) (getR R rd) e w' := by
  unfold RunB at K
  have hwu : IntKind.u32.wrap imm = (u : Int) := by rw [IntKind.wrap_u32]; exact hu
  have hy : ((getR R ra + u) % 4294967296) < 4294967296 := Nat.mod_lt _ (by decide)
  have RC := Lib.hid (fun W (k : RunB W B pc R s why ep home (.pointer (some ⟨M, 0, none⟩)) epoch ow nS nT nA nW) => reg_c W B pc R s why ep home (.pointer (some ⟨M, 0, none⟩)) epoch ow nS nT nA nW k ra ha)
  have hsum : ((getR R ra : Int) + (u : Int)) % 4294967296 = ((((getR R ra + u) % 4294967296) : Nat) : Int) := by omega
  have hsw : IntKind.u32.wrap ((getR R ra : Int) + (u : Int)) = ((((getR R ra + u) % 4294967296) : Nat) : Int) := by rw [IntKind.wrap_u32]; exact hsum
  have SC := fun W (q : Mem W M g h c d cd G T L) => store_c q ((getR R ra + u) % 4294967296) (getR R rd) ep ow hy
  have RD := fun W (k : RunB W B pc R s why ep home (.pointer (some ⟨M, 0, none⟩)) epoch ow nS nT nA nW) => reg_c W B pc R s why ep home (.pointer (some ⟨M, 0, none⟩)) epoch ow nS nT nA nW k rd hd
  have hwi := wrap_inc pc
  generalize storeM T L ((getR R ra + u) % 4294967296) (getR R rd) ep ow = lo at SC hl ⊢
  obtain ⟨L1, lb⟩ := lo
  simp only at SC hl ⊢
  subst hl
  generalize ((getR R ra + u) % 4294967296) = y at SC hsum hsw hy ⊢
  generalize getR R rd = z at SC RD ⊢
  generalize getR R ra = x at RC hsum hsw
  replace SC := Lib.hid SC
  replace RD := Lib.hid RD
  have K0 : Hid (RunB (w.alloc (.cells #[.int .u8 13, .int .u8 (rd : Int), .int .u8 (ra : Int), .int .u8 (rb : Int), .int .i32 imm] 78)) B pc R s why ep home (.pointer (some ⟨M, 0, none⟩)) epoch ow nS nT nA nW) := Lib.hid (Blk.alloc K _)
  have M0 : Hid (Mem (w.alloc (.cells #[.int .u8 13, .int .u8 (rd : Int), .int .u8 (ra : Int), .int .u8 (rb : Int), .int .i32 imm] 78)) M g h c d cd G T L) := Lib.hid (m.alloc _)
  have I0 := Lib.hid (Blk.new w 78 #[.int .u8 13, .int .u8 (rd : Int), .int .u8 (ra : Int), .int .u8 (rb : Int), .int .i32 imm])
  have hB : B < w.heap.size := K.lt
  generalize hW : w.alloc (.cells #[.int .u8 13, .int .u8 (rd : Int), .int .u8 (ra : Int), .int .u8 (rb : Int), .int .i32 imm] 78) = W at K0 M0 I0
  have UW : Hid (Upd B w W) := Lib.hid (hW ▸ (Upd.refl B w).alloc _)
  have KW := Lib.hid hW
  clear hW K m
  have TX : Hid (W.drew.cell? ⟨w.heap.size, 2, none⟩ = some (.int .u8 (ra : Int)) ∧ W.drew.cell? ⟨w.heap.size, 4, none⟩ = some (.int .i32 imm)) := Lib.hid ⟨I0.out.cell 2, I0.out.cell 4⟩
  go_enter Tryz.func31, Tryz.ntmps31
  go_wp2_with fail
  (try rw [KW.out])
  go_region_held3 (fun w' => w'.cell? ⟨w.heap.size, 2, none⟩ = some (.int .u8 (ra : Int)) ∧ w'.cell? ⟨w.heap.size, 4, none⟩ = some (.int .i32 imm)) (first | exact TX.out | go_keep) ((first | (go_at_call 30; (with_reducible refine (RC.out _ ?_).mono ?_); (first | exact Blk.drewN K0.out 1); rintro e w1 ⟨rfl, rfl⟩)))
  have K1 : Hid (RunB (W.drewN 1) B pc R s why ep home (.pointer (some ⟨M, 0, none⟩)) epoch ow nS nT nA nW) := Lib.hid (Blk.drewN K0.out 1)
  have M1 := Lib.hid (M0.out.drewN 1)
  have I1 := Lib.hid (I0.out.drewN 1)
  have U1 : Hid (Upd B w (W.drewN 1)) := Lib.hid (UW.out.drewN 1)
  clear TX K0 M0 I0 UW KW
  generalize hW1 : W.drewN 1 = W1 at K1 M1 I1 U1
  have hW1' : W.drew = W1 := hW1
  (try rw [hW1'])
  clear hW1 hW1'
  have i0 : W1.cell? ⟨w.heap.size, 0, none⟩ = some (.int .u8 13) := I1.out.cell 0
  have i1 : W1.cell? ⟨w.heap.size, 1, none⟩ = some (.int .u8 (rd : Int)) := I1.out.cell 1
  go_wp2_with fail
  refine (RD.out _ K1.out).mono ?_
  rintro e w1 ⟨rfl, rfl⟩
  have t11 : w1.cell? ⟨B, 11, none⟩ = some (.int .u64 (ep : Int)) := K1.out.cell 11
  have t13 : w1.cell? ⟨B, 13, none⟩ = some (.pointer (some ⟨M, 0, none⟩)) := K1.out.cell 13
  have t15 : w1.cell? ⟨B, 15, none⟩ = some (.int .u16 (ow : Int)) := K1.out.cell 15
  have TX : Hid (w1.drew.cell? ⟨B, 11, none⟩ = some (.int .u64 (ep : Int)) ∧ w1.drew.cell? ⟨B, 13, none⟩ = some (.pointer (some ⟨M, 0, none⟩)) ∧ w1.drew.cell? ⟨B, 15, none⟩ = some (.int .u16 (ow : Int))) := Lib.hid ⟨t11, t13, t15⟩
  have TU : Hid (∀ w2, Upd d w1.drew w2 → w2.cell? ⟨B, 11, none⟩ = some (.int .u64 (ep : Int)) ∧ w2.cell? ⟨B, 13, none⟩ = some (.pointer (some ⟨M, 0, none⟩)) ∧ w2.cell? ⟨B, 15, none⟩ = some (.int .u16 (ow : Int))) := Lib.hid fun w2 u2 => by
    have k := u2.blk (Blk.drewN K1.out 1) sB.2.2.2
    exact ⟨k.cell 11, k.cell 13, k.cell 15⟩
  go_wp2_with fail
  go_region_held3 (fun w' => w'.cell? ⟨B, 11, none⟩ = some (.int .u64 (ep : Int)) ∧ w'.cell? ⟨B, 13, none⟩ = some (.pointer (some ⟨M, 0, none⟩)) ∧ w'.cell? ⟨B, 15, none⟩ = some (.int .u16 (ow : Int))) (first | exact TX.out | exact TU.out _ u2 | go_keep) ((first | (go_at_call 79; (with_reducible refine (SC.out _ ?_).mono ?_); (first | exact M1.out.drewN 1); rintro e w2 ⟨rfl, m2, u2⟩)))
  have u2 : Upd d w1 w2 := ((Upd.refl d w1).drewN 1).trans u2
  have K2 : Hid (RunB w2 B pc R s why ep home (.pointer (some ⟨M, 0, none⟩)) epoch ow nS nT nA nW) := Lib.hid (u2.blk K1.out sB.2.2.2)
  have U2 : Hid (Upd3 B d d w w2) := Lib.hid ((Upd3.ofM U1.out).trans (Upd3.ofd u2))
  have M2 := Lib.hid m2
  clear u2 m2 TX TU K1 M1 I1 U1 i0 i1 t11 t13 t15
  have t0 : w2.cell? ⟨B, 0, none⟩ = some (.int .u32 (pc : Int)) := K2.out.cell 0
  have ft0 : w2.frozen? ⟨B, 0, none⟩ = false := K2.out.frozen 0
  have t16 : w2.cell? ⟨B, 16, none⟩ = some (.bool nS) := K2.out.cell 16
  have ft16 : w2.frozen? ⟨B, 16, none⟩ = false := K2.out.frozen 16
  have t17 : w2.cell? ⟨B, 17, none⟩ = some (.bool nT) := K2.out.cell 17
  have ft17 : w2.frozen? ⟨B, 17, none⟩ = false := K2.out.frozen 17
  have t18 : w2.cell? ⟨B, 18, none⟩ = some (.int .u32 (nA : Int)) := K2.out.cell 18
  have ft18 : w2.frozen? ⟨B, 18, none⟩ = false := K2.out.frozen 18
  have t19 : w2.cell? ⟨B, 19, none⟩ = some (.int .u32 (nW : Int)) := K2.out.cell 19
  have ft19 : w2.frozen? ⟨B, 19, none⟩ = false := K2.out.frozen 19
  have F : Hid (StP w B (inc pc) R s why ep home M g h c d cd G T L1 epoch ow false true y z (.returned (.tuple #[])) (((((w2.setCell ⟨B, 0, none⟩ (.int .u32 (inc pc : Int))).setCell ⟨B, 16, none⟩ (.bool false)).setCell ⟨B, 17, none⟩ (.bool true)).setCell ⟨B, 18, none⟩ (.int .u32 (y : Int))).setCell ⟨B, 19, none⟩ (.int .u32 (z : Int)))) := Lib.hid (by
    have u : Upd B w2 (((((w2.setCell ⟨B, 0, none⟩ (.int .u32 (inc pc : Int))).setCell ⟨B, 16, none⟩ (.bool false)).setCell ⟨B, 17, none⟩ (.bool true)).setCell ⟨B, 18, none⟩ (.int .u32 (y : Int))).setCell ⟨B, 19, none⟩ (.int .u32 (z : Int))) := (((((Upd.refl B w2).setCell 0 _).setCell 16 _).setCell 17 _).setCell 18 _).setCell 19 _
    have k := Blk.set_ (Blk.set_ (Blk.set_ (Blk.set_ (Blk.set_ K2.out 0 (.int .u32 (inc pc : Int))) 16 (.bool false)) 17 (.bool true)) 18 (.int .u32 (y : Int))) 19 (.int .u32 (z : Int))
    refine ⟨rfl, ?_, M2.out.updk u sB.1.symm sB.2.1.symm sB.2.2.1.symm sB.2.2.2.symm, U2.out.trans (Upd3.ofM u)⟩
    unfold RunB
    simpa using k)
  clear K2 M2 U2 SC RD RC
  go_wp2_with fail
  refine bodyPost_ret (v := .tuple #[]) (by simp [results, Tryz.results31, go_sem, *]) rfl ?_
  exact F.out
end Go.Proofs.YthnbdeibjbicpaaGreat.PM

/- Contracts of hart's jump. Conditions: the cells. -/
namespace Go.Proofs.YthnbdeibjbicpaaGreat.PM
set_option linter.unusedVariables false
set_option linter.unusedSimpArgs false
open Go.RowKit
theorem keep6 {w w2 : World} {p : Addr} {g : Nat} {u v0 v1 v2 v3 v4 : Value} (hb : Below w.heap.size w w2) (c : w.cell? p = some u ∧ w.cell? ⟨g, 0, none⟩ = some v0 ∧ w.cell? ⟨g, 1, none⟩ = some v1 ∧ w.cell? ⟨g, 2, none⟩ = some v2 ∧ w.cell? ⟨g, 3, none⟩ = some v3 ∧ w.cell? ⟨g, 4, none⟩ = some v4) : w2.cell? p = some u ∧ w2.cell? ⟨g, 0, none⟩ = some v0 ∧ w2.cell? ⟨g, 1, none⟩ = some v1 ∧ w2.cell? ⟨g, 2, none⟩ = some v2 ∧ w2.cell? ⟨g, 3, none⟩ = some v3 ∧ w2.cell? ⟨g, 4, none⟩ = some v4 :=
  ⟨(hb.cell (World.block_lt_of_cell? _ _ c.1)).trans c.1, keep1m hb c.2.1, keep1m hb c.2.2.1, keep1m hb c.2.2.2.1, keep1m hb c.2.2.2.2.1, keep1m hb c.2.2.2.2.2⟩
set_option maxRecDepth 100000 in
set_option maxHeartbeats 8000000 in
theorem jump_14 (w : World) (B pc : Nat) (R : Nat → Nat) (s : Value) (why ep home : Nat) (M g h c d cd : Nat) (G : Nat → Nat) (T : List Page) (L : List Nat) (epoch ow : Nat) (nS nT : Bool) (nA nW : Nat) (K : RunB w B pc R s why ep home (.pointer (some ⟨M, 0, none⟩)) epoch ow nS nT nA nW) (rd ra rb : Nat) (imm : Int) (hd : rd < 8) (ha : ra < 8) (tg : Nat) (tb : Bool) (TG : ∀ W, Calls Tryz.prog 80 #[.int .u32 (pc : Int), .agg #[.int .u8 14, .int .u8 (rd : Int), .int .u8 (ra : Int), .int .u8 (rb : Int), .int .i32 imm]] W fun e w' => e = .returned (.tuple #[.int .u32 (tg : Int), .bool tb]) ∧ Below W.heap.size W w') :
    Calls Tryz.prog 32 #[.pointer (some ⟨B, 0, none⟩), .agg #[.int .u8 14, .int .u8 (rd : Int), .int .u8 (ra : Int), .int .u8 (rb : Int), .int .i32 imm]] w fun e w' => RunP w B tg R s why ep home (.pointer (some ⟨M, 0, none⟩)) epoch ow nS nT nA nW e w' := by
  unfold RunB at K
  have hwi := wrap_inc pc
  replace TG := Lib.hid TG
  have K0 : Hid (RunB (w.alloc (.cells #[.int .u8 14, .int .u8 (rd : Int), .int .u8 (ra : Int), .int .u8 (rb : Int), .int .i32 imm] 78)) B pc R s why ep home (.pointer (some ⟨M, 0, none⟩)) epoch ow nS nT nA nW) := Lib.hid (Blk.alloc K _)
  have I0 := Lib.hid (Blk.new w 78 #[.int .u8 14, .int .u8 (rd : Int), .int .u8 (ra : Int), .int .u8 (rb : Int), .int .i32 imm])
  have hB : B < w.heap.size := K.lt
  generalize hW : w.alloc (.cells #[.int .u8 14, .int .u8 (rd : Int), .int .u8 (ra : Int), .int .u8 (rb : Int), .int .i32 imm] 78) = W at K0 I0
  have UW : Hid (Upd B w W) := Lib.hid (hW ▸ (Upd.refl B w).alloc _)
  have KW := Lib.hid hW
  clear hW K
  have TX : Hid ((W.drew.cell? ⟨B, 0, none⟩ = some (.int .u32 (pc : Int))) ∧ W.drew.cell? ⟨w.heap.size, 0, none⟩ = some (.int .u8 14) ∧ W.drew.cell? ⟨w.heap.size, 1, none⟩ = some (.int .u8 (rd : Int)) ∧ W.drew.cell? ⟨w.heap.size, 2, none⟩ = some (.int .u8 (ra : Int)) ∧ W.drew.cell? ⟨w.heap.size, 3, none⟩ = some (.int .u8 (rb : Int)) ∧ W.drew.cell? ⟨w.heap.size, 4, none⟩ = some (.int .i32 imm)) := Lib.hid ⟨K0.out.cell 0, I0.out.cell 0, I0.out.cell 1, I0.out.cell 2, I0.out.cell 3, I0.out.cell 4⟩
  go_enter Tryz.func32, Tryz.ntmps32
  go_wp2_with fail
  (try rw [KW.out])
  go_region_held3 (fun w' => w'.cell? ⟨B, 0, none⟩ = some (.int .u32 (pc : Int)) ∧ w'.cell? ⟨w.heap.size, 0, none⟩ = some (.int .u8 14) ∧ w'.cell? ⟨w.heap.size, 1, none⟩ = some (.int .u8 (rd : Int)) ∧ w'.cell? ⟨w.heap.size, 2, none⟩ = some (.int .u8 (ra : Int)) ∧ w'.cell? ⟨w.heap.size, 3, none⟩ = some (.int .u8 (rb : Int)) ∧ w'.cell? ⟨w.heap.size, 4, none⟩ = some (.int .i32 imm)) (first | exact TX.out | (apply keep6 hb1; assumption) | go_keep) ((first | (go_at_call 80; (with_reducible refine (TG.out _).mono ?_); rintro e w1 ⟨rfl, hb1⟩)))
  have hb1 : Below W.heap.size W w1 := (below_drewN (Below.refl _ _) 1).trans hb1
  have K1 : Hid (RunB w1 B pc R s why ep home (.pointer (some ⟨M, 0, none⟩)) epoch ow nS nT nA nW) := Lib.hid (Blk.kept K0.out hb1)
  have I1 := Lib.hid (I0.out.kept hb1)
  have U1 := Lib.hid (UW.out.then_ hb1)
  clear hb1 TX K0 I0 UW KW TG
  have i0 : w1.cell? ⟨w.heap.size, 0, none⟩ = some (.int .u8 14) := I1.out.cell 0
  have t0 : w1.cell? ⟨B, 0, none⟩ = some (.int .u32 (pc : Int)) := K1.out.cell 0
  have ft0 : w1.frozen? ⟨B, 0, none⟩ = false := K1.out.frozen 0
  have F : Hid (RunP w B tg R s why ep home (.pointer (some ⟨M, 0, none⟩)) epoch ow nS nT nA nW (.returned (.tuple #[])) (w1.setCell ⟨B, 0, none⟩ (.int .u32 (tg : Int)))) := Lib.hid ⟨rfl, by
    have k := Blk.set_ K1.out 0 (.int .u32 (tg : Int))
    unfold RunB
    simpa using k, U1.out.setCell 0 _⟩
  clear K1 I1 U1
  go_wp2_with fail
  refine bodyPost_ret (v := .tuple #[]) (by simp [results, Tryz.results32, go_sem, *]) rfl ?_
  exact F.out
set_option maxRecDepth 100000 in
set_option maxHeartbeats 8000000 in
theorem jump_19 (w : World) (B pc : Nat) (R : Nat → Nat) (s : Value) (why ep home : Nat) (M g h c d cd : Nat) (G : Nat → Nat) (T : List Page) (L : List Nat) (epoch ow : Nat) (nS nT : Bool) (nA nW : Nat) (K : RunB w B pc R s why ep home (.pointer (some ⟨M, 0, none⟩)) epoch ow nS nT nA nW) (rd ra rb : Nat) (imm : Int) (hd : rd < 8) (ha : ra < 8) (tg : Nat) (tb : Bool) (TG : ∀ W, Calls Tryz.prog 80 #[.int .u32 (pc : Int), .agg #[.int .u8 19, .int .u8 (rd : Int), .int .u8 (ra : Int), .int .u8 (rb : Int), .int .i32 imm]] W fun e w' => e = .returned (.tuple #[.int .u32 (tg : Int), .bool tb]) ∧ Below W.heap.size W w') :
    Calls Tryz.prog 32 #[.pointer (some ⟨B, 0, none⟩), .agg #[.int .u8 19, .int .u8 (rd : Int), .int .u8 (ra : Int), .int .u8 (rb : Int), .int .i32 imm]] w fun e w' => RunP w B (getR R ra) R s why ep home (.pointer (some ⟨M, 0, none⟩)) epoch ow nS nT nA nW e w' := by
  unfold RunB at K
  have hwi := wrap_inc pc
  replace TG := Lib.hid TG
  have RC := Lib.hid (fun W (k : RunB W B pc R s why ep home (.pointer (some ⟨M, 0, none⟩)) epoch ow nS nT nA nW) => reg_c W B pc R s why ep home (.pointer (some ⟨M, 0, none⟩)) epoch ow nS nT nA nW k ra ha)
  have K0 : Hid (RunB (w.alloc (.cells #[.int .u8 19, .int .u8 (rd : Int), .int .u8 (ra : Int), .int .u8 (rb : Int), .int .i32 imm] 78)) B pc R s why ep home (.pointer (some ⟨M, 0, none⟩)) epoch ow nS nT nA nW) := Lib.hid (Blk.alloc K _)
  have I0 := Lib.hid (Blk.new w 78 #[.int .u8 19, .int .u8 (rd : Int), .int .u8 (ra : Int), .int .u8 (rb : Int), .int .i32 imm])
  have hB : B < w.heap.size := K.lt
  generalize hW : w.alloc (.cells #[.int .u8 19, .int .u8 (rd : Int), .int .u8 (ra : Int), .int .u8 (rb : Int), .int .i32 imm] 78) = W at K0 I0
  have UW : Hid (Upd B w W) := Lib.hid (hW ▸ (Upd.refl B w).alloc _)
  have KW := Lib.hid hW
  clear hW K
  have TX : Hid ((W.drew.cell? ⟨B, 0, none⟩ = some (.int .u32 (pc : Int))) ∧ W.drew.cell? ⟨w.heap.size, 0, none⟩ = some (.int .u8 19) ∧ W.drew.cell? ⟨w.heap.size, 1, none⟩ = some (.int .u8 (rd : Int)) ∧ W.drew.cell? ⟨w.heap.size, 2, none⟩ = some (.int .u8 (ra : Int)) ∧ W.drew.cell? ⟨w.heap.size, 3, none⟩ = some (.int .u8 (rb : Int)) ∧ W.drew.cell? ⟨w.heap.size, 4, none⟩ = some (.int .i32 imm)) := Lib.hid ⟨K0.out.cell 0, I0.out.cell 0, I0.out.cell 1, I0.out.cell 2, I0.out.cell 3, I0.out.cell 4⟩
  go_enter Tryz.func32, Tryz.ntmps32
  go_wp2_with fail
  (try rw [KW.out])
  go_region_held3 (fun w' => w'.cell? ⟨B, 0, none⟩ = some (.int .u32 (pc : Int)) ∧ w'.cell? ⟨w.heap.size, 0, none⟩ = some (.int .u8 19) ∧ w'.cell? ⟨w.heap.size, 1, none⟩ = some (.int .u8 (rd : Int)) ∧ w'.cell? ⟨w.heap.size, 2, none⟩ = some (.int .u8 (ra : Int)) ∧ w'.cell? ⟨w.heap.size, 3, none⟩ = some (.int .u8 (rb : Int)) ∧ w'.cell? ⟨w.heap.size, 4, none⟩ = some (.int .i32 imm)) (first | exact TX.out | (apply keep6 hb1; assumption) | go_keep) ((first | (go_at_call 80; (with_reducible refine (TG.out _).mono ?_); rintro e w1 ⟨rfl, hb1⟩)))
  have hb1 : Below W.heap.size W w1 := (below_drewN (Below.refl _ _) 1).trans hb1
  have K1 : Hid (RunB w1 B pc R s why ep home (.pointer (some ⟨M, 0, none⟩)) epoch ow nS nT nA nW) := Lib.hid (Blk.kept K0.out hb1)
  have I1 := Lib.hid (I0.out.kept hb1)
  have U1 := Lib.hid (UW.out.then_ hb1)
  clear hb1 TX K0 I0 UW KW TG
  have i0 : w1.cell? ⟨w.heap.size, 0, none⟩ = some (.int .u8 19) := I1.out.cell 0
  have i2 : w1.cell? ⟨w.heap.size, 2, none⟩ = some (.int .u8 (ra : Int)) := I1.out.cell 2
  have t0 : w1.cell? ⟨B, 0, none⟩ = some (.int .u32 (pc : Int)) := K1.out.cell 0
  have ft0 : w1.frozen? ⟨B, 0, none⟩ = false := K1.out.frozen 0
  go_wp2_with fail
  refine (RC.out _ K1.out).mono ?_
  rintro e w2 ⟨rfl, rfl⟩
  have F : Hid (RunP w B (getR R ra) R s why ep home (.pointer (some ⟨M, 0, none⟩)) epoch ow nS nT nA nW (.returned (.tuple #[])) (w2.setCell ⟨B, 0, none⟩ (.int .u32 (getR R ra : Int)))) := Lib.hid ⟨rfl, by
    have k := Blk.set_ K1.out 0 (.int .u32 (getR R ra : Int))
    unfold RunB
    simpa using k, U1.out.setCell 0 _⟩
  clear K1 I1 U1 RC
  go_wp2_with fail
  refine bodyPost_ret (v := .tuple #[]) (by simp [results, Tryz.results32, go_sem, *]) rfl ?_
  exact F.out
set_option maxRecDepth 100000 in
set_option maxHeartbeats 8000000 in
theorem jump_15_eq (w : World) (B pc : Nat) (R : Nat → Nat) (s : Value) (why ep home : Nat) (M g h c d cd : Nat) (G : Nat → Nat) (T : List Page) (L : List Nat) (epoch ow : Nat) (nS nT : Bool) (nA nW : Nat) (K : RunB w B pc R s why ep home (.pointer (some ⟨M, 0, none⟩)) epoch ow nS nT nA nW) (rd ra rb : Nat) (imm : Int) (hd : rd < 8) (ha : ra < 8) (tg : Nat) (tb : Bool) (TG : ∀ W, Calls Tryz.prog 80 #[.int .u32 (pc : Int), .agg #[.int .u8 15, .int .u8 (rd : Int), .int .u8 (ra : Int), .int .u8 (rb : Int), .int .i32 imm]] W fun e w' => e = .returned (.tuple #[.int .u32 (tg : Int), .bool tb]) ∧ Below W.heap.size W w') (hq : ((getR R rd : Int) == (getR R ra : Int)) = true) :
    Calls Tryz.prog 32 #[.pointer (some ⟨B, 0, none⟩), .agg #[.int .u8 15, .int .u8 (rd : Int), .int .u8 (ra : Int), .int .u8 (rb : Int), .int .i32 imm]] w fun e w' => RunP w B tg R s why ep home (.pointer (some ⟨M, 0, none⟩)) epoch ow nS nT nA nW e w' := by
  unfold RunB at K
  have hwi := wrap_inc pc
  replace TG := Lib.hid TG
  have RC := fun W (k : RunB W B pc R s why ep home (.pointer (some ⟨M, 0, none⟩)) epoch ow nS nT nA nW) => reg_c W B pc R s why ep home (.pointer (some ⟨M, 0, none⟩)) epoch ow nS nT nA nW k ra ha
  have RD := fun W (k : RunB W B pc R s why ep home (.pointer (some ⟨M, 0, none⟩)) epoch ow nS nT nA nW) => reg_c W B pc R s why ep home (.pointer (some ⟨M, 0, none⟩)) epoch ow nS nT nA nW k rd hd
  generalize getR R ra = x at RC hq
  generalize getR R rd = y at RD hq
  replace RC := Lib.hid RC
  replace RD := Lib.hid RD
  have K0 : Hid (RunB (w.alloc (.cells #[.int .u8 15, .int .u8 (rd : Int), .int .u8 (ra : Int), .int .u8 (rb : Int), .int .i32 imm] 78)) B pc R s why ep home (.pointer (some ⟨M, 0, none⟩)) epoch ow nS nT nA nW) := Lib.hid (Blk.alloc K _)
  have I0 := Lib.hid (Blk.new w 78 #[.int .u8 15, .int .u8 (rd : Int), .int .u8 (ra : Int), .int .u8 (rb : Int), .int .i32 imm])
  have hB : B < w.heap.size := K.lt
  generalize hW : w.alloc (.cells #[.int .u8 15, .int .u8 (rd : Int), .int .u8 (ra : Int), .int .u8 (rb : Int), .int .i32 imm] 78) = W at K0 I0
  have UW : Hid (Upd B w W) := Lib.hid (hW ▸ (Upd.refl B w).alloc _)
  have KW := Lib.hid hW
  clear hW K
  have TX : Hid ((W.drew.cell? ⟨B, 0, none⟩ = some (.int .u32 (pc : Int))) ∧ W.drew.cell? ⟨w.heap.size, 0, none⟩ = some (.int .u8 15) ∧ W.drew.cell? ⟨w.heap.size, 1, none⟩ = some (.int .u8 (rd : Int)) ∧ W.drew.cell? ⟨w.heap.size, 2, none⟩ = some (.int .u8 (ra : Int)) ∧ W.drew.cell? ⟨w.heap.size, 3, none⟩ = some (.int .u8 (rb : Int)) ∧ W.drew.cell? ⟨w.heap.size, 4, none⟩ = some (.int .i32 imm)) := Lib.hid ⟨K0.out.cell 0, I0.out.cell 0, I0.out.cell 1, I0.out.cell 2, I0.out.cell 3, I0.out.cell 4⟩
  go_enter Tryz.func32, Tryz.ntmps32
  go_wp2_with fail
  (try rw [KW.out])
  go_region_held3 (fun w' => w'.cell? ⟨B, 0, none⟩ = some (.int .u32 (pc : Int)) ∧ w'.cell? ⟨w.heap.size, 0, none⟩ = some (.int .u8 15) ∧ w'.cell? ⟨w.heap.size, 1, none⟩ = some (.int .u8 (rd : Int)) ∧ w'.cell? ⟨w.heap.size, 2, none⟩ = some (.int .u8 (ra : Int)) ∧ w'.cell? ⟨w.heap.size, 3, none⟩ = some (.int .u8 (rb : Int)) ∧ w'.cell? ⟨w.heap.size, 4, none⟩ = some (.int .i32 imm)) (first | exact TX.out | (apply keep6 hb1; assumption) | go_keep) ((first | (go_at_call 80; (with_reducible refine (TG.out _).mono ?_); rintro e w1 ⟨rfl, hb1⟩)))
  have hb1 : Below W.heap.size W w1 := (below_drewN (Below.refl _ _) 1).trans hb1
  have K1 : Hid (RunB w1 B pc R s why ep home (.pointer (some ⟨M, 0, none⟩)) epoch ow nS nT nA nW) := Lib.hid (Blk.kept K0.out hb1)
  have I1 := Lib.hid (I0.out.kept hb1)
  have U1 := Lib.hid (UW.out.then_ hb1)
  clear hb1 TX K0 I0 UW KW TG
  have i0 : w1.cell? ⟨w.heap.size, 0, none⟩ = some (.int .u8 15) := I1.out.cell 0
  have TX : Hid (w1.drew.cell? ⟨w.heap.size, 0, none⟩ = some (.int .u8 15) ∧ w1.drew.cell? ⟨w.heap.size, 1, none⟩ = some (.int .u8 (rd : Int)) ∧ w1.drew.cell? ⟨w.heap.size, 2, none⟩ = some (.int .u8 (ra : Int))) := Lib.hid ⟨I1.out.cell 0, I1.out.cell 1, I1.out.cell 2⟩
  go_wp2_with fail
  go_region_held3 (fun w' => w'.cell? ⟨w.heap.size, 0, none⟩ = some (.int .u8 15) ∧ w'.cell? ⟨w.heap.size, 1, none⟩ = some (.int .u8 (rd : Int)) ∧ w'.cell? ⟨w.heap.size, 2, none⟩ = some (.int .u8 (ra : Int))) (first | exact TX.out | go_keep) ((first
    | (go_at_call 30; (with_reducible refine (RD.out _ ?_).mono ?_); (first | exact Blk.drewN K1.out 1); rintro e w2 ⟨rfl, rfl⟩)
    | (go_at_call 30; (with_reducible refine (RC.out _ ?_).mono ?_); (first | exact Blk.drewN K1.out 1); rintro e w3 ⟨rfl, rfl⟩)))
  have K2 : Hid (RunB (w1.drewN 1) B pc R s why ep home (.pointer (some ⟨M, 0, none⟩)) epoch ow nS nT nA nW) := Lib.hid (Blk.drewN K1.out 1)
  have U2 : Hid (Upd B w (w1.drewN 1)) := Lib.hid (U1.out.drewN 1)
  generalize hW1 : w1.drewN 1 = W1 at K2 U2
  have hW1' : w1.drew = W1 := hW1
  (try rw [hW1'])
  clear hW1 hW1'
  have t0 : W1.cell? ⟨B, 0, none⟩ = some (.int .u32 (pc : Int)) := K2.out.cell 0
  have ft0 : W1.frozen? ⟨B, 0, none⟩ = false := K2.out.frozen 0
  have F : Hid (RunP w B tg R s why ep home (.pointer (some ⟨M, 0, none⟩)) epoch ow nS nT nA nW (.returned (.tuple #[])) (W1.setCell ⟨B, 0, none⟩ (.int .u32 (tg : Int)))) := Lib.hid ⟨rfl, by
    have k := Blk.set_ K2.out 0 (.int .u32 (tg : Int))
    unfold RunB
    simpa using k, U2.out.setCell 0 _⟩
  clear K1 I1 U1 K2 U2 RC RD TX i0
  go_wp2_with fail
  refine bodyPost_ret (v := .tuple #[]) (by simp [results, Tryz.results32, go_sem, *]) rfl ?_
  exact F.out
set_option maxRecDepth 100000 in
set_option maxHeartbeats 8000000 in
theorem jump_15_ne (w : World) (B pc : Nat) (R : Nat → Nat) (s : Value) (why ep home : Nat) (M g h c d cd : Nat) (G : Nat → Nat) (T : List Page) (L : List Nat) (epoch ow : Nat) (nS nT : Bool) (nA nW : Nat) (K : RunB w B pc R s why ep home (.pointer (some ⟨M, 0, none⟩)) epoch ow nS nT nA nW) (rd ra rb : Nat) (imm : Int) (hd : rd < 8) (ha : ra < 8) (tg : Nat) (tb : Bool) (TG : ∀ W, Calls Tryz.prog 80 #[.int .u32 (pc : Int), .agg #[.int .u8 15, .int .u8 (rd : Int), .int .u8 (ra : Int), .int .u8 (rb : Int), .int .i32 imm]] W fun e w' => e = .returned (.tuple #[.int .u32 (tg : Int), .bool tb]) ∧ Below W.heap.size W w') (hq : ((getR R rd : Int) == (getR R ra : Int)) = false) :
    Calls Tryz.prog 32 #[.pointer (some ⟨B, 0, none⟩), .agg #[.int .u8 15, .int .u8 (rd : Int), .int .u8 (ra : Int), .int .u8 (rb : Int), .int .i32 imm]] w fun e w' => RunP w B (inc pc) R s why ep home (.pointer (some ⟨M, 0, none⟩)) epoch ow nS nT nA nW e w' := by
  unfold RunB at K
  have hwi := wrap_inc pc
  replace TG := Lib.hid TG
  have RC := fun W (k : RunB W B pc R s why ep home (.pointer (some ⟨M, 0, none⟩)) epoch ow nS nT nA nW) => reg_c W B pc R s why ep home (.pointer (some ⟨M, 0, none⟩)) epoch ow nS nT nA nW k ra ha
  have RD := fun W (k : RunB W B pc R s why ep home (.pointer (some ⟨M, 0, none⟩)) epoch ow nS nT nA nW) => reg_c W B pc R s why ep home (.pointer (some ⟨M, 0, none⟩)) epoch ow nS nT nA nW k rd hd
  generalize getR R ra = x at RC hq
  generalize getR R rd = y at RD hq
  replace RC := Lib.hid RC
  replace RD := Lib.hid RD
  have K0 : Hid (RunB (w.alloc (.cells #[.int .u8 15, .int .u8 (rd : Int), .int .u8 (ra : Int), .int .u8 (rb : Int), .int .i32 imm] 78)) B pc R s why ep home (.pointer (some ⟨M, 0, none⟩)) epoch ow nS nT nA nW) := Lib.hid (Blk.alloc K _)
  have I0 := Lib.hid (Blk.new w 78 #[.int .u8 15, .int .u8 (rd : Int), .int .u8 (ra : Int), .int .u8 (rb : Int), .int .i32 imm])
  have hB : B < w.heap.size := K.lt
  generalize hW : w.alloc (.cells #[.int .u8 15, .int .u8 (rd : Int), .int .u8 (ra : Int), .int .u8 (rb : Int), .int .i32 imm] 78) = W at K0 I0
  have UW : Hid (Upd B w W) := Lib.hid (hW ▸ (Upd.refl B w).alloc _)
  have KW := Lib.hid hW
  clear hW K
  have TX : Hid ((W.drew.cell? ⟨B, 0, none⟩ = some (.int .u32 (pc : Int))) ∧ W.drew.cell? ⟨w.heap.size, 0, none⟩ = some (.int .u8 15) ∧ W.drew.cell? ⟨w.heap.size, 1, none⟩ = some (.int .u8 (rd : Int)) ∧ W.drew.cell? ⟨w.heap.size, 2, none⟩ = some (.int .u8 (ra : Int)) ∧ W.drew.cell? ⟨w.heap.size, 3, none⟩ = some (.int .u8 (rb : Int)) ∧ W.drew.cell? ⟨w.heap.size, 4, none⟩ = some (.int .i32 imm)) := Lib.hid ⟨K0.out.cell 0, I0.out.cell 0, I0.out.cell 1, I0.out.cell 2, I0.out.cell 3, I0.out.cell 4⟩
  go_enter Tryz.func32, Tryz.ntmps32
  go_wp2_with fail
  (try rw [KW.out])
  go_region_held3 (fun w' => w'.cell? ⟨B, 0, none⟩ = some (.int .u32 (pc : Int)) ∧ w'.cell? ⟨w.heap.size, 0, none⟩ = some (.int .u8 15) ∧ w'.cell? ⟨w.heap.size, 1, none⟩ = some (.int .u8 (rd : Int)) ∧ w'.cell? ⟨w.heap.size, 2, none⟩ = some (.int .u8 (ra : Int)) ∧ w'.cell? ⟨w.heap.size, 3, none⟩ = some (.int .u8 (rb : Int)) ∧ w'.cell? ⟨w.heap.size, 4, none⟩ = some (.int .i32 imm)) (first | exact TX.out | (apply keep6 hb1; assumption) | go_keep) ((first | (go_at_call 80; (with_reducible refine (TG.out _).mono ?_); rintro e w1 ⟨rfl, hb1⟩)))
  have hb1 : Below W.heap.size W w1 := (below_drewN (Below.refl _ _) 1).trans hb1
  have K1 : Hid (RunB w1 B pc R s why ep home (.pointer (some ⟨M, 0, none⟩)) epoch ow nS nT nA nW) := Lib.hid (Blk.kept K0.out hb1)
  have I1 := Lib.hid (I0.out.kept hb1)
  have U1 := Lib.hid (UW.out.then_ hb1)
  clear hb1 TX K0 I0 UW KW TG
  have i0 : w1.cell? ⟨w.heap.size, 0, none⟩ = some (.int .u8 15) := I1.out.cell 0
  have TX : Hid (w1.drew.cell? ⟨w.heap.size, 0, none⟩ = some (.int .u8 15) ∧ w1.drew.cell? ⟨w.heap.size, 1, none⟩ = some (.int .u8 (rd : Int)) ∧ w1.drew.cell? ⟨w.heap.size, 2, none⟩ = some (.int .u8 (ra : Int))) := Lib.hid ⟨I1.out.cell 0, I1.out.cell 1, I1.out.cell 2⟩
  go_wp2_with fail
  go_region_held3 (fun w' => w'.cell? ⟨w.heap.size, 0, none⟩ = some (.int .u8 15) ∧ w'.cell? ⟨w.heap.size, 1, none⟩ = some (.int .u8 (rd : Int)) ∧ w'.cell? ⟨w.heap.size, 2, none⟩ = some (.int .u8 (ra : Int))) (first | exact TX.out | go_keep) ((first
    | (go_at_call 30; (with_reducible refine (RD.out _ ?_).mono ?_); (first | exact Blk.drewN K1.out 1); rintro e w2 ⟨rfl, rfl⟩)
    | (go_at_call 30; (with_reducible refine (RC.out _ ?_).mono ?_); (first | exact Blk.drewN K1.out 1); rintro e w3 ⟨rfl, rfl⟩)))
  have K2 : Hid (RunB (w1.drewN 1) B pc R s why ep home (.pointer (some ⟨M, 0, none⟩)) epoch ow nS nT nA nW) := Lib.hid (Blk.drewN K1.out 1)
  have U2 : Hid (Upd B w (w1.drewN 1)) := Lib.hid (U1.out.drewN 1)
  generalize hW1 : w1.drewN 1 = W1 at K2 U2
  have hW1' : w1.drew = W1 := hW1
  (try rw [hW1'])
  clear hW1 hW1'
  have t0 : W1.cell? ⟨B, 0, none⟩ = some (.int .u32 (pc : Int)) := K2.out.cell 0
  have ft0 : W1.frozen? ⟨B, 0, none⟩ = false := K2.out.frozen 0
  have F : Hid (RunP w B (inc pc) R s why ep home (.pointer (some ⟨M, 0, none⟩)) epoch ow nS nT nA nW (.returned (.tuple #[])) (W1.setCell ⟨B, 0, none⟩ (.int .u32 (inc pc : Int)))) := Lib.hid ⟨rfl, by
    have k := Blk.set_ K2.out 0 (.int .u32 (inc pc : Int))
    unfold RunB
    simpa using k, U2.out.setCell 0 _⟩
  clear K1 I1 U1 K2 U2 RC RD TX i0
  go_wp2_with fail
  refine bodyPost_ret (v := .tuple #[]) (by simp [results, Tryz.results32, go_sem, *]) rfl ?_
  exact F.out
set_option maxRecDepth 100000 in
set_option maxHeartbeats 8000000 in
theorem jump_16_eq (w : World) (B pc : Nat) (R : Nat → Nat) (s : Value) (why ep home : Nat) (M g h c d cd : Nat) (G : Nat → Nat) (T : List Page) (L : List Nat) (epoch ow : Nat) (nS nT : Bool) (nA nW : Nat) (K : RunB w B pc R s why ep home (.pointer (some ⟨M, 0, none⟩)) epoch ow nS nT nA nW) (rd ra rb : Nat) (imm : Int) (hd : rd < 8) (ha : ra < 8) (tg : Nat) (tb : Bool) (TG : ∀ W, Calls Tryz.prog 80 #[.int .u32 (pc : Int), .agg #[.int .u8 16, .int .u8 (rd : Int), .int .u8 (ra : Int), .int .u8 (rb : Int), .int .i32 imm]] W fun e w' => e = .returned (.tuple #[.int .u32 (tg : Int), .bool tb]) ∧ Below W.heap.size W w') (hq : ((getR R rd : Int) == (getR R ra : Int)) = true) :
    Calls Tryz.prog 32 #[.pointer (some ⟨B, 0, none⟩), .agg #[.int .u8 16, .int .u8 (rd : Int), .int .u8 (ra : Int), .int .u8 (rb : Int), .int .i32 imm]] w fun e w' => RunP w B (inc pc) R s why ep home (.pointer (some ⟨M, 0, none⟩)) epoch ow nS nT nA nW e w' := by
  unfold RunB at K
  have hwi := wrap_inc pc
  replace TG := Lib.hid TG
  have RC := fun W (k : RunB W B pc R s why ep home (.pointer (some ⟨M, 0, none⟩)) epoch ow nS nT nA nW) => reg_c W B pc R s why ep home (.pointer (some ⟨M, 0, none⟩)) epoch ow nS nT nA nW k ra ha
  have RD := fun W (k : RunB W B pc R s why ep home (.pointer (some ⟨M, 0, none⟩)) epoch ow nS nT nA nW) => reg_c W B pc R s why ep home (.pointer (some ⟨M, 0, none⟩)) epoch ow nS nT nA nW k rd hd
  generalize getR R ra = x at RC hq
  generalize getR R rd = y at RD hq
  replace RC := Lib.hid RC
  replace RD := Lib.hid RD
  have K0 : Hid (RunB (w.alloc (.cells #[.int .u8 16, .int .u8 (rd : Int), .int .u8 (ra : Int), .int .u8 (rb : Int), .int .i32 imm] 78)) B pc R s why ep home (.pointer (some ⟨M, 0, none⟩)) epoch ow nS nT nA nW) := Lib.hid (Blk.alloc K _)
  have I0 := Lib.hid (Blk.new w 78 #[.int .u8 16, .int .u8 (rd : Int), .int .u8 (ra : Int), .int .u8 (rb : Int), .int .i32 imm])
  have hB : B < w.heap.size := K.lt
  generalize hW : w.alloc (.cells #[.int .u8 16, .int .u8 (rd : Int), .int .u8 (ra : Int), .int .u8 (rb : Int), .int .i32 imm] 78) = W at K0 I0
  have UW : Hid (Upd B w W) := Lib.hid (hW ▸ (Upd.refl B w).alloc _)
  have KW := Lib.hid hW
  clear hW K
  have TX : Hid ((W.drew.cell? ⟨B, 0, none⟩ = some (.int .u32 (pc : Int))) ∧ W.drew.cell? ⟨w.heap.size, 0, none⟩ = some (.int .u8 16) ∧ W.drew.cell? ⟨w.heap.size, 1, none⟩ = some (.int .u8 (rd : Int)) ∧ W.drew.cell? ⟨w.heap.size, 2, none⟩ = some (.int .u8 (ra : Int)) ∧ W.drew.cell? ⟨w.heap.size, 3, none⟩ = some (.int .u8 (rb : Int)) ∧ W.drew.cell? ⟨w.heap.size, 4, none⟩ = some (.int .i32 imm)) := Lib.hid ⟨K0.out.cell 0, I0.out.cell 0, I0.out.cell 1, I0.out.cell 2, I0.out.cell 3, I0.out.cell 4⟩
  go_enter Tryz.func32, Tryz.ntmps32
  go_wp2_with fail
  (try rw [KW.out])
  go_region_held3 (fun w' => w'.cell? ⟨B, 0, none⟩ = some (.int .u32 (pc : Int)) ∧ w'.cell? ⟨w.heap.size, 0, none⟩ = some (.int .u8 16) ∧ w'.cell? ⟨w.heap.size, 1, none⟩ = some (.int .u8 (rd : Int)) ∧ w'.cell? ⟨w.heap.size, 2, none⟩ = some (.int .u8 (ra : Int)) ∧ w'.cell? ⟨w.heap.size, 3, none⟩ = some (.int .u8 (rb : Int)) ∧ w'.cell? ⟨w.heap.size, 4, none⟩ = some (.int .i32 imm)) (first | exact TX.out | (apply keep6 hb1; assumption) | go_keep) ((first | (go_at_call 80; (with_reducible refine (TG.out _).mono ?_); rintro e w1 ⟨rfl, hb1⟩)))
  have hb1 : Below W.heap.size W w1 := (below_drewN (Below.refl _ _) 1).trans hb1
  have K1 : Hid (RunB w1 B pc R s why ep home (.pointer (some ⟨M, 0, none⟩)) epoch ow nS nT nA nW) := Lib.hid (Blk.kept K0.out hb1)
  have I1 := Lib.hid (I0.out.kept hb1)
  have U1 := Lib.hid (UW.out.then_ hb1)
  clear hb1 TX K0 I0 UW KW TG
  have i0 : w1.cell? ⟨w.heap.size, 0, none⟩ = some (.int .u8 16) := I1.out.cell 0
  have TX : Hid (w1.drew.cell? ⟨w.heap.size, 0, none⟩ = some (.int .u8 16) ∧ w1.drew.cell? ⟨w.heap.size, 1, none⟩ = some (.int .u8 (rd : Int)) ∧ w1.drew.cell? ⟨w.heap.size, 2, none⟩ = some (.int .u8 (ra : Int))) := Lib.hid ⟨I1.out.cell 0, I1.out.cell 1, I1.out.cell 2⟩
  go_wp2_with fail
  go_region_held3 (fun w' => w'.cell? ⟨w.heap.size, 0, none⟩ = some (.int .u8 16) ∧ w'.cell? ⟨w.heap.size, 1, none⟩ = some (.int .u8 (rd : Int)) ∧ w'.cell? ⟨w.heap.size, 2, none⟩ = some (.int .u8 (ra : Int))) (first | exact TX.out | go_keep) ((first
    | (go_at_call 30; (with_reducible refine (RD.out _ ?_).mono ?_); (first | exact Blk.drewN K1.out 1); rintro e w2 ⟨rfl, rfl⟩)
    | (go_at_call 30; (with_reducible refine (RC.out _ ?_).mono ?_); (first | exact Blk.drewN K1.out 1); rintro e w3 ⟨rfl, rfl⟩)))
  have K2 : Hid (RunB (w1.drewN 1) B pc R s why ep home (.pointer (some ⟨M, 0, none⟩)) epoch ow nS nT nA nW) := Lib.hid (Blk.drewN K1.out 1)
  have U2 : Hid (Upd B w (w1.drewN 1)) := Lib.hid (U1.out.drewN 1)
  generalize hW1 : w1.drewN 1 = W1 at K2 U2
  have hW1' : w1.drew = W1 := hW1
  (try rw [hW1'])
  clear hW1 hW1'
  have t0 : W1.cell? ⟨B, 0, none⟩ = some (.int .u32 (pc : Int)) := K2.out.cell 0
  have ft0 : W1.frozen? ⟨B, 0, none⟩ = false := K2.out.frozen 0
  have F : Hid (RunP w B (inc pc) R s why ep home (.pointer (some ⟨M, 0, none⟩)) epoch ow nS nT nA nW (.returned (.tuple #[])) (W1.setCell ⟨B, 0, none⟩ (.int .u32 (inc pc : Int)))) := Lib.hid ⟨rfl, by
    have k := Blk.set_ K2.out 0 (.int .u32 (inc pc : Int))
    unfold RunB
    simpa using k, U2.out.setCell 0 _⟩
  clear K1 I1 U1 K2 U2 RC RD TX i0
  go_wp2_with fail
  refine bodyPost_ret (v := .tuple #[]) (by simp [results, Tryz.results32, go_sem, *]) rfl ?_
  exact F.out
set_option maxRecDepth 100000 in
set_option maxHeartbeats 8000000 in
theorem jump_16_ne (w : World) (B pc : Nat) (R : Nat → Nat) (s : Value) (why ep home : Nat) (M g h c d cd : Nat) (G : Nat → Nat) (T : List Page) (L : List Nat) (epoch ow : Nat) (nS nT : Bool) (nA nW : Nat) (K : RunB w B pc R s why ep home (.pointer (some ⟨M, 0, none⟩)) epoch ow nS nT nA nW) (rd ra rb : Nat) (imm : Int) (hd : rd < 8) (ha : ra < 8) (tg : Nat) (tb : Bool) (TG : ∀ W, Calls Tryz.prog 80 #[.int .u32 (pc : Int), .agg #[.int .u8 16, .int .u8 (rd : Int), .int .u8 (ra : Int), .int .u8 (rb : Int), .int .i32 imm]] W fun e w' => e = .returned (.tuple #[.int .u32 (tg : Int), .bool tb]) ∧ Below W.heap.size W w') (hq : ((getR R rd : Int) == (getR R ra : Int)) = false) :
    Calls Tryz.prog 32 #[.pointer (some ⟨B, 0, none⟩), .agg #[.int .u8 16, .int .u8 (rd : Int), .int .u8 (ra : Int), .int .u8 (rb : Int), .int .i32 imm]] w fun e w' => RunP w B tg R s why ep home (.pointer (some ⟨M, 0, none⟩)) epoch ow nS nT nA nW e w' := by
  unfold RunB at K
  have hwi := wrap_inc pc
  replace TG := Lib.hid TG
  have RC := fun W (k : RunB W B pc R s why ep home (.pointer (some ⟨M, 0, none⟩)) epoch ow nS nT nA nW) => reg_c W B pc R s why ep home (.pointer (some ⟨M, 0, none⟩)) epoch ow nS nT nA nW k ra ha
  have RD := fun W (k : RunB W B pc R s why ep home (.pointer (some ⟨M, 0, none⟩)) epoch ow nS nT nA nW) => reg_c W B pc R s why ep home (.pointer (some ⟨M, 0, none⟩)) epoch ow nS nT nA nW k rd hd
  generalize getR R ra = x at RC hq
  generalize getR R rd = y at RD hq
  replace RC := Lib.hid RC
  replace RD := Lib.hid RD
  have K0 : Hid (RunB (w.alloc (.cells #[.int .u8 16, .int .u8 (rd : Int), .int .u8 (ra : Int), .int .u8 (rb : Int), .int .i32 imm] 78)) B pc R s why ep home (.pointer (some ⟨M, 0, none⟩)) epoch ow nS nT nA nW) := Lib.hid (Blk.alloc K _)
  have I0 := Lib.hid (Blk.new w 78 #[.int .u8 16, .int .u8 (rd : Int), .int .u8 (ra : Int), .int .u8 (rb : Int), .int .i32 imm])
  have hB : B < w.heap.size := K.lt
  generalize hW : w.alloc (.cells #[.int .u8 16, .int .u8 (rd : Int), .int .u8 (ra : Int), .int .u8 (rb : Int), .int .i32 imm] 78) = W at K0 I0
  have UW : Hid (Upd B w W) := Lib.hid (hW ▸ (Upd.refl B w).alloc _)
  have KW := Lib.hid hW
  clear hW K
  have TX : Hid ((W.drew.cell? ⟨B, 0, none⟩ = some (.int .u32 (pc : Int))) ∧ W.drew.cell? ⟨w.heap.size, 0, none⟩ = some (.int .u8 16) ∧ W.drew.cell? ⟨w.heap.size, 1, none⟩ = some (.int .u8 (rd : Int)) ∧ W.drew.cell? ⟨w.heap.size, 2, none⟩ = some (.int .u8 (ra : Int)) ∧ W.drew.cell? ⟨w.heap.size, 3, none⟩ = some (.int .u8 (rb : Int)) ∧ W.drew.cell? ⟨w.heap.size, 4, none⟩ = some (.int .i32 imm)) := Lib.hid ⟨K0.out.cell 0, I0.out.cell 0, I0.out.cell 1, I0.out.cell 2, I0.out.cell 3, I0.out.cell 4⟩
  go_enter Tryz.func32, Tryz.ntmps32
  go_wp2_with fail
  (try rw [KW.out])
  go_region_held3 (fun w' => w'.cell? ⟨B, 0, none⟩ = some (.int .u32 (pc : Int)) ∧ w'.cell? ⟨w.heap.size, 0, none⟩ = some (.int .u8 16) ∧ w'.cell? ⟨w.heap.size, 1, none⟩ = some (.int .u8 (rd : Int)) ∧ w'.cell? ⟨w.heap.size, 2, none⟩ = some (.int .u8 (ra : Int)) ∧ w'.cell? ⟨w.heap.size, 3, none⟩ = some (.int .u8 (rb : Int)) ∧ w'.cell? ⟨w.heap.size, 4, none⟩ = some (.int .i32 imm)) (first | exact TX.out | (apply keep6 hb1; assumption) | go_keep) ((first | (go_at_call 80; (with_reducible refine (TG.out _).mono ?_); rintro e w1 ⟨rfl, hb1⟩)))
  have hb1 : Below W.heap.size W w1 := (below_drewN (Below.refl _ _) 1).trans hb1
  have K1 : Hid (RunB w1 B pc R s why ep home (.pointer (some ⟨M, 0, none⟩)) epoch ow nS nT nA nW) := Lib.hid (Blk.kept K0.out hb1)
  have I1 := Lib.hid (I0.out.kept hb1)
  have U1 := Lib.hid (UW.out.then_ hb1)
  clear hb1 TX K0 I0 UW KW TG
  have i0 : w1.cell? ⟨w.heap.size, 0, none⟩ = some (.int .u8 16) := I1.out.cell 0
  have TX : Hid (w1.drew.cell? ⟨w.heap.size, 0, none⟩ = some (.int .u8 16) ∧ w1.drew.cell? ⟨w.heap.size, 1, none⟩ = some (.int .u8 (rd : Int)) ∧ w1.drew.cell? ⟨w.heap.size, 2, none⟩ = some (.int .u8 (ra : Int))) := Lib.hid ⟨I1.out.cell 0, I1.out.cell 1, I1.out.cell 2⟩
  go_wp2_with fail
  go_region_held3 (fun w' => w'.cell? ⟨w.heap.size, 0, none⟩ = some (.int .u8 16) ∧ w'.cell? ⟨w.heap.size, 1, none⟩ = some (.int .u8 (rd : Int)) ∧ w'.cell? ⟨w.heap.size, 2, none⟩ = some (.int .u8 (ra : Int))) (first | exact TX.out | go_keep) ((first
    | (go_at_call 30; (with_reducible refine (RD.out _ ?_).mono ?_); (first | exact Blk.drewN K1.out 1); rintro e w2 ⟨rfl, rfl⟩)
    | (go_at_call 30; (with_reducible refine (RC.out _ ?_).mono ?_); (first | exact Blk.drewN K1.out 1); rintro e w3 ⟨rfl, rfl⟩)))
  have K2 : Hid (RunB (w1.drewN 1) B pc R s why ep home (.pointer (some ⟨M, 0, none⟩)) epoch ow nS nT nA nW) := Lib.hid (Blk.drewN K1.out 1)
  have U2 : Hid (Upd B w (w1.drewN 1)) := Lib.hid (U1.out.drewN 1)
  generalize hW1 : w1.drewN 1 = W1 at K2 U2
  have hW1' : w1.drew = W1 := hW1
  (try rw [hW1'])
  clear hW1 hW1'
  have t0 : W1.cell? ⟨B, 0, none⟩ = some (.int .u32 (pc : Int)) := K2.out.cell 0
  have ft0 : W1.frozen? ⟨B, 0, none⟩ = false := K2.out.frozen 0
  have F : Hid (RunP w B tg R s why ep home (.pointer (some ⟨M, 0, none⟩)) epoch ow nS nT nA nW (.returned (.tuple #[])) (W1.setCell ⟨B, 0, none⟩ (.int .u32 (tg : Int)))) := Lib.hid ⟨rfl, by
    have k := Blk.set_ K2.out 0 (.int .u32 (tg : Int))
    unfold RunB
    simpa using k, U2.out.setCell 0 _⟩
  clear K1 I1 U1 K2 U2 RC RD TX i0
  go_wp2_with fail
  refine bodyPost_ret (v := .tuple #[]) (by simp [results, Tryz.results32, go_sem, *]) rfl ?_
  exact F.out
set_option maxRecDepth 100000 in
set_option maxHeartbeats 8000000 in
theorem jump_18_empty (w : World) (B pc : Nat) (R : Nat → Nat) (s : Value) (why ep home : Nat) (M g h c d cd : Nat) (G : Nat → Nat) (T : List Page) (L : List Nat) (epoch ow : Nat) (nS nT : Bool) (nA nW : Nat) (K : RunB w B pc R s why ep home (.pointer (some ⟨M, 0, none⟩)) epoch ow nS nT nA nW) (rd ra rb : Nat) (imm : Int) (hd : rd < 8) (ha : ra < 8) (tg : Nat) (tb : Bool) (TG : ∀ W, Calls Tryz.prog 80 #[.int .u32 (pc : Int), .agg #[.int .u8 18, .int .u8 (rd : Int), .int .u8 (ra : Int), .int .u8 (rb : Int), .int .i32 imm]] W fun e w' => e = .returned (.tuple #[.int .u32 (tg : Int), .bool tb]) ∧ Below W.heap.size W w') (src : Option Addr) (cap : Nat) (hs : s = .slice src 0 cap) :
    Calls Tryz.prog 32 #[.pointer (some ⟨B, 0, none⟩), .agg #[.int .u8 18, .int .u8 (rd : Int), .int .u8 (ra : Int), .int .u8 (rb : Int), .int .i32 imm]] w fun e w' => RunP w B home R s why epoch home (.pointer (some ⟨M, 0, none⟩)) epoch ow true nT nA nW e w' := by
  unfold RunB at K
  have hwi := wrap_inc pc
  replace TG := Lib.hid TG
  have PC := Lib.hid (fun W (k : RunB W B pc R s why ep home (.pointer (some ⟨M, 0, none⟩)) epoch ow nS nT nA nW) => pass_empty W B pc R s why ep home (.pointer (some ⟨M, 0, none⟩)) epoch ow nS nT nA nW src cap hs k 6)
  have K0 : Hid (RunB (w.alloc (.cells #[.int .u8 18, .int .u8 (rd : Int), .int .u8 (ra : Int), .int .u8 (rb : Int), .int .i32 imm] 78)) B pc R s why ep home (.pointer (some ⟨M, 0, none⟩)) epoch ow nS nT nA nW) := Lib.hid (Blk.alloc K _)
  have I0 := Lib.hid (Blk.new w 78 #[.int .u8 18, .int .u8 (rd : Int), .int .u8 (ra : Int), .int .u8 (rb : Int), .int .i32 imm])
  have hB : B < w.heap.size := K.lt
  generalize hW : w.alloc (.cells #[.int .u8 18, .int .u8 (rd : Int), .int .u8 (ra : Int), .int .u8 (rb : Int), .int .i32 imm] 78) = W at K0 I0
  have UW : Hid (Upd B w W) := Lib.hid (hW ▸ (Upd.refl B w).alloc _)
  have KW := Lib.hid hW
  clear hW K
  have TX : Hid ((W.drew.cell? ⟨B, 0, none⟩ = some (.int .u32 (pc : Int))) ∧ W.drew.cell? ⟨w.heap.size, 0, none⟩ = some (.int .u8 18) ∧ W.drew.cell? ⟨w.heap.size, 1, none⟩ = some (.int .u8 (rd : Int)) ∧ W.drew.cell? ⟨w.heap.size, 2, none⟩ = some (.int .u8 (ra : Int)) ∧ W.drew.cell? ⟨w.heap.size, 3, none⟩ = some (.int .u8 (rb : Int)) ∧ W.drew.cell? ⟨w.heap.size, 4, none⟩ = some (.int .i32 imm)) := Lib.hid ⟨K0.out.cell 0, I0.out.cell 0, I0.out.cell 1, I0.out.cell 2, I0.out.cell 3, I0.out.cell 4⟩
  go_enter Tryz.func32, Tryz.ntmps32
  go_wp2_with fail
  (try rw [KW.out])
  go_region_held3 (fun w' => w'.cell? ⟨B, 0, none⟩ = some (.int .u32 (pc : Int)) ∧ w'.cell? ⟨w.heap.size, 0, none⟩ = some (.int .u8 18) ∧ w'.cell? ⟨w.heap.size, 1, none⟩ = some (.int .u8 (rd : Int)) ∧ w'.cell? ⟨w.heap.size, 2, none⟩ = some (.int .u8 (ra : Int)) ∧ w'.cell? ⟨w.heap.size, 3, none⟩ = some (.int .u8 (rb : Int)) ∧ w'.cell? ⟨w.heap.size, 4, none⟩ = some (.int .i32 imm)) (first | exact TX.out | (apply keep6 hb1; assumption) | go_keep) ((first | (go_at_call 80; (with_reducible refine (TG.out _).mono ?_); rintro e w1 ⟨rfl, hb1⟩)))
  have hb1 : Below W.heap.size W w1 := (below_drewN (Below.refl _ _) 1).trans hb1
  have K1 : Hid (RunB w1 B pc R s why ep home (.pointer (some ⟨M, 0, none⟩)) epoch ow nS nT nA nW) := Lib.hid (Blk.kept K0.out hb1)
  have I1 := Lib.hid (I0.out.kept hb1)
  have U1 := Lib.hid (UW.out.then_ hb1)
  clear hb1 TX K0 I0 UW KW TG
  have i0 : w1.cell? ⟨w.heap.size, 0, none⟩ = some (.int .u8 18) := I1.out.cell 0
  have t9 : w1.cell? ⟨B, 9, none⟩ = some (s) := K1.out.cell 9
  rw [hs] at t9
  go_wp2_with fail
  refine (PC.out _ K1.out).mono ?_
  rintro e w2 ⟨rfl, k2, u2⟩
  have F : Hid (RunP w B home R s why epoch home (.pointer (some ⟨M, 0, none⟩)) epoch ow true nT nA nW (.returned (.tuple #[])) w2) := Lib.hid ⟨rfl, k2, U1.out.trans u2⟩
  clear K1 I1 U1 PC k2 u2
  go_wp2_with fail
  refine bodyPost_ret (v := .tuple #[]) (by simp [results, Tryz.results32, go_sem, *]) rfl ?_
  exact F.out
set_option maxRecDepth 100000 in
set_option maxHeartbeats 8000000 in
theorem jump_20_empty (w : World) (B pc : Nat) (R : Nat → Nat) (s : Value) (why ep home : Nat) (M g h c d cd : Nat) (G : Nat → Nat) (T : List Page) (L : List Nat) (epoch ow : Nat) (nS nT : Bool) (nA nW : Nat) (K : RunB w B pc R s why ep home (.pointer (some ⟨M, 0, none⟩)) epoch ow nS nT nA nW) (rd ra rb : Nat) (imm : Int) (hd : rd < 8) (ha : ra < 8) (tg : Nat) (tb : Bool) (TG : ∀ W, Calls Tryz.prog 80 #[.int .u32 (pc : Int), .agg #[.int .u8 20, .int .u8 (rd : Int), .int .u8 (ra : Int), .int .u8 (rb : Int), .int .i32 imm]] W fun e w' => e = .returned (.tuple #[.int .u32 (tg : Int), .bool tb]) ∧ Below W.heap.size W w') (src : Option Addr) (cap : Nat) (hs : s = .slice src 0 cap) :
    Calls Tryz.prog 32 #[.pointer (some ⟨B, 0, none⟩), .agg #[.int .u8 20, .int .u8 (rd : Int), .int .u8 (ra : Int), .int .u8 (rb : Int), .int .i32 imm]] w fun e w' => RunP w B home R s why epoch home (.pointer (some ⟨M, 0, none⟩)) epoch ow true nT nA nW e w' := by
  unfold RunB at K
  have hwi := wrap_inc pc
  replace TG := Lib.hid TG
  have PC := Lib.hid (fun W (k : RunB W B pc R s why ep home (.pointer (some ⟨M, 0, none⟩)) epoch ow nS nT nA nW) => pass_empty W B pc R s why ep home (.pointer (some ⟨M, 0, none⟩)) epoch ow nS nT nA nW src cap hs k 6)
  have K0 : Hid (RunB (w.alloc (.cells #[.int .u8 20, .int .u8 (rd : Int), .int .u8 (ra : Int), .int .u8 (rb : Int), .int .i32 imm] 78)) B pc R s why ep home (.pointer (some ⟨M, 0, none⟩)) epoch ow nS nT nA nW) := Lib.hid (Blk.alloc K _)
  have I0 := Lib.hid (Blk.new w 78 #[.int .u8 20, .int .u8 (rd : Int), .int .u8 (ra : Int), .int .u8 (rb : Int), .int .i32 imm])
  have hB : B < w.heap.size := K.lt
  generalize hW : w.alloc (.cells #[.int .u8 20, .int .u8 (rd : Int), .int .u8 (ra : Int), .int .u8 (rb : Int), .int .i32 imm] 78) = W at K0 I0
  have UW : Hid (Upd B w W) := Lib.hid (hW ▸ (Upd.refl B w).alloc _)
  have KW := Lib.hid hW
  clear hW K
  have TX : Hid ((W.drew.cell? ⟨B, 0, none⟩ = some (.int .u32 (pc : Int))) ∧ W.drew.cell? ⟨w.heap.size, 0, none⟩ = some (.int .u8 20) ∧ W.drew.cell? ⟨w.heap.size, 1, none⟩ = some (.int .u8 (rd : Int)) ∧ W.drew.cell? ⟨w.heap.size, 2, none⟩ = some (.int .u8 (ra : Int)) ∧ W.drew.cell? ⟨w.heap.size, 3, none⟩ = some (.int .u8 (rb : Int)) ∧ W.drew.cell? ⟨w.heap.size, 4, none⟩ = some (.int .i32 imm)) := Lib.hid ⟨K0.out.cell 0, I0.out.cell 0, I0.out.cell 1, I0.out.cell 2, I0.out.cell 3, I0.out.cell 4⟩
  go_enter Tryz.func32, Tryz.ntmps32
  go_wp2_with fail
  (try rw [KW.out])
  go_region_held3 (fun w' => w'.cell? ⟨B, 0, none⟩ = some (.int .u32 (pc : Int)) ∧ w'.cell? ⟨w.heap.size, 0, none⟩ = some (.int .u8 20) ∧ w'.cell? ⟨w.heap.size, 1, none⟩ = some (.int .u8 (rd : Int)) ∧ w'.cell? ⟨w.heap.size, 2, none⟩ = some (.int .u8 (ra : Int)) ∧ w'.cell? ⟨w.heap.size, 3, none⟩ = some (.int .u8 (rb : Int)) ∧ w'.cell? ⟨w.heap.size, 4, none⟩ = some (.int .i32 imm)) (first | exact TX.out | (apply keep6 hb1; assumption) | go_keep) ((first | (go_at_call 80; (with_reducible refine (TG.out _).mono ?_); rintro e w1 ⟨rfl, hb1⟩)))
  have hb1 : Below W.heap.size W w1 := (below_drewN (Below.refl _ _) 1).trans hb1
  have K1 : Hid (RunB w1 B pc R s why ep home (.pointer (some ⟨M, 0, none⟩)) epoch ow nS nT nA nW) := Lib.hid (Blk.kept K0.out hb1)
  have I1 := Lib.hid (I0.out.kept hb1)
  have U1 := Lib.hid (UW.out.then_ hb1)
  clear hb1 TX K0 I0 UW KW TG
  have i0 : w1.cell? ⟨w.heap.size, 0, none⟩ = some (.int .u8 20) := I1.out.cell 0
  go_wp2_with fail
  refine (PC.out _ K1.out).mono ?_
  rintro e w2 ⟨rfl, k2, u2⟩
  have F : Hid (RunP w B home R s why epoch home (.pointer (some ⟨M, 0, none⟩)) epoch ow true nT nA nW (.returned (.tuple #[])) w2) := Lib.hid ⟨rfl, k2, U1.out.trans u2⟩
  clear K1 I1 U1 PC k2 u2
  go_wp2_with fail
  refine bodyPost_ret (v := .tuple #[]) (by simp [results, Tryz.results32, go_sem, *]) rfl ?_
  exact F.out
set_option maxRecDepth 100000 in
set_option maxHeartbeats 8000000 in
theorem jump_20_full (w : World) (B pc : Nat) (R : Nat → Nat) (s : Value) (why ep home : Nat) (M g h c d cd : Nat) (G : Nat → Nat) (T : List Page) (L : List Nat) (epoch ow : Nat) (nS nT : Bool) (nA nW : Nat) (K : RunB w B pc R s why ep home (.pointer (some ⟨M, 0, none⟩)) epoch ow nS nT nA nW) (rd ra rb : Nat) (imm : Int) (hd : rd < 8) (ha : ra < 8) (tg : Nat) (tb : Bool) (TG : ∀ W, Calls Tryz.prog 80 #[.int .u32 (pc : Int), .agg #[.int .u8 20, .int .u8 (rd : Int), .int .u8 (ra : Int), .int .u8 (rb : Int), .int .i32 imm]] W fun e w' => e = .returned (.tuple #[.int .u32 (tg : Int), .bool tb]) ∧ Below W.heap.size W w') (src : Option Addr) (n cap : Nat) (hs : s = .slice src n cap) (hn : 0 < n) :
    Calls Tryz.prog 32 #[.pointer (some ⟨B, 0, none⟩), .agg #[.int .u8 20, .int .u8 (rd : Int), .int .u8 (ra : Int), .int .u8 (rb : Int), .int .i32 imm]] w fun e w' => RunP w B pc R s 6 ep home (.pointer (some ⟨M, 0, none⟩)) epoch ow nS nT nA nW e w' := by
  unfold RunB at K
  have hwi := wrap_inc pc
  replace TG := Lib.hid TG
  have PC := Lib.hid (fun W (k : RunB W B pc R s why ep home (.pointer (some ⟨M, 0, none⟩)) epoch ow nS nT nA nW) => pass_full W B pc R s why ep home (.pointer (some ⟨M, 0, none⟩)) epoch ow nS nT nA nW src n cap hs k 6 hn)
  have K0 : Hid (RunB (w.alloc (.cells #[.int .u8 20, .int .u8 (rd : Int), .int .u8 (ra : Int), .int .u8 (rb : Int), .int .i32 imm] 78)) B pc R s why ep home (.pointer (some ⟨M, 0, none⟩)) epoch ow nS nT nA nW) := Lib.hid (Blk.alloc K _)
  have I0 := Lib.hid (Blk.new w 78 #[.int .u8 20, .int .u8 (rd : Int), .int .u8 (ra : Int), .int .u8 (rb : Int), .int .i32 imm])
  have hB : B < w.heap.size := K.lt
  generalize hW : w.alloc (.cells #[.int .u8 20, .int .u8 (rd : Int), .int .u8 (ra : Int), .int .u8 (rb : Int), .int .i32 imm] 78) = W at K0 I0
  have UW : Hid (Upd B w W) := Lib.hid (hW ▸ (Upd.refl B w).alloc _)
  have KW := Lib.hid hW
  clear hW K
  have TX : Hid ((W.drew.cell? ⟨B, 0, none⟩ = some (.int .u32 (pc : Int))) ∧ W.drew.cell? ⟨w.heap.size, 0, none⟩ = some (.int .u8 20) ∧ W.drew.cell? ⟨w.heap.size, 1, none⟩ = some (.int .u8 (rd : Int)) ∧ W.drew.cell? ⟨w.heap.size, 2, none⟩ = some (.int .u8 (ra : Int)) ∧ W.drew.cell? ⟨w.heap.size, 3, none⟩ = some (.int .u8 (rb : Int)) ∧ W.drew.cell? ⟨w.heap.size, 4, none⟩ = some (.int .i32 imm)) := Lib.hid ⟨K0.out.cell 0, I0.out.cell 0, I0.out.cell 1, I0.out.cell 2, I0.out.cell 3, I0.out.cell 4⟩
  go_enter Tryz.func32, Tryz.ntmps32
  go_wp2_with fail
  (try rw [KW.out])
  go_region_held3 (fun w' => w'.cell? ⟨B, 0, none⟩ = some (.int .u32 (pc : Int)) ∧ w'.cell? ⟨w.heap.size, 0, none⟩ = some (.int .u8 20) ∧ w'.cell? ⟨w.heap.size, 1, none⟩ = some (.int .u8 (rd : Int)) ∧ w'.cell? ⟨w.heap.size, 2, none⟩ = some (.int .u8 (ra : Int)) ∧ w'.cell? ⟨w.heap.size, 3, none⟩ = some (.int .u8 (rb : Int)) ∧ w'.cell? ⟨w.heap.size, 4, none⟩ = some (.int .i32 imm)) (first | exact TX.out | (apply keep6 hb1; assumption) | go_keep) ((first | (go_at_call 80; (with_reducible refine (TG.out _).mono ?_); rintro e w1 ⟨rfl, hb1⟩)))
  have hb1 : Below W.heap.size W w1 := (below_drewN (Below.refl _ _) 1).trans hb1
  have K1 : Hid (RunB w1 B pc R s why ep home (.pointer (some ⟨M, 0, none⟩)) epoch ow nS nT nA nW) := Lib.hid (Blk.kept K0.out hb1)
  have I1 := Lib.hid (I0.out.kept hb1)
  have U1 := Lib.hid (UW.out.then_ hb1)
  clear hb1 TX K0 I0 UW KW TG
  have i0 : w1.cell? ⟨w.heap.size, 0, none⟩ = some (.int .u8 20) := I1.out.cell 0
  go_wp2_with fail
  refine (PC.out _ K1.out).mono ?_
  rintro e w2 ⟨rfl, k2, u2⟩
  have F : Hid (RunP w B pc R s 6 ep home (.pointer (some ⟨M, 0, none⟩)) epoch ow nS nT nA nW (.returned (.tuple #[])) w2) := Lib.hid ⟨rfl, k2, U1.out.trans u2⟩
  clear K1 I1 U1 PC k2 u2
  go_wp2_with fail
  refine bodyPost_ret (v := .tuple #[]) (by simp [results, Tryz.results32, go_sem, *]) rfl ?_
  exact F.out
end Go.Proofs.YthnbdeibjbicpaaGreat.PM

/- Contracts of hart's jump: Enter. Conditions: the cells. -/
namespace Go.Proofs.YthnbdeibjbicpaaGreat.PM
set_option linter.unusedVariables false
set_option linter.unusedSimpArgs false
open Go.RowKit
set_option maxRecDepth 100000 in
set_option maxHeartbeats 8000000 in
theorem jump_21_bound (w : World) (B pc : Nat) (R : Nat → Nat) (s : Value) (why ep home : Nat) (M g h c d cd : Nat) (G : Nat → Nat) (T : List Page) (L : List Nat) (epoch ow : Nat) (nS nT : Bool) (nA nW : Nat) (K : RunB w B pc R s why ep home (.pointer (some ⟨M, 0, none⟩)) epoch ow nS nT nA nW) (m : Mem w M g h c d cd G T L) (rd ra rb : Nat) (imm : Int) (hd : rd < 8) (ha : ra < 8) (tg : Nat) (tb : Bool) (TG : ∀ W, Calls Tryz.prog 80 #[.int .u32 (pc : Int), .agg #[.int .u8 21, .int .u8 (rd : Int), .int .u8 (ra : Int), .int .u8 (rb : Int), .int .i32 imm]] W fun e w' => e = .returned (.tuple #[.int .u32 (tg : Int), .bool tb]) ∧ Below W.heap.size W w') (gq r8 : Nat) (hgq : Int.tdiv imm 8 = (gq : Int)) (hr8 : Int.tmod imm 8 = (r8 : Int)) (h0 : 0 ≤ imm) (h63 : imm ≤ 63) (hq8 : gq < 8) (hr : r8 < 8) (hz : ((G gq : Int) == 0) = false) :
    Calls Tryz.prog 32 #[.pointer (some ⟨B, 0, none⟩), .agg #[.int .u8 21, .int .u8 (rd : Int), .int .u8 (ra : Int), .int .u8 (rb : Int), .int .i32 imm]] w fun e w' => RunP w B ((G gq + r8) % 4294967296) R s why ep home (.pointer (some ⟨M, 0, none⟩)) epoch ow nS nT nA nW e w' := by
  unfold RunB at K
  have hwi := wrap_inc pc
  replace TG := Lib.hid TG
  have hw1 : IntKind.i64.wrap imm = imm := by unfold IntKind.wrap; simp [IntKind.bits, IntKind.signed]; omega
  have hw2 : IntKind.i64.wrap (gq : Int) = (gq : Int) := by unfold IntKind.wrap; simp [IntKind.bits, IntKind.signed]; omega
  have hw3 : IntKind.i32.wrap (r8 : Int) = (r8 : Int) := by unfold IntKind.wrap; simp [IntKind.bits, IntKind.signed]; omega
  have hw4 : IntKind.u32.wrap (r8 : Int) = (r8 : Int) := by rw [IntKind.wrap_u32]; omega
  have GC : ∀ W, Mem W M g h c d cd G T L → Calls Tryz.prog 82 #[.pointer (some ⟨M, 0, none⟩), .int .i64 (gq : Int)] W fun e w' => e = .returned (.int .u32 (G gq : Int)) ∧ w' = W := fun W q => by
    have := gate_c q (gq : Int)
    rw [if_pos ⟨by omega, by omega⟩, Int.toNat_natCast] at this
    exact this
  have hsum : ((G gq : Int) + (r8 : Int)) % 4294967296 = (((G gq + r8) % 4294967296 : Nat) : Int) := by omega
  have hsw : IntKind.u32.wrap ((G gq : Int) + (r8 : Int)) = (((G gq + r8) % 4294967296 : Nat) : Int) := by rw [IntKind.wrap_u32]; exact hsum
  generalize (G gq + r8) % 4294967296 = y at hsum hsw ⊢
  generalize G gq = gv at GC hz hsum hsw
  replace GC := Lib.hid GC
  have K0 : Hid (RunB (w.alloc (.cells #[.int .u8 21, .int .u8 (rd : Int), .int .u8 (ra : Int), .int .u8 (rb : Int), .int .i32 imm] 78)) B pc R s why ep home (.pointer (some ⟨M, 0, none⟩)) epoch ow nS nT nA nW) := Lib.hid (Blk.alloc K _)
  have M0 : Hid (Mem (w.alloc (.cells #[.int .u8 21, .int .u8 (rd : Int), .int .u8 (ra : Int), .int .u8 (rb : Int), .int .i32 imm] 78)) M g h c d cd G T L) := Lib.hid (m.alloc _)
  have I0 := Lib.hid (Blk.new w 78 #[.int .u8 21, .int .u8 (rd : Int), .int .u8 (ra : Int), .int .u8 (rb : Int), .int .i32 imm])
  have hB : B < w.heap.size := K.lt
  generalize hW : w.alloc (.cells #[.int .u8 21, .int .u8 (rd : Int), .int .u8 (ra : Int), .int .u8 (rb : Int), .int .i32 imm] 78) = W at K0 I0 M0
  have UW : Hid (Upd B w W) := Lib.hid (hW ▸ (Upd.refl B w).alloc _)
  have KW := Lib.hid hW
  clear hW K m
  have TX : Hid ((W.drew.cell? ⟨B, 0, none⟩ = some (.int .u32 (pc : Int))) ∧ W.drew.cell? ⟨w.heap.size, 0, none⟩ = some (.int .u8 21) ∧ W.drew.cell? ⟨w.heap.size, 1, none⟩ = some (.int .u8 (rd : Int)) ∧ W.drew.cell? ⟨w.heap.size, 2, none⟩ = some (.int .u8 (ra : Int)) ∧ W.drew.cell? ⟨w.heap.size, 3, none⟩ = some (.int .u8 (rb : Int)) ∧ W.drew.cell? ⟨w.heap.size, 4, none⟩ = some (.int .i32 imm)) := Lib.hid ⟨K0.out.cell 0, I0.out.cell 0, I0.out.cell 1, I0.out.cell 2, I0.out.cell 3, I0.out.cell 4⟩
  go_enter Tryz.func32, Tryz.ntmps32
  go_wp2_with fail
  (try rw [KW.out])
  go_region_held3 (fun w' => w'.cell? ⟨B, 0, none⟩ = some (.int .u32 (pc : Int)) ∧ w'.cell? ⟨w.heap.size, 0, none⟩ = some (.int .u8 21) ∧ w'.cell? ⟨w.heap.size, 1, none⟩ = some (.int .u8 (rd : Int)) ∧ w'.cell? ⟨w.heap.size, 2, none⟩ = some (.int .u8 (ra : Int)) ∧ w'.cell? ⟨w.heap.size, 3, none⟩ = some (.int .u8 (rb : Int)) ∧ w'.cell? ⟨w.heap.size, 4, none⟩ = some (.int .i32 imm)) (first | exact TX.out | (apply keep6 hb1; assumption) | go_keep) ((first | (go_at_call 80; (with_reducible refine (TG.out _).mono ?_); rintro e w1 ⟨rfl, hb1⟩)))
  have hb1 : Below W.heap.size W w1 := (below_drewN (Below.refl _ _) 1).trans hb1
  have K1 : Hid (RunB w1 B pc R s why ep home (.pointer (some ⟨M, 0, none⟩)) epoch ow nS nT nA nW) := Lib.hid (Blk.kept K0.out hb1)
  have M1 := Lib.hid (M0.out.kept hb1)
  have I1 := Lib.hid (I0.out.kept hb1)
  have U1 := Lib.hid (UW.out.then_ hb1)
  clear hb1 TX K0 I0 UW KW TG M0
  have i0 : w1.cell? ⟨w.heap.size, 0, none⟩ = some (.int .u8 21) := I1.out.cell 0
  have TX : Hid ((w1.drew.cell? ⟨B, 13, none⟩ = some (.pointer (some ⟨M, 0, none⟩))) ∧ w1.drew.cell? ⟨w.heap.size, 4, none⟩ = some (.int .i32 imm)) := Lib.hid ⟨K1.out.cell 13, I1.out.cell 4⟩
  have t13 : w1.cell? ⟨B, 13, none⟩ = some (.pointer (some ⟨M, 0, none⟩)) := K1.out.cell 13
  go_wp2_with fail
  go_region_held3 (fun w' => w'.cell? ⟨B, 13, none⟩ = some (.pointer (some ⟨M, 0, none⟩)) ∧ w'.cell? ⟨w.heap.size, 4, none⟩ = some (.int .i32 imm)) (first | exact TX.out | go_keep) ((first
    | (go_at_call 82; (with_reducible refine (GC.out _ ?_).mono ?_); (first | exact M1.out.drewN 1); rintro e w2 ⟨rfl, rfl⟩)))
  have K2 : Hid (RunB (w1.drewN 1) B pc R s why ep home (.pointer (some ⟨M, 0, none⟩)) epoch ow nS nT nA nW) := Lib.hid (Blk.drewN K1.out 1)
  have U2 : Hid (Upd B w (w1.drewN 1)) := Lib.hid (U1.out.drewN 1)
  have I2 := Lib.hid (I1.out.drewN 1)
  generalize hW1 : w1.drewN 1 = W1 at K2 U2 I2
  have hW1' : w1.drew = W1 := hW1
  (try rw [hW1'])
  clear hW1 hW1' t13 TX
  have t0 : W1.cell? ⟨B, 0, none⟩ = some (.int .u32 (pc : Int)) := K2.out.cell 0
  have ft0 : W1.frozen? ⟨B, 0, none⟩ = false := K2.out.frozen 0
  have j4 : W1.cell? ⟨w.heap.size, 4, none⟩ = some (.int .i32 imm) := I2.out.cell 4
  have F : Hid (RunP w B y R s why ep home (.pointer (some ⟨M, 0, none⟩)) epoch ow nS nT nA nW (.returned (.tuple #[])) (W1.setCell ⟨B, 0, none⟩ (.int .u32 (y : Int)))) := Lib.hid ⟨rfl, by
    have k := Blk.set_ K2.out 0 (.int .u32 (y : Int))
    unfold RunB
    simpa using k, U2.out.setCell 0 _⟩
  clear K1 I1 U1 K2 U2 I2 GC M1 i0
  go_wp2_with fail
  refine bodyPost_ret (v := .tuple #[]) (by simp [results, Tryz.results32, go_sem, *]) rfl ?_
  exact F.out
set_option maxRecDepth 100000 in
set_option maxHeartbeats 8000000 in
theorem jump_21_empty (w : World) (B pc : Nat) (R : Nat → Nat) (s : Value) (why ep home : Nat) (M g h c d cd : Nat) (G : Nat → Nat) (T : List Page) (L : List Nat) (epoch ow : Nat) (nS nT : Bool) (nA nW : Nat) (K : RunB w B pc R s why ep home (.pointer (some ⟨M, 0, none⟩)) epoch ow nS nT nA nW) (m : Mem w M g h c d cd G T L) (rd ra rb : Nat) (imm : Int) (hd : rd < 8) (ha : ra < 8) (tg : Nat) (tb : Bool) (TG : ∀ W, Calls Tryz.prog 80 #[.int .u32 (pc : Int), .agg #[.int .u8 21, .int .u8 (rd : Int), .int .u8 (ra : Int), .int .u8 (rb : Int), .int .i32 imm]] W fun e w' => e = .returned (.tuple #[.int .u32 (tg : Int), .bool tb]) ∧ Below W.heap.size W w') (gq r8 : Nat) (hgq : Int.tdiv imm 8 = (gq : Int)) (hr8 : Int.tmod imm 8 = (r8 : Int)) (h0 : 0 ≤ imm) (h63 : imm ≤ 63) (hq8 : gq < 8) (hr : r8 < 8) (hz : G gq = 0) (src : Option Addr) (cap : Nat) (hs : s = .slice src 0 cap) :
    Calls Tryz.prog 32 #[.pointer (some ⟨B, 0, none⟩), .agg #[.int .u8 21, .int .u8 (rd : Int), .int .u8 (ra : Int), .int .u8 (rb : Int), .int .i32 imm]] w fun e w' => RunP w B home R s why epoch home (.pointer (some ⟨M, 0, none⟩)) epoch ow true nT nA nW e w' := by
  unfold RunB at K
  have hwi := wrap_inc pc
  replace TG := Lib.hid TG
  have hw1 : IntKind.i64.wrap imm = imm := by unfold IntKind.wrap; simp [IntKind.bits, IntKind.signed]; omega
  have hw2 : IntKind.i64.wrap (gq : Int) = (gq : Int) := by unfold IntKind.wrap; simp [IntKind.bits, IntKind.signed]; omega
  have hw3 : IntKind.i32.wrap (r8 : Int) = (r8 : Int) := by unfold IntKind.wrap; simp [IntKind.bits, IntKind.signed]; omega
  have hw4 : IntKind.u32.wrap (r8 : Int) = (r8 : Int) := by rw [IntKind.wrap_u32]; omega
  have GC : ∀ W, Mem W M g h c d cd G T L → Calls Tryz.prog 82 #[.pointer (some ⟨M, 0, none⟩), .int .i64 (gq : Int)] W fun e w' => e = .returned (.int .u32 (G gq : Int)) ∧ w' = W := fun W q => by
    have := gate_c q (gq : Int)
    rw [if_pos ⟨by omega, by omega⟩, Int.toNat_natCast] at this
    exact this
  have hsum : ((G gq : Int) + (r8 : Int)) % 4294967296 = (((G gq + r8) % 4294967296 : Nat) : Int) := by omega
  have hsw : IntKind.u32.wrap ((G gq : Int) + (r8 : Int)) = (((G gq + r8) % 4294967296 : Nat) : Int) := by rw [IntKind.wrap_u32]; exact hsum
  rw [hz] at GC
  clear hsum hsw
  have PC := Lib.hid (fun W (k : RunB W B pc R s why ep home (.pointer (some ⟨M, 0, none⟩)) epoch ow nS nT nA nW) => pass_empty W B pc R s why ep home (.pointer (some ⟨M, 0, none⟩)) epoch ow nS nT nA nW src cap hs k 2)
  replace GC := Lib.hid GC
  have K0 : Hid (RunB (w.alloc (.cells #[.int .u8 21, .int .u8 (rd : Int), .int .u8 (ra : Int), .int .u8 (rb : Int), .int .i32 imm] 78)) B pc R s why ep home (.pointer (some ⟨M, 0, none⟩)) epoch ow nS nT nA nW) := Lib.hid (Blk.alloc K _)
  have M0 : Hid (Mem (w.alloc (.cells #[.int .u8 21, .int .u8 (rd : Int), .int .u8 (ra : Int), .int .u8 (rb : Int), .int .i32 imm] 78)) M g h c d cd G T L) := Lib.hid (m.alloc _)
  have I0 := Lib.hid (Blk.new w 78 #[.int .u8 21, .int .u8 (rd : Int), .int .u8 (ra : Int), .int .u8 (rb : Int), .int .i32 imm])
  have hB : B < w.heap.size := K.lt
  generalize hW : w.alloc (.cells #[.int .u8 21, .int .u8 (rd : Int), .int .u8 (ra : Int), .int .u8 (rb : Int), .int .i32 imm] 78) = W at K0 I0 M0
  have UW : Hid (Upd B w W) := Lib.hid (hW ▸ (Upd.refl B w).alloc _)
  have KW := Lib.hid hW
  clear hW K m
  have TX : Hid ((W.drew.cell? ⟨B, 0, none⟩ = some (.int .u32 (pc : Int))) ∧ W.drew.cell? ⟨w.heap.size, 0, none⟩ = some (.int .u8 21) ∧ W.drew.cell? ⟨w.heap.size, 1, none⟩ = some (.int .u8 (rd : Int)) ∧ W.drew.cell? ⟨w.heap.size, 2, none⟩ = some (.int .u8 (ra : Int)) ∧ W.drew.cell? ⟨w.heap.size, 3, none⟩ = some (.int .u8 (rb : Int)) ∧ W.drew.cell? ⟨w.heap.size, 4, none⟩ = some (.int .i32 imm)) := Lib.hid ⟨K0.out.cell 0, I0.out.cell 0, I0.out.cell 1, I0.out.cell 2, I0.out.cell 3, I0.out.cell 4⟩
  go_enter Tryz.func32, Tryz.ntmps32
  go_wp2_with fail
  (try rw [KW.out])
  go_region_held3 (fun w' => w'.cell? ⟨B, 0, none⟩ = some (.int .u32 (pc : Int)) ∧ w'.cell? ⟨w.heap.size, 0, none⟩ = some (.int .u8 21) ∧ w'.cell? ⟨w.heap.size, 1, none⟩ = some (.int .u8 (rd : Int)) ∧ w'.cell? ⟨w.heap.size, 2, none⟩ = some (.int .u8 (ra : Int)) ∧ w'.cell? ⟨w.heap.size, 3, none⟩ = some (.int .u8 (rb : Int)) ∧ w'.cell? ⟨w.heap.size, 4, none⟩ = some (.int .i32 imm)) (first | exact TX.out | (apply keep6 hb1; assumption) | go_keep) ((first | (go_at_call 80; (with_reducible refine (TG.out _).mono ?_); rintro e w1 ⟨rfl, hb1⟩)))
  have hb1 : Below W.heap.size W w1 := (below_drewN (Below.refl _ _) 1).trans hb1
  have K1 : Hid (RunB w1 B pc R s why ep home (.pointer (some ⟨M, 0, none⟩)) epoch ow nS nT nA nW) := Lib.hid (Blk.kept K0.out hb1)
  have M1 := Lib.hid (M0.out.kept hb1)
  have I1 := Lib.hid (I0.out.kept hb1)
  have U1 := Lib.hid (UW.out.then_ hb1)
  clear hb1 TX K0 I0 UW KW TG M0
  have i0 : w1.cell? ⟨w.heap.size, 0, none⟩ = some (.int .u8 21) := I1.out.cell 0
  have TX : Hid ((w1.drew.cell? ⟨B, 13, none⟩ = some (.pointer (some ⟨M, 0, none⟩))) ∧ w1.drew.cell? ⟨w.heap.size, 4, none⟩ = some (.int .i32 imm)) := Lib.hid ⟨K1.out.cell 13, I1.out.cell 4⟩
  have t13 : w1.cell? ⟨B, 13, none⟩ = some (.pointer (some ⟨M, 0, none⟩)) := K1.out.cell 13
  go_wp2_with fail
  go_region_held3 (fun w' => w'.cell? ⟨B, 13, none⟩ = some (.pointer (some ⟨M, 0, none⟩)) ∧ w'.cell? ⟨w.heap.size, 4, none⟩ = some (.int .i32 imm)) (first | exact TX.out | go_keep) ((first
    | (go_at_call 82; (with_reducible refine (GC.out _ ?_).mono ?_); (first | exact M1.out.drewN 1); rintro e w2 ⟨rfl, rfl⟩)))
  have K2 : Hid (RunB (w1.drewN 1) B pc R s why ep home (.pointer (some ⟨M, 0, none⟩)) epoch ow nS nT nA nW) := Lib.hid (Blk.drewN K1.out 1)
  have U2 : Hid (Upd B w (w1.drewN 1)) := Lib.hid (U1.out.drewN 1)
  have I2 := Lib.hid (I1.out.drewN 1)
  generalize hW1 : w1.drewN 1 = W1 at K2 U2 I2
  have hW1' : w1.drew = W1 := hW1
  (try rw [hW1'])
  clear hW1 hW1' t13 TX
  go_wp2_with fail
  refine (PC.out _ K2.out).mono ?_
  rintro e w2 ⟨rfl, k2, u2⟩
  have F : Hid (RunP w B home R s why epoch home (.pointer (some ⟨M, 0, none⟩)) epoch ow true nT nA nW (.returned (.tuple #[])) w2) := Lib.hid ⟨rfl, k2, U2.out.trans u2⟩
  clear K1 I1 U1 K2 U2 I2 PC GC M1 k2 u2 i0
  go_wp2_with fail
  refine bodyPost_ret (v := .tuple #[]) (by simp [results, Tryz.results32, go_sem, *]) rfl ?_
  exact F.out
set_option maxRecDepth 100000 in
set_option maxHeartbeats 8000000 in
theorem jump_21_full (w : World) (B pc : Nat) (R : Nat → Nat) (s : Value) (why ep home : Nat) (M g h c d cd : Nat) (G : Nat → Nat) (T : List Page) (L : List Nat) (epoch ow : Nat) (nS nT : Bool) (nA nW : Nat) (K : RunB w B pc R s why ep home (.pointer (some ⟨M, 0, none⟩)) epoch ow nS nT nA nW) (m : Mem w M g h c d cd G T L) (rd ra rb : Nat) (imm : Int) (hd : rd < 8) (ha : ra < 8) (tg : Nat) (tb : Bool) (TG : ∀ W, Calls Tryz.prog 80 #[.int .u32 (pc : Int), .agg #[.int .u8 21, .int .u8 (rd : Int), .int .u8 (ra : Int), .int .u8 (rb : Int), .int .i32 imm]] W fun e w' => e = .returned (.tuple #[.int .u32 (tg : Int), .bool tb]) ∧ Below W.heap.size W w') (gq r8 : Nat) (hgq : Int.tdiv imm 8 = (gq : Int)) (hr8 : Int.tmod imm 8 = (r8 : Int)) (h0 : 0 ≤ imm) (h63 : imm ≤ 63) (hq8 : gq < 8) (hr : r8 < 8) (hz : G gq = 0) (src : Option Addr) (n cap : Nat) (hs : s = .slice src n cap) (hn : 0 < n) :
    Calls Tryz.prog 32 #[.pointer (some ⟨B, 0, none⟩), .agg #[.int .u8 21, .int .u8 (rd : Int), .int .u8 (ra : Int), .int .u8 (rb : Int), .int .i32 imm]] w fun e w' => RunP w B pc R s 2 ep home (.pointer (some ⟨M, 0, none⟩)) epoch ow nS nT nA nW e w' := by
  unfold RunB at K
  have hwi := wrap_inc pc
  replace TG := Lib.hid TG
  have hw1 : IntKind.i64.wrap imm = imm := by unfold IntKind.wrap; simp [IntKind.bits, IntKind.signed]; omega
  have hw2 : IntKind.i64.wrap (gq : Int) = (gq : Int) := by unfold IntKind.wrap; simp [IntKind.bits, IntKind.signed]; omega
  have hw3 : IntKind.i32.wrap (r8 : Int) = (r8 : Int) := by unfold IntKind.wrap; simp [IntKind.bits, IntKind.signed]; omega
  have hw4 : IntKind.u32.wrap (r8 : Int) = (r8 : Int) := by rw [IntKind.wrap_u32]; omega
  have GC : ∀ W, Mem W M g h c d cd G T L → Calls Tryz.prog 82 #[.pointer (some ⟨M, 0, none⟩), .int .i64 (gq : Int)] W fun e w' => e = .returned (.int .u32 (G gq : Int)) ∧ w' = W := fun W q => by
    have := gate_c q (gq : Int)
    rw [if_pos ⟨by omega, by omega⟩, Int.toNat_natCast] at this
    exact this
  have hsum : ((G gq : Int) + (r8 : Int)) % 4294967296 = (((G gq + r8) % 4294967296 : Nat) : Int) := by omega
  have hsw : IntKind.u32.wrap ((G gq : Int) + (r8 : Int)) = (((G gq + r8) % 4294967296 : Nat) : Int) := by rw [IntKind.wrap_u32]; exact hsum
  rw [hz] at GC
  clear hsum hsw
  have PC := Lib.hid (fun W (k : RunB W B pc R s why ep home (.pointer (some ⟨M, 0, none⟩)) epoch ow nS nT nA nW) => pass_full W B pc R s why ep home (.pointer (some ⟨M, 0, none⟩)) epoch ow nS nT nA nW src n cap hs k 2 hn)
  replace GC := Lib.hid GC
  have K0 : Hid (RunB (w.alloc (.cells #[.int .u8 21, .int .u8 (rd : Int), .int .u8 (ra : Int), .int .u8 (rb : Int), .int .i32 imm] 78)) B pc R s why ep home (.pointer (some ⟨M, 0, none⟩)) epoch ow nS nT nA nW) := Lib.hid (Blk.alloc K _)
  have M0 : Hid (Mem (w.alloc (.cells #[.int .u8 21, .int .u8 (rd : Int), .int .u8 (ra : Int), .int .u8 (rb : Int), .int .i32 imm] 78)) M g h c d cd G T L) := Lib.hid (m.alloc _)
  have I0 := Lib.hid (Blk.new w 78 #[.int .u8 21, .int .u8 (rd : Int), .int .u8 (ra : Int), .int .u8 (rb : Int), .int .i32 imm])
  have hB : B < w.heap.size := K.lt
  generalize hW : w.alloc (.cells #[.int .u8 21, .int .u8 (rd : Int), .int .u8 (ra : Int), .int .u8 (rb : Int), .int .i32 imm] 78) = W at K0 I0 M0
  have UW : Hid (Upd B w W) := Lib.hid (hW ▸ (Upd.refl B w).alloc _)
  have KW := Lib.hid hW
  clear hW K m
  have TX : Hid ((W.drew.cell? ⟨B, 0, none⟩ = some (.int .u32 (pc : Int))) ∧ W.drew.cell? ⟨w.heap.size, 0, none⟩ = some (.int .u8 21) ∧ W.drew.cell? ⟨w.heap.size, 1, none⟩ = some (.int .u8 (rd : Int)) ∧ W.drew.cell? ⟨w.heap.size, 2, none⟩ = some (.int .u8 (ra : Int)) ∧ W.drew.cell? ⟨w.heap.size, 3, none⟩ = some (.int .u8 (rb : Int)) ∧ W.drew.cell? ⟨w.heap.size, 4, none⟩ = some (.int .i32 imm)) := Lib.hid ⟨K0.out.cell 0, I0.out.cell 0, I0.out.cell 1, I0.out.cell 2, I0.out.cell 3, I0.out.cell 4⟩
  go_enter Tryz.func32, Tryz.ntmps32
  go_wp2_with fail
  (try rw [KW.out])
  go_region_held3 (fun w' => w'.cell? ⟨B, 0, none⟩ = some (.int .u32 (pc : Int)) ∧ w'.cell? ⟨w.heap.size, 0, none⟩ = some (.int .u8 21) ∧ w'.cell? ⟨w.heap.size, 1, none⟩ = some (.int .u8 (rd : Int)) ∧ w'.cell? ⟨w.heap.size, 2, none⟩ = some (.int .u8 (ra : Int)) ∧ w'.cell? ⟨w.heap.size, 3, none⟩ = some (.int .u8 (rb : Int)) ∧ w'.cell? ⟨w.heap.size, 4, none⟩ = some (.int .i32 imm)) (first | exact TX.out | (apply keep6 hb1; assumption) | go_keep) ((first | (go_at_call 80; (with_reducible refine (TG.out _).mono ?_); rintro e w1 ⟨rfl, hb1⟩)))
  have hb1 : Below W.heap.size W w1 := (below_drewN (Below.refl _ _) 1).trans hb1
  have K1 : Hid (RunB w1 B pc R s why ep home (.pointer (some ⟨M, 0, none⟩)) epoch ow nS nT nA nW) := Lib.hid (Blk.kept K0.out hb1)
  have M1 := Lib.hid (M0.out.kept hb1)
  have I1 := Lib.hid (I0.out.kept hb1)
  have U1 := Lib.hid (UW.out.then_ hb1)
  clear hb1 TX K0 I0 UW KW TG M0
  have i0 : w1.cell? ⟨w.heap.size, 0, none⟩ = some (.int .u8 21) := I1.out.cell 0
  have TX : Hid ((w1.drew.cell? ⟨B, 13, none⟩ = some (.pointer (some ⟨M, 0, none⟩))) ∧ w1.drew.cell? ⟨w.heap.size, 4, none⟩ = some (.int .i32 imm)) := Lib.hid ⟨K1.out.cell 13, I1.out.cell 4⟩
  have t13 : w1.cell? ⟨B, 13, none⟩ = some (.pointer (some ⟨M, 0, none⟩)) := K1.out.cell 13
  go_wp2_with fail
  go_region_held3 (fun w' => w'.cell? ⟨B, 13, none⟩ = some (.pointer (some ⟨M, 0, none⟩)) ∧ w'.cell? ⟨w.heap.size, 4, none⟩ = some (.int .i32 imm)) (first | exact TX.out | go_keep) ((first
    | (go_at_call 82; (with_reducible refine (GC.out _ ?_).mono ?_); (first | exact M1.out.drewN 1); rintro e w2 ⟨rfl, rfl⟩)))
  have K2 : Hid (RunB (w1.drewN 1) B pc R s why ep home (.pointer (some ⟨M, 0, none⟩)) epoch ow nS nT nA nW) := Lib.hid (Blk.drewN K1.out 1)
  have U2 : Hid (Upd B w (w1.drewN 1)) := Lib.hid (U1.out.drewN 1)
  have I2 := Lib.hid (I1.out.drewN 1)
  generalize hW1 : w1.drewN 1 = W1 at K2 U2 I2
  have hW1' : w1.drew = W1 := hW1
  (try rw [hW1'])
  clear hW1 hW1' t13 TX
  go_wp2_with fail
  refine (PC.out _ K2.out).mono ?_
  rintro e w2 ⟨rfl, k2, u2⟩
  have F : Hid (RunP w B pc R s 2 ep home (.pointer (some ⟨M, 0, none⟩)) epoch ow nS nT nA nW (.returned (.tuple #[])) w2) := Lib.hid ⟨rfl, k2, U2.out.trans u2⟩
  clear K1 I1 U1 K2 U2 I2 PC GC M1 k2 u2 i0
  go_wp2_with fail
  refine bodyPost_ret (v := .tuple #[]) (by simp [results, Tryz.results32, go_sem, *]) rfl ?_
  exact F.out
end Go.Proofs.YthnbdeibjbicpaaGreat.PM
