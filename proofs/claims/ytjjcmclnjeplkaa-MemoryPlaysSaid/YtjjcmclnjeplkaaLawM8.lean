/- What stands in the midst of the calls; law08's same. Conditions: the memories' cells. -/
import Derived.Test.YtjjcmclnjeplkaaLawM6
namespace Go.Proofs.Ytjjcmclnjeplkaa.PM
set_option linter.unusedVariables false
set_option linter.unusedSimpArgs false
open Go.RowKit
theorem ok_step8 (G : Nat → Nat) (T : List Page) (L : List Nat) (a : Act8) (ok : OkT T) : OkT (step8 G T L a).2.1 := by
  unfold step8
  split
  · exact ok
  split
  · exact ok
  split
  · exact ok
  · exact ok_step T _ ok
/-- Ten cells, all stored anew. -/
theorem Blk.ten_set {w : World} {g : Nat} {t : TypeId} {a0 a1 a2 a3 a4 a5 a6 a7 a8 a9 : Value} (h : Blk w g t #[a0, a1, a2, a3, a4, a5, a6, a7, a8, a9]) (v0 v1 v2 v3 v4 v5 v6 v7 v8 v9 : Value) :
    Blk (w.setCells g 0 [v0, v1, v2, v3, v4, v5, v6, v7, v8, v9]) g t #[v0, v1, v2, v3, v4, v5, v6, v7, v8, v9] := by
  have := (((((((((h.set_ 0 v0).set_ 1 v1).set_ 2 v2).set_ 3 v3).set_ 4 v4).set_ 5 v5).set_ 6 v6).set_ 7 v7).set_ 8 v8).set_ 9 v9
  simpa [World.setCells] using this
/-- What stands in the midst of the calls: both memories hold the same; the reference's lies in a box. -/
structure Mid8 (w : World) (M g h c d cd B : Nat) (G : Nat → Nat) (T : List Page) (L : List Nat) (b cb e ce : Nat) : Prop where
  mem : Mem w M g h c d cd G T L
  rm : RM w b e T L
  sep : Sep8 M h d b e
  BM : B ≠ M
  Bg : B ≠ g
  Bh : B ≠ h
  Bd : B ≠ d
  Bb : B ≠ b
  Be : B ≠ e
  ok : OkT T
  box : Blk w B 64 #[.int .u32 (G 0 : Int), .int .u32 (G 1 : Int), .int .u32 (G 2 : Int), .int .u32 (G 3 : Int), .int .u32 (G 4 : Int), .int .u32 (G 5 : Int), .int .u32 (G 6 : Int), .int .u32 (G 7 : Int), .slice (some ⟨b, 0, none⟩) T.length cb, .slice (some ⟨e, 0, none⟩) L.length ce]
section
variable {w w' : World} {M g h c d cd B : Nat} {G : Nat → Nat} {T : List Page} {L : List Nat} {b cb e ce : Nat}
theorem Mid8.kept (m : Mid8 w M g h c d cd B G T L b cb e ce) (hb : Below w.heap.size w w') : Mid8 w' M g h c d cd B G T L b cb e ce :=
  ⟨m.mem.kept hb, m.rm.kept hb, m.sep, m.BM, m.Bg, m.Bh, m.Bd, m.Bb, m.Be, m.ok, m.box.kept hb⟩
theorem Mid8.drewN (m : Mid8 w M g h c d cd B G T L b cb e ce) (n : Nat) : Mid8 (w.drewN n) M g h c d cd B G T L b cb e ce := m.kept (below_drewN (Below.refl _ _) n)
/-- Behind a call, with the new value stored into the box. -/
theorem Mid8.next (m : Mid8 w M g h c d cd B G T L b cb e ce) {G' : Nat → Nat} {T' : List Page} {L' : List Nat} {b' cb' e' ce' : Nat} (m' : Mem w' M g h c d cd G' T' L') (r' : RM w' b' e' T' L') (hb : b' = b ∨ w.heap.size ≤ b') (he : e' = e ∨ w.heap.size ≤ e') (u : Upd3 M h d w w') (ok : OkT T') :
    Mid8 (w'.setCells B 0 [.int .u32 (G' 0 : Int), .int .u32 (G' 1 : Int), .int .u32 (G' 2 : Int), .int .u32 (G' 3 : Int), .int .u32 (G' 4 : Int), .int .u32 (G' 5 : Int), .int .u32 (G' 6 : Int), .int .u32 (G' 7 : Int), .slice (some ⟨b', 0, none⟩) T'.length cb', .slice (some ⟨e', 0, none⟩) L'.length ce']) M g h c d cd B G' T' L' b' cb' e' ce' := by
  have hB := m.box.lt
  have hM := m.mem.ten.lt
  have hh := m.mem.tab.pgs.lt
  have hd := m.mem.wds.lt
  have q1 := m.Bb
  have q2 := m.Be
  have q3 := m.sep.bM
  have q4 := m.sep.bh
  have q5 := m.sep.bd
  have q6 := m.sep.eM
  have q7 := m.sep.eh
  have q8 := m.sep.ed
  have hbB : B ≠ b' := by omega
  have heB : B ≠ e' := by omega
  have us := fun vs => upd_setCells B vs 0 w'
  exact ⟨m'.upd (us _) m.BM.symm m.Bg.symm m.Bh.symm m.Bd.symm, r'.upd (us _) hbB.symm heB.symm, ⟨by omega, by omega, by omega, by omega, by omega, by omega⟩, m.BM, m.Bg, m.Bh, m.Bd, hbB, heB, ok, Blk.ten_set (u.blk m.box m.BM m.Bh m.Bd) _ _ _ _ _ _ _ _ _ _⟩
end
set_option maxRecDepth 100000 in
set_option maxHeartbeats 8000000 in
theorem same8_c (w : World) (M g h c d cd b cb e ce : Nat) (G : Nat → Nat) (T : List Page) (L : List Nat) (m : Mem w M g h c d cd G T L) (r : RM w b e T L) :
    Calls Try.prog 52 #[.pointer (some ⟨M, 0, none⟩), rm G b cb T e ce L] w fun en w' => en = .returned (.bool true) ∧ Below w.heap.size w w' := by
  have few := r.few
  have h4 : L.length ≤ 4096 := by have := r.len; omega
  have SC := Lib.hid (fun W (q : Mem W M g h c d cd G T L) => size_c q)
  have PG := Lib.hid (fun W (q : Mem W M g h c d cd G T L) => pages_c q)
  have LN := Lib.hid (fun W (q : Tab W g h c T) => len_c W g h c T q)
  have RS := fun W => rsize_c W G b cb e ce T L h4
  have RP := fun W (q : RM W b e T L) (x : Nat) (hx : x < 4294967296) => rpeek_c W G b cb e ce T L q x hx
  have PC := Lib.hid (fun W (q : Mem W M g h c d cd G T L) (x : Nat) (hx : x < 4294967296) => peek_c q x hx)
  unfold rm at RS RP ⊢
  replace RS := Lib.hid RS
  replace RP := Lib.hid RP
  generalize hW : w.alloc (.cells #[.int .u32 (G 0 : Int), .int .u32 (G 1 : Int), .int .u32 (G 2 : Int), .int .u32 (G 3 : Int), .int .u32 (G 4 : Int), .int .u32 (G 5 : Int), .int .u32 (G 6 : Int), .int .u32 (G 7 : Int), .slice (some ⟨b, 0, none⟩) T.length cb, .slice (some ⟨e, 0, none⟩) L.length ce] 64) = W2
  have KT : Hid (Blk W2 w.heap.size 64 #[.int .u32 (G 0 : Int), .int .u32 (G 1 : Int), .int .u32 (G 2 : Int), .int .u32 (G 3 : Int), .int .u32 (G 4 : Int), .int .u32 (G 5 : Int), .int .u32 (G 6 : Int), .int .u32 (G 7 : Int), .slice (some ⟨b, 0, none⟩) T.length cb, .slice (some ⟨e, 0, none⟩) L.length ce]) := Lib.hid (hW ▸ Blk.new w 64 #[.int .u32 (G 0 : Int), .int .u32 (G 1 : Int), .int .u32 (G 2 : Int), .int .u32 (G 3 : Int), .int .u32 (G 4 : Int), .int .u32 (G 5 : Int), .int .u32 (G 6 : Int), .int .u32 (G 7 : Int), .slice (some ⟨b, 0, none⟩) T.length cb, .slice (some ⟨e, 0, none⟩) L.length ce])
  have M2 : Hid (Mem W2 M g h c d cd G T L) := Lib.hid (hW ▸ m.alloc _)
  have R2 : Hid (RM W2 b e T L) := Lib.hid (hW ▸ r.alloc _)
  have B2 : Hid (Below w.heap.size w W2) := Lib.hid (hW ▸ (Below.refl _ w).alloc (Nat.le_refl _) _)
  have TX := Lib.hid (ten10 (KT.out.drewN 1))
  clear m r
  have KW := Lib.hid hW
  clear hW
  go_enter Try.func52, Try.ntmps52
  go_wp2_with fail
  (try rw [KW.out])
  go_region_held3 (fun w' => w'.cell? ⟨w.heap.size, 0, none⟩ = some (.int .u32 (G 0 : Int)) ∧ w'.cell? ⟨w.heap.size, 1, none⟩ = some (.int .u32 (G 1 : Int)) ∧ w'.cell? ⟨w.heap.size, 2, none⟩ = some (.int .u32 (G 2 : Int)) ∧ w'.cell? ⟨w.heap.size, 3, none⟩ = some (.int .u32 (G 3 : Int)) ∧ w'.cell? ⟨w.heap.size, 4, none⟩ = some (.int .u32 (G 4 : Int)) ∧ w'.cell? ⟨w.heap.size, 5, none⟩ = some (.int .u32 (G 5 : Int)) ∧ w'.cell? ⟨w.heap.size, 6, none⟩ = some (.int .u32 (G 6 : Int)) ∧ w'.cell? ⟨w.heap.size, 7, none⟩ = some (.int .u32 (G 7 : Int)) ∧ w'.cell? ⟨w.heap.size, 8, none⟩ = some (.slice (some ⟨b, 0, none⟩) T.length cb) ∧ w'.cell? ⟨w.heap.size, 9, none⟩ = some (.slice (some ⟨e, 0, none⟩) L.length ce)) (first | (exact TX.out) | (apply keep10 hb4; assumption) | go_keep) ((first
    | (go_at_call 38; (with_reducible refine (SC.out _ ?_).mono ?_); (first | exact M2.out.drewN 1); rintro en w3 ⟨rfl, rfl⟩)
    | (go_at_call 39; (with_reducible refine (RS.out _).mono ?_); rintro en w4 ⟨rfl, hb4⟩; have K4 := Lib.hid ((KT.out.drewN 1).kept hb4); have M4 := Lib.hid ((M2.out.drewN 1).kept hb4); have R4 := Lib.hid ((R2.out.drewN 1).kept hb4); have B4 := Lib.hid ((below_drewN B2.out 1).trans (hb4.mono (below_drewN B2.out 1).size)))
    | (go_at_call 40; (with_reducible refine (PG.out _ ?_).mono ?_); (first | exact M4.out); rintro en w5 ⟨rfl, rfl⟩)
    | (go_at_call 26; (with_reducible refine (LN.out _ ?_).mono ?_); (first | exact M4.out.tab); rintro en w5 ⟨rfl, rfl⟩)))
  clear hb4 M2 R2 B2 KT TX KW
  go_wp2_with fail
  go_loopg [5] (80 + L.length) (fun gg s5 wr => ∃ kk : Nat, kk ≤ 80 + L.length ∧ 80 + L.length - kk ≤ gg ∧ s5 = .int .i64 (kk : Int) ∧ Hid (Below w5.heap.size w5 wr))
  case atStart => exact ⟨0, Nat.zero_le _, by omega, rfl, Lib.hid (Below.refl _ _)⟩
  case round =>
    obtain ⟨kk, hkk, hg, rfl, BW⟩ := hrel
    have MK := Lib.hid (M4.out.kept BW.out)
    have RK := Lib.hid (R4.out.kept BW.out)
    have KK := Lib.hid (K4.out.kept BW.out)
    have BK := Lib.hid (B4.out.trans (BW.out.mono B4.out.size))
    have TC := KK.out
    have t0 : wr.cell? ⟨w.heap.size, 0, none⟩ = some (.int .u32 (G 0 : Int)) := TC.cell 0
    have t1 : wr.cell? ⟨w.heap.size, 1, none⟩ = some (.int .u32 (G 1 : Int)) := TC.cell 1
    have t2 : wr.cell? ⟨w.heap.size, 2, none⟩ = some (.int .u32 (G 2 : Int)) := TC.cell 2
    have t3 : wr.cell? ⟨w.heap.size, 3, none⟩ = some (.int .u32 (G 3 : Int)) := TC.cell 3
    have t4 : wr.cell? ⟨w.heap.size, 4, none⟩ = some (.int .u32 (G 4 : Int)) := TC.cell 4
    have t5 : wr.cell? ⟨w.heap.size, 5, none⟩ = some (.int .u32 (G 5 : Int)) := TC.cell 5
    have t6 : wr.cell? ⟨w.heap.size, 6, none⟩ = some (.int .u32 (G 6 : Int)) := TC.cell 6
    have t7 : wr.cell? ⟨w.heap.size, 7, none⟩ = some (.int .u32 (G 7 : Int)) := TC.cell 7
    have t8 : wr.cell? ⟨w.heap.size, 8, none⟩ = some (.slice (some ⟨b, 0, none⟩) T.length cb) := TC.cell 8
    have t9 : wr.cell? ⟨w.heap.size, 9, none⟩ = some (.slice (some ⟨e, 0, none⟩) L.length ce) := TC.cell 9
    have tl := TC.lt
    clear TC
    have hk32 : kk < 4294967296 := by omega
    have hwr : IntKind.u32.wrap (kk : Int) = (kk : Int) := by unfold IntKind.wrap; simp [IntKind.bits, IntKind.signed]; omega
    have PX := fun W q => PC.out W q kk hk32
    have RX := fun W q => RP.out W q kk hk32
    generalize peekM G L kk = pv at PX RX
    replace PX := Lib.hid PX
    replace RX := Lib.hid RX
    go_wp2_with fail
    refine (RS.out _).mono ?_
    rintro en x5 ⟨rfl, hb5⟩
    have M5 := Lib.hid (MK.out.kept hb5)
    have R5 := Lib.hid (RK.out.kept hb5)
    have K5 := Lib.hid (KK.out.kept hb5)
    have B5 := Lib.hid (BK.out.trans (hb5.mono BK.out.size))
    have BW5 := Lib.hid (BW.out.trans (hb5.mono BW.out.size))
    clear hb5
    clear t0 t1 t2 t3 t4 t5 t6 t7 t8 t9 tl
    have TC := K5.out
    have t0 : x5.cell? ⟨w.heap.size, 0, none⟩ = some (.int .u32 (G 0 : Int)) := TC.cell 0
    have t1 : x5.cell? ⟨w.heap.size, 1, none⟩ = some (.int .u32 (G 1 : Int)) := TC.cell 1
    have t2 : x5.cell? ⟨w.heap.size, 2, none⟩ = some (.int .u32 (G 2 : Int)) := TC.cell 2
    have t3 : x5.cell? ⟨w.heap.size, 3, none⟩ = some (.int .u32 (G 3 : Int)) := TC.cell 3
    have t4 : x5.cell? ⟨w.heap.size, 4, none⟩ = some (.int .u32 (G 4 : Int)) := TC.cell 4
    have t5 : x5.cell? ⟨w.heap.size, 5, none⟩ = some (.int .u32 (G 5 : Int)) := TC.cell 5
    have t6 : x5.cell? ⟨w.heap.size, 6, none⟩ = some (.int .u32 (G 6 : Int)) := TC.cell 6
    have t7 : x5.cell? ⟨w.heap.size, 7, none⟩ = some (.int .u32 (G 7 : Int)) := TC.cell 7
    have t8 : x5.cell? ⟨w.heap.size, 8, none⟩ = some (.slice (some ⟨b, 0, none⟩) T.length cb) := TC.cell 8
    have t9 : x5.cell? ⟨w.heap.size, 9, none⟩ = some (.slice (some ⟨e, 0, none⟩) L.length ce) := TC.cell 9
    have tl := TC.lt
    clear TC
    have TX := Lib.hid (ten10 (K5.out.drewN 1))
    by_cases hlt : kk < 80 + L.length
    · have hltz : (kk : Int) < 80 + (L.length : Int) := by omega
      go_wp2_with fail
      go_region_held3 (fun w' => w'.cell? ⟨w.heap.size, 0, none⟩ = some (.int .u32 (G 0 : Int)) ∧ w'.cell? ⟨w.heap.size, 1, none⟩ = some (.int .u32 (G 1 : Int)) ∧ w'.cell? ⟨w.heap.size, 2, none⟩ = some (.int .u32 (G 2 : Int)) ∧ w'.cell? ⟨w.heap.size, 3, none⟩ = some (.int .u32 (G 3 : Int)) ∧ w'.cell? ⟨w.heap.size, 4, none⟩ = some (.int .u32 (G 4 : Int)) ∧ w'.cell? ⟨w.heap.size, 5, none⟩ = some (.int .u32 (G 5 : Int)) ∧ w'.cell? ⟨w.heap.size, 6, none⟩ = some (.int .u32 (G 6 : Int)) ∧ w'.cell? ⟨w.heap.size, 7, none⟩ = some (.int .u32 (G 7 : Int)) ∧ w'.cell? ⟨w.heap.size, 8, none⟩ = some (.slice (some ⟨b, 0, none⟩) T.length cb) ∧ w'.cell? ⟨w.heap.size, 9, none⟩ = some (.slice (some ⟨e, 0, none⟩) L.length ce)) (first | (exact TX.out) | (apply keep10 hb6; assumption) | (apply keep10 hb7; assumption) | go_keep) ((first
        | (go_at_call 46; (with_reducible refine (PX.out _ ?_).mono ?_); (first | exact M5.out.drewN 1); rintro en w6 ⟨rfl, hb6⟩; have R6 := Lib.hid ((R5.out.drewN 1).kept hb6); have B6 := Lib.hid ((below_drewN BW5.out 1).trans (hb6.mono (below_drewN BW5.out 1).size)))
        | (go_at_call 75; (with_reducible refine (RX.out _ ?_).mono ?_); (first | exact R6.out); rintro en w7 ⟨rfl, hb7⟩; have B7 := Lib.hid (B6.out.trans (hb7.mono B6.out.size)))))
      clear hb6 hb7
      go_wp2_with fail
      go_roundg (80 + L.length - (kk + 1))
      case measure => omega
      case rel => exact ⟨kk + 1, by omega, by omega, by go_num, B7⟩
    · have hltz : ¬ (kk : Int) < 80 + (L.length : Int) := by omega
      go_wp2_with fail
      go_ret
      exact ⟨rfl, B5.out⟩
end Go.Proofs.Ytjjcmclnjeplkaa.PM
