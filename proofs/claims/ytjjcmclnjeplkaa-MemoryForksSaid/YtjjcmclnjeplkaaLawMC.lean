/- MemoryForks walked. Conditions: the calls' cells. -/
import Derived.Test.YtjjcmclnjeplkaaLawM8
import Derived.Test.YtjjcmclnjeplkaaOpenM
import Derived.Deep.RegionWith
import Derived.Deep.DeepCutAuto
import Derived.Test.YtjjcmclnjeplkaaMem4
namespace Go.Proofs.Ytjjcmclnjeplkaa.PM
set_option linter.unusedVariables false
set_option linter.unusedSimpArgs false
open Go.RowKit Go.Proofs.Ytjjcmclnjeplkaa.Frame
/-- Behind a fork: both memories hold the same, each with its own reference in a box. -/
structure ForkSt8 (W w : World) (M g h c d cd B : Nat) (G : Nat → Nat) (T : List Page) (L : List Nat) (b cb e ce : Nat) (M2 g2 h2 c2 d2 cd2 B2 : Nat) : Prop where
  old : Mid8 w M g h c d cd B G T L b cb e ce
  new_ : Mid8 w M2 g2 h2 c2 d2 cd2 B2 G T L b cb e ce
  below : Below W.heap.size W w
  fM : W.heap.size ≤ M2
  fg : W.heap.size ≤ g2
  fh : W.heap.size ≤ h2
  fd : W.heap.size ≤ d2
  fB : W.heap.size ≤ B2
section
variable {W w w' : World} {M g h c d cd B : Nat} {G : Nat → Nat} {T : List Page} {L : List Nat} {b cb e ce : Nat} {M2 g2 h2 c2 d2 cd2 B2 : Nat}
theorem forkA8 (m : Mid8 W M g h c d cd B G T L b cb e ce) (hb : Below W.heap.size W w) (n : Mem w M2 g2 h2 c2 d2 cd2 G T L) (h1 : W.heap.size ≤ M2) (hg : W.heap.size ≤ g2) (hh : W.heap.size ≤ h2) (hd : W.heap.size ≤ d2) :
    ForkSt8 W (w.alloc (.cells #[.int .u32 (G 0 : Int), .int .u32 (G 1 : Int), .int .u32 (G 2 : Int), .int .u32 (G 3 : Int), .int .u32 (G 4 : Int), .int .u32 (G 5 : Int), .int .u32 (G 6 : Int), .int .u32 (G 7 : Int), .slice (some ⟨b, 0, none⟩) T.length cb, .slice (some ⟨e, 0, none⟩) L.length ce] 64)) M g h c d cd B G T L b cb e ce M2 g2 h2 c2 d2 cd2 w.heap.size := by
  have hbl := m.rm.pgs.lt
  have hel := m.rm.wds.lt
  have s := hb.size
  have l1 := n.ten.lt
  have l2 := n.tab.lt
  have l3 := n.tab.pgs.lt
  have l4 := n.wds.lt
  exact ⟨(m.kept hb).kept ((Below.refl _ _).alloc (Nat.le_refl _) _), ⟨n.alloc _, (m.rm.kept hb).alloc _, ⟨by omega, by omega, by omega, by omega, by omega, by omega⟩, by omega, by omega, by omega, by omega, by omega, by omega, m.ok, Blk.new _ _ _⟩, hb.alloc s _, h1, hg, hh, hd, s⟩
theorem forkB8 (m : Mid8 W M g h c d cd B G T L b cb e ce) (hb : Below (W.heap.size + 1) (W.alloc (.cells #[.int .u32 0, .int .u32 0, .int .u32 0, .int .u32 0, .int .u32 0, .int .u32 0, .int .u32 0, .int .u32 0, .slice none 0 0, .slice none 0 0] 64)) w) (n : Mem w M2 g2 h2 c2 d2 cd2 G T L) (h1 : W.heap.size + 1 ≤ M2) (hg : W.heap.size + 1 ≤ g2) (hh : W.heap.size + 1 ≤ h2) (hd : W.heap.size + 1 ≤ d2) :
    ForkSt8 W (w.setCells W.heap.size 0 [.int .u32 (G 0 : Int), .int .u32 (G 1 : Int), .int .u32 (G 2 : Int), .int .u32 (G 3 : Int), .int .u32 (G 4 : Int), .int .u32 (G 5 : Int), .int .u32 (G 6 : Int), .int .u32 (G 7 : Int), .slice (some ⟨b, 0, none⟩) T.length cb, .slice (some ⟨e, 0, none⟩) L.length ce]) M g h c d cd B G T L b cb e ce M2 g2 h2 c2 d2 cd2 W.heap.size := by
  have hbl := m.rm.pgs.lt
  have hel := m.rm.wds.lt
  have q1 := m.mem.ten.lt
  have q2 := m.mem.tab.lt
  have q3 := m.mem.tab.pgs.lt
  have q4 := m.mem.wds.lt
  have q5 := m.box.lt
  have hb0 : Below W.heap.size W w := ((Below.refl _ W).alloc (Nat.le_refl _) _).trans (hb.mono (by omega))
  have K := m.kept hb0
  have us := fun vs => upd_setCells W.heap.size vs 0 w
  have kx := Blk.ten_set ((Blk.new W 64 #[.int .u32 0, .int .u32 0, .int .u32 0, .int .u32 0, .int .u32 0, .int .u32 0, .int .u32 0, .int .u32 0, .slice none 0 0, .slice none 0 0]).below hb (by omega)) (.int .u32 (G 0 : Int)) (.int .u32 (G 1 : Int)) (.int .u32 (G 2 : Int)) (.int .u32 (G 3 : Int)) (.int .u32 (G 4 : Int)) (.int .u32 (G 5 : Int)) (.int .u32 (G 6 : Int)) (.int .u32 (G 7 : Int)) (.slice (some ⟨b, 0, none⟩) T.length cb) (.slice (some ⟨e, 0, none⟩) L.length ce)
  refine ⟨⟨K.mem.upd (us _) (by omega) (by omega) (by omega) (by omega), K.rm.upd (us _) (by omega) (by omega), m.sep, m.BM, m.Bg, m.Bh, m.Bd, m.Bb, m.Be, m.ok, (us _).blk K.box (by omega)⟩, ⟨n.upd (us _) (by omega) (by omega) (by omega) (by omega), K.rm.upd (us _) (by omega) (by omega), ⟨by omega, by omega, by omega, by omega, by omega, by omega⟩, by omega, by omega, by omega, by omega, by omega, by omega, m.ok, kx⟩, below_setCells (Nat.le_refl _) _ 0 _ hb0, by omega, by omega, by omega, by omega, Nat.le_refl _⟩
theorem Pgs.block {w w' : World} {h : Nat} {T : List Page} (p : Pgs w h T) (hs : w.heap.size ≤ w'.heap.size) (e : w'.heap[h]? = w.heap[h]?) : Pgs w' h T :=
  ⟨Nat.lt_of_lt_of_le p.lt hs, fun j u hj => (World.cell?_of_block (w := w) (a := ⟨h, j, none⟩) e).trans (p.cells j u hj), fun o => (World.frozen?_of_block (w := w) (a := ⟨h, o, none⟩) e).trans (p.free o)⟩
theorem drewA {w w1 : World} (h : Below w.drew.heap.size w.drew w1) : Below w.heap.size w w1 := ((Below.refl _ _).drew).trans h
theorem drewB {w w1 : World} {o : Obj} (h : Below (w.drew.alloc o).heap.size (w.drew.alloc o) w1) : Below (w.heap.size + 1) (w.alloc o) w1 := ((Below.refl _ _).drew).trans (by have e : (w.alloc o).drew = w.drew.alloc o := rfl; rw [e]; simpa using h)
theorem Mid8.upd2 (m : Mid8 w M g h c d cd B G T L b cb e ce) (u : Upd3 M2 h2 d2 w w') (vs : List Value) (k : Nat) (hk : M < k ∧ g < k ∧ h < k ∧ d < k ∧ b < k ∧ e < k ∧ B < k) (h1 : k ≤ M2) (h3 : k ≤ h2) (h4 : k ≤ d2) (h5 : k ≤ B2) : Mid8 (w'.setCells B2 0 vs) M g h c d cd B G T L b cb e ce := by
  have us := upd_setCells B2 vs 0 w'
  have hs := u.size
  have blk : ∀ i, i < w.heap.size → i < k → w'.heap[i]? = w.heap[i]? := fun i hi hk => u.block i hi (by omega) (by omega) (by omega)
  have q1 := m.mem.ten.lt
  have q2 := m.mem.tab.lt
  have q3 := m.mem.tab.pgs.lt
  have q4 := m.mem.wds.lt
  have q5 := m.box.lt
  have q6 := m.rm.pgs.lt
  have q7 := m.rm.wds.lt
  have m' : Mid8 w' M g h c d cd B G T L b cb e ce := by
    refine ⟨⟨m.mem.ten.block hs (blk M q1 (by omega)), ?_, m.mem.wds.block hs (blk d q4 (by omega)), m.mem.len, m.mem.cap, m.mem.Mg, m.mem.Mh, m.mem.Md, m.mem.gd, m.mem.hd⟩, ⟨?_, m.rm.wds.block hs (blk e q7 (by omega)), m.rm.few, m.rm.len⟩, m.sep, m.BM, m.Bg, m.Bh, m.Bd, m.Bb, m.Be, m.ok, (blk B q5 (by omega)).trans m.box⟩
    · have t := m.mem.tab
      exact ⟨(World.cell?_of_block (w := w) (a := ⟨g, 0, none⟩) (blk g q2 (by omega))).trans t.row, Nat.lt_of_lt_of_le q2 hs, t.ne, t.pgs.block hs (blk h q3 (by omega)), t.few, t.cap⟩
    · exact m.rm.pgs.block hs (blk b q6 (by omega))
  exact ⟨m'.mem.upd us (by omega) (by omega) (by omega) (by omega), m'.rm.upd us (by omega) (by omega), m.sep, m.BM, m.Bg, m.Bh, m.Bd, m.Bb, m.Be, m.ok, us.blk m'.box (by omega)⟩
end
set_option maxRecDepth 100000 in
set_option maxHeartbeats 16000000 in
theorem law_mforks (nn : Nat) (src : Option Addr) (len cap : Nat) (src2 : Option Addr) (len2 cap2 : Nat) (w : World) (hnn : nn < 256) (hs : Acts8 w src len) (hs2 : Acts8 w src2 len2) :
    Calls Try.prog 14 #[.int .u8 (nn : Int), .slice src len cap, .slice src2 len2 cap2] w fun en w' => en = .returned (.bool true) ∧ Below w.heap.size w w' := by
  by_cases hlim : 20 < len
  · have hz : (20 : Int) < (len : Int) := by omega
    clear hs hs2
    go_enter Try.func14, Try.ntmps14
    go_wp2_with fail
    refine (awake08_c _).mono ?_
    rintro en w1 ⟨rfl, hb⟩
    go_wp2_with fail
    go_ret
    exact ⟨rfl, hb⟩
  have hz : ¬ (20 : Int) < (len : Int) := by omega
  by_cases hlim2 : 20 < len2
  · have hz2 : (20 : Int) < (len2 : Int) := by omega
    clear hs hs2
    go_enter Try.func14, Try.ntmps14
    go_wp2_with fail
    refine (awake08_c _).mono ?_
    rintro en w1 ⟨rfl, hb⟩
    go_wp2_with fail
    go_ret
    exact ⟨rfl, hb⟩
  have hz2 : ¬ (20 : Int) < (len2 : Int) := by omega
  have HS := Lib.hid hs
  have HS2 := Lib.hid hs2
  clear hs hs2 hlim hlim2
  have htm : Int.tmod (nn : Int) 21 = ((nn % 21 : Nat) : Int) := by rw [Int.tmod_eq_emod_of_nonneg (by omega)]; omega
  have hy21 : nn % 21 < 21 := Nat.mod_lt _ (by decide)
  have hwr : IntKind.i64.wrap ((nn % 21 : Nat) : Int) = ((nn % 21 : Nat) : Int) := by unfold IntKind.wrap; generalize nn % 21 = y at hy21 ⊢; simp [IntKind.bits, IntKind.signed]; omega
  generalize nn % 21 = y at htm hy21 hwr
  go_enter Try.func14, Try.ntmps14
  go_wp2_with fail
  refine (newmem_c w (y : Int)).mono ?_
  rintro en w1 ⟨MP, g, h, c, d, cd, rfl, hM, hg, hh, hd, m, hb1⟩
  have HM := Lib.hid (And.intro m hb1)
  have HL := Lib.hid (show MP < w1.heap.size ∧ g < w1.heap.size ∧ h < w1.heap.size ∧ d < w1.heap.size from ⟨m.ten.lt, m.tab.lt, m.tab.pgs.lt, m.wds.lt⟩)
  clear m hb1
  go_wp2_with fail
  refine (rnewmem_c w1 (y : Int)).mono ?_
  rintro en w2 ⟨b, cb, e, ce, rfl, hbb, hbe, hne, r, hb2⟩
  obtain ⟨l1, l2, l3, l4⟩ := HL.out
  have l5 := r.pgs.lt
  have l6 := r.wds.lt
  have s2 := hb2.size
  have s1 := HM.out.2.size
  have ML : MP ≠ w2.heap.size := by omega
  have M0 : Hid (Mid8 (w2.alloc (.cells #[.int .u32 ((fun _ => 0 : Nat → Nat) 0 : Int), .int .u32 ((fun _ => 0 : Nat → Nat) 1 : Int), .int .u32 ((fun _ => 0 : Nat → Nat) 2 : Int), .int .u32 ((fun _ => 0 : Nat → Nat) 3 : Int), .int .u32 ((fun _ => 0 : Nat → Nat) 4 : Int), .int .u32 ((fun _ => 0 : Nat → Nat) 5 : Int), .int .u32 ((fun _ => 0 : Nat → Nat) 6 : Int), .int .u32 ((fun _ => 0 : Nat → Nat) 7 : Int), .slice (some ⟨b, 0, none⟩) (List.replicate (newLen (y : Int)) nz).length cb, .slice (some ⟨e, 0, none⟩) (List.replicate (16 * newLen (y : Int)) 0).length ce] 64)) MP g h c d cd w2.heap.size (fun _ => 0) (List.replicate (newLen (y : Int)) nz) (List.replicate (16 * newLen (y : Int)) 0) b cb e ce) := Lib.hid
    ⟨(HM.out.1.kept hb2).alloc _, r.alloc _, ⟨by omega, by omega, by omega, by omega, by omega, by omega⟩, by omega, by omega, by omega, by omega, by omega, by omega, ok_new _, Blk.new _ _ _⟩
  have B0 := Lib.hid ((HM.out.2.trans (hb2.mono HM.out.2.size)).alloc (by omega) (.cells #[.int .u32 ((fun _ => 0 : Nat → Nat) 0 : Int), .int .u32 ((fun _ => 0 : Nat → Nat) 1 : Int), .int .u32 ((fun _ => 0 : Nat → Nat) 2 : Int), .int .u32 ((fun _ => 0 : Nat → Nat) 3 : Int), .int .u32 ((fun _ => 0 : Nat → Nat) 4 : Int), .int .u32 ((fun _ => 0 : Nat → Nat) 5 : Int), .int .u32 ((fun _ => 0 : Nat → Nat) 6 : Int), .int .u32 ((fun _ => 0 : Nat → Nat) 7 : Int), .slice (some ⟨b, 0, none⟩) (List.replicate (newLen (y : Int)) nz).length cb, .slice (some ⟨e, 0, none⟩) (List.replicate (16 * newLen (y : Int)) 0).length ce] 64))
  have LB : Hid (w.heap.size ≤ w2.heap.size) := Lib.hid (by omega)
  generalize List.replicate (newLen (y : Int)) nz = T0 at M0 B0 ⊢
  generalize List.replicate (16 * newLen (y : Int)) 0 = L0 at M0 B0 ⊢
  generalize (fun _ => 0 : Nat → Nat) = G0 at M0 B0 ⊢
  clear hb2 r HM HL l1 l2 l3 l4 l5 l6 s1 s2 hbb hbe hne
  unfold rm
  go_wp2_with fail
  go_loopg [9] len (fun gg s9 wr => ∃ kk : Nat, kk ≤ len ∧ len - kk ≤ gg ∧ s9 = .int .i64 (kk : Int) ∧ Hid (∃ G T L b cb e ce, Mid8 wr MP g h c d cd w2.heap.size G T L b cb e ce) ∧ Hid (Below w.heap.size w wr))
  case atStart => exact ⟨0, Nat.zero_le _, by omega, rfl, Lib.hid ⟨_, _, _, _, _, _, _, M0.out⟩, B0⟩
  case round =>
    obtain ⟨kk, hkk, hg, rfl, MW, BW⟩ := hrel
    by_cases hlt : kk < len
    · have hltz : (kk : Int) < (len : Int) := by omega
      obtain ⟨G, T, L, bt, ct, et, cet, M⟩ := MW.out
      replace M := Lib.hid M
      obtain ⟨ba, oa, rfl, hba, ⟨k, at_, wd, pg, n, ow, ep⟩, AC⟩ := HS.out kk hlt
      have hx : at_ < 4294967296 := AC.hx
      have hwd : wd < 4294967296 := AC.hw
      have ho : ow < 65536 := AC.ho
      replace AC := Lib.hid AC
      have r0 : wr.cell? ⟨w2.heap.size, 0, none⟩ = some (.int .u32 (G 0 : Int)) := M.out.box.cell 0
      have r1 : wr.cell? ⟨w2.heap.size, 1, none⟩ = some (.int .u32 (G 1 : Int)) := M.out.box.cell 1
      have r2 : wr.cell? ⟨w2.heap.size, 2, none⟩ = some (.int .u32 (G 2 : Int)) := M.out.box.cell 2
      have r3 : wr.cell? ⟨w2.heap.size, 3, none⟩ = some (.int .u32 (G 3 : Int)) := M.out.box.cell 3
      have r4 : wr.cell? ⟨w2.heap.size, 4, none⟩ = some (.int .u32 (G 4 : Int)) := M.out.box.cell 4
      have r5 : wr.cell? ⟨w2.heap.size, 5, none⟩ = some (.int .u32 (G 5 : Int)) := M.out.box.cell 5
      have r6 : wr.cell? ⟨w2.heap.size, 6, none⟩ = some (.int .u32 (G 6 : Int)) := M.out.box.cell 6
      have r7 : wr.cell? ⟨w2.heap.size, 7, none⟩ = some (.int .u32 (G 7 : Int)) := M.out.box.cell 7
      have r8 : wr.cell? ⟨w2.heap.size, 8, none⟩ = some (.slice (some ⟨bt, 0, none⟩) T.length ct) := M.out.box.cell 8
      have r9 : wr.cell? ⟨w2.heap.size, 9, none⟩ = some (.slice (some ⟨et, 0, none⟩) L.length cet) := M.out.box.cell 9
      have a0 : wr.cell? ⟨ba, oa + kk * 7, none⟩ = some (.int .u8 (k : Int)) := (BW.out.cell (p := ⟨ba, oa + kk * 7, none⟩) hba).trans AC.out.c0
      have a1 : wr.cell? ⟨ba, oa + kk * 7 + 1, none⟩ = some (.int .u32 (at_ : Int)) := (BW.out.cell (p := ⟨ba, oa + kk * 7 + 1, none⟩) hba).trans AC.out.c1
      have a2 : wr.cell? ⟨ba, oa + kk * 7 + 2, none⟩ = some (.int .u32 (wd : Int)) := (BW.out.cell (p := ⟨ba, oa + kk * 7 + 2, none⟩) hba).trans AC.out.c2
      have a3 : wr.cell? ⟨ba, oa + kk * 7 + 3, none⟩ = some (.int .i64 pg) := (BW.out.cell (p := ⟨ba, oa + kk * 7 + 3, none⟩) hba).trans AC.out.c3
      have a4 : wr.cell? ⟨ba, oa + kk * 7 + 4, none⟩ = some (.int .i64 n) := (BW.out.cell (p := ⟨ba, oa + kk * 7 + 4, none⟩) hba).trans AC.out.c4
      have a5 : wr.cell? ⟨ba, oa + kk * 7 + 5, none⟩ = some (.int .u16 (ow : Int)) := (BW.out.cell (p := ⟨ba, oa + kk * 7 + 5, none⟩) hba).trans AC.out.c5
      have a6 : wr.cell? ⟨ba, oa + kk * 7 + 6, none⟩ = some (.int .u64 (ep : Int)) := (BW.out.cell (p := ⟨ba, oa + kk * 7 + 6, none⟩) hba).trans AC.out.c6
      have OK1 := Lib.hid (ok_step8 G T L ⟨k, at_, wd, pg, n, ow, ep⟩ M.out.ok)
      have DC : ∀ W, Mid8 W MP g h c d cd w2.heap.size G T L bt ct et cet → Calls Try.prog 47 #[.pointer (some ⟨MP, 0, none⟩), .agg #[.int .u32 (G 0 : Int), .int .u32 (G 1 : Int), .int .u32 (G 2 : Int), .int .u32 (G 3 : Int), .int .u32 (G 4 : Int), .int .u32 (G 5 : Int), .int .u32 (G 6 : Int), .int .u32 (G 7 : Int), .slice (some ⟨bt, 0, none⟩) T.length ct, .slice (some ⟨et, 0, none⟩) L.length cet], .agg #[.int .u8 (k : Int), .int .u32 (at_ : Int), .int .u32 (wd : Int), .int .i64 pg, .int .i64 n, .int .u16 (ow : Int), .int .u64 (ep : Int)]] W fun en w' => DoP8 W MP g h c d cd bt et (step8 G T L ⟨k, at_, wd, pg, n, ow, ep⟩) en w' := fun W m =>
        do8_c W MP g h c d cd bt ct et cet G T L m.mem m.rm m.sep m.ok ⟨k, at_, wd, pg, n, ow, ep⟩ hx ho
      replace DC := Lib.hid DC
      generalize step8 G T L ⟨k, at_, wd, pg, n, ow, ep⟩ = S1 at DC OK1
      obtain ⟨G1, T1, L1⟩ := S1
      simp only at OK1
      clear MW
      go_wp2_with fail
      go_region_with (go_at_call 47; (with_reducible refine (DC.out _ ?_).mono ?_); (first | exact M.out | exact M.out.drewN 1); rintro en w4 ⟨b', cb', e', ce', rfl, m4, r4, hb4, he4, u4⟩; have kx := (u4.blk M.out.box M.out.BM M.out.Bh M.out.Bd); have z0 : w4.cell? ⟨w2.heap.size, 0, none⟩ = some (.int .u32 (G 0 : Int)) := kx.cell 0; have fz0 : w4.frozen? ⟨w2.heap.size, 0, none⟩ = false := kx.frozen 0; have z1 : w4.cell? ⟨w2.heap.size, 1, none⟩ = some (.int .u32 (G 1 : Int)) := kx.cell 1; have fz1 : w4.frozen? ⟨w2.heap.size, 1, none⟩ = false := kx.frozen 1; have z2 : w4.cell? ⟨w2.heap.size, 2, none⟩ = some (.int .u32 (G 2 : Int)) := kx.cell 2; have fz2 : w4.frozen? ⟨w2.heap.size, 2, none⟩ = false := kx.frozen 2; have z3 : w4.cell? ⟨w2.heap.size, 3, none⟩ = some (.int .u32 (G 3 : Int)) := kx.cell 3; have fz3 : w4.frozen? ⟨w2.heap.size, 3, none⟩ = false := kx.frozen 3; have z4 : w4.cell? ⟨w2.heap.size, 4, none⟩ = some (.int .u32 (G 4 : Int)) := kx.cell 4; have fz4 : w4.frozen? ⟨w2.heap.size, 4, none⟩ = false := kx.frozen 4; have z5 : w4.cell? ⟨w2.heap.size, 5, none⟩ = some (.int .u32 (G 5 : Int)) := kx.cell 5; have fz5 : w4.frozen? ⟨w2.heap.size, 5, none⟩ = false := kx.frozen 5; have z6 : w4.cell? ⟨w2.heap.size, 6, none⟩ = some (.int .u32 (G 6 : Int)) := kx.cell 6; have fz6 : w4.frozen? ⟨w2.heap.size, 6, none⟩ = false := kx.frozen 6; have z7 : w4.cell? ⟨w2.heap.size, 7, none⟩ = some (.int .u32 (G 7 : Int)) := kx.cell 7; have fz7 : w4.frozen? ⟨w2.heap.size, 7, none⟩ = false := kx.frozen 7; have z8 : w4.cell? ⟨w2.heap.size, 8, none⟩ = some (.slice (some ⟨bt, 0, none⟩) T.length ct) := kx.cell 8; have fz8 : w4.frozen? ⟨w2.heap.size, 8, none⟩ = false := kx.frozen 8; have z9 : w4.cell? ⟨w2.heap.size, 9, none⟩ = some (.slice (some ⟨et, 0, none⟩) L.length cet) := kx.cell 9; have fz9 : w4.frozen? ⟨w2.heap.size, 9, none⟩ = false := kx.frozen 9; have M5 := Lib.hid ((M.out.drewN 1).next (cb' := cb') (ce' := ce') m4 r4 hb4 he4 u4 OK1.out); have B5 := Lib.hid (u4.below (BW.out.trans (below_drewN (Below.refl _ _) 1)) hM hh hd); clear m4 r4 hb4 he4 u4 kx; unfold rm)
      all_goals
        have B5 := Lib.hid (below_setCells LB.out [.int .u32 (G1 0 : Int), .int .u32 (G1 1 : Int), .int .u32 (G1 2 : Int), .int .u32 (G1 3 : Int), .int .u32 (G1 4 : Int), .int .u32 (G1 5 : Int), .int .u32 (G1 6 : Int), .int .u32 (G1 7 : Int), .slice (some ⟨b', 0, none⟩) T1.length cb', .slice (some ⟨e', 0, none⟩) L1.length ce'] 0 _ B5.out)
        clear DC z0 fz0 r0 z1 fz1 r1 z2 fz2 r2 z3 fz3 r3 z4 fz4 r4 z5 fz5 r5 z6 fz6 r6 z7 fz7 r7 z8 fz8 r8 z9 fz9 r9 a0 a1 a2 a3 a4 a5 a6
        go_wp2_with fail
        go_roundg (len - (kk + 1))
        case measure => omega
        case rel => exact ⟨kk + 1, by omega, by omega, by go_num, Lib.hid ⟨_, _, _, _, _, _, _, M5.out⟩, B5⟩
    · have hltz : ¬ (kk : Int) < (len : Int) := by omega
      obtain ⟨G, T, L, bt, ct, et, cet, M⟩ := MW.out
      have M1 := Lib.hid M
      obtain ⟨W1, hW1⟩ : ∃ W, W = wr := ⟨_, rfl⟩
      have W1e := Lib.hid hW1
      clear hW1
      have r0 : wr.cell? ⟨w2.heap.size, 0, none⟩ = some (.int .u32 (G 0 : Int)) := M.box.cell 0
      have r1 : wr.cell? ⟨w2.heap.size, 1, none⟩ = some (.int .u32 (G 1 : Int)) := M.box.cell 1
      have r2 : wr.cell? ⟨w2.heap.size, 2, none⟩ = some (.int .u32 (G 2 : Int)) := M.box.cell 2
      have r3 : wr.cell? ⟨w2.heap.size, 3, none⟩ = some (.int .u32 (G 3 : Int)) := M.box.cell 3
      have r4 : wr.cell? ⟨w2.heap.size, 4, none⟩ = some (.int .u32 (G 4 : Int)) := M.box.cell 4
      have r5 : wr.cell? ⟨w2.heap.size, 5, none⟩ = some (.int .u32 (G 5 : Int)) := M.box.cell 5
      have r6 : wr.cell? ⟨w2.heap.size, 6, none⟩ = some (.int .u32 (G 6 : Int)) := M.box.cell 6
      have r7 : wr.cell? ⟨w2.heap.size, 7, none⟩ = some (.int .u32 (G 7 : Int)) := M.box.cell 7
      have r8 : wr.cell? ⟨w2.heap.size, 8, none⟩ = some (.slice (some ⟨bt, 0, none⟩) T.length ct) := M.box.cell 8
      have r9 : wr.cell? ⟨w2.heap.size, 9, none⟩ = some (.slice (some ⟨et, 0, none⟩) L.length cet) := M.box.cell 9
      have y0 : w2.heap.size < wr.heap.size := M.box.lt
      clear HS MW M M0 B0
      go_upto_region 8 with fail
      go_cut [10, 11, 12] (fun s10 s11 s12 wx => ∃ M2 g2 h2 c2 d2 cd2 B2 : Nat, s10 = .pointer (some ⟨M2, 0, none⟩) ∧ s11 = .pointer (some ⟨B2, 0, none⟩) ∧ s12 = .bool true ∧ Hid (ForkSt8 W1 wx MP g h c d cd w2.heap.size G T L bt ct et cet M2 g2 h2 c2 d2 cd2 B2))
      case first =>
        go_region_with (go_at_call 50; (with_reducible refine (mfork_c (M := MP) (g := g) (h := h) (c := c) (d := d) (cd := cd) (G := G) (T := T) (L := L) ?_).mono ?_); (first | exact M1.out.mem | exact (M1.out.mem.drewN 1) | exact (M1.out.mem.drewN 1).alloc _ | exact (M1.out.mem.alloc _)); rintro en w4 ⟨M2, g2, h2, c2, d2, cd2, rfl, hM2, hg2, hh2, hd2, m4, hb4⟩; have kx : Mid8 w4 MP g h c d cd w2.heap.size G T L bt ct et cet := (by first | exact M1.out.kept hb4 | exact (M1.out.drewN 1).kept hb4 | exact (M1.out.kept (((Below.refl _ _).drew).alloc (Nat.le_refl _) _)).kept hb4); have z0 : w4.cell? ⟨w2.heap.size, 0, none⟩ = some (.int .u32 (G 0 : Int)) := kx.box.cell 0; have z1 : w4.cell? ⟨w2.heap.size, 1, none⟩ = some (.int .u32 (G 1 : Int)) := kx.box.cell 1; have z2 : w4.cell? ⟨w2.heap.size, 2, none⟩ = some (.int .u32 (G 2 : Int)) := kx.box.cell 2; have z3 : w4.cell? ⟨w2.heap.size, 3, none⟩ = some (.int .u32 (G 3 : Int)) := kx.box.cell 3; have z4 : w4.cell? ⟨w2.heap.size, 4, none⟩ = some (.int .u32 (G 4 : Int)) := kx.box.cell 4; have z5 : w4.cell? ⟨w2.heap.size, 5, none⟩ = some (.int .u32 (G 5 : Int)) := kx.box.cell 5; have z6 : w4.cell? ⟨w2.heap.size, 6, none⟩ = some (.int .u32 (G 6 : Int)) := kx.box.cell 6; have z7 : w4.cell? ⟨w2.heap.size, 7, none⟩ = some (.int .u32 (G 7 : Int)) := kx.box.cell 7; have z8 : w4.cell? ⟨w2.heap.size, 8, none⟩ = some (.slice (some ⟨bt, 0, none⟩) T.length ct) := kx.box.cell 8; have z9 : w4.cell? ⟨w2.heap.size, 9, none⟩ = some (.slice (some ⟨et, 0, none⟩) L.length cet) := kx.box.cell 9; (try have zn := fun i => ((Blk.new (wr.drewN 1) 64 #[.int .u32 0, .int .u32 0, .int .u32 0, .int .u32 0, .int .u32 0, .int .u32 0, .int .u32 0, .int .u32 0, .slice none 0 0, .slice none 0 0]).kept hb4).cell i); (try have zc0 : w4.cell? ⟨wr.heap.size, 0, none⟩ = some (.int .u32 0) := zn 0); (try have zc1 : w4.cell? ⟨wr.heap.size, 1, none⟩ = some (.int .u32 0) := zn 1); (try have zc2 : w4.cell? ⟨wr.heap.size, 2, none⟩ = some (.int .u32 0) := zn 2); (try have zc3 : w4.cell? ⟨wr.heap.size, 3, none⟩ = some (.int .u32 0) := zn 3); (try have zc4 : w4.cell? ⟨wr.heap.size, 4, none⟩ = some (.int .u32 0) := zn 4); (try have zc5 : w4.cell? ⟨wr.heap.size, 5, none⟩ = some (.int .u32 0) := zn 5); (try have zc6 : w4.cell? ⟨wr.heap.size, 6, none⟩ = some (.int .u32 0) := zn 6); (try have zc7 : w4.cell? ⟨wr.heap.size, 7, none⟩ = some (.int .u32 0) := zn 7); (try have zc8 : w4.cell? ⟨wr.heap.size, 8, none⟩ = some (.slice none 0 0) := zn 8); (try have zc9 : w4.cell? ⟨wr.heap.size, 9, none⟩ = some (.slice none 0 0) := zn 9); (try have zg := fun i => ((Blk.new (wr.drewN 1) 64 #[.int .u32 0, .int .u32 0, .int .u32 0, .int .u32 0, .int .u32 0, .int .u32 0, .int .u32 0, .int .u32 0, .slice none 0 0, .slice none 0 0]).kept hb4).frozen i); (try have zf0 : w4.frozen? ⟨wr.heap.size, 0, none⟩ = false := zg 0); (try have zf1 : w4.frozen? ⟨wr.heap.size, 1, none⟩ = false := zg 1); (try have zf2 : w4.frozen? ⟨wr.heap.size, 2, none⟩ = false := zg 2); (try have zf3 : w4.frozen? ⟨wr.heap.size, 3, none⟩ = false := zg 3); (try have zf4 : w4.frozen? ⟨wr.heap.size, 4, none⟩ = false := zg 4); (try have zf5 : w4.frozen? ⟨wr.heap.size, 5, none⟩ = false := zg 5); (try have zf6 : w4.frozen? ⟨wr.heap.size, 6, none⟩ = false := zg 6); (try have zf7 : w4.frozen? ⟨wr.heap.size, 7, none⟩ = false := zg 7); (try have zf8 : w4.frozen? ⟨wr.heap.size, 8, none⟩ = false := zg 8); (try have zf9 : w4.frozen? ⟨wr.heap.size, 9, none⟩ = false := zg 9); (try clear zn); (try clear zg); have y4 : w2.heap.size < w4.heap.size := kx.box.lt; (try have y5 : wr.heap.size < w4.heap.size := (by have := hb4.size; simpa using this)); have KX := Lib.hid kx; have HB4 := Lib.hid hb4; have T4 := Lib.hid m4; have s4 := hb4.size; clear kx hb4 m4)
        all_goals (go_wp2_with fail; go_meet)
        all_goals rw [W1e.out]
        all_goals first
          | (have FA := forkA8 M1.out (drewA HB4.out) T4.out hM2 hg2 hh2 hd2
             refine ⟨M2, g2, h2, c2, d2, cd2, w4.heap.size, rfl, rfl, rfl, Lib.hid ?_⟩
             with_reducible exact FA)
          | (have FB := forkB8 M1.out (drewB HB4.out) T4.out (by simpa using hM2) (by simpa using hg2) (by simpa using hh2) (by simpa using hd2)
             simp only [World.setCells, Nat.zero_add, Nat.reduceAdd] at FB
             refine ⟨M2, g2, h2, c2, d2, cd2, wr.heap.size, rfl, rfl, rfl, Lib.hid ?_⟩
             with_reducible exact FB)
      case rest =>
      obtain ⟨M2, g2, h2, c2, d2, cd2, B2, rfl, rfl, rfl, FS⟩ := hcut
      rw [W1e.out] at FS
      have D2 : Hid ((MP < wr.heap.size ∧ g < wr.heap.size ∧ h < wr.heap.size ∧ d < wr.heap.size ∧ bt < wr.heap.size ∧ et < wr.heap.size ∧ w2.heap.size < wr.heap.size) ∧ wr.heap.size ≤ M2 ∧ wr.heap.size ≤ h2 ∧ wr.heap.size ≤ d2 ∧ wr.heap.size ≤ B2) := Lib.hid ⟨⟨M1.out.mem.ten.lt, M1.out.mem.tab.lt, M1.out.mem.tab.pgs.lt, M1.out.mem.wds.lt, M1.out.rm.pgs.lt, M1.out.rm.wds.lt, M1.out.box.lt⟩, FS.out.fM, FS.out.fh, FS.out.fd, FS.out.fB⟩
      generalize wr.heap.size = kw at D2
      have MO := Lib.hid FS.out.old
      have MN := Lib.hid FS.out.new_
      have s9 := BW.out.size
      have BN := Lib.hid (BW.out.trans (FS.out.below.mono s9))
      have hM2 : w.heap.size ≤ M2 := Nat.le_trans s9 FS.out.fM
      have hh2 : w.heap.size ≤ h2 := Nat.le_trans s9 FS.out.fh
      have hd2 : w.heap.size ≤ d2 := Nat.le_trans s9 FS.out.fd
      have LB2 : Hid (w.heap.size ≤ B2) := Lib.hid (Nat.le_trans s9 FS.out.fB)
      clear FS BW M1 W1e r0 r1 r2 r3 r4 r5 r6 r7 r8 r9 y0 hlt hltz hkk hg s9
      go_wp2_with fail
      go_loopg [12, 13] len2 (fun gg s12 s13 wx => ∃ kk : Nat, kk ≤ len2 ∧ len2 - kk ≤ gg ∧ s12 = .bool true ∧ s13 = .int .i64 (kk : Int) ∧ Hid (∃ G' T' L' b' cb' e' ce', Mid8 wx M2 g2 h2 c2 d2 cd2 B2 G' T' L' b' cb' e' ce') ∧ Hid (Mid8 wx MP g h c d cd w2.heap.size G T L bt ct et cet) ∧ Hid (Below w.heap.size w wx))
      case atStart => exact ⟨0, Nat.zero_le _, by omega, rfl, rfl, Lib.hid ⟨_, _, _, _, _, _, _, MN.out⟩, MO, BN⟩
      case round =>
        obtain ⟨kk, hkk, hg, rfl, rfl, MW, MP_, BW⟩ := hrel
        by_cases hlt : kk < len2
        · have hltz : (kk : Int) < (len2 : Int) := by omega
          obtain ⟨G3, T3, L3, b3, cb3, e3, ce3, M⟩ := MW.out
          have M := Lib.hid M
          obtain ⟨ba, oa, rfl, hba, ⟨k, at_, wd, pg, n, ow, ep⟩, AC⟩ := HS2.out kk hlt
          have hx : at_ < 4294967296 := AC.hx
          have hwd : wd < 4294967296 := AC.hw
          have ho : ow < 65536 := AC.ho
          have AC := Lib.hid AC
          have r0 : wr.cell? ⟨B2, 0, none⟩ = some (.int .u32 (G3 0 : Int)) := M.out.box.cell 0
          have r1 : wr.cell? ⟨B2, 1, none⟩ = some (.int .u32 (G3 1 : Int)) := M.out.box.cell 1
          have r2 : wr.cell? ⟨B2, 2, none⟩ = some (.int .u32 (G3 2 : Int)) := M.out.box.cell 2
          have r3 : wr.cell? ⟨B2, 3, none⟩ = some (.int .u32 (G3 3 : Int)) := M.out.box.cell 3
          have r4 : wr.cell? ⟨B2, 4, none⟩ = some (.int .u32 (G3 4 : Int)) := M.out.box.cell 4
          have r5 : wr.cell? ⟨B2, 5, none⟩ = some (.int .u32 (G3 5 : Int)) := M.out.box.cell 5
          have r6 : wr.cell? ⟨B2, 6, none⟩ = some (.int .u32 (G3 6 : Int)) := M.out.box.cell 6
          have r7 : wr.cell? ⟨B2, 7, none⟩ = some (.int .u32 (G3 7 : Int)) := M.out.box.cell 7
          have r8 : wr.cell? ⟨B2, 8, none⟩ = some (.slice (some ⟨b3, 0, none⟩) T3.length cb3) := M.out.box.cell 8
          have r9 : wr.cell? ⟨B2, 9, none⟩ = some (.slice (some ⟨e3, 0, none⟩) L3.length ce3) := M.out.box.cell 9
          have a0 : wr.cell? ⟨ba, oa + kk * 7, none⟩ = some (.int .u8 (k : Int)) := (BW.out.cell (p := ⟨ba, oa + kk * 7, none⟩) hba).trans AC.out.c0
          have a1 : wr.cell? ⟨ba, oa + kk * 7 + 1, none⟩ = some (.int .u32 (at_ : Int)) := (BW.out.cell (p := ⟨ba, oa + kk * 7 + 1, none⟩) hba).trans AC.out.c1
          have a2 : wr.cell? ⟨ba, oa + kk * 7 + 2, none⟩ = some (.int .u32 (wd : Int)) := (BW.out.cell (p := ⟨ba, oa + kk * 7 + 2, none⟩) hba).trans AC.out.c2
          have a3 : wr.cell? ⟨ba, oa + kk * 7 + 3, none⟩ = some (.int .i64 pg) := (BW.out.cell (p := ⟨ba, oa + kk * 7 + 3, none⟩) hba).trans AC.out.c3
          have a4 : wr.cell? ⟨ba, oa + kk * 7 + 4, none⟩ = some (.int .i64 n) := (BW.out.cell (p := ⟨ba, oa + kk * 7 + 4, none⟩) hba).trans AC.out.c4
          have a5 : wr.cell? ⟨ba, oa + kk * 7 + 5, none⟩ = some (.int .u16 (ow : Int)) := (BW.out.cell (p := ⟨ba, oa + kk * 7 + 5, none⟩) hba).trans AC.out.c5
          have a6 : wr.cell? ⟨ba, oa + kk * 7 + 6, none⟩ = some (.int .u64 (ep : Int)) := (BW.out.cell (p := ⟨ba, oa + kk * 7 + 6, none⟩) hba).trans AC.out.c6
          have OK1 := Lib.hid (ok_step8 G3 T3 L3 ⟨k, at_, wd, pg, n, ow, ep⟩ M.out.ok)
          have DC : ∀ W, Mid8 W M2 g2 h2 c2 d2 cd2 B2 G3 T3 L3 b3 cb3 e3 ce3 → Calls Try.prog 47 #[.pointer (some ⟨M2, 0, none⟩), .agg #[.int .u32 (G3 0 : Int), .int .u32 (G3 1 : Int), .int .u32 (G3 2 : Int), .int .u32 (G3 3 : Int), .int .u32 (G3 4 : Int), .int .u32 (G3 5 : Int), .int .u32 (G3 6 : Int), .int .u32 (G3 7 : Int), .slice (some ⟨b3, 0, none⟩) T3.length cb3, .slice (some ⟨e3, 0, none⟩) L3.length ce3], .agg #[.int .u8 (k : Int), .int .u32 (at_ : Int), .int .u32 (wd : Int), .int .i64 pg, .int .i64 n, .int .u16 (ow : Int), .int .u64 (ep : Int)]] W fun en w' => DoP8 W M2 g2 h2 c2 d2 cd2 b3 e3 (step8 G3 T3 L3 ⟨k, at_, wd, pg, n, ow, ep⟩) en w' := fun W m =>
            do8_c W M2 g2 h2 c2 d2 cd2 b3 cb3 e3 ce3 G3 T3 L3 m.mem m.rm m.sep m.ok ⟨k, at_, wd, pg, n, ow, ep⟩ hx ho
          replace DC := Lib.hid DC
          generalize step8 G3 T3 L3 ⟨k, at_, wd, pg, n, ow, ep⟩ = S1 at DC OK1
          obtain ⟨G1, T1, L1⟩ := S1
          simp only at OK1
          clear MW
          go_wp2_with fail
          go_region_with (go_at_call 47; (with_reducible refine (DC.out _ ?_).mono ?_); (first | exact M.out | exact M.out.drewN 1); rintro en w4 ⟨b', cb', e', ce', rfl, m4, r4, hb4, he4, u4⟩; have kx := (u4.blk M.out.box M.out.BM M.out.Bh M.out.Bd); have z0 : w4.cell? ⟨B2, 0, none⟩ = some (.int .u32 (G3 0 : Int)) := kx.cell 0; have fz0 : w4.frozen? ⟨B2, 0, none⟩ = false := kx.frozen 0; have z1 : w4.cell? ⟨B2, 1, none⟩ = some (.int .u32 (G3 1 : Int)) := kx.cell 1; have fz1 : w4.frozen? ⟨B2, 1, none⟩ = false := kx.frozen 1; have z2 : w4.cell? ⟨B2, 2, none⟩ = some (.int .u32 (G3 2 : Int)) := kx.cell 2; have fz2 : w4.frozen? ⟨B2, 2, none⟩ = false := kx.frozen 2; have z3 : w4.cell? ⟨B2, 3, none⟩ = some (.int .u32 (G3 3 : Int)) := kx.cell 3; have fz3 : w4.frozen? ⟨B2, 3, none⟩ = false := kx.frozen 3; have z4 : w4.cell? ⟨B2, 4, none⟩ = some (.int .u32 (G3 4 : Int)) := kx.cell 4; have fz4 : w4.frozen? ⟨B2, 4, none⟩ = false := kx.frozen 4; have z5 : w4.cell? ⟨B2, 5, none⟩ = some (.int .u32 (G3 5 : Int)) := kx.cell 5; have fz5 : w4.frozen? ⟨B2, 5, none⟩ = false := kx.frozen 5; have z6 : w4.cell? ⟨B2, 6, none⟩ = some (.int .u32 (G3 6 : Int)) := kx.cell 6; have fz6 : w4.frozen? ⟨B2, 6, none⟩ = false := kx.frozen 6; have z7 : w4.cell? ⟨B2, 7, none⟩ = some (.int .u32 (G3 7 : Int)) := kx.cell 7; have fz7 : w4.frozen? ⟨B2, 7, none⟩ = false := kx.frozen 7; have z8 : w4.cell? ⟨B2, 8, none⟩ = some (.slice (some ⟨b3, 0, none⟩) T3.length cb3) := kx.cell 8; have fz8 : w4.frozen? ⟨B2, 8, none⟩ = false := kx.frozen 8; have z9 : w4.cell? ⟨B2, 9, none⟩ = some (.slice (some ⟨e3, 0, none⟩) L3.length ce3) := kx.cell 9; have fz9 : w4.frozen? ⟨B2, 9, none⟩ = false := kx.frozen 9; have M5 := Lib.hid ((M.out.drewN 1).next (cb' := cb') (ce' := ce') m4 r4 hb4 he4 u4 OK1.out); have B5 := Lib.hid (u4.below (BW.out.trans (below_drewN (Below.refl _ _) 1)) hM2 hh2 hd2); have MP5 := Lib.hid (fun vs => (MP_.out.drewN 1).upd2 (B2 := B2) u4 vs kw D2.out.1 D2.out.2.1 D2.out.2.2.1 D2.out.2.2.2.1 D2.out.2.2.2.2); clear m4 r4 hb4 he4 u4 kx; unfold rm)
          all_goals
            have B5 := Lib.hid (below_setCells LB2.out [.int .u32 (G1 0 : Int), .int .u32 (G1 1 : Int), .int .u32 (G1 2 : Int), .int .u32 (G1 3 : Int), .int .u32 (G1 4 : Int), .int .u32 (G1 5 : Int), .int .u32 (G1 6 : Int), .int .u32 (G1 7 : Int), .slice (some ⟨b', 0, none⟩) T1.length cb', .slice (some ⟨e', 0, none⟩) L1.length ce'] 0 _ B5.out)
            clear DC z0 fz0 r0 z1 fz1 r1 z2 fz2 r2 z3 fz3 r3 z4 fz4 r4 z5 fz5 r5 z6 fz6 r6 z7 fz7 r7 z8 fz8 r8 z9 fz9 r9 a0 a1 a2 a3 a4 a5 a6
            go_wp2_with fail
            go_roundg (len2 - (kk + 1))
            case measure => omega
            case rel => exact ⟨kk + 1, by omega, by omega, rfl, by go_num, Lib.hid ⟨_, _, _, _, _, _, _, M5.out⟩, Lib.hid (MP5.out [.int .u32 (G1 0 : Int), .int .u32 (G1 1 : Int), .int .u32 (G1 2 : Int), .int .u32 (G1 3 : Int), .int .u32 (G1 4 : Int), .int .u32 (G1 5 : Int), .int .u32 (G1 6 : Int), .int .u32 (G1 7 : Int), .slice (some ⟨b', 0, none⟩) T1.length cb', .slice (some ⟨e', 0, none⟩) L1.length ce']), B5⟩
        · have hltz : ¬ (kk : Int) < (len2 : Int) := by omega
          obtain ⟨G3, T3, L3, b3, cb3, e3, ce3, M⟩ := MW.out
          have N_wr := Lib.hid M
          have P_wr := MP_
          have B_wr := BW
          clear HS2 MW M BW MP_ MO MN BN
          go_wp2_with fail
          refine (mfetch_nil _).mono ?_
          rintro en x0 ⟨rfl, hb⟩
          have N_x0 := Lib.hid (N_wr.out.kept hb)
          have P_x0 := Lib.hid (P_wr.out.kept hb)
          have B_x0 := Lib.hid (B_wr.out.trans (hb.mono B_wr.out.size))
          clear hb
          go_wp2_with fail
          refine (mload_nil _).mono ?_
          rintro en x1 ⟨rfl, hb⟩
          have N_x1 := Lib.hid (N_x0.out.kept hb)
          have P_x1 := Lib.hid (P_x0.out.kept hb)
          have B_x1 := Lib.hid (B_x0.out.trans (hb.mono B_x0.out.size))
          clear hb
          go_wp2_with fail
          refine (msize_nil _).mono ?_
          rintro en x2 ⟨rfl, hb⟩
          have N_x2 := Lib.hid (N_x1.out.kept hb)
          have P_x2 := Lib.hid (P_x1.out.kept hb)
          have B_x2 := Lib.hid (B_x1.out.trans (hb.mono B_x1.out.size))
          clear hb
          go_wp2_with fail
          refine (mpages_nil _).mono ?_
          rintro en x3 ⟨rfl, hb⟩
          have N_x3 := Lib.hid (N_x2.out.kept hb)
          have P_x3 := Lib.hid (P_x2.out.kept hb)
          have B_x3 := Lib.hid (B_x2.out.trans (hb.mono B_x2.out.size))
          clear hb
          go_wp2_with fail
          refine (mpeek_nil _).mono ?_
          rintro en x4 ⟨rfl, hb⟩
          have N_x4 := Lib.hid (N_x3.out.kept hb)
          have P_x4 := Lib.hid (P_x3.out.kept hb)
          have B_x4 := Lib.hid (B_x3.out.trans (hb.mono B_x3.out.size))
          clear hb
          go_wp2_with fail
          refine (mgate_nil _).mono ?_
          rintro en x5 ⟨rfl, hb⟩
          have N_x5 := Lib.hid (N_x4.out.kept hb)
          have P_x5 := Lib.hid (P_x4.out.kept hb)
          have B_x5 := Lib.hid (B_x4.out.trans (hb.mono B_x4.out.size))
          clear hb
          go_wp2_with fail
          refine (mfork_nil _).mono ?_
          rintro en x6 ⟨rfl, hb⟩
          have N_x6 := Lib.hid (N_x5.out.kept hb)
          have P_x6 := Lib.hid (P_x5.out.kept hb)
          have B_x6 := Lib.hid (B_x5.out.trans (hb.mono B_x5.out.size))
          clear hb
          go_wp2_with fail
          refine (mstore_nil _).mono ?_
          rintro en x7 ⟨rfl, hb⟩
          have N_x7 := Lib.hid (N_x6.out.kept hb)
          have P_x7 := Lib.hid (P_x6.out.kept hb)
          have B_x7 := Lib.hid (B_x6.out.trans (hb.mono B_x6.out.size))
          clear hb
          have n0 : x7.cell? ⟨B2, 0, none⟩ = some (.int .u32 (G3 0 : Int)) := N_x7.out.box.cell 0
          have n1 : x7.cell? ⟨B2, 1, none⟩ = some (.int .u32 (G3 1 : Int)) := N_x7.out.box.cell 1
          have n2 : x7.cell? ⟨B2, 2, none⟩ = some (.int .u32 (G3 2 : Int)) := N_x7.out.box.cell 2
          have n3 : x7.cell? ⟨B2, 3, none⟩ = some (.int .u32 (G3 3 : Int)) := N_x7.out.box.cell 3
          have n4 : x7.cell? ⟨B2, 4, none⟩ = some (.int .u32 (G3 4 : Int)) := N_x7.out.box.cell 4
          have n5 : x7.cell? ⟨B2, 5, none⟩ = some (.int .u32 (G3 5 : Int)) := N_x7.out.box.cell 5
          have n6 : x7.cell? ⟨B2, 6, none⟩ = some (.int .u32 (G3 6 : Int)) := N_x7.out.box.cell 6
          have n7 : x7.cell? ⟨B2, 7, none⟩ = some (.int .u32 (G3 7 : Int)) := N_x7.out.box.cell 7
          have n8 : x7.cell? ⟨B2, 8, none⟩ = some (.slice (some ⟨b3, 0, none⟩) T3.length cb3) := N_x7.out.box.cell 8
          have n9 : x7.cell? ⟨B2, 9, none⟩ = some (.slice (some ⟨e3, 0, none⟩) L3.length ce3) := N_x7.out.box.cell 9
          go_wp2_with fail
          refine (same8_c _ M2 g2 h2 c2 d2 cd2 b3 cb3 e3 ce3 G3 T3 L3 N_x7.out.mem N_x7.out.rm).mono ?_
          rintro en y1 ⟨rfl, hb⟩
          have N_y1 := Lib.hid (N_x7.out.kept hb)
          have P_y1 := Lib.hid (P_x7.out.kept hb)
          have B_y1 := Lib.hid (B_x7.out.trans (hb.mono B_x7.out.size))
          clear hb
          clear n0 n1 n2 n3 n4 n5 n6 n7 n8 n9
          have n0 : y1.cell? ⟨w2.heap.size, 0, none⟩ = some (.int .u32 (G 0 : Int)) := P_y1.out.box.cell 0
          have n1 : y1.cell? ⟨w2.heap.size, 1, none⟩ = some (.int .u32 (G 1 : Int)) := P_y1.out.box.cell 1
          have n2 : y1.cell? ⟨w2.heap.size, 2, none⟩ = some (.int .u32 (G 2 : Int)) := P_y1.out.box.cell 2
          have n3 : y1.cell? ⟨w2.heap.size, 3, none⟩ = some (.int .u32 (G 3 : Int)) := P_y1.out.box.cell 3
          have n4 : y1.cell? ⟨w2.heap.size, 4, none⟩ = some (.int .u32 (G 4 : Int)) := P_y1.out.box.cell 4
          have n5 : y1.cell? ⟨w2.heap.size, 5, none⟩ = some (.int .u32 (G 5 : Int)) := P_y1.out.box.cell 5
          have n6 : y1.cell? ⟨w2.heap.size, 6, none⟩ = some (.int .u32 (G 6 : Int)) := P_y1.out.box.cell 6
          have n7 : y1.cell? ⟨w2.heap.size, 7, none⟩ = some (.int .u32 (G 7 : Int)) := P_y1.out.box.cell 7
          have n8 : y1.cell? ⟨w2.heap.size, 8, none⟩ = some (.slice (some ⟨bt, 0, none⟩) T.length ct) := P_y1.out.box.cell 8
          have n9 : y1.cell? ⟨w2.heap.size, 9, none⟩ = some (.slice (some ⟨et, 0, none⟩) L.length cet) := P_y1.out.box.cell 9
          go_wp2_with fail
          refine (same8_c _ MP g h c d cd bt ct et cet G T L P_y1.out.mem P_y1.out.rm).mono ?_
          rintro en y2 ⟨rfl, hb⟩
          have N_y2 := Lib.hid (N_y1.out.kept hb)
          have P_y2 := Lib.hid (P_y1.out.kept hb)
          have B_y2 := Lib.hid (B_y1.out.trans (hb.mono B_y1.out.size))
          clear hb
          clear n0 n1 n2 n3 n4 n5 n6 n7 n8 n9
          go_wp2_with fail
          refine (mput_nil _).mono ?_
          rintro en y3 ⟨rfl, hb⟩
          have N_y3 := Lib.hid (N_y2.out.kept hb)
          have P_y3 := Lib.hid (P_y2.out.kept hb)
          have B_y3 := Lib.hid (B_y2.out.trans (hb.mono B_y2.out.size))
          clear hb
          go_wp2_with fail
          refine (msetgate_nil _).mono ?_
          rintro en y4 ⟨rfl, hb⟩
          have N_y4 := Lib.hid (N_y3.out.kept hb)
          have P_y4 := Lib.hid (P_y3.out.kept hb)
          have B_y4 := Lib.hid (B_y3.out.trans (hb.mono B_y3.out.size))
          clear hb
          go_wp2_with fail
          refine (awake08_c _).mono ?_
          rintro en y5 ⟨rfl, hb⟩
          have N_y5 := Lib.hid (N_y4.out.kept hb)
          have P_y5 := Lib.hid (P_y4.out.kept hb)
          have B_y5 := Lib.hid (B_y4.out.trans (hb.mono B_y4.out.size))
          clear hb
          go_wp2_with fail
          go_ret
          exact ⟨rfl, B_y5.out⟩
end Go.Proofs.Ytjjcmclnjeplkaa.PM
