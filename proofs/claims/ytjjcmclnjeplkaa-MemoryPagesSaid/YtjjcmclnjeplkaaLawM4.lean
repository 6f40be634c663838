/- MemoryPages walked. Conditions: the memories' cells. -/
import Derived.Test.YtjjcmclnjeplkaaLawM3
import Derived.Test.YtjjcmclnjeplkaaRefD
import Derived.Test.YtjjcmclnjeplkaaRefC
import Derived.Test.YtjjcmclnjeplkaaRef8
namespace Go.Proofs.Ytjjcmclnjeplkaa.PM
set_option linter.unusedVariables false
set_option linter.unusedSimpArgs false
open Go.RowKit
set_option maxRecDepth 100000 in
set_option maxHeartbeats 8000000 in
theorem law_mpages (x : Nat) (n : Int) (w : World) (hx : x < 4294967296) :
    Calls Try.prog 9 #[.int .u32 (x : Int), .int .i64 n] w fun en w' => en = .returned (.bool true) ∧ Below w.heap.size w w' := by
  have PO := Lib.hid (fun W => pageof_c W x hx)
  have RPO := Lib.hid (fun W => rpageof_c W x hx)
  generalize pageOf x = pp at PO RPO
  have NC := Lib.hid (fun W => newmem_c W n)
  have RN := Lib.hid (fun W => rnewmem_c W n)
  go_enter Try.func9, Try.ntmps9
  go_wp2_with fail
  refine (NC.out _).mono ?_
  rintro en w1 ⟨M, g, h, c, d, cd, rfl, hM, hg, hh, hd, m, hb1⟩
  go_wp2_with fail
  refine (RN.out _).mono ?_
  rintro en w2 ⟨b, cb, e, ce, rfl, hbb, hbe, hne, r, hb2⟩
  have h4 : (List.replicate (16 * newLen n) 0).length ≤ 4096 := by have := newLen_le n; simp; omega
  have m2 := m.kept hb2
  generalize List.replicate (newLen n) nz = T at m m2 r h4 ⊢
  generalize List.replicate (16 * newLen n) 0 = L at m m2 r h4 ⊢
  generalize (fun _ => 0 : Nat → Nat) = G at m m2 r h4 ⊢
  have B0 := Lib.hid (hb1.trans (hb2.mono hb1.size))
  have few := r.few
  clear m hb1 hb2 hM hg hh hd hbb hbe hne
  unfold rm
  generalize hW : w2.alloc (.cells #[.int .u32 (G 0 : Int), .int .u32 (G 1 : Int), .int .u32 (G 2 : Int), .int .u32 (G 3 : Int), .int .u32 (G 4 : Int), .int .u32 (G 5 : Int), .int .u32 (G 6 : Int), .int .u32 (G 7 : Int), .slice (some ⟨b, 0, none⟩) T.length cb, .slice (some ⟨e, 0, none⟩) L.length ce] 64) = W2
  have KT : Hid (Blk W2 w2.heap.size 64 #[.int .u32 (G 0 : Int), .int .u32 (G 1 : Int), .int .u32 (G 2 : Int), .int .u32 (G 3 : Int), .int .u32 (G 4 : Int), .int .u32 (G 5 : Int), .int .u32 (G 6 : Int), .int .u32 (G 7 : Int), .slice (some ⟨b, 0, none⟩) T.length cb, .slice (some ⟨e, 0, none⟩) L.length ce]) := Lib.hid (hW ▸ Blk.new w2 64 #[.int .u32 (G 0 : Int), .int .u32 (G 1 : Int), .int .u32 (G 2 : Int), .int .u32 (G 3 : Int), .int .u32 (G 4 : Int), .int .u32 (G 5 : Int), .int .u32 (G 6 : Int), .int .u32 (G 7 : Int), .slice (some ⟨b, 0, none⟩) T.length cb, .slice (some ⟨e, 0, none⟩) L.length ce])
  have M2 : Hid (Mem W2 M g h c d cd G T L) := Lib.hid (hW ▸ m2.alloc _)
  have R2 : Hid (RM W2 b e T L) := Lib.hid (hW ▸ r.alloc _)
  have B2 : Hid (Below w.heap.size w W2) := Lib.hid (hW ▸ B0.out.alloc B0.out.size _)
  have SC := Lib.hid (fun W (q : Mem W M g h c d cd G T L) => size_c q)
  have RS := fun W => rsize_c W G b cb e ce T L h4
  have LK := fun W (q : Mem W M g h c d cd G T L) (p : RM W b e T L) => looks_c W M g h c d cd b cb e ce G T L q p x 0 hx
  unfold rm at RS LK
  have RS := Lib.hid RS
  have LK : Hid (∀ W, Mem W M g h c d cd G T L → RM W b e T L → Calls Try.prog 41 #[.pointer (some ⟨M, 0, none⟩), .agg #[.int .u32 (G 0 : Int), .int .u32 (G 1 : Int), .int .u32 (G 2 : Int), .int .u32 (G 3 : Int), .int .u32 (G 4 : Int), .int .u32 (G 5 : Int), .int .u32 (G 6 : Int), .int .u32 (G 7 : Int), .slice (some ⟨b, 0, none⟩) T.length cb, .slice (some ⟨e, 0, none⟩) L.length ce], .int .u32 (x : Int), .int .u64 0] W fun en w' => en = .returned (.bool true) ∧ Below W.heap.size W w') := Lib.hid LK
  have PG := Lib.hid (fun W (q : Mem W M g h c d cd G T L) => pages_c q)
  have LN := Lib.hid (fun W (q : Tab W g h c T) => len_c W g h c T q)
  have TX := Lib.hid (ten10 (KT.out.drewN 1))
  clear m2 r B0 NC RN
  go_wp2_with fail
  (try rw [hW])
  clear hW
  go_region_held3 (fun w' => w'.cell? ⟨w2.heap.size, 0, none⟩ = some (.int .u32 (G 0 : Int)) ∧ w'.cell? ⟨w2.heap.size, 1, none⟩ = some (.int .u32 (G 1 : Int)) ∧ w'.cell? ⟨w2.heap.size, 2, none⟩ = some (.int .u32 (G 2 : Int)) ∧ w'.cell? ⟨w2.heap.size, 3, none⟩ = some (.int .u32 (G 3 : Int)) ∧ w'.cell? ⟨w2.heap.size, 4, none⟩ = some (.int .u32 (G 4 : Int)) ∧ w'.cell? ⟨w2.heap.size, 5, none⟩ = some (.int .u32 (G 5 : Int)) ∧ w'.cell? ⟨w2.heap.size, 6, none⟩ = some (.int .u32 (G 6 : Int)) ∧ w'.cell? ⟨w2.heap.size, 7, none⟩ = some (.int .u32 (G 7 : Int)) ∧ w'.cell? ⟨w2.heap.size, 8, none⟩ = some (.slice (some ⟨b, 0, none⟩) T.length cb) ∧ w'.cell? ⟨w2.heap.size, 9, none⟩ = some (.slice (some ⟨e, 0, none⟩) L.length ce)) (first | (exact TX.out) | (apply keep10 hb6; assumption) | (apply keep10 hb5; assumption) | (apply keep10 hb4; assumption) | go_keep) ((first
    | (go_at_call 36; (with_reducible refine (PO.out _).mono ?_); rintro en w3 ⟨rfl, rfl⟩)
    | (go_at_call 37; (with_reducible refine (RPO.out _).mono ?_); rintro en w3 ⟨rfl, rfl⟩)
    | (go_at_call 38; (with_reducible refine (SC.out _ ?_).mono ?_); (first | exact M2.out.drewN 1); rintro en w3 ⟨rfl, rfl⟩)
    | (go_at_call 39; (with_reducible refine (RS.out _).mono ?_); rintro en w4 ⟨rfl, hb4⟩; have M4 := Lib.hid ((M2.out.drewN 1).kept hb4); have R4 := Lib.hid ((R2.out.drewN 1).kept hb4); have B4 := Lib.hid ((below_drewN B2.out 1).trans (hb4.mono (below_drewN B2.out 1).size)))
    | (go_at_call 40; (with_reducible refine (PG.out _ ?_).mono ?_); (first | exact M4.out); rintro en w5 ⟨rfl, rfl⟩)
    | (go_at_call 26; (with_reducible refine (LN.out _ ?_).mono ?_); (first | exact M4.out.tab); rintro en w5 ⟨rfl, rfl⟩)
    | (go_at_call 41; (with_reducible refine (LK.out _ ?_ ?_).mono ?_); (first | exact M4.out); (first | exact R4.out); rintro en w5 ⟨rfl, hb5⟩; have B5 := Lib.hid (B4.out.trans (hb5.mono B4.out.size)))
    | (go_at_call 42; (with_reducible refine (awake08_c _).mono ?_); rintro en w6 ⟨rfl, hb6⟩; have B6 := Lib.hid (B5.out.trans (hb6.mono B5.out.size)))))
  go_wp2_with fail
  go_ret
  exact ⟨rfl, B6.out⟩
end Go.Proofs.Ytjjcmclnjeplkaa.PM
