/- law09: the closed case (awake). No condition. -/
import Derived.Test.YthnbdeibjbicpaaGreatHartG
import Derived.Test.YthnbdeibjbicpaaGreatHartE
namespace Go.Proofs.YthnbdeibjbicpaaGreat.PM
set_option linter.unusedVariables false
set_option linter.unusedSimpArgs false
open Go.RowKit
theorem step5 (W : World) (M g h c d cd : Nat) (m : Mem W M g h c d cd (fun _ => 0 : Nat → Nat) [nz] (List.replicate 16 0)) :
    Calls Tryz.prog 7 #[.agg #[.int .u32 5, .int .u32 0, .int .u32 0, .int .u32 0, .int .u32 0, .int .u32 0, .int .u32 0, .int .u32 0, .int .u32 0, .slice none 0 0, .int .u8 0, .int .u64 0, .int .u32 5], .pointer (some ⟨M, 0, none⟩), .int .u64 3] W fun e w' => ∃ src cap, e = .returned (.tuple #[.agg #[.int .u32 5, .int .u32 0, .int .u32 0, .int .u32 0, .int .u32 0, .int .u32 0, .int .u32 0, .int .u32 0, .int .u32 0, .slice src 0 cap, .int .u8 0, .int .u64 3, .int .u32 5], .agg #[.bool true, .bool false, .int .u32 0, .int .u32 0]]) ∧ Mem w' M g h c d cd (fun _ => 0 : Nat → Nat) [nz] (List.replicate 16 0) ∧ UpdX W.heap.size d W w' := by
  have hs : hstep (fun _ => 0 : Nat → Nat) [nz] (List.replicate 16 0) 5 (fun _ => 0 : Nat → Nat) [] 0 5 3 0 = ⟨5, (fun _ => 0 : Nat → Nat), [], 0, 3, (List.replicate 16 0), true, false, 0, 0⟩ := by rfl
  have key := step_c W M g h c d cd (fun _ => 0 : Nat → Nat) [nz] (List.replicate 16 0) 5 (fun _ => 0 : Nat → Nat) [] 0 5 3 0 none 0 m (fun i hi => by cases hi) (by decide) (by decide) (fun _ _ => by decide) (by decide)
  rw [hs] at key
  exact key.mono fun e w' r => by
    obtain ⟨s, he, sp⟩ := r
    obtain ⟨src, cap, rfl, _⟩ := sp.1.form
    exact ⟨src, cap, he, sp.2.1, sp.2.2⟩
theorem step70 (W : World) (M g h c d cd : Nat) (m : Mem W M g h c d cd (fun _ => 0 : Nat → Nat) [nz] (List.replicate 16 0)) :
    Calls Tryz.prog 7 #[.agg #[.int .u32 70, .int .u32 0, .int .u32 0, .int .u32 0, .int .u32 0, .int .u32 0, .int .u32 0, .int .u32 0, .int .u32 0, .slice none 0 0, .int .u8 0, .int .u64 0, .int .u32 0], .pointer (some ⟨M, 0, none⟩), .int .u64 3] W fun e w' => ∃ src cap, e = .returned (.tuple #[.agg #[.int .u32 70, .int .u32 0, .int .u32 0, .int .u32 0, .int .u32 0, .int .u32 0, .int .u32 0, .int .u32 0, .int .u32 0, .slice src 0 cap, .int .u8 2, .int .u64 0, .int .u32 0], .agg #[.bool false, .bool false, .int .u32 0, .int .u32 0]]) ∧ Mem w' M g h c d cd (fun _ => 0 : Nat → Nat) [nz] (List.replicate 16 0) ∧ UpdX W.heap.size d W w' := by
  have hs : hstep (fun _ => 0 : Nat → Nat) [nz] (List.replicate 16 0) 70 (fun _ => 0 : Nat → Nat) [] 0 0 3 0 = ⟨70, (fun _ => 0 : Nat → Nat), [], 2, 0, (List.replicate 16 0), false, false, 0, 0⟩ := by rfl
  have key := step_c W M g h c d cd (fun _ => 0 : Nat → Nat) [nz] (List.replicate 16 0) 70 (fun _ => 0 : Nat → Nat) [] 0 0 3 0 none 0 m (fun i hi => by cases hi) (by decide) (by decide) (fun _ _ => by decide) (by decide)
  rw [hs] at key
  exact key.mono fun e w' r => by
    obtain ⟨s, he, sp⟩ := r
    obtain ⟨src, cap, rfl, _⟩ := sp.1.form
    exact ⟨src, cap, he, sp.2.1, sp.2.2⟩
theorem keep16 {w w2 : World} {b2 b3 b4 : Nat} {s5 : Option Addr} {c5 : Nat} (hb : Below w.heap.size w w2) (k : w.cell? ⟨b2, 0, none⟩ = some (.int .u32 5) ∧ w.cell? ⟨b2, 1, none⟩ = some (.int .u32 0) ∧ w.cell? ⟨b2, 2, none⟩ = some (.int .u32 0) ∧ w.cell? ⟨b2, 3, none⟩ = some (.int .u32 0) ∧ w.cell? ⟨b2, 4, none⟩ = some (.int .u32 0) ∧ w.cell? ⟨b2, 5, none⟩ = some (.int .u32 0) ∧ w.cell? ⟨b2, 6, none⟩ = some (.int .u32 0) ∧ w.cell? ⟨b2, 7, none⟩ = some (.int .u32 0) ∧ w.cell? ⟨b2, 8, none⟩ = some (.int .u32 0) ∧ w.cell? ⟨b2, 9, none⟩ = some (.slice s5 0 c5) ∧ w.cell? ⟨b2, 10, none⟩ = some (.int .u8 0) ∧ w.cell? ⟨b2, 11, none⟩ = some (.int .u64 3) ∧ w.cell? ⟨b2, 12, none⟩ = some (.int .u32 5) ∧ w.cell? ⟨b3, 0, none⟩ = some (.bool true) ∧ w.cell? ⟨b4, 0, none⟩ = some (.int .u32 70) ∧ w.cell? ⟨b4, 10, none⟩ = some (.int .u8 2)) : w2.cell? ⟨b2, 0, none⟩ = some (.int .u32 5) ∧ w2.cell? ⟨b2, 1, none⟩ = some (.int .u32 0) ∧ w2.cell? ⟨b2, 2, none⟩ = some (.int .u32 0) ∧ w2.cell? ⟨b2, 3, none⟩ = some (.int .u32 0) ∧ w2.cell? ⟨b2, 4, none⟩ = some (.int .u32 0) ∧ w2.cell? ⟨b2, 5, none⟩ = some (.int .u32 0) ∧ w2.cell? ⟨b2, 6, none⟩ = some (.int .u32 0) ∧ w2.cell? ⟨b2, 7, none⟩ = some (.int .u32 0) ∧ w2.cell? ⟨b2, 8, none⟩ = some (.int .u32 0) ∧ w2.cell? ⟨b2, 9, none⟩ = some (.slice s5 0 c5) ∧ w2.cell? ⟨b2, 10, none⟩ = some (.int .u8 0) ∧ w2.cell? ⟨b2, 11, none⟩ = some (.int .u64 3) ∧ w2.cell? ⟨b2, 12, none⟩ = some (.int .u32 5) ∧ w2.cell? ⟨b3, 0, none⟩ = some (.bool true) ∧ w2.cell? ⟨b4, 0, none⟩ = some (.int .u32 70) ∧ w2.cell? ⟨b4, 10, none⟩ = some (.int .u8 2) := by
  obtain ⟨k0, k1, k2, k3, k4, k5, k6, k7, k8, k9, k10, k11, k12, k13, k14, k15⟩ := k
  exact ⟨keep1m hb k0, keep1m hb k1, keep1m hb k2, keep1m hb k3, keep1m hb k4, keep1m hb k5, keep1m hb k6, keep1m hb k7, keep1m hb k8, keep1m hb k9, keep1m hb k10, keep1m hb k11, keep1m hb k12, keep1m hb k13, keep1m hb k14, keep1m hb k15⟩
set_option maxRecDepth 100000 in
set_option maxHeartbeats 8000000 in
theorem awake09_c (w : World) : Calls Tryz.prog 11 #[] w fun e w' => e = .returned (.bool true) ∧ Below w.heap.size w w' := by
  have NC : ∀ W, Calls Tryz.prog 50 #[.int .u32 5] W fun e w' => e = .returned (.agg #[.int .u32 5, .int .u32 0, .int .u32 0, .int .u32 0, .int .u32 0, .int .u32 0, .int .u32 0, .int .u32 0, .int .u32 0, .slice none 0 0, .int .u8 0, .int .u64 0, .int .u32 5]) ∧ Below W.heap.size W w' := fun W => hnew_c W 5
  have CC : ∀ W s c, Calls Tryz.prog 25 #[.agg #[.int .u32 5, .int .u32 0, .int .u32 0, .int .u32 0, .int .u32 0, .int .u32 0, .int .u32 0, .int .u32 0, .int .u32 0, .slice s 0 c, .int .u8 0, .int .u64 3, .int .u32 5]] W fun e w' => ∃ s' c', e = .returned (.agg #[.int .u32 5, .int .u32 0, .int .u32 0, .int .u32 0, .int .u32 0, .int .u32 0, .int .u32 0, .int .u32 0, .int .u32 0, .slice s' 0 c', .int .u8 0, .int .u64 3, .int .u32 5]) ∧ Below W.heap.size W w' := fun W s c =>
    (copy_c W 5 (fun _ => 0 : Nat → Nat) s c 0 3 5 [] (fun i hi => by cases hi) (by decide)).mono fun e w' r => by
      obtain ⟨t, he, ow, hb⟩ := r
      obtain ⟨s', c', rfl, _⟩ := ow.form
      exact ⟨s', c', he, hb⟩
  have SC : ∀ W s c s' c', Calls Tryz.prog 51 #[.agg #[.int .u32 5, .int .u32 0, .int .u32 0, .int .u32 0, .int .u32 0, .int .u32 0, .int .u32 0, .int .u32 0, .int .u32 0, .slice s 0 c, .int .u8 0, .int .u64 3, .int .u32 5], .agg #[.int .u32 5, .int .u32 0, .int .u32 0, .int .u32 0, .int .u32 0, .int .u32 0, .int .u32 0, .int .u32 0, .int .u32 0, .slice s' 0 c', .int .u8 0, .int .u64 3, .int .u32 5]] W fun e w' => e = .returned (.bool true) ∧ Below W.heap.size W w' := fun W s c s' c' =>
    same_h W 5 (fun _ => 0 : Nat → Nat) [] 0 3 5 5 (fun _ => 0 : Nat → Nat) [] 0 3 5 s s' c c' (fun i hi => by cases hi) (fun i hi => by cases hi) (by decide)
  replace NC := Lib.hid NC
  replace CC := Lib.hid CC
  replace SC := Lib.hid SC
  go_enter Tryz.func11, Tryz.ntmps11
  go_wp2_with fail
  refine (newmem_c w 1).mono ?_
  rintro e w1 ⟨M, g, h, c, d, cd, rfl, hM, hg, hh, hd, m, hb⟩
  have M1 : Hid (Mem w1 M g h c d cd (fun _ => 0 : Nat → Nat) [nz] (List.replicate 16 0)) := Lib.hid m
  have B1 := Lib.hid hb
  clear m hb hM hg hh
  go_wp2_with fail
  refine (NC.out _).mono ?_
  rintro e w2 ⟨rfl, hb⟩
  have M2 := Lib.hid (M1.out.kept hb)
  have B2 := Lib.hid (B1.out.trans (hb.mono B1.out.size))
  clear hb
  go_wp2_with fail
  refine (step5 _ _ _ _ _ _ _ M2.out).mono ?_
  rintro e w3 ⟨s5, c5, rfl, m3, u3⟩
  have B3 : Hid (Below w.heap.size w w3) := Lib.hid ⟨u3.os.trans B2.out.os, u3.tape.trans B2.out.tape, u3.output.trans B2.out.output, Nat.le_trans B2.out.size u3.size, fun k hk => (u3.block k (Nat.lt_of_lt_of_le hk B2.out.size) (by omega)).trans (B2.out.block k hk)⟩
  have hdl := m3.wds.lt
  have M3 := Lib.hid ((m3.alloc (.cells #[.int .u32 5, .int .u32 0, .int .u32 0, .int .u32 0, .int .u32 0, .int .u32 0, .int .u32 0, .int .u32 0, .int .u32 0, .slice s5 0 c5, .int .u8 0, .int .u64 3, .int .u32 5] 30)).alloc (.cells #[.bool true, .bool false, .int .u32 0, .int .u32 0] 41))
  have K3 := Lib.hid ((Blk.new w3 30 #[.int .u32 5, .int .u32 0, .int .u32 0, .int .u32 0, .int .u32 0, .int .u32 0, .int .u32 0, .int .u32 0, .int .u32 0, .slice s5 0 c5, .int .u8 0, .int .u64 3, .int .u32 5]).alloc (.cells #[.bool true, .bool false, .int .u32 0, .int .u32 0] 41))
  have N3 := Lib.hid (Blk.new (w3.alloc (.cells #[.int .u32 5, .int .u32 0, .int .u32 0, .int .u32 0, .int .u32 0, .int .u32 0, .int .u32 0, .int .u32 0, .int .u32 0, .slice s5 0 c5, .int .u8 0, .int .u64 3, .int .u32 5] 30)) 41 #[.bool true, .bool false, .int .u32 0, .int .u32 0])
  have s3 : (w3.alloc (.cells #[.int .u32 5, .int .u32 0, .int .u32 0, .int .u32 0, .int .u32 0, .int .u32 0, .int .u32 0, .int .u32 0, .int .u32 0, .slice s5 0 c5, .int .u8 0, .int .u64 3, .int .u32 5] 30)).heap.size = w3.heap.size + 1 := by simp
  rw [s3] at N3
  have B3' := Lib.hid ((B3.out.alloc B3.out.size (.cells #[.int .u32 5, .int .u32 0, .int .u32 0, .int .u32 0, .int .u32 0, .int .u32 0, .int .u32 0, .int .u32 0, .int .u32 0, .slice s5 0 c5, .int .u8 0, .int .u64 3, .int .u32 5] 30)).alloc (by have := B3.out.size; simp; omega) (.cells #[.bool true, .bool false, .int .u32 0, .int .u32 0] 41))
  clear m3 u3 s3
  generalize hW3 : (w3.alloc (.cells #[.int .u32 5, .int .u32 0, .int .u32 0, .int .u32 0, .int .u32 0, .int .u32 0, .int .u32 0, .int .u32 0, .int .u32 0, .slice s5 0 c5, .int .u8 0, .int .u64 3, .int .u32 5] 30)).alloc (.cells #[.bool true, .bool false, .int .u32 0, .int .u32 0] 41) = W3 at M3 K3 N3 B3'
  have KW3 := Lib.hid hW3
  clear hW3
  go_wp2_with fail
  (try rw [KW3.out])
  refine (step70 _ _ _ _ _ _ _ M3.out).mono ?_
  rintro e w4 ⟨s7, c7, rfl, m4, u4⟩
  have lk := K3.out.lt
  have ln := N3.out.lt
  have K4 : Hid (Blk w4 w3.heap.size 30 #[.int .u32 5, .int .u32 0, .int .u32 0, .int .u32 0, .int .u32 0, .int .u32 0, .int .u32 0, .int .u32 0, .int .u32 0, .slice s5 0 c5, .int .u8 0, .int .u64 3, .int .u32 5]) := Lib.hid ((u4.block _ lk (by omega)).trans K3.out)
  have N4 : Hid (Blk w4 (w3.heap.size + 1) 41 #[.bool true, .bool false, .int .u32 0, .int .u32 0]) := Lib.hid ((u4.block _ ln (by omega)).trans N3.out)
  have B4 : Hid (Below w.heap.size w w4) := Lib.hid ⟨u4.os.trans B3'.out.os, u4.tape.trans B3'.out.tape, u4.output.trans B3'.out.output, Nat.le_trans B3'.out.size u4.size, fun k hk => (u4.block k (Nat.lt_of_lt_of_le hk B3'.out.size) (by omega)).trans (B3'.out.block k hk)⟩
  have K5 := Lib.hid ((K4.out.alloc (.cells #[.int .u32 70, .int .u32 0, .int .u32 0, .int .u32 0, .int .u32 0, .int .u32 0, .int .u32 0, .int .u32 0, .int .u32 0, .slice s7 0 c7, .int .u8 2, .int .u64 0, .int .u32 0] 30)).alloc (.cells #[.bool false, .bool false, .int .u32 0, .int .u32 0] 41))
  have N5 := Lib.hid ((N4.out.alloc (.cells #[.int .u32 70, .int .u32 0, .int .u32 0, .int .u32 0, .int .u32 0, .int .u32 0, .int .u32 0, .int .u32 0, .int .u32 0, .slice s7 0 c7, .int .u8 2, .int .u64 0, .int .u32 0] 30)).alloc (.cells #[.bool false, .bool false, .int .u32 0, .int .u32 0] 41))
  have J5 := Lib.hid ((Blk.new w4 30 #[.int .u32 70, .int .u32 0, .int .u32 0, .int .u32 0, .int .u32 0, .int .u32 0, .int .u32 0, .int .u32 0, .int .u32 0, .slice s7 0 c7, .int .u8 2, .int .u64 0, .int .u32 0]).alloc (.cells #[.bool false, .bool false, .int .u32 0, .int .u32 0] 41))
  have B5 := Lib.hid ((B4.out.alloc B4.out.size (.cells #[.int .u32 70, .int .u32 0, .int .u32 0, .int .u32 0, .int .u32 0, .int .u32 0, .int .u32 0, .int .u32 0, .int .u32 0, .slice s7 0 c7, .int .u8 2, .int .u64 0, .int .u32 0] 30)).alloc (by have := B4.out.size; simp; omega) (.cells #[.bool false, .bool false, .int .u32 0, .int .u32 0] 41))
  clear m4 u4
  generalize hW5 : (w4.alloc (.cells #[.int .u32 70, .int .u32 0, .int .u32 0, .int .u32 0, .int .u32 0, .int .u32 0, .int .u32 0, .int .u32 0, .int .u32 0, .slice s7 0 c7, .int .u8 2, .int .u64 0, .int .u32 0] 30)).alloc (.cells #[.bool false, .bool false, .int .u32 0, .int .u32 0] 41) = W5 at K5 N5 J5 B5
  have KW5 := Lib.hid hW5
  clear hW5 K4 N4 B4 K3 N3 M3 B3 B3' B1 B2 M1 M2
  have TX : Hid (W5.drew.cell? ⟨w3.heap.size, 0, none⟩ = some (.int .u32 5) ∧ W5.drew.cell? ⟨w3.heap.size, 1, none⟩ = some (.int .u32 0) ∧ W5.drew.cell? ⟨w3.heap.size, 2, none⟩ = some (.int .u32 0) ∧ W5.drew.cell? ⟨w3.heap.size, 3, none⟩ = some (.int .u32 0) ∧ W5.drew.cell? ⟨w3.heap.size, 4, none⟩ = some (.int .u32 0) ∧ W5.drew.cell? ⟨w3.heap.size, 5, none⟩ = some (.int .u32 0) ∧ W5.drew.cell? ⟨w3.heap.size, 6, none⟩ = some (.int .u32 0) ∧ W5.drew.cell? ⟨w3.heap.size, 7, none⟩ = some (.int .u32 0) ∧ W5.drew.cell? ⟨w3.heap.size, 8, none⟩ = some (.int .u32 0) ∧ W5.drew.cell? ⟨w3.heap.size, 9, none⟩ = some (.slice s5 0 c5) ∧ W5.drew.cell? ⟨w3.heap.size, 10, none⟩ = some (.int .u8 0) ∧ W5.drew.cell? ⟨w3.heap.size, 11, none⟩ = some (.int .u64 3) ∧ W5.drew.cell? ⟨w3.heap.size, 12, none⟩ = some (.int .u32 5) ∧ W5.drew.cell? ⟨w3.heap.size + 1, 0, none⟩ = some (.bool true) ∧ W5.drew.cell? ⟨w4.heap.size, 0, none⟩ = some (.int .u32 70) ∧ W5.drew.cell? ⟨w4.heap.size, 10, none⟩ = some (.int .u8 2)) := Lib.hid ⟨K5.out.cell 0, K5.out.cell 1, K5.out.cell 2, K5.out.cell 3, K5.out.cell 4, K5.out.cell 5, K5.out.cell 6, K5.out.cell 7, K5.out.cell 8, K5.out.cell 9, K5.out.cell 10, K5.out.cell 11, K5.out.cell 12, N5.out.cell 0, J5.out.cell 0, J5.out.cell 10⟩
  go_wp2_with fail
  (try rw [KW5.out])
  go_region_held3 (fun w' => w'.cell? ⟨w3.heap.size, 0, none⟩ = some (.int .u32 5) ∧ w'.cell? ⟨w3.heap.size, 1, none⟩ = some (.int .u32 0) ∧ w'.cell? ⟨w3.heap.size, 2, none⟩ = some (.int .u32 0) ∧ w'.cell? ⟨w3.heap.size, 3, none⟩ = some (.int .u32 0) ∧ w'.cell? ⟨w3.heap.size, 4, none⟩ = some (.int .u32 0) ∧ w'.cell? ⟨w3.heap.size, 5, none⟩ = some (.int .u32 0) ∧ w'.cell? ⟨w3.heap.size, 6, none⟩ = some (.int .u32 0) ∧ w'.cell? ⟨w3.heap.size, 7, none⟩ = some (.int .u32 0) ∧ w'.cell? ⟨w3.heap.size, 8, none⟩ = some (.int .u32 0) ∧ w'.cell? ⟨w3.heap.size, 9, none⟩ = some (.slice s5 0 c5) ∧ w'.cell? ⟨w3.heap.size, 10, none⟩ = some (.int .u8 0) ∧ w'.cell? ⟨w3.heap.size, 11, none⟩ = some (.int .u64 3) ∧ w'.cell? ⟨w3.heap.size, 12, none⟩ = some (.int .u32 5) ∧ w'.cell? ⟨w3.heap.size + 1, 0, none⟩ = some (.bool true) ∧ w'.cell? ⟨w4.heap.size, 0, none⟩ = some (.int .u32 70) ∧ w'.cell? ⟨w4.heap.size, 10, none⟩ = some (.int .u8 2)) (first | exact TX.out | (apply keep16 hb7; assumption) | (apply keep16 hb6; assumption) | go_keep) ((first
    | (go_at_call 25; (with_reducible refine (CC.out _ _ _).mono ?_); rintro e w6 ⟨s8, c8, rfl, hb6⟩; have B6 := Lib.hid ((below_drewN B5.out 1).trans (hb6.mono (below_drewN B5.out 1).size)))
    | (go_at_call 51; (with_reducible refine (SC.out _ _ _ _ _).mono ?_); rintro e w7 ⟨rfl, hb7⟩; have B7 := Lib.hid (B6.out.trans (hb7.mono B6.out.size)))))
  go_wp2_with fail
  go_ret
  exact ⟨rfl, B7.out⟩
end Go.Proofs.YthnbdeibjbicpaaGreat.PM
