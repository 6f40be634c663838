/- The kit's contract of slices.Clone, at words; contracts of memory's Fork, and of what a memory that is not there answers. Conditions: the memory's cells. -/
import Derived.Test.YthnbdeibjbicpaaMem3
import Derived.Test.YthnbdeibjbicpaaTab9
set_option linter.unusedSimpArgs false
namespace Go.Proofs.Ythnbdeibjbicpaa.PM
set_option linter.unusedVariables false
open Go.Shelf Go.RowKit Go.Lib
def renW : Ren := ⟨fun | 41 => 25 | n => n, fun | 4 => 4 | 22 => 24 | 23 => 22 | n => n, fun n => n⟩
theorem laysW : SlLaysE0.n41 Try.prog renW where
  mixed := by kernel_rfl
  f41 := ⟨"slices.Clone[[]uint32,uint32]", by decide, Try.func25.trans (congrArg some (by kernel_rfl))⟩
  t4 := Try.underlying4
  a4 := Try.isAgg4
  z4 := Try.sizeOf4
  v4 := Try.zeroValue4
  t22 := Try.underlying24
  a22 := Try.isAgg24
  z22 := Try.sizeOf24
  v22 := Try.zeroValue24
/-- What a row of the call's own holds, as words. -/
theorem Wds.own4 {w : World} {base : Nat} {e : TypeId} {v : Value} {L : List Nat} (ho : w.ownsRow base e 1 v L.length (L.map fun (x : Nat) => Value.int .u32 (x : Int))) (hv : v ≠ .slice none 0 0) : ∃ h c, v = .slice (some ⟨h, 0, none⟩) L.length c ∧ base ≤ h ∧ Wds w h L ∧ L.length ≤ c := by
  obtain ⟨hl, ⟨rfl, _⟩ | ⟨g, cap, cur, rfl, hg, hb, hn, hm, hs, hx⟩⟩ := ho
  · exact absurd rfl hv
  refine ⟨g, cap, rfl, hg, ⟨Blk.lt hb, fun j hj => ?_, fun o => Blk.frozen hb o⟩, hn⟩
  rw [Blk.cell hb j]
  have h1 : (L.map fun (x : Nat) => Value.int .u32 (x : Int))[j]? = some (.int .u32 ((L[j]! : Nat) : Int)) := by
    rw [List.getElem?_map, List.getElem!_eq_getElem?_getD, List.getElem?_eq_getElem hj]
    rfl
  rw [← hx, List.getElem?_take] at h1
  split at h1
  · rw [← h1]; simp
  · cases h1
/-- slices.Clone of words. -/
theorem clonew_c (h o c : Nat) (L : List Nat) (w : World) (hc : ∀ i, i < L.length → w.cell? ⟨h, o + i, none⟩ = some (.int .u32 ((L[i]! : Nat) : Int))) (hn : L.length ≤ 35184372088832) :
    Calls Try.prog 25 #[.slice (some ⟨h, o, none⟩) L.length c] w fun e w' => ∃ h' c', e = .returned (.slice (some ⟨h', 0, none⟩) L.length c') ∧ w.heap.size ≤ h' ∧ Wds w' h' L ∧ L.length ≤ c' ∧ Below w.heap.size w w' := by
  have key := AnyE.slices_Clone laysW Try.t22 (.int .u32 0) 1 4 (by kernel_rfl) (by kernel_rfl) (by kernel_rfl) (by kernel_rfl) (by kernel_rfl) (by decide) Try.sizeOf22 h o L.length c (L.map fun (x : Nat) => Value.int .u32 (x : Int)) w (by simp) (by simp [maxLen]; omega) (by omega)
    (fun j u hj => by
      rw [List.getElem?_map] at hj
      have hjl : j < L.length := by
        rcases Nat.lt_or_ge j L.length with q | q
        · exact q
        · rw [List.getElem?_eq_none q] at hj; cases hj
      rw [hc j hjl, List.getElem!_eq_getElem?_getD]
      rw [List.getElem?_eq_getElem hjl] at hj ⊢
      exact hj)
    (fun u hu => by
      obtain ⟨x, _, rfl⟩ := List.mem_map.1 hu
      rfl)
  refine key.mono fun e w' ⟨v, he, ho, hv, hb⟩ => ?_
  obtain ⟨h', c', rfl, hg, hp, hc⟩ := Wds.own4 ho hv
  exact ⟨h', c', he, hg, hp, hc, hb⟩
def MForked (w : World) (G : Nat → Nat) (T : List Page) (L : List Nat) (e : Ending) (w' : World) : Prop := ∃ M g h c d cd, e = .returned (.pointer (some ⟨M, 0, none⟩)) ∧ w.heap.size ≤ M ∧ w.heap.size ≤ g ∧ w.heap.size ≤ h ∧ w.heap.size ≤ d ∧ Mem w' M g h c d cd G T L ∧ Below w.heap.size w w'
theorem keep10m {w w' : World} {g : Nat} {v0 v1 v2 v3 v4 v5 v6 v7 v8 v9 : Value} (hb : Below w.heap.size w w') (c : w.cell? ⟨g, 0, none⟩ = some v0 ∧ w.cell? ⟨g, 1, none⟩ = some v1 ∧ w.cell? ⟨g, 2, none⟩ = some v2 ∧ w.cell? ⟨g, 3, none⟩ = some v3 ∧ w.cell? ⟨g, 4, none⟩ = some v4 ∧ w.cell? ⟨g, 5, none⟩ = some v5 ∧ w.cell? ⟨g, 6, none⟩ = some v6 ∧ w.cell? ⟨g, 7, none⟩ = some v7 ∧ w.cell? ⟨g, 8, none⟩ = some v8 ∧ w.cell? ⟨g, 9, none⟩ = some v9) :
    w'.cell? ⟨g, 0, none⟩ = some v0 ∧ w'.cell? ⟨g, 1, none⟩ = some v1 ∧ w'.cell? ⟨g, 2, none⟩ = some v2 ∧ w'.cell? ⟨g, 3, none⟩ = some v3 ∧ w'.cell? ⟨g, 4, none⟩ = some v4 ∧ w'.cell? ⟨g, 5, none⟩ = some v5 ∧ w'.cell? ⟨g, 6, none⟩ = some v6 ∧ w'.cell? ⟨g, 7, none⟩ = some v7 ∧ w'.cell? ⟨g, 8, none⟩ = some v8 ∧ w'.cell? ⟨g, 9, none⟩ = some v9 :=
  ⟨keep1m hb c.1, keep1m hb c.2.1, keep1m hb c.2.2.1, keep1m hb c.2.2.2.1, keep1m hb c.2.2.2.2.1, keep1m hb c.2.2.2.2.2.1, keep1m hb c.2.2.2.2.2.2.1, keep1m hb c.2.2.2.2.2.2.2.1, keep1m hb c.2.2.2.2.2.2.2.2.1, keep1m hb c.2.2.2.2.2.2.2.2.2⟩
theorem g8 (G : Nat → Nat) (i : Nat) (hi : i < 8) : [G 0, G 1, G 2, G 3, G 4, G 5, G 6, G 7].getD i 0 = G i := by
  match i, hi with
  | 0, _ => rfl
  | 1, _ => rfl
  | 2, _ => rfl
  | 3, _ => rfl
  | 4, _ => rfl
  | 5, _ => rfl
  | 6, _ => rfl
  | 7, _ => rfl
set_option maxRecDepth 100000 in
set_option maxHeartbeats 4000000 in
theorem mfork_c {w : World} {M g h c d cd : Nat} {G : Nat → Nat} {T : List Page} {L : List Nat} (m : Mem w M g h c d cd G T L) :
    Calls Try.prog 19 #[.pointer (some ⟨M, 0, none⟩)] w fun e w' => MForked w G T L e w' := by
  have few := m.tab.few
  have h4 : L.length ≤ 4096 := by have := m.len; omega
  have m0 := m.ten.gate 0 (by omega)
  have m1 := m.ten.gate 1 (by omega)
  have m2 := m.ten.gate 2 (by omega)
  have m3 := m.ten.gate 3 (by omega)
  have m4 := m.ten.gate 4 (by omega)
  have m5 := m.ten.gate 5 (by omega)
  have m6 := m.ten.gate 6 (by omega)
  have m7 := m.ten.gate 7 (by omega)
  have m8 := m.ten.c8
  have m9 := m.ten.c9
  have FC := Lib.hid (fun W (q : Mem W M g h c d cd G T L) => fork_c W g h c T q.tab)
  have CC := Lib.hid (fun W (q : Mem W M g h c d cd G T L) => clonew_c d 0 cd L W (fun i hi => by rw [Nat.zero_add]; exact q.wds.cell i hi) (by omega))
  have M0 := Lib.hid m
  have TX : Hid ((w.drewN 1).cell? ⟨M, 0, none⟩ = some (.int .u32 (G 0 : Int)) ∧ (w.drewN 1).cell? ⟨M, 1, none⟩ = some (.int .u32 (G 1 : Int)) ∧ (w.drewN 1).cell? ⟨M, 2, none⟩ = some (.int .u32 (G 2 : Int)) ∧ (w.drewN 1).cell? ⟨M, 3, none⟩ = some (.int .u32 (G 3 : Int)) ∧ (w.drewN 1).cell? ⟨M, 4, none⟩ = some (.int .u32 (G 4 : Int)) ∧ (w.drewN 1).cell? ⟨M, 5, none⟩ = some (.int .u32 (G 5 : Int)) ∧ (w.drewN 1).cell? ⟨M, 6, none⟩ = some (.int .u32 (G 6 : Int)) ∧ (w.drewN 1).cell? ⟨M, 7, none⟩ = some (.int .u32 (G 7 : Int)) ∧ (w.drewN 1).cell? ⟨M, 8, none⟩ = some (.pointer (some ⟨g, 0, none⟩)) ∧ (w.drewN 1).cell? ⟨M, 9, none⟩ = some (.slice (some ⟨d, 0, none⟩) L.length cd)) := Lib.hid ⟨m0, m1, m2, m3, m4, m5, m6, m7, m8, m9⟩
  clear m
  go_enter Try.func19, Try.ntmps19
  go_wp2_with fail
  go_region_held3 (fun w' => w'.cell? ⟨M, 0, none⟩ = some (.int .u32 (G 0 : Int)) ∧ w'.cell? ⟨M, 1, none⟩ = some (.int .u32 (G 1 : Int)) ∧ w'.cell? ⟨M, 2, none⟩ = some (.int .u32 (G 2 : Int)) ∧ w'.cell? ⟨M, 3, none⟩ = some (.int .u32 (G 3 : Int)) ∧ w'.cell? ⟨M, 4, none⟩ = some (.int .u32 (G 4 : Int)) ∧ w'.cell? ⟨M, 5, none⟩ = some (.int .u32 (G 5 : Int)) ∧ w'.cell? ⟨M, 6, none⟩ = some (.int .u32 (G 6 : Int)) ∧ w'.cell? ⟨M, 7, none⟩ = some (.int .u32 (G 7 : Int)) ∧ w'.cell? ⟨M, 8, none⟩ = some (.pointer (some ⟨g, 0, none⟩)) ∧ w'.cell? ⟨M, 9, none⟩ = some (.slice (some ⟨d, 0, none⟩) L.length cd)) (first | (exact TX.out) | (apply keep10m hb2; assumption) | (apply keep10m hb1; assumption) | go_keep) ((first
    | (go_at_call 49; (with_reducible refine (FC.out _ ?_).mono ?_); (first | exact M0.out.drewN 1); rintro e w1 ⟨g', h', c', rfl, hg, hh, t1, hb1⟩; have M1 := Lib.hid ((M0.out.drewN 1).kept hb1))
    | (go_at_call 25; (with_reducible refine (CC.out _ ?_).mono ?_); (first | exact M1.out); rintro e w2 ⟨d', cd', rfl, hd, wd2, hcd, hb2⟩)))
  have hb1 : Below w.heap.size w w1 := (below_drewN (Below.refl _ w) 1).trans hb1
  have hg : w.heap.size ≤ g' := hg
  have hh : w.heap.size ≤ h' := hh
  have F : Hid (MForked w G T L (.returned (.pointer (some ⟨w2.heap.size, 0, none⟩))) (w2.alloc (.cells #[.int .u32 (G 0 : Int), .int .u32 (G 1 : Int), .int .u32 (G 2 : Int), .int .u32 (G 3 : Int), .int .u32 (G 4 : Int), .int .u32 (G 5 : Int), .int .u32 (G 6 : Int), .int .u32 (G 7 : Int), .pointer (some ⟨g', 0, none⟩), .slice (some ⟨d', 0, none⟩) L.length cd'] 96))) := by
    have s1 := hb1.size
    have s2 := hb2.size
    have l1 := t1.lt
    have l2 := t1.pgs.lt
    have l3 := wd2.lt
    exact Lib.hid ⟨w2.heap.size, g', h', c', d', cd', rfl, by omega, hg, hh, by omega, ⟨(Ten.new w2 96 (G 0) (G 1) (G 2) (G 3) (G 4) (G 5) (G 6) (G 7) _ _).congr (fun i hi => g8 G i hi), (t1.kept hb2).alloc _, wd2.alloc _, M0.out.len, hcd, by omega, by omega, by omega, by omega, by omega⟩, (hb1.trans (hb2.mono s1)).alloc (by omega) _⟩
  clear hb1 hb2 t1 wd2 hcd hd hg hh M0 M1 FC CC
  go_wp2_with fail
  go_ret
  exact F.out
theorem mfetch_nil (w : World) : Calls Try.prog 39 #[.pointer none, .int .u32 1, .int .u64 0] w fun e w' => e = .returned (.tuple #[.int .u32 0, .int .u16 0, .bool false]) ∧ Below w.heap.size w w' := by
  go_enter Try.func39, Try.ntmps39
  go_wp2_with fail
  refine bodyPost_ret (v := .tuple #[.int .u32 0, .int .u16 0, .bool false]) (by simp [results, Try.results39, go_sem, *]) rfl ?_
  exact ⟨rfl, Below.refl _ _⟩
theorem mload_nil (w : World) : Calls Try.prog 75 #[.pointer none, .int .u32 1, .int .u64 0] w fun e w' => e = .returned (.tuple #[.int .u32 0, .bool false]) ∧ Below w.heap.size w w' := by
  go_enter Try.func75, Try.ntmps75
  go_wp2_with fail
  refine bodyPost_ret (v := .tuple #[.int .u32 0, .bool false]) (by simp [results, Try.results75, go_sem, *]) rfl ?_
  exact ⟨rfl, Below.refl _ _⟩
theorem msize_nil (w : World) : Calls Try.prog 20 #[.pointer none] w fun e w' => e = .returned (.int .i64 0) ∧ Below w.heap.size w w' := by
  go_enter Try.func20, Try.ntmps20
  go_wp2_with fail
  go_ret
  exact ⟨rfl, Below.refl _ _⟩
theorem mpages_nil (w : World) : Calls Try.prog 22 #[.pointer none] w fun e w' => e = .returned (.pointer none) ∧ Below w.heap.size w w' := by
  go_enter Try.func22, Try.ntmps22
  go_wp2_with fail
  go_ret
  exact ⟨rfl, Below.refl _ _⟩
theorem mpeek_nil (w : World) : Calls Try.prog 21 #[.pointer none, .int .u32 1] w fun e w' => e = .returned (.int .u32 0) ∧ Below w.heap.size w w' := by
  go_enter Try.func21, Try.ntmps21
  go_wp2_with fail
  go_ret
  exact ⟨rfl, Below.refl _ _⟩
theorem mgate_nil (w : World) : Calls Try.prog 79 #[.pointer none, .int .i64 0] w fun e w' => e = .returned (.int .u32 0) ∧ Below w.heap.size w w' := by
  go_enter Try.func79, Try.ntmps79
  go_wp2_with fail
  go_ret
  exact ⟨rfl, Below.refl _ _⟩
theorem mfork_nil (w : World) : Calls Try.prog 19 #[.pointer none] w fun e w' => e = .returned (.pointer none) ∧ Below w.heap.size w w' := by
  go_enter Try.func19, Try.ntmps19
  go_wp2_with fail
  go_ret
  exact ⟨rfl, Below.refl _ _⟩
theorem mstore_nil (w : World) : Calls Try.prog 76 #[.pointer none, .int .u32 90, .int .u32 1, .int .u64 0, .int .u16 1] w fun e w' => e = .returned (.bool false) ∧ Below w.heap.size w w' := by
  go_enter Try.func76, Try.ntmps76
  go_wp2_with fail
  go_ret
  exact ⟨rfl, Below.refl _ _⟩
theorem mput_nil (w : World) : Calls Try.prog 31 #[.pointer none, .int .u32 90, .int .u32 1] w fun e w' => e = .returned (.int .i64 1) ∧ Below w.heap.size w w' := by
  go_enter Try.func31, Try.ntmps31
  go_wp2_with fail
  go_ret
  exact ⟨rfl, Below.refl _ _⟩
theorem msetgate_nil (w : World) : Calls Try.prog 35 #[.pointer none, .int .i64 0, .int .u32 1] w fun e w' => e = .returned (.int .i64 1) ∧ Below w.heap.size w w' := by
  go_enter Try.func35, Try.ntmps35
  go_wp2_with fail
  go_ret
  exact ⟨rfl, Below.refl _ _⟩
end Go.Proofs.Ythnbdeibjbicpaa.PM
