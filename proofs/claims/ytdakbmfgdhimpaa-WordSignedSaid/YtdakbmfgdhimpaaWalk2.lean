/- Contracts of word.Hex, word.Parse and of the reference's: the digits of a word. Conditions: as each theorem says. -/
import Derived.Test.YtdakbmfgdhimpaaWalk1
namespace Go.Proofs.Ytdakbmfgdhimpaa.W2
open Go.RowKit Go.Proofs.Ytdakbmfgdhimpaa.WM Go.Proofs.Ytdakbmfgdhimpaa.W1
theorem hex_c (x : Nat) (w : World) (hx : x < 4294967296) :
    Calls Try.prog 25 #[.int .u32 (x : Int)] w fun e w' => e = .returned (.string (hexS x)) ∧ Below w.heap.size w w' := by
  have hmk : ∀ W : World, (Instr.makeSlice 49 (.int .i64 8) (.int .i64 8)).run Try.prog W = .ok (.slice (some ⟨W.heap.size, 0, none⟩) 8 8) (W.alloc (.cells (hexA x 0) 5)) := fun _ => by rw [hexA_zero]; kernel_rfl
  go_enter Try.func25, Try.ntmps25
  go_wp2
  go_loopw [0, 8] (fun v i wr => ∃ k y : Nat, k ≤ 8 ∧ i = .int .i64 k ∧ v = .int .u32 (y : Int) ∧ y < 4294967296 ∧ Hid (y = x / 16 ^ k) ∧ wr = w.alloc (.cells (hexA x k) 5)) (fun _ i _ => 8 - (intOf i).toNat)
  case atStart => exact ⟨0, x, by omega, rfl, rfl, hx, Lib.hid (by simp), rfl⟩
  case round =>
    obtain ⟨k, y, hk, rfl, rfl, hy, HY, rfl⟩ := hrel
    by_cases hlt : k < 8
    · have ha := and15 y hy
      have hy1 : y % 16 < 16 := by omega
      have hdig := digits_at (y % 16) hy1
      have hcell := hexA_get x k (7 - k) (by omega)
      rw [if_neg (by omega)] at hcell
      go_wp2
      go_roundw
      case rel =>
        have hs : y % 16 = x / 16 ^ k % 16 := by rw [HY.out]
        exact ⟨k + 1, y / 16, by omega, by go_num, by go_num, by omega, Lib.hid (by rw [HY.out, Nat.pow_succ, Nat.div_div_eq_div_mul]), by rw [hs, hexA_set x k hlt]⟩
      case measure => simp [intOf]; omega
    · have hk : k = 8 := by omega
      subst hk
      have hconv := run_convert_bytes_arg (P := Try.prog) (w.alloc (.cells (hexA x 8) 5)) 49 5 Try.underlying49 Try.underlying5 w.heap.size 0 8 8 (hexL x) (hexL_len x) (fun i hi => by
        rw [Nat.zero_add, hexL_get x i hi]
        have := hexA_get x 8 i hi
        rw [if_pos (by omega)] at this
        rw [← this]
        simp [World.cell?_alloc_at]) 9 Try.underlying9
      go_wp2
      go_ret
      exact ⟨rfl, (Below.refl _ _).alloc (Nat.le_refl _) _⟩
theorem rbits_i (x : Nat) (a n : Int) (w : World) (hx : x < 4294967296) (h0 : 0 ≤ a) (h1 : 0 ≤ n) (h : a + n ≤ 32) :
    Calls Try.prog 13 #[.int .u32 (x : Int), .int .i64 a, .int .i64 n] w fun e w' => e = .returned (.int .u32 ((x / 2 ^ a.toNat % 2 ^ n.toNat : Nat) : Int)) ∧ Drew w w' := by
  obtain ⟨a, rfl⟩ := Int.eq_ofNat_of_zero_le h0
  obtain ⟨n, rfl⟩ := Int.eq_ofNat_of_zero_le h1
  exact rbits_yes x a n w hx (by omega)
theorem rbits_4 (x k : Nat) (a : Int) (w : World) (hx : x < 4294967296) (hk : k < 8) (h : a = 4 * (7 - (k : Int))) :
    Calls Try.prog 13 #[.int .u32 (x : Int), .int .i64 a, .int .i64 4] w fun e w' => e = .returned (.int .u32 ((x / 16 ^ (7 - k) % 16 : Nat) : Int)) ∧ Drew w w' := by
  have := rbits_i x a 4 w hx (by omega) (by omega) (by omega)
  rwa [show a.toNat = 4 * (7 - k) from by omega, pow16, show (2 : Nat) ^ (4 : Int).toNat = 16 from rfl] at this
theorem info_u8 : (Try.prog.info? 5).map (fun i => (i.zero, i.size, i.bytes)) = some (some (.int .u8 0), 1, 1) := by kernel_rfl
theorem rhex_c (x : Nat) (w : World) (hx : x < 4294967296) :
    Calls Try.prog 26 #[.int .u32 (x : Int)] w fun e w' => e = .returned (.string (hexS x)) ∧ Below w.heap.size w w' := by
  obtain ⟨i0, hi, hz0, hz1, hz2⟩ := info_parts info_u8
  go_enter Try.func26, Try.ntmps26
  go_wp2
  go_loopw [3, 4] (fun v i wr => ∃ k : Nat, k ≤ 8 ∧ i = .int .i64 (7 - (k : Int)) ∧ wr.ownsRow w.heap.size 5 1 v k (((hexL x).take k).map (Value.int .u8)) ∧ Below w.heap.size w wr) (fun _ i _ => (intOf i + 1).toNat)
  case atStart => exact ⟨0, by omega, rfl, World.ownsRow_nil _ _ _ _, Below.refl _ _⟩
  case round =>
    obtain ⟨k, hk, rfl, hown, hb⟩ := hrel
    by_cases hlt : k < 8
    · obtain ⟨y, hy⟩ : ∃ y : Nat, y = x / 16 ^ (7 - k) % 16 := ⟨_, rfl⟩
      have hy1 : y < 16 := by omega
      have hdig := digits_at y hy1
      have hc := fun W h => rbits_4 x k (4 * (7 - (k : Int))) W hx hlt h
      rw [← hy] at hc
      have HC := Lib.hid hc
      have HY := Lib.hid hy
      clear hc hy
      go_wp2_with (first | (go_at_call 13; (with_reducible refine (HC.out _ (by omega)).mono ?_); rintro e w' ⟨rfl, ⟨nd, rfl⟩⟩; (try first | exact ⟨rfl, _, World.drewN_drewN _ _ _⟩ | exact ⟨rfl, _, Eq.trans (World.drewN_drewN _ _ _) (congrArg (World.drewN _) (Nat.add_assoc _ _ _))⟩)) | (at_builtin; refine wpList_append_own _ rfl _ _ 49 rfl w.heap.size 5 i0 (.int .u8 0) 1 1 Try.underlying49 hi hz0 hz1 hz2 rfl (by decide) _ _ _ rfl (hown.alloc _) ⟨wr.heap.size, 0, none⟩ 1 1 [.int .u8 (dgc y)] rfl rfl ?c1 ?c2 ?c3 ?c4 ?c5 ?_))
      case c1 => exact cell_one_new (wr.drewN nd) _ _
      case c2 => intro u hu; simp at hu; subst hu; rfl
      case c3 => unfold maxLen; omega
      case c4 => omega
      case c5 => have := hb.size; simp; omega
      intro v' w1 hown' hgrow _
      have hb1 := ((below_drewN hb nd).alloc (by simpa using hb.size) (Obj.cells #[Value.int IntKind.u8 (dgc y)] 5)).grown hgrow (by have := hb.size; simp; omega) (fun g hg => (hown.lt g hg).1)
      have ht := hexL_take x k hlt
      rw [← HY.out] at ht
      have hown2 : w1.ownsRow w.heap.size 5 1 v' (k + 1) (((hexL x).take (k + 1)).map (Value.int .u8)) := by
        rw [ht, List.map_append, List.map_take]; exact hown'
      clear hown' hgrow ht HC hdig
      have H2 := Lib.hid hown2
      clear hown2
      go_wp2
      go_roundw
      case rel => exact ⟨k + 1, by omega, by go_num, H2.out, hb1⟩
      case measure => simp [intOf]; omega
    · have hk : k = 8 := by omega
      subst hk
      rw [List.take_of_length_le (by rw [hexL_len]; omega)] at hown
      have hconv := own_text (P := Try.prog) Try.underlying49 Try.underlying5 Try.underlying9 hown
      go_wp2
      go_ret
      exact ⟨rfl, hb⟩
theorem parse_c (s : ByteArray) (w : World) :
    Calls Try.prog 23 #[.string s] w fun e w' => e = .returned (.tuple #[.int .u32 (parseR s).1, .int .i64 (parseR s).2]) ∧ Drew w w' := by
  by_cases h8 : s.size = 8
  · have hc : ((s.size : Int) != 8) = false := by rw [h8]; rfl
    have HS := Lib.hid h8
    have hs1 : 8 ≤ s.size := by omega
    have hs2 : s.size ≤ 8 := by omega
    clear h8
    go_enter Try.func23, Try.ntmps23
    go_wp2
    go_loop [4, 12] (fun v i => ∃ k u : Nat, k ≤ 8 ∧ i = .int .i64 k ∧ v = .int .u32 (u : Int) ∧ Hid (parseN s k = some u)) (fun _ i => 8 - (intOf i).toNat)
    case atStart => exact ⟨0, 0, by omega, rfl, rfl, Lib.hid rfl⟩
    case round =>
      obtain ⟨k, u, hk, rfl, rfl, HP⟩ := hrel
      by_cases hlt : k < 8
      · have hks : k < s.size := by omega
        have hb : byteAt s k = (s[k]'hks).toNat := byteAt_eq s k hks
        have hl := parseN_lt s k u HP.out
        have HB := Lib.hid hb
        clear hb
        by_cases c1 : 48 ≤ (s[k]'hks).toNat ∧ (s[k]'hks).toNat ≤ 57
        · obtain ⟨c1a, c1b⟩ := c1
          go_wp2
          go_round
          case rel => exact ⟨k + 1, u * 16 + ((s[k]'hks).toNat - 48), by omega, by go_num, by rw [show (((s[k]'hks).toNat : Int) - 48) = (((s[k]'hks).toNat - 48 : Nat) : Int) from by omega, or16 u _ k hl hlt (by omega)], Lib.hid (parseN_good s k u _ HP.out (by rw [HB.out]; unfold dig; rw [if_pos ⟨c1a, c1b⟩]) (by omega))⟩
          case measure => simp [intOf]; omega
        · by_cases c2 : 97 ≤ (s[k]'hks).toNat ∧ (s[k]'hks).toNat ≤ 102
          · obtain ⟨c2a, c2b⟩ := c2
            clear c1
            go_wp2
            go_round
            case rel => exact ⟨k + 1, u * 16 + ((s[k]'hks).toNat - 87), by omega, by go_num, by rw [show (((s[k]'hks).toNat : Int) - 97 + 10) = (((s[k]'hks).toNat - 87 : Nat) : Int) from by omega, or16 u _ k hl hlt (by omega)], Lib.hid (parseN_good s k u _ HP.out (by rw [HB.out]; unfold dig; rw [if_neg (by omega), if_pos ⟨c2a, c2b⟩]) (by omega))⟩
            case measure => simp [intOf]; omega
          · have hbad := Lib.hid (parseR_none s (parseN_bad s k hlt (by rw [HB.out]; unfold dig; rw [if_neg c1, if_neg c2])))
            go_wp2
            all_goals go_ret2
            all_goals exact ⟨by rw [hbad.out]; rfl, Drew.refl _⟩
      · have hk : k = 8 := by omega
        subst hk
        go_wp2
        go_ret2
        exact ⟨by rw [parseR_some s u HS.out HP.out]; rfl, Drew.refl _⟩
  · have hc : ((s.size : Int) != 8) = true := by rw [bne_iff_ne]; omega
    have HS := Lib.hid h8
    clear h8
    go_enter Try.func23, Try.ntmps23
    go_wp2
    go_ret2
    exact ⟨by rw [parseR_size s HS.out]; rfl, Drew.refl _⟩
theorem rparse_c (s : ByteArray) (w : World) :
    Calls Try.prog 24 #[.string s] w fun e w' => e = .returned (.tuple #[.int .u32 (parseR s).1, .int .i64 (parseR s).2]) ∧ Drew w w' := by
  by_cases h8 : s.size = 8
  · have hc : ((s.size : Int) != 8) = false := by rw [h8]; rfl
    have HS := Lib.hid h8
    have hs1 : 8 ≤ s.size := by omega
    have hs2 : s.size ≤ 8 := by omega
    clear h8
    go_enter Try.func24, Try.ntmps24
    go_wp2
    go_loopw [4, 5] (fun v i wr => ∃ k u : Nat, k ≤ 8 ∧ i = .int .i64 k ∧ v = .int .u32 (u : Int) ∧ Hid (parseN s k = some u) ∧ Drew w wr) (fun _ i _ => 8 - (intOf i).toNat)
    case atStart => exact ⟨0, 0, by omega, rfl, rfl, Lib.hid rfl, Drew.refl _⟩
    case round =>
      obtain ⟨k, u, hk, rfl, rfl, HP, hd⟩ := hrel
      obtain ⟨wo, rfl⟩ : ∃ wo : World, wo = wr := ⟨_, rfl⟩
      by_cases hlt : k < 8
      · have hks : k < s.size := by omega
        have hb : byteAt s k = (s[k]'hks).toNat := byteAt_eq s k hks
        have hl := parseN_lt s k u HP.out
        have HB := Lib.hid hb
        clear hb
        go_wp2
        go_loopw [6, 7] (fun v i wr => ∃ j : Nat, j ≤ 16 ∧ i = .int .i64 j ∧ v = .int .i64 ((sofar (dig (byteAt s k)) j : Nat) : Int) ∧ Drew w wr) (fun _ i _ => 16 - (intOf i).toNat)
        case atStart => exact ⟨0, by omega, rfl, by rw [sofar_0]; rfl, hd⟩
        case round =>
          obtain ⟨j, hj, rfl, rfl, hd⟩ := hrel
          by_cases hjl : j < 16
          · by_cases hdj : dig (byteAt s k) = j
            · have hq := digits_eq (s[k]'hks) j hjl (by rw [← HB.out]; exact hdj)
              have HDJ := Lib.hid hdj
              clear hdj
              go_wp2_with fail
              go_quiet (fail)
              go_wp2
              go_roundw
              case rel => exact ⟨j + 1, by omega, by go_num, by rw [HDJ.out, sofar_hit], hd.step _⟩
              case measure => simp [intOf]; omega
            · have hq := digits_ne (s[k]'hks) j hjl (by rw [← HB.out]; exact hdj)
              have HDJ := Lib.hid hdj
              clear hdj
              go_wp2_with fail
              go_quiet (fail)
              go_wp2
              go_roundw
              case rel => exact ⟨j + 1, by omega, by go_num, by rw [sofar_miss _ _ HDJ.out], hd.step _⟩
              case measure => simp [intOf]; omega
          · have hk : j = 16 := by omega
            subst hk
            rw [sofar_16]
            by_cases hdig : dig (byteAt s k) = 16
            · have hbad := Lib.hid (parseR_none s (parseN_bad s k hlt hdig))
              have hdg : (((dig (byteAt s k) : Nat) : Int) == 16) = true := by rw [hdig]; rfl
              clear hdig
              go_wp2
              go_ret2
              exact ⟨by rw [hbad.out]; rfl, hd⟩
            · have hle := dig_le (byteAt s k)
              have hgood := Lib.hid (parseN_good s k u _ HP.out rfl (by omega))
              have hor := Lib.hid (or16 u (dig (byteAt s k)) k hl hlt (by omega))
              have hdg : (((dig (byteAt s k) : Nat) : Int) == 16) = false := by rw [beq_eq_false_iff_ne]; omega
              go_wp2
              go_roundw
              case rel => exact ⟨k + 1, _, by omega, by go_num, by rw [hor.out], hgood, hd⟩
              case measure => simp [intOf]; omega
      · have hk : k = 8 := by omega
        subst hk
        go_wp2
        go_ret2
        exact ⟨by rw [parseR_some s u HS.out HP.out]; rfl, hd⟩
  · have hc : ((s.size : Int) != 8) = true := by rw [bne_iff_ne]; omega
    have HS := Lib.hid h8
    clear h8
    go_enter Try.func24, Try.ntmps24
    go_wp2
    go_ret2
    exact ⟨by rw [parseR_size s HS.out]; rfl, Drew.refl _⟩
end Go.Proofs.Ytdakbmfgdhimpaa.W2
