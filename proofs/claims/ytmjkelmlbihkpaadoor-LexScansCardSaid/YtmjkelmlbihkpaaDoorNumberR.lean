/-
  A number's text: the reference's reader.
-/
import Derived.Test.YtmjkelmlbihkpaaDoorNumberH
set_option linter.unusedVariables false
set_option linter.unusedSimpArgs false
namespace Go.Proofs.YtmjkelmlbihkpaaDoor
open Go.ChangeShapes Go.WideShapes Go.ChangeAt Go.RowKit

theorem hex_wrap' (N D : Nat) : IntKind.u64.wrap (IntKind.u64.wrap (16 * (N : Int)) + (D : Int)) = (((16 * N + D) % 18446744073709551616 : Nat) : Int) := by
  rw [IntKind.wrap_u64, IntKind.wrap_u64]
  omega
theorem byte_lt (c : UInt8) : c.toNat < 256 := c.toNat_lt
set_option maxRecDepth 100000 in
set_option maxHeartbeats 2000000 in
theorem rnumber_dec (s : ByteArray) (w : World) (hs : s.size ≤ maxLen) (hx : isHexB s = false) : Calls Tryd.prog 37 #[.string s] w (Ret (.tuple #[.int .i64 ((numS s).getD 0), .bool (numS s).isSome]) w) := by
  have e0 : numS s = if s.size = 0 then none else (decGo s.data.toList 0).map (fun n : Nat => wrap64 (n : Int)) := by unfold numS; rw [hx]; rfl
  unfold maxLen at hs
  have hx2 : 2 < s.size → ((s.extract 0 2).toList == [48, 120]) = false := by
    intro h
    unfold isHexB at hx
    simpa [h] using hx
  clear hx
  generalize hR : numS s = R at e0 ⊢
  clear hR
  have E0 := Lib.hid e0
  clear e0
  by_cases h2 : 2 < s.size
  all_goals
    first | (have hx3 := hx2 h2; have h3 : 3 ≤ s.size := h2) | have h3 : ¬ 3 ≤ s.size := h2
    clear hx2
    go_enter Tryd.func37, Tryd.ntmps37
    go_wp2
    go_loop [7, 8] (fun n i => ∃ (pos N : Nat), i = .int .i64 (pos : Int) ∧ pos ≤ s.size ∧ n = .int .i64 (N : Int) ∧ N ≤ 9223372036854775807 ∧ Hid (decGo (s.data.toList.drop pos) N = decGo s.data.toList 0)) (fun _ i => s.size - (intOf i).toNat)
    case atStart => exact ⟨0, 0, rfl, by omega, rfl, by omega, Lib.hid rfl⟩
    case round =>
      obtain ⟨pos, N, rfl, hps, rfl, hN, hG⟩ := hrel
      by_cases hp : pos < s.size
      · have hd := drop_at hp
        have HG := Lib.hid hG.out
        clear hG
        have hG := HG.out
        rw [hd] at hG
        clear hd HG
        have hcl := fun w => rdigit_any (s[pos]'hp).toNat w (byte_lt _)
        have hDl := hexV_le (s[pos]'hp).toNat
        have HN := Lib.hid hN
        clear hN
        by_cases h10 : hexV (s[pos]'hp).toNat < 10
        · have HG := Lib.hid hG
          clear hG
          go_wp2_with (go_at_call 55; refine (hcl _).mono ?_; rintro e w' ⟨rfl, rfl⟩)
          · have hq : 9 < (hexV (s[pos]'hp).toNat : Int) ∨ (9223372036854775807 - (hexV (s[pos]'hp).toNat : Int)) / 10 < N := by assumption
            have hG := HG.out
            rw [decGo_over (by omega)] at hG
            have hR : R = none := by rw [E0.out, ← hG]; simp
            subst hR
            go_ret2
            exact ⟨rfl, rfl⟩
          · have hq : (hexV (s[pos]'hp).toNat : Int) ≤ 9 ∧ (N : Int) ≤ (9223372036854775807 - (hexV (s[pos]'hp).toNat : Int)) / 10 := by assumption
            have hG := HG.out
            rw [decGo_step h10 (by omega)] at hG
            go_round
            case rel => exact ⟨pos + 1, 10 * N + hexV (s[pos]'hp).toNat, by go_num, by omega, by go_num, by omega, Lib.hid hG⟩
            case measure => simp [intOf]; omega
        · rw [decGo_bad h10] at hG
          have hR : R = none := by rw [E0.out, ← hG]; simp
          subst hR
          clear hG
          go_wp2_with (go_at_call 55; refine (hcl _).mono ?_; rintro e w' ⟨rfl, rfl⟩)
          go_ret2
          exact ⟨rfl, rfl⟩
      · obtain rfl : pos = s.size := by omega
        have hG' := hG.out
        rw [List.drop_of_length_le (by simp)] at hG'
        have hR := E0.out
        rw [← hG'] at hR
        have HR := Lib.hid hR
        have HG2 := Lib.hid hG'
        clear hG hG' hR
        by_cases hz : s.size = 0
        · obtain ⟨z1, z2⟩ := bytes_none hz
          have hR : R = none := by rw [HR.out, if_pos hz]
          have hN0 : N = 0 := by
            have h := HG2.out
            rw [List.eq_nil_of_length_eq_zero (show s.data.toList.length = 0 by simpa using hz)] at h
            simpa [decGo] using h
          subst hR hN0
          clear hz
          first
            | (exfalso; omega)
            | (go_wp2
               go_ret2
               exact ⟨rfl, rfl⟩)
        · obtain ⟨z1, z2⟩ := bytes_some hz
          have hR : R = some (N : Int) := by rw [HR.out, if_neg hz, decGo, Option.map_some, wrap_in (by omega) (by omega)]
          subst hR
          clear hz
          go_wp2
          go_ret2
          exact ⟨rfl, rfl⟩

set_option maxRecDepth 100000 in
set_option maxHeartbeats 2000000 in
theorem rnumber_hex (s : ByteArray) (w : World) (hs : s.size ≤ maxLen) (hx : isHexB s = true) : Calls Tryd.prog 37 #[.string s] w (Ret (.tuple #[.int .i64 ((numS s).getD 0), .bool (numS s).isSome]) w) := by
  have e0 : numS s = if s.size ≤ 18 then (hexGo (s.data.toList.drop 2) 0).map (fun n : Nat => wrap64 (n : Int)) else none := by
    unfold numS
    rw [hx]
    rfl
  unfold maxLen at hs
  have h2 : 2 < s.size := by unfold isHexB at hx; simp at hx; exact hx.1
  have h3 : 3 ≤ s.size := h2
  have hx3 : ((s.extract 0 2).toList == [48, 120]) = true := by
    unfold isHexB at hx
    simpa [h2] using hx
  clear hx
  generalize hR : numS s = R at e0 ⊢
  clear hR
  have E0 := Lib.hid e0
  clear e0
  go_enter Tryd.func37, Tryd.ntmps37
  go_wp2
  go_loop [4, 5] (fun n i => ∃ (pos N : Nat), i = .int .i64 (pos : Int) ∧ pos ≤ s.size ∧ pos ≤ 18 ∧ 2 ≤ pos ∧ n = .int .u64 (N : Int) ∧ Hid (hexGo (s.data.toList.drop pos) N = hexGo (s.data.toList.drop 2) 0)) (fun _ i => s.size - (intOf i).toNat)
  case atStart => exact ⟨2, 0, rfl, by omega, by omega, by omega, rfl, Lib.hid rfl⟩
  case round =>
    obtain ⟨pos, N, rfl, hps, h18, h2p, rfl, hG⟩ := hrel
    by_cases hp : pos < s.size
    · have hd := drop_at hp
      have HG := Lib.hid hG.out
      clear hG
      have hG := HG.out
      rw [hd] at hG
      clear hd HG
      have hcl := fun w => rdigit_any (s[pos]'hp).toNat w (byte_lt _)
      have hDl := hexV_le (s[pos]'hp).toNat
      by_cases h10 : hexV (s[pos]'hp).toNat < 16
      · by_cases h17 : pos ≤ 17
        · rw [hexGo_step h10] at hG
          have HG := Lib.hid hG
          clear hG
          go_wp2_with (go_at_call 55; refine (hcl _).mono ?_; rintro e w' ⟨rfl, rfl⟩)
          go_round
          case rel => exact ⟨pos + 1, (16 * N + hexV (s[pos]'hp).toNat) % 18446744073709551616, by go_num, by omega, by omega, by omega, by first | rw [hex_wrap] | rw [hex_wrap'], HG⟩
          case measure => simp [intOf]; omega
        · have hR : R = none := by rw [E0.out, if_neg (by omega)]
          subst hR
          clear hG
          have hq : (17 : Int) < pos := by omega
          go_wp2_with (go_at_call 55; refine (hcl _).mono ?_; rintro e w' ⟨rfl, rfl⟩)
          go_ret2
          exact ⟨rfl, rfl⟩
      · rw [hexGo_bad h10] at hG
        have hR : R = none := by rw [E0.out, ← hG]; simp
        subst hR
        clear hG
        go_wp2_with (go_at_call 55; refine (hcl _).mono ?_; rintro e w' ⟨rfl, rfl⟩)
        go_ret2
        exact ⟨rfl, rfl⟩
    · obtain rfl : pos = s.size := by omega
      have hG' := hG.out
      rw [List.drop_of_length_le (by simp)] at hG'
      have hR := E0.out
      rw [← hG', if_pos h18, hexGo, Option.map_some] at hR
      obtain ⟨v, hv⟩ : ∃ v, wrap64 (N : Int) = v := ⟨_, rfl⟩
      rw [hv] at hR
      have HV := Lib.hid hv
      subst hR
      clear hG hG' hv
      go_wp2
      go_ret2
      exact ⟨ret_ib HV.out rfl, rfl⟩
theorem rnumber_any (s : ByteArray) (w : World) (hs : s.size ≤ maxLen) : Calls Tryd.prog 37 #[.string s] w (Ret (.tuple #[.int .i64 ((numS s).getD 0), .bool (numS s).isSome]) w) := by
  cases hx : isHexB s
  · exact rnumber_dec s w hs hx
  · exact rnumber_hex s w hs hx
end Go.Proofs.YtmjkelmlbihkpaaDoor
