/-
  The reference's run and blank.
-/
import Derived.Test.YtmjkelmlbihkpaaDoorLexW
import Derived.Test.YtmjkelmlbihkpaaDoorQuote
set_option linter.unusedVariables false
set_option linter.unusedSimpArgs false
namespace Go.Proofs.YtmjkelmlbihkpaaDoor
open Go.ChangeShapes Go.WideShapes Go.ChangeAt Go.RowKit

set_option maxRecDepth 100000 in
set_option maxHeartbeats 4000000 in
theorem rrun_any (s : ByteArray) (hs : s.size ≤ 1000000) (w : World) : Calls Tryd.prog 36 #[.string s] w (Ret (.int .i64 (runL s.data.toList : Nat)) w) := by
  obtain ⟨T, hT⟩ : ∃ T, T = runL s.data.toList := ⟨_, rfl⟩
  rw [← hT]
  have HT := Lib.hid hT
  have hlen : s.data.toList.length = s.size := by simp
  have HLL := Lib.hid hlen
  clear hT hlen
  go_enter Tryd.func36, Tryd.ntmps36
  go_wp2_with fail
  go_loop [3] (fun v => ∃ i : Nat, i ≤ s.size ∧ v = .int .i64 (i : Int) ∧ Hid (i + runL (s.data.toList.drop i) = T)) (fun v => s.size - (intOf v).toNat)
  case atStart => exact ⟨0, by omega, rfl, Lib.hid (by rw [List.drop_zero, HT.out]; omega)⟩
  case round =>
    obtain ⟨i, hi, rfl, HI⟩ := hrel
    by_cases hlt : i < s.size
    · have hlt' : (i : Int) < (s.size : Int) := by omega
      have hi0 : (0 : Int) ≤ (i : Int) := by omega
      have hpart := fun w => rpart_any s[i].toNat w (UInt8.toNat_lt _)
      have hd := drop_at hlt
      have hw1 : IntKind.i64.wrap ((i : Int) + 1) = (i : Int) + 1 := IntWalk.i64_in _ (by omega)
      cases hp : partN s[i].toNat with
      | true =>
        have HI2 := Lib.hid (show (i + 1) + runL (s.data.toList.drop (i + 1)) = T by have h := HI.out; rw [hd, runL_yes hp] at h; omega)
        rw [hp] at hpart
        have HP := Lib.hid hpart
        clear hpart hd hp
        go_wp2_with fail
        refine (HP.out _).mono ?_
        rintro e w2 ⟨rfl, rfl⟩
        go_wp2_with fail
        go_round
        case rel => exact ⟨i + 1, by omega, by go_num, HI2⟩
        case measure => simp [intOf]; omega
      | false =>
        have HE := Lib.hid (show T = i by have h := HI.out; rw [hd, runL_no hp] at h; omega)
        rw [hp] at hpart
        have HP := Lib.hid hpart
        clear hpart hd hp
        go_wp2_with fail
        refine (HP.out _).mono ?_
        rintro e w2 ⟨rfl, rfl⟩
        go_wp2
        go_ret
        exact ⟨by rw [HE.out]; rfl, rfl⟩
    · have hlt' : ¬ (i : Int) < (s.size : Int) := by omega
      have HE := Lib.hid (show T = i by have h := HI.out; rw [List.drop_eq_nil_of_le (by rw [HLL.out]; omega)] at h; simpa [runL] using h.symm)
      go_wp2
      go_ret
      exact ⟨by rw [HE.out]; rfl, rfl⟩
theorem ext_two {s : ByteArray} {i : Nat} (h : i + 1 < s.size) : s.extract i (i + 2) = ⟨#[s[i], s[i + 1]]⟩ := by
  rw [ext_take, drop_at (show i < s.size by omega), drop_at h]
  rfl
set_option maxRecDepth 100000 in
set_option maxHeartbeats 8000000 in
theorem rblank_any (s : ByteArray) (hs : s.size ≤ 1000000) (w : World) : Calls Tryd.prog 22 #[.string s] w (Ret (.int .i64 (blankL false s.data.toList : Nat)) w) := by
  obtain ⟨T, hT⟩ : ∃ T, T = blankL false s.data.toList := ⟨_, rfl⟩
  rw [← hT]
  have HT := Lib.hid hT
  have hlen : s.data.toList.length = s.size := by simp
  have HLL := Lib.hid hlen
  clear hT hlen
  go_enter Tryd.func22, Tryd.ntmps22
  go_wp2_with fail
  go_loop [3] (fun v => ∃ i : Nat, i ≤ s.size ∧ v = .int .i64 (i : Int) ∧ Hid (i + blankL false (s.data.toList.drop i) = T)) (fun v => s.size - (intOf v).toNat)
  case atStart => exact ⟨0, by omega, rfl, Lib.hid (by rw [List.drop_zero, HT.out]; omega)⟩
  case round =>
    obtain ⟨i, hi, rfl, HI⟩ := hrel
    by_cases hlt : i < s.size
    case neg =>
      have hlt' : ¬ (i : Int) < (s.size : Int) := by omega
      have HE := Lib.hid (show T = i by have h := HI.out; rw [List.drop_eq_nil_of_le (by rw [HLL.out]; omega), blank_nil] at h; omega)
      go_wp2
      go_ret
      exact ⟨by rw [HE.out]; rfl, rfl⟩
    have hlt' : (i : Int) < (s.size : Int) := by omega
    have hi0 : (0 : Int) ≤ (i : Int) := by omega
    have hd := drop_at hlt
    have hw1 : IntKind.i64.wrap ((i : Int) + 1) = (i : Int) + 1 := IntWalk.i64_in _ (by omega)
    have hw2 : IntKind.i64.wrap ((i : Int) + 2) = (i : Int) + 2 := IntWalk.i64_in _ (by omega)
    by_cases hb : blB s[i] = true
    case pos =>
      have HI2 := Lib.hid (show (i + 1) + blankL false (s.data.toList.drop (i + 1)) = T by have h := HI.out; rw [hd, blank_yes hb] at h; omega)
      have hc : s[i] = 32 ∨ s[i] = 9 ∨ s[i] = 10 ∨ s[i] = 13 := by simpa [blB, or_assoc] using hb
      clear hd hb
      rcases hc with h | h | h | h
      all_goals
        have q1 : ((s[i].toNat : Int) == 32) = decide (s[i] = 32) := by rw [h]; rfl
        have q2 : ((s[i].toNat : Int) == 9) = decide (s[i] = 9) := by rw [h]; rfl
        have q3 : ((s[i].toNat : Int) == 10) = decide (s[i] = 10) := by rw [h]; rfl
        have q4 : ((s[i].toNat : Int) == 13) = decide (s[i] = 13) := by rw [h]; rfl
        rw [h] at q1 q2 q3 q4
        simp at q1 q2 q3 q4
        go_wp2_with fail
        go_round
        case rel => exact ⟨i + 1, by omega, by go_num, HI2⟩
        case measure => simp [intOf]; omega
    have hbf : blB s[i] = false := by cases h : blB s[i] with | false => rfl | true => exact (hb h).elim
    have hn : ¬ s[i] = 32 ∧ ¬ s[i] = 9 ∧ ¬ s[i] = 10 ∧ ¬ s[i] = 13 := by simpa [blB, or_assoc] using hb
    have q1 : ((s[i].toNat : Int) == 32) = false := u8_lit (n := 32) (by decide) hn.1
    have q2 : ((s[i].toNat : Int) == 9) = false := u8_lit (n := 9) (by decide) hn.2.1
    have q3 : ((s[i].toNat : Int) == 10) = false := u8_lit (n := 10) (by decide) hn.2.2.1
    have q4 : ((s[i].toNat : Int) == 13) = false := u8_lit (n := 13) (by decide) hn.2.2.2
    clear hn hb
    by_cases hl2 : i + 1 < s.size
    case neg =>
      have hl2' : ¬ (i : Int) + 1 < (s.size : Int) := by omega
      have HE := Lib.hid (show T = i by
        have h := HI.out
        rw [hd, List.drop_eq_nil_of_le (by rw [HLL.out]; omega), blank_no hbf (fun h => by simp at h)] at h
        omega)
      clear hd hbf
      go_wp2
      go_ret
      exact ⟨by rw [HE.out]; rfl, rfl⟩
    have hl2' : (i : Int) + 1 < (s.size : Int) := by omega
    have hl3 : (i : Int) + 2 ≤ (s.size : Int) := by omega
    have hl4 : (i : Int) ≤ (i : Int) + 2 := by omega
    have hd2 := drop_at hl2
    obtain ⟨sx, hsx⟩ : ∃ sx, sx = s.extract i (i + 2) := ⟨_, rfl⟩
    have hx := hsx.symm
    have hxe := ext_two hl2
    by_cases hdash : s[i] = 45 ∧ s[i + 1] = 45
    case neg =>
      have hxn : (sx.toList == [45, 45]) = false := by
        rw [beq_eq_false_iff_ne, ByteArray.toList_eq, hsx, hxe]
        intro e
        simp at e
        exact hdash e
      have HE := Lib.hid (show T = i by
        have h := HI.out
        rw [hd, hd2, blank_no hbf (fun h => hdash ⟨h.1, by simpa using h.2⟩)] at h
        omega)
      clear hd hbf hd2 hxe hdash hsx
      go_wp2
      go_ret
      exact ⟨by rw [HE.out]; rfl, rfl⟩
    have hxy : (sx.toList == [45, 45]) = true := by
      rw [beq_iff_eq, ByteArray.toList_eq, hsx, hxe, hdash.1, hdash.2]
    have HI2 := Lib.hid (show i + blankL true (s.data.toList.drop i) = T by
      have h := HI.out
      rw [hd, hd2, hdash.1, hdash.2, blank_note] at h
      rw [hd, hd2, hdash.1, hdash.2, note_on (by decide), note_on (by decide)]
      omega)
    have H45 := Lib.hid hdash.1
    clear hd hbf hd2 hxe hdash hsx
    have hl5 : (i : Int) + 1 < (s.size : Int) := hl2'
    go_wp2_with fail
    go_loop [3] (fun v => ∃ j : Nat, i ≤ j ∧ (j = i → s[i] = 45) ∧ j ≤ s.size ∧ v = .int .i64 (j : Int) ∧ Hid (j + blankL true (s.data.toList.drop j) = T)) (fun v => s.size - (intOf v).toNat)
    case atStart => exact ⟨i, Nat.le_refl _, fun _ => H45.out, by omega, rfl, HI2⟩
    case round =>
      obtain ⟨j, hij, hj45, hj, rfl, HJ⟩ := hrel
      by_cases hjl : j < s.size
      case neg =>
        have hjl' : ¬ (j : Int) < (s.size : Int) := by omega
        have HE := Lib.hid (show j + blankL false (s.data.toList.drop j) = T by have h := HJ.out; rw [List.drop_eq_nil_of_le (by rw [HLL.out]; omega)] at h ⊢; exact h)
        have hne : i < j := by omega
        go_wp2_with fail
        go_round
        case rel => exact ⟨j, hj, rfl, HE⟩
        case measure => simp [intOf]; omega
      have hjl' : (j : Int) < (s.size : Int) := by omega
      have hj0 : (0 : Int) ≤ (j : Int) := by omega
      have hdj := drop_at hjl
      have hwj : IntKind.i64.wrap ((j : Int) + 1) = (j : Int) + 1 := IntWalk.i64_in _ (by omega)
      by_cases h10 : s[j] = 10
      · have qj : ((s[j].toNat : Int) == 10) = true := by rw [h10]; rfl
        have qj' : ((s[j].toNat : Int) != 10) = false := by rw [bne, qj]; rfl
        have HE := Lib.hid (show j + blankL false (s.data.toList.drop j) = T by have h := HJ.out; rw [hdj, h10, note_end] at h; rw [hdj, h10]; exact h)
        have hne : i < j := by
          rcases Nat.lt_or_ge i j with h | h
          · exact h
          · have e : j = i := by omega
            have h2 := hj45 e
            subst e
            rw [h2] at h10
            exact absurd h10 (by decide)
        clear hdj h10 hj45
        go_wp2_with fail
        go_round
        case rel => exact ⟨j, hj, rfl, HE⟩
        case measure => simp [intOf]; omega
      · have qj : ((s[j].toNat : Int) == 10) = false := u8_lit (n := 10) (by decide) h10
        have qj' : ((s[j].toNat : Int) != 10) = true := by rw [bne, qj]; rfl
        have HE := Lib.hid (show (j + 1) + blankL true (s.data.toList.drop (j + 1)) = T by have h := HJ.out; rw [hdj, note_on h10] at h; omega)
        clear hdj h10 hj45
        go_wp2_with fail
        go_round
        case rel => exact ⟨j + 1, by omega, fun h => by omega, by omega, by go_num, HE⟩
        case measure => simp [intOf]; omega
end Go.Proofs.YtmjkelmlbihkpaaDoor
