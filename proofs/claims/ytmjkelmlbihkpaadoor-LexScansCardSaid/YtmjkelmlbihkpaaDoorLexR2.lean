/-
  The reference's sign.
-/
import Derived.Test.YtmjkelmlbihkpaaDoorLexR1
import Derived.Test.YtmjkelmlbihkpaaDoorLexTP
set_option linter.unusedVariables false
set_option linter.unusedSimpArgs false
namespace Go.Proofs.YtmjkelmlbihkpaaDoor
open Go.ChangeShapes Go.WideShapes Go.ChangeAt Go.RowKit

set_option maxRecDepth 100000 in
set_option maxHeartbeats 64000000 in
theorem rsign_any (s : ByteArray) (hs0 : 0 < s.size) (w : World) : Calls Tryd.prog 39 #[.string s] w (Ret (.int .i64 (signL s.data.toList : Nat)) w) := by
  obtain ⟨T, hT⟩ : ∃ T, T = signL s.data.toList := ⟨_, rfl⟩
  rw [← hT]
  have hd := drop_at hs0
  rw [List.drop_zero] at hd
  obtain ⟨a, ha⟩ : ∃ a, a = s[0] := ⟨_, rfl⟩
  have hax : s[0] = a := ha.symm
  rw [hax] at hd
  by_cases h2 : 1 < s.size
  case neg =>
    have hnil : s.data.toList.drop 1 = [] := List.drop_eq_nil_of_le (by simp; omega)
    have HT1 := Lib.hid (show T = if signs1.contains a then 1 else 0 by rw [hT, hd, hnil]; rfl)
    have hlt : ¬ (2 : Int) ≤ (s.size : Int) := by omega
    clear hT hd hnil h2 ha
    go_enter Tryd.func39, Tryd.ntmps39
    by_cases g0 : a = 43
    · have q : ((a.toNat : Int) == 43) = true := by rw [g0]; rfl
      have HE := Lib.hid (show T = 1 by rw [HT1.out, g0]; rfl)
      clear g0
      go_wp2
      go_ret
      exact ⟨by rw [HE.out]; rfl, rfl⟩
    have q0 : ((a.toNat : Int) == 43) = false := u8_lit (n := 43) (by decide) g0
    by_cases g1 : a = 45
    · have q : ((a.toNat : Int) == 45) = true := by rw [g1]; rfl
      have HE := Lib.hid (show T = 1 by rw [HT1.out, g1]; rfl)
      clear g1
      go_wp2
      go_ret
      exact ⟨by rw [HE.out]; rfl, rfl⟩
    have q1 : ((a.toNat : Int) == 45) = false := u8_lit (n := 45) (by decide) g1
    by_cases g2 : a = 42
    · have q : ((a.toNat : Int) == 42) = true := by rw [g2]; rfl
      have HE := Lib.hid (show T = 1 by rw [HT1.out, g2]; rfl)
      clear g2
      go_wp2
      go_ret
      exact ⟨by rw [HE.out]; rfl, rfl⟩
    have q2 : ((a.toNat : Int) == 42) = false := u8_lit (n := 42) (by decide) g2
    by_cases g3 : a = 37
    · have q : ((a.toNat : Int) == 37) = true := by rw [g3]; rfl
      have HE := Lib.hid (show T = 1 by rw [HT1.out, g3]; rfl)
      clear g3
      go_wp2
      go_ret
      exact ⟨by rw [HE.out]; rfl, rfl⟩
    have q3 : ((a.toNat : Int) == 37) = false := u8_lit (n := 37) (by decide) g3
    by_cases g4 : a = 60
    · have q : ((a.toNat : Int) == 60) = true := by rw [g4]; rfl
      have HE := Lib.hid (show T = 1 by rw [HT1.out, g4]; rfl)
      clear g4
      go_wp2
      go_ret
      exact ⟨by rw [HE.out]; rfl, rfl⟩
    have q4 : ((a.toNat : Int) == 60) = false := u8_lit (n := 60) (by decide) g4
    by_cases g5 : a = 62
    · have q : ((a.toNat : Int) == 62) = true := by rw [g5]; rfl
      have HE := Lib.hid (show T = 1 by rw [HT1.out, g5]; rfl)
      clear g5
      go_wp2
      go_ret
      exact ⟨by rw [HE.out]; rfl, rfl⟩
    have q5 : ((a.toNat : Int) == 62) = false := u8_lit (n := 62) (by decide) g5
    by_cases g6 : a = 61
    · have q : ((a.toNat : Int) == 61) = true := by rw [g6]; rfl
      have HE := Lib.hid (show T = 1 by rw [HT1.out, g6]; rfl)
      clear g6
      go_wp2
      go_ret
      exact ⟨by rw [HE.out]; rfl, rfl⟩
    have q6 : ((a.toNat : Int) == 61) = false := u8_lit (n := 61) (by decide) g6
    by_cases g7 : a = 40
    · have q : ((a.toNat : Int) == 40) = true := by rw [g7]; rfl
      have HE := Lib.hid (show T = 1 by rw [HT1.out, g7]; rfl)
      clear g7
      go_wp2
      go_ret
      exact ⟨by rw [HE.out]; rfl, rfl⟩
    have q7 : ((a.toNat : Int) == 40) = false := u8_lit (n := 40) (by decide) g7
    by_cases g8 : a = 41
    · have q : ((a.toNat : Int) == 41) = true := by rw [g8]; rfl
      have HE := Lib.hid (show T = 1 by rw [HT1.out, g8]; rfl)
      clear g8
      go_wp2
      go_ret
      exact ⟨by rw [HE.out]; rfl, rfl⟩
    have q8 : ((a.toNat : Int) == 41) = false := u8_lit (n := 41) (by decide) g8
    by_cases g9 : a = 123
    · have q : ((a.toNat : Int) == 123) = true := by rw [g9]; rfl
      have HE := Lib.hid (show T = 1 by rw [HT1.out, g9]; rfl)
      clear g9
      go_wp2
      go_ret
      exact ⟨by rw [HE.out]; rfl, rfl⟩
    have q9 : ((a.toNat : Int) == 123) = false := u8_lit (n := 123) (by decide) g9
    by_cases g10 : a = 125
    · have q : ((a.toNat : Int) == 125) = true := by rw [g10]; rfl
      have HE := Lib.hid (show T = 1 by rw [HT1.out, g10]; rfl)
      clear g10
      go_wp2
      go_ret
      exact ⟨by rw [HE.out]; rfl, rfl⟩
    have q10 : ((a.toNat : Int) == 125) = false := u8_lit (n := 125) (by decide) g10
    by_cases g11 : a = 91
    · have q : ((a.toNat : Int) == 91) = true := by rw [g11]; rfl
      have HE := Lib.hid (show T = 1 by rw [HT1.out, g11]; rfl)
      clear g11
      go_wp2
      go_ret
      exact ⟨by rw [HE.out]; rfl, rfl⟩
    have q11 : ((a.toNat : Int) == 91) = false := u8_lit (n := 91) (by decide) g11
    by_cases g12 : a = 93
    · have q : ((a.toNat : Int) == 93) = true := by rw [g12]; rfl
      have HE := Lib.hid (show T = 1 by rw [HT1.out, g12]; rfl)
      clear g12
      go_wp2
      go_ret
      exact ⟨by rw [HE.out]; rfl, rfl⟩
    have q12 : ((a.toNat : Int) == 93) = false := u8_lit (n := 93) (by decide) g12
    by_cases g13 : a = 44
    · have q : ((a.toNat : Int) == 44) = true := by rw [g13]; rfl
      have HE := Lib.hid (show T = 1 by rw [HT1.out, g13]; rfl)
      clear g13
      go_wp2
      go_ret
      exact ⟨by rw [HE.out]; rfl, rfl⟩
    have q13 : ((a.toNat : Int) == 44) = false := u8_lit (n := 44) (by decide) g13
    by_cases g14 : a = 58
    · have q : ((a.toNat : Int) == 58) = true := by rw [g14]; rfl
      have HE := Lib.hid (show T = 1 by rw [HT1.out, g14]; rfl)
      clear g14
      go_wp2
      go_ret
      exact ⟨by rw [HE.out]; rfl, rfl⟩
    have q14 : ((a.toNat : Int) == 58) = false := u8_lit (n := 58) (by decide) g14
    by_cases g15 : a = 59
    · have q : ((a.toNat : Int) == 59) = true := by rw [g15]; rfl
      have HE := Lib.hid (show T = 1 by rw [HT1.out, g15]; rfl)
      clear g15
      go_wp2
      go_ret
      exact ⟨by rw [HE.out]; rfl, rfl⟩
    have q15 : ((a.toNat : Int) == 59) = false := u8_lit (n := 59) (by decide) g15
    by_cases g16 : a = 46
    · have q : ((a.toNat : Int) == 46) = true := by rw [g16]; rfl
      have HE := Lib.hid (show T = 1 by rw [HT1.out, g16]; rfl)
      clear g16
      go_wp2
      go_ret
      exact ⟨by rw [HE.out]; rfl, rfl⟩
    have q16 : ((a.toNat : Int) == 46) = false := u8_lit (n := 46) (by decide) g16
    by_cases g17 : a = 35
    · have q : ((a.toNat : Int) == 35) = true := by rw [g17]; rfl
      have HE := Lib.hid (show T = 1 by rw [HT1.out, g17]; rfl)
      clear g17
      go_wp2
      go_ret
      exact ⟨by rw [HE.out]; rfl, rfl⟩
    have q17 : ((a.toNat : Int) == 35) = false := u8_lit (n := 35) (by decide) g17
    by_cases g18 : a = 124
    · have q : ((a.toNat : Int) == 124) = true := by rw [g18]; rfl
      have HE := Lib.hid (show T = 1 by rw [HT1.out, g18]; rfl)
      clear g18
      go_wp2
      go_ret
      exact ⟨by rw [HE.out]; rfl, rfl⟩
    have q18 : ((a.toNat : Int) == 124) = false := u8_lit (n := 124) (by decide) g18
    by_cases g19 : a = 64
    · have q : ((a.toNat : Int) == 64) = true := by rw [g19]; rfl
      have HE := Lib.hid (show T = 1 by rw [HT1.out, g19]; rfl)
      clear g19
      go_wp2
      go_ret
      exact ⟨by rw [HE.out]; rfl, rfl⟩
    have q19 : ((a.toNat : Int) == 64) = false := u8_lit (n := 64) (by decide) g19
    have HE := Lib.hid (show T = 0 by rw [HT1.out, if_neg (by simp [signs1, g0, g1, g2, g3, g4, g5, g6, g7, g8, g9, g10, g11, g12, g13, g14, g15, g16, g17, g18, g19])])
    clear g0 g1 g2 g3 g4 g5 g6 g7 g8 g9 g10 g11 g12 g13 g14 g15 g16 g17 g18 g19
    go_wp2
    go_ret
    exact ⟨by rw [HE.out]; rfl, rfl⟩
  have hd2 := drop_at h2
  obtain ⟨b, hb⟩ : ∃ b, b = s[1] := ⟨_, rfl⟩
  rw [← hb] at hd2
  rw [show (0 + 1) = 1 from rfl, hd2] at hd
  have hlt : (2 : Int) ≤ (s.size : Int) := by omega
  obtain ⟨sx, hsx⟩ : ∃ sx, sx = s.extract 0 2 := ⟨_, rfl⟩
  have hx2 : s.extract 0 2 = sx := hsx.symm
  have hsl : sx.toList = [a, b] := by
    rw [ByteArray.toList_eq, hsx, show (2 : Nat) = 0 + 2 from rfl, ext_take, List.drop_zero, hd]
    rfl
  have HT0 := Lib.hid (show T = if sign2 a b then 2 else if signs1.contains a then 1 else 0 by rw [hT, hd]; rfl)
  have HSL := Lib.hid hsl
  have HE2 := Lib.hid (show ∀ u v : UInt8, (sx.toList == [u, v]) = (a == u && b == v) from fun u v => by rw [hsl]; simp [List.beq_cons_cons])
  clear hT hd hd2 h2 ha hb hsx hsl
  go_enter Tryd.func39, Tryd.ntmps39
  have e0 := HE2.out 61 61
  cases k0 : (a == 61 && b == 61) with
  | true =>
    rw [k0] at e0
    have HE := Lib.hid (show T = 2 by rw [HT0.out, if_pos (by unfold sign2; rw [k0]; simp)])
    clear k0
    go_wp2
    go_ret
    exact ⟨by rw [HE.out]; rfl, rfl⟩
  | false =>
  rw [k0] at e0
  have e1 := HE2.out 126 61
  cases k1 : (a == 126 && b == 61) with
  | true =>
    rw [k1] at e1
    have HE := Lib.hid (show T = 2 by rw [HT0.out, if_pos (by unfold sign2; rw [k1]; simp)])
    clear k1
    go_wp2
    go_ret
    exact ⟨by rw [HE.out]; rfl, rfl⟩
  | false =>
  rw [k1] at e1
  have e2 := HE2.out 60 61
  cases k2 : (a == 60 && b == 61) with
  | true =>
    rw [k2] at e2
    have HE := Lib.hid (show T = 2 by rw [HT0.out, if_pos (by unfold sign2; rw [k2]; simp)])
    clear k2
    go_wp2
    go_ret
    exact ⟨by rw [HE.out]; rfl, rfl⟩
  | false =>
  rw [k2] at e2
  have e3 := HE2.out 62 61
  cases k3 : (a == 62 && b == 61) with
  | true =>
    rw [k3] at e3
    have HE := Lib.hid (show T = 2 by rw [HT0.out, if_pos (by unfold sign2; rw [k3]; simp)])
    clear k3
    go_wp2
    go_ret
    exact ⟨by rw [HE.out]; rfl, rfl⟩
  | false =>
  rw [k3] at e3
  have e4 := HE2.out 47 47
  cases k4 : (a == 47 && b == 47) with
  | true =>
    rw [k4] at e4
    have HE := Lib.hid (show T = 2 by rw [HT0.out, if_pos (by unfold sign2; rw [k4]; simp)])
    clear k4
    go_wp2
    go_ret
    exact ⟨by rw [HE.out]; rfl, rfl⟩
  | false =>
  rw [k4] at e4
  have e5 := HE2.out 46 46
  cases k5 : (a == 46 && b == 46) with
  | true =>
    rw [k5] at e5
    have HE := Lib.hid (show T = 2 by rw [HT0.out, if_pos (by unfold sign2; rw [k5]; simp)])
    clear k5
    go_wp2
    go_ret
    exact ⟨by rw [HE.out]; rfl, rfl⟩
  | false =>
  rw [k5] at e5
  have e6 := HE2.out 45 62
  cases k6 : (a == 45 && b == 62) with
  | true =>
    rw [k6] at e6
    have HE := Lib.hid (show T = 2 by rw [HT0.out, if_pos (by unfold sign2; rw [k6]; simp)])
    clear k6
    go_wp2
    go_ret
    exact ⟨by rw [HE.out]; rfl, rfl⟩
  | false =>
  rw [k6] at e6
  have HT1 := Lib.hid (show T = if signs1.contains a then 1 else 0 by rw [HT0.out, if_neg (by unfold sign2; rw [k0, k1, k2, k3, k4, k5, k6]; decide)])
  clear k0 k1 k2 k3 k4 k5 k6
  by_cases g0 : a = 43
  · have q : ((a.toNat : Int) == 43) = true := by rw [g0]; rfl
    have HE := Lib.hid (show T = 1 by rw [HT1.out, g0]; rfl)
    clear g0
    go_wp2
    go_ret
    exact ⟨by rw [HE.out]; rfl, rfl⟩
  have q0 : ((a.toNat : Int) == 43) = false := u8_lit (n := 43) (by decide) g0
  by_cases g1 : a = 45
  · have q : ((a.toNat : Int) == 45) = true := by rw [g1]; rfl
    have HE := Lib.hid (show T = 1 by rw [HT1.out, g1]; rfl)
    clear g1
    go_wp2
    go_ret
    exact ⟨by rw [HE.out]; rfl, rfl⟩
  have q1 : ((a.toNat : Int) == 45) = false := u8_lit (n := 45) (by decide) g1
  by_cases g2 : a = 42
  · have q : ((a.toNat : Int) == 42) = true := by rw [g2]; rfl
    have HE := Lib.hid (show T = 1 by rw [HT1.out, g2]; rfl)
    clear g2
    go_wp2
    go_ret
    exact ⟨by rw [HE.out]; rfl, rfl⟩
  have q2 : ((a.toNat : Int) == 42) = false := u8_lit (n := 42) (by decide) g2
  by_cases g3 : a = 37
  · have q : ((a.toNat : Int) == 37) = true := by rw [g3]; rfl
    have HE := Lib.hid (show T = 1 by rw [HT1.out, g3]; rfl)
    clear g3
    go_wp2
    go_ret
    exact ⟨by rw [HE.out]; rfl, rfl⟩
  have q3 : ((a.toNat : Int) == 37) = false := u8_lit (n := 37) (by decide) g3
  by_cases g4 : a = 60
  · have q : ((a.toNat : Int) == 60) = true := by rw [g4]; rfl
    have HE := Lib.hid (show T = 1 by rw [HT1.out, g4]; rfl)
    clear g4
    go_wp2
    go_ret
    exact ⟨by rw [HE.out]; rfl, rfl⟩
  have q4 : ((a.toNat : Int) == 60) = false := u8_lit (n := 60) (by decide) g4
  by_cases g5 : a = 62
  · have q : ((a.toNat : Int) == 62) = true := by rw [g5]; rfl
    have HE := Lib.hid (show T = 1 by rw [HT1.out, g5]; rfl)
    clear g5
    go_wp2
    go_ret
    exact ⟨by rw [HE.out]; rfl, rfl⟩
  have q5 : ((a.toNat : Int) == 62) = false := u8_lit (n := 62) (by decide) g5
  by_cases g6 : a = 61
  · have q : ((a.toNat : Int) == 61) = true := by rw [g6]; rfl
    have HE := Lib.hid (show T = 1 by rw [HT1.out, g6]; rfl)
    clear g6
    go_wp2
    go_ret
    exact ⟨by rw [HE.out]; rfl, rfl⟩
  have q6 : ((a.toNat : Int) == 61) = false := u8_lit (n := 61) (by decide) g6
  by_cases g7 : a = 40
  · have q : ((a.toNat : Int) == 40) = true := by rw [g7]; rfl
    have HE := Lib.hid (show T = 1 by rw [HT1.out, g7]; rfl)
    clear g7
    go_wp2
    go_ret
    exact ⟨by rw [HE.out]; rfl, rfl⟩
  have q7 : ((a.toNat : Int) == 40) = false := u8_lit (n := 40) (by decide) g7
  by_cases g8 : a = 41
  · have q : ((a.toNat : Int) == 41) = true := by rw [g8]; rfl
    have HE := Lib.hid (show T = 1 by rw [HT1.out, g8]; rfl)
    clear g8
    go_wp2
    go_ret
    exact ⟨by rw [HE.out]; rfl, rfl⟩
  have q8 : ((a.toNat : Int) == 41) = false := u8_lit (n := 41) (by decide) g8
  by_cases g9 : a = 123
  · have q : ((a.toNat : Int) == 123) = true := by rw [g9]; rfl
    have HE := Lib.hid (show T = 1 by rw [HT1.out, g9]; rfl)
    clear g9
    go_wp2
    go_ret
    exact ⟨by rw [HE.out]; rfl, rfl⟩
  have q9 : ((a.toNat : Int) == 123) = false := u8_lit (n := 123) (by decide) g9
  by_cases g10 : a = 125
  · have q : ((a.toNat : Int) == 125) = true := by rw [g10]; rfl
    have HE := Lib.hid (show T = 1 by rw [HT1.out, g10]; rfl)
    clear g10
    go_wp2
    go_ret
    exact ⟨by rw [HE.out]; rfl, rfl⟩
  have q10 : ((a.toNat : Int) == 125) = false := u8_lit (n := 125) (by decide) g10
  by_cases g11 : a = 91
  · have q : ((a.toNat : Int) == 91) = true := by rw [g11]; rfl
    have HE := Lib.hid (show T = 1 by rw [HT1.out, g11]; rfl)
    clear g11
    go_wp2
    go_ret
    exact ⟨by rw [HE.out]; rfl, rfl⟩
  have q11 : ((a.toNat : Int) == 91) = false := u8_lit (n := 91) (by decide) g11
  by_cases g12 : a = 93
  · have q : ((a.toNat : Int) == 93) = true := by rw [g12]; rfl
    have HE := Lib.hid (show T = 1 by rw [HT1.out, g12]; rfl)
    clear g12
    go_wp2
    go_ret
    exact ⟨by rw [HE.out]; rfl, rfl⟩
  have q12 : ((a.toNat : Int) == 93) = false := u8_lit (n := 93) (by decide) g12
  by_cases g13 : a = 44
  · have q : ((a.toNat : Int) == 44) = true := by rw [g13]; rfl
    have HE := Lib.hid (show T = 1 by rw [HT1.out, g13]; rfl)
    clear g13
    go_wp2
    go_ret
    exact ⟨by rw [HE.out]; rfl, rfl⟩
  have q13 : ((a.toNat : Int) == 44) = false := u8_lit (n := 44) (by decide) g13
  by_cases g14 : a = 58
  · have q : ((a.toNat : Int) == 58) = true := by rw [g14]; rfl
    have HE := Lib.hid (show T = 1 by rw [HT1.out, g14]; rfl)
    clear g14
    go_wp2
    go_ret
    exact ⟨by rw [HE.out]; rfl, rfl⟩
  have q14 : ((a.toNat : Int) == 58) = false := u8_lit (n := 58) (by decide) g14
  by_cases g15 : a = 59
  · have q : ((a.toNat : Int) == 59) = true := by rw [g15]; rfl
    have HE := Lib.hid (show T = 1 by rw [HT1.out, g15]; rfl)
    clear g15
    go_wp2
    go_ret
    exact ⟨by rw [HE.out]; rfl, rfl⟩
  have q15 : ((a.toNat : Int) == 59) = false := u8_lit (n := 59) (by decide) g15
  by_cases g16 : a = 46
  · have q : ((a.toNat : Int) == 46) = true := by rw [g16]; rfl
    have HE := Lib.hid (show T = 1 by rw [HT1.out, g16]; rfl)
    clear g16
    go_wp2
    go_ret
    exact ⟨by rw [HE.out]; rfl, rfl⟩
  have q16 : ((a.toNat : Int) == 46) = false := u8_lit (n := 46) (by decide) g16
  by_cases g17 : a = 35
  · have q : ((a.toNat : Int) == 35) = true := by rw [g17]; rfl
    have HE := Lib.hid (show T = 1 by rw [HT1.out, g17]; rfl)
    clear g17
    go_wp2
    go_ret
    exact ⟨by rw [HE.out]; rfl, rfl⟩
  have q17 : ((a.toNat : Int) == 35) = false := u8_lit (n := 35) (by decide) g17
  by_cases g18 : a = 124
  · have q : ((a.toNat : Int) == 124) = true := by rw [g18]; rfl
    have HE := Lib.hid (show T = 1 by rw [HT1.out, g18]; rfl)
    clear g18
    go_wp2
    go_ret
    exact ⟨by rw [HE.out]; rfl, rfl⟩
  have q18 : ((a.toNat : Int) == 124) = false := u8_lit (n := 124) (by decide) g18
  by_cases g19 : a = 64
  · have q : ((a.toNat : Int) == 64) = true := by rw [g19]; rfl
    have HE := Lib.hid (show T = 1 by rw [HT1.out, g19]; rfl)
    clear g19
    go_wp2
    go_ret
    exact ⟨by rw [HE.out]; rfl, rfl⟩
  have q19 : ((a.toNat : Int) == 64) = false := u8_lit (n := 64) (by decide) g19
  have HE := Lib.hid (show T = 0 by rw [HT1.out, if_neg (by simp [signs1, g0, g1, g2, g3, g4, g5, g6, g7, g8, g9, g10, g11, g12, g13, g14, g15, g16, g17, g18, g19])])
  clear g0 g1 g2 g3 g4 g5 g6 g7 g8 g9 g10 g11 g12 g13 g14 g15 g16 g17 g18 g19
  go_wp2
  go_ret
  exact ⟨by rw [HE.out]; rfl, rfl⟩
end Go.Proofs.YtmjkelmlbihkpaaDoor
