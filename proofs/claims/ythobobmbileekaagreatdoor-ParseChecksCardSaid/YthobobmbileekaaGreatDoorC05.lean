/-
 ParseChecks: part 5 of what the claim rests on.
-/
import Derived.Test.YthobobmbileekaaGreatDoorC01
import Derived.Test.YthobobmbileekaaGreatDoorC04
set_option linter.unusedVariables false
set_option linter.unusedSimpArgs false
set_option maxHeartbeats 64000000
set_option maxRecDepth 100000
namespace Go.Proofs.YthobobmbileekaaGreatDoor
open Go.ChangeShapes Go.WideShapes Go.ChangeAt Go.RowKit

theorem k36 {k : Int} (h : 1 ≤ k ∧ k ≤ 36) : k = 1 ∨ k = 2 ∨ k = 3 ∨ k = 4 ∨ k = 5 ∨ k = 6 ∨ k = 7 ∨ k = 8 ∨ k = 9 ∨ k = 10 ∨ k = 11 ∨ k = 12 ∨ k = 13 ∨ k = 14 ∨ k = 15 ∨ k = 16 ∨ k = 17 ∨ k = 18 ∨ k = 19 ∨ k = 20 ∨ k = 21 ∨ k = 22 ∨ k = 23 ∨ k = 24 ∨ k = 25 ∨ k = 26 ∨ k = 27 ∨ k = 28 ∨ k = 29 ∨ k = 30 ∨ k = 31 ∨ k = 32 ∨ k = 33 ∨ k = 34 ∨ k = 35 ∨ k = 36 := by omega
theorem pc_expr (k : Int) (hk : 1 ≤ k ∧ k ≤ 36) (w : World) : Calls Tryz.prog 49 #[.int .i64 k] w (RetB (.bool (decide (exprK k))) w) := by
 obtain ⟨v, hv⟩ : ∃ v, v = decide (exprK k) := ⟨_, rfl⟩
 rw [← hv]
 have HV := zh hv
 clear hv
 obtain rfl | rfl | rfl | rfl | rfl | rfl | rfl | rfl | rfl | rfl | rfl | rfl | rfl | rfl | rfl | rfl | rfl | rfl | rfl | rfl | rfl | rfl | rfl | rfl | rfl | rfl | rfl | rfl | rfl | rfl | rfl | rfl | rfl | rfl | rfl | rfl := k36 hk
 all_goals
  go_enter Tryz.func49, Tryz.ntmps49
  go_wp2
  go_ret
  exact ⟨by rw [HV.out]; rfl, zbr⟩
theorem pc_type (k : Int) (hk : 1 ≤ k ∧ k ≤ 36) (w : World) : Calls Tryz.prog 50 #[.int .i64 k] w (RetB (.bool (decide (typeK k))) w) := by
 obtain ⟨v, hv⟩ : ∃ v, v = decide (typeK k) := ⟨_, rfl⟩
 rw [← hv]
 have HV := zh hv
 clear hv
 obtain rfl | rfl | rfl | rfl | rfl | rfl | rfl | rfl | rfl | rfl | rfl | rfl | rfl | rfl | rfl | rfl | rfl | rfl | rfl | rfl | rfl | rfl | rfl | rfl | rfl | rfl | rfl | rfl | rfl | rfl | rfl | rfl | rfl | rfl | rfl | rfl := k36 hk
 all_goals
  go_enter Tryz.func50, Tryz.ntmps50
  go_wp2
  go_ret
  exact ⟨by rw [HV.out]; rfl, zbr⟩
theorem pc_place (k : Int) (hk : 1 ≤ k ∧ k ≤ 36) (w : World) : Calls Tryz.prog 51 #[.int .i64 k] w (RetB (.bool (decide (isK k .p))) w) := by
 obtain ⟨v, hv⟩ : ∃ v, v = decide (isK k .p) := ⟨_, rfl⟩
 rw [← hv]
 have HV := zh hv
 clear hv
 obtain rfl | rfl | rfl | rfl | rfl | rfl | rfl | rfl | rfl | rfl | rfl | rfl | rfl | rfl | rfl | rfl | rfl | rfl | rfl | rfl | rfl | rfl | rfl | rfl | rfl | rfl | rfl | rfl | rfl | rfl | rfl | rfl | rfl | rfl | rfl | rfl := k36 hk
 all_goals
  go_enter Tryz.func51, Tryz.ntmps51
  go_wp2
  go_ret
  exact ⟨by rw [HV.out]; rfl, zbr⟩
theorem pc_call (k : Int) (hk : 1 ≤ k ∧ k ≤ 36) (w : World) : Calls Tryz.prog 52 #[.int .i64 k] w (RetB (.bool (decide (isK k .c))) w) := by
 obtain ⟨v, hv⟩ : ∃ v, v = decide (isK k .c) := ⟨_, rfl⟩
 rw [← hv]
 have HV := zh hv
 clear hv
 obtain rfl | rfl | rfl | rfl | rfl | rfl | rfl | rfl | rfl | rfl | rfl | rfl | rfl | rfl | rfl | rfl | rfl | rfl | rfl | rfl | rfl | rfl | rfl | rfl | rfl | rfl | rfl | rfl | rfl | rfl | rfl | rfl | rfl | rfl | rfl | rfl := k36 hk
 all_goals
  go_enter Tryz.func52, Tryz.ntmps52
  go_wp2
  go_ret
  exact ⟨by rw [HV.out]; rfl, zbr⟩
theorem pc_stat (k : Int) (hk : 1 ≤ k ∧ k ≤ 36) (w : World) : Calls Tryz.prog 53 #[.int .i64 k] w (RetB (.bool (decide (statK k))) w) := by
 obtain ⟨v, hv⟩ : ∃ v, v = decide (statK k) := ⟨_, rfl⟩
 rw [← hv]
 have HV := zh hv
 clear hv
 obtain rfl | rfl | rfl | rfl | rfl | rfl | rfl | rfl | rfl | rfl | rfl | rfl | rfl | rfl | rfl | rfl | rfl | rfl | rfl | rfl | rfl | rfl | rfl | rfl | rfl | rfl | rfl | rfl | rfl | rfl | rfl | rfl | rfl | rfl | rfl | rfl := k36 hk
 all_goals
  go_enter Tryz.func53, Tryz.ntmps53
  go_wp2
  go_ret
  exact ⟨by rw [HV.out]; rfl, zbr⟩
def letB : Let → UInt8
 | .b => 98
 | .B => 66
 | .e => 101
 | .E => 69
 | .T => 84
 | .t => 116
 | .d => 100
 | .f => 102
 | .p => 112
 | .c => 99
 | .s => 115
 | .P => 80
 | .n => 110
 | .h => 104
 | .u => 117
 | .F => 70
theorem pc_is_lb (k : Int) (hk : isK k .b) (w : World) : Calls Tryz.prog 26 #[.int .i64 k, .int .u8 98] w (RetB (.bool true) w) := by
 obtain rfl : k = 3 := by unfold isK at hk; omega
 all_goals
  clear hk
  go_enter Tryz.func26, Tryz.ntmps26
  go_wp2
  go_ret
  exact ⟨rfl, zbr⟩
theorem pc_is_uB (k : Int) (hk : isK k .B) (w : World) : Calls Tryz.prog 26 #[.int .i64 k, .int .u8 66] w (RetB (.bool true) w) := by
 obtain rfl | rfl : k = 3 ∨ k = 12 := by unfold isK at hk; omega
 all_goals
  clear hk
  go_enter Tryz.func26, Tryz.ntmps26
  go_wp2
  go_ret
  exact ⟨rfl, zbr⟩
theorem pc_is_le (k : Int) (hk : isK k .e) (w : World) : Calls Tryz.prog 26 #[.int .i64 k, .int .u8 101] w (RetB (.bool true) w) := by
 have HC := zh (fun w => pc_expr k (by simp only [isK, exprK, typeK, statK] at hk; omega) w)
 by_cases hx : exprK k
 ·rw [decide_eq_true hx] at HC
  clear hk hx
  go_enter Tryz.func26, Tryz.ntmps26
  go_wp2_with fail
  refine (HC.out _).mono ?_; rintro e w1 ⟨rfl, hb⟩; have HB := zh hb; clear hb; go_wp2
  go_ret
  exact ⟨rfl, HB.out⟩
 ·exact absurd hk hx
theorem pc_is_uE (k : Int) (hk : isK k .E) (w : World) : Calls Tryz.prog 26 #[.int .i64 k, .int .u8 69] w (RetB (.bool true) w) := by
 have HC := zh (fun w => pc_expr k (by simp only [isK, exprK, typeK, statK] at hk; omega) w)
 by_cases hx : exprK k
 ·rw [decide_eq_true hx] at HC
  clear hk hx
  go_enter Tryz.func26, Tryz.ntmps26
  go_wp2_with fail
  refine (HC.out _).mono ?_; rintro e w1 ⟨rfl, hb⟩; have HB := zh hb; clear hb; go_wp2
  go_ret
  exact ⟨rfl, HB.out⟩
 ·rw [decide_eq_false hx] at HC
  obtain rfl : k = 12 := by simp only [isK, exprK, typeK, statK] at hk hx; omega
  all_goals
   clear hk hx
   go_enter Tryz.func26, Tryz.ntmps26
   go_wp2_with fail
   refine (HC.out _).mono ?_; rintro e w1 ⟨rfl, hb⟩; have HB := zh hb; clear hb; go_wp2
   go_ret
   exact ⟨rfl, HB.out⟩
theorem pc_is_uT (k : Int) (hk : isK k .T) (w : World) : Calls Tryz.prog 26 #[.int .i64 k, .int .u8 84] w (RetB (.bool true) w) := by
 have HC := zh (fun w => pc_type k (by simp only [isK, exprK, typeK, statK] at hk; omega) w)
 by_cases hx : typeK k
 ·rw [decide_eq_true hx] at HC
  clear hk hx
  go_enter Tryz.func26, Tryz.ntmps26
  go_wp2_with fail
  refine (HC.out _).mono ?_; rintro e w1 ⟨rfl, hb⟩; have HB := zh hb; clear hb; go_wp2
  go_ret
  exact ⟨rfl, HB.out⟩
 ·exact absurd hk hx
theorem pc_is_lt (k : Int) (hk : isK k .t) (w : World) : Calls Tryz.prog 26 #[.int .i64 k, .int .u8 116] w (RetB (.bool true) w) := by
 have HC := zh (fun w => pc_type k (by simp only [isK, exprK, typeK, statK] at hk; omega) w)
 by_cases hx : typeK k
 ·rw [decide_eq_true hx] at HC
  clear hk hx
  go_enter Tryz.func26, Tryz.ntmps26
  go_wp2_with fail
  refine (HC.out _).mono ?_; rintro e w1 ⟨rfl, hb⟩; have HB := zh hb; clear hb; go_wp2
  go_ret
  exact ⟨rfl, HB.out⟩
 ·rw [decide_eq_false hx] at HC
  obtain rfl : k = 12 := by simp only [isK, exprK, typeK, statK] at hk hx; omega
  all_goals
   clear hk hx
   go_enter Tryz.func26, Tryz.ntmps26
   go_wp2_with fail
   refine (HC.out _).mono ?_; rintro e w1 ⟨rfl, hb⟩; have HB := zh hb; clear hb; go_wp2
   go_ret
   exact ⟨rfl, HB.out⟩
theorem pc_is_ld (k : Int) (hk : isK k .d) (w : World) : Calls Tryz.prog 26 #[.int .i64 k, .int .u8 100] w (RetB (.bool true) w) := by
 have HC := zh (fun w => pc_type k (by simp only [isK, exprK, typeK, statK] at hk; omega) w)
 by_cases hx : typeK k
 ·rw [decide_eq_true hx] at HC
  clear hk hx
  go_enter Tryz.func26, Tryz.ntmps26
  go_wp2_with fail
  refine (HC.out _).mono ?_; rintro e w1 ⟨rfl, hb⟩; have HB := zh hb; clear hb; go_wp2
  go_ret
  exact ⟨rfl, HB.out⟩
 ·rw [decide_eq_false hx] at HC
  obtain rfl | rfl : k = 12 ∨ k = 36 := by simp only [isK, exprK, typeK, statK] at hk hx; omega
  all_goals
   clear hk hx
   go_enter Tryz.func26, Tryz.ntmps26
   go_wp2_with fail
   refine (HC.out _).mono ?_; rintro e w1 ⟨rfl, hb⟩; have HB := zh hb; clear hb; go_wp2
   go_ret
   exact ⟨rfl, HB.out⟩
theorem pc_is_lf (k : Int) (hk : isK k .f) (w : World) : Calls Tryz.prog 26 #[.int .i64 k, .int .u8 102] w (RetB (.bool true) w) := by
 obtain rfl : k = 22 := by unfold isK at hk; omega
 all_goals
  clear hk
  go_enter Tryz.func26, Tryz.ntmps26
  go_wp2
  go_ret
  exact ⟨rfl, zbr⟩
theorem pc_is_lp (k : Int) (hk : isK k .p) (w : World) : Calls Tryz.prog 26 #[.int .i64 k, .int .u8 112] w (RetB (.bool true) w) := by
 have HC := zh (fun w => pc_place k (by simp only [isK, exprK, typeK, statK] at hk; omega) w)
 by_cases hx : isK k .p
 ·rw [decide_eq_true hx] at HC
  clear hk hx
  go_enter Tryz.func26, Tryz.ntmps26
  go_wp2_with fail
  refine (HC.out _).mono ?_; rintro e w1 ⟨rfl, hb⟩; have HB := zh hb; clear hb; go_wp2
  go_ret
  exact ⟨rfl, HB.out⟩
 ·exact absurd hk hx
theorem pc_is_lc (k : Int) (hk : isK k .c) (w : World) : Calls Tryz.prog 26 #[.int .i64 k, .int .u8 99] w (RetB (.bool true) w) := by
 have HC := zh (fun w => pc_call k (by simp only [isK, exprK, typeK, statK] at hk; omega) w)
 by_cases hx : isK k .c
 ·rw [decide_eq_true hx] at HC
  clear hk hx
  go_enter Tryz.func26, Tryz.ntmps26
  go_wp2_with fail
  refine (HC.out _).mono ?_; rintro e w1 ⟨rfl, hb⟩; have HB := zh hb; clear hb; go_wp2
  go_ret
  exact ⟨rfl, HB.out⟩
 ·exact absurd hk hx
theorem pc_is_ls (k : Int) (hk : isK k .s) (w : World) : Calls Tryz.prog 26 #[.int .i64 k, .int .u8 115] w (RetB (.bool true) w) := by
 have HC := zh (fun w => pc_stat k (by simp only [isK, exprK, typeK, statK] at hk; omega) w)
 by_cases hx : statK k
 ·rw [decide_eq_true hx] at HC
  clear hk hx
  go_enter Tryz.func26, Tryz.ntmps26
  go_wp2_with fail
  refine (HC.out _).mono ?_; rintro e w1 ⟨rfl, hb⟩; have HB := zh hb; clear hb; go_wp2
  go_ret
  exact ⟨rfl, HB.out⟩
 ·exact absurd hk hx
theorem pc_is_uP (k : Int) (hk : isK k .P) (w : World) : Calls Tryz.prog 26 #[.int .i64 k, .int .u8 80] w (RetB (.bool true) w) := by
 obtain rfl : k = 23 := by unfold isK at hk; omega
 all_goals
  clear hk
  go_enter Tryz.func26, Tryz.ntmps26
  go_wp2
  go_ret
  exact ⟨rfl, zbr⟩
theorem pc_is_ln (k : Int) (hk : isK k .n) (w : World) : Calls Tryz.prog 26 #[.int .i64 k, .int .u8 110] w (RetB (.bool true) w) := by
 obtain rfl | rfl : k = 25 ∨ k = 26 := by unfold isK at hk; omega
 all_goals
  clear hk
  go_enter Tryz.func26, Tryz.ntmps26
  go_wp2
  go_ret
  exact ⟨rfl, zbr⟩
theorem pc_is_lh (k : Int) (hk : isK k .h) (w : World) : Calls Tryz.prog 26 #[.int .i64 k, .int .u8 104] w (RetB (.bool true) w) := by
 obtain rfl : k = 2 := by unfold isK at hk; omega
 all_goals
  clear hk
  go_enter Tryz.func26, Tryz.ntmps26
  go_wp2
  go_ret
  exact ⟨rfl, zbr⟩
theorem pc_is_lu (k : Int) (hk : isK k .u) (w : World) : Calls Tryz.prog 26 #[.int .i64 k, .int .u8 117] w (RetB (.bool true) w) := by
 obtain rfl | rfl : k = 31 ∨ k = 32 := by unfold isK at hk; omega
 all_goals
  clear hk
  go_enter Tryz.func26, Tryz.ntmps26
  go_wp2
  go_ret
  exact ⟨rfl, zbr⟩
theorem pc_is_uF (k : Int) (hk : isK k .F) (w : World) : Calls Tryz.prog 26 #[.int .i64 k, .int .u8 70] w (RetB (.bool true) w) := by
 obtain rfl : k = 33 := by unfold isK at hk; omega
 all_goals
  clear hk
  go_enter Tryz.func26, Tryz.ntmps26
  go_wp2
  go_ret
  exact ⟨rfl, zbr⟩
theorem pc_is (k : Int) (L : Let) (hk : isK k L) (w : World) : Calls Tryz.prog 26 #[.int .i64 k, .int .u8 ((letB L).toNat : Int)] w (RetB (.bool true) w) := by
 cases L with
 | b => exact pc_is_lb k hk w
 | B => exact pc_is_uB k hk w
 | e => exact pc_is_le k hk w
 | E => exact pc_is_uE k hk w
 | T => exact pc_is_uT k hk w
 | t => exact pc_is_lt k hk w
 | d => exact pc_is_ld k hk w
 | f => exact pc_is_lf k hk w
 | p => exact pc_is_lp k hk w
 | c => exact pc_is_lc k hk w
 | s => exact pc_is_ls k hk w
 | P => exact pc_is_uP k hk w
 | n => exact pc_is_ln k hk w
 | h => exact pc_is_lh k hk w
 | u => exact pc_is_lu k hk w
 | F => exact pc_is_uF k hk w
def letsB (l : List Let) : ByteArray := ⟨(l.map letB).toArray⟩
def optB : Option Let → ByteArray
 | none => ⟨#[]⟩
 | some L => ⟨#[letB L]⟩
theorem pc_shape (k : Int) (hk : 1 ≤ k ∧ k ≤ 36) (w : World) : Calls Tryz.prog 25 #[.int .i64 k] w (RetB (.tuple #[.string (letsB (formK k).1), .string (optB (formK k).2.1), .string (letsB (formK k).2.2), .bool true]) w) := by
 obtain ⟨v, hv⟩ : ∃ v, v = Value.tuple #[.string (letsB (formK k).1), .string (optB (formK k).2.1), .string (letsB (formK k).2.2), .bool true] := ⟨_, rfl⟩
 rw [← hv]
 have HV := zh hv
 clear hv
 obtain rfl | rfl | rfl | rfl | rfl | rfl | rfl | rfl | rfl | rfl | rfl | rfl | rfl | rfl | rfl | rfl | rfl | rfl | rfl | rfl | rfl | rfl | rfl | rfl | rfl | rfl | rfl | rfl | rfl | rfl | rfl | rfl | rfl | rfl | rfl | rfl := k36 hk
 all_goals
  go_enter Tryz.func25, Tryz.ntmps25
  go_wp2
  refine bodyPost_ret (v := v) (by rw [HV.out]; simp [results, Tryz.results25, go_sem]; exact ⟨rfl, rfl, rfl⟩) rfl ?_; exact ⟨rfl, zbr⟩
end Go.Proofs.YthobobmbileekaaGreatDoor
