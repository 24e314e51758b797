/-
  Plain facts on 64-bit whole numbers: the wrap, the quotient rounded down and its rest, the sign of an exclusive or; what an operator by number answers.
-/
import Derived.Test.YtohllalninoomaaDoorMem
import Derived.IntWalk
set_option linter.unusedVariables false
set_option linter.unusedSimpArgs false
namespace Go.Proofs.YtohllalninoomaaDoor
open Go.ChangeShapes Go.WideShapes Go.ChangeAt Go.RowKit

theorem wrap_toNat (x : BitVec 64) : IntKind.i64.wrap (x.toNat : Int) = x.toInt := by
  rw [IntKind.wrap_i64, BitVec.toInt_eq_toNat_cond]
  have := x.isLt
  split <;> omega
theorem ofInt_msb (a : Int) (h0 : -9223372036854775808 ≤ a) (h1 : a ≤ 9223372036854775807) : (BitVec.ofInt 64 a).msb = decide (a < 0) := by
  rw [BitVec.msb_eq_toInt, BitVec.toInt_ofInt]
  have : a.bmod (2 ^ 64) = a := by
    rw [Int.bmod_def]
    omega
  rw [this]
theorem i64_xor_neg (a b : Int) (a0 : -9223372036854775808 ≤ a) (a1 : a ≤ 9223372036854775807) (b0 : -9223372036854775808 ≤ b) (b1 : b ≤ 9223372036854775807) :
    decide (bits .xor .i64 a b < 0) = xor (decide (a < 0)) (decide (b < 0)) := by
  have e : bits .xor .i64 a b = (BitVec.ofInt 64 a ^^^ BitVec.ofInt 64 b).toInt := wrap_toNat _
  rw [e, ← BitVec.msb_eq_toInt, BitVec.msb_xor, ofInt_msb a a0 a1, ofInt_msb b b0 b1]

theorem tmod_zero_iff {a b : Int} : a.tmod b = 0 ↔ b ∣ a := (Int.dvd_iff_tmod_eq_zero).symm
theorem tmod_neg_iff {a b : Int} (hb : b ≠ 0) (h : a.tmod b ≠ 0) : a.tmod b < 0 ↔ a < 0 := by
  have h1 : ¬ b ∣ a := fun e => h (tmod_zero_iff.2 e)
  have hlt := Int.emod_lt a hb
  have hnn := Int.emod_nonneg a hb
  have h2 : a % b ≠ 0 := fun e => h1 (Int.dvd_of_emod_eq_zero e)
  rw [Int.tmod_eq_emod]
  by_cases ha : 0 ≤ a
  · rw [if_pos (.inl ha)]; omega
  · rw [if_neg (by rintro (h | h) <;> contradiction)]; omega
/-- Where the rest's sign is not the divisor's, one less and the divisor more. -/
theorem floor_off {a b : Int} (hb : b ≠ 0) (h : a.tmod b ≠ 0) (hs : (a.tmod b < 0) ↔ ¬ b < 0) : a.fdiv b = a.tdiv b - 1 ∧ a.fmod b = a.tmod b + b := by
  have h1 : ¬ b ∣ a := fun e => h (tmod_zero_iff.2 e)
  rw [tmod_neg_iff hb h] at hs
  rw [Int.fdiv_eq_tdiv, Int.fmod_eq_tmod, if_neg h1, if_neg h1]
  by_cases ha : 0 ≤ a
  · rw [if_pos ha, if_pos ha]
    have : ¬ 0 ≤ b := by omega
    rw [if_neg this, if_neg this]
    exact ⟨rfl, rfl⟩
  · rw [if_neg ha, if_neg ha]
    have : 0 ≤ b := by omega
    rw [if_pos this, if_pos this, Int.sign_eq_one_of_pos (by omega)]
    exact ⟨rfl, by omega⟩
theorem floor_on {a b : Int} (hb : b ≠ 0) (h : a.tmod b = 0 ∨ ((a.tmod b < 0) ↔ b < 0)) : a.fdiv b = a.tdiv b ∧ a.fmod b = a.tmod b := by
  rw [Int.fdiv_eq_tdiv, Int.fmod_eq_tmod]
  by_cases h1 : b ∣ a
  · rw [if_pos h1, if_pos h1]; omega
  · have h' : a.tmod b ≠ 0 := fun e => h1 (tmod_zero_iff.1 e)
    have hs := h.resolve_left h'
    rw [tmod_neg_iff hb h'] at hs
    rw [if_neg h1, if_neg h1]
    by_cases ha : 0 ≤ a
    · rw [if_pos ha, if_pos ha]
      have : 0 ≤ b := by omega
      rw [if_pos this, if_pos this]
      omega
    · rw [if_neg ha, if_neg ha]
      have : ¬ 0 ≤ b := by omega
      rw [if_neg this, if_neg this, Int.sign_eq_neg_one_of_neg (by omega)]
      omega
theorem fmod_pos {a b : Int} (hb : 0 < b) : 0 ≤ a.fmod b ∧ a.fmod b < b := by
  rw [Int.fmod_eq_emod, if_pos (.inl (by omega))]
  have := Int.emod_nonneg a (by omega : b ≠ 0)
  have := Int.emod_lt_of_pos a hb
  omega
theorem fmod_neg {a b : Int} (hb : b < 0) : a.fmod b ≤ 0 ∧ b < a.fmod b := by
  have h0 : b ≠ 0 := by omega
  have h1 := Int.emod_nonneg a h0
  have h2 := Int.emod_lt a h0
  rw [Int.fmod_eq_emod]
  by_cases hd : b ∣ a
  · rw [if_pos (.inr hd), Int.emod_eq_zero_of_dvd hd]; omega
  · have : a % b ≠ 0 := fun e => hd (Int.dvd_of_emod_eq_zero e)
    rw [if_neg (by rintro (h | h); omega; contradiction)]; omega
theorem mul_range {b q r a : Int} (h : b * q + r = a) (a0 : -9223372036854775808 ≤ a) (a1 : a ≤ 9223372036854775807) (hb : (b ≤ -2 ∧ b < r ∧ r ≤ 0) ∨ (1 ≤ b ∧ 0 ≤ r ∧ r < b)) : -9223372036854775808 ≤ q ∧ q ≤ 9223372036854775807 := by
  rcases hb with ⟨h1, h2, h3⟩ | ⟨h1, h2, h3⟩
  · constructor
    · apply Int.not_lt.1; intro hq
      have h4 : -b * -q = b * q := by rw [Int.neg_mul_neg]
      have := Int.mul_le_mul_of_nonneg_right (a := 2) (b := -b) (c := -q) (by omega) (by omega)
      have h5 : -b * (-q - 1) = -b * -q + b := by rw [Int.mul_sub, Int.mul_one]; omega
      have := Int.mul_le_mul_of_nonneg_right (a := 2) (b := -b) (c := -q - 1) (by omega) (by omega)
      omega
    · apply Int.not_lt.1; intro hq
      have := Int.mul_le_mul_of_nonneg_right (a := b) (b := -2) (c := q) (by omega) (by omega)
      have h4 : b * (q - 1) = b * q - b := by rw [Int.mul_sub, Int.mul_one]
      have := Int.mul_le_mul_of_nonneg_right (a := b) (b := -2) (c := q - 1) (by omega) (by omega)
      omega
  · constructor
    · apply Int.not_lt.1; intro hq
      have h4 : b * (q + 1) = b * q + b := by rw [Int.mul_add, Int.mul_one]
      have h5 : b * -(q + 1) = -(b * (q + 1)) := by rw [Int.mul_neg]
      have := Int.mul_le_mul_of_nonneg_right (a := 1) (b := b) (c := -(q + 1)) (by omega) (by omega)
      omega
    · apply Int.not_lt.1; intro hq
      have := Int.mul_le_mul_of_nonneg_right (a := 1) (b := b) (c := q) (by omega) (by omega)
      omega
theorem fdiv_range {a b : Int} (a0 : -9223372036854775808 ≤ a) (a1 : a ≤ 9223372036854775807) (hb : b ≠ 0) (hb1 : b ≠ -1) : -9223372036854775808 ≤ a.fdiv b ∧ a.fdiv b ≤ 9223372036854775807 := by
  refine mul_range (Int.mul_fdiv_add_fmod a b) a0 a1 ?_
  rcases Int.lt_or_gt_of_ne hb with h | h
  · have := fmod_neg (a := a) h
    exact .inl (by omega)
  · have := fmod_pos (a := a) h
    exact .inr (by omega)
theorem wrap_ex (x : Int) : ∃ k, wrap64 x = x + k * 18446744073709551616 := by
  unfold wrap64
  refine ⟨-((x + 9223372036854775808) / 18446744073709551616), ?_⟩
  have := Int.mul_ediv_add_emod (x + 9223372036854775808) 18446744073709551616
  omega
theorem wrap_more (x k : Int) : wrap64 (x + k * 18446744073709551616) = wrap64 x := by
  unfold wrap64
  omega
theorem wrap_eq {x y : Int} (h : ∃ k, x = y + k * 18446744073709551616) : wrap64 x = wrap64 y := by
  obtain ⟨k, rfl⟩ := h
  exact wrap_more y k
theorem wrap_range (x : Int) : -9223372036854775808 ≤ wrap64 x ∧ wrap64 x ≤ 9223372036854775807 := by
  unfold wrap64; omega
theorem wrap_in {x : Int} (h0 : -9223372036854775808 ≤ x) (h1 : x ≤ 9223372036854775807) : wrap64 x = x := by
  unfold wrap64; omega
theorem wrap_mul_left (x c : Int) : wrap64 (wrap64 x * c) = wrap64 (x * c) := by
  obtain ⟨k, e⟩ := wrap_ex x
  rw [e, Int.add_mul]
  exact wrap_eq ⟨k * c, by rw [Int.mul_assoc, Int.mul_comm 18446744073709551616 c, ← Int.mul_assoc]⟩
theorem wrap_add_left (x c : Int) : wrap64 (wrap64 x + c) = wrap64 (x + c) := by
  obtain ⟨k, e⟩ := wrap_ex x
  rw [e]
  exact wrap_eq ⟨k, by omega⟩
theorem wrap_add_right (x c : Int) : wrap64 (c + wrap64 x) = wrap64 (c + x) := by
  rw [Int.add_comm, wrap_add_left, Int.add_comm]
theorem wrap_sub_left (x c : Int) : wrap64 (wrap64 x - c) = wrap64 (x - c) := by
  obtain ⟨k, e⟩ := wrap_ex x
  rw [e]
  exact wrap_eq ⟨k, by omega⟩
theorem wrap_sub_right (x c : Int) : wrap64 (c - wrap64 x) = wrap64 (c - x) := by
  obtain ⟨k, e⟩ := wrap_ex x
  rw [e]
  exact wrap_eq ⟨-k, by omega⟩
theorem ring_law (a b c : Int) : wrap64 (wrap64 (a + b) * c) = wrap64 (wrap64 (a * c) + wrap64 (c * b)) := by
  rw [wrap_mul_left, wrap_add_left, wrap_add_right, Int.add_mul, Int.mul_comm c b]
theorem back_law {a b : Int} (h0 : -9223372036854775808 ≤ a) (h1 : a ≤ 9223372036854775807) : wrap64 (wrap64 (a + b) - b) = a := by
  rw [wrap_sub_left, Int.add_sub_cancel, wrap_in h0 h1]
theorem div_law {a b : Int} (h0 : -9223372036854775808 ≤ a) (h1 : a ≤ 9223372036854775807) : wrap64 (wrap64 (wrap64 (a.fdiv b) * b) + a.fmod b) = a := by
  rw [wrap_add_left, Int.add_comm, Int.add_comm (a.fmod b)]
  have : wrap64 (a.fdiv b) * b = b * wrap64 (a.fdiv b) := Int.mul_comm _ _
  obtain ⟨k, e⟩ := wrap_ex (a.fdiv b)
  rw [this, e, Int.mul_add]
  have h := Int.mul_fdiv_add_fmod a b
  have : b * (k * 18446744073709551616) = (b * k) * 18446744073709551616 := by rw [Int.mul_assoc]
  rw [this]
  rw [wrap_eq (y := a) ⟨b * k, by omega⟩, wrap_in h0 h1]

/-- What an operator answers, by number; none: nothing. -/
def doS (op a b : Int) : Option Int :=
  if op = 1 then some (wrap64 (a + b)) else if op = 2 then some (wrap64 (a - b)) else if op = 3 then some (wrap64 (a * b))
  else if op = 4 then (if b = 0 then none else some (wrap64 (a.fdiv b))) else if op = 5 then (if b = 0 then none else some (a.fmod b))
  else if op = 6 then some (if a < b then 1 else 0) else if op = 7 then some (if a ≤ b then 1 else 0) else if op = 8 then some (if a = b then 1 else 0) else none
theorem fdiv_one_neg (a : Int) : a.fdiv (-1) = -a := by
  have h := Int.mul_fdiv_add_fmod a (-1)
  have h2 := fmod_neg (a := a) (b := -1) (by omega)
  omega
theorem fmod_one_neg (a : Int) : a.fmod (-1) = 0 := by
  have h2 := fmod_neg (a := a) (b := -1) (by omega)
  omega
theorem tmod_range {a b : Int} (b0 : -9223372036854775808 ≤ b) (b1 : b ≤ 9223372036854775807) (hb : b ≠ 0) : -9223372036854775808 ≤ a.tmod b ∧ a.tmod b ≤ 9223372036854775807 := by
  have h1 := Int.emod_nonneg a hb
  have h2 := Int.emod_lt a hb
  rw [Int.tmod_eq_emod]
  split <;> omega
theorem xor_form {p q : Prop} [Decidable p] [Decidable q] : xor (decide p) (decide q) = true ↔ (p ↔ ¬ q) := by
  by_cases hp : p <;> by_cases hq : q <;> simp [hp, hq]
theorem rem_law {a b : Int} (a0 : -9223372036854775808 ≤ a) (a1 : a ≤ 9223372036854775807) (b0 : -9223372036854775808 ≤ b) (b1 : b ≤ 9223372036854775807) (hb : b ≠ 0) : wrap64 (a - wrap64 (b * wrap64 (a.fdiv b))) = a.fmod b := by
  have h := Int.mul_fdiv_add_fmod a b
  rw [wrap_sub_right]
  obtain ⟨k, e⟩ := wrap_ex (a.fdiv b)
  rw [e, Int.mul_add]
  have e2 : b * (k * 18446744073709551616) = (b * k) * 18446744073709551616 := by rw [Int.mul_assoc]
  rw [e2, wrap_eq (y := a.fmod b) ⟨-(b * k), by omega⟩]
  rcases Int.lt_or_gt_of_ne hb with hn | hn
  · have := fmod_neg (a := a) hn
    exact wrap_in (by omega) (by omega)
  · have := fmod_pos (a := a) hn
    exact wrap_in (by omega) (by omega)
end Go.Proofs.YtohllalninoomaaDoor
