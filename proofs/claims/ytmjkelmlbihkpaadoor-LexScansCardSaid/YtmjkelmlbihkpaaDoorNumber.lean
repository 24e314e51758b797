/-
  A number's text: the program's reader and the reference's, as one function on bytes.
-/
import Derived.Test.YtmjkelmlbihkpaaDoorNum
import Derived.Laws.RangeString
import Derived.Laws.RangeAny
import Derived.Lib.Strings
set_option linter.unusedVariables false
set_option linter.unusedSimpArgs false
namespace Go.Proofs.YtmjkelmlbihkpaaDoor
open Go.ChangeShapes Go.WideShapes Go.ChangeAt Go.RowKit

/-- A hexadecimal digit's worth; 16: none. -/
def hexV (c : Nat) : Nat := if 48 ≤ c ∧ c ≤ 57 then c - 48 else if 97 ≤ c ∧ c ≤ 102 then c - 87 else if 65 ≤ c ∧ c ≤ 70 then c - 55 else 16
def digN (c : Nat) : Nat := if hexV c < 16 then hexV c else 99
theorem hexV_le (c : Nat) : hexV c ≤ 16 := by unfold hexV; split; omega; split; omega; split <;> omega
theorem and7 (c : Nat) (h : (97 ≤ c ∧ c ≤ 102) ∨ (65 ≤ c ∧ c ≤ 70)) : bits BinOp.and .i32 (c : Int) 7 = ((c % 8 : Nat) : Int) := by
  have : c = 97 ∨ c = 98 ∨ c = 99 ∨ c = 100 ∨ c = 101 ∨ c = 102 ∨ c = 65 ∨ c = 66 ∨ c = 67 ∨ c = 68 ∨ c = 69 ∨ c = 70 := by omega
  rcases this with rfl | rfl | rfl | rfl | rfl | rfl | rfl | rfl | rfl | rfl | rfl | rfl <;> decide
set_option maxHeartbeats 1000000 in
theorem digit_any (c : Nat) (w : World) (hc : c ≤ 2147483647) : Calls Tryd.prog 59 #[.int .i32 (c : Int)] w (Ret (.int .u64 (digN c : Int)) w) := by
  by_cases d1 : 48 ≤ c ∧ c ≤ 57
  · obtain ⟨h1, h2⟩ := d1
    have e : digN c = c - 48 := by
      have : hexV c = c - 48 := by unfold hexV; rw [if_pos ⟨h1, h2⟩]
      unfold digN
      rw [this, if_pos (by omega)]
    rw [e]
    have H := Lib.hid (show ((c : Int) - 48) = ((c - 48 : Nat) : Int) by omega)
    go_enter Tryd.func59, Tryd.ntmps59
    go_wp2
    go_ret
    exact ⟨ret_int H.out, rfl⟩
  · by_cases d2 : (97 ≤ c ∧ c ≤ 102) ∨ (65 ≤ c ∧ c ≤ 70)
    · have e : digN c = c % 8 + 9 := by
        have : c = 97 ∨ c = 98 ∨ c = 99 ∨ c = 100 ∨ c = 101 ∨ c = 102 ∨ c = 65 ∨ c = 66 ∨ c = 67 ∨ c = 68 ∨ c = 69 ∨ c = 70 := by omega
        rcases this with rfl | rfl | rfl | rfl | rfl | rfl | rfl | rfl | rfl | rfl | rfl | rfl <;> decide
      have ha := and7 c d2
      rw [e]
      clear d1 e
      have hm : c % 8 < 8 := Nat.mod_lt _ (by omega)
      rcases d2 with ⟨h1, h2⟩ | ⟨h1, h2⟩
      all_goals
        go_enter Tryd.func59, Tryd.ntmps59
        go_wp2
        go_ret
        exact ⟨ret_int (by omega), rfl⟩
    · have e : digN c = 99 := by
        have : hexV c = 16 := by unfold hexV; rw [if_neg d1, if_neg (by omega), if_neg (by omega)]
        unfold digN
        rw [this]
        rfl
      rw [e]
      have : c < 48 ∨ (57 < c ∧ c < 65) ∨ (70 < c ∧ c < 97) ∨ 102 < c := by omega
      clear d1 d2 e
      rcases this with h | ⟨h1, h2⟩ | ⟨h1, h2⟩ | h
      all_goals
        go_enter Tryd.func59, Tryd.ntmps59
        go_wp2
        go_ret
        exact ⟨rfl, rfl⟩
set_option maxHeartbeats 1000000 in
theorem rdigit_any (c : Nat) (w : World) (hc : c < 256) : Calls Tryd.prog 55 #[.int .u8 (c : Int)] w (Ret (.int .i64 (hexV c : Int)) w) := by
  unfold hexV
  by_cases d1 : 48 ≤ c ∧ c ≤ 57
  · rw [if_pos d1]
    obtain ⟨h1, h2⟩ := d1
    have H := Lib.hid (show ((c : Int) - 48) = ((c - 48 : Nat) : Int) by omega)
    go_enter Tryd.func55, Tryd.ntmps55
    go_wp2
    go_ret
    exact ⟨ret_int H.out, rfl⟩
  · rw [if_neg d1]
    by_cases d2 : 97 ≤ c ∧ c ≤ 102
    · rw [if_pos d2]
      obtain ⟨h1, h2⟩ := d2
      have H := Lib.hid (show ((c : Int) - 97 + 10) = ((c - 87 : Nat) : Int) by omega)
      clear d1
      go_enter Tryd.func55, Tryd.ntmps55
      go_wp2
      go_ret
      exact ⟨ret_int H.out, rfl⟩
    · rw [if_neg d2]
      by_cases d3 : 65 ≤ c ∧ c ≤ 70
      · rw [if_pos d3]
        obtain ⟨h1, h2⟩ := d3
        have H := Lib.hid (show ((c : Int) - 65 + 10) = ((c - 55 : Nat) : Int) by omega)
        clear d1 d2
        go_enter Tryd.func55, Tryd.ntmps55
        go_wp2
        go_ret
        exact ⟨ret_int H.out, rfl⟩
      · rw [if_neg d3]
        have : c < 48 ∨ (57 < c ∧ c < 65) ∨ (70 < c ∧ c < 97) ∨ 102 < c := by omega
        clear d1 d2 d3
        rcases this with h | ⟨h1, h2⟩ | ⟨h1, h2⟩ | h
        all_goals
          go_enter Tryd.func55, Tryd.ntmps55
          go_wp2
          go_ret
          exact ⟨rfl, rfl⟩

def isHexB (s : ByteArray) : Bool := decide (2 < s.size) && (s.extract 0 2).toList == [48, 120]
def decGo : List UInt8 → Nat → Option Nat
  | [], n => some n
  | c :: l, n => if hexV c.toNat < 10 ∧ 10 * n + hexV c.toNat ≤ 9223372036854775807 then decGo l (10 * n + hexV c.toNat) else none
def hexGo : List UInt8 → Nat → Option Nat
  | [], n => some n
  | c :: l, n => if hexV c.toNat < 16 then hexGo l ((16 * n + hexV c.toNat) % 18446744073709551616) else none
/-- The number that a text is; none: it is none. -/
def numS (s : ByteArray) : Option Int :=
  if isHexB s then (if s.size ≤ 18 then (hexGo (s.data.toList.drop 2) 0).map (fun n : Nat => wrap64 (n : Int)) else none)
  else if s.size = 0 then none else (decGo s.data.toList 0).map (fun n : Nat => wrap64 (n : Int))
theorem drop_at {s : ByteArray} {k : Nat} (h : k < s.size) : s.data.toList.drop k = s[k] :: s.data.toList.drop (k + 1) := by
  have : k < s.data.toList.length := by simpa using h
  rw [List.drop_eq_getElem_cons this]
  rfl
theorem digN_high (c : Nat) (h : 128 ≤ c) : digN c = 99 := by
  have : hexV c = 16 := by unfold hexV; rw [if_neg (by omega), if_neg (by omega), if_neg (by omega)]
  unfold digN
  rw [this]
  rfl
theorem hexV_high (c : Nat) (h : 128 ≤ c) : hexV c = 16 := by unfold hexV; rw [if_neg (by omega), if_neg (by omega), if_neg (by omega)]
theorem decGo_bad {c : UInt8} {l : List UInt8} {n : Nat} (h : ¬ hexV c.toNat < 10) : decGo (c :: l) n = none := by
  unfold decGo
  rw [if_neg (fun e => h e.1)]
theorem decGo_over {c : UInt8} {l : List UInt8} {n : Nat} (h : ¬ 10 * n + hexV c.toNat ≤ 9223372036854775807) : decGo (c :: l) n = none := by
  unfold decGo
  rw [if_neg (fun e => h e.2)]
theorem decGo_step {c : UInt8} {l : List UInt8} {n : Nat} (h : hexV c.toNat < 10) (h2 : 10 * n + hexV c.toNat ≤ 9223372036854775807) : decGo (c :: l) n = decGo l (10 * n + hexV c.toNat) := by
  rw [decGo, if_pos ⟨h, h2⟩]
theorem hexGo_bad {c : UInt8} {l : List UInt8} {n : Nat} (h : ¬ hexV c.toNat < 16) : hexGo (c :: l) n = none := by
  rw [hexGo, if_neg h]
theorem hexGo_step {c : UInt8} {l : List UInt8} {n : Nat} (h : hexV c.toNat < 16) : hexGo (c :: l) n = hexGo l ((16 * n + hexV c.toNat) % 18446744073709551616) := by
  rw [hexGo, if_pos h]
theorem below_iter {B : Nat} {w w1 : World} (h : Below B w w1) (hB : B ≤ w1.heap.size) (s : ByteArray) (pos : Nat) : Below B w (w1.iter s pos) := h.alloc hB _

theorem digN_lo {c : Nat} (h : hexV c < 16) : digN c = hexV c := by unfold digN; rw [if_pos h]
theorem digN_ge {c : Nat} (h : ¬ hexV c < 10) : 10 ≤ digN c := by unfold digN; split <;> omega
theorem digN_16 {c : Nat} (h : ¬ hexV c < 16) : digN c = 99 := by unfold digN; rw [if_neg h]
theorem digN_le (c : Nat) : digN c ≤ 99 := by unfold digN; have := hexV_le c; split <;> omega
theorem bytes_none {s : ByteArray} (h : s.size = 0) : s.toList = [] ∧ s.toList.isEmpty = true := by
  have : s.toList = [] := by
    rw [Lib.toList_data]
    exact List.eq_nil_of_length_eq_zero (by simpa using h)
  exact ⟨this, by rw [this]; rfl⟩
theorem bytes_some {s : ByteArray} (h : ¬ s.size = 0) : ¬ s.toList = [] ∧ s.toList.isEmpty = false := by
  have : ¬ s.toList = [] := by
    rw [Lib.toList_data]
    intro e
    exact h (by simpa using congrArg List.length e)
  refine ⟨this, ?_⟩
  cases h2 : s.toList with
  | nil => exact absurd h2 this
  | cons x l => rfl
end Go.Proofs.YtmjkelmlbihkpaaDoor
