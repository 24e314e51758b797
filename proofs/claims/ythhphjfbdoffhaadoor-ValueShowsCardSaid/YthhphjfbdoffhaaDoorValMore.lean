/-
  Truth, Check, Neg, With, Not of values: the program's contracts and the reference's.
-/
import Derived.Test.YthhphjfbdoffhaaDoorValRec
import Derived.Test.YthhphjfbdoffhaaDoorOpen
set_option linter.unusedVariables false
set_option linter.unusedSimpArgs false
namespace Go.Proofs.YthhphjfbdoffhaaDoor
open Go.ChangeShapes Go.WideShapes Go.ChangeAt Go.RowKit

def truthV (v : VV) : Bool := if v.kind = 0 then false else if v.kind = 1 then !(v.n == 0) else true
/-- Which values may be. -/
def checkV (v : VV) : Bool := (v.s.toList.isEmpty || v.kind == 3) && (if v.kind = 2 then true else if v.kind = 1 then (v.n == 0 || v.n == 1) else if v.kind = 0 ∨ v.kind = 3 then v.n == 0 else decide (3 < v.kind ∧ v.kind ≤ 6 ∧ 0 ≤ v.n))
theorem kind_cases (k : Int) : k < 0 ∨ k = 0 ∨ k = 1 ∨ k = 2 ∨ k = 3 ∨ k = 4 ∨ k = 5 ∨ k = 6 ∨ 6 < k := by omega
theorem bytes_none {s : ByteArray} (h : s.size = 0) : s.toList = [] ∧ s.toList.isEmpty = true := by
  have : s.toList = [] := by
    rw [ByteArray.toList_eq]
    exact List.eq_nil_of_length_eq_zero (by simpa using h)
  exact ⟨this, by rw [this]; rfl⟩
theorem bytes_some {s : ByteArray} (h : ¬ s.size = 0) : ¬ s.toList = [] ∧ s.toList.isEmpty = false := by
  have : ¬ s.toList = [] := by
    rw [ByteArray.toList_eq]
    intro e
    exact h (by simpa using congrArg List.length e)
  refine ⟨this, ?_⟩
  cases h2 : s.toList with
  | nil => exact absurd h2 this
  | cons x l => rfl
theorem bytes_em (s : ByteArray) : (s.toList = [] ∧ s.toList.isEmpty = true) ∨ (¬ s.toList = [] ∧ s.toList.isEmpty = false) :=
  (Classical.em (s.size = 0)).imp bytes_none bytes_some
/-- The negative, and why not. -/
def negV (v : VV) : VV × ByteArray := if v.kind = 2 then (⟨2, wrap64 (-v.n), ByteArray.empty, v.label⟩, ByteArray.empty) else (⟨0, 0, ByteArray.empty, v.label⟩, sArith)
end Go.Proofs.YthhphjfbdoffhaaDoor
