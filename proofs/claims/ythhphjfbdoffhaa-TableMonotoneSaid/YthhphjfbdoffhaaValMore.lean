/-
  Truth, Check, Neg, With, Not of values: the program's contracts and the reference's.
-/
import Derived.Test.YthhphjfbdoffhaaValRec
import Derived.Test.YthhphjfbdoffhaaOpen
set_option linter.unusedVariables false
set_option linter.unusedSimpArgs false
namespace Go.Proofs.Ythhphjfbdoffhaa
open Go.ChangeShapes Go.WideShapes Go.ChangeAt Go.RowKit

def truthV (v : VV) : Bool := if v.kind = 0 then false else if v.kind = 1 then !(v.n == 0) else true
theorem truth_any (v : VV) (w : World) : Calls Try.prog 25 #[.agg (vvCells v)] w (RetB (.bool (truthV v)) w) := by
  obtain ⟨k, n, s, l⟩ := v
  unfold vvCells truthV
  have hb0 : Below w.heap.size w (w.alloc (.cells #[.int .i64 k, .int .i64 n, .string s, .int .u64 (l : Int)] 25)) := (Below.refl _ _).alloc (Nat.le_refl _) _
  by_cases k0 : k = 0
  · subst k0
    go_enter Try.func25, Try.ntmps25
    go_wp2
    go_ret
    exact ⟨rfl, hb0⟩
  · by_cases k1 : k = 1
    · subst k1
      go_enter Try.func25, Try.ntmps25
      go_wp2
      go_ret
      exact ⟨rfl, hb0⟩
    · go_enter Try.func25, Try.ntmps25
      go_wp2
      go_ret
      exact ⟨ret_bool (by simp [k0, k1]), hb0⟩
theorem rtruth_any (v : VV) (w : World) : Calls Try.prog 26 #[.agg (vvCells v)] w (RetB (.bool (truthV v)) w) := by
  obtain ⟨k, n, s, l⟩ := v
  unfold vvCells truthV
  have hb0 : Below w.heap.size w (w.alloc (.cells #[.int .i64 k, .int .i64 n, .string s, .int .u64 (l : Int)] 25)) := (Below.refl _ _).alloc (Nat.le_refl _) _
  by_cases k0 : k = 0
  · subst k0
    go_enter Try.func26, Try.ntmps26
    go_wp2
    go_ret
    exact ⟨rfl, hb0⟩
  · by_cases k1 : k = 1
    · subst k1
      go_enter Try.func26, Try.ntmps26
      go_wp2
      go_ret
      exact ⟨rfl, hb0⟩
    · go_enter Try.func26, Try.ntmps26
      go_wp2
      go_ret
      exact ⟨ret_bool (by simp [k0, k1]), hb0⟩
/-- Which values may be. -/
def checkV (v : VV) : Bool := (v.s.toList.isEmpty || v.kind == 3) && (if v.kind = 2 then true else if v.kind = 1 then (v.n == 0 || v.n == 1) else if v.kind = 0 ∨ v.kind = 3 then v.n == 0 else decide (3 < v.kind ∧ v.kind ≤ 6 ∧ 0 ≤ v.n))
theorem kind_cases (k : Int) : k < 0 ∨ k = 0 ∨ k = 1 ∨ k = 2 ∨ k = 3 ∨ k = 4 ∨ k = 5 ∨ k = 6 ∨ 6 < k := by omega
theorem bytes_none {s : ByteArray} (h : s.size = 0) : s.toList = [] ∧ s.toList.isEmpty = true := by
  have : s.toList = [] := by
    rw [ByteArray.toList_eq]
    exact List.eq_nil_of_length_eq_zero (by simpa using h)
  exact ⟨this, by rw [this]; rfl⟩
theorem bytes_some {s : ByteArray} (h : ¬ s.size = 0) : ¬ s.toList = [] ∧ s.toList.isEmpty = false := by
  have : ¬ s.toList = [] := by
    rw [ByteArray.toList_eq]
    intro e
    exact h (by simpa using congrArg List.length e)
  refine ⟨this, ?_⟩
  cases h2 : s.toList with
  | nil => exact absurd h2 this
  | cons x l => rfl
theorem bytes_em (s : ByteArray) : (s.toList = [] ∧ s.toList.isEmpty = true) ∨ (¬ s.toList = [] ∧ s.toList.isEmpty = false) :=
  (Classical.em (s.size = 0)).imp bytes_none bytes_some
set_option maxRecDepth 100000 in
set_option maxHeartbeats 4000000 in
theorem check_any (v : VV) (w : World) : Calls Try.prog 20 #[.agg (vvCells v)] w (RetB (.bool (checkV v)) w) := by
  obtain ⟨k, n, s, l⟩ := v
  unfold vvCells checkV
  have hb0 : Below w.heap.size w (w.alloc (.cells #[.int .i64 k, .int .i64 n, .string s, .int .u64 (l : Int)] 25)) := (Below.refl _ _).alloc (Nat.le_refl _) _
  have HB0 := Lib.hid hb0
  clear hb0
  rcases bytes_em s with ⟨z1, z2⟩ | ⟨z1, z2⟩
  all_goals obtain h | rfl | rfl | rfl | rfl | rfl | rfl | rfl | h := kind_cases k
  all_goals
    go_enter Try.func20, Try.ntmps20
    go_wp2
    all_goals
      go_ret
      exact ⟨ret_bool (by first | rfl | (simp_all; done) | (simp_all; omega)), by first | exact HB0.out | exact (Below.refl _ _).alloc (Nat.le_refl _) _⟩
set_option maxRecDepth 100000 in
set_option maxHeartbeats 4000000 in
theorem rcheck_any (v : VV) (w : World) : Calls Try.prog 21 #[.agg (vvCells v)] w (RetB (.bool (checkV v)) w) := by
  obtain ⟨k, n, s, l⟩ := v
  unfold vvCells checkV
  have hb0 : Below w.heap.size w (w.alloc (.cells #[.int .i64 k, .int .i64 n, .string s, .int .u64 (l : Int)] 25)) := (Below.refl _ _).alloc (Nat.le_refl _) _
  have HB0 := Lib.hid hb0
  clear hb0
  rcases bytes_em s with ⟨z1, z2⟩ | ⟨z1, z2⟩
  all_goals obtain h | rfl | rfl | rfl | rfl | rfl | rfl | rfl | h := kind_cases k
  all_goals
    go_enter Try.func21, Try.ntmps21
    go_wp2
    all_goals
      go_ret
      exact ⟨ret_bool (by first | rfl | (simp_all; done) | (simp_all; omega)), by first | exact HB0.out | exact (Below.refl _ _).alloc (Nat.le_refl _) _⟩
/-- The negative, and why not. -/
def negV (v : VV) : VV × ByteArray := if v.kind = 2 then (⟨2, wrap64 (-v.n), ByteArray.empty, v.label⟩, ByteArray.empty) else (⟨0, 0, ByteArray.empty, v.label⟩, sArith)
theorem neg_any (v : VV) (w : World) : Calls Try.prog 23 #[.agg (vvCells v)] w (RetB (.tuple #[.agg (vvCells (negV v).1), .string (negV v).2]) w) := by
  obtain ⟨k, n, s, l⟩ := v
  unfold vvCells negV
  by_cases k2 : k = 2
  · subst k2
    go_enter Try.func23, Try.ntmps23
    go_wp2
    exact bodyPost_ret (v := .tuple #[.agg #[.int .i64 2, .int .i64 (wrap64 (-n)), .string ByteArray.empty, .int .u64 (l : Int)], .string ByteArray.empty]) (by simp [results, Try.results23, go_sem]; first | rfl | exact ⟨rfl, rfl⟩) rfl ⟨rfl, (by repeat' (first | exact Below.refl _ _ | refine Below.drew ?_ | refine Below.setCell ?_ ?_ _ | refine Below.alloc ?_ ?_ _ | (simp; done) | (simp; omega)))⟩
  · rw [if_neg k2]
    go_enter Try.func23, Try.ntmps23
    go_wp2
    exact bodyPost_ret (v := .tuple #[.agg #[.int .i64 0, .int .i64 0, .string ByteArray.empty, .int .u64 (l : Int)], .string sArith]) (by simp [results, Try.results23, go_sem]; first | rfl | exact ⟨rfl, rfl⟩) rfl ⟨rfl, (by repeat' (first | exact Below.refl _ _ | refine Below.drew ?_ | refine Below.setCell ?_ ?_ _ | refine Below.alloc ?_ ?_ _ | (simp; done) | (simp; omega)))⟩
theorem rneg_any (v : VV) (w : World) : Calls Try.prog 24 #[.agg (vvCells v)] w (RetB (.tuple #[.agg (vvCells (negV v).1), .string (negV v).2]) w) := by
  obtain ⟨k, n, s, l⟩ := v
  unfold vvCells negV
  by_cases k2 : k = 2
  · subst k2
    go_enter Try.func24, Try.ntmps24
    go_wp2
    exact bodyPost_ret (v := .tuple #[.agg #[.int .i64 2, .int .i64 (wrap64 (-n)), .string ByteArray.empty, .int .u64 (l : Int)], .string ByteArray.empty]) (by simp [results, Try.results24, go_sem]; first | rfl | exact ⟨rfl, rfl⟩) rfl ⟨rfl, (by repeat' (first | exact Below.refl _ _ | refine Below.drew ?_ | refine Below.setCell ?_ ?_ _ | refine Below.alloc ?_ ?_ _ | (simp; done) | (simp; omega)))⟩
  · rw [if_neg k2]
    go_enter Try.func24, Try.ntmps24
    go_wp2
    exact bodyPost_ret (v := .tuple #[.agg #[.int .i64 0, .int .i64 0, .string ByteArray.empty, .int .u64 (l : Int)], .string sArith]) (by simp [results, Try.results24, go_sem]; first | rfl | exact ⟨rfl, rfl⟩) rfl ⟨rfl, (by repeat' (first | exact Below.refl _ _ | refine Below.drew ?_ | refine Below.setCell ?_ ?_ _ | refine Below.alloc ?_ ?_ _ | (simp; done) | (simp; omega)))⟩
end Go.Proofs.Ythhphjfbdoffhaa
