/-
  Chapter 23: two arrays of eight ints, compared.
-/
import Derived.Test.YtkdoohmchdpjoaaWorldOut
import Derived.ChangeKeysEq
set_option linter.unusedVariables false
set_option linter.unusedSimpArgs false
namespace Go.Proofs.Ytkdoohmchdpjoaa
open Go.ChangeShapes Go.WideShapes Go.ChangeAt Go.RowKit

theorem info8 : ∃ i, Try.prog.info? 3 = some i := ⟨_, rfl⟩
theorem cellsInt : Try.prog.cellsOf 3 = 1 := by kernel_rfl
theorem isAgg_int (w : World) : (isAgg 3).run Try.prog w = .ok false w := by kernel_rfl
theorem eqItem_int (d : Nat) (xs ys : Array Value) (i : Nat) (is : List Nat) (x y : Int) (w : World) (hx : xs[i]? = some (.int .i64 x)) (hy : ys[i]? = some (.int .i64 y)) :
    (Op.eqItems (d + 1) 3 1 xs ys (i :: is)).run Try.prog w = if (x == y) = true then (Op.eqItems (d + 1) 3 1 xs ys is).run Try.prog w else .ok false w := by
  simp only [Op.eqItems, Sem.run_bind, part, isAgg_int, Result.andThen_ok, Nat.mul_one, hx, hy]
  simp [go_sem, run_equalIn_int, Try.underlying3]
theorem eqItems_ints (d : Nat) (xs ys : Array Value) (a b : Nat → Int) (w : World) : ∀ (is : List Nat), (∀ i ∈ is, xs[i]? = some (.int .i64 (a i))) → (∀ i ∈ is, ys[i]? = some (.int .i64 (b i))) →
    (Op.eqItems (d + 1) 3 1 xs ys is).run Try.prog w = .ok (is.all fun i => a i == b i) w
  | [], _, _ => by simp [Op.eqItems, go_sem]
  | i :: is, hx, hy => by
    rw [eqItem_int d xs ys i is (a i) (b i) w (hx i (by simp)) (hy i (by simp)), eqItems_ints d xs ys a b w is (fun j hj => hx j (by simp [hj])) (fun j hj => hy j (by simp [hj]))]
    cases h : (a i == b i) <;> simp [h]
/-- A row of ints by number. -/
def iv (a : Nat → Int) (k : Nat) : Value := .int .i64 (a k)
theorem places_eq (a b : Nat → Int) (w : World) : (Op.equalIn 10000 56 (agg8 (iv a)) (agg8 (iv b))).run Try.prog w = .ok ((List.range 8).all fun i => a i == b i) w := by
  obtain ⟨i, hi⟩ := info8
  unfold agg8
  rw [run_equalIn_array w 9999 _ _ Try.underlying56 hi, cellsInt]
  refine eqItems_ints 9998 _ _ a b w _ (fun j hj => ?_) (fun j hj => ?_)
  · exact eight_arr (iv a) j (List.mem_range.1 hj)
  · exact eight_arr (iv b) j (List.mem_range.1 hj)
end Go.Proofs.Ytkdoohmchdpjoaa
