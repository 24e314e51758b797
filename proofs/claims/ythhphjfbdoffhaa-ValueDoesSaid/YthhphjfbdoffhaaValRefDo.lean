/-
  The reference's Do on values.
-/
import Derived.Test.YthhphjfbdoffhaaValRefD
set_option linter.unusedVariables false
set_option linter.unusedSimpArgs false
namespace Go.Proofs.Ythhphjfbdoffhaa
open Go.ChangeShapes Go.WideShapes Go.ChangeAt Go.RowKit

theorem raw_do (op : Int) (a b : VV) : doV op a b = ({ (rawV (doneS op a b)).1 with label := a.label ||| b.label }, (rawV (doneS op a b)).2) := by
  unfold doV rawV
  cases doneS op a b <;> rfl
set_option maxRecDepth 100000 in
set_option maxHeartbeats 2000000 in
theorem rdoval_any (op : Int) (a b : VV) (w : World) (ha : -9223372036854775808 ≤ a.n ∧ a.n ≤ 9223372036854775807) (hb : -9223372036854775808 ≤ b.n ∧ b.n ≤ 9223372036854775807) (hsz : a.s.size + b.s.size ≤ 1000000) (la : a.label < 18446744073709551616) (lb : b.label < 18446744073709551616) :
    Calls Try.prog 16 #[.int .i64 op, .agg (vvCells a), .agg (vvCells b)] w (RetB (.tuple #[.agg (vvCells (doV op a b).1), .string (doV op a b).2]) w) := by
  have hr := fun w => raw_any op a b w ha hb hsz
  have hj := fun w => rjoin_any a.label b.label w la lb
  rw [raw_do]
  generalize (rawV (doneS op a b)).1 = X at hr ⊢
  generalize (rawV (doneS op a b)).2 = Y at hr ⊢
  unfold vvCells at hr ⊢
  have HR := Lib.hid hr
  have HJ := Lib.hid hj
  clear hr hj ha hb hsz la lb
  dsimp only
  go_enter Try.func16, Try.ntmps16
  go_wp2_with fail
  refine (HR.out _).mono ?_
  rintro e w1 ⟨he, hb1⟩
  unfold vvCells at he
  subst he
  have hA1 := below_blk hb1 (blk_alloc (blk_alloc (heap_new_at _ _ w.heap.size rfl) _) _)
  have hB1 := below_blk hb1 (blk_alloc (heap_new_at _ _ (w.heap.size + 1) (by simp)) _)
  have hR1 := below_blk hb1 (heap_new_at _ _ (w.heap.size + 1 + 1) (by simp))
  have a3 : w1.cell? ⟨w.heap.size, 3, none⟩ = some (.int .u64 (a.label : Int)) := cell_of_blk hA1 rfl
  have b3 : w1.cell? ⟨w.heap.size + 1, 3, none⟩ = some (.int .u64 (b.label : Int)) := cell_of_blk hB1 rfl
  have y0 : w1.cell? ⟨w.heap.size + 1 + 1, 0, none⟩ = some (.int .i64 0) := cell_of_blk hR1 rfl
  have y1 : w1.cell? ⟨w.heap.size + 1 + 1, 1, none⟩ = some (.int .i64 0) := cell_of_blk hR1 rfl
  have y2 : w1.cell? ⟨w.heap.size + 1 + 1, 2, none⟩ = some (.string ByteArray.empty) := cell_of_blk hR1 rfl
  have y3 : w1.cell? ⟨w.heap.size + 1 + 1, 3, none⟩ = some (.int .u64 0) := cell_of_blk hR1 rfl
  have q0 : w1.frozen? ⟨w.heap.size + 1 + 1, 0, none⟩ = false := free_of_blk hR1
  have q1 : w1.frozen? ⟨w.heap.size + 1 + 1, 1, none⟩ = false := free_of_blk hR1
  have q2 : w1.frozen? ⟨w.heap.size + 1 + 1, 2, none⟩ = false := free_of_blk hR1
  have q3 : w1.frozen? ⟨w.heap.size + 1 + 1, 3, none⟩ = false := free_of_blk hR1
  have hl2 := blk_lt hR1
  have hl1 : w.heap.size + 1 < w1.heap.size := by omega
  have hl0 : w.heap.size < w1.heap.size := by omega
  have HB1 : Hid (Below w.heap.size w w1) := Lib.hid (((((Below.refl _ _).alloc (Nat.le_refl _) _).alloc (by simp) _).alloc (by simp; omega) _).trans (hb1.mono (by simp; omega)))
  clear hb1 hA1 hB1 hR1
  go_wp2_with (go_at_call 19; refine (HJ.out _).mono ?_; rintro e w' ⟨rfl, rfl⟩)
  refine bodyPost_ret (v := .tuple #[.agg #[.int .i64 X.kind, .int .i64 X.n, .string X.s, .int .u64 ((a.label ||| b.label : Nat) : Int)], .string Y]) (by simp [results, Try.results16, go_sem, y0, y1, y2, y3, q0, q1, q2, q3, hl2]) rfl ⟨rfl, ?_⟩
  repeat' (first | exact HB1.out | refine Below.drew ?_ | refine Below.setCell ?_ ?_ _ | refine Below.alloc ?_ ?_ _ | (simp; done) | (simp; omega) | omega)
end Go.Proofs.Ythhphjfbdoffhaa
