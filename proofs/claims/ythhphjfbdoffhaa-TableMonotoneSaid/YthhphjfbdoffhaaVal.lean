/-
  Values of chapter 3: what the operators answer, as plain functions; the small functions' contracts.
-/
import Derived.Test.YthhphjfbdoffhaaNum
import Derived.Test.YthhphjfbdoffhaaLabel
import Derived.Deep.RegionHeld3
import Derived.Deep.DrawnRows
import Derived.Laws.StructEq
set_option linter.unusedVariables false
set_option linter.unusedSimpArgs false
namespace Go.Proofs.Ythhphjfbdoffhaa
open Go.ChangeShapes Go.WideShapes Go.ChangeAt Go.RowKit

/-- A value of chapter 3. -/
structure VV where
  kind : Int
  n : Int
  s : ByteArray
  label : Nat
def vvCells (v : VV) : Array Value := #[.int .i64 v.kind, .int .i64 v.n, .string v.s, .int .u64 (v.label : Int)]
def zeroVV : VV := ⟨0, 0, ByteArray.empty, 0⟩
def flagV (b : Bool) : VV := ⟨1, if b then 1 else 0, ByteArray.empty, 0⟩
def bareV (v : VV) : VV := { v with label := 0 }
def sameV (a b : VV) : Bool := a.kind == b.kind && a.n == b.n && a.s.toList == b.s.toList
def bothK (k : Int) (a b : VV) : Bool := a.kind == k && b.kind == k

/-- The world of a walk under one name. -/
theorem gen_wp {P : Program} {c : Code} {Q : Exit → Act → World → Prop} {a : Act} {w : World} (h : ∀ W, w = W → c.wp P Q a W) : c.wp P Q a w := h w rfl
theorem vflag_any (b : Bool) (w : World) : Calls Try.prog 51 #[.bool b] w (RetB (.agg (vvCells (flagV b))) w) := by
  cases b
  · go_enter Try.func51, Try.ntmps51
    go_wp2
    exact bodyPost_ret (v := .agg (vvCells (flagV false))) (by simp [results, Try.results51, go_sem]; rfl) rfl ⟨rfl, (by repeat' (first | exact Below.refl _ _ | refine Below.drew ?_ | refine Below.setCell ?_ ?_ _ | refine Below.alloc ?_ ?_ _ | (simp; done) | (simp; omega)))⟩
  · go_enter Try.func51, Try.ntmps51
    go_wp2
    exact bodyPost_ret (v := .agg (vvCells (flagV true))) (by simp [results, Try.results51, go_sem]; rfl) rfl ⟨rfl, (by repeat' (first | exact Below.refl _ _ | refine Below.drew ?_ | refine Below.setCell ?_ ?_ _ | refine Below.alloc ?_ ?_ _ | (simp; done) | (simp; omega)))⟩
theorem rflag_any (b : Bool) (w : World) : Calls Try.prog 52 #[.bool b] w (RetB (.agg (vvCells (flagV b))) w) := by
  cases b
  · go_enter Try.func52, Try.ntmps52
    go_wp2
    exact bodyPost_ret (v := .agg (vvCells (flagV false))) (by simp [results, Try.results52, go_sem]; rfl) rfl ⟨rfl, (by repeat' (first | exact Below.refl _ _ | refine Below.drew ?_ | refine Below.setCell ?_ ?_ _ | refine Below.alloc ?_ ?_ _ | (simp; done) | (simp; omega)))⟩
  · go_enter Try.func52, Try.ntmps52
    go_wp2
    exact bodyPost_ret (v := .agg (vvCells (flagV true))) (by simp [results, Try.results52, go_sem]; rfl) rfl ⟨rfl, (by repeat' (first | exact Below.refl _ _ | refine Below.drew ?_ | refine Below.setCell ?_ ?_ _ | refine Below.alloc ?_ ?_ _ | (simp; done) | (simp; omega)))⟩
theorem bare_any (v : VV) (w : World) : Calls Try.prog 50 #[.agg (vvCells v)] w (RetB (.agg (vvCells (bareV v))) w) := by
  unfold vvCells
  go_enter Try.func50, Try.ntmps50
  go_wp2
  exact bodyPost_ret (v := .agg (vvCells (bareV v))) (by simp [results, Try.results50, go_sem]; rfl) rfl ⟨rfl, (by repeat' (first | exact Below.refl _ _ | refine Below.drew ?_ | refine Below.setCell ?_ ?_ _ | refine Below.alloc ?_ ?_ _ | (simp; done) | (simp; omega)))⟩
theorem both_any (k : Int) (a b : VV) (w : World) : Calls Try.prog 66 #[.int .i64 k, .agg (vvCells a), .agg (vvCells b)] w (RetB (.bool (bothK k a b)) w) := by
  unfold vvCells
  go_enter Try.func66, Try.ntmps66
  go_wp2
  all_goals
    go_ret
    exact ⟨ret_bool (by simp_all [bothK]), (by repeat' (first | exact Below.refl _ _ | refine Below.drew ?_ | refine Below.setCell ?_ ?_ _ | refine Below.alloc ?_ ?_ _ | (simp; done) | (simp; omega)))⟩
theorem must_ok (s : ByteArray) (w : World) : Calls Try.prog 65 #[.bool true, .string s] w fun e w' => e = .returned (.tuple #[]) ∧ w = w' := by
  go_enter Try.func65, Try.ntmps65
  go_wp2
  go_end0
  exact ⟨rfl, rfl⟩
def troubleV (s : ByteArray) : List PanicEntry := [{ v := .iface 75 (.agg #[.string s]), recovered := false }]
theorem must_no (s : ByteArray) (w : World) : Calls Try.prog 65 #[.bool false, .string s] w fun e w' => e = .panicked (troubleV s) ∧ w = w' := by
  go_enter Try.func65, Try.ntmps65
  go_wp2
  exact ⟨rfl, rfl, rfl⟩
/-- What '==' says of two values. -/
def eqV (a b : VV) : Bool := a.kind == b.kind && (a.n == b.n && (a.s.toList == b.s.toList && ((a.label : Int) == (b.label : Int))))
set_option maxRecDepth 100000 in
theorem val_eq (a b : VV) (w : World) : (Op.equalIn 10000 25 (.agg (vvCells a)) (.agg (vvCells b))).run Try.prog w = .ok (eqV a b) w := by
  have u1 := Try.underlying3
  have u2 := Try.underlying2
  have u3 := Try.underlying9
  have u4 := Try.underlying23
  have a1 := Try.isAgg3
  have a2 := Try.isAgg2
  have a3 := Try.isAgg9
  have a4 := Try.isAgg23
  have z1 := Try.sizeOf3
  have z2 := Try.sizeOf2
  have z3 := Try.sizeOf9
  have z4 := Try.sizeOf23
  have hS : Try.prog.underlying 25 = some (.struct (Try.prog.fieldsOf 25)) := by kernel_rfl
  have hp : Try.prog.stoodInHeld 25 = false := by kernel_rfl
  unfold vvCells eqV
  rw [show (10000 : Nat) = 9999 + 1 from rfl, run_equalIn_agg w 9999 25 _ _ hS hp]
  simp only [Program.fieldsOf, Try.underlying25]
  go_simp
  by_cases h1 : a.kind = b.kind <;> by_cases h2 : a.n = b.n <;> by_cases h3 : a.s.toList = b.s.toList <;> by_cases h4 : (a.label : Int) = (b.label : Int) <;> simp only [h1, h2, h3, h4, if_true, if_false, beq_self_eq_true, beq_eq_false_iff_ne.2, Bool.true_and, Bool.false_and, ne_eq, not_false_eq_true]
theorem same_any (a b : VV) (w : World) : Calls Try.prog 22 #[.agg (vvCells a), .agg (vvCells b)] w (RetB (.bool (sameV a b)) w) := by
  have h1 := fun w => bare_any a w
  have h2 := fun w => bare_any b w
  have heq := fun w => val_eq (bareV a) (bareV b) w
  unfold vvCells at h1 h2 heq ⊢
  go_enter Try.func22, Try.ntmps22
  go_wp2
  refine gen_wp fun W hW => ?_
  have hA : W.heap[w.heap.size]? = some (.cells #[.int .i64 a.kind, .int .i64 a.n, .string a.s, .int .u64 (a.label : Int)] 25 (0, 0)) := by rw [← hW]; exact blk_alloc (heap_new_at _ _ _ rfl) _
  have hB : W.heap[w.heap.size + 1]? = some (.cells #[.int .i64 b.kind, .int .i64 b.n, .string b.s, .int .u64 (b.label : Int)] 25 (0, 0)) := by rw [← hW]; exact heap_new_at _ _ _ (by simp)
  have hbw : Below w.heap.size w W := by rw [← hW]; exact ((Below.refl _ _).alloc (Nat.le_refl _) _).alloc (by simp) _
  clear hW
  have a0 := cell_of_blk (i := 0) hA rfl
  have a1 := cell_of_blk (i := 1) hA rfl
  have a2 := cell_of_blk (i := 2) hA rfl
  have a3 := cell_of_blk (i := 3) hA rfl
  have b0 := cell_of_blk (i := 0) hB rfl
  have b1 := cell_of_blk (i := 1) hB rfl
  have b2 := cell_of_blk (i := 2) hB rfl
  have b3 := cell_of_blk (i := 3) hB rfl
  have HA := Lib.hid hA
  have HB := Lib.hid hB
  have HW := Lib.hid hbw
  clear hA hB hbw
  go_region_held3 (fun w' => w'.cell? ⟨w.heap.size, 0, none⟩ = some (.int .i64 a.kind) ∧ w'.cell? ⟨w.heap.size, 1, none⟩ = some (.int .i64 a.n) ∧ w'.cell? ⟨w.heap.size, 2, none⟩ = some (.string a.s) ∧ w'.cell? ⟨w.heap.size, 3, none⟩ = some (.int .u64 (a.label : Int)) ∧ w'.cell? ⟨w.heap.size + 1, 0, none⟩ = some (.int .i64 b.kind) ∧ w'.cell? ⟨w.heap.size + 1, 1, none⟩ = some (.int .i64 b.n) ∧ w'.cell? ⟨w.heap.size + 1, 2, none⟩ = some (.string b.s) ∧ w'.cell? ⟨w.heap.size + 1, 3, none⟩ = some (.int .u64 (b.label : Int))) (first | go_keep | exact ks | exact ks2)
    ((first
      | (go_at_call 50; refine (h1 _).mono ?_; rintro e w1 ⟨rfl, hb1⟩; have hA1 := below_blk hb1 (blk_drew HA.out); have hB1 := below_blk hb1 (blk_drew HB.out); have ks := And.intro (cell_of_blk (i := 0) hA1 rfl) (And.intro (cell_of_blk (i := 1) hA1 rfl) (And.intro (cell_of_blk (i := 2) hA1 rfl) (And.intro (cell_of_blk (i := 3) hA1 rfl) (And.intro (cell_of_blk (i := 0) hB1 rfl) (And.intro (cell_of_blk (i := 1) hB1 rfl) (And.intro (cell_of_blk (i := 2) hB1 rfl) (cell_of_blk (i := 3) hB1 rfl))))))))
      | (go_at_call 50; refine (h2 _).mono ?_; rintro e w2 ⟨rfl, hb2⟩; have hA2 := below_blk hb2 hA1; have hB2 := below_blk hb2 hB1; have ks2 := And.intro (cell_of_blk (i := 0) hA2 rfl) (And.intro (cell_of_blk (i := 1) hA2 rfl) (And.intro (cell_of_blk (i := 2) hA2 rfl) (And.intro (cell_of_blk (i := 3) hA2 rfl) (And.intro (cell_of_blk (i := 0) hB2 rfl) (And.intro (cell_of_blk (i := 1) hB2 rfl) (And.intro (cell_of_blk (i := 2) hB2 rfl) (cell_of_blk (i := 3) hB2 rfl))))))))))
  go_wp2
  go_ret
  have e : eqV (bareV a) (bareV b) = sameV a b := by simp [eqV, sameV, bareV, Bool.and_assoc]
  exact ⟨ret_bool e, (HW.out.drew).trans ((hb1.trans (hb2.mono hb1.size)).mono HW.out.size)⟩
end Go.Proofs.Ythhphjfbdoffhaa
