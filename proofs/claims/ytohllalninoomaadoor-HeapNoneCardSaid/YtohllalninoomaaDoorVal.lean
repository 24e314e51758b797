/-
  Values of chapter 3: what the operators answer, as plain functions; the small functions' contracts.
-/
import Derived.Test.YtohllalninoomaaDoorNum
import Derived.Test.YtohllalninoomaaDoorLabel
import Derived.Deep.RegionHeld3
import Derived.Deep.DrawnRows
import Derived.Laws.StructEq
set_option linter.unusedVariables false
set_option linter.unusedSimpArgs false
namespace Go.Proofs.YtohllalninoomaaDoor
open Go.ChangeShapes Go.WideShapes Go.ChangeAt Go.RowKit

/-- A value of chapter 3. -/
structure VV where
  kind : Int
  n : Int
  s : ByteArray
  label : Nat
def vvCells (v : VV) : Array Value := #[.int .i64 v.kind, .int .i64 v.n, .string v.s, .int .u64 (v.label : Int)]
def zeroVV : VV := ⟨0, 0, ByteArray.empty, 0⟩
def flagV (b : Bool) : VV := ⟨1, if b then 1 else 0, ByteArray.empty, 0⟩
def bareV (v : VV) : VV := { v with label := 0 }
def sameV (a b : VV) : Bool := a.kind == b.kind && a.n == b.n && a.s.toList == b.s.toList
def bothK (k : Int) (a b : VV) : Bool := a.kind == k && b.kind == k

/-- The world of a walk under one name. -/
theorem gen_wp {P : Program} {c : Code} {Q : Exit → Act → World → Prop} {a : Act} {w : World} (h : ∀ W, w = W → c.wp P Q a W) : c.wp P Q a w := h w rfl
theorem bare_any (v : VV) (w : World) : Calls Tryd.prog 64 #[.agg (vvCells v)] w (RetB (.agg (vvCells (bareV v))) w) := by
  unfold vvCells
  go_enter Tryd.func64, Tryd.ntmps64
  go_wp2
  exact bodyPost_ret (v := .agg (vvCells (bareV v))) (by simp [results, Tryd.results64, go_sem]; rfl) rfl ⟨rfl, (by repeat' (first | exact Below.refl _ _ | refine Below.drew ?_ | refine Below.setCell ?_ ?_ _ | refine Below.alloc ?_ ?_ _ | (simp; done) | (simp; omega)))⟩
/-- What '==' says of two values. -/
def eqV (a b : VV) : Bool := a.kind == b.kind && (a.n == b.n && (a.s.toList == b.s.toList && ((a.label : Int) == (b.label : Int))))
set_option maxRecDepth 100000 in
theorem val_eq (a b : VV) (w : World) : (Op.equalIn 10000 25 (.agg (vvCells a)) (.agg (vvCells b))).run Tryd.prog w = .ok (eqV a b) w := by
  have u1 := Tryd.underlying3
  have u2 := Tryd.underlying2
  have u3 := Tryd.underlying9
  have u4 := Tryd.underlying23
  have a1 := Tryd.isAgg3
  have a2 := Tryd.isAgg2
  have a3 := Tryd.isAgg9
  have a4 := Tryd.isAgg23
  have z1 := Tryd.sizeOf3
  have z2 := Tryd.sizeOf2
  have z3 := Tryd.sizeOf9
  have z4 := Tryd.sizeOf23
  have hS : Tryd.prog.underlying 25 = some (.struct (Tryd.prog.fieldsOf 25)) := by kernel_rfl
  have hp : Tryd.prog.stoodInHeld 25 = false := by kernel_rfl
  unfold vvCells eqV
  rw [show (10000 : Nat) = 9999 + 1 from rfl, run_equalIn_agg w 9999 25 _ _ hS hp]
  simp only [Program.fieldsOf, Tryd.underlying25]
  go_simp
  by_cases h1 : a.kind = b.kind <;> by_cases h2 : a.n = b.n <;> by_cases h3 : a.s.toList = b.s.toList <;> by_cases h4 : (a.label : Int) = (b.label : Int) <;> simp only [h1, h2, h3, h4, if_true, if_false, beq_self_eq_true, beq_eq_false_iff_ne.2, Bool.true_and, Bool.false_and, ne_eq, not_false_eq_true]
set_option maxRecDepth 100000 in
theorem same_any (a b : VV) (w : World) : Calls Tryd.prog 46 #[.agg (vvCells a), .agg (vvCells b)] w (RetB (.bool (sameV a b)) w) := by
  have h1 := fun w => bare_any a w
  have h2 := fun w => bare_any b w
  have heq := fun w => val_eq (bareV a) (bareV b) w
  unfold vvCells at h1 h2 heq ⊢
  go_enter Tryd.func46, Tryd.ntmps46
  go_wp2
  refine gen_wp fun W hW => ?_
  have hA : W.heap[w.heap.size]? = some (.cells #[.int .i64 a.kind, .int .i64 a.n, .string a.s, .int .u64 (a.label : Int)] 25 (0, 0)) := by rw [← hW]; exact blk_alloc (heap_new_at _ _ _ rfl) _
  have hB : W.heap[w.heap.size + 1]? = some (.cells #[.int .i64 b.kind, .int .i64 b.n, .string b.s, .int .u64 (b.label : Int)] 25 (0, 0)) := by rw [← hW]; exact heap_new_at _ _ _ (by simp)
  have hbw : Below w.heap.size w W := by rw [← hW]; exact ((Below.refl _ _).alloc (Nat.le_refl _) _).alloc (by simp) _
  clear hW
  have a0 := cell_of_blk (i := 0) hA rfl
  have a1 := cell_of_blk (i := 1) hA rfl
  have a2 := cell_of_blk (i := 2) hA rfl
  have a3 := cell_of_blk (i := 3) hA rfl
  have b0 := cell_of_blk (i := 0) hB rfl
  have b1 := cell_of_blk (i := 1) hB rfl
  have b2 := cell_of_blk (i := 2) hB rfl
  have b3 := cell_of_blk (i := 3) hB rfl
  have HA := Lib.hid hA
  have HB := Lib.hid hB
  have HW := Lib.hid hbw
  clear hA hB hbw
  go_region_held3 (fun w' => w'.cell? ⟨w.heap.size, 0, none⟩ = some (.int .i64 a.kind) ∧ w'.cell? ⟨w.heap.size, 1, none⟩ = some (.int .i64 a.n) ∧ w'.cell? ⟨w.heap.size, 2, none⟩ = some (.string a.s) ∧ w'.cell? ⟨w.heap.size, 3, none⟩ = some (.int .u64 (a.label : Int)) ∧ w'.cell? ⟨w.heap.size + 1, 0, none⟩ = some (.int .i64 b.kind) ∧ w'.cell? ⟨w.heap.size + 1, 1, none⟩ = some (.int .i64 b.n) ∧ w'.cell? ⟨w.heap.size + 1, 2, none⟩ = some (.string b.s) ∧ w'.cell? ⟨w.heap.size + 1, 3, none⟩ = some (.int .u64 (b.label : Int))) (first | go_keep | exact ks | exact ks2)
    ((first
      | (go_at_call 64; refine (h1 _).mono ?_; rintro e w1 ⟨rfl, hb1⟩; have hA1 := below_blk hb1 (blk_drew HA.out); have hB1 := below_blk hb1 (blk_drew HB.out); have ks := And.intro (cell_of_blk (i := 0) hA1 rfl) (And.intro (cell_of_blk (i := 1) hA1 rfl) (And.intro (cell_of_blk (i := 2) hA1 rfl) (And.intro (cell_of_blk (i := 3) hA1 rfl) (And.intro (cell_of_blk (i := 0) hB1 rfl) (And.intro (cell_of_blk (i := 1) hB1 rfl) (And.intro (cell_of_blk (i := 2) hB1 rfl) (cell_of_blk (i := 3) hB1 rfl))))))))
      | (go_at_call 64; refine (h2 _).mono ?_; rintro e w2 ⟨rfl, hb2⟩; have hA2 := below_blk hb2 hA1; have hB2 := below_blk hb2 hB1; have ks2 := And.intro (cell_of_blk (i := 0) hA2 rfl) (And.intro (cell_of_blk (i := 1) hA2 rfl) (And.intro (cell_of_blk (i := 2) hA2 rfl) (And.intro (cell_of_blk (i := 3) hA2 rfl) (And.intro (cell_of_blk (i := 0) hB2 rfl) (And.intro (cell_of_blk (i := 1) hB2 rfl) (And.intro (cell_of_blk (i := 2) hB2 rfl) (cell_of_blk (i := 3) hB2 rfl))))))))))
  go_wp2
  go_ret
  have e : eqV (bareV a) (bareV b) = sameV a b := by simp [eqV, sameV, bareV, Bool.and_assoc]
  exact ⟨ret_bool e, (HW.out.drew).trans ((hb1.trans (hb2.mono hb1.size)).mono HW.out.size)⟩
end Go.Proofs.YtohllalninoomaaDoor
