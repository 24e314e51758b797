/-
  The calls on a heap that nobody made, whose results lie in cells.
-/
import Derived.Test.YtohllalninoomaaDoorHeapNil
import Derived.Deep.Cut
set_option linter.unusedVariables false
set_option linter.unusedSimpArgs false
namespace Go.Proofs.YtohllalninoomaaDoor
open Go.ChangeShapes Go.WideShapes Go.ChangeAt Go.RowKit

theorem cell_same_set {W : World} {b i : Nat} {cs : Array Value} {T : TypeId} (h : W.heap[b]? = some (.cells cs T (0, 0))) (hi : i < cs.size) (v : Value) : (W.setCell ⟨b, i, none⟩ v).cell? ⟨b, i, none⟩ = some v :=
  cell_of_blk (blk_set h v) (by simp [hi])
theorem four {W : World} {b : Nat} {cs : Array Value} {T : TypeId} (h : W.heap[b]? = some (.cells cs T (0, 0))) (hz : cs.size = 4) (v0 v1 v2 v3 : Value) :
    (W.setCell ⟨b, 0, none⟩ v0).cell? ⟨b, 0, none⟩ = some v0 ∧
    ((W.setCell ⟨b, 0, none⟩ v0).setCell ⟨b, 1, none⟩ v1).cell? ⟨b, 1, none⟩ = some v1 ∧
    (((W.setCell ⟨b, 0, none⟩ v0).setCell ⟨b, 1, none⟩ v1).setCell ⟨b, 2, none⟩ v2).cell? ⟨b, 2, none⟩ = some v2 ∧
    ((((W.setCell ⟨b, 0, none⟩ v0).setCell ⟨b, 1, none⟩ v1).setCell ⟨b, 2, none⟩ v2).setCell ⟨b, 3, none⟩ v3).cell? ⟨b, 3, none⟩ = some v3 := by
  have h1 := blk_set (i := 0) h v0
  have h2 := blk_set (i := 1) h1 v1
  have h3 := blk_set (i := 2) h2 v2
  exact ⟨cell_same_set h (by omega) v0, cell_same_set h1 (by simp; omega) v1, cell_same_set h2 (by simp; omega) v2, cell_same_set h3 (by simp; omega) v3⟩
theorem eleven {W : World} {b : Nat} {cs : Array Value} {T : TypeId} (h : W.heap[b]? = some (.cells cs T (0, 0))) (hz : cs.size = 11) (v0 v1 v2 v3 v4 v5 v6 v7 v8 v9 v10 : Value) :
    (W.setCell ⟨b, 0, none⟩ v0).cell? ⟨b, 0, none⟩ = some v0 ∧
    ((W.setCell ⟨b, 0, none⟩ v0).setCell ⟨b, 1, none⟩ v1).cell? ⟨b, 1, none⟩ = some v1 ∧
    (((W.setCell ⟨b, 0, none⟩ v0).setCell ⟨b, 1, none⟩ v1).setCell ⟨b, 2, none⟩ v2).cell? ⟨b, 2, none⟩ = some v2 ∧
    ((((W.setCell ⟨b, 0, none⟩ v0).setCell ⟨b, 1, none⟩ v1).setCell ⟨b, 2, none⟩ v2).setCell ⟨b, 3, none⟩ v3).cell? ⟨b, 3, none⟩ = some v3 ∧
    (((((W.setCell ⟨b, 0, none⟩ v0).setCell ⟨b, 1, none⟩ v1).setCell ⟨b, 2, none⟩ v2).setCell ⟨b, 3, none⟩ v3).setCell ⟨b, 4, none⟩ v4).cell? ⟨b, 4, none⟩ = some v4 ∧
    ((((((W.setCell ⟨b, 0, none⟩ v0).setCell ⟨b, 1, none⟩ v1).setCell ⟨b, 2, none⟩ v2).setCell ⟨b, 3, none⟩ v3).setCell ⟨b, 4, none⟩ v4).setCell ⟨b, 5, none⟩ v5).cell? ⟨b, 5, none⟩ = some v5 ∧
    (((((((W.setCell ⟨b, 0, none⟩ v0).setCell ⟨b, 1, none⟩ v1).setCell ⟨b, 2, none⟩ v2).setCell ⟨b, 3, none⟩ v3).setCell ⟨b, 4, none⟩ v4).setCell ⟨b, 5, none⟩ v5).setCell ⟨b, 6, none⟩ v6).cell? ⟨b, 6, none⟩ = some v6 ∧
    ((((((((W.setCell ⟨b, 0, none⟩ v0).setCell ⟨b, 1, none⟩ v1).setCell ⟨b, 2, none⟩ v2).setCell ⟨b, 3, none⟩ v3).setCell ⟨b, 4, none⟩ v4).setCell ⟨b, 5, none⟩ v5).setCell ⟨b, 6, none⟩ v6).setCell ⟨b, 7, none⟩ v7).cell? ⟨b, 7, none⟩ = some v7 ∧
    (((((((((W.setCell ⟨b, 0, none⟩ v0).setCell ⟨b, 1, none⟩ v1).setCell ⟨b, 2, none⟩ v2).setCell ⟨b, 3, none⟩ v3).setCell ⟨b, 4, none⟩ v4).setCell ⟨b, 5, none⟩ v5).setCell ⟨b, 6, none⟩ v6).setCell ⟨b, 7, none⟩ v7).setCell ⟨b, 8, none⟩ v8).cell? ⟨b, 8, none⟩ = some v8 ∧
    ((((((((((W.setCell ⟨b, 0, none⟩ v0).setCell ⟨b, 1, none⟩ v1).setCell ⟨b, 2, none⟩ v2).setCell ⟨b, 3, none⟩ v3).setCell ⟨b, 4, none⟩ v4).setCell ⟨b, 5, none⟩ v5).setCell ⟨b, 6, none⟩ v6).setCell ⟨b, 7, none⟩ v7).setCell ⟨b, 8, none⟩ v8).setCell ⟨b, 9, none⟩ v9).cell? ⟨b, 9, none⟩ = some v9 ∧
    (((((((((((W.setCell ⟨b, 0, none⟩ v0).setCell ⟨b, 1, none⟩ v1).setCell ⟨b, 2, none⟩ v2).setCell ⟨b, 3, none⟩ v3).setCell ⟨b, 4, none⟩ v4).setCell ⟨b, 5, none⟩ v5).setCell ⟨b, 6, none⟩ v6).setCell ⟨b, 7, none⟩ v7).setCell ⟨b, 8, none⟩ v8).setCell ⟨b, 9, none⟩ v9).setCell ⟨b, 10, none⟩ v10).cell? ⟨b, 10, none⟩ = some v10 := by
  have h1 := blk_set (i := 0) h v0
  have h2 := blk_set (i := 1) h1 v1
  have h3 := blk_set (i := 2) h2 v2
  have h4 := blk_set (i := 3) h3 v3
  have h5 := blk_set (i := 4) h4 v4
  have h6 := blk_set (i := 5) h5 v5
  have h7 := blk_set (i := 6) h6 v6
  have h8 := blk_set (i := 7) h7 v7
  have h9 := blk_set (i := 8) h8 v8
  have h10 := blk_set (i := 9) h9 v9
  exact ⟨cell_same_set h (by omega) v0, cell_same_set h1 (by simp; omega) v1, cell_same_set h2 (by simp; omega) v2, cell_same_set h3 (by simp; omega) v3, cell_same_set h4 (by simp; omega) v4, cell_same_set h5 (by simp; omega) v5, cell_same_set h6 (by simp; omega) v6, cell_same_set h7 (by simp; omega) v7, cell_same_set h8 (by simp; omega) v8, cell_same_set h9 (by simp; omega) v9, cell_same_set h10 (by simp; omega) v10⟩
set_option maxRecDepth 100000 in
set_option maxHeartbeats 2000000 in
theorem hfn_nil (v : VV) (w : World) : Calls Tryd.prog 9 #[.pointer none, .agg #[.int .i64 v.kind, .int .i64 v.n, .string v.s, .int .u64 (v.label : Int)]] w (RetB (.tuple #[.agg #[.int .i64 0, .slice none 0 0, .int .i64 0, .int .i64 0, .string ⟨#[]⟩, .int .u64 0, .int .i64 0, .slice none 0 0, .slice none 0 0, .int .i64 0, .bool false], .bool false]) w) := by
  obtain ⟨b, hb⟩ : ∃ b, b = w.heap.size + 1 := ⟨_, rfl⟩
  have HB := Lib.hid (show w.heap.size ≤ b by omega)
  have HBE := Lib.hid hb
  clear hb
  go_enter Tryd.func9, Tryd.ntmps9
  go_upto_region 1 with fail
  rw [← HBE.out]
  refine gen_wp fun W hW => ?_
  have HR := Lib.hid (show W.heap[b]? = some (.cells #[.int .i64 0, .slice none 0 0, .int .i64 0, .int .i64 0, .string ⟨#[]⟩, .int .u64 0, .int .i64 0, .slice none 0 0, .slice none 0 0, .int .i64 0, .bool false] 44 (0, 0)) by rw [← hW, HBE.out]; exact heap_new_at _ _ _ (by first | rfl | simp))
  have HW := Lib.hid (show Below w.heap.size w W by rw [← hW]; exact ((Below.refl _ _).alloc (Nat.le_refl _) _).alloc (by simp) _)
  have r0 : W.cell? ⟨b, 0, none⟩ = some (.int .i64 0) := cell_of_blk HR.out rfl
  have r1 : W.cell? ⟨b, 1, none⟩ = some (.slice none 0 0) := cell_of_blk HR.out rfl
  have r2 : W.cell? ⟨b, 2, none⟩ = some (.int .i64 0) := cell_of_blk HR.out rfl
  have r3 : W.cell? ⟨b, 3, none⟩ = some (.int .i64 0) := cell_of_blk HR.out rfl
  have r4 : W.cell? ⟨b, 4, none⟩ = some (.string ⟨#[]⟩) := cell_of_blk HR.out rfl
  have r5 : W.cell? ⟨b, 5, none⟩ = some (.int .u64 0) := cell_of_blk HR.out rfl
  have r6 : W.cell? ⟨b, 6, none⟩ = some (.int .i64 0) := cell_of_blk HR.out rfl
  have r7 : W.cell? ⟨b, 7, none⟩ = some (.slice none 0 0) := cell_of_blk HR.out rfl
  have r8 : W.cell? ⟨b, 8, none⟩ = some (.slice none 0 0) := cell_of_blk HR.out rfl
  have r9 : W.cell? ⟨b, 9, none⟩ = some (.int .i64 0) := cell_of_blk HR.out rfl
  have r10 : W.cell? ⟨b, 10, none⟩ = some (.bool false) := cell_of_blk HR.out rfl
  have rf0 := free_of_blk (i := 0) HR.out
  have rf1 := free_of_blk (i := 1) HR.out
  have rf2 := free_of_blk (i := 2) HR.out
  have rf3 := free_of_blk (i := 3) HR.out
  have rf4 := free_of_blk (i := 4) HR.out
  have rf5 := free_of_blk (i := 5) HR.out
  have rf6 := free_of_blk (i := 6) HR.out
  have rf7 := free_of_blk (i := 7) HR.out
  have rf8 := free_of_blk (i := 8) HR.out
  have rf9 := free_of_blk (i := 9) HR.out
  have rf10 := free_of_blk (i := 10) HR.out
  have rl := blk_lt HR.out
  clear hW
  go_wp2
  obtain ⟨j0, j1, j2, j3, j4, j5, j6, j7, j8, j9, j10⟩ := eleven HR.out rfl (.int .i64 0) (.slice none 0 0) (.int .i64 0) (.int .i64 0) (.string ⟨#[]⟩) (.int .u64 0) (.int .i64 0) (.slice none 0 0) (.slice none 0 0) (.int .i64 0) (.bool false)
  refine bodyPost_ret (v := .tuple #[.agg #[.int .i64 0, .slice none 0 0, .int .i64 0, .int .i64 0, .string ⟨#[]⟩, .int .u64 0, .int .i64 0, .slice none 0 0, .slice none 0 0, .int .i64 0, .bool false], .bool false]) (by simp [results, Tryd.results9, go_sem, j0, j1, j2, j3, j4, j5, j6, j7, j8, j9, j10]) rfl ?_
  exact ⟨rfl, (Below.setCell (p := ⟨b, 10, none⟩) (Below.setCell (p := ⟨b, 9, none⟩) (Below.setCell (p := ⟨b, 8, none⟩) (Below.setCell (p := ⟨b, 7, none⟩) (Below.setCell (p := ⟨b, 6, none⟩) (Below.setCell (p := ⟨b, 5, none⟩) (Below.setCell (p := ⟨b, 4, none⟩) (Below.setCell (p := ⟨b, 3, none⟩) (Below.setCell (p := ⟨b, 2, none⟩) (Below.setCell (p := ⟨b, 1, none⟩) (Below.setCell (p := ⟨b, 0, none⟩) HW.out HB.out (.int .i64 0)) HB.out (.slice none 0 0)) HB.out (.int .i64 0)) HB.out (.int .i64 0)) HB.out (.string ⟨#[]⟩)) HB.out (.int .u64 0)) HB.out (.int .i64 0)) HB.out (.slice none 0 0)) HB.out (.slice none 0 0)) HB.out (.int .i64 0)) HB.out (.bool false))⟩
set_option maxRecDepth 100000 in
set_option maxHeartbeats 2000000 in
theorem hget_nil (t k : VV) (w : World) : Calls Tryd.prog 17 #[.pointer none, .agg #[.int .i64 t.kind, .int .i64 t.n, .string t.s, .int .u64 (t.label : Int)], .agg #[.int .i64 k.kind, .int .i64 k.n, .string k.s, .int .u64 (k.label : Int)]] w (RetB (.agg #[.int .i64 0, .int .i64 0, .string ⟨#[]⟩, .int .u64 0]) w) := by
  obtain ⟨b0, hb0⟩ : ∃ b, b = w.heap.size := ⟨_, rfl⟩
  have HBE0 := Lib.hid hb0
  obtain ⟨b1, hb1⟩ : ∃ b, b = w.heap.size + 1 := ⟨_, rfl⟩
  have HBE1 := Lib.hid hb1
  obtain ⟨b2, hb2⟩ : ∃ b, b = w.heap.size + 1 + 1 := ⟨_, rfl⟩
  have HBE2 := Lib.hid hb2
  have HB := Lib.hid (show w.heap.size ≤ b2 by omega)
  clear hb0 hb1 hb2
  go_enter Tryd.func17, Tryd.ntmps17
  go_upto_region 1 with fail
  rw [← HBE2.out, ← HBE1.out, ← HBE0.out]
  refine gen_wp fun W hW => ?_
  have H0_0 := Lib.hid (show W.heap[b0]? = some (.cells #[.int .i64 t.kind, .int .i64 t.n, .string t.s, .int .u64 (t.label : Int)] 25 (0, 0)) by rw [← hW, HBE0.out]; exact blk_alloc (blk_alloc (heap_new_at _ _ _ (by first | rfl | simp)) _) _)
  have H1_0 := Lib.hid (show W.heap[b1]? = some (.cells #[.int .i64 k.kind, .int .i64 k.n, .string k.s, .int .u64 (k.label : Int)] 25 (0, 0)) by rw [← hW, HBE1.out]; exact blk_alloc (heap_new_at _ _ _ (by first | rfl | simp)) _)
  have H2_0 := Lib.hid (show W.heap[b2]? = some (.cells #[.int .i64 0, .int .i64 0, .string ⟨#[]⟩, .int .u64 0] 25 (0, 0)) by rw [← hW, HBE2.out]; exact heap_new_at _ _ _ (by first | rfl | simp))
  have HW_0 := Lib.hid (show Below w.heap.size w W by rw [← hW]; exact (((Below.refl _ _).alloc (Nat.le_refl _) _).alloc (by simp <;> omega) _).alloc (by simp <;> omega) _)
  clear hW
  have c0_0_0 : W.cell? ⟨b0, 0, none⟩ = some (.int .i64 t.kind) := cell_of_blk H0_0.out rfl
  have c0_0_1 : W.cell? ⟨b0, 1, none⟩ = some (.int .i64 t.n) := cell_of_blk H0_0.out rfl
  have c0_0_2 : W.cell? ⟨b0, 2, none⟩ = some (.string t.s) := cell_of_blk H0_0.out rfl
  have c0_0_3 : W.cell? ⟨b0, 3, none⟩ = some (.int .u64 (t.label : Int)) := cell_of_blk H0_0.out rfl
  have c0_0_f0 := free_of_blk (i := 0) H0_0.out
  have c0_0_f1 := free_of_blk (i := 1) H0_0.out
  have c0_0_f2 := free_of_blk (i := 2) H0_0.out
  have c0_0_f3 := free_of_blk (i := 3) H0_0.out
  have c0_0_l := blk_lt H0_0.out
  have c0_1_0 : W.cell? ⟨b1, 0, none⟩ = some (.int .i64 k.kind) := cell_of_blk H1_0.out rfl
  have c0_1_1 : W.cell? ⟨b1, 1, none⟩ = some (.int .i64 k.n) := cell_of_blk H1_0.out rfl
  have c0_1_2 : W.cell? ⟨b1, 2, none⟩ = some (.string k.s) := cell_of_blk H1_0.out rfl
  have c0_1_3 : W.cell? ⟨b1, 3, none⟩ = some (.int .u64 (k.label : Int)) := cell_of_blk H1_0.out rfl
  have c0_1_f0 := free_of_blk (i := 0) H1_0.out
  have c0_1_f1 := free_of_blk (i := 1) H1_0.out
  have c0_1_f2 := free_of_blk (i := 2) H1_0.out
  have c0_1_f3 := free_of_blk (i := 3) H1_0.out
  have c0_1_l := blk_lt H1_0.out
  have c0_2_0 : W.cell? ⟨b2, 0, none⟩ = some (.int .i64 0) := cell_of_blk H2_0.out rfl
  have c0_2_1 : W.cell? ⟨b2, 1, none⟩ = some (.int .i64 0) := cell_of_blk H2_0.out rfl
  have c0_2_2 : W.cell? ⟨b2, 2, none⟩ = some (.string ⟨#[]⟩) := cell_of_blk H2_0.out rfl
  have c0_2_3 : W.cell? ⟨b2, 3, none⟩ = some (.int .u64 0) := cell_of_blk H2_0.out rfl
  have c0_2_f0 := free_of_blk (i := 0) H2_0.out
  have c0_2_f1 := free_of_blk (i := 1) H2_0.out
  have c0_2_f2 := free_of_blk (i := 2) H2_0.out
  have c0_2_f3 := free_of_blk (i := 3) H2_0.out
  have c0_2_l := blk_lt H2_0.out
  go_wp2_with fail
  refine (hof_nil t _).mono ?_
  rintro e w1 ⟨rfl, hb⟩
  have H0_1 := Lib.hid (below_blk hb H0_0.out)
  have H1_1 := Lib.hid (below_blk hb H1_0.out)
  have H2_1 := Lib.hid (below_blk hb H2_0.out)
  have HW_1 := Lib.hid (HW_0.out.trans (hb.mono HW_0.out.size))
  clear hb c0_0_0 c0_0_f0 c0_0_1 c0_0_f1 c0_0_2 c0_0_f2 c0_0_3 c0_0_f3 c0_0_l c0_1_0 c0_1_f0 c0_1_1 c0_1_f1 c0_1_2 c0_1_f2 c0_1_3 c0_1_f3 c0_1_l c0_2_0 c0_2_f0 c0_2_1 c0_2_f1 c0_2_2 c0_2_f2 c0_2_3 c0_2_f3 c0_2_l
  have c1_0_0 : w1.cell? ⟨b0, 0, none⟩ = some (.int .i64 t.kind) := cell_of_blk H0_1.out rfl
  have c1_0_1 : w1.cell? ⟨b0, 1, none⟩ = some (.int .i64 t.n) := cell_of_blk H0_1.out rfl
  have c1_0_2 : w1.cell? ⟨b0, 2, none⟩ = some (.string t.s) := cell_of_blk H0_1.out rfl
  have c1_0_3 : w1.cell? ⟨b0, 3, none⟩ = some (.int .u64 (t.label : Int)) := cell_of_blk H0_1.out rfl
  have c1_0_f0 := free_of_blk (i := 0) H0_1.out
  have c1_0_f1 := free_of_blk (i := 1) H0_1.out
  have c1_0_f2 := free_of_blk (i := 2) H0_1.out
  have c1_0_f3 := free_of_blk (i := 3) H0_1.out
  have c1_0_l := blk_lt H0_1.out
  have c1_1_0 : w1.cell? ⟨b1, 0, none⟩ = some (.int .i64 k.kind) := cell_of_blk H1_1.out rfl
  have c1_1_1 : w1.cell? ⟨b1, 1, none⟩ = some (.int .i64 k.n) := cell_of_blk H1_1.out rfl
  have c1_1_2 : w1.cell? ⟨b1, 2, none⟩ = some (.string k.s) := cell_of_blk H1_1.out rfl
  have c1_1_3 : w1.cell? ⟨b1, 3, none⟩ = some (.int .u64 (k.label : Int)) := cell_of_blk H1_1.out rfl
  have c1_1_f0 := free_of_blk (i := 0) H1_1.out
  have c1_1_f1 := free_of_blk (i := 1) H1_1.out
  have c1_1_f2 := free_of_blk (i := 2) H1_1.out
  have c1_1_f3 := free_of_blk (i := 3) H1_1.out
  have c1_1_l := blk_lt H1_1.out
  have c1_2_0 : w1.cell? ⟨b2, 0, none⟩ = some (.int .i64 0) := cell_of_blk H2_1.out rfl
  have c1_2_1 : w1.cell? ⟨b2, 1, none⟩ = some (.int .i64 0) := cell_of_blk H2_1.out rfl
  have c1_2_2 : w1.cell? ⟨b2, 2, none⟩ = some (.string ⟨#[]⟩) := cell_of_blk H2_1.out rfl
  have c1_2_3 : w1.cell? ⟨b2, 3, none⟩ = some (.int .u64 0) := cell_of_blk H2_1.out rfl
  have c1_2_f0 := free_of_blk (i := 0) H2_1.out
  have c1_2_f1 := free_of_blk (i := 1) H2_1.out
  have c1_2_f2 := free_of_blk (i := 2) H2_1.out
  have c1_2_f3 := free_of_blk (i := 3) H2_1.out
  have c1_2_l := blk_lt H2_1.out
  go_wp2
  obtain ⟨j0, j1, j2, j3⟩ := four H2_1.out rfl (.int .i64 0) (.int .i64 0) (.string ⟨#[]⟩) (.int .u64 0)
  refine bodyPost_ret (v := .agg #[.int .i64 0, .int .i64 0, .string ⟨#[]⟩, .int .u64 0]) (by simp [results, Tryd.results17, go_sem, j0, j1, j2, j3]) rfl ?_
  exact ⟨rfl, (Below.setCell (p := ⟨b2, 3, none⟩) (Below.setCell (p := ⟨b2, 2, none⟩) (Below.setCell (p := ⟨b2, 1, none⟩) (Below.setCell (p := ⟨b2, 0, none⟩) HW_1.out HB.out (.int .i64 0)) HB.out (.int .i64 0)) HB.out (.string ⟨#[]⟩)) HB.out (.int .u64 0))⟩
set_option maxRecDepth 100000 in
set_option maxHeartbeats 2000000 in
theorem hpaid_nil (n : Int) (f : Value) (w : World) : Calls Tryd.prog 23 #[.pointer none, .int .i64 n, f] w (RetB (.tuple #[.agg #[.int .i64 0, .int .i64 0, .string ⟨#[]⟩, .int .u64 0], .bool false]) w) := by
  obtain ⟨b0, hb0⟩ : ∃ b, b = w.heap.size := ⟨_, rfl⟩
  have HBE0 := Lib.hid hb0
  have HB := Lib.hid (show w.heap.size ≤ b0 by omega)
  clear hb0
  go_enter Tryd.func23, Tryd.ntmps23
  go_upto_region 1 with fail
  rw [← HBE0.out]
  refine gen_wp fun W hW => ?_
  have H0_0 := Lib.hid (show W.heap[b0]? = some (.cells #[.int .i64 0, .int .i64 0, .string ⟨#[]⟩, .int .u64 0] 25 (0, 0)) by rw [← hW, HBE0.out]; exact heap_new_at _ _ _ (by first | rfl | simp))
  have HW_0 := Lib.hid (show Below w.heap.size w W by rw [← hW]; exact (Below.refl _ _).alloc (Nat.le_refl _) _)
  clear hW
  have c0_0_0 : W.cell? ⟨b0, 0, none⟩ = some (.int .i64 0) := cell_of_blk H0_0.out rfl
  have c0_0_1 : W.cell? ⟨b0, 1, none⟩ = some (.int .i64 0) := cell_of_blk H0_0.out rfl
  have c0_0_2 : W.cell? ⟨b0, 2, none⟩ = some (.string ⟨#[]⟩) := cell_of_blk H0_0.out rfl
  have c0_0_3 : W.cell? ⟨b0, 3, none⟩ = some (.int .u64 0) := cell_of_blk H0_0.out rfl
  have c0_0_f0 := free_of_blk (i := 0) H0_0.out
  have c0_0_f1 := free_of_blk (i := 1) H0_0.out
  have c0_0_f2 := free_of_blk (i := 2) H0_0.out
  have c0_0_f3 := free_of_blk (i := 3) H0_0.out
  have c0_0_l := blk_lt H0_0.out
  go_wp2_with fail
  refine (hcharge_nil n _).mono ?_
  rintro e w1 ⟨rfl, hb⟩
  have H0_1 := Lib.hid (below_blk hb H0_0.out)
  have HW_1 := Lib.hid (HW_0.out.trans (hb.mono HW_0.out.size))
  clear hb c0_0_0 c0_0_f0 c0_0_1 c0_0_f1 c0_0_2 c0_0_f2 c0_0_3 c0_0_f3 c0_0_l
  have c1_0_0 : w1.cell? ⟨b0, 0, none⟩ = some (.int .i64 0) := cell_of_blk H0_1.out rfl
  have c1_0_1 : w1.cell? ⟨b0, 1, none⟩ = some (.int .i64 0) := cell_of_blk H0_1.out rfl
  have c1_0_2 : w1.cell? ⟨b0, 2, none⟩ = some (.string ⟨#[]⟩) := cell_of_blk H0_1.out rfl
  have c1_0_3 : w1.cell? ⟨b0, 3, none⟩ = some (.int .u64 0) := cell_of_blk H0_1.out rfl
  have c1_0_f0 := free_of_blk (i := 0) H0_1.out
  have c1_0_f1 := free_of_blk (i := 1) H0_1.out
  have c1_0_f2 := free_of_blk (i := 2) H0_1.out
  have c1_0_f3 := free_of_blk (i := 3) H0_1.out
  have c1_0_l := blk_lt H0_1.out
  go_wp2
  obtain ⟨j0, j1, j2, j3⟩ := four H0_1.out rfl (.int .i64 0) (.int .i64 0) (.string ⟨#[]⟩) (.int .u64 0)
  refine bodyPost_ret (v := .tuple #[.agg #[.int .i64 0, .int .i64 0, .string ⟨#[]⟩, .int .u64 0], .bool false]) (by simp [results, Tryd.results23, go_sem, j0, j1, j2, j3]) rfl ?_
  exact ⟨rfl, (Below.setCell (p := ⟨b0, 3, none⟩) (Below.setCell (p := ⟨b0, 2, none⟩) (Below.setCell (p := ⟨b0, 1, none⟩) (Below.setCell (p := ⟨b0, 0, none⟩) HW_1.out HB.out (.int .i64 0)) HB.out (.int .i64 0)) HB.out (.string ⟨#[]⟩)) HB.out (.int .u64 0))⟩
set_option maxRecDepth 100000 in
set_option maxHeartbeats 2000000 in
theorem htable_nil (l : Nat) (w : World) : Calls Tryd.prog 6 #[.pointer none, .int .u64 (l : Int)] w (RetB (.tuple #[.agg #[.int .i64 0, .int .i64 0, .string ⟨#[]⟩, .int .u64 0], .bool false]) w) := by
  have hmf : ∀ (fn : Fn) (first cap : Array Value) (w : World), (Instr.makeFunc fn first cap).run Tryd.prog w = .ok (.func fn first cap) w := fun _ _ _ _ => rfl
  obtain ⟨b0, hb0⟩ : ∃ b, b = w.heap.size := ⟨_, rfl⟩
  have HBE0 := Lib.hid hb0
  obtain ⟨b1, hb1⟩ : ∃ b, b = w.heap.size + 1 := ⟨_, rfl⟩
  have HBE1 := Lib.hid hb1
  obtain ⟨b2, hb2⟩ : ∃ b, b = w.heap.size + 1 + 1 := ⟨_, rfl⟩
  have HBE2 := Lib.hid hb2
  have HB := Lib.hid (show w.heap.size ≤ b2 by omega)
  clear hb0 hb1 hb2
  go_enter Tryd.func6, Tryd.ntmps6
  go_upto_region 1 with fail
  rw [← HBE2.out, ← HBE1.out, ← HBE0.out]
  refine gen_wp fun W hW => ?_
  have H0_0 := Lib.hid (show W.heap[b0]? = some (.cells #[.pointer none] 36 (0, 0)) by rw [← hW, HBE0.out]; exact blk_alloc (blk_alloc (heap_new_at _ _ _ (by first | rfl | simp)) _) _)
  have H1_0 := Lib.hid (show W.heap[b1]? = some (.cells #[.int .u64 (l : Int)] 23 (0, 0)) by rw [← hW, HBE1.out]; exact blk_alloc (heap_new_at _ _ _ (by first | rfl | simp)) _)
  have H2_0 := Lib.hid (show W.heap[b2]? = some (.cells #[.int .i64 0, .int .i64 0, .string ⟨#[]⟩, .int .u64 0] 25 (0, 0)) by rw [← hW, HBE2.out]; exact heap_new_at _ _ _ (by first | rfl | simp))
  have HW_0 := Lib.hid (show Below w.heap.size w W by rw [← hW]; exact (((Below.refl _ _).alloc (Nat.le_refl _) _).alloc (by simp <;> omega) _).alloc (by simp <;> omega) _)
  clear hW
  have c0_0_0 : W.cell? ⟨b0, 0, none⟩ = some (.pointer none) := cell_of_blk H0_0.out rfl
  have c0_0_f0 := free_of_blk (i := 0) H0_0.out
  have c0_0_l := blk_lt H0_0.out
  have c0_1_0 : W.cell? ⟨b1, 0, none⟩ = some (.int .u64 (l : Int)) := cell_of_blk H1_0.out rfl
  have c0_1_f0 := free_of_blk (i := 0) H1_0.out
  have c0_1_l := blk_lt H1_0.out
  have c0_2_0 : W.cell? ⟨b2, 0, none⟩ = some (.int .i64 0) := cell_of_blk H2_0.out rfl
  have c0_2_1 : W.cell? ⟨b2, 1, none⟩ = some (.int .i64 0) := cell_of_blk H2_0.out rfl
  have c0_2_2 : W.cell? ⟨b2, 2, none⟩ = some (.string ⟨#[]⟩) := cell_of_blk H2_0.out rfl
  have c0_2_3 : W.cell? ⟨b2, 3, none⟩ = some (.int .u64 0) := cell_of_blk H2_0.out rfl
  have c0_2_f0 := free_of_blk (i := 0) H2_0.out
  have c0_2_f1 := free_of_blk (i := 1) H2_0.out
  have c0_2_f2 := free_of_blk (i := 2) H2_0.out
  have c0_2_f3 := free_of_blk (i := 3) H2_0.out
  have c0_2_l := blk_lt H2_0.out
  go_wp2_with fail
  refine (hpaid_nil 1 _ _).mono ?_
  rintro e w1 ⟨rfl, hb⟩
  have H0_1 := Lib.hid (below_blk hb H0_0.out)
  have H1_1 := Lib.hid (below_blk hb H1_0.out)
  have H2_1 := Lib.hid (below_blk hb H2_0.out)
  have HW_1 := Lib.hid (HW_0.out.trans (hb.mono HW_0.out.size))
  clear hb c0_0_0 c0_0_f0 c0_0_l c0_1_0 c0_1_f0 c0_1_l c0_2_0 c0_2_f0 c0_2_1 c0_2_f1 c0_2_2 c0_2_f2 c0_2_3 c0_2_f3 c0_2_l
  have c1_0_0 : w1.cell? ⟨b0, 0, none⟩ = some (.pointer none) := cell_of_blk H0_1.out rfl
  have c1_0_f0 := free_of_blk (i := 0) H0_1.out
  have c1_0_l := blk_lt H0_1.out
  have c1_1_0 : w1.cell? ⟨b1, 0, none⟩ = some (.int .u64 (l : Int)) := cell_of_blk H1_1.out rfl
  have c1_1_f0 := free_of_blk (i := 0) H1_1.out
  have c1_1_l := blk_lt H1_1.out
  have c1_2_0 : w1.cell? ⟨b2, 0, none⟩ = some (.int .i64 0) := cell_of_blk H2_1.out rfl
  have c1_2_1 : w1.cell? ⟨b2, 1, none⟩ = some (.int .i64 0) := cell_of_blk H2_1.out rfl
  have c1_2_2 : w1.cell? ⟨b2, 2, none⟩ = some (.string ⟨#[]⟩) := cell_of_blk H2_1.out rfl
  have c1_2_3 : w1.cell? ⟨b2, 3, none⟩ = some (.int .u64 0) := cell_of_blk H2_1.out rfl
  have c1_2_f0 := free_of_blk (i := 0) H2_1.out
  have c1_2_f1 := free_of_blk (i := 1) H2_1.out
  have c1_2_f2 := free_of_blk (i := 2) H2_1.out
  have c1_2_f3 := free_of_blk (i := 3) H2_1.out
  have c1_2_l := blk_lt H2_1.out
  go_wp2
  obtain ⟨j0, j1, j2, j3⟩ := four H2_1.out rfl (.int .i64 0) (.int .i64 0) (.string ⟨#[]⟩) (.int .u64 0)
  refine bodyPost_ret (v := .tuple #[.agg #[.int .i64 0, .int .i64 0, .string ⟨#[]⟩, .int .u64 0], .bool false]) (by simp [results, Tryd.results6, go_sem, j0, j1, j2, j3]) rfl ?_
  exact ⟨rfl, (Below.setCell (p := ⟨b2, 3, none⟩) (Below.setCell (p := ⟨b2, 2, none⟩) (Below.setCell (p := ⟨b2, 1, none⟩) (Below.setCell (p := ⟨b2, 0, none⟩) HW_1.out HB.out (.int .i64 0)) HB.out (.int .i64 0)) HB.out (.string ⟨#[]⟩)) HB.out (.int .u64 0))⟩
set_option maxRecDepth 100000 in
set_option maxHeartbeats 2000000 in
theorem hbase_nil (v : VV) (w : World) : Calls Tryd.prog 18 #[.pointer none, .agg #[.int .i64 v.kind, .int .i64 v.n, .string v.s, .int .u64 (v.label : Int)]] w (RetB (.agg #[.int .i64 v.kind, .int .i64 v.n, .string v.s, .int .u64 (v.label : Int)]) w) := by
  obtain ⟨b0, hb0⟩ : ∃ b, b = w.heap.size := ⟨_, rfl⟩
  have HBE0 := Lib.hid hb0
  obtain ⟨b1, hb1⟩ : ∃ b, b = w.heap.size + 1 := ⟨_, rfl⟩
  have HBE1 := Lib.hid hb1
  have HB := Lib.hid (show w.heap.size ≤ b1 by omega)
  clear hb0 hb1
  go_enter Tryd.func18, Tryd.ntmps18
  go_upto_region 1 with fail
  rw [← HBE1.out, ← HBE0.out]
  refine gen_wp fun W hW => ?_
  have H0_0 := Lib.hid (show W.heap[b0]? = some (.cells #[.int .i64 v.kind, .int .i64 v.n, .string v.s, .int .u64 (v.label : Int)] 25 (0, 0)) by rw [← hW, HBE0.out]; exact blk_alloc (heap_new_at _ _ _ (by first | rfl | simp)) _)
  have H1_0 := Lib.hid (show W.heap[b1]? = some (.cells #[.int .i64 0, .int .i64 0, .string ⟨#[]⟩, .int .u64 0] 25 (0, 0)) by rw [← hW, HBE1.out]; exact heap_new_at _ _ _ (by first | rfl | simp))
  have HW_0 := Lib.hid (show Below w.heap.size w W by rw [← hW]; exact ((Below.refl _ _).alloc (Nat.le_refl _) _).alloc (by simp <;> omega) _)
  clear hW
  have c0_0_0 : W.cell? ⟨b0, 0, none⟩ = some (.int .i64 v.kind) := cell_of_blk H0_0.out rfl
  have c0_0_1 : W.cell? ⟨b0, 1, none⟩ = some (.int .i64 v.n) := cell_of_blk H0_0.out rfl
  have c0_0_2 : W.cell? ⟨b0, 2, none⟩ = some (.string v.s) := cell_of_blk H0_0.out rfl
  have c0_0_3 : W.cell? ⟨b0, 3, none⟩ = some (.int .u64 (v.label : Int)) := cell_of_blk H0_0.out rfl
  have c0_0_f0 := free_of_blk (i := 0) H0_0.out
  have c0_0_f1 := free_of_blk (i := 1) H0_0.out
  have c0_0_f2 := free_of_blk (i := 2) H0_0.out
  have c0_0_f3 := free_of_blk (i := 3) H0_0.out
  have c0_0_l := blk_lt H0_0.out
  have c0_1_0 : W.cell? ⟨b1, 0, none⟩ = some (.int .i64 0) := cell_of_blk H1_0.out rfl
  have c0_1_1 : W.cell? ⟨b1, 1, none⟩ = some (.int .i64 0) := cell_of_blk H1_0.out rfl
  have c0_1_2 : W.cell? ⟨b1, 2, none⟩ = some (.string ⟨#[]⟩) := cell_of_blk H1_0.out rfl
  have c0_1_3 : W.cell? ⟨b1, 3, none⟩ = some (.int .u64 0) := cell_of_blk H1_0.out rfl
  have c0_1_f0 := free_of_blk (i := 0) H1_0.out
  have c0_1_f1 := free_of_blk (i := 1) H1_0.out
  have c0_1_f2 := free_of_blk (i := 2) H1_0.out
  have c0_1_f3 := free_of_blk (i := 3) H1_0.out
  have c0_1_l := blk_lt H1_0.out
  go_wp2_with fail
  go_loopw [] (fun wr => wr = W) (fun _ => 0)
  case atStart => rfl
  case round =>
  obtain rfl := hrel
  go_wp2_with fail
  refine (hfn_nil v _).mono ?_
  rintro e w1 ⟨rfl, hb⟩
  have H0_1 := Lib.hid (below_blk hb H0_0.out)
  have H1_1 := Lib.hid (below_blk hb H1_0.out)
  have HW_1 := Lib.hid (HW_0.out.trans (hb.mono HW_0.out.size))
  clear hb c0_0_0 c0_0_f0 c0_0_1 c0_0_f1 c0_0_2 c0_0_f2 c0_0_3 c0_0_f3 c0_0_l c0_1_0 c0_1_f0 c0_1_1 c0_1_f1 c0_1_2 c0_1_f2 c0_1_3 c0_1_f3 c0_1_l
  have c1_0_0 : w1.cell? ⟨b0, 0, none⟩ = some (.int .i64 v.kind) := cell_of_blk H0_1.out rfl
  have c1_0_1 : w1.cell? ⟨b0, 1, none⟩ = some (.int .i64 v.n) := cell_of_blk H0_1.out rfl
  have c1_0_2 : w1.cell? ⟨b0, 2, none⟩ = some (.string v.s) := cell_of_blk H0_1.out rfl
  have c1_0_3 : w1.cell? ⟨b0, 3, none⟩ = some (.int .u64 (v.label : Int)) := cell_of_blk H0_1.out rfl
  have c1_0_f0 := free_of_blk (i := 0) H0_1.out
  have c1_0_f1 := free_of_blk (i := 1) H0_1.out
  have c1_0_f2 := free_of_blk (i := 2) H0_1.out
  have c1_0_f3 := free_of_blk (i := 3) H0_1.out
  have c1_0_l := blk_lt H0_1.out
  have c1_1_0 : w1.cell? ⟨b1, 0, none⟩ = some (.int .i64 0) := cell_of_blk H1_1.out rfl
  have c1_1_1 : w1.cell? ⟨b1, 1, none⟩ = some (.int .i64 0) := cell_of_blk H1_1.out rfl
  have c1_1_2 : w1.cell? ⟨b1, 2, none⟩ = some (.string ⟨#[]⟩) := cell_of_blk H1_1.out rfl
  have c1_1_3 : w1.cell? ⟨b1, 3, none⟩ = some (.int .u64 0) := cell_of_blk H1_1.out rfl
  have c1_1_f0 := free_of_blk (i := 0) H1_1.out
  have c1_1_f1 := free_of_blk (i := 1) H1_1.out
  have c1_1_f2 := free_of_blk (i := 2) H1_1.out
  have c1_1_f3 := free_of_blk (i := 3) H1_1.out
  have c1_1_l := blk_lt H1_1.out
  go_upto_region 2 with fail
  refine gen_wp fun U hU => ?_
  have H0_2 := Lib.hid (show U.heap[b0]? = some (.cells #[.int .i64 v.kind, .int .i64 v.n, .string v.s, .int .u64 (v.label : Int)] 25 (0, 0)) by rw [← hU]; exact blk_alloc H0_1.out _)
  have H1_2 := Lib.hid (show U.heap[b1]? = some (.cells #[.int .i64 0, .int .i64 0, .string ⟨#[]⟩, .int .u64 0] 25 (0, 0)) by rw [← hU]; exact blk_alloc H1_1.out _)
  have HW_2 := Lib.hid (show Below w.heap.size w U by rw [← hU]; exact HW_1.out.alloc HW_1.out.size _)
  clear hU c1_0_0 c1_0_f0 c1_0_1 c1_0_f1 c1_0_2 c1_0_f2 c1_0_3 c1_0_f3 c1_0_l c1_1_0 c1_1_f0 c1_1_1 c1_1_f1 c1_1_2 c1_1_f2 c1_1_3 c1_1_f3 c1_1_l
  have c2_0_0 : U.cell? ⟨b0, 0, none⟩ = some (.int .i64 v.kind) := cell_of_blk H0_2.out rfl
  have c2_0_1 : U.cell? ⟨b0, 1, none⟩ = some (.int .i64 v.n) := cell_of_blk H0_2.out rfl
  have c2_0_2 : U.cell? ⟨b0, 2, none⟩ = some (.string v.s) := cell_of_blk H0_2.out rfl
  have c2_0_3 : U.cell? ⟨b0, 3, none⟩ = some (.int .u64 (v.label : Int)) := cell_of_blk H0_2.out rfl
  have c2_0_f0 := free_of_blk (i := 0) H0_2.out
  have c2_0_f1 := free_of_blk (i := 1) H0_2.out
  have c2_0_f2 := free_of_blk (i := 2) H0_2.out
  have c2_0_f3 := free_of_blk (i := 3) H0_2.out
  have c2_0_l := blk_lt H0_2.out
  have c2_1_0 : U.cell? ⟨b1, 0, none⟩ = some (.int .i64 0) := cell_of_blk H1_2.out rfl
  have c2_1_1 : U.cell? ⟨b1, 1, none⟩ = some (.int .i64 0) := cell_of_blk H1_2.out rfl
  have c2_1_2 : U.cell? ⟨b1, 2, none⟩ = some (.string ⟨#[]⟩) := cell_of_blk H1_2.out rfl
  have c2_1_3 : U.cell? ⟨b1, 3, none⟩ = some (.int .u64 0) := cell_of_blk H1_2.out rfl
  have c2_1_f0 := free_of_blk (i := 0) H1_2.out
  have c2_1_f1 := free_of_blk (i := 1) H1_2.out
  have c2_1_f2 := free_of_blk (i := 2) H1_2.out
  have c2_1_f3 := free_of_blk (i := 3) H1_2.out
  have c2_1_l := blk_lt H1_2.out
  go_wp2
  obtain ⟨j0, j1, j2, j3⟩ := four H1_2.out rfl (.int .i64 v.kind) (.int .i64 v.n) (.string v.s) (.int .u64 (v.label : Int))
  refine bodyPost_ret (v := .agg #[.int .i64 v.kind, .int .i64 v.n, .string v.s, .int .u64 (v.label : Int)]) (by simp [results, Tryd.results18, go_sem, j0, j1, j2, j3]) rfl ?_
  exact ⟨rfl, (Below.setCell (p := ⟨b1, 3, none⟩) (Below.setCell (p := ⟨b1, 2, none⟩) (Below.setCell (p := ⟨b1, 1, none⟩) (Below.setCell (p := ⟨b1, 0, none⟩) HW_2.out HB.out (.int .i64 v.kind)) HB.out (.int .i64 v.n)) HB.out (.string v.s)) HB.out (.int .u64 (v.label : Int)))⟩
set_option maxRecDepth 100000 in
set_option maxHeartbeats 2000000 in
theorem hfnn_nil (pr : Int) (A : Option Addr) (n c : Nat) (k : Int) (w : World) : Calls Tryd.prog 34 #[.pointer none, .agg #[.int .i64 pr, .slice A n c, .int .i64 0, .int .i64 0, .string ⟨#[]⟩, .int .u64 0, .int .i64 0, .slice none 0 0, .slice none 0 0, .int .i64 0, .bool false], .int .i64 k] w (RetB (.tuple #[.agg #[.int .i64 0, .int .i64 0, .string ⟨#[]⟩, .int .u64 0], .bool false]) w) := by
  have hmf : ∀ (fn : Fn) (first cap : Array Value) (w : World), (Instr.makeFunc fn first cap).run Tryd.prog w = .ok (.func fn first cap) w := fun _ _ _ _ => rfl
  obtain ⟨b0, hb0⟩ : ∃ b, b = w.heap.size := ⟨_, rfl⟩
  have HBE0 := Lib.hid hb0
  obtain ⟨b1, hb1⟩ : ∃ b, b = w.heap.size + 1 := ⟨_, rfl⟩
  have HBE1 := Lib.hid hb1
  obtain ⟨b2, hb2⟩ : ∃ b, b = w.heap.size + 1 + 1 := ⟨_, rfl⟩
  have HBE2 := Lib.hid hb2
  have HB := Lib.hid (show w.heap.size ≤ b2 by omega)
  clear hb0 hb1 hb2
  go_enter Tryd.func34, Tryd.ntmps34
  go_upto_region 1 with fail
  rw [← HBE2.out, ← HBE1.out, ← HBE0.out]
  refine gen_wp fun W hW => ?_
  have H0_0 := Lib.hid (show W.heap[b0]? = some (.cells #[.pointer none] 36 (0, 0)) by rw [← hW, HBE0.out]; exact blk_alloc (blk_alloc (heap_new_at _ _ _ (by first | rfl | simp)) _) _)
  have H1_0 := Lib.hid (show W.heap[b1]? = some (.cells #[.int .i64 pr, .slice A n c, .int .i64 0, .int .i64 0, .string ⟨#[]⟩, .int .u64 0, .int .i64 0, .slice none 0 0, .slice none 0 0, .int .i64 0, .bool false] 44 (0, 0)) by rw [← hW, HBE1.out]; exact blk_alloc (heap_new_at _ _ _ (by first | rfl | simp)) _)
  have H2_0 := Lib.hid (show W.heap[b2]? = some (.cells #[.int .i64 0, .int .i64 0, .string ⟨#[]⟩, .int .u64 0] 25 (0, 0)) by rw [← hW, HBE2.out]; exact heap_new_at _ _ _ (by first | rfl | simp))
  have HW_0 := Lib.hid (show Below w.heap.size w W by rw [← hW]; exact (((Below.refl _ _).alloc (Nat.le_refl _) _).alloc (by simp <;> omega) _).alloc (by simp <;> omega) _)
  clear hW
  have c0_0_0 : W.cell? ⟨b0, 0, none⟩ = some (.pointer none) := cell_of_blk H0_0.out rfl
  have c0_0_f0 := free_of_blk (i := 0) H0_0.out
  have c0_0_l := blk_lt H0_0.out
  have c0_1_0 : W.cell? ⟨b1, 0, none⟩ = some (.int .i64 pr) := cell_of_blk H1_0.out rfl
  have c0_1_1 : W.cell? ⟨b1, 1, none⟩ = some (.slice A n c) := cell_of_blk H1_0.out rfl
  have c0_1_2 : W.cell? ⟨b1, 2, none⟩ = some (.int .i64 0) := cell_of_blk H1_0.out rfl
  have c0_1_3 : W.cell? ⟨b1, 3, none⟩ = some (.int .i64 0) := cell_of_blk H1_0.out rfl
  have c0_1_4 : W.cell? ⟨b1, 4, none⟩ = some (.string ⟨#[]⟩) := cell_of_blk H1_0.out rfl
  have c0_1_5 : W.cell? ⟨b1, 5, none⟩ = some (.int .u64 0) := cell_of_blk H1_0.out rfl
  have c0_1_6 : W.cell? ⟨b1, 6, none⟩ = some (.int .i64 0) := cell_of_blk H1_0.out rfl
  have c0_1_7 : W.cell? ⟨b1, 7, none⟩ = some (.slice none 0 0) := cell_of_blk H1_0.out rfl
  have c0_1_8 : W.cell? ⟨b1, 8, none⟩ = some (.slice none 0 0) := cell_of_blk H1_0.out rfl
  have c0_1_9 : W.cell? ⟨b1, 9, none⟩ = some (.int .i64 0) := cell_of_blk H1_0.out rfl
  have c0_1_10 : W.cell? ⟨b1, 10, none⟩ = some (.bool false) := cell_of_blk H1_0.out rfl
  have c0_1_f0 := free_of_blk (i := 0) H1_0.out
  have c0_1_f1 := free_of_blk (i := 1) H1_0.out
  have c0_1_f2 := free_of_blk (i := 2) H1_0.out
  have c0_1_f3 := free_of_blk (i := 3) H1_0.out
  have c0_1_f4 := free_of_blk (i := 4) H1_0.out
  have c0_1_f5 := free_of_blk (i := 5) H1_0.out
  have c0_1_f6 := free_of_blk (i := 6) H1_0.out
  have c0_1_f7 := free_of_blk (i := 7) H1_0.out
  have c0_1_f8 := free_of_blk (i := 8) H1_0.out
  have c0_1_f9 := free_of_blk (i := 9) H1_0.out
  have c0_1_f10 := free_of_blk (i := 10) H1_0.out
  have c0_1_l := blk_lt H1_0.out
  have c0_2_0 : W.cell? ⟨b2, 0, none⟩ = some (.int .i64 0) := cell_of_blk H2_0.out rfl
  have c0_2_1 : W.cell? ⟨b2, 1, none⟩ = some (.int .i64 0) := cell_of_blk H2_0.out rfl
  have c0_2_2 : W.cell? ⟨b2, 2, none⟩ = some (.string ⟨#[]⟩) := cell_of_blk H2_0.out rfl
  have c0_2_3 : W.cell? ⟨b2, 3, none⟩ = some (.int .u64 0) := cell_of_blk H2_0.out rfl
  have c0_2_f0 := free_of_blk (i := 0) H2_0.out
  have c0_2_f1 := free_of_blk (i := 1) H2_0.out
  have c0_2_f2 := free_of_blk (i := 2) H2_0.out
  have c0_2_f3 := free_of_blk (i := 3) H2_0.out
  have c0_2_l := blk_lt H2_0.out
  go_wp2_with fail
  refine (hpaid_nil k _ _).mono ?_
  rintro e w1 ⟨rfl, hb⟩
  have H0_1 := Lib.hid (below_blk hb H0_0.out)
  have H1_1 := Lib.hid (below_blk hb H1_0.out)
  have H2_1 := Lib.hid (below_blk hb H2_0.out)
  have HW_1 := Lib.hid (HW_0.out.trans (hb.mono HW_0.out.size))
  clear hb c0_0_0 c0_0_f0 c0_0_l c0_1_0 c0_1_f0 c0_1_1 c0_1_f1 c0_1_2 c0_1_f2 c0_1_3 c0_1_f3 c0_1_4 c0_1_f4 c0_1_5 c0_1_f5 c0_1_6 c0_1_f6 c0_1_7 c0_1_f7 c0_1_8 c0_1_f8 c0_1_9 c0_1_f9 c0_1_10 c0_1_f10 c0_1_l c0_2_0 c0_2_f0 c0_2_1 c0_2_f1 c0_2_2 c0_2_f2 c0_2_3 c0_2_f3 c0_2_l
  have c1_0_0 : w1.cell? ⟨b0, 0, none⟩ = some (.pointer none) := cell_of_blk H0_1.out rfl
  have c1_0_f0 := free_of_blk (i := 0) H0_1.out
  have c1_0_l := blk_lt H0_1.out
  have c1_1_0 : w1.cell? ⟨b1, 0, none⟩ = some (.int .i64 pr) := cell_of_blk H1_1.out rfl
  have c1_1_1 : w1.cell? ⟨b1, 1, none⟩ = some (.slice A n c) := cell_of_blk H1_1.out rfl
  have c1_1_2 : w1.cell? ⟨b1, 2, none⟩ = some (.int .i64 0) := cell_of_blk H1_1.out rfl
  have c1_1_3 : w1.cell? ⟨b1, 3, none⟩ = some (.int .i64 0) := cell_of_blk H1_1.out rfl
  have c1_1_4 : w1.cell? ⟨b1, 4, none⟩ = some (.string ⟨#[]⟩) := cell_of_blk H1_1.out rfl
  have c1_1_5 : w1.cell? ⟨b1, 5, none⟩ = some (.int .u64 0) := cell_of_blk H1_1.out rfl
  have c1_1_6 : w1.cell? ⟨b1, 6, none⟩ = some (.int .i64 0) := cell_of_blk H1_1.out rfl
  have c1_1_7 : w1.cell? ⟨b1, 7, none⟩ = some (.slice none 0 0) := cell_of_blk H1_1.out rfl
  have c1_1_8 : w1.cell? ⟨b1, 8, none⟩ = some (.slice none 0 0) := cell_of_blk H1_1.out rfl
  have c1_1_9 : w1.cell? ⟨b1, 9, none⟩ = some (.int .i64 0) := cell_of_blk H1_1.out rfl
  have c1_1_10 : w1.cell? ⟨b1, 10, none⟩ = some (.bool false) := cell_of_blk H1_1.out rfl
  have c1_1_f0 := free_of_blk (i := 0) H1_1.out
  have c1_1_f1 := free_of_blk (i := 1) H1_1.out
  have c1_1_f2 := free_of_blk (i := 2) H1_1.out
  have c1_1_f3 := free_of_blk (i := 3) H1_1.out
  have c1_1_f4 := free_of_blk (i := 4) H1_1.out
  have c1_1_f5 := free_of_blk (i := 5) H1_1.out
  have c1_1_f6 := free_of_blk (i := 6) H1_1.out
  have c1_1_f7 := free_of_blk (i := 7) H1_1.out
  have c1_1_f8 := free_of_blk (i := 8) H1_1.out
  have c1_1_f9 := free_of_blk (i := 9) H1_1.out
  have c1_1_f10 := free_of_blk (i := 10) H1_1.out
  have c1_1_l := blk_lt H1_1.out
  have c1_2_0 : w1.cell? ⟨b2, 0, none⟩ = some (.int .i64 0) := cell_of_blk H2_1.out rfl
  have c1_2_1 : w1.cell? ⟨b2, 1, none⟩ = some (.int .i64 0) := cell_of_blk H2_1.out rfl
  have c1_2_2 : w1.cell? ⟨b2, 2, none⟩ = some (.string ⟨#[]⟩) := cell_of_blk H2_1.out rfl
  have c1_2_3 : w1.cell? ⟨b2, 3, none⟩ = some (.int .u64 0) := cell_of_blk H2_1.out rfl
  have c1_2_f0 := free_of_blk (i := 0) H2_1.out
  have c1_2_f1 := free_of_blk (i := 1) H2_1.out
  have c1_2_f2 := free_of_blk (i := 2) H2_1.out
  have c1_2_f3 := free_of_blk (i := 3) H2_1.out
  have c1_2_l := blk_lt H2_1.out
  go_wp2
  obtain ⟨j0, j1, j2, j3⟩ := four H2_1.out rfl (.int .i64 0) (.int .i64 0) (.string ⟨#[]⟩) (.int .u64 0)
  refine bodyPost_ret (v := .tuple #[.agg #[.int .i64 0, .int .i64 0, .string ⟨#[]⟩, .int .u64 0], .bool false]) (by simp [results, Tryd.results34, go_sem, j0, j1, j2, j3]) rfl ?_
  exact ⟨rfl, (Below.setCell (p := ⟨b2, 3, none⟩) (Below.setCell (p := ⟨b2, 2, none⟩) (Below.setCell (p := ⟨b2, 1, none⟩) (Below.setCell (p := ⟨b2, 0, none⟩) HW_1.out HB.out (.int .i64 0)) HB.out (.int .i64 0)) HB.out (.string ⟨#[]⟩)) HB.out (.int .u64 0))⟩
end Go.Proofs.YtohllalninoomaaDoor
