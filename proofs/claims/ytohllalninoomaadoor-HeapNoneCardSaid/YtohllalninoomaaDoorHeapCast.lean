/-
  Cast on a heap that nobody made.
-/
import Derived.Test.YtohllalninoomaaDoorHeapNil4
import Derived.Test.YtohllalninoomaaDoorTyKinds
set_option linter.unusedVariables false
set_option linter.unusedSimpArgs false
namespace Go.Proofs.YtohllalninoomaaDoor
open Go.ChangeShapes Go.WideShapes Go.ChangeAt Go.RowKit

set_option maxRecDepth 100000 in
set_option maxHeartbeats 2000000 in
theorem hcast_nil (v : VV) (t : LTy) (n : Int) (w : World) (hin : LIn w w.heap.size t) (hsp : SpW w) : Calls Tryd.prog 11 #[.pointer none, .agg #[.int .i64 v.kind, .int .i64 v.n, .string v.s, .int .u64 (v.label : Int)], .agg #[.int .i64 t.kind, .slice t.A t.ns.length t.c, .slice t.A2 t.xs.length t.c2], .int .i64 n] w (RetB (.tuple #[.agg #[.int .i64 0, .int .i64 0, .string ⟨#[]⟩, .int .u64 0], .bool false, .bool true]) w) := by
  obtain ⟨kk, hkk⟩ : ∃ kk : Nat, kk = kindsV (strip t) := ⟨_, rfl⟩
  have HK := Lib.hid (fun w' (hb : Below w.heap.size w w') => show Calls Tryd.prog 38 #[.agg #[.int .i64 t.kind, .slice t.A t.ns.length t.c, .slice t.A2 t.xs.length t.c2]] w' (RetB (.int .i64 (kk : Int)) w') from by
    rw [hkk]
    exact tkinds_any t w' (hin.on hb) (hsp.below hb))
  clear hkk hin hsp
  obtain ⟨b0, hb0⟩ : ∃ b, b = w.heap.size := ⟨_, rfl⟩
  have HBE0 := Lib.hid hb0
  obtain ⟨b1, hb1⟩ : ∃ b, b = w.heap.size + 1 := ⟨_, rfl⟩
  have HBE1 := Lib.hid hb1
  obtain ⟨b2, hb2⟩ : ∃ b, b = w.heap.size + 1 + 1 := ⟨_, rfl⟩
  have HBE2 := Lib.hid hb2
  have HB := Lib.hid (show w.heap.size ≤ b2 by omega)
  clear hb0 hb1 hb2
  go_enter Tryd.func11, Tryd.ntmps11
  go_upto_region 1 with fail
  rw [← HBE2.out, ← HBE1.out, ← HBE0.out]
  refine gen_wp fun W hW => ?_
  have H0_0 := Lib.hid (show W.heap[b0]? = some (.cells #[.int .i64 v.kind, .int .i64 v.n, .string v.s, .int .u64 (v.label : Int)] 25 (0, 0)) by rw [← hW, HBE0.out]; exact blk_alloc (blk_alloc (heap_new_at _ _ _ (by first | rfl | simp)) _) _)
  have H1_0 := Lib.hid (show W.heap[b1]? = some (.cells #[.int .i64 t.kind, .slice t.A t.ns.length t.c, .slice t.A2 t.xs.length t.c2] 30 (0, 0)) by rw [← hW, HBE1.out]; exact blk_alloc (heap_new_at _ _ _ (by first | rfl | simp)) _)
  have H2_0 := Lib.hid (show W.heap[b2]? = some (.cells #[.int .i64 0, .int .i64 0, .string ⟨#[]⟩, .int .u64 0] 25 (0, 0)) by rw [← hW, HBE2.out]; exact heap_new_at _ _ _ (by first | rfl | simp))
  have HW_0 := Lib.hid (show Below w.heap.size w W by rw [← hW]; exact (((Below.refl _ _).alloc (Nat.le_refl _) _).alloc (by simp <;> omega) _).alloc (by simp <;> omega) _)
  clear hW
  have c0_0_0 : W.cell? ⟨b0, 0, none⟩ = some (.int .i64 v.kind) := cell_of_blk H0_0.out rfl
  have c0_0_1 : W.cell? ⟨b0, 1, none⟩ = some (.int .i64 v.n) := cell_of_blk H0_0.out rfl
  have c0_0_2 : W.cell? ⟨b0, 2, none⟩ = some (.string v.s) := cell_of_blk H0_0.out rfl
  have c0_0_3 : W.cell? ⟨b0, 3, none⟩ = some (.int .u64 (v.label : Int)) := cell_of_blk H0_0.out rfl
  have c0_0_f0 := free_of_blk (i := 0) H0_0.out
  have c0_0_f1 := free_of_blk (i := 1) H0_0.out
  have c0_0_f2 := free_of_blk (i := 2) H0_0.out
  have c0_0_f3 := free_of_blk (i := 3) H0_0.out
  have c0_0_l := blk_lt H0_0.out
  have c0_1_0 : W.cell? ⟨b1, 0, none⟩ = some (.int .i64 t.kind) := cell_of_blk H1_0.out rfl
  have c0_1_1 : W.cell? ⟨b1, 1, none⟩ = some (.slice t.A t.ns.length t.c) := cell_of_blk H1_0.out rfl
  have c0_1_2 : W.cell? ⟨b1, 2, none⟩ = some (.slice t.A2 t.xs.length t.c2) := cell_of_blk H1_0.out rfl
  have c0_1_f0 := free_of_blk (i := 0) H1_0.out
  have c0_1_f1 := free_of_blk (i := 1) H1_0.out
  have c0_1_f2 := free_of_blk (i := 2) H1_0.out
  have c0_1_l := blk_lt H1_0.out
  have c0_2_0 : W.cell? ⟨b2, 0, none⟩ = some (.int .i64 0) := cell_of_blk H2_0.out rfl
  have c0_2_1 : W.cell? ⟨b2, 1, none⟩ = some (.int .i64 0) := cell_of_blk H2_0.out rfl
  have c0_2_2 : W.cell? ⟨b2, 2, none⟩ = some (.string ⟨#[]⟩) := cell_of_blk H2_0.out rfl
  have c0_2_3 : W.cell? ⟨b2, 3, none⟩ = some (.int .u64 0) := cell_of_blk H2_0.out rfl
  have c0_2_f0 := free_of_blk (i := 0) H2_0.out
  have c0_2_f1 := free_of_blk (i := 1) H2_0.out
  have c0_2_f2 := free_of_blk (i := 2) H2_0.out
  have c0_2_f3 := free_of_blk (i := 3) H2_0.out
  have c0_2_l := blk_lt H2_0.out
  go_wp2_with fail
  refine (HK.out _ HW_0.out).mono ?_
  rintro e w1 ⟨rfl, hb⟩
  have H0_1 := Lib.hid (below_blk hb H0_0.out)
  have H1_1 := Lib.hid (below_blk hb H1_0.out)
  have H2_1 := Lib.hid (below_blk hb H2_0.out)
  have HW_1 := Lib.hid (HW_0.out.trans (hb.mono HW_0.out.size))
  clear hb c0_0_0 c0_0_f0 c0_0_1 c0_0_f1 c0_0_2 c0_0_f2 c0_0_3 c0_0_f3 c0_0_l c0_1_0 c0_1_f0 c0_1_1 c0_1_f1 c0_1_2 c0_1_f2 c0_1_l c0_2_0 c0_2_f0 c0_2_1 c0_2_f1 c0_2_2 c0_2_f2 c0_2_3 c0_2_f3 c0_2_l
  have c1_0_0 : w1.cell? ⟨b0, 0, none⟩ = some (.int .i64 v.kind) := cell_of_blk H0_1.out rfl
  have c1_0_1 : w1.cell? ⟨b0, 1, none⟩ = some (.int .i64 v.n) := cell_of_blk H0_1.out rfl
  have c1_0_2 : w1.cell? ⟨b0, 2, none⟩ = some (.string v.s) := cell_of_blk H0_1.out rfl
  have c1_0_3 : w1.cell? ⟨b0, 3, none⟩ = some (.int .u64 (v.label : Int)) := cell_of_blk H0_1.out rfl
  have c1_0_f0 := free_of_blk (i := 0) H0_1.out
  have c1_0_f1 := free_of_blk (i := 1) H0_1.out
  have c1_0_f2 := free_of_blk (i := 2) H0_1.out
  have c1_0_f3 := free_of_blk (i := 3) H0_1.out
  have c1_0_l := blk_lt H0_1.out
  have c1_1_0 : w1.cell? ⟨b1, 0, none⟩ = some (.int .i64 t.kind) := cell_of_blk H1_1.out rfl
  have c1_1_1 : w1.cell? ⟨b1, 1, none⟩ = some (.slice t.A t.ns.length t.c) := cell_of_blk H1_1.out rfl
  have c1_1_2 : w1.cell? ⟨b1, 2, none⟩ = some (.slice t.A2 t.xs.length t.c2) := cell_of_blk H1_1.out rfl
  have c1_1_f0 := free_of_blk (i := 0) H1_1.out
  have c1_1_f1 := free_of_blk (i := 1) H1_1.out
  have c1_1_f2 := free_of_blk (i := 2) H1_1.out
  have c1_1_l := blk_lt H1_1.out
  have c1_2_0 : w1.cell? ⟨b2, 0, none⟩ = some (.int .i64 0) := cell_of_blk H2_1.out rfl
  have c1_2_1 : w1.cell? ⟨b2, 1, none⟩ = some (.int .i64 0) := cell_of_blk H2_1.out rfl
  have c1_2_2 : w1.cell? ⟨b2, 2, none⟩ = some (.string ⟨#[]⟩) := cell_of_blk H2_1.out rfl
  have c1_2_3 : w1.cell? ⟨b2, 3, none⟩ = some (.int .u64 0) := cell_of_blk H2_1.out rfl
  have c1_2_f0 := free_of_blk (i := 0) H2_1.out
  have c1_2_f1 := free_of_blk (i := 1) H2_1.out
  have c1_2_f2 := free_of_blk (i := 2) H2_1.out
  have c1_2_f3 := free_of_blk (i := 3) H2_1.out
  have c1_2_l := blk_lt H2_1.out
  go_wp2
  obtain ⟨j0, j1, j2, j3⟩ := four H2_1.out rfl (.int .i64 0) (.int .i64 0) (.string ⟨#[]⟩) (.int .u64 0)
  refine bodyPost_ret (v := .tuple #[.agg #[.int .i64 0, .int .i64 0, .string ⟨#[]⟩, .int .u64 0], .bool false, .bool true]) (by simp [results, Tryd.results11, go_sem, j0, j1, j2, j3]) rfl ?_
  exact ⟨rfl, (Below.setCell (p := ⟨b2, 3, none⟩) (Below.setCell (p := ⟨b2, 2, none⟩) (Below.setCell (p := ⟨b2, 1, none⟩) (Below.setCell (p := ⟨b2, 0, none⟩) HW_1.out HB.out (.int .i64 0)) HB.out (.int .i64 0)) HB.out (.string ⟨#[]⟩)) HB.out (.int .u64 0))⟩
end Go.Proofs.YtohllalninoomaaDoor
