/-
  ValueOrders: the walk.
-/
import Derived.Test.YthhphjfbdoffhaaValOrdP
set_option linter.unusedVariables false
set_option linter.unusedSimpArgs false
namespace Go.Proofs.Ythhphjfbdoffhaa
open Go.ChangeShapes Go.WideShapes Go.ChangeAt Go.RowKit

set_option maxRecDepth 100000 in
set_option maxHeartbeats 1500000 in
theorem vord_big (ka kb : Int) (na nb : Int) (sa sb : ByteArray) (la lb : Nat) (w : World) (hq : smallV [(⟨ka, na, sa, la⟩ : VV), (⟨kb, nb, sb, lb⟩ : VV)] = false) : Calls Try.prog 6 #[.agg #[.int .i64 ka, .int .i64 na, .string sa, .int .u64 (la : Int)], .agg #[.int .i64 kb, .int .i64 nb, .string sb, .int .u64 (lb : Int)]] w fun e w' => e = .returned (.bool true) ∧ Below w.heap.size w w' := by
  have hs := fun n c t w' h => small2_any (⟨ka, na, sa, la⟩ : VV) (⟨kb, nb, sb, lb⟩ : VV) n c t w' h
  rw [hq] at hs
  dsimp only at hs
  have HS := Lib.hid hs
  clear hs hq
  go_enter Try.func6, Try.ntmps6
  go_wp2_with fail
  refine (awake03 _).mono ?_
  rintro e w0 ⟨rfl, hb0⟩
  have hA0 := below_blk hb0 (blk_alloc (heap_new_at _ _ _ rfl) _)
  have hB0 := below_blk hb0 (heap_new_at _ _ (w.heap.size + 1) (by simp))
  have a0 : w0.cell? ⟨w.heap.size, 0, none⟩ = some (.int .i64 ka) := cell_of_blk hA0 rfl
  have a1 : w0.cell? ⟨w.heap.size, 1, none⟩ = some (.int .i64 na) := cell_of_blk hA0 rfl
  have a2 : w0.cell? ⟨w.heap.size, 2, none⟩ = some (.string sa) := cell_of_blk hA0 rfl
  have a3 : w0.cell? ⟨w.heap.size, 3, none⟩ = some (.int .u64 (la : Int)) := cell_of_blk hA0 rfl
  have b0 : w0.cell? ⟨w.heap.size + 1, 0, none⟩ = some (.int .i64 kb) := cell_of_blk hB0 rfl
  have b1 : w0.cell? ⟨w.heap.size + 1, 1, none⟩ = some (.int .i64 nb) := cell_of_blk hB0 rfl
  have b2 : w0.cell? ⟨w.heap.size + 1, 2, none⟩ = some (.string sb) := cell_of_blk hB0 rfl
  have b3 : w0.cell? ⟨w.heap.size + 1, 3, none⟩ = some (.int .u64 (lb : Int)) := cell_of_blk hB0 rfl
  have hlt := blk_lt hB0
  have hlt0 : w.heap.size < w0.heap.size := by omega
  have HB0 : Hid (Below w.heap.size w w0) := Lib.hid ((((Below.refl _ _).alloc (Nat.le_refl _) _).alloc (by simp) _).trans (hb0.mono (by simp; omega)))
  have HA0 := Lib.hid hA0
  have HBB0 := Lib.hid hB0
  clear hb0 hA0 hB0
  go_wp2_with fail
  refine (HS.out _ _ _ _ (heap_alloc_new _ _)).mono ?_
  rintro e w1 ⟨rfl, hb1⟩
  go_wp2
  go_ret
  exact ⟨rfl, HB0.out.trans ((((Below.refl _ _).alloc (Nat.le_refl _) _).trans (hb1.mono (by simp))).mono HB0.out.size)⟩
set_option maxRecDepth 100000 in
set_option maxHeartbeats 1500000 in
theorem vord_kinds (ka kb : Int) (na nb : Int) (sa sb : ByteArray) (la lb : Nat) (w : World) (hq : smallV [(⟨ka, na, sa, la⟩ : VV), (⟨kb, nb, sb, lb⟩ : VV)] = true) (k1 : ¬ ka = kb) : Calls Try.prog 6 #[.agg #[.int .i64 ka, .int .i64 na, .string sa, .int .u64 (la : Int)], .agg #[.int .i64 kb, .int .i64 nb, .string sb, .int .u64 (lb : Int)]] w fun e w' => e = .returned (.bool true) ∧ Below w.heap.size w w' := by
  have hs := fun n c t w' h => small2_any (⟨ka, na, sa, la⟩ : VV) (⟨kb, nb, sb, lb⟩ : VV) n c t w' h
  rw [hq] at hs
  dsimp only at hs
  have HS := Lib.hid hs
  clear hs hq
  go_enter Try.func6, Try.ntmps6
  go_wp2_with fail
  refine (awake03 _).mono ?_
  rintro e w0 ⟨rfl, hb0⟩
  have hA0 := below_blk hb0 (blk_alloc (heap_new_at _ _ _ rfl) _)
  have hB0 := below_blk hb0 (heap_new_at _ _ (w.heap.size + 1) (by simp))
  have a0 : w0.cell? ⟨w.heap.size, 0, none⟩ = some (.int .i64 ka) := cell_of_blk hA0 rfl
  have a1 : w0.cell? ⟨w.heap.size, 1, none⟩ = some (.int .i64 na) := cell_of_blk hA0 rfl
  have a2 : w0.cell? ⟨w.heap.size, 2, none⟩ = some (.string sa) := cell_of_blk hA0 rfl
  have a3 : w0.cell? ⟨w.heap.size, 3, none⟩ = some (.int .u64 (la : Int)) := cell_of_blk hA0 rfl
  have b0 : w0.cell? ⟨w.heap.size + 1, 0, none⟩ = some (.int .i64 kb) := cell_of_blk hB0 rfl
  have b1 : w0.cell? ⟨w.heap.size + 1, 1, none⟩ = some (.int .i64 nb) := cell_of_blk hB0 rfl
  have b2 : w0.cell? ⟨w.heap.size + 1, 2, none⟩ = some (.string sb) := cell_of_blk hB0 rfl
  have b3 : w0.cell? ⟨w.heap.size + 1, 3, none⟩ = some (.int .u64 (lb : Int)) := cell_of_blk hB0 rfl
  have hlt := blk_lt hB0
  have hlt0 : w.heap.size < w0.heap.size := by omega
  have HB0 : Hid (Below w.heap.size w w0) := Lib.hid ((((Below.refl _ _).alloc (Nat.le_refl _) _).alloc (by simp) _).trans (hb0.mono (by simp; omega)))
  have HA0 := Lib.hid hA0
  have HBB0 := Lib.hid hB0
  clear hb0 hA0 hB0
  go_wp2_with fail
  refine (HS.out _ _ _ _ (heap_alloc_new _ _)).mono ?_
  rintro e w1 ⟨rfl, hb1⟩
  have hA1 := below_blk hb1 (blk_alloc HA0.out _)
  have hB1 := below_blk hb1 (blk_alloc HBB0.out _)
  clear a0 a1 a2 a3 b0 b1 b2 b3
  have a0 : w1.cell? ⟨w.heap.size, 0, none⟩ = some (.int .i64 ka) := cell_of_blk hA1 rfl
  have a1 : w1.cell? ⟨w.heap.size, 1, none⟩ = some (.int .i64 na) := cell_of_blk hA1 rfl
  have a2 : w1.cell? ⟨w.heap.size, 2, none⟩ = some (.string sa) := cell_of_blk hA1 rfl
  have a3 : w1.cell? ⟨w.heap.size, 3, none⟩ = some (.int .u64 (la : Int)) := cell_of_blk hA1 rfl
  have b0 : w1.cell? ⟨w.heap.size + 1, 0, none⟩ = some (.int .i64 kb) := cell_of_blk hB1 rfl
  have b1 : w1.cell? ⟨w.heap.size + 1, 1, none⟩ = some (.int .i64 nb) := cell_of_blk hB1 rfl
  have b2 : w1.cell? ⟨w.heap.size + 1, 2, none⟩ = some (.string sb) := cell_of_blk hB1 rfl
  have b3 : w1.cell? ⟨w.heap.size + 1, 3, none⟩ = some (.int .u64 (lb : Int)) := cell_of_blk hB1 rfl
  have HB1 : Hid (Below w.heap.size w w1) := Lib.hid (HB0.out.trans ((((Below.refl _ _).alloc (Nat.le_refl _) _).trans (hb1.mono (by simp))).mono HB0.out.size))
  have hlt1 := blk_lt hA1
  have hltb1 := blk_lt hB1
  clear hb1
  go_wp2
  go_ret
  exact ⟨rfl, HB1.out⟩
set_option maxRecDepth 100000 in
set_option maxHeartbeats 1500000 in
theorem vord_kind (ka : Int) (na nb : Int) (sa sb : ByteArray) (la lb : Nat) (w : World) (hq : smallV [(⟨ka, na, sa, la⟩ : VV), (⟨ka, nb, sb, lb⟩ : VV)] = true) (k2 : ¬ ka = 2) (k3 : ¬ ka = 3) : Calls Try.prog 6 #[.agg #[.int .i64 ka, .int .i64 na, .string sa, .int .u64 (la : Int)], .agg #[.int .i64 ka, .int .i64 nb, .string sb, .int .u64 (lb : Int)]] w fun e w' => e = .returned (.bool true) ∧ Below w.heap.size w w' := by
  have hs := fun n c t w' h => small2_any (⟨ka, na, sa, la⟩ : VV) (⟨ka, nb, sb, lb⟩ : VV) n c t w' h
  rw [hq] at hs
  dsimp only at hs
  have HS := Lib.hid hs
  clear hs hq
  go_enter Try.func6, Try.ntmps6
  go_wp2_with fail
  refine (awake03 _).mono ?_
  rintro e w0 ⟨rfl, hb0⟩
  have hA0 := below_blk hb0 (blk_alloc (heap_new_at _ _ _ rfl) _)
  have hB0 := below_blk hb0 (heap_new_at _ _ (w.heap.size + 1) (by simp))
  have a0 : w0.cell? ⟨w.heap.size, 0, none⟩ = some (.int .i64 ka) := cell_of_blk hA0 rfl
  have a1 : w0.cell? ⟨w.heap.size, 1, none⟩ = some (.int .i64 na) := cell_of_blk hA0 rfl
  have a2 : w0.cell? ⟨w.heap.size, 2, none⟩ = some (.string sa) := cell_of_blk hA0 rfl
  have a3 : w0.cell? ⟨w.heap.size, 3, none⟩ = some (.int .u64 (la : Int)) := cell_of_blk hA0 rfl
  have b0 : w0.cell? ⟨w.heap.size + 1, 0, none⟩ = some (.int .i64 ka) := cell_of_blk hB0 rfl
  have b1 : w0.cell? ⟨w.heap.size + 1, 1, none⟩ = some (.int .i64 nb) := cell_of_blk hB0 rfl
  have b2 : w0.cell? ⟨w.heap.size + 1, 2, none⟩ = some (.string sb) := cell_of_blk hB0 rfl
  have b3 : w0.cell? ⟨w.heap.size + 1, 3, none⟩ = some (.int .u64 (lb : Int)) := cell_of_blk hB0 rfl
  have hlt := blk_lt hB0
  have hlt0 : w.heap.size < w0.heap.size := by omega
  have HB0 : Hid (Below w.heap.size w w0) := Lib.hid ((((Below.refl _ _).alloc (Nat.le_refl _) _).alloc (by simp) _).trans (hb0.mono (by simp; omega)))
  have HA0 := Lib.hid hA0
  have HBB0 := Lib.hid hB0
  clear hb0 hA0 hB0
  go_wp2_with fail
  refine (HS.out _ _ _ _ (heap_alloc_new _ _)).mono ?_
  rintro e w1 ⟨rfl, hb1⟩
  have hA1 := below_blk hb1 (blk_alloc HA0.out _)
  have hB1 := below_blk hb1 (blk_alloc HBB0.out _)
  clear a0 a1 a2 a3 b0 b1 b2 b3
  have a0 : w1.cell? ⟨w.heap.size, 0, none⟩ = some (.int .i64 ka) := cell_of_blk hA1 rfl
  have a1 : w1.cell? ⟨w.heap.size, 1, none⟩ = some (.int .i64 na) := cell_of_blk hA1 rfl
  have a2 : w1.cell? ⟨w.heap.size, 2, none⟩ = some (.string sa) := cell_of_blk hA1 rfl
  have a3 : w1.cell? ⟨w.heap.size, 3, none⟩ = some (.int .u64 (la : Int)) := cell_of_blk hA1 rfl
  have b0 : w1.cell? ⟨w.heap.size + 1, 0, none⟩ = some (.int .i64 ka) := cell_of_blk hB1 rfl
  have b1 : w1.cell? ⟨w.heap.size + 1, 1, none⟩ = some (.int .i64 nb) := cell_of_blk hB1 rfl
  have b2 : w1.cell? ⟨w.heap.size + 1, 2, none⟩ = some (.string sb) := cell_of_blk hB1 rfl
  have b3 : w1.cell? ⟨w.heap.size + 1, 3, none⟩ = some (.int .u64 (lb : Int)) := cell_of_blk hB1 rfl
  have HB1 : Hid (Below w.heap.size w w1) := Lib.hid (HB0.out.trans ((((Below.refl _ _).alloc (Nat.le_refl _) _).trans (hb1.mono (by simp))).mono HB0.out.size))
  have hlt1 := blk_lt hA1
  have hltb1 := blk_lt hB1
  clear hb1
  go_wp2
  go_ret
  exact ⟨rfl, HB1.out⟩
set_option maxRecDepth 100000 in
set_option maxHeartbeats 1500000 in
theorem vord_a2 (na nb : Int) (sa sb : ByteArray) (la lb : Nat) (w : World) (hq : smallV [(⟨2, na, sa, la⟩ : VV), (⟨2, nb, sb, lb⟩ : VV)] = true) (ca : checkV (⟨2, na, sa, la⟩ : VV) = false) : Calls Try.prog 6 #[.agg #[.int .i64 2, .int .i64 na, .string sa, .int .u64 (la : Int)], .agg #[.int .i64 2, .int .i64 nb, .string sb, .int .u64 (lb : Int)]] w fun e w' => e = .returned (.bool true) ∧ Below w.heap.size w w' := by
  have hs := fun n c t w' h => small2_any (⟨2, na, sa, la⟩ : VV) (⟨2, nb, sb, lb⟩ : VV) n c t w' h
  rw [hq] at hs
  dsimp only at hs
  have h3 := fun w => check_any (⟨2, na, sa, la⟩ : VV) w
  rw [ca] at h3
  unfold vvCells at h3
  dsimp only at h3
  have H3 := Lib.hid h3
  clear h3
  clear ca
  have HS := Lib.hid hs
  clear hs hq
  go_enter Try.func6, Try.ntmps6
  go_wp2_with fail
  refine (awake03 _).mono ?_
  rintro e w0 ⟨rfl, hb0⟩
  have hA0 := below_blk hb0 (blk_alloc (heap_new_at _ _ _ rfl) _)
  have hB0 := below_blk hb0 (heap_new_at _ _ (w.heap.size + 1) (by simp))
  have a0 : w0.cell? ⟨w.heap.size, 0, none⟩ = some (.int .i64 2) := cell_of_blk hA0 rfl
  have a1 : w0.cell? ⟨w.heap.size, 1, none⟩ = some (.int .i64 na) := cell_of_blk hA0 rfl
  have a2 : w0.cell? ⟨w.heap.size, 2, none⟩ = some (.string sa) := cell_of_blk hA0 rfl
  have a3 : w0.cell? ⟨w.heap.size, 3, none⟩ = some (.int .u64 (la : Int)) := cell_of_blk hA0 rfl
  have b0 : w0.cell? ⟨w.heap.size + 1, 0, none⟩ = some (.int .i64 2) := cell_of_blk hB0 rfl
  have b1 : w0.cell? ⟨w.heap.size + 1, 1, none⟩ = some (.int .i64 nb) := cell_of_blk hB0 rfl
  have b2 : w0.cell? ⟨w.heap.size + 1, 2, none⟩ = some (.string sb) := cell_of_blk hB0 rfl
  have b3 : w0.cell? ⟨w.heap.size + 1, 3, none⟩ = some (.int .u64 (lb : Int)) := cell_of_blk hB0 rfl
  have hlt := blk_lt hB0
  have hlt0 : w.heap.size < w0.heap.size := by omega
  have HB0 : Hid (Below w.heap.size w w0) := Lib.hid ((((Below.refl _ _).alloc (Nat.le_refl _) _).alloc (by simp) _).trans (hb0.mono (by simp; omega)))
  have HA0 := Lib.hid hA0
  have HBB0 := Lib.hid hB0
  clear hb0 hA0 hB0
  go_wp2_with fail
  refine (HS.out _ _ _ _ (heap_alloc_new _ _)).mono ?_
  rintro e w1 ⟨rfl, hb1⟩
  have hA1 := below_blk hb1 (blk_alloc HA0.out _)
  have hB1 := below_blk hb1 (blk_alloc HBB0.out _)
  clear a0 a1 a2 a3 b0 b1 b2 b3
  have a0 : w1.cell? ⟨w.heap.size, 0, none⟩ = some (.int .i64 2) := cell_of_blk hA1 rfl
  have a1 : w1.cell? ⟨w.heap.size, 1, none⟩ = some (.int .i64 na) := cell_of_blk hA1 rfl
  have a2 : w1.cell? ⟨w.heap.size, 2, none⟩ = some (.string sa) := cell_of_blk hA1 rfl
  have a3 : w1.cell? ⟨w.heap.size, 3, none⟩ = some (.int .u64 (la : Int)) := cell_of_blk hA1 rfl
  have b0 : w1.cell? ⟨w.heap.size + 1, 0, none⟩ = some (.int .i64 2) := cell_of_blk hB1 rfl
  have b1 : w1.cell? ⟨w.heap.size + 1, 1, none⟩ = some (.int .i64 nb) := cell_of_blk hB1 rfl
  have b2 : w1.cell? ⟨w.heap.size + 1, 2, none⟩ = some (.string sb) := cell_of_blk hB1 rfl
  have b3 : w1.cell? ⟨w.heap.size + 1, 3, none⟩ = some (.int .u64 (lb : Int)) := cell_of_blk hB1 rfl
  have HB1 : Hid (Below w.heap.size w w1) := Lib.hid (HB0.out.trans ((((Below.refl _ _).alloc (Nat.le_refl _) _).trans (hb1.mono (by simp))).mono HB0.out.size))
  have hlt1 := blk_lt hA1
  have hltb1 := blk_lt hB1
  clear hb1
  go_wp2_with fail
  refine (H3.out _).mono ?_
  rintro e w2 ⟨rfl, hb2⟩
  have hA2 := below_blk hb2 hA1
  have hB2 := below_blk hb2 hB1
  clear a0 a1 a2 a3 b0 b1 b2 b3
  have a0 : w2.cell? ⟨w.heap.size, 0, none⟩ = some (.int .i64 2) := cell_of_blk hA2 rfl
  have a1 : w2.cell? ⟨w.heap.size, 1, none⟩ = some (.int .i64 na) := cell_of_blk hA2 rfl
  have a2 : w2.cell? ⟨w.heap.size, 2, none⟩ = some (.string sa) := cell_of_blk hA2 rfl
  have a3 : w2.cell? ⟨w.heap.size, 3, none⟩ = some (.int .u64 (la : Int)) := cell_of_blk hA2 rfl
  have b0 : w2.cell? ⟨w.heap.size + 1, 0, none⟩ = some (.int .i64 2) := cell_of_blk hB2 rfl
  have b1 : w2.cell? ⟨w.heap.size + 1, 1, none⟩ = some (.int .i64 nb) := cell_of_blk hB2 rfl
  have b2 : w2.cell? ⟨w.heap.size + 1, 2, none⟩ = some (.string sb) := cell_of_blk hB2 rfl
  have b3 : w2.cell? ⟨w.heap.size + 1, 3, none⟩ = some (.int .u64 (lb : Int)) := cell_of_blk hB2 rfl
  have HB2 : Hid (Below w.heap.size w w2) := Lib.hid (HB1.out.trans ((hb2).mono HB1.out.size))
  have hlt2 := blk_lt hA2
  have hltb2 := blk_lt hB2
  go_wp2
  go_ret
  exact ⟨rfl, HB2.out⟩
set_option maxRecDepth 100000 in
set_option maxHeartbeats 1500000 in
theorem vord_b2 (na nb : Int) (sa sb : ByteArray) (la lb : Nat) (w : World) (hq : smallV [(⟨2, na, sa, la⟩ : VV), (⟨2, nb, sb, lb⟩ : VV)] = true) (ca : checkV (⟨2, na, sa, la⟩ : VV) = true) (cb : checkV (⟨2, nb, sb, lb⟩ : VV) = false) : Calls Try.prog 6 #[.agg #[.int .i64 2, .int .i64 na, .string sa, .int .u64 (la : Int)], .agg #[.int .i64 2, .int .i64 nb, .string sb, .int .u64 (lb : Int)]] w fun e w' => e = .returned (.bool true) ∧ Below w.heap.size w w' := by
  have hs := fun n c t w' h => small2_any (⟨2, na, sa, la⟩ : VV) (⟨2, nb, sb, lb⟩ : VV) n c t w' h
  rw [hq] at hs
  dsimp only at hs
  have h3 := fun w => check_any (⟨2, na, sa, la⟩ : VV) w
  have h4 := fun w => check_any (⟨2, nb, sb, lb⟩ : VV) w
  rw [ca] at h3
  rw [cb] at h4
  unfold vvCells at h3 h4
  dsimp only at h3 h4
  have H3 := Lib.hid h3
  have H4 := Lib.hid h4
  clear h3 h4
  clear ca cb
  have HS := Lib.hid hs
  clear hs hq
  go_enter Try.func6, Try.ntmps6
  go_wp2_with fail
  refine (awake03 _).mono ?_
  rintro e w0 ⟨rfl, hb0⟩
  have hA0 := below_blk hb0 (blk_alloc (heap_new_at _ _ _ rfl) _)
  have hB0 := below_blk hb0 (heap_new_at _ _ (w.heap.size + 1) (by simp))
  have a0 : w0.cell? ⟨w.heap.size, 0, none⟩ = some (.int .i64 2) := cell_of_blk hA0 rfl
  have a1 : w0.cell? ⟨w.heap.size, 1, none⟩ = some (.int .i64 na) := cell_of_blk hA0 rfl
  have a2 : w0.cell? ⟨w.heap.size, 2, none⟩ = some (.string sa) := cell_of_blk hA0 rfl
  have a3 : w0.cell? ⟨w.heap.size, 3, none⟩ = some (.int .u64 (la : Int)) := cell_of_blk hA0 rfl
  have b0 : w0.cell? ⟨w.heap.size + 1, 0, none⟩ = some (.int .i64 2) := cell_of_blk hB0 rfl
  have b1 : w0.cell? ⟨w.heap.size + 1, 1, none⟩ = some (.int .i64 nb) := cell_of_blk hB0 rfl
  have b2 : w0.cell? ⟨w.heap.size + 1, 2, none⟩ = some (.string sb) := cell_of_blk hB0 rfl
  have b3 : w0.cell? ⟨w.heap.size + 1, 3, none⟩ = some (.int .u64 (lb : Int)) := cell_of_blk hB0 rfl
  have hlt := blk_lt hB0
  have hlt0 : w.heap.size < w0.heap.size := by omega
  have HB0 : Hid (Below w.heap.size w w0) := Lib.hid ((((Below.refl _ _).alloc (Nat.le_refl _) _).alloc (by simp) _).trans (hb0.mono (by simp; omega)))
  have HA0 := Lib.hid hA0
  have HBB0 := Lib.hid hB0
  clear hb0 hA0 hB0
  go_wp2_with fail
  refine (HS.out _ _ _ _ (heap_alloc_new _ _)).mono ?_
  rintro e w1 ⟨rfl, hb1⟩
  have hA1 := below_blk hb1 (blk_alloc HA0.out _)
  have hB1 := below_blk hb1 (blk_alloc HBB0.out _)
  clear a0 a1 a2 a3 b0 b1 b2 b3
  have a0 : w1.cell? ⟨w.heap.size, 0, none⟩ = some (.int .i64 2) := cell_of_blk hA1 rfl
  have a1 : w1.cell? ⟨w.heap.size, 1, none⟩ = some (.int .i64 na) := cell_of_blk hA1 rfl
  have a2 : w1.cell? ⟨w.heap.size, 2, none⟩ = some (.string sa) := cell_of_blk hA1 rfl
  have a3 : w1.cell? ⟨w.heap.size, 3, none⟩ = some (.int .u64 (la : Int)) := cell_of_blk hA1 rfl
  have b0 : w1.cell? ⟨w.heap.size + 1, 0, none⟩ = some (.int .i64 2) := cell_of_blk hB1 rfl
  have b1 : w1.cell? ⟨w.heap.size + 1, 1, none⟩ = some (.int .i64 nb) := cell_of_blk hB1 rfl
  have b2 : w1.cell? ⟨w.heap.size + 1, 2, none⟩ = some (.string sb) := cell_of_blk hB1 rfl
  have b3 : w1.cell? ⟨w.heap.size + 1, 3, none⟩ = some (.int .u64 (lb : Int)) := cell_of_blk hB1 rfl
  have HB1 : Hid (Below w.heap.size w w1) := Lib.hid (HB0.out.trans ((((Below.refl _ _).alloc (Nat.le_refl _) _).trans (hb1.mono (by simp))).mono HB0.out.size))
  have hlt1 := blk_lt hA1
  have hltb1 := blk_lt hB1
  clear hb1
  go_wp2_with fail
  refine (H3.out _).mono ?_
  rintro e w2 ⟨rfl, hb2⟩
  have hA2 := below_blk hb2 hA1
  have hB2 := below_blk hb2 hB1
  clear a0 a1 a2 a3 b0 b1 b2 b3
  have a0 : w2.cell? ⟨w.heap.size, 0, none⟩ = some (.int .i64 2) := cell_of_blk hA2 rfl
  have a1 : w2.cell? ⟨w.heap.size, 1, none⟩ = some (.int .i64 na) := cell_of_blk hA2 rfl
  have a2 : w2.cell? ⟨w.heap.size, 2, none⟩ = some (.string sa) := cell_of_blk hA2 rfl
  have a3 : w2.cell? ⟨w.heap.size, 3, none⟩ = some (.int .u64 (la : Int)) := cell_of_blk hA2 rfl
  have b0 : w2.cell? ⟨w.heap.size + 1, 0, none⟩ = some (.int .i64 2) := cell_of_blk hB2 rfl
  have b1 : w2.cell? ⟨w.heap.size + 1, 1, none⟩ = some (.int .i64 nb) := cell_of_blk hB2 rfl
  have b2 : w2.cell? ⟨w.heap.size + 1, 2, none⟩ = some (.string sb) := cell_of_blk hB2 rfl
  have b3 : w2.cell? ⟨w.heap.size + 1, 3, none⟩ = some (.int .u64 (lb : Int)) := cell_of_blk hB2 rfl
  have HB2 : Hid (Below w.heap.size w w2) := Lib.hid (HB1.out.trans ((hb2).mono HB1.out.size))
  have hlt2 := blk_lt hA2
  have hltb2 := blk_lt hB2
  clear hb2
  go_wp2_with fail
  refine (H4.out _).mono ?_
  rintro e w3 ⟨rfl, hb3⟩
  have hA3 := below_blk hb3 hA2
  have hB3 := below_blk hb3 hB2
  clear a0 a1 a2 a3 b0 b1 b2 b3
  have a0 : w3.cell? ⟨w.heap.size, 0, none⟩ = some (.int .i64 2) := cell_of_blk hA3 rfl
  have a1 : w3.cell? ⟨w.heap.size, 1, none⟩ = some (.int .i64 na) := cell_of_blk hA3 rfl
  have a2 : w3.cell? ⟨w.heap.size, 2, none⟩ = some (.string sa) := cell_of_blk hA3 rfl
  have a3 : w3.cell? ⟨w.heap.size, 3, none⟩ = some (.int .u64 (la : Int)) := cell_of_blk hA3 rfl
  have b0 : w3.cell? ⟨w.heap.size + 1, 0, none⟩ = some (.int .i64 2) := cell_of_blk hB3 rfl
  have b1 : w3.cell? ⟨w.heap.size + 1, 1, none⟩ = some (.int .i64 nb) := cell_of_blk hB3 rfl
  have b2 : w3.cell? ⟨w.heap.size + 1, 2, none⟩ = some (.string sb) := cell_of_blk hB3 rfl
  have b3 : w3.cell? ⟨w.heap.size + 1, 3, none⟩ = some (.int .u64 (lb : Int)) := cell_of_blk hB3 rfl
  have HB3 : Hid (Below w.heap.size w w3) := Lib.hid (HB2.out.trans ((hb3).mono HB2.out.size))
  have hlt3 := blk_lt hA3
  have hltb3 := blk_lt hB3
  go_wp2
  go_ret
  exact ⟨rfl, HB3.out⟩
set_option maxRecDepth 100000 in
set_option maxHeartbeats 1500000 in
theorem vord_m2 (na nb : Int) (sa sb : ByteArray) (la lb : Nat) (w : World) {H : Type} {d0 d1 : DataW H} (hq : smallV [(⟨2, na, sa, la⟩ : VV), (⟨2, nb, sb, lb⟩ : VV)] = true) (ca : checkV (⟨2, na, sa, la⟩ : VV) = true) (cb : checkV (⟨2, nb, sb, lb⟩ : VV) = true) (va : VVOk (⟨2, na, sa, la⟩ : VV) d0) (vb : VVOk (⟨2, nb, sb, lb⟩ : VV) d1) : Calls Try.prog 6 #[.agg #[.int .i64 2, .int .i64 na, .string sa, .int .u64 (la : Int)], .agg #[.int .i64 2, .int .i64 nb, .string sb, .int .u64 (lb : Int)]] w fun e w' => e = .returned (.bool true) ∧ Below w.heap.size w w' := by
  have hs := fun n c t w' h => small2_any (⟨2, na, sa, la⟩ : VV) (⟨2, nb, sb, lb⟩ : VV) n c t w' h
  rw [hq] at hs
  dsimp only at hs
  have hO := orders_int (⟨2, na, sa, la⟩ : VV) (⟨2, nb, sb, lb⟩ : VV) (by rfl) (by rfl) ca cb
  obtain ⟨y1, y2, y3, htri⟩ := hO
  have y1 : (doV 6 (⟨2, na, sa, la⟩ : VV) (⟨2, nb, sb, lb⟩ : VV)).2 = ⟨#[]⟩ := y1
  have y2 : (doV 6 (⟨2, nb, sb, lb⟩ : VV) (⟨2, na, sa, la⟩ : VV)).2 = ⟨#[]⟩ := y2
  have y3 : (doV 7 (⟨2, na, sa, la⟩ : VV) (⟨2, nb, sb, lb⟩ : VV)).2 = ⟨#[]⟩ := y3
  have hsz := small2_le hq
  have h5 := fun w => vdo_any 6 (⟨2, na, sa, la⟩ : VV) (⟨2, nb, sb, lb⟩ : VV) w va.1 vb.1 hsz va.2 vb.2
  have h6 := fun w => vdo_any 6 (⟨2, nb, sb, lb⟩ : VV) (⟨2, na, sa, la⟩ : VV) w vb.1 va.1 (by omega) vb.2 va.2
  have h7 := fun w => vdo_any 7 (⟨2, na, sa, la⟩ : VV) (⟨2, nb, sb, lb⟩ : VV) w va.1 vb.1 hsz va.2 vb.2
  have h8 := fun w => same_any (⟨2, na, sa, la⟩ : VV) (⟨2, nb, sb, lb⟩ : VV) w
  rw [y1] at h5
  rw [y2] at h6
  rw [y3] at h7
  clear y1 y2 y3 hsz va vb
  have h3 := fun w => check_any (⟨2, na, sa, la⟩ : VV) w
  have h4 := fun w => check_any (⟨2, nb, sb, lb⟩ : VV) w
  rw [ca] at h3
  rw [cb] at h4
  unfold vvCells at h3 h4
  dsimp only at h3 h4
  have H3 := Lib.hid h3
  have H4 := Lib.hid h4
  clear h3 h4
  generalize (doV 6 (⟨2, na, sa, la⟩ : VV) (⟨2, nb, sb, lb⟩ : VV)).1 = X at h5 htri
  generalize (doV 6 (⟨2, nb, sb, lb⟩ : VV) (⟨2, na, sa, la⟩ : VV)).1 = Y at h6 htri
  generalize (doV 7 (⟨2, na, sa, la⟩ : VV) (⟨2, nb, sb, lb⟩ : VV)).1 = Z at h7 htri
  generalize sameV (⟨2, na, sa, la⟩ : VV) (⟨2, nb, sb, lb⟩ : VV) = M at h8 htri
  obtain ⟨xk, xn, xs, xl⟩ := X
  obtain ⟨yk, yn, ys, yl⟩ := Y
  obtain ⟨zk, zn, zs, zl⟩ := Z
  unfold vvCells at h5 h6 h7 h8
  dsimp only at h5 h6 h7 h8
  simp only at htri
  clear ca cb
  rcases htri with ⟨rfl, rfl, rfl, rfl⟩ | ⟨rfl, rfl, rfl, rfl⟩ | ⟨rfl, rfl, rfl, rfl⟩
  all_goals
    have H5 := Lib.hid h5
    have H6 := Lib.hid h6
    have H7 := Lib.hid h7
    have H8 := Lib.hid h8
    clear h5 h6 h7 h8
    have HS := Lib.hid hs
    clear hs hq
    go_enter Try.func6, Try.ntmps6
    go_wp2_with fail
    refine (awake03 _).mono ?_
    rintro e w0 ⟨rfl, hb0⟩
    have hA0 := below_blk hb0 (blk_alloc (heap_new_at _ _ _ rfl) _)
    have hB0 := below_blk hb0 (heap_new_at _ _ (w.heap.size + 1) (by simp))
    have a0 : w0.cell? ⟨w.heap.size, 0, none⟩ = some (.int .i64 2) := cell_of_blk hA0 rfl
    have a1 : w0.cell? ⟨w.heap.size, 1, none⟩ = some (.int .i64 na) := cell_of_blk hA0 rfl
    have a2 : w0.cell? ⟨w.heap.size, 2, none⟩ = some (.string sa) := cell_of_blk hA0 rfl
    have a3 : w0.cell? ⟨w.heap.size, 3, none⟩ = some (.int .u64 (la : Int)) := cell_of_blk hA0 rfl
    have b0 : w0.cell? ⟨w.heap.size + 1, 0, none⟩ = some (.int .i64 2) := cell_of_blk hB0 rfl
    have b1 : w0.cell? ⟨w.heap.size + 1, 1, none⟩ = some (.int .i64 nb) := cell_of_blk hB0 rfl
    have b2 : w0.cell? ⟨w.heap.size + 1, 2, none⟩ = some (.string sb) := cell_of_blk hB0 rfl
    have b3 : w0.cell? ⟨w.heap.size + 1, 3, none⟩ = some (.int .u64 (lb : Int)) := cell_of_blk hB0 rfl
    have hlt := blk_lt hB0
    have hlt0 : w.heap.size < w0.heap.size := by omega
    have HB0 : Hid (Below w.heap.size w w0) := Lib.hid ((((Below.refl _ _).alloc (Nat.le_refl _) _).alloc (by simp) _).trans (hb0.mono (by simp; omega)))
    have HA0 := Lib.hid hA0
    have HBB0 := Lib.hid hB0
    clear hb0 hA0 hB0
    go_wp2_with fail
    refine (HS.out _ _ _ _ (heap_alloc_new _ _)).mono ?_
    rintro e w1 ⟨rfl, hb1⟩
    have hA1 := below_blk hb1 (blk_alloc HA0.out _)
    have hB1 := below_blk hb1 (blk_alloc HBB0.out _)
    clear a0 a1 a2 a3 b0 b1 b2 b3
    have a0 : w1.cell? ⟨w.heap.size, 0, none⟩ = some (.int .i64 2) := cell_of_blk hA1 rfl
    have a1 : w1.cell? ⟨w.heap.size, 1, none⟩ = some (.int .i64 na) := cell_of_blk hA1 rfl
    have a2 : w1.cell? ⟨w.heap.size, 2, none⟩ = some (.string sa) := cell_of_blk hA1 rfl
    have a3 : w1.cell? ⟨w.heap.size, 3, none⟩ = some (.int .u64 (la : Int)) := cell_of_blk hA1 rfl
    have b0 : w1.cell? ⟨w.heap.size + 1, 0, none⟩ = some (.int .i64 2) := cell_of_blk hB1 rfl
    have b1 : w1.cell? ⟨w.heap.size + 1, 1, none⟩ = some (.int .i64 nb) := cell_of_blk hB1 rfl
    have b2 : w1.cell? ⟨w.heap.size + 1, 2, none⟩ = some (.string sb) := cell_of_blk hB1 rfl
    have b3 : w1.cell? ⟨w.heap.size + 1, 3, none⟩ = some (.int .u64 (lb : Int)) := cell_of_blk hB1 rfl
    have HB1 : Hid (Below w.heap.size w w1) := Lib.hid (HB0.out.trans ((((Below.refl _ _).alloc (Nat.le_refl _) _).trans (hb1.mono (by simp))).mono HB0.out.size))
    have hlt1 := blk_lt hA1
    have hltb1 := blk_lt hB1
    clear hb1
    go_wp2_with fail
    refine (H3.out _).mono ?_
    rintro e w2 ⟨rfl, hb2⟩
    have hA2 := below_blk hb2 hA1
    have hB2 := below_blk hb2 hB1
    clear a0 a1 a2 a3 b0 b1 b2 b3
    have a0 : w2.cell? ⟨w.heap.size, 0, none⟩ = some (.int .i64 2) := cell_of_blk hA2 rfl
    have a1 : w2.cell? ⟨w.heap.size, 1, none⟩ = some (.int .i64 na) := cell_of_blk hA2 rfl
    have a2 : w2.cell? ⟨w.heap.size, 2, none⟩ = some (.string sa) := cell_of_blk hA2 rfl
    have a3 : w2.cell? ⟨w.heap.size, 3, none⟩ = some (.int .u64 (la : Int)) := cell_of_blk hA2 rfl
    have b0 : w2.cell? ⟨w.heap.size + 1, 0, none⟩ = some (.int .i64 2) := cell_of_blk hB2 rfl
    have b1 : w2.cell? ⟨w.heap.size + 1, 1, none⟩ = some (.int .i64 nb) := cell_of_blk hB2 rfl
    have b2 : w2.cell? ⟨w.heap.size + 1, 2, none⟩ = some (.string sb) := cell_of_blk hB2 rfl
    have b3 : w2.cell? ⟨w.heap.size + 1, 3, none⟩ = some (.int .u64 (lb : Int)) := cell_of_blk hB2 rfl
    have HB2 : Hid (Below w.heap.size w w2) := Lib.hid (HB1.out.trans ((hb2).mono HB1.out.size))
    have hlt2 := blk_lt hA2
    have hltb2 := blk_lt hB2
    clear hb2
    go_wp2_with fail
    refine (H4.out _).mono ?_
    rintro e w3 ⟨rfl, hb3⟩
    have hA3 := below_blk hb3 hA2
    have hB3 := below_blk hb3 hB2
    clear a0 a1 a2 a3 b0 b1 b2 b3
    have a0 : w3.cell? ⟨w.heap.size, 0, none⟩ = some (.int .i64 2) := cell_of_blk hA3 rfl
    have a1 : w3.cell? ⟨w.heap.size, 1, none⟩ = some (.int .i64 na) := cell_of_blk hA3 rfl
    have a2 : w3.cell? ⟨w.heap.size, 2, none⟩ = some (.string sa) := cell_of_blk hA3 rfl
    have a3 : w3.cell? ⟨w.heap.size, 3, none⟩ = some (.int .u64 (la : Int)) := cell_of_blk hA3 rfl
    have b0 : w3.cell? ⟨w.heap.size + 1, 0, none⟩ = some (.int .i64 2) := cell_of_blk hB3 rfl
    have b1 : w3.cell? ⟨w.heap.size + 1, 1, none⟩ = some (.int .i64 nb) := cell_of_blk hB3 rfl
    have b2 : w3.cell? ⟨w.heap.size + 1, 2, none⟩ = some (.string sb) := cell_of_blk hB3 rfl
    have b3 : w3.cell? ⟨w.heap.size + 1, 3, none⟩ = some (.int .u64 (lb : Int)) := cell_of_blk hB3 rfl
    have HB3 : Hid (Below w.heap.size w w3) := Lib.hid (HB2.out.trans ((hb3).mono HB2.out.size))
    have hlt3 := blk_lt hA3
    have hltb3 := blk_lt hB3
    clear hb3
    go_wp2_with fail
    refine (H5.out _).mono ?_
    rintro e w4 ⟨rfl, hb4⟩
    have hA4 := below_blk hb4 hA3
    have hB4 := below_blk hb4 hB3
    clear a0 a1 a2 a3 b0 b1 b2 b3
    have a0 : w4.cell? ⟨w.heap.size, 0, none⟩ = some (.int .i64 2) := cell_of_blk hA4 rfl
    have a1 : w4.cell? ⟨w.heap.size, 1, none⟩ = some (.int .i64 na) := cell_of_blk hA4 rfl
    have a2 : w4.cell? ⟨w.heap.size, 2, none⟩ = some (.string sa) := cell_of_blk hA4 rfl
    have a3 : w4.cell? ⟨w.heap.size, 3, none⟩ = some (.int .u64 (la : Int)) := cell_of_blk hA4 rfl
    have b0 : w4.cell? ⟨w.heap.size + 1, 0, none⟩ = some (.int .i64 2) := cell_of_blk hB4 rfl
    have b1 : w4.cell? ⟨w.heap.size + 1, 1, none⟩ = some (.int .i64 nb) := cell_of_blk hB4 rfl
    have b2 : w4.cell? ⟨w.heap.size + 1, 2, none⟩ = some (.string sb) := cell_of_blk hB4 rfl
    have b3 : w4.cell? ⟨w.heap.size + 1, 3, none⟩ = some (.int .u64 (lb : Int)) := cell_of_blk hB4 rfl
    have HB4 : Hid (Below w.heap.size w w4) := Lib.hid (HB3.out.trans ((hb4).mono HB3.out.size))
    have hlt4 := blk_lt hA4
    have hltb4 := blk_lt hB4
    clear hb4
    go_wp2_with fail
    refine (H6.out _).mono ?_
    rintro e w5 ⟨rfl, hb5⟩
    have hA5 := below_blk hb5 (blk_alloc hA4 _)
    have hB5 := below_blk hb5 (blk_alloc hB4 _)
    clear a0 a1 a2 a3 b0 b1 b2 b3
    have a0 : w5.cell? ⟨w.heap.size, 0, none⟩ = some (.int .i64 2) := cell_of_blk hA5 rfl
    have a1 : w5.cell? ⟨w.heap.size, 1, none⟩ = some (.int .i64 na) := cell_of_blk hA5 rfl
    have a2 : w5.cell? ⟨w.heap.size, 2, none⟩ = some (.string sa) := cell_of_blk hA5 rfl
    have a3 : w5.cell? ⟨w.heap.size, 3, none⟩ = some (.int .u64 (la : Int)) := cell_of_blk hA5 rfl
    have b0 : w5.cell? ⟨w.heap.size + 1, 0, none⟩ = some (.int .i64 2) := cell_of_blk hB5 rfl
    have b1 : w5.cell? ⟨w.heap.size + 1, 1, none⟩ = some (.int .i64 nb) := cell_of_blk hB5 rfl
    have b2 : w5.cell? ⟨w.heap.size + 1, 2, none⟩ = some (.string sb) := cell_of_blk hB5 rfl
    have b3 : w5.cell? ⟨w.heap.size + 1, 3, none⟩ = some (.int .u64 (lb : Int)) := cell_of_blk hB5 rfl
    have HB5 : Hid (Below w.heap.size w w5) := Lib.hid (HB4.out.trans ((((Below.refl _ _).alloc (Nat.le_refl _) _).trans (hb5.mono (by simp))).mono HB4.out.size))
    have hlt5 := blk_lt hA5
    have hltb5 := blk_lt hB5
    have hV5 := below_blk hb5 (heap_alloc_new _ _)
    clear hb5
    go_wp2_with fail
    refine (H7.out _).mono ?_
    rintro e w6 ⟨rfl, hb6⟩
    have hA6 := below_blk hb6 (blk_alloc hA5 _)
    have hB6 := below_blk hb6 (blk_alloc hB5 _)
    clear a0 a1 a2 a3 b0 b1 b2 b3
    have a0 : w6.cell? ⟨w.heap.size, 0, none⟩ = some (.int .i64 2) := cell_of_blk hA6 rfl
    have a1 : w6.cell? ⟨w.heap.size, 1, none⟩ = some (.int .i64 na) := cell_of_blk hA6 rfl
    have a2 : w6.cell? ⟨w.heap.size, 2, none⟩ = some (.string sa) := cell_of_blk hA6 rfl
    have a3 : w6.cell? ⟨w.heap.size, 3, none⟩ = some (.int .u64 (la : Int)) := cell_of_blk hA6 rfl
    have b0 : w6.cell? ⟨w.heap.size + 1, 0, none⟩ = some (.int .i64 2) := cell_of_blk hB6 rfl
    have b1 : w6.cell? ⟨w.heap.size + 1, 1, none⟩ = some (.int .i64 nb) := cell_of_blk hB6 rfl
    have b2 : w6.cell? ⟨w.heap.size + 1, 2, none⟩ = some (.string sb) := cell_of_blk hB6 rfl
    have b3 : w6.cell? ⟨w.heap.size + 1, 3, none⟩ = some (.int .u64 (lb : Int)) := cell_of_blk hB6 rfl
    have HB6 : Hid (Below w.heap.size w w6) := Lib.hid (HB5.out.trans ((((Below.refl _ _).alloc (Nat.le_refl _) _).trans (hb6.mono (by simp))).mono HB5.out.size))
    have hlt6 := blk_lt hA6
    have hltb6 := blk_lt hB6
    have hV6 := below_blk hb6 (blk_alloc hV5 _)
    have hU6 := below_blk hb6 (heap_alloc_new _ _)
    clear hb6
    have v1 : w6.cell? ⟨w4.heap.size, 1, none⟩ = some (.int .i64 _) := cell_of_blk hV6 rfl
    have u1 : w6.cell? ⟨w5.heap.size, 1, none⟩ = some (.int .i64 _) := cell_of_blk hU6 rfl
    have hlv := blk_lt hV6
    have hlu := blk_lt hU6
    go_wp2_with fail
    refine (H8.out _).mono ?_
    rintro e w7 ⟨rfl, hb7⟩
    have hA7 := below_blk hb7 (blk_alloc hA6 _)
    have hB7 := below_blk hb7 (blk_alloc hB6 _)
    clear a0 a1 a2 a3 b0 b1 b2 b3
    have a0 : w7.cell? ⟨w.heap.size, 0, none⟩ = some (.int .i64 2) := cell_of_blk hA7 rfl
    have a1 : w7.cell? ⟨w.heap.size, 1, none⟩ = some (.int .i64 na) := cell_of_blk hA7 rfl
    have a2 : w7.cell? ⟨w.heap.size, 2, none⟩ = some (.string sa) := cell_of_blk hA7 rfl
    have a3 : w7.cell? ⟨w.heap.size, 3, none⟩ = some (.int .u64 (la : Int)) := cell_of_blk hA7 rfl
    have b0 : w7.cell? ⟨w.heap.size + 1, 0, none⟩ = some (.int .i64 2) := cell_of_blk hB7 rfl
    have b1 : w7.cell? ⟨w.heap.size + 1, 1, none⟩ = some (.int .i64 nb) := cell_of_blk hB7 rfl
    have b2 : w7.cell? ⟨w.heap.size + 1, 2, none⟩ = some (.string sb) := cell_of_blk hB7 rfl
    have b3 : w7.cell? ⟨w.heap.size + 1, 3, none⟩ = some (.int .u64 (lb : Int)) := cell_of_blk hB7 rfl
    have HB7 : Hid (Below w.heap.size w w7) := Lib.hid (HB6.out.trans ((((Below.refl _ _).alloc (Nat.le_refl _) _).trans (hb7.mono (by simp))).mono HB6.out.size))
    have hlt7 := blk_lt hA7
    have hltb7 := blk_lt hB7
    have hV7 := below_blk hb7 (blk_alloc hV6 _)
    have hU7 := below_blk hb7 (blk_alloc hU6 _)
    have hT7 := below_blk hb7 (heap_alloc_new _ _)
    clear hb7
    clear v1 u1
    have v1 : w7.cell? ⟨w4.heap.size, 1, none⟩ = some (.int .i64 _) := cell_of_blk hV7 rfl
    have u1 : w7.cell? ⟨w5.heap.size, 1, none⟩ = some (.int .i64 _) := cell_of_blk hU7 rfl
    have t1 : w7.cell? ⟨w6.heap.size, 1, none⟩ = some (.int .i64 _) := cell_of_blk hT7 rfl
    have hlv7 := blk_lt hV7
    have hlu7 := blk_lt hU7
    have hlt7' := blk_lt hT7
    go_wp2
    go_ret
    exact ⟨rfl, HB7.out⟩
set_option maxRecDepth 100000 in
set_option maxHeartbeats 1500000 in
theorem vord_a3 (na nb : Int) (sa sb : ByteArray) (la lb : Nat) (w : World) (hq : smallV [(⟨3, na, sa, la⟩ : VV), (⟨3, nb, sb, lb⟩ : VV)] = true) (ca : checkV (⟨3, na, sa, la⟩ : VV) = false) : Calls Try.prog 6 #[.agg #[.int .i64 3, .int .i64 na, .string sa, .int .u64 (la : Int)], .agg #[.int .i64 3, .int .i64 nb, .string sb, .int .u64 (lb : Int)]] w fun e w' => e = .returned (.bool true) ∧ Below w.heap.size w w' := by
  have hs := fun n c t w' h => small2_any (⟨3, na, sa, la⟩ : VV) (⟨3, nb, sb, lb⟩ : VV) n c t w' h
  rw [hq] at hs
  dsimp only at hs
  have h3 := fun w => check_any (⟨3, na, sa, la⟩ : VV) w
  rw [ca] at h3
  unfold vvCells at h3
  dsimp only at h3
  have H3 := Lib.hid h3
  clear h3
  clear ca
  have HS := Lib.hid hs
  clear hs hq
  go_enter Try.func6, Try.ntmps6
  go_wp2_with fail
  refine (awake03 _).mono ?_
  rintro e w0 ⟨rfl, hb0⟩
  have hA0 := below_blk hb0 (blk_alloc (heap_new_at _ _ _ rfl) _)
  have hB0 := below_blk hb0 (heap_new_at _ _ (w.heap.size + 1) (by simp))
  have a0 : w0.cell? ⟨w.heap.size, 0, none⟩ = some (.int .i64 3) := cell_of_blk hA0 rfl
  have a1 : w0.cell? ⟨w.heap.size, 1, none⟩ = some (.int .i64 na) := cell_of_blk hA0 rfl
  have a2 : w0.cell? ⟨w.heap.size, 2, none⟩ = some (.string sa) := cell_of_blk hA0 rfl
  have a3 : w0.cell? ⟨w.heap.size, 3, none⟩ = some (.int .u64 (la : Int)) := cell_of_blk hA0 rfl
  have b0 : w0.cell? ⟨w.heap.size + 1, 0, none⟩ = some (.int .i64 3) := cell_of_blk hB0 rfl
  have b1 : w0.cell? ⟨w.heap.size + 1, 1, none⟩ = some (.int .i64 nb) := cell_of_blk hB0 rfl
  have b2 : w0.cell? ⟨w.heap.size + 1, 2, none⟩ = some (.string sb) := cell_of_blk hB0 rfl
  have b3 : w0.cell? ⟨w.heap.size + 1, 3, none⟩ = some (.int .u64 (lb : Int)) := cell_of_blk hB0 rfl
  have hlt := blk_lt hB0
  have hlt0 : w.heap.size < w0.heap.size := by omega
  have HB0 : Hid (Below w.heap.size w w0) := Lib.hid ((((Below.refl _ _).alloc (Nat.le_refl _) _).alloc (by simp) _).trans (hb0.mono (by simp; omega)))
  have HA0 := Lib.hid hA0
  have HBB0 := Lib.hid hB0
  clear hb0 hA0 hB0
  go_wp2_with fail
  refine (HS.out _ _ _ _ (heap_alloc_new _ _)).mono ?_
  rintro e w1 ⟨rfl, hb1⟩
  have hA1 := below_blk hb1 (blk_alloc HA0.out _)
  have hB1 := below_blk hb1 (blk_alloc HBB0.out _)
  clear a0 a1 a2 a3 b0 b1 b2 b3
  have a0 : w1.cell? ⟨w.heap.size, 0, none⟩ = some (.int .i64 3) := cell_of_blk hA1 rfl
  have a1 : w1.cell? ⟨w.heap.size, 1, none⟩ = some (.int .i64 na) := cell_of_blk hA1 rfl
  have a2 : w1.cell? ⟨w.heap.size, 2, none⟩ = some (.string sa) := cell_of_blk hA1 rfl
  have a3 : w1.cell? ⟨w.heap.size, 3, none⟩ = some (.int .u64 (la : Int)) := cell_of_blk hA1 rfl
  have b0 : w1.cell? ⟨w.heap.size + 1, 0, none⟩ = some (.int .i64 3) := cell_of_blk hB1 rfl
  have b1 : w1.cell? ⟨w.heap.size + 1, 1, none⟩ = some (.int .i64 nb) := cell_of_blk hB1 rfl
  have b2 : w1.cell? ⟨w.heap.size + 1, 2, none⟩ = some (.string sb) := cell_of_blk hB1 rfl
  have b3 : w1.cell? ⟨w.heap.size + 1, 3, none⟩ = some (.int .u64 (lb : Int)) := cell_of_blk hB1 rfl
  have HB1 : Hid (Below w.heap.size w w1) := Lib.hid (HB0.out.trans ((((Below.refl _ _).alloc (Nat.le_refl _) _).trans (hb1.mono (by simp))).mono HB0.out.size))
  have hlt1 := blk_lt hA1
  have hltb1 := blk_lt hB1
  clear hb1
  go_wp2_with fail
  refine (H3.out _).mono ?_
  rintro e w2 ⟨rfl, hb2⟩
  have hA2 := below_blk hb2 hA1
  have hB2 := below_blk hb2 hB1
  clear a0 a1 a2 a3 b0 b1 b2 b3
  have a0 : w2.cell? ⟨w.heap.size, 0, none⟩ = some (.int .i64 3) := cell_of_blk hA2 rfl
  have a1 : w2.cell? ⟨w.heap.size, 1, none⟩ = some (.int .i64 na) := cell_of_blk hA2 rfl
  have a2 : w2.cell? ⟨w.heap.size, 2, none⟩ = some (.string sa) := cell_of_blk hA2 rfl
  have a3 : w2.cell? ⟨w.heap.size, 3, none⟩ = some (.int .u64 (la : Int)) := cell_of_blk hA2 rfl
  have b0 : w2.cell? ⟨w.heap.size + 1, 0, none⟩ = some (.int .i64 3) := cell_of_blk hB2 rfl
  have b1 : w2.cell? ⟨w.heap.size + 1, 1, none⟩ = some (.int .i64 nb) := cell_of_blk hB2 rfl
  have b2 : w2.cell? ⟨w.heap.size + 1, 2, none⟩ = some (.string sb) := cell_of_blk hB2 rfl
  have b3 : w2.cell? ⟨w.heap.size + 1, 3, none⟩ = some (.int .u64 (lb : Int)) := cell_of_blk hB2 rfl
  have HB2 : Hid (Below w.heap.size w w2) := Lib.hid (HB1.out.trans ((hb2).mono HB1.out.size))
  have hlt2 := blk_lt hA2
  have hltb2 := blk_lt hB2
  go_wp2
  go_ret
  exact ⟨rfl, HB2.out⟩
set_option maxRecDepth 100000 in
set_option maxHeartbeats 1500000 in
theorem vord_b3 (na nb : Int) (sa sb : ByteArray) (la lb : Nat) (w : World) (hq : smallV [(⟨3, na, sa, la⟩ : VV), (⟨3, nb, sb, lb⟩ : VV)] = true) (ca : checkV (⟨3, na, sa, la⟩ : VV) = true) (cb : checkV (⟨3, nb, sb, lb⟩ : VV) = false) : Calls Try.prog 6 #[.agg #[.int .i64 3, .int .i64 na, .string sa, .int .u64 (la : Int)], .agg #[.int .i64 3, .int .i64 nb, .string sb, .int .u64 (lb : Int)]] w fun e w' => e = .returned (.bool true) ∧ Below w.heap.size w w' := by
  have hs := fun n c t w' h => small2_any (⟨3, na, sa, la⟩ : VV) (⟨3, nb, sb, lb⟩ : VV) n c t w' h
  rw [hq] at hs
  dsimp only at hs
  have h3 := fun w => check_any (⟨3, na, sa, la⟩ : VV) w
  have h4 := fun w => check_any (⟨3, nb, sb, lb⟩ : VV) w
  rw [ca] at h3
  rw [cb] at h4
  unfold vvCells at h3 h4
  dsimp only at h3 h4
  have H3 := Lib.hid h3
  have H4 := Lib.hid h4
  clear h3 h4
  clear ca cb
  have HS := Lib.hid hs
  clear hs hq
  go_enter Try.func6, Try.ntmps6
  go_wp2_with fail
  refine (awake03 _).mono ?_
  rintro e w0 ⟨rfl, hb0⟩
  have hA0 := below_blk hb0 (blk_alloc (heap_new_at _ _ _ rfl) _)
  have hB0 := below_blk hb0 (heap_new_at _ _ (w.heap.size + 1) (by simp))
  have a0 : w0.cell? ⟨w.heap.size, 0, none⟩ = some (.int .i64 3) := cell_of_blk hA0 rfl
  have a1 : w0.cell? ⟨w.heap.size, 1, none⟩ = some (.int .i64 na) := cell_of_blk hA0 rfl
  have a2 : w0.cell? ⟨w.heap.size, 2, none⟩ = some (.string sa) := cell_of_blk hA0 rfl
  have a3 : w0.cell? ⟨w.heap.size, 3, none⟩ = some (.int .u64 (la : Int)) := cell_of_blk hA0 rfl
  have b0 : w0.cell? ⟨w.heap.size + 1, 0, none⟩ = some (.int .i64 3) := cell_of_blk hB0 rfl
  have b1 : w0.cell? ⟨w.heap.size + 1, 1, none⟩ = some (.int .i64 nb) := cell_of_blk hB0 rfl
  have b2 : w0.cell? ⟨w.heap.size + 1, 2, none⟩ = some (.string sb) := cell_of_blk hB0 rfl
  have b3 : w0.cell? ⟨w.heap.size + 1, 3, none⟩ = some (.int .u64 (lb : Int)) := cell_of_blk hB0 rfl
  have hlt := blk_lt hB0
  have hlt0 : w.heap.size < w0.heap.size := by omega
  have HB0 : Hid (Below w.heap.size w w0) := Lib.hid ((((Below.refl _ _).alloc (Nat.le_refl _) _).alloc (by simp) _).trans (hb0.mono (by simp; omega)))
  have HA0 := Lib.hid hA0
  have HBB0 := Lib.hid hB0
  clear hb0 hA0 hB0
  go_wp2_with fail
  refine (HS.out _ _ _ _ (heap_alloc_new _ _)).mono ?_
  rintro e w1 ⟨rfl, hb1⟩
  have hA1 := below_blk hb1 (blk_alloc HA0.out _)
  have hB1 := below_blk hb1 (blk_alloc HBB0.out _)
  clear a0 a1 a2 a3 b0 b1 b2 b3
  have a0 : w1.cell? ⟨w.heap.size, 0, none⟩ = some (.int .i64 3) := cell_of_blk hA1 rfl
  have a1 : w1.cell? ⟨w.heap.size, 1, none⟩ = some (.int .i64 na) := cell_of_blk hA1 rfl
  have a2 : w1.cell? ⟨w.heap.size, 2, none⟩ = some (.string sa) := cell_of_blk hA1 rfl
  have a3 : w1.cell? ⟨w.heap.size, 3, none⟩ = some (.int .u64 (la : Int)) := cell_of_blk hA1 rfl
  have b0 : w1.cell? ⟨w.heap.size + 1, 0, none⟩ = some (.int .i64 3) := cell_of_blk hB1 rfl
  have b1 : w1.cell? ⟨w.heap.size + 1, 1, none⟩ = some (.int .i64 nb) := cell_of_blk hB1 rfl
  have b2 : w1.cell? ⟨w.heap.size + 1, 2, none⟩ = some (.string sb) := cell_of_blk hB1 rfl
  have b3 : w1.cell? ⟨w.heap.size + 1, 3, none⟩ = some (.int .u64 (lb : Int)) := cell_of_blk hB1 rfl
  have HB1 : Hid (Below w.heap.size w w1) := Lib.hid (HB0.out.trans ((((Below.refl _ _).alloc (Nat.le_refl _) _).trans (hb1.mono (by simp))).mono HB0.out.size))
  have hlt1 := blk_lt hA1
  have hltb1 := blk_lt hB1
  clear hb1
  go_wp2_with fail
  refine (H3.out _).mono ?_
  rintro e w2 ⟨rfl, hb2⟩
  have hA2 := below_blk hb2 hA1
  have hB2 := below_blk hb2 hB1
  clear a0 a1 a2 a3 b0 b1 b2 b3
  have a0 : w2.cell? ⟨w.heap.size, 0, none⟩ = some (.int .i64 3) := cell_of_blk hA2 rfl
  have a1 : w2.cell? ⟨w.heap.size, 1, none⟩ = some (.int .i64 na) := cell_of_blk hA2 rfl
  have a2 : w2.cell? ⟨w.heap.size, 2, none⟩ = some (.string sa) := cell_of_blk hA2 rfl
  have a3 : w2.cell? ⟨w.heap.size, 3, none⟩ = some (.int .u64 (la : Int)) := cell_of_blk hA2 rfl
  have b0 : w2.cell? ⟨w.heap.size + 1, 0, none⟩ = some (.int .i64 3) := cell_of_blk hB2 rfl
  have b1 : w2.cell? ⟨w.heap.size + 1, 1, none⟩ = some (.int .i64 nb) := cell_of_blk hB2 rfl
  have b2 : w2.cell? ⟨w.heap.size + 1, 2, none⟩ = some (.string sb) := cell_of_blk hB2 rfl
  have b3 : w2.cell? ⟨w.heap.size + 1, 3, none⟩ = some (.int .u64 (lb : Int)) := cell_of_blk hB2 rfl
  have HB2 : Hid (Below w.heap.size w w2) := Lib.hid (HB1.out.trans ((hb2).mono HB1.out.size))
  have hlt2 := blk_lt hA2
  have hltb2 := blk_lt hB2
  clear hb2
  go_wp2_with fail
  refine (H4.out _).mono ?_
  rintro e w3 ⟨rfl, hb3⟩
  have hA3 := below_blk hb3 hA2
  have hB3 := below_blk hb3 hB2
  clear a0 a1 a2 a3 b0 b1 b2 b3
  have a0 : w3.cell? ⟨w.heap.size, 0, none⟩ = some (.int .i64 3) := cell_of_blk hA3 rfl
  have a1 : w3.cell? ⟨w.heap.size, 1, none⟩ = some (.int .i64 na) := cell_of_blk hA3 rfl
  have a2 : w3.cell? ⟨w.heap.size, 2, none⟩ = some (.string sa) := cell_of_blk hA3 rfl
  have a3 : w3.cell? ⟨w.heap.size, 3, none⟩ = some (.int .u64 (la : Int)) := cell_of_blk hA3 rfl
  have b0 : w3.cell? ⟨w.heap.size + 1, 0, none⟩ = some (.int .i64 3) := cell_of_blk hB3 rfl
  have b1 : w3.cell? ⟨w.heap.size + 1, 1, none⟩ = some (.int .i64 nb) := cell_of_blk hB3 rfl
  have b2 : w3.cell? ⟨w.heap.size + 1, 2, none⟩ = some (.string sb) := cell_of_blk hB3 rfl
  have b3 : w3.cell? ⟨w.heap.size + 1, 3, none⟩ = some (.int .u64 (lb : Int)) := cell_of_blk hB3 rfl
  have HB3 : Hid (Below w.heap.size w w3) := Lib.hid (HB2.out.trans ((hb3).mono HB2.out.size))
  have hlt3 := blk_lt hA3
  have hltb3 := blk_lt hB3
  go_wp2
  go_ret
  exact ⟨rfl, HB3.out⟩
set_option maxRecDepth 100000 in
set_option maxHeartbeats 1500000 in
theorem vord_m3 (na nb : Int) (sa sb : ByteArray) (la lb : Nat) (w : World) {H : Type} {d0 d1 : DataW H} (hq : smallV [(⟨3, na, sa, la⟩ : VV), (⟨3, nb, sb, lb⟩ : VV)] = true) (ca : checkV (⟨3, na, sa, la⟩ : VV) = true) (cb : checkV (⟨3, nb, sb, lb⟩ : VV) = true) (va : VVOk (⟨3, na, sa, la⟩ : VV) d0) (vb : VVOk (⟨3, nb, sb, lb⟩ : VV) d1) : Calls Try.prog 6 #[.agg #[.int .i64 3, .int .i64 na, .string sa, .int .u64 (la : Int)], .agg #[.int .i64 3, .int .i64 nb, .string sb, .int .u64 (lb : Int)]] w fun e w' => e = .returned (.bool true) ∧ Below w.heap.size w w' := by
  have hs := fun n c t w' h => small2_any (⟨3, na, sa, la⟩ : VV) (⟨3, nb, sb, lb⟩ : VV) n c t w' h
  rw [hq] at hs
  dsimp only at hs
  have hO := orders_str (⟨3, na, sa, la⟩ : VV) (⟨3, nb, sb, lb⟩ : VV) (by rfl) (by rfl) ca cb
  obtain ⟨y1, y2, y3, htri⟩ := hO
  have y1 : (doV 6 (⟨3, na, sa, la⟩ : VV) (⟨3, nb, sb, lb⟩ : VV)).2 = ⟨#[]⟩ := y1
  have y2 : (doV 6 (⟨3, nb, sb, lb⟩ : VV) (⟨3, na, sa, la⟩ : VV)).2 = ⟨#[]⟩ := y2
  have y3 : (doV 7 (⟨3, na, sa, la⟩ : VV) (⟨3, nb, sb, lb⟩ : VV)).2 = ⟨#[]⟩ := y3
  have hsz := small2_le hq
  have h5 := fun w => vdo_any 6 (⟨3, na, sa, la⟩ : VV) (⟨3, nb, sb, lb⟩ : VV) w va.1 vb.1 hsz va.2 vb.2
  have h6 := fun w => vdo_any 6 (⟨3, nb, sb, lb⟩ : VV) (⟨3, na, sa, la⟩ : VV) w vb.1 va.1 (by omega) vb.2 va.2
  have h7 := fun w => vdo_any 7 (⟨3, na, sa, la⟩ : VV) (⟨3, nb, sb, lb⟩ : VV) w va.1 vb.1 hsz va.2 vb.2
  have h8 := fun w => same_any (⟨3, na, sa, la⟩ : VV) (⟨3, nb, sb, lb⟩ : VV) w
  rw [y1] at h5
  rw [y2] at h6
  rw [y3] at h7
  clear y1 y2 y3 hsz va vb
  have h3 := fun w => check_any (⟨3, na, sa, la⟩ : VV) w
  have h4 := fun w => check_any (⟨3, nb, sb, lb⟩ : VV) w
  rw [ca] at h3
  rw [cb] at h4
  unfold vvCells at h3 h4
  dsimp only at h3 h4
  have H3 := Lib.hid h3
  have H4 := Lib.hid h4
  clear h3 h4
  generalize (doV 6 (⟨3, na, sa, la⟩ : VV) (⟨3, nb, sb, lb⟩ : VV)).1 = X at h5 htri
  generalize (doV 6 (⟨3, nb, sb, lb⟩ : VV) (⟨3, na, sa, la⟩ : VV)).1 = Y at h6 htri
  generalize (doV 7 (⟨3, na, sa, la⟩ : VV) (⟨3, nb, sb, lb⟩ : VV)).1 = Z at h7 htri
  generalize sameV (⟨3, na, sa, la⟩ : VV) (⟨3, nb, sb, lb⟩ : VV) = M at h8 htri
  obtain ⟨xk, xn, xs, xl⟩ := X
  obtain ⟨yk, yn, ys, yl⟩ := Y
  obtain ⟨zk, zn, zs, zl⟩ := Z
  unfold vvCells at h5 h6 h7 h8
  dsimp only at h5 h6 h7 h8
  simp only at htri
  clear ca cb
  rcases htri with ⟨rfl, rfl, rfl, rfl⟩ | ⟨rfl, rfl, rfl, rfl⟩ | ⟨rfl, rfl, rfl, rfl⟩
  all_goals
    have H5 := Lib.hid h5
    have H6 := Lib.hid h6
    have H7 := Lib.hid h7
    have H8 := Lib.hid h8
    clear h5 h6 h7 h8
    have HS := Lib.hid hs
    clear hs hq
    go_enter Try.func6, Try.ntmps6
    go_wp2_with fail
    refine (awake03 _).mono ?_
    rintro e w0 ⟨rfl, hb0⟩
    have hA0 := below_blk hb0 (blk_alloc (heap_new_at _ _ _ rfl) _)
    have hB0 := below_blk hb0 (heap_new_at _ _ (w.heap.size + 1) (by simp))
    have a0 : w0.cell? ⟨w.heap.size, 0, none⟩ = some (.int .i64 3) := cell_of_blk hA0 rfl
    have a1 : w0.cell? ⟨w.heap.size, 1, none⟩ = some (.int .i64 na) := cell_of_blk hA0 rfl
    have a2 : w0.cell? ⟨w.heap.size, 2, none⟩ = some (.string sa) := cell_of_blk hA0 rfl
    have a3 : w0.cell? ⟨w.heap.size, 3, none⟩ = some (.int .u64 (la : Int)) := cell_of_blk hA0 rfl
    have b0 : w0.cell? ⟨w.heap.size + 1, 0, none⟩ = some (.int .i64 3) := cell_of_blk hB0 rfl
    have b1 : w0.cell? ⟨w.heap.size + 1, 1, none⟩ = some (.int .i64 nb) := cell_of_blk hB0 rfl
    have b2 : w0.cell? ⟨w.heap.size + 1, 2, none⟩ = some (.string sb) := cell_of_blk hB0 rfl
    have b3 : w0.cell? ⟨w.heap.size + 1, 3, none⟩ = some (.int .u64 (lb : Int)) := cell_of_blk hB0 rfl
    have hlt := blk_lt hB0
    have hlt0 : w.heap.size < w0.heap.size := by omega
    have HB0 : Hid (Below w.heap.size w w0) := Lib.hid ((((Below.refl _ _).alloc (Nat.le_refl _) _).alloc (by simp) _).trans (hb0.mono (by simp; omega)))
    have HA0 := Lib.hid hA0
    have HBB0 := Lib.hid hB0
    clear hb0 hA0 hB0
    go_wp2_with fail
    refine (HS.out _ _ _ _ (heap_alloc_new _ _)).mono ?_
    rintro e w1 ⟨rfl, hb1⟩
    have hA1 := below_blk hb1 (blk_alloc HA0.out _)
    have hB1 := below_blk hb1 (blk_alloc HBB0.out _)
    clear a0 a1 a2 a3 b0 b1 b2 b3
    have a0 : w1.cell? ⟨w.heap.size, 0, none⟩ = some (.int .i64 3) := cell_of_blk hA1 rfl
    have a1 : w1.cell? ⟨w.heap.size, 1, none⟩ = some (.int .i64 na) := cell_of_blk hA1 rfl
    have a2 : w1.cell? ⟨w.heap.size, 2, none⟩ = some (.string sa) := cell_of_blk hA1 rfl
    have a3 : w1.cell? ⟨w.heap.size, 3, none⟩ = some (.int .u64 (la : Int)) := cell_of_blk hA1 rfl
    have b0 : w1.cell? ⟨w.heap.size + 1, 0, none⟩ = some (.int .i64 3) := cell_of_blk hB1 rfl
    have b1 : w1.cell? ⟨w.heap.size + 1, 1, none⟩ = some (.int .i64 nb) := cell_of_blk hB1 rfl
    have b2 : w1.cell? ⟨w.heap.size + 1, 2, none⟩ = some (.string sb) := cell_of_blk hB1 rfl
    have b3 : w1.cell? ⟨w.heap.size + 1, 3, none⟩ = some (.int .u64 (lb : Int)) := cell_of_blk hB1 rfl
    have HB1 : Hid (Below w.heap.size w w1) := Lib.hid (HB0.out.trans ((((Below.refl _ _).alloc (Nat.le_refl _) _).trans (hb1.mono (by simp))).mono HB0.out.size))
    have hlt1 := blk_lt hA1
    have hltb1 := blk_lt hB1
    clear hb1
    go_wp2_with fail
    refine (H3.out _).mono ?_
    rintro e w2 ⟨rfl, hb2⟩
    have hA2 := below_blk hb2 hA1
    have hB2 := below_blk hb2 hB1
    clear a0 a1 a2 a3 b0 b1 b2 b3
    have a0 : w2.cell? ⟨w.heap.size, 0, none⟩ = some (.int .i64 3) := cell_of_blk hA2 rfl
    have a1 : w2.cell? ⟨w.heap.size, 1, none⟩ = some (.int .i64 na) := cell_of_blk hA2 rfl
    have a2 : w2.cell? ⟨w.heap.size, 2, none⟩ = some (.string sa) := cell_of_blk hA2 rfl
    have a3 : w2.cell? ⟨w.heap.size, 3, none⟩ = some (.int .u64 (la : Int)) := cell_of_blk hA2 rfl
    have b0 : w2.cell? ⟨w.heap.size + 1, 0, none⟩ = some (.int .i64 3) := cell_of_blk hB2 rfl
    have b1 : w2.cell? ⟨w.heap.size + 1, 1, none⟩ = some (.int .i64 nb) := cell_of_blk hB2 rfl
    have b2 : w2.cell? ⟨w.heap.size + 1, 2, none⟩ = some (.string sb) := cell_of_blk hB2 rfl
    have b3 : w2.cell? ⟨w.heap.size + 1, 3, none⟩ = some (.int .u64 (lb : Int)) := cell_of_blk hB2 rfl
    have HB2 : Hid (Below w.heap.size w w2) := Lib.hid (HB1.out.trans ((hb2).mono HB1.out.size))
    have hlt2 := blk_lt hA2
    have hltb2 := blk_lt hB2
    clear hb2
    go_wp2_with fail
    refine (H4.out _).mono ?_
    rintro e w3 ⟨rfl, hb3⟩
    have hA3 := below_blk hb3 hA2
    have hB3 := below_blk hb3 hB2
    clear a0 a1 a2 a3 b0 b1 b2 b3
    have a0 : w3.cell? ⟨w.heap.size, 0, none⟩ = some (.int .i64 3) := cell_of_blk hA3 rfl
    have a1 : w3.cell? ⟨w.heap.size, 1, none⟩ = some (.int .i64 na) := cell_of_blk hA3 rfl
    have a2 : w3.cell? ⟨w.heap.size, 2, none⟩ = some (.string sa) := cell_of_blk hA3 rfl
    have a3 : w3.cell? ⟨w.heap.size, 3, none⟩ = some (.int .u64 (la : Int)) := cell_of_blk hA3 rfl
    have b0 : w3.cell? ⟨w.heap.size + 1, 0, none⟩ = some (.int .i64 3) := cell_of_blk hB3 rfl
    have b1 : w3.cell? ⟨w.heap.size + 1, 1, none⟩ = some (.int .i64 nb) := cell_of_blk hB3 rfl
    have b2 : w3.cell? ⟨w.heap.size + 1, 2, none⟩ = some (.string sb) := cell_of_blk hB3 rfl
    have b3 : w3.cell? ⟨w.heap.size + 1, 3, none⟩ = some (.int .u64 (lb : Int)) := cell_of_blk hB3 rfl
    have HB3 : Hid (Below w.heap.size w w3) := Lib.hid (HB2.out.trans ((hb3).mono HB2.out.size))
    have hlt3 := blk_lt hA3
    have hltb3 := blk_lt hB3
    clear hb3
    go_wp2_with fail
    refine (H5.out _).mono ?_
    rintro e w4 ⟨rfl, hb4⟩
    have hA4 := below_blk hb4 hA3
    have hB4 := below_blk hb4 hB3
    clear a0 a1 a2 a3 b0 b1 b2 b3
    have a0 : w4.cell? ⟨w.heap.size, 0, none⟩ = some (.int .i64 3) := cell_of_blk hA4 rfl
    have a1 : w4.cell? ⟨w.heap.size, 1, none⟩ = some (.int .i64 na) := cell_of_blk hA4 rfl
    have a2 : w4.cell? ⟨w.heap.size, 2, none⟩ = some (.string sa) := cell_of_blk hA4 rfl
    have a3 : w4.cell? ⟨w.heap.size, 3, none⟩ = some (.int .u64 (la : Int)) := cell_of_blk hA4 rfl
    have b0 : w4.cell? ⟨w.heap.size + 1, 0, none⟩ = some (.int .i64 3) := cell_of_blk hB4 rfl
    have b1 : w4.cell? ⟨w.heap.size + 1, 1, none⟩ = some (.int .i64 nb) := cell_of_blk hB4 rfl
    have b2 : w4.cell? ⟨w.heap.size + 1, 2, none⟩ = some (.string sb) := cell_of_blk hB4 rfl
    have b3 : w4.cell? ⟨w.heap.size + 1, 3, none⟩ = some (.int .u64 (lb : Int)) := cell_of_blk hB4 rfl
    have HB4 : Hid (Below w.heap.size w w4) := Lib.hid (HB3.out.trans ((hb4).mono HB3.out.size))
    have hlt4 := blk_lt hA4
    have hltb4 := blk_lt hB4
    clear hb4
    go_wp2_with fail
    refine (H6.out _).mono ?_
    rintro e w5 ⟨rfl, hb5⟩
    have hA5 := below_blk hb5 (blk_alloc hA4 _)
    have hB5 := below_blk hb5 (blk_alloc hB4 _)
    clear a0 a1 a2 a3 b0 b1 b2 b3
    have a0 : w5.cell? ⟨w.heap.size, 0, none⟩ = some (.int .i64 3) := cell_of_blk hA5 rfl
    have a1 : w5.cell? ⟨w.heap.size, 1, none⟩ = some (.int .i64 na) := cell_of_blk hA5 rfl
    have a2 : w5.cell? ⟨w.heap.size, 2, none⟩ = some (.string sa) := cell_of_blk hA5 rfl
    have a3 : w5.cell? ⟨w.heap.size, 3, none⟩ = some (.int .u64 (la : Int)) := cell_of_blk hA5 rfl
    have b0 : w5.cell? ⟨w.heap.size + 1, 0, none⟩ = some (.int .i64 3) := cell_of_blk hB5 rfl
    have b1 : w5.cell? ⟨w.heap.size + 1, 1, none⟩ = some (.int .i64 nb) := cell_of_blk hB5 rfl
    have b2 : w5.cell? ⟨w.heap.size + 1, 2, none⟩ = some (.string sb) := cell_of_blk hB5 rfl
    have b3 : w5.cell? ⟨w.heap.size + 1, 3, none⟩ = some (.int .u64 (lb : Int)) := cell_of_blk hB5 rfl
    have HB5 : Hid (Below w.heap.size w w5) := Lib.hid (HB4.out.trans ((((Below.refl _ _).alloc (Nat.le_refl _) _).trans (hb5.mono (by simp))).mono HB4.out.size))
    have hlt5 := blk_lt hA5
    have hltb5 := blk_lt hB5
    have hV5 := below_blk hb5 (heap_alloc_new _ _)
    clear hb5
    go_wp2_with fail
    refine (H7.out _).mono ?_
    rintro e w6 ⟨rfl, hb6⟩
    have hA6 := below_blk hb6 (blk_alloc hA5 _)
    have hB6 := below_blk hb6 (blk_alloc hB5 _)
    clear a0 a1 a2 a3 b0 b1 b2 b3
    have a0 : w6.cell? ⟨w.heap.size, 0, none⟩ = some (.int .i64 3) := cell_of_blk hA6 rfl
    have a1 : w6.cell? ⟨w.heap.size, 1, none⟩ = some (.int .i64 na) := cell_of_blk hA6 rfl
    have a2 : w6.cell? ⟨w.heap.size, 2, none⟩ = some (.string sa) := cell_of_blk hA6 rfl
    have a3 : w6.cell? ⟨w.heap.size, 3, none⟩ = some (.int .u64 (la : Int)) := cell_of_blk hA6 rfl
    have b0 : w6.cell? ⟨w.heap.size + 1, 0, none⟩ = some (.int .i64 3) := cell_of_blk hB6 rfl
    have b1 : w6.cell? ⟨w.heap.size + 1, 1, none⟩ = some (.int .i64 nb) := cell_of_blk hB6 rfl
    have b2 : w6.cell? ⟨w.heap.size + 1, 2, none⟩ = some (.string sb) := cell_of_blk hB6 rfl
    have b3 : w6.cell? ⟨w.heap.size + 1, 3, none⟩ = some (.int .u64 (lb : Int)) := cell_of_blk hB6 rfl
    have HB6 : Hid (Below w.heap.size w w6) := Lib.hid (HB5.out.trans ((((Below.refl _ _).alloc (Nat.le_refl _) _).trans (hb6.mono (by simp))).mono HB5.out.size))
    have hlt6 := blk_lt hA6
    have hltb6 := blk_lt hB6
    have hV6 := below_blk hb6 (blk_alloc hV5 _)
    have hU6 := below_blk hb6 (heap_alloc_new _ _)
    clear hb6
    have v1 : w6.cell? ⟨w4.heap.size, 1, none⟩ = some (.int .i64 _) := cell_of_blk hV6 rfl
    have u1 : w6.cell? ⟨w5.heap.size, 1, none⟩ = some (.int .i64 _) := cell_of_blk hU6 rfl
    have hlv := blk_lt hV6
    have hlu := blk_lt hU6
    go_wp2_with fail
    refine (H8.out _).mono ?_
    rintro e w7 ⟨rfl, hb7⟩
    have hA7 := below_blk hb7 (blk_alloc hA6 _)
    have hB7 := below_blk hb7 (blk_alloc hB6 _)
    clear a0 a1 a2 a3 b0 b1 b2 b3
    have a0 : w7.cell? ⟨w.heap.size, 0, none⟩ = some (.int .i64 3) := cell_of_blk hA7 rfl
    have a1 : w7.cell? ⟨w.heap.size, 1, none⟩ = some (.int .i64 na) := cell_of_blk hA7 rfl
    have a2 : w7.cell? ⟨w.heap.size, 2, none⟩ = some (.string sa) := cell_of_blk hA7 rfl
    have a3 : w7.cell? ⟨w.heap.size, 3, none⟩ = some (.int .u64 (la : Int)) := cell_of_blk hA7 rfl
    have b0 : w7.cell? ⟨w.heap.size + 1, 0, none⟩ = some (.int .i64 3) := cell_of_blk hB7 rfl
    have b1 : w7.cell? ⟨w.heap.size + 1, 1, none⟩ = some (.int .i64 nb) := cell_of_blk hB7 rfl
    have b2 : w7.cell? ⟨w.heap.size + 1, 2, none⟩ = some (.string sb) := cell_of_blk hB7 rfl
    have b3 : w7.cell? ⟨w.heap.size + 1, 3, none⟩ = some (.int .u64 (lb : Int)) := cell_of_blk hB7 rfl
    have HB7 : Hid (Below w.heap.size w w7) := Lib.hid (HB6.out.trans ((((Below.refl _ _).alloc (Nat.le_refl _) _).trans (hb7.mono (by simp))).mono HB6.out.size))
    have hlt7 := blk_lt hA7
    have hltb7 := blk_lt hB7
    have hV7 := below_blk hb7 (blk_alloc hV6 _)
    have hU7 := below_blk hb7 (blk_alloc hU6 _)
    have hT7 := below_blk hb7 (heap_alloc_new _ _)
    clear hb7
    clear v1 u1
    have v1 : w7.cell? ⟨w4.heap.size, 1, none⟩ = some (.int .i64 _) := cell_of_blk hV7 rfl
    have u1 : w7.cell? ⟨w5.heap.size, 1, none⟩ = some (.int .i64 _) := cell_of_blk hU7 rfl
    have t1 : w7.cell? ⟨w6.heap.size, 1, none⟩ = some (.int .i64 _) := cell_of_blk hT7 rfl
    have hlv7 := blk_lt hV7
    have hlu7 := blk_lt hU7
    have hlt7' := blk_lt hT7
    go_wp2
    go_ret
    exact ⟨rfl, HB7.out⟩
theorem vorders_walk {H : Type} {d0 d1 : DataW H} (a : VV) (ha : VVOk a d0) (b : VV) (hb : VVOk b d1) (w : World) : Calls Try.prog 6 #[.agg (vvEnc a).toArray, .agg (vvEnc b).toArray] w fun e w' => e = .returned (.bool true) ∧ Below w.heap.size w w' := by
  obtain ⟨ka, na, sa, la⟩ := a
  obtain ⟨kb, nb, sb, lb⟩ := b
  cases hq : smallV [(⟨ka, na, sa, la⟩ : VV), (⟨kb, nb, sb, lb⟩ : VV)]
  · exact vord_big ka kb na nb sa sb la lb w hq
  by_cases k1 : ka = kb
  case neg => exact vord_kinds ka kb na nb sa sb la lb w hq k1
  subst k1
  by_cases k2 : ka = 2
  · subst k2
    cases ca : checkV (⟨2, na, sa, la⟩ : VV)
    · exact vord_a2 na nb sa sb la lb w hq ca
    · cases cb : checkV (⟨2, nb, sb, lb⟩ : VV)
      · exact vord_b2 na nb sa sb la lb w hq ca cb
      · exact vord_m2 na nb sa sb la lb w hq ca cb ha hb
  by_cases k3 : ka = 3
  · subst k3
    cases ca : checkV (⟨3, na, sa, la⟩ : VV)
    · exact vord_a3 na nb sa sb la lb w hq ca
    · cases cb : checkV (⟨3, nb, sb, lb⟩ : VV)
      · exact vord_b3 na nb sa sb la lb w hq ca cb
      · exact vord_m3 na nb sa sb la lb w hq ca cb ha hb
  · exact vord_kind ka na nb sa sb la lb w hq k2 k3
end Go.Proofs.Ythhphjfbdoffhaa
