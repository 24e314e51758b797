/-
  ValueDoes: the walk.
-/
import Derived.Test.YthhphjfbdoffhaaValOpen
import Derived.Test.YthhphjfbdoffhaaValRefDo
set_option linter.unusedVariables false
set_option linter.unusedSimpArgs false
namespace Go.Proofs.Ythhphjfbdoffhaa
open Go.ChangeShapes Go.WideShapes Go.ChangeAt Go.RowKit

set_option maxRecDepth 100000 in
set_option maxHeartbeats 4000000 in
theorem vdoes_walk {H : Type} {d0 d1 : DataW H} (op : Int) (a : VV) (ha : VVOk a d0) (b : VV) (hb : VVOk b d1) (w : World) : Calls Try.prog 3 #[.int .i64 op, .agg (vvEnc a).toArray, .agg (vvEnc b).toArray] w fun e w' => e = .returned (.bool true) ∧ Below w.heap.size w w' := by
  change Calls Try.prog 3 #[.int .i64 op, .agg (vvCells a), .agg (vvCells b)] w fun e w' => e = .returned (.bool true) ∧ Below w.heap.size w w'
  have hs := fun n c t w' h => small2_any a b n c t w' h
  have h1 : smallV [a, b] = true → ∀ w, _ := fun hq w => vdo_any op a b w ha.1 hb.1 (small2_le hq) ha.2 hb.2
  have h2 : smallV [a, b] = true → ∀ w, _ := fun hq w => rdoval_any op a b w ha.1 hb.1 (small2_le hq) ha.2 hb.2
  have hx : ∀ (x : VV) w, (Op.equalIn 10000 25 (.agg (vvCells x)) (.agg (vvCells x))).run Try.prog w = .ok true w := fun x w => by
    have := val_eq x x w
    rw [show eqV x x = true from by simp [eqV]] at this
    exact this
  have hq1 := hx (doV op a b).1
  generalize (doV op a b).1 = X at h1 h2 hq1
  generalize (doV op a b).2 = Y at h1 h2
  unfold vvCells at h1 h2 hq1 ⊢
  clear ha hb hx
  cases hq : smallV [a, b]
  case false =>
    rw [hq] at hs
    have HS := Lib.hid hs
    clear hs hq h1 h2
    go_enter Try.func3, Try.ntmps3
    go_wp2_with fail
    refine (awake03 _).mono ?_
    rintro e w0 ⟨rfl, hb0⟩
    have hA0 := below_blk hb0 (blk_alloc (heap_new_at _ _ _ rfl) _)
    have hB0 := below_blk hb0 (heap_new_at _ _ (w.heap.size + 1) (by simp))
    have a0 : w0.cell? ⟨w.heap.size, 0, none⟩ = some (.int .i64 a.kind) := cell_of_blk hA0 rfl
    have a1 : w0.cell? ⟨w.heap.size, 1, none⟩ = some (.int .i64 a.n) := cell_of_blk hA0 rfl
    have a2 : w0.cell? ⟨w.heap.size, 2, none⟩ = some (.string a.s) := cell_of_blk hA0 rfl
    have a3 : w0.cell? ⟨w.heap.size, 3, none⟩ = some (.int .u64 (a.label : Int)) := cell_of_blk hA0 rfl
    have b0 : w0.cell? ⟨w.heap.size + 1, 0, none⟩ = some (.int .i64 b.kind) := cell_of_blk hB0 rfl
    have b1 : w0.cell? ⟨w.heap.size + 1, 1, none⟩ = some (.int .i64 b.n) := cell_of_blk hB0 rfl
    have b2 : w0.cell? ⟨w.heap.size + 1, 2, none⟩ = some (.string b.s) := cell_of_blk hB0 rfl
    have b3 : w0.cell? ⟨w.heap.size + 1, 3, none⟩ = some (.int .u64 (b.label : Int)) := cell_of_blk hB0 rfl
    have hlt := blk_lt hB0
    have hlt0 : w.heap.size < w0.heap.size := by omega
    have HB0 : Hid (Below w.heap.size w w0) := Lib.hid ((((Below.refl _ _).alloc (Nat.le_refl _) _).alloc (by simp) _).trans (hb0.mono (by simp; omega)))
    have HA0 := Lib.hid hA0
    have HBB0 := Lib.hid hB0
    clear hb0 hA0 hB0
    go_wp2_with fail
    refine (HS.out _ _ _ _ (heap_alloc_new _ _)).mono ?_
    rintro e w1 ⟨rfl, hb1⟩
    go_wp2
    go_ret
    exact ⟨rfl, HB0.out.trans ((((Below.refl _ _).alloc (Nat.le_refl _) _).trans (hb1.mono (by simp))).mono HB0.out.size)⟩
  case true =>
    rw [hq] at hs
    have HS := Lib.hid hs
    have H1 := Lib.hid (h1 hq)
    have H2 := Lib.hid (h2 hq)
    clear hs hq h1 h2
    go_enter Try.func3, Try.ntmps3
    go_wp2_with fail
    refine (awake03 _).mono ?_
    rintro e w0 ⟨rfl, hb0⟩
    have hA0 := below_blk hb0 (blk_alloc (heap_new_at _ _ _ rfl) _)
    have hB0 := below_blk hb0 (heap_new_at _ _ (w.heap.size + 1) (by simp))
    have a0 : w0.cell? ⟨w.heap.size, 0, none⟩ = some (.int .i64 a.kind) := cell_of_blk hA0 rfl
    have a1 : w0.cell? ⟨w.heap.size, 1, none⟩ = some (.int .i64 a.n) := cell_of_blk hA0 rfl
    have a2 : w0.cell? ⟨w.heap.size, 2, none⟩ = some (.string a.s) := cell_of_blk hA0 rfl
    have a3 : w0.cell? ⟨w.heap.size, 3, none⟩ = some (.int .u64 (a.label : Int)) := cell_of_blk hA0 rfl
    have b0 : w0.cell? ⟨w.heap.size + 1, 0, none⟩ = some (.int .i64 b.kind) := cell_of_blk hB0 rfl
    have b1 : w0.cell? ⟨w.heap.size + 1, 1, none⟩ = some (.int .i64 b.n) := cell_of_blk hB0 rfl
    have b2 : w0.cell? ⟨w.heap.size + 1, 2, none⟩ = some (.string b.s) := cell_of_blk hB0 rfl
    have b3 : w0.cell? ⟨w.heap.size + 1, 3, none⟩ = some (.int .u64 (b.label : Int)) := cell_of_blk hB0 rfl
    have hlt := blk_lt hB0
    have hlt0 : w.heap.size < w0.heap.size := by omega
    have HB0 : Hid (Below w.heap.size w w0) := Lib.hid ((((Below.refl _ _).alloc (Nat.le_refl _) _).alloc (by simp) _).trans (hb0.mono (by simp; omega)))
    have HA0 := Lib.hid hA0
    have HBB0 := Lib.hid hB0
    clear hb0 hA0 hB0
    go_wp2_with fail
    refine (HS.out _ _ _ _ (heap_alloc_new _ _)).mono ?_
    rintro e w1 ⟨rfl, hb1⟩
    have hA1 := below_blk hb1 (blk_alloc HA0.out _)
    have hB1 := below_blk hb1 (blk_alloc HBB0.out _)
    clear a0 a1 a2 a3 b0 b1 b2 b3
    have a0 : w1.cell? ⟨w.heap.size, 0, none⟩ = some (.int .i64 a.kind) := cell_of_blk hA1 rfl
    have a1 : w1.cell? ⟨w.heap.size, 1, none⟩ = some (.int .i64 a.n) := cell_of_blk hA1 rfl
    have a2 : w1.cell? ⟨w.heap.size, 2, none⟩ = some (.string a.s) := cell_of_blk hA1 rfl
    have a3 : w1.cell? ⟨w.heap.size, 3, none⟩ = some (.int .u64 (a.label : Int)) := cell_of_blk hA1 rfl
    have b0 : w1.cell? ⟨w.heap.size + 1, 0, none⟩ = some (.int .i64 b.kind) := cell_of_blk hB1 rfl
    have b1 : w1.cell? ⟨w.heap.size + 1, 1, none⟩ = some (.int .i64 b.n) := cell_of_blk hB1 rfl
    have b2 : w1.cell? ⟨w.heap.size + 1, 2, none⟩ = some (.string b.s) := cell_of_blk hB1 rfl
    have b3 : w1.cell? ⟨w.heap.size + 1, 3, none⟩ = some (.int .u64 (b.label : Int)) := cell_of_blk hB1 rfl
    have HB1 : Hid (Below w.heap.size w w1) := Lib.hid (HB0.out.trans ((((Below.refl _ _).alloc (Nat.le_refl _) _).trans (hb1.mono (by simp))).mono HB0.out.size))
    have hlt1 := blk_lt hA1
    have hltb1 := blk_lt hB1
    clear hb1
    go_wp2_with fail
    refine (H1.out _).mono ?_
    rintro e w2 ⟨rfl, hb2⟩
    have hA2 := below_blk hb2 hA1
    have hB2 := below_blk hb2 hB1
    clear a0 a1 a2 a3 b0 b1 b2 b3
    have a0 : w2.cell? ⟨w.heap.size, 0, none⟩ = some (.int .i64 a.kind) := cell_of_blk hA2 rfl
    have a1 : w2.cell? ⟨w.heap.size, 1, none⟩ = some (.int .i64 a.n) := cell_of_blk hA2 rfl
    have a2 : w2.cell? ⟨w.heap.size, 2, none⟩ = some (.string a.s) := cell_of_blk hA2 rfl
    have a3 : w2.cell? ⟨w.heap.size, 3, none⟩ = some (.int .u64 (a.label : Int)) := cell_of_blk hA2 rfl
    have b0 : w2.cell? ⟨w.heap.size + 1, 0, none⟩ = some (.int .i64 b.kind) := cell_of_blk hB2 rfl
    have b1 : w2.cell? ⟨w.heap.size + 1, 1, none⟩ = some (.int .i64 b.n) := cell_of_blk hB2 rfl
    have b2 : w2.cell? ⟨w.heap.size + 1, 2, none⟩ = some (.string b.s) := cell_of_blk hB2 rfl
    have b3 : w2.cell? ⟨w.heap.size + 1, 3, none⟩ = some (.int .u64 (b.label : Int)) := cell_of_blk hB2 rfl
    have HB2 : Hid (Below w.heap.size w w2) := Lib.hid (HB1.out.trans ((hb2).mono HB1.out.size))
    have hlt2 := blk_lt hA2
    have hltb2 := blk_lt hB2
    clear hb2
    go_wp2_with fail
    refine (H2.out _).mono ?_
    rintro e w3 ⟨rfl, hb3⟩
    have hA3 := below_blk hb3 (blk_alloc hA2 _)
    have hB3 := below_blk hb3 (blk_alloc hB2 _)
    clear a0 a1 a2 a3 b0 b1 b2 b3
    have a0 : w3.cell? ⟨w.heap.size, 0, none⟩ = some (.int .i64 a.kind) := cell_of_blk hA3 rfl
    have a1 : w3.cell? ⟨w.heap.size, 1, none⟩ = some (.int .i64 a.n) := cell_of_blk hA3 rfl
    have a2 : w3.cell? ⟨w.heap.size, 2, none⟩ = some (.string a.s) := cell_of_blk hA3 rfl
    have a3 : w3.cell? ⟨w.heap.size, 3, none⟩ = some (.int .u64 (a.label : Int)) := cell_of_blk hA3 rfl
    have b0 : w3.cell? ⟨w.heap.size + 1, 0, none⟩ = some (.int .i64 b.kind) := cell_of_blk hB3 rfl
    have b1 : w3.cell? ⟨w.heap.size + 1, 1, none⟩ = some (.int .i64 b.n) := cell_of_blk hB3 rfl
    have b2 : w3.cell? ⟨w.heap.size + 1, 2, none⟩ = some (.string b.s) := cell_of_blk hB3 rfl
    have b3 : w3.cell? ⟨w.heap.size + 1, 3, none⟩ = some (.int .u64 (b.label : Int)) := cell_of_blk hB3 rfl
    have HB3 : Hid (Below w.heap.size w w3) := Lib.hid (HB2.out.trans ((((Below.refl _ _).alloc (Nat.le_refl _) _).trans (hb3.mono (by simp))).mono HB2.out.size))
    have hlt3 := blk_lt hA3
    have hltb3 := blk_lt hB3
    have hV3 := below_blk hb3 (heap_alloc_new _ _)
    clear hb3
    have v0 : w3.cell? ⟨w2.heap.size, 0, none⟩ = some (.int .i64 X.kind) := cell_of_blk hV3 rfl
    have v1 : w3.cell? ⟨w2.heap.size, 1, none⟩ = some (.int .i64 X.n) := cell_of_blk hV3 rfl
    have v2 : w3.cell? ⟨w2.heap.size, 2, none⟩ = some (.string X.s) := cell_of_blk hV3 rfl
    have v3 : w3.cell? ⟨w2.heap.size, 3, none⟩ = some (.int .u64 (X.label : Int)) := cell_of_blk hV3 rfl
    have hlv := blk_lt hV3
    go_wp2
    go_ret
    exact ⟨rfl, HB3.out.alloc HB3.out.size _⟩
end Go.Proofs.Ythhphjfbdoffhaa
