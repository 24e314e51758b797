/-
  ValueTells: the walk.
-/
import Derived.Test.YthhphjfbdoffhaaValOpen
import Derived.Test.YthhphjfbdoffhaaValNotV
import Derived.Test.YthhphjfbdoffhaaValRefH
set_option linter.unusedVariables false
set_option linter.unusedSimpArgs false
namespace Go.Proofs.Ythhphjfbdoffhaa
open Go.ChangeShapes Go.WideShapes Go.ChangeAt Go.RowKit

set_option maxRecDepth 100000 in
set_option maxHeartbeats 4000000 in
theorem vtells_walk {H : Type} {d0 d1 : DataW H} (a : VV) (ha : VVOk a d0) (b : VV) (hb : VVOk b d1) (w : World) : Calls Try.prog 7 #[.agg (vvEnc a).toArray, .agg (vvEnc b).toArray] w fun e w' => e = .returned (.bool true) ∧ Below w.heap.size w w' := by
  change Calls Try.prog 7 #[.agg (vvCells a), .agg (vvCells b)] w fun e w' => e = .returned (.bool true) ∧ Below w.heap.size w w'
  have hs := fun n c t w' h => small2_any a b n c t w' h
  have h1 := fun w => neg_any a w
  have h2 := fun w => rneg_any a w
  have h3 := fun w => truth_any a w
  have h4 := fun w => rtruth_any a w
  have h5 := fun w => same_any a b w
  have h6 := fun w => rsame_any a b w
  have h7 := fun w => not_any a w ha.2
  have h8 := fun w => rnot_any a w ha.2
  have hx : ∀ (x : VV) w, (Op.equalIn 10000 25 (.agg (vvCells x)) (.agg (vvCells x))).run Try.prog w = .ok true w := fun x w => by
    have := val_eq x x w
    rw [show eqV x x = true from by simp [eqV]] at this
    exact this
  have hq1 := hx (negV a).1
  have hq2 := hx (notV a)
  generalize truthV a = T at h3 h4
  generalize sameV a b = M at h5 h6
  generalize (negV a).1 = X at h1 h2 hq1
  generalize (negV a).2 = Y at h1 h2
  generalize notV a = Z at h7 h8 hq2
  unfold vvCells at h1 h2 h3 h4 h5 h6 h7 h8 hq1 hq2 ⊢
  have H1 := Lib.hid h1
  have H2 := Lib.hid h2
  have H3 := Lib.hid h3
  have H4 := Lib.hid h4
  have H5 := Lib.hid h5
  have H6 := Lib.hid h6
  have H7 := Lib.hid h7
  have H8 := Lib.hid h8
  clear h1 h2 h3 h4 h5 h6 h7 h8 ha hb hx
  cases hq : smallV [a, b]
  case false =>
    rw [hq] at hs
    have HS := Lib.hid hs
    clear hs hq
    go_enter Try.func7, Try.ntmps7
    go_wp2_with fail
    refine (awake03 _).mono ?_
    rintro e w0 ⟨rfl, hb0⟩
    have hA0 := below_blk hb0 (blk_alloc (heap_new_at _ _ _ rfl) _)
    have hB0 := below_blk hb0 (heap_new_at _ _ (w.heap.size + 1) (by simp))
    have a0 : w0.cell? ⟨w.heap.size, 0, none⟩ = some (.int .i64 a.kind) := cell_of_blk hA0 rfl
    have a1 : w0.cell? ⟨w.heap.size, 1, none⟩ = some (.int .i64 a.n) := cell_of_blk hA0 rfl
    have a2 : w0.cell? ⟨w.heap.size, 2, none⟩ = some (.string a.s) := cell_of_blk hA0 rfl
    have a3 : w0.cell? ⟨w.heap.size, 3, none⟩ = some (.int .u64 (a.label : Int)) := cell_of_blk hA0 rfl
    have b0 : w0.cell? ⟨w.heap.size + 1, 0, none⟩ = some (.int .i64 b.kind) := cell_of_blk hB0 rfl
    have b1 : w0.cell? ⟨w.heap.size + 1, 1, none⟩ = some (.int .i64 b.n) := cell_of_blk hB0 rfl
    have b2 : w0.cell? ⟨w.heap.size + 1, 2, none⟩ = some (.string b.s) := cell_of_blk hB0 rfl
    have b3 : w0.cell? ⟨w.heap.size + 1, 3, none⟩ = some (.int .u64 (b.label : Int)) := cell_of_blk hB0 rfl
    have hlt := blk_lt hB0
    have hlt0 : w.heap.size < w0.heap.size := by omega
    have HB0 : Hid (Below w.heap.size w w0) := Lib.hid ((((Below.refl _ _).alloc (Nat.le_refl _) _).alloc (by simp) _).trans (hb0.mono (by simp; omega)))
    have HA0 := Lib.hid hA0
    have HBB0 := Lib.hid hB0
    clear hb0 hA0 hB0
    go_wp2_with fail
    refine (HS.out _ _ _ _ (heap_alloc_new _ _)).mono ?_
    rintro e w1 ⟨rfl, hb1⟩
    go_wp2
    go_ret
    exact ⟨rfl, HB0.out.trans ((((Below.refl _ _).alloc (Nat.le_refl _) _).trans (hb1.mono (by simp))).mono HB0.out.size)⟩
  case true =>
    rw [hq] at hs
    have HS := Lib.hid hs
    clear hs hq
    cases T <;> cases M
    all_goals
      go_enter Try.func7, Try.ntmps7
      go_wp2_with fail
      refine (awake03 _).mono ?_
      rintro e w0 ⟨rfl, hb0⟩
      have hA0 := below_blk hb0 (blk_alloc (heap_new_at _ _ _ rfl) _)
      have hB0 := below_blk hb0 (heap_new_at _ _ (w.heap.size + 1) (by simp))
      have a0 : w0.cell? ⟨w.heap.size, 0, none⟩ = some (.int .i64 a.kind) := cell_of_blk hA0 rfl
      have a1 : w0.cell? ⟨w.heap.size, 1, none⟩ = some (.int .i64 a.n) := cell_of_blk hA0 rfl
      have a2 : w0.cell? ⟨w.heap.size, 2, none⟩ = some (.string a.s) := cell_of_blk hA0 rfl
      have a3 : w0.cell? ⟨w.heap.size, 3, none⟩ = some (.int .u64 (a.label : Int)) := cell_of_blk hA0 rfl
      have b0 : w0.cell? ⟨w.heap.size + 1, 0, none⟩ = some (.int .i64 b.kind) := cell_of_blk hB0 rfl
      have b1 : w0.cell? ⟨w.heap.size + 1, 1, none⟩ = some (.int .i64 b.n) := cell_of_blk hB0 rfl
      have b2 : w0.cell? ⟨w.heap.size + 1, 2, none⟩ = some (.string b.s) := cell_of_blk hB0 rfl
      have b3 : w0.cell? ⟨w.heap.size + 1, 3, none⟩ = some (.int .u64 (b.label : Int)) := cell_of_blk hB0 rfl
      have hlt := blk_lt hB0
      have hlt0 : w.heap.size < w0.heap.size := by omega
      have HB0 : Hid (Below w.heap.size w w0) := Lib.hid ((((Below.refl _ _).alloc (Nat.le_refl _) _).alloc (by simp) _).trans (hb0.mono (by simp; omega)))
      have HA0 := Lib.hid hA0
      have HBB0 := Lib.hid hB0
      clear hb0 hA0 hB0
      go_wp2_with fail
      refine (HS.out _ _ _ _ (heap_alloc_new _ _)).mono ?_
      rintro e w1 ⟨rfl, hb1⟩
      have hA1 := below_blk hb1 (blk_alloc HA0.out _)
      have hB1 := below_blk hb1 (blk_alloc HBB0.out _)
      clear a0 a1 a2 a3 b0 b1 b2 b3
      have a0 : w1.cell? ⟨w.heap.size, 0, none⟩ = some (.int .i64 a.kind) := cell_of_blk hA1 rfl
      have a1 : w1.cell? ⟨w.heap.size, 1, none⟩ = some (.int .i64 a.n) := cell_of_blk hA1 rfl
      have a2 : w1.cell? ⟨w.heap.size, 2, none⟩ = some (.string a.s) := cell_of_blk hA1 rfl
      have a3 : w1.cell? ⟨w.heap.size, 3, none⟩ = some (.int .u64 (a.label : Int)) := cell_of_blk hA1 rfl
      have b0 : w1.cell? ⟨w.heap.size + 1, 0, none⟩ = some (.int .i64 b.kind) := cell_of_blk hB1 rfl
      have b1 : w1.cell? ⟨w.heap.size + 1, 1, none⟩ = some (.int .i64 b.n) := cell_of_blk hB1 rfl
      have b2 : w1.cell? ⟨w.heap.size + 1, 2, none⟩ = some (.string b.s) := cell_of_blk hB1 rfl
      have b3 : w1.cell? ⟨w.heap.size + 1, 3, none⟩ = some (.int .u64 (b.label : Int)) := cell_of_blk hB1 rfl
      have HB1 : Hid (Below w.heap.size w w1) := Lib.hid (HB0.out.trans ((((Below.refl _ _).alloc (Nat.le_refl _) _).trans (hb1.mono (by simp))).mono HB0.out.size))
      have hlt1 := blk_lt hA1
      clear hb1
      go_wp2_with fail
      refine (H1.out _).mono ?_
      rintro e w2 ⟨rfl, hb2⟩
      have hA2 := below_blk hb2 hA1
      have hB2 := below_blk hb2 hB1
      clear a0 a1 a2 a3 b0 b1 b2 b3
      have a0 : w2.cell? ⟨w.heap.size, 0, none⟩ = some (.int .i64 a.kind) := cell_of_blk hA2 rfl
      have a1 : w2.cell? ⟨w.heap.size, 1, none⟩ = some (.int .i64 a.n) := cell_of_blk hA2 rfl
      have a2 : w2.cell? ⟨w.heap.size, 2, none⟩ = some (.string a.s) := cell_of_blk hA2 rfl
      have a3 : w2.cell? ⟨w.heap.size, 3, none⟩ = some (.int .u64 (a.label : Int)) := cell_of_blk hA2 rfl
      have b0 : w2.cell? ⟨w.heap.size + 1, 0, none⟩ = some (.int .i64 b.kind) := cell_of_blk hB2 rfl
      have b1 : w2.cell? ⟨w.heap.size + 1, 1, none⟩ = some (.int .i64 b.n) := cell_of_blk hB2 rfl
      have b2 : w2.cell? ⟨w.heap.size + 1, 2, none⟩ = some (.string b.s) := cell_of_blk hB2 rfl
      have b3 : w2.cell? ⟨w.heap.size + 1, 3, none⟩ = some (.int .u64 (b.label : Int)) := cell_of_blk hB2 rfl
      have HB2 : Hid (Below w.heap.size w w2) := Lib.hid (HB1.out.trans ((hb2).mono HB1.out.size))
      have hlt2 := blk_lt hA2
      clear hb2
      go_wp2_with fail
      refine (H2.out _).mono ?_
      rintro e w3 ⟨rfl, hb3⟩
      have hA3 := below_blk hb3 (blk_alloc hA2 _)
      have hB3 := below_blk hb3 (blk_alloc hB2 _)
      clear a0 a1 a2 a3 b0 b1 b2 b3
      have a0 : w3.cell? ⟨w.heap.size, 0, none⟩ = some (.int .i64 a.kind) := cell_of_blk hA3 rfl
      have a1 : w3.cell? ⟨w.heap.size, 1, none⟩ = some (.int .i64 a.n) := cell_of_blk hA3 rfl
      have a2 : w3.cell? ⟨w.heap.size, 2, none⟩ = some (.string a.s) := cell_of_blk hA3 rfl
      have a3 : w3.cell? ⟨w.heap.size, 3, none⟩ = some (.int .u64 (a.label : Int)) := cell_of_blk hA3 rfl
      have b0 : w3.cell? ⟨w.heap.size + 1, 0, none⟩ = some (.int .i64 b.kind) := cell_of_blk hB3 rfl
      have b1 : w3.cell? ⟨w.heap.size + 1, 1, none⟩ = some (.int .i64 b.n) := cell_of_blk hB3 rfl
      have b2 : w3.cell? ⟨w.heap.size + 1, 2, none⟩ = some (.string b.s) := cell_of_blk hB3 rfl
      have b3 : w3.cell? ⟨w.heap.size + 1, 3, none⟩ = some (.int .u64 (b.label : Int)) := cell_of_blk hB3 rfl
      have HB3 : Hid (Below w.heap.size w w3) := Lib.hid (HB2.out.trans ((((Below.refl _ _).alloc (Nat.le_refl _) _).trans (hb3.mono (by simp))).mono HB2.out.size))
      have hlt3 := blk_lt hA3
      have hV3 := below_blk hb3 (heap_alloc_new _ _)
      clear hb3
      go_wp2_with fail
      refine gen_wp fun W hW => ?_
      have hA : W.heap[w.heap.size]? = some (.cells #[.int .i64 a.kind, .int .i64 a.n, .string a.s, .int .u64 (a.label : Int)] 25 (0, 0)) := by rw [← hW]; exact blk_alloc hA3 _
      have hB : W.heap[w.heap.size + 1]? = some (.cells #[.int .i64 b.kind, .int .i64 b.n, .string b.s, .int .u64 (b.label : Int)] 25 (0, 0)) := by rw [← hW]; exact blk_alloc hB3 _
      have hV : W.heap[w2.heap.size]? = some (.cells #[.int .i64 X.kind, .int .i64 X.n, .string X.s, .int .u64 (X.label : Int)] 25 (0, 0)) := by rw [← hW]; exact blk_alloc hV3 _
      have hU : W.heap[w3.heap.size]? = some (.cells #[.int .i64 X.kind, .int .i64 X.n, .string X.s, .int .u64 (X.label : Int)] 25 (0, 0)) := by rw [← hW]; exact heap_alloc_new _ _
      have HBW : Hid (Below w.heap.size w W) := by rw [← hW]; exact Lib.hid (HB3.out.alloc HB3.out.size _)
      clear hW a0 a1 a2 a3 b0 b1 b2 b3
      have a0 : W.cell? ⟨w.heap.size, 0, none⟩ = some (.int .i64 a.kind) := cell_of_blk hA rfl
      have a1 : W.cell? ⟨w.heap.size, 1, none⟩ = some (.int .i64 a.n) := cell_of_blk hA rfl
      have a2 : W.cell? ⟨w.heap.size, 2, none⟩ = some (.string a.s) := cell_of_blk hA rfl
      have a3 : W.cell? ⟨w.heap.size, 3, none⟩ = some (.int .u64 (a.label : Int)) := cell_of_blk hA rfl
      have b0 : W.cell? ⟨w.heap.size + 1, 0, none⟩ = some (.int .i64 b.kind) := cell_of_blk hB rfl
      have b1 : W.cell? ⟨w.heap.size + 1, 1, none⟩ = some (.int .i64 b.n) := cell_of_blk hB rfl
      have b2 : W.cell? ⟨w.heap.size + 1, 2, none⟩ = some (.string b.s) := cell_of_blk hB rfl
      have b3 : W.cell? ⟨w.heap.size + 1, 3, none⟩ = some (.int .u64 (b.label : Int)) := cell_of_blk hB rfl
      have v0 : W.cell? ⟨w2.heap.size, 0, none⟩ = some (.int .i64 X.kind) := cell_of_blk hV rfl
      have v1 : W.cell? ⟨w2.heap.size, 1, none⟩ = some (.int .i64 X.n) := cell_of_blk hV rfl
      have v2 : W.cell? ⟨w2.heap.size, 2, none⟩ = some (.string X.s) := cell_of_blk hV rfl
      have v3 : W.cell? ⟨w2.heap.size, 3, none⟩ = some (.int .u64 (X.label : Int)) := cell_of_blk hV rfl
      have u0 : W.cell? ⟨w3.heap.size, 0, none⟩ = some (.int .i64 X.kind) := cell_of_blk hU rfl
      have u1 : W.cell? ⟨w3.heap.size, 1, none⟩ = some (.int .i64 X.n) := cell_of_blk hU rfl
      have u2 : W.cell? ⟨w3.heap.size, 2, none⟩ = some (.string X.s) := cell_of_blk hU rfl
      have u3 : W.cell? ⟨w3.heap.size, 3, none⟩ = some (.int .u64 (X.label : Int)) := cell_of_blk hU rfl
      have HA := Lib.hid hA
      have HBB := Lib.hid hB
      have HV := Lib.hid hV
      have HU := Lib.hid hU
      clear hA hB hV hU hA1 hB1 hA2 hB2 hA3 hB3 hV3 HA0 HBB0
      go_region_held3 (fun w' => w'.cell? ⟨w.heap.size, 0, none⟩ = some (.int .i64 a.kind) ∧ w'.cell? ⟨w.heap.size, 1, none⟩ = some (.int .i64 a.n) ∧ w'.cell? ⟨w.heap.size, 2, none⟩ = some (.string a.s) ∧ w'.cell? ⟨w.heap.size, 3, none⟩ = some (.int .u64 (a.label : Int)) ∧ w'.cell? ⟨w.heap.size + 1, 0, none⟩ = some (.int .i64 b.kind) ∧ w'.cell? ⟨w.heap.size + 1, 1, none⟩ = some (.int .i64 b.n) ∧ w'.cell? ⟨w.heap.size + 1, 2, none⟩ = some (.string b.s) ∧ w'.cell? ⟨w.heap.size + 1, 3, none⟩ = some (.int .u64 (b.label : Int)) ∧ w'.cell? ⟨w2.heap.size, 0, none⟩ = some (.int .i64 X.kind) ∧ w'.cell? ⟨w2.heap.size, 1, none⟩ = some (.int .i64 X.n) ∧ w'.cell? ⟨w2.heap.size, 2, none⟩ = some (.string X.s) ∧ w'.cell? ⟨w2.heap.size, 3, none⟩ = some (.int .u64 (X.label : Int)) ∧ w'.cell? ⟨w3.heap.size, 0, none⟩ = some (.int .i64 X.kind) ∧ w'.cell? ⟨w3.heap.size, 1, none⟩ = some (.int .i64 X.n) ∧ w'.cell? ⟨w3.heap.size, 2, none⟩ = some (.string X.s) ∧ w'.cell? ⟨w3.heap.size, 3, none⟩ = some (.int .u64 (X.label : Int))) (first | go_keep | exact ks1 | exact ks2 | exact ks3 | exact ks4 | exact ks5 | exact ks6)
        ((first
          | (go_at_call 25; refine (H3.out _).mono ?_; rintro e x1 ⟨rfl, hx1⟩; have hA1 := below_blk hx1 (blk_drew HA.out); have hB1 := below_blk hx1 (blk_drew HBB.out); have hV1 := below_blk hx1 (blk_drew HV.out); have hU1 := below_blk hx1 (blk_drew HU.out); have ks1 := (And.intro (cell_of_blk (i := 0) hA1 rfl) (And.intro (cell_of_blk (i := 1) hA1 rfl) (And.intro (cell_of_blk (i := 2) hA1 rfl) (And.intro (cell_of_blk (i := 3) hA1 rfl) (And.intro (cell_of_blk (i := 0) hB1 rfl) (And.intro (cell_of_blk (i := 1) hB1 rfl) (And.intro (cell_of_blk (i := 2) hB1 rfl) (And.intro (cell_of_blk (i := 3) hB1 rfl) (And.intro (cell_of_blk (i := 0) hV1 rfl) (And.intro (cell_of_blk (i := 1) hV1 rfl) (And.intro (cell_of_blk (i := 2) hV1 rfl) (And.intro (cell_of_blk (i := 3) hV1 rfl) (And.intro (cell_of_blk (i := 0) hU1 rfl) (And.intro (cell_of_blk (i := 1) hU1 rfl) (And.intro (cell_of_blk (i := 2) hU1 rfl) (cell_of_blk (i := 3) hU1 rfl)))))))))))))))))
          | (go_at_call 26; refine (H4.out _).mono ?_; rintro e x2 ⟨rfl, hx2⟩; have hA2 := below_blk hx2 hA1; have hB2 := below_blk hx2 hB1; have hV2 := below_blk hx2 hV1; have hU2 := below_blk hx2 hU1; have ks2 := (And.intro (cell_of_blk (i := 0) hA2 rfl) (And.intro (cell_of_blk (i := 1) hA2 rfl) (And.intro (cell_of_blk (i := 2) hA2 rfl) (And.intro (cell_of_blk (i := 3) hA2 rfl) (And.intro (cell_of_blk (i := 0) hB2 rfl) (And.intro (cell_of_blk (i := 1) hB2 rfl) (And.intro (cell_of_blk (i := 2) hB2 rfl) (And.intro (cell_of_blk (i := 3) hB2 rfl) (And.intro (cell_of_blk (i := 0) hV2 rfl) (And.intro (cell_of_blk (i := 1) hV2 rfl) (And.intro (cell_of_blk (i := 2) hV2 rfl) (And.intro (cell_of_blk (i := 3) hV2 rfl) (And.intro (cell_of_blk (i := 0) hU2 rfl) (And.intro (cell_of_blk (i := 1) hU2 rfl) (And.intro (cell_of_blk (i := 2) hU2 rfl) (cell_of_blk (i := 3) hU2 rfl)))))))))))))))))
          | (go_at_call 22; refine (H5.out _).mono ?_; rintro e x3 ⟨rfl, hx3⟩; have hA3 := below_blk hx3 hA2; have hB3 := below_blk hx3 hB2; have hV3 := below_blk hx3 hV2; have hU3 := below_blk hx3 hU2; have ks3 := (And.intro (cell_of_blk (i := 0) hA3 rfl) (And.intro (cell_of_blk (i := 1) hA3 rfl) (And.intro (cell_of_blk (i := 2) hA3 rfl) (And.intro (cell_of_blk (i := 3) hA3 rfl) (And.intro (cell_of_blk (i := 0) hB3 rfl) (And.intro (cell_of_blk (i := 1) hB3 rfl) (And.intro (cell_of_blk (i := 2) hB3 rfl) (And.intro (cell_of_blk (i := 3) hB3 rfl) (And.intro (cell_of_blk (i := 0) hV3 rfl) (And.intro (cell_of_blk (i := 1) hV3 rfl) (And.intro (cell_of_blk (i := 2) hV3 rfl) (And.intro (cell_of_blk (i := 3) hV3 rfl) (And.intro (cell_of_blk (i := 0) hU3 rfl) (And.intro (cell_of_blk (i := 1) hU3 rfl) (And.intro (cell_of_blk (i := 2) hU3 rfl) (cell_of_blk (i := 3) hU3 rfl)))))))))))))))))
          | (go_at_call 27; refine (H6.out _).mono ?_; rintro e x4 ⟨rfl, hx4⟩; have hA4 := below_blk hx4 hA3; have hB4 := below_blk hx4 hB3; have hV4 := below_blk hx4 hV3; have hU4 := below_blk hx4 hU3; have ks4 := (And.intro (cell_of_blk (i := 0) hA4 rfl) (And.intro (cell_of_blk (i := 1) hA4 rfl) (And.intro (cell_of_blk (i := 2) hA4 rfl) (And.intro (cell_of_blk (i := 3) hA4 rfl) (And.intro (cell_of_blk (i := 0) hB4 rfl) (And.intro (cell_of_blk (i := 1) hB4 rfl) (And.intro (cell_of_blk (i := 2) hB4 rfl) (And.intro (cell_of_blk (i := 3) hB4 rfl) (And.intro (cell_of_blk (i := 0) hV4 rfl) (And.intro (cell_of_blk (i := 1) hV4 rfl) (And.intro (cell_of_blk (i := 2) hV4 rfl) (And.intro (cell_of_blk (i := 3) hV4 rfl) (And.intro (cell_of_blk (i := 0) hU4 rfl) (And.intro (cell_of_blk (i := 1) hU4 rfl) (And.intro (cell_of_blk (i := 2) hU4 rfl) (cell_of_blk (i := 3) hU4 rfl)))))))))))))))))
          | (go_at_call 28; refine (H7.out _).mono ?_; rintro e x5 ⟨rfl, hx5⟩; have hA5 := below_blk hx5 hA4; have hB5 := below_blk hx5 hB4; have hV5 := below_blk hx5 hV4; have hU5 := below_blk hx5 hU4; have ks5 := (And.intro (cell_of_blk (i := 0) hA5 rfl) (And.intro (cell_of_blk (i := 1) hA5 rfl) (And.intro (cell_of_blk (i := 2) hA5 rfl) (And.intro (cell_of_blk (i := 3) hA5 rfl) (And.intro (cell_of_blk (i := 0) hB5 rfl) (And.intro (cell_of_blk (i := 1) hB5 rfl) (And.intro (cell_of_blk (i := 2) hB5 rfl) (And.intro (cell_of_blk (i := 3) hB5 rfl) (And.intro (cell_of_blk (i := 0) hV5 rfl) (And.intro (cell_of_blk (i := 1) hV5 rfl) (And.intro (cell_of_blk (i := 2) hV5 rfl) (And.intro (cell_of_blk (i := 3) hV5 rfl) (And.intro (cell_of_blk (i := 0) hU5 rfl) (And.intro (cell_of_blk (i := 1) hU5 rfl) (And.intro (cell_of_blk (i := 2) hU5 rfl) (cell_of_blk (i := 3) hU5 rfl)))))))))))))))))
          | (go_at_call 29; refine (H8.out _).mono ?_; rintro e x6 ⟨rfl, hx6⟩; have hA6 := below_blk hx6 hA5; have hB6 := below_blk hx6 hB5; have hV6 := below_blk hx6 hV5; have hU6 := below_blk hx6 hU5; have ks6 := (And.intro (cell_of_blk (i := 0) hA6 rfl) (And.intro (cell_of_blk (i := 1) hA6 rfl) (And.intro (cell_of_blk (i := 2) hA6 rfl) (And.intro (cell_of_blk (i := 3) hA6 rfl) (And.intro (cell_of_blk (i := 0) hB6 rfl) (And.intro (cell_of_blk (i := 1) hB6 rfl) (And.intro (cell_of_blk (i := 2) hB6 rfl) (And.intro (cell_of_blk (i := 3) hB6 rfl) (And.intro (cell_of_blk (i := 0) hV6 rfl) (And.intro (cell_of_blk (i := 1) hV6 rfl) (And.intro (cell_of_blk (i := 2) hV6 rfl) (And.intro (cell_of_blk (i := 3) hV6 rfl) (And.intro (cell_of_blk (i := 0) hU6 rfl) (And.intro (cell_of_blk (i := 1) hU6 rfl) (And.intro (cell_of_blk (i := 2) hU6 rfl) (cell_of_blk (i := 3) hU6 rfl)))))))))))))))))))
      go_wp2
      go_ret
      exact ⟨rfl, HBW.out.trans (((Below.refl _ _).drew.trans (hx1.trans ((hx2.trans ((hx3.trans ((hx4.trans ((hx5.trans (hx6.mono hx5.size)).mono hx4.size)).mono hx3.size)).mono hx2.size)).mono hx1.size))).mono HBW.out.size)⟩
end Go.Proofs.Ythhphjfbdoffhaa
