/-
  Not of a value, the program's.
-/
import Derived.Test.YthhphjfbdoffhaaValNot
set_option linter.unusedVariables false
set_option linter.unusedSimpArgs false
namespace Go.Proofs.Ythhphjfbdoffhaa
open Go.ChangeShapes Go.WideShapes Go.ChangeAt Go.RowKit

set_option maxRecDepth 100000 in
set_option maxHeartbeats 2000000 in
theorem not_any (v : VV) (w : World) (hv : v.label < 18446744073709551616) : Calls Try.prog 28 #[.agg (vvCells v)] w (RetB (.agg (vvCells (notV v))) w) := by
  have h1 := fun w => truth_any v w
  have h2 := fun w => vflag_any (!truthV v) w
  have h3 : ∀ n c t w', w'.heap[n]? = some (.cells #[.int .u64 (v.label : Int)] t (0, 0)) → Calls Try.prog 18 #[.agg (vvCells (flagV (!truthV v))), .slice (some ⟨n, 0, none⟩) 1 c] w' (RetB (.agg (vvCells (withV (flagV (!truthV v)) v.label))) w') := fun n c t w' h => by
    have e : joinL [v.label] = v.label := by simp [joinL]
    have := with_any (flagV (!truthV v)) [v.label] (some ⟨n, 0, none⟩) c w' (by simp [flagV]) (by simp [hv]) (by simp) (.inr ⟨_, rfl, blk_lt h, World.news_of_block h⟩)
    rw [e] at this
    exact this
  have hN : notV v = withV (flagV (!truthV v)) v.label := rfl
  rw [hN]
  generalize truthV v = T at h1 h2 h3 ⊢
  generalize flagV (!T) = F at h2 h3 ⊢
  generalize withV F v.label = X at h3 ⊢
  unfold vvCells at h1 h2 h3 ⊢
  have H1 := Lib.hid h1
  have H2 := Lib.hid h2
  have H3 := Lib.hid h3
  clear h1 h2 h3 hN hv
  go_enter Try.func28, Try.ntmps28
  go_wp2
  rename_i K0 hK0
  refine gen_wp fun W hW => ?_
  have hA : W.heap[w.heap.size]? = some (.cells #[.int .i64 v.kind, .int .i64 v.n, .string v.s, .int .u64 (v.label : Int)] 25 (0, 0)) := by rw [← hW]; exact blk_alloc (heap_new_at _ _ _ rfl) _
  have hZ : W.heap[w.heap.size + 1]? = some (.cells #[.int .i64 0, .int .i64 0, .string ByteArray.empty, .int .u64 0] 25 (0, 0)) := by rw [← hW]; exact heap_new_at _ _ _ (by simp)
  have hbw : Below w.heap.size w W := by rw [← hW]; exact ((Below.refl _ _).alloc (Nat.le_refl _) _).alloc (by simp) _
  clear hW
  have a0 : W.cell? ⟨w.heap.size, 0, none⟩ = some (.int .i64 v.kind) := cell_of_blk hA rfl
  have a1 : W.cell? ⟨w.heap.size, 1, none⟩ = some (.int .i64 v.n) := cell_of_blk hA rfl
  have a2 : W.cell? ⟨w.heap.size, 2, none⟩ = some (.string v.s) := cell_of_blk hA rfl
  have a3 : W.cell? ⟨w.heap.size, 3, none⟩ = some (.int .u64 (v.label : Int)) := cell_of_blk hA rfl
  have HA := Lib.hid hA
  have HZ := Lib.hid hZ
  have HW := Lib.hid hbw
  clear hA hbw
  have hlt : w.heap.size < W.heap.size := by have := blk_lt hZ; omega
  have hlt1 : w.heap.size + 1 < W.heap.size := blk_lt hZ
  clear hZ
  have hS : ∀ w1, Below W.heap.size W w1 → KeepV v w.heap.size w1 := fun w1 hb => ⟨cell_of_blk (i := 0) (below_blk hb HA.out) rfl, cell_of_blk (i := 1) (below_blk hb HA.out) rfl, cell_of_blk (i := 2) (below_blk hb HA.out) rfl, cell_of_blk (i := 3) (below_blk hb HA.out) rfl⟩
  refine wp_region_noPanic ?_
  refine wp_region_held_drew (S := KeepV v w.heap.size) (by kernel_rfl) (hS _ (Below.refl _ _).drew) (fun hHeld => ?_)
  refine wpAnyH_take (i := 0) (oi := _) (v := .agg #[.int .i64 v.kind, .int .i64 v.n, .string v.s, .int .u64 (v.label : Int)]) rfl (by kernel_rfl) (by kernel_rfl) (by kernel_rfl) (fun _ _ _ h => h) (Or.inl ⟨by rfl, fun w' hS => (by obtain ⟨s0, s1, s2, s3⟩ := hS; go_simp)⟩) hHeld ?_
  simp only [Act.put, List.setIfInBounds_toArray, List.set_cons_zero, List.set_cons_succ]
  refine wpAnyH_take (i := 4) (oi := _) (v := .pointer (some ⟨w.heap.size, 3, none⟩)) rfl (by kernel_rfl) (by kernel_rfl) (by kernel_rfl) (fun _ _ _ h => h) (Or.inl ⟨by rfl, fun w' hS => (by go_simp)⟩) hHeld ?_
  simp only [Act.put, List.setIfInBounds_toArray, List.set_cons_zero, List.set_cons_succ]
  refine wpAnyH_take (i := 5) (oi := _) (v := .int .u64 (v.label : Int)) rfl (by kernel_rfl) (by kernel_rfl) (by kernel_rfl) (fun _ _ _ h => h) (Or.inl ⟨by rfl, fun w' hS => (by obtain ⟨s0, s1, s2, s3⟩ := hS; go_simp)⟩) hHeld ?_
  simp only [Act.put, List.setIfInBounds_toArray, List.set_cons_zero, List.set_cons_succ]
  refine wpAnyH_ready (rs := [1, 6]) (by kernel_rfl) (by simp) ?_
  refine AllReadyH.cons (o := _) rfl (fun K hK => ?ga) (AllReadyH.cons (o := _) rfl (fun K hK => ?gb) AllReadyH.nil)
  case' ga =>
    go_simp
    refine (H1.out _).mono ?_
    rintro e w1 ⟨rfl, hb1⟩
    have hA1 := below_blk hb1 (blk_drew HA.out)
    have hZ1 := below_blk hb1 (blk_drew HZ.out)
    refine hK.out _ _ (keepV_of hA1) (fun hHeld => ?_)
    clear hK K
    try simp only [Act.put, List.setIfInBounds_toArray, List.set_cons_zero, List.set_cons_succ]
    refine wpAnyH_take (i := 2) (oi := _) (v := .bool (!T)) rfl (by kernel_rfl) (by kernel_rfl) (by kernel_rfl) (fun _ _ _ h => h) (Or.inl ⟨by rfl, fun w' hS => (by go_simp)⟩) hHeld ?_
    try simp only [Act.put, List.setIfInBounds_toArray, List.set_cons_zero, List.set_cons_succ]
    refine wpAnyH_ready (rs := [3, 6]) (by kernel_rfl) (by simp) ?_
    refine AllReadyH.cons (o := _) rfl (fun K hK => ?gaa) (AllReadyH.cons (o := _) rfl (fun K hK => ?gab) AllReadyH.nil)
  case' gaa =>
    go_simp
    refine (H2.out _).mono ?_
    rintro e w2 ⟨rfl, hb2⟩
    have hA2 := below_blk hb2 hA1
    have hZ2 := below_blk hb2 hZ1
    refine hK.out _ _ (keepV_of hA2) (fun hHeld => ?_)
    clear hK K
    try simp only [Act.put, List.setIfInBounds_toArray, List.set_cons_zero, List.set_cons_succ]
    refine wpAnyH_ready (rs := [6]) (by kernel_rfl) (by simp) ?_
    refine AllReadyH.cons (o := _) rfl (fun K hK => ?_) AllReadyH.nil
    go_simp
    refine hK.out _ _ (keepV_of (blk_alloc hA2 _)) (fun hHeld => ?_)
    clear hK K
    try simp only [Act.put, List.setIfInBounds_toArray, List.set_cons_zero, List.set_cons_succ]
    refine wpAnyH_ready (rs := [7]) (by kernel_rfl) (by simp) ?_
    refine AllReadyH.cons (o := _) rfl (fun K hK => ?_) AllReadyH.nil
    go_simp
    refine (H3.out _ _ _ _ (heap_alloc_new _ _)).mono ?_
    rintro e w3 ⟨rfl, hb3⟩
    refine hK.out _ _ (keepV_of (below_blk hb3 (blk_alloc hA2 _))) (fun hHeld => ?_)
    clear hK K
    try simp only [Act.put, List.setIfInBounds_toArray, List.set_cons_zero, List.set_cons_succ]
    have hZ3 := below_blk hb3 (blk_alloc hZ2 _)
    have hlz := blk_lt hZ3
    have hbel : Below w.heap.size w w3 := (((((HW.out).trans (((Below.refl _ _).drew).mono (by first | exact HW.out.size | (have h0 := HW.out.size; have h1 := hb1.size; have h2 := hb2.size; simp at h0 h1 h2 ⊢; omega)))).trans ((hb1).mono (by first | exact HW.out.size | (have h0 := HW.out.size; have h1 := hb1.size; have h2 := hb2.size; simp at h0 h1 h2 ⊢; omega)))).trans ((hb2).mono (by first | exact HW.out.size | (have h0 := HW.out.size; have h1 := hb1.size; have h2 := hb2.size; simp at h0 h1 h2 ⊢; omega)))).trans (((Below.refl _ _).alloc (Nat.le_refl _) _).mono (by first | exact HW.out.size | (have h0 := HW.out.size; have h1 := hb1.size; have h2 := hb2.size; simp at h0 h1 h2 ⊢; omega)))).trans ((hb3).mono (by first | exact HW.out.size | (have h0 := HW.out.size; have h1 := hb1.size; have h2 := hb2.size; simp at h0 h1 h2 ⊢; omega)))
    have y0 : w3.cell? ⟨w.heap.size + 1, 0, none⟩ = some (.int .i64 0) := cell_of_blk hZ3 rfl
    have q0 : w3.frozen? ⟨w.heap.size + 1, 0, none⟩ = false := free_of_blk hZ3
    have y1 : w3.cell? ⟨w.heap.size + 1, 1, none⟩ = some (.int .i64 0) := cell_of_blk hZ3 rfl
    have q1 : w3.frozen? ⟨w.heap.size + 1, 1, none⟩ = false := free_of_blk hZ3
    have y2 : w3.cell? ⟨w.heap.size + 1, 2, none⟩ = some (.string ByteArray.empty) := cell_of_blk hZ3 rfl
    have q2 : w3.frozen? ⟨w.heap.size + 1, 2, none⟩ = false := free_of_blk hZ3
    have y3 : w3.cell? ⟨w.heap.size + 1, 3, none⟩ = some (.int .u64 0) := cell_of_blk hZ3 rfl
    have q3 : w3.frozen? ⟨w.heap.size + 1, 3, none⟩ = false := free_of_blk hZ3
    have hk3 := below_blk hb3 (blk_alloc hA2 _)
    refine wpAnyH_ready (rs := [8]) (by kernel_rfl) (by simp) ?_
    refine AllReadyH.cons (o := _) rfl (fun K hK => ?_) AllReadyH.nil
    go_simp
    refine hK.out _ _ (keepV_of (blk_far (blk_far (blk_far (blk_far hk3 (by simp) _) (by simp) _) (by simp) _) (by simp) _)) (fun hHeld => ?_)
    clear hK K
    try simp only [Act.put, List.setIfInBounds_toArray, List.set_cons_zero, List.set_cons_succ]
    refine wpAnyH_done (by kernel_rfl) ?_ _
    refine NoPanic.normal ?_
    refine hK0 _ _ ?_
    go_wp2
    have hbe : ∀ u0 u1 u2 u3, Below w.heap.size w ((((w3.setCell ⟨w.heap.size + 1, 0, none⟩ u0).setCell ⟨w.heap.size + 1, 1, none⟩ u1).setCell ⟨w.heap.size + 1, 2, none⟩ u2).setCell ⟨w.heap.size + 1, 3, none⟩ u3) := fun u0 u1 u2 u3 => (((hbel.setCell (by simp) _).setCell (by simp) _).setCell (by simp) _).setCell (by simp) _
    exact bodyPost_ret (v := .agg #[.int .i64 X.kind, .int .i64 X.n, .string X.s, .int .u64 (X.label : Int)]) (by simp [results, Try.results28, go_sem, y0, y1, y2, y3, hlz]) rfl ⟨rfl, hbe _ _ _ _⟩
  case' gab =>
    go_simp
    refine hK.out _ _ (keepV_of (blk_alloc hA1 _)) (fun hHeld => ?_)
    clear hK K
    try simp only [Act.put, List.setIfInBounds_toArray, List.set_cons_zero, List.set_cons_succ]
    refine wpAnyH_ready (rs := [3]) (by kernel_rfl) (by simp) ?_
    refine AllReadyH.cons (o := _) rfl (fun K hK => ?_) AllReadyH.nil
    go_simp
    refine (H2.out _).mono ?_
    rintro e w2 ⟨rfl, hb2⟩
    have hA2 := below_blk hb2 (blk_alloc hA1 _)
    have hZ2 := below_blk hb2 (blk_alloc hZ1 _)
    have hN2 := below_blk hb2 (heap_alloc_new _ _)
    refine hK.out _ _ (keepV_of hA2) (fun hHeld => ?_)
    clear hK K
    try simp only [Act.put, List.setIfInBounds_toArray, List.set_cons_zero, List.set_cons_succ]
    refine wpAnyH_ready (rs := [7]) (by kernel_rfl) (by simp) ?_
    refine AllReadyH.cons (o := _) rfl (fun K hK => ?_) AllReadyH.nil
    go_simp
    refine (H3.out _ _ _ _ (hN2)).mono ?_
    rintro e w3 ⟨rfl, hb3⟩
    refine hK.out _ _ (keepV_of (below_blk hb3 (hA2))) (fun hHeld => ?_)
    clear hK K
    try simp only [Act.put, List.setIfInBounds_toArray, List.set_cons_zero, List.set_cons_succ]
    have hZ3 := below_blk hb3 (hZ2)
    have hlz := blk_lt hZ3
    have hbel : Below w.heap.size w w3 := (((((HW.out).trans (((Below.refl _ _).drew).mono (by first | exact HW.out.size | (have h0 := HW.out.size; have h1 := hb1.size; have h2 := hb2.size; simp at h0 h1 h2 ⊢; omega)))).trans ((hb1).mono (by first | exact HW.out.size | (have h0 := HW.out.size; have h1 := hb1.size; have h2 := hb2.size; simp at h0 h1 h2 ⊢; omega)))).trans (((Below.refl _ _).alloc (Nat.le_refl _) _).mono (by first | exact HW.out.size | (have h0 := HW.out.size; have h1 := hb1.size; have h2 := hb2.size; simp at h0 h1 h2 ⊢; omega)))).trans ((hb2).mono (by first | exact HW.out.size | (have h0 := HW.out.size; have h1 := hb1.size; have h2 := hb2.size; simp at h0 h1 h2 ⊢; omega)))).trans ((hb3).mono (by first | exact HW.out.size | (have h0 := HW.out.size; have h1 := hb1.size; have h2 := hb2.size; simp at h0 h1 h2 ⊢; omega)))
    have y0 : w3.cell? ⟨w.heap.size + 1, 0, none⟩ = some (.int .i64 0) := cell_of_blk hZ3 rfl
    have q0 : w3.frozen? ⟨w.heap.size + 1, 0, none⟩ = false := free_of_blk hZ3
    have y1 : w3.cell? ⟨w.heap.size + 1, 1, none⟩ = some (.int .i64 0) := cell_of_blk hZ3 rfl
    have q1 : w3.frozen? ⟨w.heap.size + 1, 1, none⟩ = false := free_of_blk hZ3
    have y2 : w3.cell? ⟨w.heap.size + 1, 2, none⟩ = some (.string ByteArray.empty) := cell_of_blk hZ3 rfl
    have q2 : w3.frozen? ⟨w.heap.size + 1, 2, none⟩ = false := free_of_blk hZ3
    have y3 : w3.cell? ⟨w.heap.size + 1, 3, none⟩ = some (.int .u64 0) := cell_of_blk hZ3 rfl
    have q3 : w3.frozen? ⟨w.heap.size + 1, 3, none⟩ = false := free_of_blk hZ3
    have hk3 := below_blk hb3 (hA2)
    refine wpAnyH_ready (rs := [8]) (by kernel_rfl) (by simp) ?_
    refine AllReadyH.cons (o := _) rfl (fun K hK => ?_) AllReadyH.nil
    go_simp
    refine hK.out _ _ (keepV_of (blk_far (blk_far (blk_far (blk_far hk3 (by simp) _) (by simp) _) (by simp) _) (by simp) _)) (fun hHeld => ?_)
    clear hK K
    try simp only [Act.put, List.setIfInBounds_toArray, List.set_cons_zero, List.set_cons_succ]
    refine wpAnyH_done (by kernel_rfl) ?_ _
    refine NoPanic.normal ?_
    refine hK0 _ _ ?_
    go_wp2
    have hbe : ∀ u0 u1 u2 u3, Below w.heap.size w ((((w3.setCell ⟨w.heap.size + 1, 0, none⟩ u0).setCell ⟨w.heap.size + 1, 1, none⟩ u1).setCell ⟨w.heap.size + 1, 2, none⟩ u2).setCell ⟨w.heap.size + 1, 3, none⟩ u3) := fun u0 u1 u2 u3 => (((hbel.setCell (by simp) _).setCell (by simp) _).setCell (by simp) _).setCell (by simp) _
    exact bodyPost_ret (v := .agg #[.int .i64 X.kind, .int .i64 X.n, .string X.s, .int .u64 (X.label : Int)]) (by simp [results, Try.results28, go_sem, y0, y1, y2, y3, hlz]) rfl ⟨rfl, hbe _ _ _ _⟩
  case' gb =>
    go_simp
    refine hK.out _ _ (keepV_of (blk_drew (blk_alloc HA.out _))) (fun hHeld => ?_)
    clear hK K
    try simp only [Act.put, List.setIfInBounds_toArray, List.set_cons_zero, List.set_cons_succ]
    refine wpAnyH_ready (rs := [1]) (by kernel_rfl) (by simp) ?_
    refine AllReadyH.cons (o := _) rfl (fun K hK => ?_) AllReadyH.nil
    go_simp
    refine (H1.out _).mono ?_
    rintro e w1 ⟨rfl, hb1⟩
    have hA1 := below_blk hb1 (blk_drew (blk_alloc HA.out _))
    have hZ1 := below_blk hb1 (blk_drew (blk_alloc HZ.out _))
    have hN1 := below_blk hb1 (blk_drew (heap_alloc_new _ _))
    refine hK.out _ _ (keepV_of hA1) (fun hHeld => ?_)
    clear hK K
    try simp only [Act.put, List.setIfInBounds_toArray, List.set_cons_zero, List.set_cons_succ]
    refine wpAnyH_take (i := 2) (oi := _) (v := .bool (!T)) rfl (by kernel_rfl) (by kernel_rfl) (by kernel_rfl) (fun _ _ _ h => h) (Or.inl ⟨by rfl, fun w' hS => (by go_simp)⟩) hHeld ?_
    try simp only [Act.put, List.setIfInBounds_toArray, List.set_cons_zero, List.set_cons_succ]
    refine wpAnyH_ready (rs := [3]) (by kernel_rfl) (by simp) ?_
    refine AllReadyH.cons (o := _) rfl (fun K hK => ?_) AllReadyH.nil
    go_simp
    refine (H2.out _).mono ?_
    rintro e w2 ⟨rfl, hb2⟩
    have hA2 := below_blk hb2 hA1
    have hZ2 := below_blk hb2 hZ1
    have hN2 := below_blk hb2 hN1
    refine hK.out _ _ (keepV_of hA2) (fun hHeld => ?_)
    clear hK K
    try simp only [Act.put, List.setIfInBounds_toArray, List.set_cons_zero, List.set_cons_succ]
    refine wpAnyH_ready (rs := [7]) (by kernel_rfl) (by simp) ?_
    refine AllReadyH.cons (o := _) rfl (fun K hK => ?_) AllReadyH.nil
    go_simp
    refine (H3.out _ _ _ _ (hN2)).mono ?_
    rintro e w3 ⟨rfl, hb3⟩
    refine hK.out _ _ (keepV_of (below_blk hb3 (hA2))) (fun hHeld => ?_)
    clear hK K
    try simp only [Act.put, List.setIfInBounds_toArray, List.set_cons_zero, List.set_cons_succ]
    have hZ3 := below_blk hb3 (hZ2)
    have hlz := blk_lt hZ3
    have hbel : Below w.heap.size w w3 := ((((HW.out).trans ((((Below.refl _ _).alloc (Nat.le_refl _) _).drew).mono (by first | exact HW.out.size | (have h0 := HW.out.size; have h1 := hb1.size; have h2 := hb2.size; simp at h0 h1 h2 ⊢; omega)))).trans ((hb1).mono (by first | exact HW.out.size | (have h0 := HW.out.size; have h1 := hb1.size; have h2 := hb2.size; simp at h0 h1 h2 ⊢; omega)))).trans ((hb2).mono (by first | exact HW.out.size | (have h0 := HW.out.size; have h1 := hb1.size; have h2 := hb2.size; simp at h0 h1 h2 ⊢; omega)))).trans ((hb3).mono (by first | exact HW.out.size | (have h0 := HW.out.size; have h1 := hb1.size; have h2 := hb2.size; simp at h0 h1 h2 ⊢; omega)))
    have y0 : w3.cell? ⟨w.heap.size + 1, 0, none⟩ = some (.int .i64 0) := cell_of_blk hZ3 rfl
    have q0 : w3.frozen? ⟨w.heap.size + 1, 0, none⟩ = false := free_of_blk hZ3
    have y1 : w3.cell? ⟨w.heap.size + 1, 1, none⟩ = some (.int .i64 0) := cell_of_blk hZ3 rfl
    have q1 : w3.frozen? ⟨w.heap.size + 1, 1, none⟩ = false := free_of_blk hZ3
    have y2 : w3.cell? ⟨w.heap.size + 1, 2, none⟩ = some (.string ByteArray.empty) := cell_of_blk hZ3 rfl
    have q2 : w3.frozen? ⟨w.heap.size + 1, 2, none⟩ = false := free_of_blk hZ3
    have y3 : w3.cell? ⟨w.heap.size + 1, 3, none⟩ = some (.int .u64 0) := cell_of_blk hZ3 rfl
    have q3 : w3.frozen? ⟨w.heap.size + 1, 3, none⟩ = false := free_of_blk hZ3
    have hk3 := below_blk hb3 (hA2)
    refine wpAnyH_ready (rs := [8]) (by kernel_rfl) (by simp) ?_
    refine AllReadyH.cons (o := _) rfl (fun K hK => ?_) AllReadyH.nil
    go_simp
    refine hK.out _ _ (keepV_of (blk_far (blk_far (blk_far (blk_far hk3 (by simp) _) (by simp) _) (by simp) _) (by simp) _)) (fun hHeld => ?_)
    clear hK K
    try simp only [Act.put, List.setIfInBounds_toArray, List.set_cons_zero, List.set_cons_succ]
    refine wpAnyH_done (by kernel_rfl) ?_ _
    refine NoPanic.normal ?_
    refine hK0 _ _ ?_
    go_wp2
    have hbe : ∀ u0 u1 u2 u3, Below w.heap.size w ((((w3.setCell ⟨w.heap.size + 1, 0, none⟩ u0).setCell ⟨w.heap.size + 1, 1, none⟩ u1).setCell ⟨w.heap.size + 1, 2, none⟩ u2).setCell ⟨w.heap.size + 1, 3, none⟩ u3) := fun u0 u1 u2 u3 => (((hbel.setCell (by simp) _).setCell (by simp) _).setCell (by simp) _).setCell (by simp) _
    exact bodyPost_ret (v := .agg #[.int .i64 X.kind, .int .i64 X.n, .string X.s, .int .u64 (X.label : Int)]) (by simp [results, Try.results28, go_sem, y0, y1, y2, y3, hlz]) rfl ⟨rfl, hbe _ _ _ _⟩
end Go.Proofs.Ythhphjfbdoffhaa
