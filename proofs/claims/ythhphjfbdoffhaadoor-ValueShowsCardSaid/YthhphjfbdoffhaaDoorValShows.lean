/-
  ValueShows: the walk: the kind of any value and the value itself as texts, by the program and by the reference.
-/
import Derived.Test.YthhphjfbdoffhaaDoorValShowF
set_option linter.unusedVariables false
set_option linter.unusedSimpArgs false
namespace Go.Proofs.YthhphjfbdoffhaaDoor
open Go.ChangeShapes Go.WideShapes Go.ChangeAt Go.RowKit

set_option maxRecDepth 100000 in
set_option maxHeartbeats 2000000 in
theorem vshows_walk {H : Type} {d : DataW H} (v : VV) (hv : VVOk v d) (w : World) (ht : Tab w) : Calls Tryd.prog 3 #[.agg (vvEnc v).toArray] w (RetB (.bool true) w) := by
  change Calls Tryd.prog 3 #[.agg (vvCells v)] w _
  have hs := fun n c t w' h => small1_any v n c t w' h
  have h1 := fun w => type_any v w
  have h2 := fun w => rtype_any v w
  have h3 := fun w (h : Tab w) => vshow_any v w hv.1.1 hv.1.2 h
  have h4 := fun w (h : Tab w) => rvshow_any v w hv.1.1 hv.1.2 h
  generalize kindS v.kind = K at h1 h2
  generalize showV v = S at h3 h4
  unfold vvCells at hs h1 h2 h3 h4 ⊢
  have H1 := Lib.hid h1
  have H2 := Lib.hid h2
  have H3 := Lib.hid h3
  have H4 := Lib.hid h4
  have HT := Lib.hid ht
  clear h1 h2 h3 h4 hv ht
  cases hq : smallV [v]
  case false =>
    rw [hq] at hs
    have HS := Lib.hid hs
    clear hs hq
    go_enter Tryd.func3, Tryd.ntmps3
    go_wp2_with fail
    refine (awake03 _).mono ?_
    rintro e w0 ⟨rfl, hb0⟩
    have hA0 := below_blk hb0 (heap_alloc_new _ _)
    have a0 : w0.cell? ⟨w.heap.size, 0, none⟩ = some (.int .i64 v.kind) := cell_of_blk hA0 rfl
    have a1 : w0.cell? ⟨w.heap.size, 1, none⟩ = some (.int .i64 v.n) := cell_of_blk hA0 rfl
    have a2 : w0.cell? ⟨w.heap.size, 2, none⟩ = some (.string v.s) := cell_of_blk hA0 rfl
    have a3 : w0.cell? ⟨w.heap.size, 3, none⟩ = some (.int .u64 (v.label : Int)) := cell_of_blk hA0 rfl
    have hlt := blk_lt hA0
    have HB : Hid (Below w.heap.size w w0) := Lib.hid (((Below.refl _ _).alloc (Nat.le_refl _) _).trans (hb0.mono (by simp)))
    have HA0 := Lib.hid hA0
    clear hb0 hA0
    go_wp2_with fail
    go_wp2_with fail
    refine wp_region_noPanic ?_
    refine wp_region_held_drew (S := KeepV v w.heap.size) (by kernel_rfl) (⟨a0, a1, a2, a3⟩) (fun hHeld => ?_)
    refine wpAnyH_take (i := 0) (oi := _) (v := .agg #[.int .i64 v.kind, .int .i64 v.n, .string v.s, .int .u64 (v.label : Int)]) rfl (by kernel_rfl) (by kernel_rfl) (by kernel_rfl) (fun _ _ _ h => h) (Or.inl ⟨by rfl, fun w' hS => (by obtain ⟨s0, s1, s2, s3⟩ := hS; go_simp)⟩) hHeld ?_
    try simp only [Act.put, List.setIfInBounds_toArray, List.set_cons_zero, List.set_cons_succ]
    refine wpAnyH_ready (rs := [1]) (by kernel_rfl) (by simp) ?_
    refine AllReadyH.cons (o := _) rfl (fun K hK => ?_) AllReadyH.nil
    go_simp
    refine hK.out _ _ (keepV_of (blk_drew (blk_alloc HA0.out _))) (fun hHeld => ?_)
    clear hK K
    try simp only [Act.put, List.setIfInBounds_toArray, List.set_cons_zero, List.set_cons_succ]
    refine wpAnyH_ready (rs := [2]) (by kernel_rfl) (by simp) ?_
    refine AllReadyH.cons (o := _) rfl (fun K hK => ?_) AllReadyH.nil
    go_simp
    refine (HS.out _ _ _ _ (blk_drew (heap_alloc_new _ _))).mono ?_
    rintro e w1 ⟨rfl, hb1⟩
    refine hK.out _ _ (keepV_of (below_blk hb1 (blk_drew (blk_alloc HA0.out _)))) (fun hHeld => ?_)
    clear hK K
    try simp only [Act.put, List.setIfInBounds_toArray, List.set_cons_zero, List.set_cons_succ]
    refine wpAnyH_take (i := 3) (oi := _) (v := .bool true) rfl (by kernel_rfl) (by kernel_rfl) (by kernel_rfl) (fun _ _ _ h => h) (Or.inl ⟨by rfl, fun w' hS => (by go_simp)⟩) hHeld ?_
    try simp only [Act.put, List.setIfInBounds_toArray, List.set_cons_zero, List.set_cons_succ]
    refine wpAnyH_take (i := 4) (oi := _) (v := .bool true) rfl (by kernel_rfl) (by kernel_rfl) (by kernel_rfl) (fun _ _ _ h => h) (Or.inl ⟨by rfl, fun w' hS => (by go_simp)⟩) hHeld ?_
    try simp only [Act.put, List.setIfInBounds_toArray, List.set_cons_zero, List.set_cons_succ]
    refine wpAnyH_take (i := 5) (oi := _) (v := undef) rfl (by kernel_rfl) (by kernel_rfl) (by kernel_rfl) (fun _ _ _ h => h) (Or.inr ⟨by kernel_rfl, rfl⟩) hHeld ?_
    try simp only [Act.put, List.setIfInBounds_toArray, List.set_cons_zero, List.set_cons_succ]
    refine wpAnyH_take (i := 6) (oi := _) (v := undef) rfl (by kernel_rfl) (by kernel_rfl) (by kernel_rfl) (fun _ _ _ h => h) (Or.inr ⟨by kernel_rfl, rfl⟩) hHeld ?_
    try simp only [Act.put, List.setIfInBounds_toArray, List.set_cons_zero, List.set_cons_succ]
    refine wpAnyH_take (i := 7) (oi := _) (v := undef) rfl (by kernel_rfl) (by kernel_rfl) (by kernel_rfl) (fun _ _ _ h => h) (Or.inr ⟨by kernel_rfl, rfl⟩) hHeld ?_
    try simp only [Act.put, List.setIfInBounds_toArray, List.set_cons_zero, List.set_cons_succ]
    refine wpAnyH_take (i := 8) (oi := _) (v := undef) rfl (by kernel_rfl) (by kernel_rfl) (by kernel_rfl) (fun _ _ _ h => h) (Or.inr ⟨by kernel_rfl, rfl⟩) hHeld ?_
    try simp only [Act.put, List.setIfInBounds_toArray, List.set_cons_zero, List.set_cons_succ]
    refine wpAnyH_take (i := 9) (oi := _) (v := undef) rfl (by kernel_rfl) (by kernel_rfl) (by kernel_rfl) (fun _ _ _ h => h) (Or.inr ⟨by kernel_rfl, rfl⟩) hHeld ?_
    try simp only [Act.put, List.setIfInBounds_toArray, List.set_cons_zero, List.set_cons_succ]
    refine wpAnyH_take (i := 10) (oi := _) (v := undef) rfl (by kernel_rfl) (by kernel_rfl) (by kernel_rfl) (fun _ _ _ h => h) (Or.inr ⟨by kernel_rfl, rfl⟩) hHeld ?_
    change wpAnyH _ _ _ _ _ _ _ (Act.put _ (some 15) _) _
    try simp only [Act.put, List.setIfInBounds_toArray, List.set_cons_zero, List.set_cons_succ]
    refine wpAnyH_take (i := 11) (oi := _) (v := undef) rfl (by kernel_rfl) (by kernel_rfl) (by kernel_rfl) (fun _ _ _ h => h) (Or.inr ⟨by kernel_rfl, rfl⟩) hHeld ?_
    change wpAnyH _ _ _ _ _ _ _ (Act.put _ (some 16) _) _
    try simp only [Act.put, List.setIfInBounds_toArray, List.set_cons_zero, List.set_cons_succ]
    refine wpAnyH_take (i := 12) (oi := _) (v := undef) rfl (by kernel_rfl) (by kernel_rfl) (by kernel_rfl) (fun _ _ _ h => h) (Or.inr ⟨by kernel_rfl, rfl⟩) hHeld ?_
    change wpAnyH _ _ _ _ _ _ _ (Act.put _ (some 17) _) _
    try simp only [Act.put, List.setIfInBounds_toArray, List.set_cons_zero, List.set_cons_succ]
    refine wpAnyH_take (i := 13) (oi := _) (v := undef) rfl (by kernel_rfl) (by kernel_rfl) (by kernel_rfl) (fun _ _ _ h => h) (Or.inr ⟨by kernel_rfl, rfl⟩) hHeld ?_
    change wpAnyH _ _ _ _ _ _ _ (Act.put _ (some 18) _) _
    try simp only [Act.put, List.setIfInBounds_toArray, List.set_cons_zero, List.set_cons_succ]
    refine wpAnyH_take (i := 14) (oi := _) (v := undef) rfl (by kernel_rfl) (by kernel_rfl) (by kernel_rfl) (fun _ _ _ h => h) (Or.inr ⟨by kernel_rfl, rfl⟩) hHeld ?_
    change wpAnyH _ _ _ _ _ _ _ (Act.put _ (some 19) _) _
    try simp only [Act.put, List.setIfInBounds_toArray, List.set_cons_zero, List.set_cons_succ]
    refine wpAnyH_take (i := 15) (oi := _) (v := undef) rfl (by kernel_rfl) (by kernel_rfl) (by kernel_rfl) (fun _ _ _ h => h) (Or.inr ⟨by kernel_rfl, rfl⟩) hHeld ?_
    change wpAnyH _ _ _ _ _ _ _ (Act.put _ (some 20) _) _
    try simp only [Act.put, List.setIfInBounds_toArray, List.set_cons_zero, List.set_cons_succ]
    refine wpAnyH_take (i := 16) (oi := _) (v := undef) rfl (by kernel_rfl) (by kernel_rfl) (by kernel_rfl) (fun _ _ _ h => h) (Or.inr ⟨by kernel_rfl, rfl⟩) hHeld ?_
    change wpAnyH _ _ _ _ _ _ _ (Act.put _ (some 21) _) _
    try simp only [Act.put, List.setIfInBounds_toArray, List.set_cons_zero, List.set_cons_succ]
    refine wpAnyH_take (i := 17) (oi := _) (v := .bool true) rfl (by kernel_rfl) (by kernel_rfl) (by kernel_rfl) (fun _ _ _ h => h) (Or.inl ⟨by rfl, fun w' hS => (by go_simp)⟩) hHeld ?_
    change wpAnyH _ _ _ _ _ _ _ (Act.put _ (some 22) _) _
    try simp only [Act.put, List.setIfInBounds_toArray, List.set_cons_zero, List.set_cons_succ]
    refine wpAnyH_take (i := 18) (oi := _) (v := .bool true) rfl (by kernel_rfl) (by kernel_rfl) (by kernel_rfl) (fun _ _ _ h => h) (Or.inl ⟨by rfl, fun w' hS => (by go_simp)⟩) hHeld ?_
    change wpAnyH _ _ _ _ _ _ _ (Act.put _ (some 2) _) _
    try simp only [Act.put, List.setIfInBounds_toArray, List.set_cons_zero, List.set_cons_succ]
    refine wpAnyH_done (by kernel_rfl) ?_ _
    refine NoPanic.normal ?_
    go_wp2
    go_ret
    exact ⟨by first | rfl | simp, HB.out.trans ((((Below.refl _ _).alloc (Nat.le_refl _) _).drew.trans (hb1.mono (by simp))).mono HB.out.size)⟩
  case true =>
    rw [hq] at hs
    have HS := Lib.hid hs
    clear hs hq
    go_enter Tryd.func3, Tryd.ntmps3
    go_wp2_with fail
    refine (awake03 _).mono ?_
    rintro e w0 ⟨rfl, hb0⟩
    have hA0 := below_blk hb0 (heap_alloc_new _ _)
    have a0 : w0.cell? ⟨w.heap.size, 0, none⟩ = some (.int .i64 v.kind) := cell_of_blk hA0 rfl
    have a1 : w0.cell? ⟨w.heap.size, 1, none⟩ = some (.int .i64 v.n) := cell_of_blk hA0 rfl
    have a2 : w0.cell? ⟨w.heap.size, 2, none⟩ = some (.string v.s) := cell_of_blk hA0 rfl
    have a3 : w0.cell? ⟨w.heap.size, 3, none⟩ = some (.int .u64 (v.label : Int)) := cell_of_blk hA0 rfl
    have hlt := blk_lt hA0
    have HB : Hid (Below w.heap.size w w0) := Lib.hid (((Below.refl _ _).alloc (Nat.le_refl _) _).trans (hb0.mono (by simp)))
    have HA0 := Lib.hid hA0
    clear hb0 hA0
    go_wp2_with fail
    go_region_held3 (fun w' => w'.cell? ⟨w.heap.size, 0, none⟩ = some (.int .i64 v.kind) ∧ w'.cell? ⟨w.heap.size, 1, none⟩ = some (.int .i64 v.n) ∧ w'.cell? ⟨w.heap.size, 2, none⟩ = some (.string v.s) ∧ w'.cell? ⟨w.heap.size, 3, none⟩ = some (.int .u64 (v.label : Int))) (first | go_keep | exact ks1 | exact ks2 | exact ks3 | exact ks4 | exact ks5)
      ((first
        | (go_at_call 5; refine (HS.out _ _ _ _ (blk_drew (heap_alloc_new _ _))).mono ?_; rintro e w1 ⟨rfl, hb1⟩; have hx1 : Below w.heap.size w w1 := HB.out.trans ((((Below.refl _ _).alloc (Nat.le_refl _) _).drew.trans (hb1.mono (by simp))).mono HB.out.size); have hA1 := below_blk hb1 (blk_drew (blk_alloc HA0.out _)); have ks1 := And.intro (cell_of_blk (i := 0) hA1 rfl) (And.intro (cell_of_blk (i := 1) hA1 rfl) (And.intro (cell_of_blk (i := 2) hA1 rfl) (cell_of_blk (i := 3) hA1 rfl))))
        | (go_at_call 6; refine (H1.out _).mono ?_; rintro e w2 ⟨rfl, hb2⟩; have hx2 := hx1.trans (hb2.mono hx1.size); have hA2 := below_blk hb2 hA1; have ks2 := And.intro (cell_of_blk (i := 0) hA2 rfl) (And.intro (cell_of_blk (i := 1) hA2 rfl) (And.intro (cell_of_blk (i := 2) hA2 rfl) (cell_of_blk (i := 3) hA2 rfl))))
        | (go_at_call 7; refine (H2.out _).mono ?_; rintro e w3 ⟨rfl, hb3⟩; have hx3 := hx2.trans (hb3.mono hx2.size); have hA3 := below_blk hb3 hA2; have ks3 := And.intro (cell_of_blk (i := 0) hA3 rfl) (And.intro (cell_of_blk (i := 1) hA3 rfl) (And.intro (cell_of_blk (i := 2) hA3 rfl) (cell_of_blk (i := 3) hA3 rfl))))
        | (go_at_call 8; refine (H3.out _ (HT.out.below hx3)).mono ?_; rintro e w4 ⟨rfl, hb4⟩; have hx4 := hx3.trans (hb4.mono hx3.size); have hA4 := below_blk hb4 hA3; have ks4 := And.intro (cell_of_blk (i := 0) hA4 rfl) (And.intro (cell_of_blk (i := 1) hA4 rfl) (And.intro (cell_of_blk (i := 2) hA4 rfl) (cell_of_blk (i := 3) hA4 rfl))))
        | (go_at_call 9; refine (H4.out _ (HT.out.below hx4)).mono ?_; rintro e w5 ⟨rfl, hb5⟩; have hx5 := hx4.trans (hb5.mono hx4.size); have hA5 := below_blk hb5 hA4; have ks5 := And.intro (cell_of_blk (i := 0) hA5 rfl) (And.intro (cell_of_blk (i := 1) hA5 rfl) (And.intro (cell_of_blk (i := 2) hA5 rfl) (cell_of_blk (i := 3) hA5 rfl))))))
    go_wp2
    go_ret
    exact ⟨by first | rfl | simp, hx5⟩
end Go.Proofs.YthhphjfbdoffhaaDoor
