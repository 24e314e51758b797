/-
  Equal on a heap that nobody made.
-/
import Derived.Test.YtohllalninoomaaDoorHeapNil2
set_option linter.unusedVariables false
set_option linter.unusedSimpArgs false
namespace Go.Proofs.YtohllalninoomaaDoor
open Go.ChangeShapes Go.WideShapes Go.ChangeAt Go.RowKit

set_option maxRecDepth 100000 in
set_option maxHeartbeats 4000000 in
theorem hequal_nil (a b : VV) (w : World) : Calls Tryd.prog 19 #[.pointer none, .agg #[.int .i64 a.kind, .int .i64 a.n, .string a.s, .int .u64 (a.label : Int)], .agg #[.int .i64 b.kind, .int .i64 b.n, .string b.s, .int .u64 (b.label : Int)]] w (RetB (.bool (sameV a b)) w) := by
  obtain ⟨g, hg⟩ : ∃ g, g = w.heap.size := ⟨_, rfl⟩
  have HG := Lib.hid hg
  clear hg
  go_enter Tryd.func19, Tryd.ntmps19
  go_upto_region 1 with fail
  rw [← HG.out]
  refine gen_wp fun W hW => ?_
  have HA := Lib.hid (show W.heap[g]? = some (.cells #[.int .i64 a.kind, .int .i64 a.n, .string a.s, .int .u64 (a.label : Int)] 25 (0, 0)) by rw [← hW, HG.out]; exact blk_alloc (heap_new_at _ _ _ rfl) _)
  have HB := Lib.hid (show W.heap[g + 1]? = some (.cells #[.int .i64 b.kind, .int .i64 b.n, .string b.s, .int .u64 (b.label : Int)] 25 (0, 0)) by rw [← hW, HG.out]; exact heap_new_at _ _ _ (by simp))
  have HW := Lib.hid (show Below w.heap.size w W by rw [← hW]; exact ((Below.refl _ _).alloc (Nat.le_refl _) _).alloc (by simp) _)
  obtain ⟨sv, hsv⟩ : ∃ sv, sv = sameV a b := ⟨_, rfl⟩
  rw [← hsv]
  have HSM := Lib.hid (show ∀ w, Calls Tryd.prog 46 #[.agg #[.int .i64 a.kind, .int .i64 a.n, .string a.s, .int .u64 (a.label : Int)], .agg #[.int .i64 b.kind, .int .i64 b.n, .string b.s, .int .u64 (b.label : Int)]] w (RetB (.bool sv) w) from fun w => by rw [hsv]; exact same_any a b w)
  have HSV := Lib.hid hsv
  clear hW hsv
  refine wp_region_held_drew (S := fun w' => w'.heap[g]? = some (.cells #[.int .i64 a.kind, .int .i64 a.n, .string a.s, .int .u64 (a.label : Int)] 25 (0, 0)) ∧ w'.heap[g + 1]? = some (.cells #[.int .i64 b.kind, .int .i64 b.n, .string b.s, .int .u64 (b.label : Int)] 25 (0, 0))) (by kernel_rfl) (⟨HA.out, HB.out⟩) (fun hHeld => ?_)
  refine wpAnyH_take (i := 0) (oi := _) (v := .pointer none) rfl (by kernel_rfl) (by kernel_rfl) (by kernel_rfl) (fun _ _ _ h => h) (Or.inl ⟨by rfl, fun w' hS => (by go_simp)⟩) hHeld ?_
  change wpAnyH _ _ _ _ _ _ _ (Act.put _ (some 7) _) _
  try simp only [Act.put, List.setIfInBounds_toArray, List.set_cons_zero, List.set_cons_succ]
  refine wpAnyH_take (i := 1) (oi := _) (v := .agg #[.int .i64 a.kind, .int .i64 a.n, .string a.s, .int .u64 (a.label : Int)]) rfl (by kernel_rfl) (by kernel_rfl) (by kernel_rfl) (fun _ _ _ h => h) (Or.inl ⟨by rfl, fun w' hS => (by have q0 := cell_of_blk (i := 0) hS.1 rfl; have q1 := cell_of_blk (i := 1) hS.1 rfl; have q2 := cell_of_blk (i := 2) hS.1 rfl; have q3 := cell_of_blk (i := 3) hS.1 rfl; go_simp)⟩) hHeld ?_
  change wpAnyH _ _ _ _ _ _ _ (Act.put _ (some 8) _) _
  try simp only [Act.put, List.setIfInBounds_toArray, List.set_cons_zero, List.set_cons_succ]
  refine wpAnyH_take (i := 3) (oi := _) (v := .pointer none) rfl (by kernel_rfl) (by kernel_rfl) (by kernel_rfl) (fun _ _ _ h => h) (Or.inl ⟨by rfl, fun w' hS => (by go_simp)⟩) hHeld ?_
  change wpAnyH _ _ _ _ _ _ _ (Act.put _ (some 10) _) _
  try simp only [Act.put, List.setIfInBounds_toArray, List.set_cons_zero, List.set_cons_succ]
  refine wpAnyH_take (i := 4) (oi := _) (v := .agg #[.int .i64 b.kind, .int .i64 b.n, .string b.s, .int .u64 (b.label : Int)]) rfl (by kernel_rfl) (by kernel_rfl) (by kernel_rfl) (fun _ _ _ h => h) (Or.inl ⟨by rfl, fun w' hS => (by have q0 := cell_of_blk (i := 0) hS.2 rfl; have q1 := cell_of_blk (i := 1) hS.2 rfl; have q2 := cell_of_blk (i := 2) hS.2 rfl; have q3 := cell_of_blk (i := 3) hS.2 rfl; go_simp)⟩) hHeld ?_
  change wpAnyH _ _ _ _ _ _ _ (Act.put _ (some 11) _) _
  try simp only [Act.put, List.setIfInBounds_toArray, List.set_cons_zero, List.set_cons_succ]
  refine wpAnyH_ready (rs := [2]) (by kernel_rfl) (by simp) ?_
  refine AllReadyH.cons (o := _) rfl (fun K hK => ?_) AllReadyH.nil
  go_simp
  refine (hbase_nil a _).mono ?_
  rintro e w1 ⟨rfl, hb1⟩
  have B1 := Lib.hid (show Below W.heap.size W w1 from (Below.refl _ _).drew.trans hb1)
  clear hb1
  refine hK.out _ _ (⟨below_blk B1.out HA.out, below_blk B1.out HB.out⟩) (fun hHeld => ?_)
  clear hK K
  try simp only [Act.put, List.setIfInBounds_toArray, List.set_cons_zero, List.set_cons_succ]
  refine wpAnyH_ready (rs := [5]) (by kernel_rfl) (by simp) ?_
  refine AllReadyH.cons (o := _) rfl (fun K hK => ?_) AllReadyH.nil
  go_simp
  refine (hbase_nil b _).mono ?_
  rintro e w2 ⟨rfl, hb2⟩
  have B2 := Lib.hid (show Below W.heap.size W w2 from B1.out.trans (hb2.mono B1.out.size))
  clear hb2
  refine hK.out _ _ (⟨below_blk B2.out HA.out, below_blk B2.out HB.out⟩) (fun hHeld => ?_)
  clear hK K
  try simp only [Act.put, List.setIfInBounds_toArray, List.set_cons_zero, List.set_cons_succ]
  refine wpAnyH_ready (rs := [6]) (by kernel_rfl) (by simp) ?_
  refine AllReadyH.cons (o := _) rfl (fun K hK => ?_) AllReadyH.nil
  go_simp
  refine (HSM.out _).mono ?_
  rintro e w3 ⟨rfl, hb3⟩
  have B3 := Lib.hid (show Below W.heap.size W w3 from B2.out.trans (hb3.mono B2.out.size))
  clear hb3
  refine hK.out _ _ (⟨below_blk B3.out HA.out, below_blk B3.out HB.out⟩) (fun hHeld => ?_)
  clear hK K
  try simp only [Act.put, List.setIfInBounds_toArray, List.set_cons_zero, List.set_cons_succ]
  refine wpAnyH_take (i := 7) (oi := _) (v := .bool sv) rfl (by kernel_rfl) (by kernel_rfl) (by kernel_rfl) (fun _ _ _ h => h) (Or.inl ⟨by rfl, fun w' hS => (by go_simp)⟩) hHeld ?_
  change wpAnyH _ _ _ _ _ _ _ (Act.put _ (some 6) _) _
  try simp only [Act.put, List.setIfInBounds_toArray, List.set_cons_zero, List.set_cons_succ]
  refine wpAnyH_done (by kernel_rfl) ?_ _
  go_wp2
  refine bodyPost_ret (v := .bool sv) (by simp [results, Tryd.results19, go_sem]) rfl ?_
  exact ⟨by rw [HSV.out], HW.out.trans (B3.out.mono HW.out.size)⟩
end Go.Proofs.YtohllalninoomaaDoor
