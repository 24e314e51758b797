/-
  A value with labels more; Not.
-/
import Derived.Test.YthhphjfbdoffhaaValMore
set_option linter.unusedVariables false
set_option linter.unusedSimpArgs false
namespace Go.Proofs.Ythhphjfbdoffhaa
open Go.ChangeShapes Go.WideShapes Go.ChangeAt Go.RowKit

def withV (v : VV) (l : Nat) : VV := { v with label := v.label ||| l }
theorem rwith_any (v : VV) (l : Nat) (w : World) (hv : v.label < 18446744073709551616) (hl : l < 18446744073709551616) : Calls Try.prog 17 #[.agg (vvCells v), .int .u64 (l : Int)] w (RetB (.agg (vvCells (withV v l))) w) := by
  have hj := fun w => rjoin_any v.label l w hv hl
  unfold vvCells
  have HV := Lib.hid hv
  have HL := Lib.hid hl
  clear hv hl
  go_enter Try.func17, Try.ntmps17
  go_wp2_with (go_at_call 19; refine (hj _).mono ?_; rintro e w' ⟨rfl, rfl⟩)
  exact bodyPost_ret (v := .agg (vvCells (withV v l))) (by simp [results, Try.results17, go_sem]; rfl) rfl ⟨rfl, (by repeat' (first | exact Below.refl _ _ | refine Below.drew ?_ | refine Below.setCell ?_ ?_ _ | refine Below.alloc ?_ ?_ _ | (simp; done) | (simp; omega)))⟩
set_option maxRecDepth 100000 in
set_option maxHeartbeats 2000000 in
theorem with_any (v : VV) (l : List Nat) (A : Option Addr) (c : Nat) (w : World) (hv : v.label < 18446744073709551616) (hl : ∀ x ∈ l, x < 18446744073709551616) (hn : l.length ≤ 9223372036854775807)
    (hr : Reads w w.heap.size A (l.map fun x : Nat => Value.int .u64 (x : Int))) :
    Calls Try.prog 18 #[.agg (vvCells v), .slice A l.length c] w (RetB (.agg (vvCells (withV v (joinL l)))) w) := by
  have hjl := joinL_lt l hl
  have hj1 : ∀ w', Below w.heap.size w w' → Calls Try.prog 46 #[.slice A l.length c] w' (Ret (.int .u64 (joinL l : Int)) w') := fun w' hb => joinv_any l A c w.heap.size w' hl hn (hr.below hb)
  have hj2 := fun n c t w' h => join2_any v.label (joinL l) n c t w' hv hjl h
  generalize joinL l = L at hj1 hj2
  unfold vvCells
  have HJ1 := Lib.hid hj1
  have HJ2 := Lib.hid hj2
  clear hj1 hj2 hv hl hr hjl
  go_enter Try.func18, Try.ntmps18
  go_wp2
  rename_i K0 hK0
  refine gen_wp fun W hW => ?_
  have hA : W.heap[w.heap.size]? = some (.cells #[.int .i64 v.kind, .int .i64 v.n, .string v.s, .int .u64 (v.label : Int)] 25 (0, 0)) := by rw [← hW]; exact blk_alloc (heap_new_at _ _ _ rfl) _
  have hZ : W.heap[w.heap.size + 1]? = some (.cells #[.int .i64 0, .int .i64 0, .string ByteArray.empty, .int .u64 0] 25 (0, 0)) := by rw [← hW]; exact heap_new_at _ _ _ (by simp)
  have hbw : Below w.heap.size w W := by rw [← hW]; exact ((Below.refl _ _).alloc (Nat.le_refl _) _).alloc (by simp) _
  clear hW
  have a3 : W.cell? ⟨w.heap.size, 3, none⟩ = some (.int .u64 (v.label : Int)) := cell_of_blk hA rfl
  have f3 : W.frozen? ⟨w.heap.size, 3, none⟩ = false := free_of_blk hA
  have hlt : w.heap.size < W.heap.size := blk_lt hA
  have HA := Lib.hid hA
  have HZ := Lib.hid hZ
  have HW := Lib.hid hbw
  clear hA hZ hbw
  refine wp_region_noPanic ?_
  refine wp_region_held_drew (S := fun _ => True) (by kernel_rfl) trivial (fun hHeld => ?_)
  refine wpAnyH_take (i := 0) (oi := _) (v := .pointer (some ⟨w.heap.size, 3, none⟩)) rfl (by kernel_rfl) (by kernel_rfl) (by kernel_rfl) (fun _ _ _ h => h) (Or.inl ⟨by rfl, fun w' hS => (by go_simp)⟩) hHeld ?_
  simp only [Act.put, List.setIfInBounds_toArray, List.set_cons_zero, List.set_cons_succ]
  refine wpAnyH_take (i := 2) (oi := _) (v := .slice A l.length c) rfl (by kernel_rfl) (by kernel_rfl) (by kernel_rfl) (fun _ _ _ h => h) (Or.inl ⟨by rfl, fun w' hS => (by go_simp)⟩) hHeld ?_
  simp only [Act.put, List.setIfInBounds_toArray, List.set_cons_zero, List.set_cons_succ]
  refine wpAnyH_ready (rs := [1, 3]) (by kernel_rfl) (by simp) ?_
  refine AllReadyH.cons (o := _) rfl (fun K hK => ?ga) (AllReadyH.cons (o := _) rfl (fun K hK => ?gb) AllReadyH.nil)
  case' ga =>
    go_simp
    refine hK.out _ _ trivial (fun hHeld => ?_)
    clear hK K
    try simp only [Act.put, List.setIfInBounds_toArray, List.set_cons_zero, List.set_cons_succ]
    refine wpAnyH_ready (rs := [3]) (by kernel_rfl) (by simp) ?_
    refine AllReadyH.cons (o := _) rfl (fun K hK => ?_) AllReadyH.nil
    go_simp
    refine (HJ1.out _ HW.out.drew).mono ?_
    rintro e w' ⟨rfl, rfl⟩
    refine hK.out _ _ trivial (fun hHeld => ?_)
    clear hK K
  case' gb =>
    go_simp
    refine (HJ1.out _ HW.out.drew).mono ?_
    rintro e w' ⟨rfl, rfl⟩
    refine hK.out _ _ trivial (fun hHeld => ?_)
    clear hK K
    try simp only [Act.put, List.setIfInBounds_toArray, List.set_cons_zero, List.set_cons_succ]
    refine wpAnyH_ready (rs := [1]) (by kernel_rfl) (by simp) ?_
    refine AllReadyH.cons (o := _) rfl (fun K hK => ?_) AllReadyH.nil
    go_simp
    refine hK.out _ _ trivial (fun hHeld => ?_)
    clear hK K
  all_goals try simp only [Act.put, List.setIfInBounds_toArray, List.set_cons_zero, List.set_cons_succ]
  all_goals refine wpAnyH_ready (rs := [4]) (by kernel_rfl) (by simp) ?_
  all_goals refine AllReadyH.cons (o := _) rfl (fun K hK => ?_) AllReadyH.nil
  all_goals go_simp
  all_goals refine hK.out _ _ trivial (fun hHeld => ?_)
  all_goals clear hK K
  all_goals try simp only [Act.put, List.setIfInBounds_toArray, List.set_cons_zero, List.set_cons_succ]
  all_goals refine wpAnyH_ready (rs := [5]) (by kernel_rfl) (by simp) ?_
  all_goals refine AllReadyH.cons (o := _) rfl (fun K hK => ?_) AllReadyH.nil
  all_goals go_simp
  all_goals refine (HJ2.out _ _ _ _ (blk_drew (heap_alloc_new _ _))).mono ?_
  all_goals rintro e w' ⟨rfl, rfl⟩
  all_goals refine hK.out _ _ trivial (fun hHeld => ?_)
  all_goals clear hK K
  all_goals try simp only [Act.put, List.setIfInBounds_toArray, List.set_cons_zero, List.set_cons_succ]
  all_goals refine wpAnyH_take (i := 6) (oi := _) (v := .pointer (some ⟨w.heap.size, 3, none⟩)) rfl (by kernel_rfl) (by kernel_rfl) (by kernel_rfl) (fun _ _ _ h => h) (Or.inl ⟨by rfl, fun w' hS => (by go_simp)⟩) hHeld ?_
  all_goals try simp only [Act.put, List.setIfInBounds_toArray, List.set_cons_zero, List.set_cons_succ]
  all_goals refine wpAnyH_ready (rs := [7]) (by kernel_rfl) (by simp) ?_
  all_goals refine AllReadyH.cons (o := _) rfl (fun K hK => ?_) AllReadyH.nil
  all_goals go_simp
  all_goals refine hK.out _ _ trivial (fun hHeld => ?_)
  all_goals clear hK K
  all_goals try simp only [Act.put, List.setIfInBounds_toArray, List.set_cons_zero, List.set_cons_succ]
  all_goals refine wpAnyH_done (by kernel_rfl) ?_ _
  all_goals refine NoPanic.normal ?_
  all_goals refine hK0 _ _ ?_
  all_goals refine gen_wp fun W2 hW2 => ?_
  all_goals
    have hA2 : W2.heap[w.heap.size]? = some (.cells #[.int .i64 v.kind, .int .i64 v.n, .string v.s, .int .u64 ((v.label ||| L : Nat) : Int)] 25 (0, 0)) := by rw [← hW2]; exact blk_drew (blk_alloc (blk_set HA.out _) _)
    have hZ2 : W2.heap[w.heap.size + 1]? = some (.cells #[.int .i64 0, .int .i64 0, .string ByteArray.empty, .int .u64 0] 25 (0, 0)) := by rw [← hW2]; exact blk_drew (blk_alloc (blk_far HZ.out (by simp) _) _)
    have hb2 : Below w.heap.size w W2 := by rw [← hW2]; exact (((HW.out).setCell (Nat.le_refl _) _).alloc (by simpa [World.setCell] using Nat.le_of_lt hlt) _).drew
    clear hW2
    have HB2 := Lib.hid hb2
    have z0 := cell_of_blk (i := 0) hA2 rfl
    have z1 := cell_of_blk (i := 1) hA2 rfl
    have z2 := cell_of_blk (i := 2) hA2 rfl
    have z3 := cell_of_blk (i := 3) hA2 rfl
    have y0 := cell_of_blk (i := 0) hZ2 rfl
    have y1 := cell_of_blk (i := 1) hZ2 rfl
    have y2 := cell_of_blk (i := 2) hZ2 rfl
    have y3 := cell_of_blk (i := 3) hZ2 rfl
    have q0 : W2.frozen? ⟨w.heap.size + 1, 0, none⟩ = false := free_of_blk hZ2
    have q1 : W2.frozen? ⟨w.heap.size + 1, 1, none⟩ = false := free_of_blk hZ2
    have q2 : W2.frozen? ⟨w.heap.size + 1, 2, none⟩ = false := free_of_blk hZ2
    have q3 : W2.frozen? ⟨w.heap.size + 1, 3, none⟩ = false := free_of_blk hZ2
    clear a3 f3 hb2
    have hlz := blk_lt hZ2
    have HZ2 := Lib.hid hZ2
    clear hZ2 hA2
    go_wp2
    have hbe : ∀ u0 u1 u2 u3, Below w.heap.size w ((((W2.setCell ⟨w.heap.size + 1, 0, none⟩ u0).setCell ⟨w.heap.size + 1, 1, none⟩ u1).setCell ⟨w.heap.size + 1, 2, none⟩ u2).setCell ⟨w.heap.size + 1, 3, none⟩ u3) := fun u0 u1 u2 u3 => (((HB2.out.setCell (by simp) _).setCell (by simp) _).setCell (by simp) _).setCell (by simp) _
    exact bodyPost_ret (v := .agg #[.int .i64 v.kind, .int .i64 v.n, .string v.s, .int .u64 ((v.label ||| L : Nat) : Int)]) (by simp [results, Try.results18, go_sem, y0, y1, y2, y3]) rfl ⟨rfl, hbe _ _ _ _⟩
end Go.Proofs.Ythhphjfbdoffhaa
