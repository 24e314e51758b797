/-
  TraceAlike: the walk: whether any inputs are alike to anybody, by the program and by the reference.
-/
import Derived.Test.YthgcadikinfdiaaDoorTrN
import Derived.Test.YthgcadikinfdiaaDoorTrM
import Derived.Deep.RegionHeld3
set_option linter.unusedVariables false
set_option linter.unusedSimpArgs false
namespace Go.Proofs.YthgcadikinfdiaaDoor
open Go.ChangeShapes Go.WideShapes Go.ChangeAt Go.RowKit

theorem InsOk.reads {W W' : World} {s : Nat → Sl Int} (h : InsOk W s) (hb : Below W.heap.size W W') : ∀ k, k < 8 → Reads W' W'.heap.size (s k).A (i64s (s k).xs) ∧ (s k).xs.length ≤ 9223372036854775807 := fun k hk =>
  ⟨reads_on (h k hk).1 hb, by have := (h k hk).2; omega⟩
theorem alike_self (xs : Nat → List Int) (m : Nat → Nat) (see : Nat) : alike xs xs m see = true := alike_yes fun _ _ _ => rfl
theorem talike1 (m : Nat → Nat) (see : Nat) (s r : Nat → Sl Int) (w : World) (hm : ∀ i, i < 8 → m i < 18446744073709551616) (hs : see < 18446744073709551616) (h : InsOk w s) (k : InsOk w r) (W : World) (hW : Below w.heap.size w W) :
    Calls Tryd.prog 17 #[.agg #[slV s 0, slV s 1, slV s 2, slV s 3, slV s 4, slV s 5, slV s 6, slV s 7], .agg #[slV r 0, slV r 1, slV r 2, slV r 3, slV r 4, slV r 5, slV r 6, slV r 7], .agg #[mv m 0, mv m 1, mv m 2, mv m 3, mv m 4, mv m 5, mv m 6, mv m 7], .int .u64 (see : Int)] W (RetB (.bool (alike (fun k => (s k).xs) (fun k => (r k).xs) m see)) W) :=
  alike_any (fun k => (s k).xs) (fun k => (r k).xs) (fun k => (s k).A) (fun k => (r k).A) (fun k => (s k).cap) (fun k => (r k).cap) m see W hm hs (h.reads hW) (k.reads hW)
theorem talike2 (m : Nat → Nat) (see : Nat) (s r : Nat → Sl Int) (w : World) (hm : ∀ i, i < 8 → m i < 18446744073709551616) (hs : see < 18446744073709551616) (h : InsOk w s) (k : InsOk w r) (W : World) (hW : Below w.heap.size w W) :
    Calls Tryd.prog 18 #[.agg #[slV s 0, slV s 1, slV s 2, slV s 3, slV s 4, slV s 5, slV s 6, slV s 7], .agg #[slV r 0, slV r 1, slV r 2, slV r 3, slV r 4, slV r 5, slV r 6, slV r 7], .agg #[mv m 0, mv m 1, mv m 2, mv m 3, mv m 4, mv m 5, mv m 6, mv m 7], .int .u64 (see : Int)] W (RetB (.bool (alike (fun k => (s k).xs) (fun k => (r k).xs) m see)) W) :=
  ralike_any (fun k => (s k).xs) (fun k => (r k).xs) (fun k => (s k).A) (fun k => (r k).A) (fun k => (s k).cap) (fun k => (r k).cap) m see W hm hs (h.reads hW) (k.reads hW)
theorem base3 (w : World) (o0 o1 o2 : Obj) : Below w.heap.size w (((w.alloc o0).alloc o1).alloc o2) := (((Below.refl _ w).alloc (Nat.le_refl _) _).alloc (by simp) _).alloc (by simp; omega) _
set_option maxRecDepth 100000 in
set_option maxHeartbeats 2000000 in
theorem talike_walk (m : Nat → Nat) (see : Nat) (s r : Nat → Sl Int) (w : World) (hm : ∀ i, i < 8 → m i < 18446744073709551616) (hs : see < 18446744073709551616) (h : InsOk w s) (k : InsOk w r) (ht : Tab w) :
    Calls Tryd.prog 7 #[.agg (arr8 (slV s)), .agg (arr8 (slV r)), .agg (arr8 (mv m)), .int .u64 (see : Int)] w (RetB (.bool true) w) := by
  have hb3 := base3 w (.cells (arr8 (slV s)) 35) (.cells (arr8 (slV r)) 35) (.cells (arr8 (mv m)) 25)
  have HB3 := Lib.hid hb3
  have HA := Lib.hid (awake25 _ (ht.below hb3))
  have H1 := Lib.hid (talike1 m see s r w hm hs h k)
  have H2 := Lib.hid (talike2 m see s r w hm hs h k)
  have h3 := talike1 m see s s w hm hs h h
  rw [alike_self] at h3
  have H3 := Lib.hid h3
  have HL1 := Lib.hid (fun j hj => (h j hj).2)
  have HL2 := Lib.hid (fun j hj => (k j hj).2)
  clear hb3 hm hs h k ht h3
  go_enter Tryd.func7, Tryd.ntmps7
  go_wp2_with fail
  refine HA.out.mono ?_
  rintro e w0 ⟨rfl, hb0⟩
  have HB0 := Lib.hid (hb0.mono (B' := w.heap.size + 3) (by simp))
  clear hb0
  go_wp2
  go_loopw [12] (fun i wr => ∃ (k : Nat), k ≤ 8 ∧ i = .int .i64 k ∧ Below (w.heap.size + 3) (((w.alloc (.cells (arr8 (slV s)) 35)).alloc (.cells (arr8 (slV r)) 35)).alloc (.cells (arr8 (mv m)) 25)) wr) (fun i _ => 8 - (intOf i).toNat)
  case atStart => exact ⟨0, by omega, rfl, HB0.out⟩
  case round =>
    obtain ⟨k, hk, rfl, hB⟩ := hrel
    obtain ⟨b0, b1, b2⟩ := blk3 hB
    have hsz := hB.size
    simp at hsz
    have HBW := Lib.hid (HB3.out.trans (hB.mono (by omega)))
    have HB := Lib.hid hB
    by_cases hlt : k < 8
    · have f0 : wr.cell? ⟨w.heap.size, k, none⟩ = some (.slice (s k).A (s k).xs.length (s k).cap) := cell_of_blk b0 (eight_arr (slV s) k hlt)
      have f1 : wr.cell? ⟨w.heap.size + 1, k, none⟩ = some (.slice (r k).A (r k).xs.length (r k).cap) := cell_of_blk b1 (eight_arr (slV r) k hlt)
      have l0 := HL1.out k hlt
      have l1 := HL2.out k hlt
      have hk8 : (k : Int) < 8 := by omega
      clear b0 b1 b2 hB
      generalize (s k).xs.length = p at l0 f0
      generalize (r k).xs.length = q at l1 f1
      by_cases hgt : 500 < p + q
      · have hg : (500 : Int) < (p : Int) + (q : Int) := by omega
        go_wp2_with fail
        all_goals go_quiet (fail)
        go_wp2
        go_ret
        exact ⟨rfl, below_drewN HBW.out _⟩
      · have hg : ¬ (500 : Int) < (p : Int) + (q : Int) := by omega
        go_wp2_with fail
        all_goals go_quiet (fail)
        go_wp2
        go_roundw
        case rel => exact ⟨k + 1, by omega, by go_num, below_drewN HB.out _⟩
        case measure => simp [intOf]; omega
    · obtain rfl : k = 8 := by omega
      have B0 := Lib.hid b0
      have B1 := Lib.hid b1
      have B2 := Lib.hid b2
      have l0 := blk_lt b0
      have l1 := blk_lt b1
      have l2 := blk_lt b2
      clear b0 b1 b2 hB
      generalize alike (fun k => (s k).xs) (fun k => (r k).xs) m see = β at H1 H2
      have hbb : (β == β) = true := by simp
      go_wp2_with fail
      refine wp_region_noPanic ?_
      refine wp_region_held_drew (S := fun w' => w'.heap[w.heap.size]? = some (.cells (arr8 (slV s)) 35 (0, 0)) ∧ w'.heap[w.heap.size + 1]? = some (.cells (arr8 (slV r)) 35 (0, 0)) ∧ w'.heap[w.heap.size + 1 + 1]? = some (.cells (arr8 (mv m)) 25 (0, 0))) (by kernel_rfl) (⟨B0.out, B1.out, B2.out⟩) (fun hHeld => ?_)
      refine wpAnyH_take (i := 0) (oi := _) (v := .agg #[slV s 0, slV s 1, slV s 2, slV s 3, slV s 4, slV s 5, slV s 6, slV s 7]) rfl (by kernel_rfl) (by kernel_rfl) (by kernel_rfl) (fun _ _ _ h => h) (Or.inl ⟨by rfl, fun w' hS => (by obtain ⟨s0, s1, s2⟩ := hS; have q0 : w'.cell? ⟨w.heap.size, 0, none⟩ = some (slV s 0) := cell_of_blk s0 rfl; have q1 : w'.cell? ⟨w.heap.size, 1, none⟩ = some (slV s 1) := cell_of_blk s0 rfl; have q2 : w'.cell? ⟨w.heap.size, 2, none⟩ = some (slV s 2) := cell_of_blk s0 rfl; have q3 : w'.cell? ⟨w.heap.size, 3, none⟩ = some (slV s 3) := cell_of_blk s0 rfl; have q4 : w'.cell? ⟨w.heap.size, 4, none⟩ = some (slV s 4) := cell_of_blk s0 rfl; have q5 : w'.cell? ⟨w.heap.size, 5, none⟩ = some (slV s 5) := cell_of_blk s0 rfl; have q6 : w'.cell? ⟨w.heap.size, 6, none⟩ = some (slV s 6) := cell_of_blk s0 rfl; have q7 : w'.cell? ⟨w.heap.size, 7, none⟩ = some (slV s 7) := cell_of_blk s0 rfl; go_simp)⟩) hHeld ?_
      change wpAnyH _ _ _ _ _ _ _ (Act.put _ (some 26) _) _
      try simp only [Act.put, List.setIfInBounds_toArray, List.set_cons_zero, List.set_cons_succ]
      refine wpAnyH_take (i := 1) (oi := _) (v := .agg #[slV r 0, slV r 1, slV r 2, slV r 3, slV r 4, slV r 5, slV r 6, slV r 7]) rfl (by kernel_rfl) (by kernel_rfl) (by kernel_rfl) (fun _ _ _ h => h) (Or.inl ⟨by rfl, fun w' hS => (by obtain ⟨s0, s1, s2⟩ := hS; have q0 : w'.cell? ⟨w.heap.size + 1, 0, none⟩ = some (slV r 0) := cell_of_blk s1 rfl; have q1 : w'.cell? ⟨w.heap.size + 1, 1, none⟩ = some (slV r 1) := cell_of_blk s1 rfl; have q2 : w'.cell? ⟨w.heap.size + 1, 2, none⟩ = some (slV r 2) := cell_of_blk s1 rfl; have q3 : w'.cell? ⟨w.heap.size + 1, 3, none⟩ = some (slV r 3) := cell_of_blk s1 rfl; have q4 : w'.cell? ⟨w.heap.size + 1, 4, none⟩ = some (slV r 4) := cell_of_blk s1 rfl; have q5 : w'.cell? ⟨w.heap.size + 1, 5, none⟩ = some (slV r 5) := cell_of_blk s1 rfl; have q6 : w'.cell? ⟨w.heap.size + 1, 6, none⟩ = some (slV r 6) := cell_of_blk s1 rfl; have q7 : w'.cell? ⟨w.heap.size + 1, 7, none⟩ = some (slV r 7) := cell_of_blk s1 rfl; go_simp)⟩) hHeld ?_
      change wpAnyH _ _ _ _ _ _ _ (Act.put _ (some 27) _) _
      try simp only [Act.put, List.setIfInBounds_toArray, List.set_cons_zero, List.set_cons_succ]
      refine wpAnyH_take (i := 2) (oi := _) (v := .agg #[mv m 0, mv m 1, mv m 2, mv m 3, mv m 4, mv m 5, mv m 6, mv m 7]) rfl (by kernel_rfl) (by kernel_rfl) (by kernel_rfl) (fun _ _ _ h => h) (Or.inl ⟨by rfl, fun w' hS => (by obtain ⟨s0, s1, s2⟩ := hS; have q0 : w'.cell? ⟨w.heap.size + 1 + 1, 0, none⟩ = some (mv m 0) := cell_of_blk s2 rfl; have q1 : w'.cell? ⟨w.heap.size + 1 + 1, 1, none⟩ = some (mv m 1) := cell_of_blk s2 rfl; have q2 : w'.cell? ⟨w.heap.size + 1 + 1, 2, none⟩ = some (mv m 2) := cell_of_blk s2 rfl; have q3 : w'.cell? ⟨w.heap.size + 1 + 1, 3, none⟩ = some (mv m 3) := cell_of_blk s2 rfl; have q4 : w'.cell? ⟨w.heap.size + 1 + 1, 4, none⟩ = some (mv m 4) := cell_of_blk s2 rfl; have q5 : w'.cell? ⟨w.heap.size + 1 + 1, 5, none⟩ = some (mv m 5) := cell_of_blk s2 rfl; have q6 : w'.cell? ⟨w.heap.size + 1 + 1, 6, none⟩ = some (mv m 6) := cell_of_blk s2 rfl; have q7 : w'.cell? ⟨w.heap.size + 1 + 1, 7, none⟩ = some (mv m 7) := cell_of_blk s2 rfl; go_simp)⟩) hHeld ?_
      change wpAnyH _ _ _ _ _ _ _ (Act.put _ (some 28) _) _
      try simp only [Act.put, List.setIfInBounds_toArray, List.set_cons_zero, List.set_cons_succ]
      refine wpAnyH_take (i := 3) (oi := _) (v := .int .u64 (see : Int)) rfl (by kernel_rfl) (by kernel_rfl) (by kernel_rfl) (fun _ _ _ h => h) (Or.inl ⟨by rfl, fun w' hS => (by go_simp)⟩) hHeld ?_
      change wpAnyH _ _ _ _ _ _ _ (Act.put _ (some 29) _) _
      try simp only [Act.put, List.setIfInBounds_toArray, List.set_cons_zero, List.set_cons_succ]
      refine wpAnyH_take (i := 5) (oi := _) (v := .agg #[slV s 0, slV s 1, slV s 2, slV s 3, slV s 4, slV s 5, slV s 6, slV s 7]) rfl (by kernel_rfl) (by kernel_rfl) (by kernel_rfl) (fun _ _ _ h => h) (Or.inl ⟨by rfl, fun w' hS => (by obtain ⟨s0, s1, s2⟩ := hS; have q0 : w'.cell? ⟨w.heap.size, 0, none⟩ = some (slV s 0) := cell_of_blk s0 rfl; have q1 : w'.cell? ⟨w.heap.size, 1, none⟩ = some (slV s 1) := cell_of_blk s0 rfl; have q2 : w'.cell? ⟨w.heap.size, 2, none⟩ = some (slV s 2) := cell_of_blk s0 rfl; have q3 : w'.cell? ⟨w.heap.size, 3, none⟩ = some (slV s 3) := cell_of_blk s0 rfl; have q4 : w'.cell? ⟨w.heap.size, 4, none⟩ = some (slV s 4) := cell_of_blk s0 rfl; have q5 : w'.cell? ⟨w.heap.size, 5, none⟩ = some (slV s 5) := cell_of_blk s0 rfl; have q6 : w'.cell? ⟨w.heap.size, 6, none⟩ = some (slV s 6) := cell_of_blk s0 rfl; have q7 : w'.cell? ⟨w.heap.size, 7, none⟩ = some (slV s 7) := cell_of_blk s0 rfl; go_simp)⟩) hHeld ?_
      change wpAnyH _ _ _ _ _ _ _ (Act.put _ (some 31) _) _
      try simp only [Act.put, List.setIfInBounds_toArray, List.set_cons_zero, List.set_cons_succ]
      refine wpAnyH_take (i := 6) (oi := _) (v := .agg #[slV r 0, slV r 1, slV r 2, slV r 3, slV r 4, slV r 5, slV r 6, slV r 7]) rfl (by kernel_rfl) (by kernel_rfl) (by kernel_rfl) (fun _ _ _ h => h) (Or.inl ⟨by rfl, fun w' hS => (by obtain ⟨s0, s1, s2⟩ := hS; have q0 : w'.cell? ⟨w.heap.size + 1, 0, none⟩ = some (slV r 0) := cell_of_blk s1 rfl; have q1 : w'.cell? ⟨w.heap.size + 1, 1, none⟩ = some (slV r 1) := cell_of_blk s1 rfl; have q2 : w'.cell? ⟨w.heap.size + 1, 2, none⟩ = some (slV r 2) := cell_of_blk s1 rfl; have q3 : w'.cell? ⟨w.heap.size + 1, 3, none⟩ = some (slV r 3) := cell_of_blk s1 rfl; have q4 : w'.cell? ⟨w.heap.size + 1, 4, none⟩ = some (slV r 4) := cell_of_blk s1 rfl; have q5 : w'.cell? ⟨w.heap.size + 1, 5, none⟩ = some (slV r 5) := cell_of_blk s1 rfl; have q6 : w'.cell? ⟨w.heap.size + 1, 6, none⟩ = some (slV r 6) := cell_of_blk s1 rfl; have q7 : w'.cell? ⟨w.heap.size + 1, 7, none⟩ = some (slV r 7) := cell_of_blk s1 rfl; go_simp)⟩) hHeld ?_
      change wpAnyH _ _ _ _ _ _ _ (Act.put _ (some 32) _) _
      try simp only [Act.put, List.setIfInBounds_toArray, List.set_cons_zero, List.set_cons_succ]
      refine wpAnyH_take (i := 7) (oi := _) (v := .agg #[mv m 0, mv m 1, mv m 2, mv m 3, mv m 4, mv m 5, mv m 6, mv m 7]) rfl (by kernel_rfl) (by kernel_rfl) (by kernel_rfl) (fun _ _ _ h => h) (Or.inl ⟨by rfl, fun w' hS => (by obtain ⟨s0, s1, s2⟩ := hS; have q0 : w'.cell? ⟨w.heap.size + 1 + 1, 0, none⟩ = some (mv m 0) := cell_of_blk s2 rfl; have q1 : w'.cell? ⟨w.heap.size + 1 + 1, 1, none⟩ = some (mv m 1) := cell_of_blk s2 rfl; have q2 : w'.cell? ⟨w.heap.size + 1 + 1, 2, none⟩ = some (mv m 2) := cell_of_blk s2 rfl; have q3 : w'.cell? ⟨w.heap.size + 1 + 1, 3, none⟩ = some (mv m 3) := cell_of_blk s2 rfl; have q4 : w'.cell? ⟨w.heap.size + 1 + 1, 4, none⟩ = some (mv m 4) := cell_of_blk s2 rfl; have q5 : w'.cell? ⟨w.heap.size + 1 + 1, 5, none⟩ = some (mv m 5) := cell_of_blk s2 rfl; have q6 : w'.cell? ⟨w.heap.size + 1 + 1, 6, none⟩ = some (mv m 6) := cell_of_blk s2 rfl; have q7 : w'.cell? ⟨w.heap.size + 1 + 1, 7, none⟩ = some (mv m 7) := cell_of_blk s2 rfl; go_simp)⟩) hHeld ?_
      change wpAnyH _ _ _ _ _ _ _ (Act.put _ (some 33) _) _
      try simp only [Act.put, List.setIfInBounds_toArray, List.set_cons_zero, List.set_cons_succ]
      refine wpAnyH_take (i := 8) (oi := _) (v := .int .u64 (see : Int)) rfl (by kernel_rfl) (by kernel_rfl) (by kernel_rfl) (fun _ _ _ h => h) (Or.inl ⟨by rfl, fun w' hS => (by go_simp)⟩) hHeld ?_
      change wpAnyH _ _ _ _ _ _ _ (Act.put _ (some 34) _) _
      try simp only [Act.put, List.setIfInBounds_toArray, List.set_cons_zero, List.set_cons_succ]
      refine wpAnyH_ready (rs := [4]) (by kernel_rfl) (by simp) ?_
      refine AllReadyH.cons (o := _) rfl (fun K hK => ?_) AllReadyH.nil
      go_simp
      refine (H1.out _ (HBW.out.drew)).mono ?_
      rintro e v1 ⟨rfl, hbb1⟩
      have D10 := Lib.hid (below_blk hbb1 (blk_drew B0.out))
      have D11 := Lib.hid (below_blk hbb1 (blk_drew B1.out))
      have D12 := Lib.hid (below_blk hbb1 (blk_drew B2.out))
      have HC1 := Lib.hid ((HBW.out.drew).trans (hbb1.mono (HBW.out.drew).size))
      clear hbb1
      refine hK.out _ _ (⟨D10.out, D11.out, D12.out⟩) (fun hHeld => ?_)
      clear hK K
      try simp only [Act.put, List.setIfInBounds_toArray, List.set_cons_zero, List.set_cons_succ]
      refine wpAnyH_ready (rs := [9]) (by kernel_rfl) (by simp) ?_
      refine AllReadyH.cons (o := _) rfl (fun K hK => ?_) AllReadyH.nil
      go_simp
      refine (H2.out _ (HC1.out)).mono ?_
      rintro e v2 ⟨rfl, hbb2⟩
      have D20 := Lib.hid (below_blk hbb2 D10.out)
      have D21 := Lib.hid (below_blk hbb2 D11.out)
      have D22 := Lib.hid (below_blk hbb2 D12.out)
      have HC2 := Lib.hid ((HC1.out).trans (hbb2.mono (HC1.out).size))
      clear hbb2
      refine hK.out _ _ (⟨D20.out, D21.out, D22.out⟩) (fun hHeld => ?_)
      clear hK K
      try simp only [Act.put, List.setIfInBounds_toArray, List.set_cons_zero, List.set_cons_succ]
      refine wpAnyH_take (i := 10) (oi := _) (v := .bool true) rfl (by kernel_rfl) (by kernel_rfl) (by kernel_rfl) (fun _ _ _ h => h) (Or.inl ⟨by rfl, fun w' hS => (by go_simp)⟩) hHeld ?_
      change wpAnyH _ _ _ _ _ _ _ (Act.put _ (some 36) _) _
      try simp only [Act.put, List.setIfInBounds_toArray, List.set_cons_zero, List.set_cons_succ]
      refine wpAnyH_take (i := 11) (oi := _) (v := .bool true) rfl (by kernel_rfl) (by kernel_rfl) (by kernel_rfl) (fun _ _ _ h => h) (Or.inl ⟨by rfl, fun w' hS => (by go_simp)⟩) hHeld ?_
      change wpAnyH _ _ _ _ _ _ _ (Act.put _ (some 37) _) _
      try simp only [Act.put, List.setIfInBounds_toArray, List.set_cons_zero, List.set_cons_succ]
      refine wpAnyH_take (i := 12) (oi := _) (v := .agg #[slV s 0, slV s 1, slV s 2, slV s 3, slV s 4, slV s 5, slV s 6, slV s 7]) rfl (by kernel_rfl) (by kernel_rfl) (by kernel_rfl) (fun _ _ _ h => h) (Or.inl ⟨by rfl, fun w' hS => (by obtain ⟨s0, s1, s2⟩ := hS; have q0 : w'.cell? ⟨w.heap.size, 0, none⟩ = some (slV s 0) := cell_of_blk s0 rfl; have q1 : w'.cell? ⟨w.heap.size, 1, none⟩ = some (slV s 1) := cell_of_blk s0 rfl; have q2 : w'.cell? ⟨w.heap.size, 2, none⟩ = some (slV s 2) := cell_of_blk s0 rfl; have q3 : w'.cell? ⟨w.heap.size, 3, none⟩ = some (slV s 3) := cell_of_blk s0 rfl; have q4 : w'.cell? ⟨w.heap.size, 4, none⟩ = some (slV s 4) := cell_of_blk s0 rfl; have q5 : w'.cell? ⟨w.heap.size, 5, none⟩ = some (slV s 5) := cell_of_blk s0 rfl; have q6 : w'.cell? ⟨w.heap.size, 6, none⟩ = some (slV s 6) := cell_of_blk s0 rfl; have q7 : w'.cell? ⟨w.heap.size, 7, none⟩ = some (slV s 7) := cell_of_blk s0 rfl; go_simp)⟩) hHeld ?_
      change wpAnyH _ _ _ _ _ _ _ (Act.put _ (some 38) _) _
      try simp only [Act.put, List.setIfInBounds_toArray, List.set_cons_zero, List.set_cons_succ]
      refine wpAnyH_take (i := 13) (oi := _) (v := .agg #[slV s 0, slV s 1, slV s 2, slV s 3, slV s 4, slV s 5, slV s 6, slV s 7]) rfl (by kernel_rfl) (by kernel_rfl) (by kernel_rfl) (fun _ _ _ h => h) (Or.inl ⟨by rfl, fun w' hS => (by obtain ⟨s0, s1, s2⟩ := hS; have q0 : w'.cell? ⟨w.heap.size, 0, none⟩ = some (slV s 0) := cell_of_blk s0 rfl; have q1 : w'.cell? ⟨w.heap.size, 1, none⟩ = some (slV s 1) := cell_of_blk s0 rfl; have q2 : w'.cell? ⟨w.heap.size, 2, none⟩ = some (slV s 2) := cell_of_blk s0 rfl; have q3 : w'.cell? ⟨w.heap.size, 3, none⟩ = some (slV s 3) := cell_of_blk s0 rfl; have q4 : w'.cell? ⟨w.heap.size, 4, none⟩ = some (slV s 4) := cell_of_blk s0 rfl; have q5 : w'.cell? ⟨w.heap.size, 5, none⟩ = some (slV s 5) := cell_of_blk s0 rfl; have q6 : w'.cell? ⟨w.heap.size, 6, none⟩ = some (slV s 6) := cell_of_blk s0 rfl; have q7 : w'.cell? ⟨w.heap.size, 7, none⟩ = some (slV s 7) := cell_of_blk s0 rfl; go_simp)⟩) hHeld ?_
      change wpAnyH _ _ _ _ _ _ _ (Act.put _ (some 39) _) _
      try simp only [Act.put, List.setIfInBounds_toArray, List.set_cons_zero, List.set_cons_succ]
      refine wpAnyH_take (i := 14) (oi := _) (v := .agg #[mv m 0, mv m 1, mv m 2, mv m 3, mv m 4, mv m 5, mv m 6, mv m 7]) rfl (by kernel_rfl) (by kernel_rfl) (by kernel_rfl) (fun _ _ _ h => h) (Or.inl ⟨by rfl, fun w' hS => (by obtain ⟨s0, s1, s2⟩ := hS; have q0 : w'.cell? ⟨w.heap.size + 1 + 1, 0, none⟩ = some (mv m 0) := cell_of_blk s2 rfl; have q1 : w'.cell? ⟨w.heap.size + 1 + 1, 1, none⟩ = some (mv m 1) := cell_of_blk s2 rfl; have q2 : w'.cell? ⟨w.heap.size + 1 + 1, 2, none⟩ = some (mv m 2) := cell_of_blk s2 rfl; have q3 : w'.cell? ⟨w.heap.size + 1 + 1, 3, none⟩ = some (mv m 3) := cell_of_blk s2 rfl; have q4 : w'.cell? ⟨w.heap.size + 1 + 1, 4, none⟩ = some (mv m 4) := cell_of_blk s2 rfl; have q5 : w'.cell? ⟨w.heap.size + 1 + 1, 5, none⟩ = some (mv m 5) := cell_of_blk s2 rfl; have q6 : w'.cell? ⟨w.heap.size + 1 + 1, 6, none⟩ = some (mv m 6) := cell_of_blk s2 rfl; have q7 : w'.cell? ⟨w.heap.size + 1 + 1, 7, none⟩ = some (mv m 7) := cell_of_blk s2 rfl; go_simp)⟩) hHeld ?_
      change wpAnyH _ _ _ _ _ _ _ (Act.put _ (some 40) _) _
      try simp only [Act.put, List.setIfInBounds_toArray, List.set_cons_zero, List.set_cons_succ]
      refine wpAnyH_take (i := 15) (oi := _) (v := .int .u64 (see : Int)) rfl (by kernel_rfl) (by kernel_rfl) (by kernel_rfl) (fun _ _ _ h => h) (Or.inl ⟨by rfl, fun w' hS => (by go_simp)⟩) hHeld ?_
      change wpAnyH _ _ _ _ _ _ _ (Act.put _ (some 41) _) _
      try simp only [Act.put, List.setIfInBounds_toArray, List.set_cons_zero, List.set_cons_succ]
      refine wpAnyH_ready (rs := [16]) (by kernel_rfl) (by simp) ?_
      refine AllReadyH.cons (o := _) rfl (fun K hK => ?_) AllReadyH.nil
      go_simp
      refine (H3.out _ (HC2.out)).mono ?_
      rintro e v3 ⟨rfl, hbb3⟩
      have D30 := Lib.hid (below_blk hbb3 D20.out)
      have D31 := Lib.hid (below_blk hbb3 D21.out)
      have D32 := Lib.hid (below_blk hbb3 D22.out)
      have HC3 := Lib.hid ((HC2.out).trans (hbb3.mono (HC2.out).size))
      clear hbb3
      refine hK.out _ _ (⟨D30.out, D31.out, D32.out⟩) (fun hHeld => ?_)
      clear hK K
      try simp only [Act.put, List.setIfInBounds_toArray, List.set_cons_zero, List.set_cons_succ]
      refine wpAnyH_take (i := 17) (oi := _) (v := .bool true) rfl (by kernel_rfl) (by kernel_rfl) (by kernel_rfl) (fun _ _ _ h => h) (Or.inl ⟨by rfl, fun w' hS => (by go_simp)⟩) hHeld ?_
      change wpAnyH _ _ _ _ _ _ _ (Act.put _ (some 43) _) _
      try simp only [Act.put, List.setIfInBounds_toArray, List.set_cons_zero, List.set_cons_succ]
      refine wpAnyH_take (i := 18) (oi := _) (v := .bool true) rfl (by kernel_rfl) (by kernel_rfl) (by kernel_rfl) (fun _ _ _ h => h) (Or.inl ⟨by rfl, fun w' hS => (by go_simp)⟩) hHeld ?_
      change wpAnyH _ _ _ _ _ _ _ (Act.put _ (some 8) _) _
      try simp only [Act.put, List.setIfInBounds_toArray, List.set_cons_zero, List.set_cons_succ]
      refine wpAnyH_done (by kernel_rfl) ?_ _
      refine NoPanic.normal ?_
      go_wp2
      go_ret
      exact ⟨by first | rfl | simp, HC3.out⟩
end Go.Proofs.YthgcadikinfdiaaDoor
