/-
  RelateSubs, RelateEases: the walks.
-/
import Derived.Test.YtllpicibncdppaaDoorReAwake
import Derived.Test.YtllpicibncdppaaDoorTyCount
set_option linter.unusedVariables false
set_option linter.unusedSimpArgs false
namespace Go.Proofs.YtllpicibncdppaaDoor
open Go.ChangeShapes Go.WideShapes Go.ChangeAt Go.RowKit

theorem boxes1 (w : World) (t : LTy) : TBox (w.alloc (.cells #[.int .i64 t.kind, .slice t.A t.ns.length t.c, .slice t.A2 t.xs.length t.c2] 26)) w.heap.size t ∧ Below w.heap.size w (w.alloc (.cells #[.int .i64 t.kind, .slice t.A t.ns.length t.c, .slice t.A2 t.xs.length t.c2] 26)) := one_box w t
theorem boxes2 (w : World) (t u : LTy) : TBox ((w.alloc (.cells #[.int .i64 t.kind, .slice t.A t.ns.length t.c, .slice t.A2 t.xs.length t.c2] 26)).alloc (.cells #[.int .i64 u.kind, .slice u.A u.ns.length u.c, .slice u.A2 u.xs.length u.c2] 26)) w.heap.size t ∧ TBox ((w.alloc (.cells #[.int .i64 t.kind, .slice t.A t.ns.length t.c, .slice t.A2 t.xs.length t.c2] 26)).alloc (.cells #[.int .i64 u.kind, .slice u.A u.ns.length u.c, .slice u.A2 u.xs.length u.c2] 26)) (w.heap.size + 1) u ∧
    Below w.heap.size w ((w.alloc (.cells #[.int .i64 t.kind, .slice t.A t.ns.length t.c, .slice t.A2 t.xs.length t.c2] 26)).alloc (.cells #[.int .i64 u.kind, .slice u.A u.ns.length u.c, .slice u.A2 u.xs.length u.c2] 26)) := two_boxes w t u
theorem boxes3 (w : World) (t u v : LTy) : TBox (((w.alloc (.cells #[.int .i64 t.kind, .slice t.A t.ns.length t.c, .slice t.A2 t.xs.length t.c2] 26)).alloc (.cells #[.int .i64 u.kind, .slice u.A u.ns.length u.c, .slice u.A2 u.xs.length u.c2] 26)).alloc (.cells #[.int .i64 v.kind, .slice v.A v.ns.length v.c, .slice v.A2 v.xs.length v.c2] 26)) w.heap.size t ∧ TBox (((w.alloc (.cells #[.int .i64 t.kind, .slice t.A t.ns.length t.c, .slice t.A2 t.xs.length t.c2] 26)).alloc (.cells #[.int .i64 u.kind, .slice u.A u.ns.length u.c, .slice u.A2 u.xs.length u.c2] 26)).alloc (.cells #[.int .i64 v.kind, .slice v.A v.ns.length v.c, .slice v.A2 v.xs.length v.c2] 26)) (w.heap.size + 1) u ∧
    TBox (((w.alloc (.cells #[.int .i64 t.kind, .slice t.A t.ns.length t.c, .slice t.A2 t.xs.length t.c2] 26)).alloc (.cells #[.int .i64 u.kind, .slice u.A u.ns.length u.c, .slice u.A2 u.xs.length u.c2] 26)).alloc (.cells #[.int .i64 v.kind, .slice v.A v.ns.length v.c, .slice v.A2 v.xs.length v.c2] 26)) (w.heap.size + 2) v ∧ Below w.heap.size w (((w.alloc (.cells #[.int .i64 t.kind, .slice t.A t.ns.length t.c, .slice t.A2 t.xs.length t.c2] 26)).alloc (.cells #[.int .i64 u.kind, .slice u.A u.ns.length u.c, .slice u.A2 u.xs.length u.c2] 26)).alloc (.cells #[.int .i64 v.kind, .slice v.A v.ns.length v.c, .slice v.A2 v.xs.length v.c2] 26)) :=
  ⟨blk_alloc (two_boxes w t u).1 _, blk_alloc (two_boxes w t u).2.1 _, heap_new_at _ _ _ (by simp), (two_boxes w t u).2.2.alloc (by simp; omega) _⟩
/-- A row of types, new. -/
theorem few_row {w w0 : World} {g : Nat} {cs : Array Value} (ts : List LTy) (hcs : cs.toList = ts.flatMap LTy.enc) (h : w.heap[g]? = some (.cells cs 26 (0, 0))) (hin : ∀ t ∈ ts, LIn w w.heap.size t) (hl : ts.length ≤ 1000) (n : Nat) (hn : ts.length = n) :
    Calls Tryd.prog 22 #[.slice (some ⟨g, 0, none⟩) n n] w (FewsOut ts w) := by
  have hc := few_any ts (some ⟨g, 0, none⟩) n w (.inr ⟨⟨g, 0, none⟩, rfl, blk_lt h, fun j x hx => by
    rw [← hcs, Array.getElem?_toList] at hx
    have := cell_of_blk h hx
    unfold Addr.add
    split
    · rename_i e; subst e; exact this
    · simpa using this⟩) hin hl
  rw [hn] at hc
  exact hc
set_option maxRecDepth 100000 in
set_option maxHeartbeats 8000000 in
theorem relateSubs_walk (t u : LTy) (w : World) (it : LIn w w.heap.size t) (iu : LIn w w.heap.size u) (hsp : SpW w) : Calls Tryd.prog 4 #[t.val, u.val] w (RetB (.bool true) w) := by
  unfold LTy.val
  obtain ⟨ans, hans⟩ : ∃ ans, ans = tb (Sub (strip t) (strip u)) := ⟨_, rfl⟩
  have HA := Lib.hid hans
  clear hans
  obtain ⟨g, hg⟩ : ∃ g, g = w.heap.size := ⟨_, rfl⟩
  have It := Lib.hid it
  have Iu := Lib.hid iu
  have HSP := Lib.hid hsp
  clear hsp it iu
  go_enter Tryd.func4, Tryd.ntmps4
  go_upto_region 1 with fail
  rw [← hg]
  refine gen_wpT fun w0 hW => ?_
  obtain ⟨kt, ku, kb⟩ : TBox w0 (g) t ∧ TBox w0 (g + 1) u ∧ Below w.heap.size w w0 := by rw [← hW, hg]; exact boxes2 w t u
  have Xt0 := Lib.hid kt
  have Xu0 := Lib.hid ku
  have Z0 := Lib.hid kb
  clear hW hg kb kt ku
  have qXt0 := Xt0.out
  have qXt0c0 := qXt0.c0
  have qXt0c1 := qXt0.c1
  have qXt0c2 := qXt0.c2
  have qXt0l := qXt0.lt
  clear qXt0
  have qXu0 := Xu0.out
  have qXu0c0 := qXu0.c0
  have qXu0c1 := qXu0.c1
  have qXu0c2 := qXu0.c2
  have qXu0l := qXu0.lt
  clear qXu0
  go_wp2_with fail
  with_reducible refine (awake10_any _ (HSP.out.below Z0.out)).mono ?_
  rintro e w1 ⟨rfl, hb1⟩
  have Xt1 := Lib.hid (Xt0.out.below hb1)
  have Xu1 := Lib.hid (Xu0.out.below hb1)
  have Z1 := Lib.hid (Z0.out.trans (hb1.mono Z0.out.size))
  clear hb1
  have qXt1 := Xt1.out
  have qXt1c0 := qXt1.c0
  have qXt1c1 := qXt1.c1
  have qXt1c2 := qXt1.c2
  have qXt1l := qXt1.lt
  clear qXt1
  have qXu1 := Xu1.out
  have qXu1c0 := qXu1.c0
  have qXu1c1 := qXu1.c1
  have qXu1c2 := qXu1.c2
  have qXu1l := qXu1.lt
  clear qXu1
  have HROW := Lib.hid (show ∀ w', w' = (w1.alloc (.cells #[.int .i64 t.kind, .slice t.A t.ns.length t.c, .slice t.A2 t.xs.length t.c2, .int .i64 u.kind, .slice u.A u.ns.length u.c, .slice u.A2 u.xs.length u.c2] 26)).drew → Calls Tryd.prog 22 #[.slice (some ⟨w1.heap.size, 0, none⟩) 2 2] w' (FewsOut [t, u] w') ∧ Below w1.heap.size w1 w' from fun w' e => by
    subst e
    have hb : Below w1.heap.size w1 ((w1.alloc (.cells #[.int .i64 t.kind, .slice t.A t.ns.length t.c, .slice t.A2 t.xs.length t.c2, .int .i64 u.kind, .slice u.A u.ns.length u.c, .slice u.A2 u.xs.length u.c2] 26)).drew) := ((Below.refl _ _).alloc (Nat.le_refl _) _).drew
    refine ⟨few_row (w0 := w1) [t, u] rfl (blk_drew (heap_new_at _ _ _ rfl)) (fun x hx => ?_) (by simp) 2 rfl, hb⟩
    simp at hx
    rcases hx with rfl | rfl
    · exact (It.out.on Z1.out).on hb
    · exact (Iu.out.on Z1.out).on hb)
  have HP := Lib.hid (show ∀ w', Below w.heap.size w w' → Calls Tryd.prog 23 #[.agg #[.int .i64 t.kind, .slice t.A t.ns.length t.c, .slice t.A2 t.xs.length t.c2], .agg #[.int .i64 u.kind, .slice u.A u.ns.length u.c, .slice u.A2 u.xs.length u.c2]] w' (RetB (.bool ans) w') from fun w' hb => by
    have := tSub_any t u w' (It.out.on hb) (Iu.out.on hb) (HSP.out.below hb)
    rw [← HA.out] at this
    exact this)
  have HQ := Lib.hid (show ∀ w', Below w.heap.size w w' → Calls Tryd.prog 24 #[.agg #[.int .i64 t.kind, .slice t.A t.ns.length t.c, .slice t.A2 t.xs.length t.c2], .agg #[.int .i64 u.kind, .slice u.A u.ns.length u.c, .slice u.A2 u.xs.length u.c2]] w' (RetB (.bool ans) w') from fun w' hb => by
    have := rSub_any t u w' (It.out.on hb) (Iu.out.on hb)
    rw [← HA.out] at this
    exact this)
  go_wp2_with fail
  refine wp_region_held_drew (S := fun w' => TBox w' g t ∧ TBox w' (g + 1) u) (by kernel_rfl) (⟨Xt1.out, Xu1.out⟩) (fun hHeld => ?_)
  refine wpAnyH_take (i := 0) (oi := _) (v := .agg #[.int .i64 t.kind, .slice t.A t.ns.length t.c, .slice t.A2 t.xs.length t.c2]) rfl (by kernel_rfl) (by kernel_rfl) (by kernel_rfl) (fun _ _ _ h => h) (Or.inl ⟨by rfl, fun w' hS => (by have q0 := TBox.c0 hS.1; have q1 := TBox.c1 hS.1; have q2 := TBox.c2 hS.1; go_simp)⟩) hHeld ?_
  change wpAnyH _ _ _ _ _ _ _ (Act.put _ (some 7) _) _
  try simp only [Act.put, List.setIfInBounds_toArray, List.set_cons_zero, List.set_cons_succ]
  refine wpAnyH_take (i := 1) (oi := _) (v := .agg #[.int .i64 u.kind, .slice u.A u.ns.length u.c, .slice u.A2 u.xs.length u.c2]) rfl (by kernel_rfl) (by kernel_rfl) (by kernel_rfl) (fun _ _ _ h => h) (Or.inl ⟨by rfl, fun w' hS => (by have q0 := TBox.c0 hS.2; have q1 := TBox.c1 hS.2; have q2 := TBox.c2 hS.2; go_simp)⟩) hHeld ?_
  change wpAnyH _ _ _ _ _ _ _ (Act.put _ (some 8) _) _
  try simp only [Act.put, List.setIfInBounds_toArray, List.set_cons_zero, List.set_cons_succ]
  refine wpAnyH_ready (rs := [2]) (by kernel_rfl) (by simp) ?_
  refine AllReadyH.cons (o := _) rfl (fun K hK => ?_) AllReadyH.nil
  go_simp
  refine hK.out _ _ (⟨Xt1.out.below (HROW.out _ rfl).2, Xu1.out.below (HROW.out _ rfl).2⟩) (fun hHeld => ?_)
  clear hK K
  try simp only [Act.put, List.setIfInBounds_toArray, List.set_cons_zero, List.set_cons_succ]
  refine wpAnyH_ready (rs := [3]) (by kernel_rfl) (by simp) ?_
  refine AllReadyH.cons (o := _) rfl (fun K hK => ?_) AllReadyH.nil
  go_simp
  with_reducible refine (HROW.out _ rfl).1.mono ?_
  rintro e w2 ⟨hb2, b, rfl, _⟩
  have B2 := Lib.hid ((HROW.out _ rfl).2.trans (hb2.mono (HROW.out _ rfl).2.size))
  clear hb2
  cases b with
  | false =>
    refine hK.out _ _ (⟨Xt1.out.below B2.out, Xu1.out.below B2.out⟩) (fun hHeld => ?_)
    clear hK K
    try simp only [Act.put, List.setIfInBounds_toArray, List.set_cons_zero, List.set_cons_succ]
    refine wpAnyH_take (i := 4) (oi := _) (v := .bool true) rfl (by kernel_rfl) (by kernel_rfl) (by kernel_rfl) (fun _ _ _ h => h) (Or.inl ⟨by rfl, fun w' hS => (by go_simp)⟩) hHeld ?_
    change wpAnyH _ _ _ _ _ _ _ (Act.put _ (some 11) _) _
    try simp only [Act.put, List.setIfInBounds_toArray, List.set_cons_zero, List.set_cons_succ]
    refine wpAnyH_take (i := 5) (oi := _) (v := .bool true) rfl (by kernel_rfl) (by kernel_rfl) (by kernel_rfl) (fun _ _ _ h => h) (Or.inl ⟨by rfl, fun w' hS => (by go_simp)⟩) hHeld ?_
    change wpAnyH _ _ _ _ _ _ _ (Act.put _ (some 12) _) _
    try simp only [Act.put, List.setIfInBounds_toArray, List.set_cons_zero, List.set_cons_succ]
    refine wpAnyH_take (i := 6) (oi := _) (v := undef) rfl (by kernel_rfl) (by kernel_rfl) (by kernel_rfl) (fun _ _ _ h => h) (Or.inr ⟨by kernel_rfl, rfl⟩) hHeld ?_
    change wpAnyH _ _ _ _ _ _ _ (Act.put _ (some 13) _) _
    try simp only [Act.put, List.setIfInBounds_toArray, List.set_cons_zero, List.set_cons_succ]
    refine wpAnyH_take (i := 7) (oi := _) (v := undef) rfl (by kernel_rfl) (by kernel_rfl) (by kernel_rfl) (fun _ _ _ h => h) (Or.inr ⟨by kernel_rfl, rfl⟩) hHeld ?_
    change wpAnyH _ _ _ _ _ _ _ (Act.put _ (some 14) _) _
    try simp only [Act.put, List.setIfInBounds_toArray, List.set_cons_zero, List.set_cons_succ]
    refine wpAnyH_take (i := 9) (oi := _) (v := undef) rfl (by kernel_rfl) (by kernel_rfl) (by kernel_rfl) (fun _ _ _ h => h) (Or.inr ⟨by kernel_rfl, rfl⟩) hHeld ?_
    change wpAnyH _ _ _ _ _ _ _ (Act.put _ (some 16) _) _
    try simp only [Act.put, List.setIfInBounds_toArray, List.set_cons_zero, List.set_cons_succ]
    refine wpAnyH_take (i := 10) (oi := _) (v := undef) rfl (by kernel_rfl) (by kernel_rfl) (by kernel_rfl) (fun _ _ _ h => h) (Or.inr ⟨by kernel_rfl, rfl⟩) hHeld ?_
    change wpAnyH _ _ _ _ _ _ _ (Act.put _ (some 17) _) _
    try simp only [Act.put, List.setIfInBounds_toArray, List.set_cons_zero, List.set_cons_succ]
    refine wpAnyH_take (i := 8) (oi := _) (v := undef) rfl (by kernel_rfl) (by kernel_rfl) (by kernel_rfl) (fun _ _ _ h => h) (Or.inr ⟨by kernel_rfl, rfl⟩) hHeld ?_
    change wpAnyH _ _ _ _ _ _ _ (Act.put _ (some 15) _) _
    try simp only [Act.put, List.setIfInBounds_toArray, List.set_cons_zero, List.set_cons_succ]
    refine wpAnyH_take (i := 11) (oi := _) (v := undef) rfl (by kernel_rfl) (by kernel_rfl) (by kernel_rfl) (fun _ _ _ h => h) (Or.inr ⟨by kernel_rfl, rfl⟩) hHeld ?_
    change wpAnyH _ _ _ _ _ _ _ (Act.put _ (some 18) _) _
    try simp only [Act.put, List.setIfInBounds_toArray, List.set_cons_zero, List.set_cons_succ]
    refine wpAnyH_take (i := 12) (oi := _) (v := undef) rfl (by kernel_rfl) (by kernel_rfl) (by kernel_rfl) (fun _ _ _ h => h) (Or.inr ⟨by kernel_rfl, rfl⟩) hHeld ?_
    change wpAnyH _ _ _ _ _ _ _ (Act.put _ (some 19) _) _
    try simp only [Act.put, List.setIfInBounds_toArray, List.set_cons_zero, List.set_cons_succ]
    refine wpAnyH_take (i := 13) (oi := _) (v := .bool true) rfl (by kernel_rfl) (by kernel_rfl) (by kernel_rfl) (fun _ _ _ h => h) (Or.inl ⟨by rfl, fun w' hS => (by go_simp)⟩) hHeld ?_
    change wpAnyH _ _ _ _ _ _ _ (Act.put _ (some 20) _) _
    try simp only [Act.put, List.setIfInBounds_toArray, List.set_cons_zero, List.set_cons_succ]
    refine wpAnyH_take (i := 14) (oi := _) (v := .bool true) rfl (by kernel_rfl) (by kernel_rfl) (by kernel_rfl) (fun _ _ _ h => h) (Or.inl ⟨by rfl, fun w' hS => (by go_simp)⟩) hHeld ?_
    change wpAnyH _ _ _ _ _ _ _ (Act.put _ (some 4) _) _
    try simp only [Act.put, List.setIfInBounds_toArray, List.set_cons_zero, List.set_cons_succ]
    refine wpAnyH_done (by kernel_rfl) ?_ _
    go_wp2
    go_ret
    exact ⟨rfl, Z1.out.trans (B2.out.mono Z1.out.size)⟩
  | true =>
    refine hK.out _ _ (⟨Xt1.out.below B2.out, Xu1.out.below B2.out⟩) (fun hHeld => ?_)
    clear hK K
    try simp only [Act.put, List.setIfInBounds_toArray, List.set_cons_zero, List.set_cons_succ]
    refine wpAnyH_take (i := 4) (oi := _) (v := .bool false) rfl (by kernel_rfl) (by kernel_rfl) (by kernel_rfl) (fun _ _ _ h => h) (Or.inl ⟨by rfl, fun w' hS => (by go_simp)⟩) hHeld ?_
    change wpAnyH _ _ _ _ _ _ _ (Act.put _ (some 11) _) _
    try simp only [Act.put, List.setIfInBounds_toArray, List.set_cons_zero, List.set_cons_succ]
    refine wpAnyH_take (i := 5) (oi := _) (v := .bool false) rfl (by kernel_rfl) (by kernel_rfl) (by kernel_rfl) (fun _ _ _ h => h) (Or.inl ⟨by rfl, fun w' hS => (by go_simp)⟩) hHeld ?_
    change wpAnyH _ _ _ _ _ _ _ (Act.put _ (some 12) _) _
    try simp only [Act.put, List.setIfInBounds_toArray, List.set_cons_zero, List.set_cons_succ]
    refine wpAnyH_take (i := 6) (oi := _) (v := .agg #[.int .i64 t.kind, .slice t.A t.ns.length t.c, .slice t.A2 t.xs.length t.c2]) rfl (by kernel_rfl) (by kernel_rfl) (by kernel_rfl) (fun _ _ _ h => h) (Or.inl ⟨by rfl, fun w' hS => (by have q0 := TBox.c0 hS.1; have q1 := TBox.c1 hS.1; have q2 := TBox.c2 hS.1; go_simp)⟩) hHeld ?_
    change wpAnyH _ _ _ _ _ _ _ (Act.put _ (some 13) _) _
    try simp only [Act.put, List.setIfInBounds_toArray, List.set_cons_zero, List.set_cons_succ]
    refine wpAnyH_take (i := 7) (oi := _) (v := .agg #[.int .i64 u.kind, .slice u.A u.ns.length u.c, .slice u.A2 u.xs.length u.c2]) rfl (by kernel_rfl) (by kernel_rfl) (by kernel_rfl) (fun _ _ _ h => h) (Or.inl ⟨by rfl, fun w' hS => (by have q0 := TBox.c0 hS.2; have q1 := TBox.c1 hS.2; have q2 := TBox.c2 hS.2; go_simp)⟩) hHeld ?_
    change wpAnyH _ _ _ _ _ _ _ (Act.put _ (some 14) _) _
    try simp only [Act.put, List.setIfInBounds_toArray, List.set_cons_zero, List.set_cons_succ]
    refine wpAnyH_take (i := 9) (oi := _) (v := .agg #[.int .i64 t.kind, .slice t.A t.ns.length t.c, .slice t.A2 t.xs.length t.c2]) rfl (by kernel_rfl) (by kernel_rfl) (by kernel_rfl) (fun _ _ _ h => h) (Or.inl ⟨by rfl, fun w' hS => (by have q0 := TBox.c0 hS.1; have q1 := TBox.c1 hS.1; have q2 := TBox.c2 hS.1; go_simp)⟩) hHeld ?_
    change wpAnyH _ _ _ _ _ _ _ (Act.put _ (some 16) _) _
    try simp only [Act.put, List.setIfInBounds_toArray, List.set_cons_zero, List.set_cons_succ]
    refine wpAnyH_take (i := 10) (oi := _) (v := .agg #[.int .i64 u.kind, .slice u.A u.ns.length u.c, .slice u.A2 u.xs.length u.c2]) rfl (by kernel_rfl) (by kernel_rfl) (by kernel_rfl) (fun _ _ _ h => h) (Or.inl ⟨by rfl, fun w' hS => (by have q0 := TBox.c0 hS.2; have q1 := TBox.c1 hS.2; have q2 := TBox.c2 hS.2; go_simp)⟩) hHeld ?_
    change wpAnyH _ _ _ _ _ _ _ (Act.put _ (some 17) _) _
    try simp only [Act.put, List.setIfInBounds_toArray, List.set_cons_zero, List.set_cons_succ]
    refine wpAnyH_ready (rs := [8]) (by kernel_rfl) (by simp) ?_
    refine AllReadyH.cons (o := _) rfl (fun K hK => ?_) AllReadyH.nil
    go_simp
    with_reducible refine (HP.out _ (Z1.out.trans (B2.out.mono Z1.out.size))).mono ?_
    rintro e w3 ⟨rfl, hb3⟩
    have B3 := Lib.hid (B2.out.trans (hb3.mono B2.out.size))
    clear hb3
    refine hK.out _ _ (⟨Xt1.out.below B3.out, Xu1.out.below B3.out⟩) (fun hHeld => ?_)
    clear hK K
    try simp only [Act.put, List.setIfInBounds_toArray, List.set_cons_zero, List.set_cons_succ]
    refine wpAnyH_ready (rs := [11]) (by kernel_rfl) (by simp) ?_
    refine AllReadyH.cons (o := _) rfl (fun K hK => ?_) AllReadyH.nil
    go_simp
    with_reducible refine (HQ.out _ (Z1.out.trans (B3.out.mono Z1.out.size))).mono ?_
    rintro e w4 ⟨rfl, hb4⟩
    have B4 := Lib.hid (B3.out.trans (hb4.mono B3.out.size))
    clear hb4
    refine hK.out _ _ (⟨Xt1.out.below B4.out, Xu1.out.below B4.out⟩) (fun hHeld => ?_)
    clear hK K
    try simp only [Act.put, List.setIfInBounds_toArray, List.set_cons_zero, List.set_cons_succ]
    refine wpAnyH_take (i := 12) (oi := _) (v := .bool true) rfl (by kernel_rfl) (by kernel_rfl) (by kernel_rfl) (fun _ _ _ h => h) (Or.inl ⟨by rfl, fun w' hS => (by go_simp)⟩) hHeld ?_
    change wpAnyH _ _ _ _ _ _ _ (Act.put _ (some 19) _) _
    try simp only [Act.put, List.setIfInBounds_toArray, List.set_cons_zero, List.set_cons_succ]
    refine wpAnyH_take (i := 13) (oi := _) (v := .bool true) rfl (by kernel_rfl) (by kernel_rfl) (by kernel_rfl) (fun _ _ _ h => h) (Or.inl ⟨by rfl, fun w' hS => (by go_simp)⟩) hHeld ?_
    change wpAnyH _ _ _ _ _ _ _ (Act.put _ (some 20) _) _
    try simp only [Act.put, List.setIfInBounds_toArray, List.set_cons_zero, List.set_cons_succ]
    refine wpAnyH_take (i := 14) (oi := _) (v := .bool true) rfl (by kernel_rfl) (by kernel_rfl) (by kernel_rfl) (fun _ _ _ h => h) (Or.inl ⟨by rfl, fun w' hS => (by go_simp)⟩) hHeld ?_
    change wpAnyH _ _ _ _ _ _ _ (Act.put _ (some 4) _) _
    try simp only [Act.put, List.setIfInBounds_toArray, List.set_cons_zero, List.set_cons_succ]
    refine wpAnyH_done (by kernel_rfl) ?_ _
    go_wp2
    go_ret
    exact ⟨rfl, Z1.out.trans (B4.out.mono Z1.out.size)⟩
set_option maxRecDepth 100000 in
set_option maxHeartbeats 8000000 in
theorem relateEases_walk (t u : LTy) (w : World) (it : LIn w w.heap.size t) (iu : LIn w w.heap.size u) (hsp : SpW w) : Calls Tryd.prog 5 #[t.val, u.val] w (RetB (.bool true) w) := by
  unfold LTy.val
  obtain ⟨ans, hans⟩ : ∃ ans, ans = tb (Ease (strip t) (strip u)) := ⟨_, rfl⟩
  have HA := Lib.hid hans
  clear hans
  obtain ⟨g, hg⟩ : ∃ g, g = w.heap.size := ⟨_, rfl⟩
  have It := Lib.hid it
  have Iu := Lib.hid iu
  have HSP := Lib.hid hsp
  clear hsp it iu
  go_enter Tryd.func5, Tryd.ntmps5
  go_upto_region 1 with fail
  rw [← hg]
  refine gen_wpT fun w0 hW => ?_
  obtain ⟨kt, ku, kb⟩ : TBox w0 (g) t ∧ TBox w0 (g + 1) u ∧ Below w.heap.size w w0 := by rw [← hW, hg]; exact boxes2 w t u
  have Xt0 := Lib.hid kt
  have Xu0 := Lib.hid ku
  have Z0 := Lib.hid kb
  clear hW hg kb kt ku
  have qXt0 := Xt0.out
  have qXt0c0 := qXt0.c0
  have qXt0c1 := qXt0.c1
  have qXt0c2 := qXt0.c2
  have qXt0l := qXt0.lt
  clear qXt0
  have qXu0 := Xu0.out
  have qXu0c0 := qXu0.c0
  have qXu0c1 := qXu0.c1
  have qXu0c2 := qXu0.c2
  have qXu0l := qXu0.lt
  clear qXu0
  go_wp2_with fail
  with_reducible refine (awake10_any _ (HSP.out.below Z0.out)).mono ?_
  rintro e w1 ⟨rfl, hb1⟩
  have Xt1 := Lib.hid (Xt0.out.below hb1)
  have Xu1 := Lib.hid (Xu0.out.below hb1)
  have Z1 := Lib.hid (Z0.out.trans (hb1.mono Z0.out.size))
  clear hb1
  have qXt1 := Xt1.out
  have qXt1c0 := qXt1.c0
  have qXt1c1 := qXt1.c1
  have qXt1c2 := qXt1.c2
  have qXt1l := qXt1.lt
  clear qXt1
  have qXu1 := Xu1.out
  have qXu1c0 := qXu1.c0
  have qXu1c1 := qXu1.c1
  have qXu1c2 := qXu1.c2
  have qXu1l := qXu1.lt
  clear qXu1
  have HROW := Lib.hid (show ∀ w', w' = (w1.alloc (.cells #[.int .i64 t.kind, .slice t.A t.ns.length t.c, .slice t.A2 t.xs.length t.c2, .int .i64 u.kind, .slice u.A u.ns.length u.c, .slice u.A2 u.xs.length u.c2] 26)).drew → Calls Tryd.prog 22 #[.slice (some ⟨w1.heap.size, 0, none⟩) 2 2] w' (FewsOut [t, u] w') ∧ Below w1.heap.size w1 w' from fun w' e => by
    subst e
    have hb : Below w1.heap.size w1 ((w1.alloc (.cells #[.int .i64 t.kind, .slice t.A t.ns.length t.c, .slice t.A2 t.xs.length t.c2, .int .i64 u.kind, .slice u.A u.ns.length u.c, .slice u.A2 u.xs.length u.c2] 26)).drew) := ((Below.refl _ _).alloc (Nat.le_refl _) _).drew
    refine ⟨few_row (w0 := w1) [t, u] rfl (blk_drew (heap_new_at _ _ _ rfl)) (fun x hx => ?_) (by simp) 2 rfl, hb⟩
    simp at hx
    rcases hx with rfl | rfl
    · exact (It.out.on Z1.out).on hb
    · exact (Iu.out.on Z1.out).on hb)
  have HP := Lib.hid (show ∀ w', Below w.heap.size w w' → Calls Tryd.prog 25 #[.agg #[.int .i64 t.kind, .slice t.A t.ns.length t.c, .slice t.A2 t.xs.length t.c2], .agg #[.int .i64 u.kind, .slice u.A u.ns.length u.c, .slice u.A2 u.xs.length u.c2]] w' (RetB (.bool ans) w') from fun w' hb => by
    have := tEase_any t u w' (It.out.on hb) (Iu.out.on hb) (HSP.out.below hb)
    rw [← HA.out] at this
    exact this)
  have HQ := Lib.hid (show ∀ w', Below w.heap.size w w' → Calls Tryd.prog 26 #[.agg #[.int .i64 t.kind, .slice t.A t.ns.length t.c, .slice t.A2 t.xs.length t.c2], .agg #[.int .i64 u.kind, .slice u.A u.ns.length u.c, .slice u.A2 u.xs.length u.c2]] w' (RetB (.bool ans) w') from fun w' hb => by
    have := rEase_any t u w' (It.out.on hb) (Iu.out.on hb)
    rw [← HA.out] at this
    exact this)
  go_wp2_with fail
  refine wp_region_held_drew (S := fun w' => TBox w' g t ∧ TBox w' (g + 1) u) (by kernel_rfl) (⟨Xt1.out, Xu1.out⟩) (fun hHeld => ?_)
  refine wpAnyH_take (i := 0) (oi := _) (v := .agg #[.int .i64 t.kind, .slice t.A t.ns.length t.c, .slice t.A2 t.xs.length t.c2]) rfl (by kernel_rfl) (by kernel_rfl) (by kernel_rfl) (fun _ _ _ h => h) (Or.inl ⟨by rfl, fun w' hS => (by have q0 := TBox.c0 hS.1; have q1 := TBox.c1 hS.1; have q2 := TBox.c2 hS.1; go_simp)⟩) hHeld ?_
  change wpAnyH _ _ _ _ _ _ _ (Act.put _ (some 7) _) _
  try simp only [Act.put, List.setIfInBounds_toArray, List.set_cons_zero, List.set_cons_succ]
  refine wpAnyH_take (i := 1) (oi := _) (v := .agg #[.int .i64 u.kind, .slice u.A u.ns.length u.c, .slice u.A2 u.xs.length u.c2]) rfl (by kernel_rfl) (by kernel_rfl) (by kernel_rfl) (fun _ _ _ h => h) (Or.inl ⟨by rfl, fun w' hS => (by have q0 := TBox.c0 hS.2; have q1 := TBox.c1 hS.2; have q2 := TBox.c2 hS.2; go_simp)⟩) hHeld ?_
  change wpAnyH _ _ _ _ _ _ _ (Act.put _ (some 8) _) _
  try simp only [Act.put, List.setIfInBounds_toArray, List.set_cons_zero, List.set_cons_succ]
  refine wpAnyH_ready (rs := [2]) (by kernel_rfl) (by simp) ?_
  refine AllReadyH.cons (o := _) rfl (fun K hK => ?_) AllReadyH.nil
  go_simp
  refine hK.out _ _ (⟨Xt1.out.below (HROW.out _ rfl).2, Xu1.out.below (HROW.out _ rfl).2⟩) (fun hHeld => ?_)
  clear hK K
  try simp only [Act.put, List.setIfInBounds_toArray, List.set_cons_zero, List.set_cons_succ]
  refine wpAnyH_ready (rs := [3]) (by kernel_rfl) (by simp) ?_
  refine AllReadyH.cons (o := _) rfl (fun K hK => ?_) AllReadyH.nil
  go_simp
  with_reducible refine (HROW.out _ rfl).1.mono ?_
  rintro e w2 ⟨hb2, b, rfl, _⟩
  have B2 := Lib.hid ((HROW.out _ rfl).2.trans (hb2.mono (HROW.out _ rfl).2.size))
  clear hb2
  cases b with
  | false =>
    refine hK.out _ _ (⟨Xt1.out.below B2.out, Xu1.out.below B2.out⟩) (fun hHeld => ?_)
    clear hK K
    try simp only [Act.put, List.setIfInBounds_toArray, List.set_cons_zero, List.set_cons_succ]
    refine wpAnyH_take (i := 4) (oi := _) (v := .bool true) rfl (by kernel_rfl) (by kernel_rfl) (by kernel_rfl) (fun _ _ _ h => h) (Or.inl ⟨by rfl, fun w' hS => (by go_simp)⟩) hHeld ?_
    change wpAnyH _ _ _ _ _ _ _ (Act.put _ (some 11) _) _
    try simp only [Act.put, List.setIfInBounds_toArray, List.set_cons_zero, List.set_cons_succ]
    refine wpAnyH_take (i := 5) (oi := _) (v := .bool true) rfl (by kernel_rfl) (by kernel_rfl) (by kernel_rfl) (fun _ _ _ h => h) (Or.inl ⟨by rfl, fun w' hS => (by go_simp)⟩) hHeld ?_
    change wpAnyH _ _ _ _ _ _ _ (Act.put _ (some 12) _) _
    try simp only [Act.put, List.setIfInBounds_toArray, List.set_cons_zero, List.set_cons_succ]
    refine wpAnyH_take (i := 6) (oi := _) (v := undef) rfl (by kernel_rfl) (by kernel_rfl) (by kernel_rfl) (fun _ _ _ h => h) (Or.inr ⟨by kernel_rfl, rfl⟩) hHeld ?_
    change wpAnyH _ _ _ _ _ _ _ (Act.put _ (some 13) _) _
    try simp only [Act.put, List.setIfInBounds_toArray, List.set_cons_zero, List.set_cons_succ]
    refine wpAnyH_take (i := 7) (oi := _) (v := undef) rfl (by kernel_rfl) (by kernel_rfl) (by kernel_rfl) (fun _ _ _ h => h) (Or.inr ⟨by kernel_rfl, rfl⟩) hHeld ?_
    change wpAnyH _ _ _ _ _ _ _ (Act.put _ (some 14) _) _
    try simp only [Act.put, List.setIfInBounds_toArray, List.set_cons_zero, List.set_cons_succ]
    refine wpAnyH_take (i := 9) (oi := _) (v := undef) rfl (by kernel_rfl) (by kernel_rfl) (by kernel_rfl) (fun _ _ _ h => h) (Or.inr ⟨by kernel_rfl, rfl⟩) hHeld ?_
    change wpAnyH _ _ _ _ _ _ _ (Act.put _ (some 16) _) _
    try simp only [Act.put, List.setIfInBounds_toArray, List.set_cons_zero, List.set_cons_succ]
    refine wpAnyH_take (i := 10) (oi := _) (v := undef) rfl (by kernel_rfl) (by kernel_rfl) (by kernel_rfl) (fun _ _ _ h => h) (Or.inr ⟨by kernel_rfl, rfl⟩) hHeld ?_
    change wpAnyH _ _ _ _ _ _ _ (Act.put _ (some 17) _) _
    try simp only [Act.put, List.setIfInBounds_toArray, List.set_cons_zero, List.set_cons_succ]
    refine wpAnyH_take (i := 8) (oi := _) (v := undef) rfl (by kernel_rfl) (by kernel_rfl) (by kernel_rfl) (fun _ _ _ h => h) (Or.inr ⟨by kernel_rfl, rfl⟩) hHeld ?_
    change wpAnyH _ _ _ _ _ _ _ (Act.put _ (some 15) _) _
    try simp only [Act.put, List.setIfInBounds_toArray, List.set_cons_zero, List.set_cons_succ]
    refine wpAnyH_take (i := 11) (oi := _) (v := undef) rfl (by kernel_rfl) (by kernel_rfl) (by kernel_rfl) (fun _ _ _ h => h) (Or.inr ⟨by kernel_rfl, rfl⟩) hHeld ?_
    change wpAnyH _ _ _ _ _ _ _ (Act.put _ (some 18) _) _
    try simp only [Act.put, List.setIfInBounds_toArray, List.set_cons_zero, List.set_cons_succ]
    refine wpAnyH_take (i := 12) (oi := _) (v := undef) rfl (by kernel_rfl) (by kernel_rfl) (by kernel_rfl) (fun _ _ _ h => h) (Or.inr ⟨by kernel_rfl, rfl⟩) hHeld ?_
    change wpAnyH _ _ _ _ _ _ _ (Act.put _ (some 19) _) _
    try simp only [Act.put, List.setIfInBounds_toArray, List.set_cons_zero, List.set_cons_succ]
    refine wpAnyH_take (i := 13) (oi := _) (v := .bool true) rfl (by kernel_rfl) (by kernel_rfl) (by kernel_rfl) (fun _ _ _ h => h) (Or.inl ⟨by rfl, fun w' hS => (by go_simp)⟩) hHeld ?_
    change wpAnyH _ _ _ _ _ _ _ (Act.put _ (some 20) _) _
    try simp only [Act.put, List.setIfInBounds_toArray, List.set_cons_zero, List.set_cons_succ]
    refine wpAnyH_take (i := 14) (oi := _) (v := .bool true) rfl (by kernel_rfl) (by kernel_rfl) (by kernel_rfl) (fun _ _ _ h => h) (Or.inl ⟨by rfl, fun w' hS => (by go_simp)⟩) hHeld ?_
    change wpAnyH _ _ _ _ _ _ _ (Act.put _ (some 4) _) _
    try simp only [Act.put, List.setIfInBounds_toArray, List.set_cons_zero, List.set_cons_succ]
    refine wpAnyH_done (by kernel_rfl) ?_ _
    go_wp2
    go_ret
    exact ⟨rfl, Z1.out.trans (B2.out.mono Z1.out.size)⟩
  | true =>
    refine hK.out _ _ (⟨Xt1.out.below B2.out, Xu1.out.below B2.out⟩) (fun hHeld => ?_)
    clear hK K
    try simp only [Act.put, List.setIfInBounds_toArray, List.set_cons_zero, List.set_cons_succ]
    refine wpAnyH_take (i := 4) (oi := _) (v := .bool false) rfl (by kernel_rfl) (by kernel_rfl) (by kernel_rfl) (fun _ _ _ h => h) (Or.inl ⟨by rfl, fun w' hS => (by go_simp)⟩) hHeld ?_
    change wpAnyH _ _ _ _ _ _ _ (Act.put _ (some 11) _) _
    try simp only [Act.put, List.setIfInBounds_toArray, List.set_cons_zero, List.set_cons_succ]
    refine wpAnyH_take (i := 5) (oi := _) (v := .bool false) rfl (by kernel_rfl) (by kernel_rfl) (by kernel_rfl) (fun _ _ _ h => h) (Or.inl ⟨by rfl, fun w' hS => (by go_simp)⟩) hHeld ?_
    change wpAnyH _ _ _ _ _ _ _ (Act.put _ (some 12) _) _
    try simp only [Act.put, List.setIfInBounds_toArray, List.set_cons_zero, List.set_cons_succ]
    refine wpAnyH_take (i := 6) (oi := _) (v := .agg #[.int .i64 t.kind, .slice t.A t.ns.length t.c, .slice t.A2 t.xs.length t.c2]) rfl (by kernel_rfl) (by kernel_rfl) (by kernel_rfl) (fun _ _ _ h => h) (Or.inl ⟨by rfl, fun w' hS => (by have q0 := TBox.c0 hS.1; have q1 := TBox.c1 hS.1; have q2 := TBox.c2 hS.1; go_simp)⟩) hHeld ?_
    change wpAnyH _ _ _ _ _ _ _ (Act.put _ (some 13) _) _
    try simp only [Act.put, List.setIfInBounds_toArray, List.set_cons_zero, List.set_cons_succ]
    refine wpAnyH_take (i := 7) (oi := _) (v := .agg #[.int .i64 u.kind, .slice u.A u.ns.length u.c, .slice u.A2 u.xs.length u.c2]) rfl (by kernel_rfl) (by kernel_rfl) (by kernel_rfl) (fun _ _ _ h => h) (Or.inl ⟨by rfl, fun w' hS => (by have q0 := TBox.c0 hS.2; have q1 := TBox.c1 hS.2; have q2 := TBox.c2 hS.2; go_simp)⟩) hHeld ?_
    change wpAnyH _ _ _ _ _ _ _ (Act.put _ (some 14) _) _
    try simp only [Act.put, List.setIfInBounds_toArray, List.set_cons_zero, List.set_cons_succ]
    refine wpAnyH_take (i := 9) (oi := _) (v := .agg #[.int .i64 t.kind, .slice t.A t.ns.length t.c, .slice t.A2 t.xs.length t.c2]) rfl (by kernel_rfl) (by kernel_rfl) (by kernel_rfl) (fun _ _ _ h => h) (Or.inl ⟨by rfl, fun w' hS => (by have q0 := TBox.c0 hS.1; have q1 := TBox.c1 hS.1; have q2 := TBox.c2 hS.1; go_simp)⟩) hHeld ?_
    change wpAnyH _ _ _ _ _ _ _ (Act.put _ (some 16) _) _
    try simp only [Act.put, List.setIfInBounds_toArray, List.set_cons_zero, List.set_cons_succ]
    refine wpAnyH_take (i := 10) (oi := _) (v := .agg #[.int .i64 u.kind, .slice u.A u.ns.length u.c, .slice u.A2 u.xs.length u.c2]) rfl (by kernel_rfl) (by kernel_rfl) (by kernel_rfl) (fun _ _ _ h => h) (Or.inl ⟨by rfl, fun w' hS => (by have q0 := TBox.c0 hS.2; have q1 := TBox.c1 hS.2; have q2 := TBox.c2 hS.2; go_simp)⟩) hHeld ?_
    change wpAnyH _ _ _ _ _ _ _ (Act.put _ (some 17) _) _
    try simp only [Act.put, List.setIfInBounds_toArray, List.set_cons_zero, List.set_cons_succ]
    refine wpAnyH_ready (rs := [8]) (by kernel_rfl) (by simp) ?_
    refine AllReadyH.cons (o := _) rfl (fun K hK => ?_) AllReadyH.nil
    go_simp
    with_reducible refine (HP.out _ (Z1.out.trans (B2.out.mono Z1.out.size))).mono ?_
    rintro e w3 ⟨rfl, hb3⟩
    have B3 := Lib.hid (B2.out.trans (hb3.mono B2.out.size))
    clear hb3
    refine hK.out _ _ (⟨Xt1.out.below B3.out, Xu1.out.below B3.out⟩) (fun hHeld => ?_)
    clear hK K
    try simp only [Act.put, List.setIfInBounds_toArray, List.set_cons_zero, List.set_cons_succ]
    refine wpAnyH_ready (rs := [11]) (by kernel_rfl) (by simp) ?_
    refine AllReadyH.cons (o := _) rfl (fun K hK => ?_) AllReadyH.nil
    go_simp
    with_reducible refine (HQ.out _ (Z1.out.trans (B3.out.mono Z1.out.size))).mono ?_
    rintro e w4 ⟨rfl, hb4⟩
    have B4 := Lib.hid (B3.out.trans (hb4.mono B3.out.size))
    clear hb4
    refine hK.out _ _ (⟨Xt1.out.below B4.out, Xu1.out.below B4.out⟩) (fun hHeld => ?_)
    clear hK K
    try simp only [Act.put, List.setIfInBounds_toArray, List.set_cons_zero, List.set_cons_succ]
    refine wpAnyH_take (i := 12) (oi := _) (v := .bool true) rfl (by kernel_rfl) (by kernel_rfl) (by kernel_rfl) (fun _ _ _ h => h) (Or.inl ⟨by rfl, fun w' hS => (by go_simp)⟩) hHeld ?_
    change wpAnyH _ _ _ _ _ _ _ (Act.put _ (some 19) _) _
    try simp only [Act.put, List.setIfInBounds_toArray, List.set_cons_zero, List.set_cons_succ]
    refine wpAnyH_take (i := 13) (oi := _) (v := .bool true) rfl (by kernel_rfl) (by kernel_rfl) (by kernel_rfl) (fun _ _ _ h => h) (Or.inl ⟨by rfl, fun w' hS => (by go_simp)⟩) hHeld ?_
    change wpAnyH _ _ _ _ _ _ _ (Act.put _ (some 20) _) _
    try simp only [Act.put, List.setIfInBounds_toArray, List.set_cons_zero, List.set_cons_succ]
    refine wpAnyH_take (i := 14) (oi := _) (v := .bool true) rfl (by kernel_rfl) (by kernel_rfl) (by kernel_rfl) (fun _ _ _ h => h) (Or.inl ⟨by rfl, fun w' hS => (by go_simp)⟩) hHeld ?_
    change wpAnyH _ _ _ _ _ _ _ (Act.put _ (some 4) _) _
    try simp only [Act.put, List.setIfInBounds_toArray, List.set_cons_zero, List.set_cons_succ]
    refine wpAnyH_done (by kernel_rfl) ?_ _
    go_wp2
    go_ret
    exact ⟨rfl, Z1.out.trans (B4.out.mono Z1.out.size)⟩
end Go.Proofs.YtllpicibncdppaaDoor
