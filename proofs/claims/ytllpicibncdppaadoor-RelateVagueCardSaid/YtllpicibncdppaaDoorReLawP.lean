/-
  RelatePrecise, RelateChains, RelateVague: the walks.
-/
import Derived.Test.YtllpicibncdppaaDoorReLawSE
import Derived.Test.YtllpicibncdppaaDoorRePrecW
set_option linter.unusedVariables false
set_option linter.unusedSimpArgs false
namespace Go.Proofs.YtllpicibncdppaaDoor
open Go.ChangeShapes Go.WideShapes Go.ChangeAt Go.RowKit

set_option maxRecDepth 100000 in
set_option maxHeartbeats 8000000 in
theorem relatePrecise_walk (t u : LTy) (w : World) (it : LIn w w.heap.size t) (iu : LIn w w.heap.size u) (hsp : SpW w) : Calls Tryd.prog 9 #[t.val, u.val] w (RetB (.bool true) w) := by
  unfold LTy.val
  obtain ⟨ans, hans⟩ : ∃ ans, ans = tb (Precise (strip t) (strip u)) := ⟨_, rfl⟩
  have HA := Lib.hid hans
  clear hans
  obtain ⟨g, hg⟩ : ∃ g, g = w.heap.size := ⟨_, rfl⟩
  have It := Lib.hid it
  have Iu := Lib.hid iu
  have HSP := Lib.hid hsp
  clear hsp it iu
  go_enter Tryd.func9, Tryd.ntmps9
  go_upto_region 1 with fail
  rw [← hg]
  refine gen_wpT fun w0 hW => ?_
  obtain ⟨kt, ku, kb⟩ : TBox w0 (g) t ∧ TBox w0 (g + 1) u ∧ Below w.heap.size w w0 := by rw [← hW, hg]; exact boxes2 w t u
  have Xt0 := Lib.hid kt
  have Xu0 := Lib.hid ku
  have Z0 := Lib.hid kb
  clear hW hg kb kt ku
  have qXt0 := Xt0.out
  have qXt0c0 := qXt0.c0
  have qXt0c1 := qXt0.c1
  have qXt0c2 := qXt0.c2
  have qXt0l := qXt0.lt
  clear qXt0
  have qXu0 := Xu0.out
  have qXu0c0 := qXu0.c0
  have qXu0c1 := qXu0.c1
  have qXu0c2 := qXu0.c2
  have qXu0l := qXu0.lt
  clear qXu0
  go_wp2_with fail
  with_reducible refine (awake10_any _ (HSP.out.below Z0.out)).mono ?_
  rintro e w1 ⟨rfl, hb1⟩
  have Xt1 := Lib.hid (Xt0.out.below hb1)
  have Xu1 := Lib.hid (Xu0.out.below hb1)
  have Z1 := Lib.hid (Z0.out.trans (hb1.mono Z0.out.size))
  clear hb1
  have qXt1 := Xt1.out
  have qXt1c0 := qXt1.c0
  have qXt1c1 := qXt1.c1
  have qXt1c2 := qXt1.c2
  have qXt1l := qXt1.lt
  clear qXt1
  have qXu1 := Xu1.out
  have qXu1c0 := qXu1.c0
  have qXu1c1 := qXu1.c1
  have qXu1c2 := qXu1.c2
  have qXu1l := qXu1.lt
  clear qXu1
  have HROW := Lib.hid (show ∀ w', w' = (w1.alloc (.cells #[.int .i64 t.kind, .slice t.A t.ns.length t.c, .slice t.A2 t.xs.length t.c2, .int .i64 u.kind, .slice u.A u.ns.length u.c, .slice u.A2 u.xs.length u.c2] 26)).drew → Calls Tryd.prog 22 #[.slice (some ⟨w1.heap.size, 0, none⟩) 2 2] w' (FewsOut [t, u] w') ∧ Below w1.heap.size w1 w' from fun w' e => by
    subst e
    have hb : Below w1.heap.size w1 ((w1.alloc (.cells #[.int .i64 t.kind, .slice t.A t.ns.length t.c, .slice t.A2 t.xs.length t.c2, .int .i64 u.kind, .slice u.A u.ns.length u.c, .slice u.A2 u.xs.length u.c2] 26)).drew) := ((Below.refl _ _).alloc (Nat.le_refl _) _).drew
    refine ⟨few_row (w0 := w1) [t, u] rfl (blk_drew (heap_new_at _ _ _ rfl)) (fun x hx => ?_) (by simp) 2 rfl, hb⟩
    simp at hx
    rcases hx with rfl | rfl
    · exact (It.out.on Z1.out).on hb
    · exact (Iu.out.on Z1.out).on hb)
  have HP := Lib.hid (show ∀ w', Below w.heap.size w w' → Calls Tryd.prog 39 #[.agg #[.int .i64 t.kind, .slice t.A t.ns.length t.c, .slice t.A2 t.xs.length t.c2], .agg #[.int .i64 u.kind, .slice u.A u.ns.length u.c, .slice u.A2 u.xs.length u.c2]] w' (RetB (.bool ans) w') from fun w' hb => by
    have := tPrec_any t u w' (It.out.on hb) (Iu.out.on hb) (HSP.out.below hb)
    rw [← HA.out] at this
    exact this)
  have HQ := Lib.hid (show ∀ w', Below w.heap.size w w' → Calls Tryd.prog 40 #[.agg #[.int .i64 t.kind, .slice t.A t.ns.length t.c, .slice t.A2 t.xs.length t.c2], .agg #[.int .i64 u.kind, .slice u.A u.ns.length u.c, .slice u.A2 u.xs.length u.c2]] w' (RetB (.bool ans) w') from fun w' hb => by
    have := rPrec_any t u w' (It.out.on hb) (Iu.out.on hb)
    rw [← HA.out] at this
    exact this)
  go_wp2_with fail
  refine wp_region_held_drew (S := fun w' => TBox w' g t ∧ TBox w' (g + 1) u) (by kernel_rfl) (⟨Xt1.out, Xu1.out⟩) (fun hHeld => ?_)
  refine wpAnyH_take (i := 0) (oi := _) (v := .agg #[.int .i64 t.kind, .slice t.A t.ns.length t.c, .slice t.A2 t.xs.length t.c2]) rfl (by kernel_rfl) (by kernel_rfl) (by kernel_rfl) (fun _ _ _ h => h) (Or.inl ⟨by rfl, fun w' hS => (by have q0 := TBox.c0 hS.1; have q1 := TBox.c1 hS.1; have q2 := TBox.c2 hS.1; go_simp)⟩) hHeld ?_
  change wpAnyH _ _ _ _ _ _ _ (Act.put _ (some 7) _) _
  try simp only [Act.put, List.setIfInBounds_toArray, List.set_cons_zero, List.set_cons_succ]
  refine wpAnyH_take (i := 1) (oi := _) (v := .agg #[.int .i64 u.kind, .slice u.A u.ns.length u.c, .slice u.A2 u.xs.length u.c2]) rfl (by kernel_rfl) (by kernel_rfl) (by kernel_rfl) (fun _ _ _ h => h) (Or.inl ⟨by rfl, fun w' hS => (by have q0 := TBox.c0 hS.2; have q1 := TBox.c1 hS.2; have q2 := TBox.c2 hS.2; go_simp)⟩) hHeld ?_
  change wpAnyH _ _ _ _ _ _ _ (Act.put _ (some 8) _) _
  try simp only [Act.put, List.setIfInBounds_toArray, List.set_cons_zero, List.set_cons_succ]
  refine wpAnyH_ready (rs := [2]) (by kernel_rfl) (by simp) ?_
  refine AllReadyH.cons (o := _) rfl (fun K hK => ?_) AllReadyH.nil
  go_simp
  refine hK.out _ _ (⟨Xt1.out.below (HROW.out _ rfl).2, Xu1.out.below (HROW.out _ rfl).2⟩) (fun hHeld => ?_)
  clear hK K
  try simp only [Act.put, List.setIfInBounds_toArray, List.set_cons_zero, List.set_cons_succ]
  refine wpAnyH_ready (rs := [3]) (by kernel_rfl) (by simp) ?_
  refine AllReadyH.cons (o := _) rfl (fun K hK => ?_) AllReadyH.nil
  go_simp
  with_reducible refine (HROW.out _ rfl).1.mono ?_
  rintro e w2 ⟨hb2, b, rfl, _⟩
  have B2 := Lib.hid ((HROW.out _ rfl).2.trans (hb2.mono (HROW.out _ rfl).2.size))
  clear hb2
  cases b with
  | false =>
    refine hK.out _ _ (⟨Xt1.out.below B2.out, Xu1.out.below B2.out⟩) (fun hHeld => ?_)
    clear hK K
    try simp only [Act.put, List.setIfInBounds_toArray, List.set_cons_zero, List.set_cons_succ]
    refine wpAnyH_take (i := 4) (oi := _) (v := .bool true) rfl (by kernel_rfl) (by kernel_rfl) (by kernel_rfl) (fun _ _ _ h => h) (Or.inl ⟨by rfl, fun w' hS => (by go_simp)⟩) hHeld ?_
    change wpAnyH _ _ _ _ _ _ _ (Act.put _ (some 11) _) _
    try simp only [Act.put, List.setIfInBounds_toArray, List.set_cons_zero, List.set_cons_succ]
    refine wpAnyH_take (i := 5) (oi := _) (v := .bool true) rfl (by kernel_rfl) (by kernel_rfl) (by kernel_rfl) (fun _ _ _ h => h) (Or.inl ⟨by rfl, fun w' hS => (by go_simp)⟩) hHeld ?_
    change wpAnyH _ _ _ _ _ _ _ (Act.put _ (some 12) _) _
    try simp only [Act.put, List.setIfInBounds_toArray, List.set_cons_zero, List.set_cons_succ]
    refine wpAnyH_take (i := 6) (oi := _) (v := undef) rfl (by kernel_rfl) (by kernel_rfl) (by kernel_rfl) (fun _ _ _ h => h) (Or.inr ⟨by kernel_rfl, rfl⟩) hHeld ?_
    change wpAnyH _ _ _ _ _ _ _ (Act.put _ (some 13) _) _
    try simp only [Act.put, List.setIfInBounds_toArray, List.set_cons_zero, List.set_cons_succ]
    refine wpAnyH_take (i := 7) (oi := _) (v := undef) rfl (by kernel_rfl) (by kernel_rfl) (by kernel_rfl) (fun _ _ _ h => h) (Or.inr ⟨by kernel_rfl, rfl⟩) hHeld ?_
    change wpAnyH _ _ _ _ _ _ _ (Act.put _ (some 14) _) _
    try simp only [Act.put, List.setIfInBounds_toArray, List.set_cons_zero, List.set_cons_succ]
    refine wpAnyH_take (i := 9) (oi := _) (v := undef) rfl (by kernel_rfl) (by kernel_rfl) (by kernel_rfl) (fun _ _ _ h => h) (Or.inr ⟨by kernel_rfl, rfl⟩) hHeld ?_
    change wpAnyH _ _ _ _ _ _ _ (Act.put _ (some 16) _) _
    try simp only [Act.put, List.setIfInBounds_toArray, List.set_cons_zero, List.set_cons_succ]
    refine wpAnyH_take (i := 10) (oi := _) (v := undef) rfl (by kernel_rfl) (by kernel_rfl) (by kernel_rfl) (fun _ _ _ h => h) (Or.inr ⟨by kernel_rfl, rfl⟩) hHeld ?_
    change wpAnyH _ _ _ _ _ _ _ (Act.put _ (some 17) _) _
    try simp only [Act.put, List.setIfInBounds_toArray, List.set_cons_zero, List.set_cons_succ]
    refine wpAnyH_take (i := 8) (oi := _) (v := undef) rfl (by kernel_rfl) (by kernel_rfl) (by kernel_rfl) (fun _ _ _ h => h) (Or.inr ⟨by kernel_rfl, rfl⟩) hHeld ?_
    change wpAnyH _ _ _ _ _ _ _ (Act.put _ (some 15) _) _
    try simp only [Act.put, List.setIfInBounds_toArray, List.set_cons_zero, List.set_cons_succ]
    refine wpAnyH_take (i := 11) (oi := _) (v := undef) rfl (by kernel_rfl) (by kernel_rfl) (by kernel_rfl) (fun _ _ _ h => h) (Or.inr ⟨by kernel_rfl, rfl⟩) hHeld ?_
    change wpAnyH _ _ _ _ _ _ _ (Act.put _ (some 18) _) _
    try simp only [Act.put, List.setIfInBounds_toArray, List.set_cons_zero, List.set_cons_succ]
    refine wpAnyH_take (i := 12) (oi := _) (v := undef) rfl (by kernel_rfl) (by kernel_rfl) (by kernel_rfl) (fun _ _ _ h => h) (Or.inr ⟨by kernel_rfl, rfl⟩) hHeld ?_
    change wpAnyH _ _ _ _ _ _ _ (Act.put _ (some 19) _) _
    try simp only [Act.put, List.setIfInBounds_toArray, List.set_cons_zero, List.set_cons_succ]
    refine wpAnyH_take (i := 13) (oi := _) (v := .bool true) rfl (by kernel_rfl) (by kernel_rfl) (by kernel_rfl) (fun _ _ _ h => h) (Or.inl ⟨by rfl, fun w' hS => (by go_simp)⟩) hHeld ?_
    change wpAnyH _ _ _ _ _ _ _ (Act.put _ (some 20) _) _
    try simp only [Act.put, List.setIfInBounds_toArray, List.set_cons_zero, List.set_cons_succ]
    refine wpAnyH_take (i := 14) (oi := _) (v := .bool true) rfl (by kernel_rfl) (by kernel_rfl) (by kernel_rfl) (fun _ _ _ h => h) (Or.inl ⟨by rfl, fun w' hS => (by go_simp)⟩) hHeld ?_
    change wpAnyH _ _ _ _ _ _ _ (Act.put _ (some 4) _) _
    try simp only [Act.put, List.setIfInBounds_toArray, List.set_cons_zero, List.set_cons_succ]
    refine wpAnyH_done (by kernel_rfl) ?_ _
    go_wp2
    go_ret
    exact ⟨rfl, Z1.out.trans (B2.out.mono Z1.out.size)⟩
  | true =>
    refine hK.out _ _ (⟨Xt1.out.below B2.out, Xu1.out.below B2.out⟩) (fun hHeld => ?_)
    clear hK K
    try simp only [Act.put, List.setIfInBounds_toArray, List.set_cons_zero, List.set_cons_succ]
    refine wpAnyH_take (i := 4) (oi := _) (v := .bool false) rfl (by kernel_rfl) (by kernel_rfl) (by kernel_rfl) (fun _ _ _ h => h) (Or.inl ⟨by rfl, fun w' hS => (by go_simp)⟩) hHeld ?_
    change wpAnyH _ _ _ _ _ _ _ (Act.put _ (some 11) _) _
    try simp only [Act.put, List.setIfInBounds_toArray, List.set_cons_zero, List.set_cons_succ]
    refine wpAnyH_take (i := 5) (oi := _) (v := .bool false) rfl (by kernel_rfl) (by kernel_rfl) (by kernel_rfl) (fun _ _ _ h => h) (Or.inl ⟨by rfl, fun w' hS => (by go_simp)⟩) hHeld ?_
    change wpAnyH _ _ _ _ _ _ _ (Act.put _ (some 12) _) _
    try simp only [Act.put, List.setIfInBounds_toArray, List.set_cons_zero, List.set_cons_succ]
    refine wpAnyH_take (i := 6) (oi := _) (v := .agg #[.int .i64 t.kind, .slice t.A t.ns.length t.c, .slice t.A2 t.xs.length t.c2]) rfl (by kernel_rfl) (by kernel_rfl) (by kernel_rfl) (fun _ _ _ h => h) (Or.inl ⟨by rfl, fun w' hS => (by have q0 := TBox.c0 hS.1; have q1 := TBox.c1 hS.1; have q2 := TBox.c2 hS.1; go_simp)⟩) hHeld ?_
    change wpAnyH _ _ _ _ _ _ _ (Act.put _ (some 13) _) _
    try simp only [Act.put, List.setIfInBounds_toArray, List.set_cons_zero, List.set_cons_succ]
    refine wpAnyH_take (i := 7) (oi := _) (v := .agg #[.int .i64 u.kind, .slice u.A u.ns.length u.c, .slice u.A2 u.xs.length u.c2]) rfl (by kernel_rfl) (by kernel_rfl) (by kernel_rfl) (fun _ _ _ h => h) (Or.inl ⟨by rfl, fun w' hS => (by have q0 := TBox.c0 hS.2; have q1 := TBox.c1 hS.2; have q2 := TBox.c2 hS.2; go_simp)⟩) hHeld ?_
    change wpAnyH _ _ _ _ _ _ _ (Act.put _ (some 14) _) _
    try simp only [Act.put, List.setIfInBounds_toArray, List.set_cons_zero, List.set_cons_succ]
    refine wpAnyH_take (i := 9) (oi := _) (v := .agg #[.int .i64 t.kind, .slice t.A t.ns.length t.c, .slice t.A2 t.xs.length t.c2]) rfl (by kernel_rfl) (by kernel_rfl) (by kernel_rfl) (fun _ _ _ h => h) (Or.inl ⟨by rfl, fun w' hS => (by have q0 := TBox.c0 hS.1; have q1 := TBox.c1 hS.1; have q2 := TBox.c2 hS.1; go_simp)⟩) hHeld ?_
    change wpAnyH _ _ _ _ _ _ _ (Act.put _ (some 16) _) _
    try simp only [Act.put, List.setIfInBounds_toArray, List.set_cons_zero, List.set_cons_succ]
    refine wpAnyH_take (i := 10) (oi := _) (v := .agg #[.int .i64 u.kind, .slice u.A u.ns.length u.c, .slice u.A2 u.xs.length u.c2]) rfl (by kernel_rfl) (by kernel_rfl) (by kernel_rfl) (fun _ _ _ h => h) (Or.inl ⟨by rfl, fun w' hS => (by have q0 := TBox.c0 hS.2; have q1 := TBox.c1 hS.2; have q2 := TBox.c2 hS.2; go_simp)⟩) hHeld ?_
    change wpAnyH _ _ _ _ _ _ _ (Act.put _ (some 17) _) _
    try simp only [Act.put, List.setIfInBounds_toArray, List.set_cons_zero, List.set_cons_succ]
    refine wpAnyH_ready (rs := [8]) (by kernel_rfl) (by simp) ?_
    refine AllReadyH.cons (o := _) rfl (fun K hK => ?_) AllReadyH.nil
    go_simp
    with_reducible refine (HP.out _ (Z1.out.trans (B2.out.mono Z1.out.size))).mono ?_
    rintro e w3 ⟨rfl, hb3⟩
    have B3 := Lib.hid (B2.out.trans (hb3.mono B2.out.size))
    clear hb3
    refine hK.out _ _ (⟨Xt1.out.below B3.out, Xu1.out.below B3.out⟩) (fun hHeld => ?_)
    clear hK K
    try simp only [Act.put, List.setIfInBounds_toArray, List.set_cons_zero, List.set_cons_succ]
    refine wpAnyH_ready (rs := [11]) (by kernel_rfl) (by simp) ?_
    refine AllReadyH.cons (o := _) rfl (fun K hK => ?_) AllReadyH.nil
    go_simp
    with_reducible refine (HQ.out _ (Z1.out.trans (B3.out.mono Z1.out.size))).mono ?_
    rintro e w4 ⟨rfl, hb4⟩
    have B4 := Lib.hid (B3.out.trans (hb4.mono B3.out.size))
    clear hb4
    refine hK.out _ _ (⟨Xt1.out.below B4.out, Xu1.out.below B4.out⟩) (fun hHeld => ?_)
    clear hK K
    try simp only [Act.put, List.setIfInBounds_toArray, List.set_cons_zero, List.set_cons_succ]
    refine wpAnyH_take (i := 12) (oi := _) (v := .bool true) rfl (by kernel_rfl) (by kernel_rfl) (by kernel_rfl) (fun _ _ _ h => h) (Or.inl ⟨by rfl, fun w' hS => (by go_simp)⟩) hHeld ?_
    change wpAnyH _ _ _ _ _ _ _ (Act.put _ (some 19) _) _
    try simp only [Act.put, List.setIfInBounds_toArray, List.set_cons_zero, List.set_cons_succ]
    refine wpAnyH_take (i := 13) (oi := _) (v := .bool true) rfl (by kernel_rfl) (by kernel_rfl) (by kernel_rfl) (fun _ _ _ h => h) (Or.inl ⟨by rfl, fun w' hS => (by go_simp)⟩) hHeld ?_
    change wpAnyH _ _ _ _ _ _ _ (Act.put _ (some 20) _) _
    try simp only [Act.put, List.setIfInBounds_toArray, List.set_cons_zero, List.set_cons_succ]
    refine wpAnyH_take (i := 14) (oi := _) (v := .bool true) rfl (by kernel_rfl) (by kernel_rfl) (by kernel_rfl) (fun _ _ _ h => h) (Or.inl ⟨by rfl, fun w' hS => (by go_simp)⟩) hHeld ?_
    change wpAnyH _ _ _ _ _ _ _ (Act.put _ (some 4) _) _
    try simp only [Act.put, List.setIfInBounds_toArray, List.set_cons_zero, List.set_cons_succ]
    refine wpAnyH_done (by kernel_rfl) ?_ _
    go_wp2
    go_ret
    exact ⟨rfl, Z1.out.trans (B4.out.mono Z1.out.size)⟩
set_option maxRecDepth 100000 in
set_option maxHeartbeats 8000000 in
theorem relateChains_walk (t u v : LTy) (w : World) (it : LIn w w.heap.size t) (iu : LIn w w.heap.size u) (iv : LIn w w.heap.size v) (hsp : SpW w) : Calls Tryd.prog 10 #[t.val, u.val, v.val] w (RetB (.bool true) w) := by
  unfold LTy.val
  obtain ⟨g, hg⟩ : ∃ g, g = w.heap.size := ⟨_, rfl⟩
  have It := Lib.hid it
  have Iu := Lib.hid iu
  have Iv := Lib.hid iv
  have HSP := Lib.hid hsp
  clear hsp it iu iv
  go_enter Tryd.func10, Tryd.ntmps10
  go_upto_region 1 with fail
  rw [← hg]
  refine gen_wpT fun w0 hW => ?_
  obtain ⟨kt, ku, kv, kb⟩ : TBox w0 (g) t ∧ TBox w0 (g + 1) u ∧ TBox w0 (g + 2) v ∧ Below w.heap.size w w0 := by rw [← hW, hg]; exact boxes3 w t u v
  have Xt0 := Lib.hid kt
  have Xu0 := Lib.hid ku
  have Xv0 := Lib.hid kv
  have Z0 := Lib.hid kb
  clear hW hg kb kt ku kv
  have qXt0 := Xt0.out
  have qXt0c0 := qXt0.c0
  have qXt0c1 := qXt0.c1
  have qXt0c2 := qXt0.c2
  have qXt0l := qXt0.lt
  clear qXt0
  have qXu0 := Xu0.out
  have qXu0c0 := qXu0.c0
  have qXu0c1 := qXu0.c1
  have qXu0c2 := qXu0.c2
  have qXu0l := qXu0.lt
  clear qXu0
  have qXv0 := Xv0.out
  have qXv0c0 := qXv0.c0
  have qXv0c1 := qXv0.c1
  have qXv0c2 := qXv0.c2
  have qXv0l := qXv0.lt
  clear qXv0
  go_wp2_with fail
  with_reducible refine (awake10_any _ (HSP.out.below Z0.out)).mono ?_
  rintro e w1 ⟨rfl, hb1⟩
  have Xt1 := Lib.hid (Xt0.out.below hb1)
  have Xu1 := Lib.hid (Xu0.out.below hb1)
  have Xv1 := Lib.hid (Xv0.out.below hb1)
  have Z1 := Lib.hid (Z0.out.trans (hb1.mono Z0.out.size))
  clear hb1
  have qXt1 := Xt1.out
  have qXt1c0 := qXt1.c0
  have qXt1c1 := qXt1.c1
  have qXt1c2 := qXt1.c2
  have qXt1l := qXt1.lt
  clear qXt1
  have qXu1 := Xu1.out
  have qXu1c0 := qXu1.c0
  have qXu1c1 := qXu1.c1
  have qXu1c2 := qXu1.c2
  have qXu1l := qXu1.lt
  clear qXu1
  have qXv1 := Xv1.out
  have qXv1c0 := qXv1.c0
  have qXv1c1 := qXv1.c1
  have qXv1c2 := qXv1.c2
  have qXv1l := qXv1.lt
  clear qXv1
  have HROW := Lib.hid (show ∀ w', w' = w1.alloc (.cells #[.int .i64 t.kind, .slice t.A t.ns.length t.c, .slice t.A2 t.xs.length t.c2, .int .i64 u.kind, .slice u.A u.ns.length u.c, .slice u.A2 u.xs.length u.c2, .int .i64 v.kind, .slice v.A v.ns.length v.c, .slice v.A2 v.xs.length v.c2] 26) → Calls Tryd.prog 22 #[.slice (some ⟨w1.heap.size, 0, none⟩) 3 3] w' (FewsOut [t, u, v] w') ∧ Below w1.heap.size w1 w' from fun w' e => by
    subst e
    have hb : Below w1.heap.size w1 (w1.alloc (.cells #[.int .i64 t.kind, .slice t.A t.ns.length t.c, .slice t.A2 t.xs.length t.c2, .int .i64 u.kind, .slice u.A u.ns.length u.c, .slice u.A2 u.xs.length u.c2, .int .i64 v.kind, .slice v.A v.ns.length v.c, .slice v.A2 v.xs.length v.c2] 26)) := (Below.refl _ _).alloc (Nat.le_refl _) _
    refine ⟨few_row (w0 := w1) [t, u, v] rfl (heap_new_at _ _ _ rfl) (fun x hx => ?_) (by simp) 3 rfl, hb⟩
    simp at hx
    rcases hx with rfl | rfl | rfl
    · exact (It.out.on Z1.out).on hb
    · exact (Iu.out.on Z1.out).on hb
    · exact (Iv.out.on Z1.out).on hb)
  go_wp2_with fail
  with_reducible refine (HROW.out _ rfl).1.mono ?_
  rintro e w2 ⟨hb2, b, rfl, hfew⟩
  have hb2 := (HROW.out _ rfl).2.trans (hb2.mono (HROW.out _ rfl).2.size)
  have Xt2 := Lib.hid (Xt1.out.below hb2)
  have Xu2 := Lib.hid (Xu1.out.below hb2)
  have Xv2 := Lib.hid (Xv1.out.below hb2)
  have Z2 := Lib.hid (Z1.out.trans (hb2.mono Z1.out.size))
  have HFEW := Lib.hid hfew
  clear hb2 hfew
  have qXt2 := Xt2.out
  have qXt2c0 := qXt2.c0
  have qXt2c1 := qXt2.c1
  have qXt2c2 := qXt2.c2
  have qXt2l := qXt2.lt
  clear qXt2
  have qXu2 := Xu2.out
  have qXu2c0 := qXu2.c0
  have qXu2c1 := qXu2.c1
  have qXu2c2 := qXu2.c2
  have qXu2l := qXu2.lt
  clear qXu2
  have qXv2 := Xv2.out
  have qXv2c0 := qXv2.c0
  have qXv2c1 := qXv2.c1
  have qXv2c2 := qXv2.c2
  have qXv2l := qXv2.lt
  clear qXv2
  cases b with
  | false =>
    go_wp2
    go_ret
    exact ⟨rfl, Z2.out⟩
  | true =>
    by_cases p0 : Sub (strip t) (strip u)
    · have P0 := Lib.hid p0
      have hc2 := tSub_any t u w2 (It.out.on Z2.out) (Iu.out.on Z2.out) (HSP.out.below Z2.out)
      rw [tb_true p0] at hc2
      unfold LTy.val at hc2
      have HC2 := Lib.hid hc2
      clear hc2 p0
      go_wp2_with fail
      with_reducible refine (HC2.out).mono ?_
      rintro e w3 ⟨rfl, hb3⟩
      have Xt3 := Lib.hid (Xt2.out.below hb3)
      have Xu3 := Lib.hid (Xu2.out.below hb3)
      have Xv3 := Lib.hid (Xv2.out.below hb3)
      have Z3 := Lib.hid (Z2.out.trans (hb3.mono Z2.out.size))
      clear hb3
      have qXt3 := Xt3.out
      have qXt3c0 := qXt3.c0
      have qXt3c1 := qXt3.c1
      have qXt3c2 := qXt3.c2
      have qXt3l := qXt3.lt
      clear qXt3
      have qXu3 := Xu3.out
      have qXu3c0 := qXu3.c0
      have qXu3c1 := qXu3.c1
      have qXu3c2 := qXu3.c2
      have qXu3l := qXu3.lt
      clear qXu3
      have qXv3 := Xv3.out
      have qXv3c0 := qXv3.c0
      have qXv3c1 := qXv3.c1
      have qXv3c2 := qXv3.c2
      have qXv3l := qXv3.lt
      clear qXv3
      by_cases p1 : Sub (strip u) (strip v)
      · have P1 := Lib.hid p1
        have hc3 := tSub_any u v w3 (Iu.out.on Z3.out) (Iv.out.on Z3.out) (HSP.out.below Z3.out)
        rw [tb_true p1] at hc3
        unfold LTy.val at hc3
        have HC3 := Lib.hid hc3
        clear hc3 p1
        go_wp2_with fail
        with_reducible refine (HC3.out).mono ?_
        rintro e w4 ⟨rfl, hb4⟩
        have Xt4 := Lib.hid (Xt3.out.below hb4)
        have Xu4 := Lib.hid (Xu3.out.below hb4)
        have Xv4 := Lib.hid (Xv3.out.below hb4)
        have Z4 := Lib.hid (Z3.out.trans (hb4.mono Z3.out.size))
        clear hb4
        have qXt4 := Xt4.out
        have qXt4c0 := qXt4.c0
        have qXt4c1 := qXt4.c1
        have qXt4c2 := qXt4.c2
        have qXt4l := qXt4.lt
        clear qXt4
        have qXu4 := Xu4.out
        have qXu4c0 := qXu4.c0
        have qXu4c1 := qXu4.c1
        have qXu4c2 := qXu4.c2
        have qXu4l := qXu4.lt
        clear qXu4
        have qXv4 := Xv4.out
        have qXv4c0 := qXv4.c0
        have qXv4c1 := qXv4.c1
        have qXv4c2 := qXv4.c2
        have qXv4l := qXv4.lt
        clear qXv4
        by_cases p2 : Sub (strip t) (strip v)
        · have P2 := Lib.hid p2
          have hc4 := tSub_any t v w4 (It.out.on Z4.out) (Iv.out.on Z4.out) (HSP.out.below Z4.out)
          rw [tb_true p2] at hc4
          unfold LTy.val at hc4
          have HC4 := Lib.hid hc4
          clear hc4 p2
          go_wp2_with fail
          with_reducible refine (HC4.out).mono ?_
          rintro e w5 ⟨rfl, hb5⟩
          have Xt5 := Lib.hid (Xt4.out.below hb5)
          have Xu5 := Lib.hid (Xu4.out.below hb5)
          have Xv5 := Lib.hid (Xv4.out.below hb5)
          have Z5 := Lib.hid (Z4.out.trans (hb5.mono Z4.out.size))
          clear hb5
          have qXt5 := Xt5.out
          have qXt5c0 := qXt5.c0
          have qXt5c1 := qXt5.c1
          have qXt5c2 := qXt5.c2
          have qXt5l := qXt5.lt
          clear qXt5
          have qXu5 := Xu5.out
          have qXu5c0 := qXu5.c0
          have qXu5c1 := qXu5.c1
          have qXu5c2 := qXu5.c2
          have qXu5l := qXu5.lt
          clear qXu5
          have qXv5 := Xv5.out
          have qXv5c0 := qXv5.c0
          have qXv5c1 := qXv5.c1
          have qXv5c2 := qXv5.c2
          have qXv5l := qXv5.lt
          clear qXv5
          by_cases p3 : Precise (strip t) (strip u)
          · have P3 := Lib.hid p3
            have hc5 := tPrec_any t u w5 (It.out.on Z5.out) (Iu.out.on Z5.out) (HSP.out.below Z5.out)
            rw [tb_true p3] at hc5
            unfold LTy.val at hc5
            have HC5 := Lib.hid hc5
            clear hc5 p3
            go_wp2_with fail
            with_reducible refine (HC5.out).mono ?_
            rintro e w6 ⟨rfl, hb6⟩
            have Xt6 := Lib.hid (Xt5.out.below hb6)
            have Xu6 := Lib.hid (Xu5.out.below hb6)
            have Xv6 := Lib.hid (Xv5.out.below hb6)
            have Z6 := Lib.hid (Z5.out.trans (hb6.mono Z5.out.size))
            clear hb6
            have qXt6 := Xt6.out
            have qXt6c0 := qXt6.c0
            have qXt6c1 := qXt6.c1
            have qXt6c2 := qXt6.c2
            have qXt6l := qXt6.lt
            clear qXt6
            have qXu6 := Xu6.out
            have qXu6c0 := qXu6.c0
            have qXu6c1 := qXu6.c1
            have qXu6c2 := qXu6.c2
            have qXu6l := qXu6.lt
            clear qXu6
            have qXv6 := Xv6.out
            have qXv6c0 := qXv6.c0
            have qXv6c1 := qXv6.c1
            have qXv6c2 := qXv6.c2
            have qXv6l := qXv6.lt
            clear qXv6
            by_cases p4 : Precise (strip u) (strip v)
            · have P4 := Lib.hid p4
              have hc6 := tPrec_any u v w6 (Iu.out.on Z6.out) (Iv.out.on Z6.out) (HSP.out.below Z6.out)
              rw [tb_true p4] at hc6
              unfold LTy.val at hc6
              have HC6 := Lib.hid hc6
              clear hc6 p4
              go_wp2_with fail
              with_reducible refine (HC6.out).mono ?_
              rintro e w7 ⟨rfl, hb7⟩
              have Xt7 := Lib.hid (Xt6.out.below hb7)
              have Xu7 := Lib.hid (Xu6.out.below hb7)
              have Xv7 := Lib.hid (Xv6.out.below hb7)
              have Z7 := Lib.hid (Z6.out.trans (hb7.mono Z6.out.size))
              clear hb7
              have qXt7 := Xt7.out
              have qXt7c0 := qXt7.c0
              have qXt7c1 := qXt7.c1
              have qXt7c2 := qXt7.c2
              have qXt7l := qXt7.lt
              clear qXt7
              have qXu7 := Xu7.out
              have qXu7c0 := qXu7.c0
              have qXu7c1 := qXu7.c1
              have qXu7c2 := qXu7.c2
              have qXu7l := qXu7.lt
              clear qXu7
              have qXv7 := Xv7.out
              have qXv7c0 := qXv7.c0
              have qXv7c1 := qXv7.c1
              have qXv7c2 := qXv7.c2
              have qXv7l := qXv7.lt
              clear qXv7
              by_cases p5 : Precise (strip t) (strip v)
              · have P5 := Lib.hid p5
                have hc7 := tPrec_any t v w7 (It.out.on Z7.out) (Iv.out.on Z7.out) (HSP.out.below Z7.out)
                rw [tb_true p5] at hc7
                unfold LTy.val at hc7
                have HC7 := Lib.hid hc7
                clear hc7 p5
                go_wp2_with fail
                with_reducible refine (HC7.out).mono ?_
                rintro e w8 ⟨rfl, hb8⟩
                have Xt8 := Lib.hid (Xt7.out.below hb8)
                have Xu8 := Lib.hid (Xu7.out.below hb8)
                have Xv8 := Lib.hid (Xv7.out.below hb8)
                have Z8 := Lib.hid (Z7.out.trans (hb8.mono Z7.out.size))
                clear hb8
                have qXt8 := Xt8.out
                have qXt8c0 := qXt8.c0
                have qXt8c1 := qXt8.c1
                have qXt8c2 := qXt8.c2
                have qXt8l := qXt8.lt
                clear qXt8
                have qXu8 := Xu8.out
                have qXu8c0 := qXu8.c0
                have qXu8c1 := qXu8.c1
                have qXu8c2 := qXu8.c2
                have qXu8l := qXu8.lt
                clear qXu8
                have qXv8 := Xv8.out
                have qXv8c0 := qXv8.c0
                have qXv8c1 := qXv8.c1
                have qXv8c2 := qXv8.c2
                have qXv8l := qXv8.lt
                clear qXv8
                go_wp2
                go_ret
                exact ⟨rfl, Z8.out⟩
              · have P5 := Lib.hid p5
                exact ((P5.out (precise_trans P3.out P4.out)).elim)
            · have P4 := Lib.hid p4
              have hc6 := tPrec_any u v w6 (Iu.out.on Z6.out) (Iv.out.on Z6.out) (HSP.out.below Z6.out)
              rw [tb_false p4] at hc6
              unfold LTy.val at hc6
              have HC6 := Lib.hid hc6
              clear hc6 p4
              go_wp2_with fail
              with_reducible refine (HC6.out).mono ?_
              rintro e w7 ⟨rfl, hb7⟩
              have Xt7 := Lib.hid (Xt6.out.below hb7)
              have Xu7 := Lib.hid (Xu6.out.below hb7)
              have Xv7 := Lib.hid (Xv6.out.below hb7)
              have Z7 := Lib.hid (Z6.out.trans (hb7.mono Z6.out.size))
              clear hb7
              have qXt7 := Xt7.out
              have qXt7c0 := qXt7.c0
              have qXt7c1 := qXt7.c1
              have qXt7c2 := qXt7.c2
              have qXt7l := qXt7.lt
              clear qXt7
              have qXu7 := Xu7.out
              have qXu7c0 := qXu7.c0
              have qXu7c1 := qXu7.c1
              have qXu7c2 := qXu7.c2
              have qXu7l := qXu7.lt
              clear qXu7
              have qXv7 := Xv7.out
              have qXv7c0 := qXv7.c0
              have qXv7c1 := qXv7.c1
              have qXv7c2 := qXv7.c2
              have qXv7l := qXv7.lt
              clear qXv7
              go_wp2
              go_ret
              exact ⟨rfl, Z7.out⟩
          · have P3 := Lib.hid p3
            have hc5 := tPrec_any t u w5 (It.out.on Z5.out) (Iu.out.on Z5.out) (HSP.out.below Z5.out)
            rw [tb_false p3] at hc5
            unfold LTy.val at hc5
            have HC5 := Lib.hid hc5
            clear hc5 p3
            go_wp2_with fail
            with_reducible refine (HC5.out).mono ?_
            rintro e w6 ⟨rfl, hb6⟩
            have Xt6 := Lib.hid (Xt5.out.below hb6)
            have Xu6 := Lib.hid (Xu5.out.below hb6)
            have Xv6 := Lib.hid (Xv5.out.below hb6)
            have Z6 := Lib.hid (Z5.out.trans (hb6.mono Z5.out.size))
            clear hb6
            have qXt6 := Xt6.out
            have qXt6c0 := qXt6.c0
            have qXt6c1 := qXt6.c1
            have qXt6c2 := qXt6.c2
            have qXt6l := qXt6.lt
            clear qXt6
            have qXu6 := Xu6.out
            have qXu6c0 := qXu6.c0
            have qXu6c1 := qXu6.c1
            have qXu6c2 := qXu6.c2
            have qXu6l := qXu6.lt
            clear qXu6
            have qXv6 := Xv6.out
            have qXv6c0 := qXv6.c0
            have qXv6c1 := qXv6.c1
            have qXv6c2 := qXv6.c2
            have qXv6l := qXv6.lt
            clear qXv6
            go_wp2
            go_ret
            exact ⟨rfl, Z6.out⟩
        · have P2 := Lib.hid p2
          exact ((P2.out (sub_trans P0.out P1.out)).elim)
      · have P1 := Lib.hid p1
        have hc3 := tSub_any u v w3 (Iu.out.on Z3.out) (Iv.out.on Z3.out) (HSP.out.below Z3.out)
        rw [tb_false p1] at hc3
        unfold LTy.val at hc3
        have HC3 := Lib.hid hc3
        clear hc3 p1
        go_wp2_with fail
        with_reducible refine (HC3.out).mono ?_
        rintro e w4 ⟨rfl, hb4⟩
        have Xt4 := Lib.hid (Xt3.out.below hb4)
        have Xu4 := Lib.hid (Xu3.out.below hb4)
        have Xv4 := Lib.hid (Xv3.out.below hb4)
        have Z4 := Lib.hid (Z3.out.trans (hb4.mono Z3.out.size))
        clear hb4
        have qXt4 := Xt4.out
        have qXt4c0 := qXt4.c0
        have qXt4c1 := qXt4.c1
        have qXt4c2 := qXt4.c2
        have qXt4l := qXt4.lt
        clear qXt4
        have qXu4 := Xu4.out
        have qXu4c0 := qXu4.c0
        have qXu4c1 := qXu4.c1
        have qXu4c2 := qXu4.c2
        have qXu4l := qXu4.lt
        clear qXu4
        have qXv4 := Xv4.out
        have qXv4c0 := qXv4.c0
        have qXv4c1 := qXv4.c1
        have qXv4c2 := qXv4.c2
        have qXv4l := qXv4.lt
        clear qXv4
        by_cases p2 : Precise (strip t) (strip u)
        · have P2 := Lib.hid p2
          have hc4 := tPrec_any t u w4 (It.out.on Z4.out) (Iu.out.on Z4.out) (HSP.out.below Z4.out)
          rw [tb_true p2] at hc4
          unfold LTy.val at hc4
          have HC4 := Lib.hid hc4
          clear hc4 p2
          go_wp2_with fail
          with_reducible refine (HC4.out).mono ?_
          rintro e w5 ⟨rfl, hb5⟩
          have Xt5 := Lib.hid (Xt4.out.below hb5)
          have Xu5 := Lib.hid (Xu4.out.below hb5)
          have Xv5 := Lib.hid (Xv4.out.below hb5)
          have Z5 := Lib.hid (Z4.out.trans (hb5.mono Z4.out.size))
          clear hb5
          have qXt5 := Xt5.out
          have qXt5c0 := qXt5.c0
          have qXt5c1 := qXt5.c1
          have qXt5c2 := qXt5.c2
          have qXt5l := qXt5.lt
          clear qXt5
          have qXu5 := Xu5.out
          have qXu5c0 := qXu5.c0
          have qXu5c1 := qXu5.c1
          have qXu5c2 := qXu5.c2
          have qXu5l := qXu5.lt
          clear qXu5
          have qXv5 := Xv5.out
          have qXv5c0 := qXv5.c0
          have qXv5c1 := qXv5.c1
          have qXv5c2 := qXv5.c2
          have qXv5l := qXv5.lt
          clear qXv5
          by_cases p3 : Precise (strip u) (strip v)
          · have P3 := Lib.hid p3
            have hc5 := tPrec_any u v w5 (Iu.out.on Z5.out) (Iv.out.on Z5.out) (HSP.out.below Z5.out)
            rw [tb_true p3] at hc5
            unfold LTy.val at hc5
            have HC5 := Lib.hid hc5
            clear hc5 p3
            go_wp2_with fail
            with_reducible refine (HC5.out).mono ?_
            rintro e w6 ⟨rfl, hb6⟩
            have Xt6 := Lib.hid (Xt5.out.below hb6)
            have Xu6 := Lib.hid (Xu5.out.below hb6)
            have Xv6 := Lib.hid (Xv5.out.below hb6)
            have Z6 := Lib.hid (Z5.out.trans (hb6.mono Z5.out.size))
            clear hb6
            have qXt6 := Xt6.out
            have qXt6c0 := qXt6.c0
            have qXt6c1 := qXt6.c1
            have qXt6c2 := qXt6.c2
            have qXt6l := qXt6.lt
            clear qXt6
            have qXu6 := Xu6.out
            have qXu6c0 := qXu6.c0
            have qXu6c1 := qXu6.c1
            have qXu6c2 := qXu6.c2
            have qXu6l := qXu6.lt
            clear qXu6
            have qXv6 := Xv6.out
            have qXv6c0 := qXv6.c0
            have qXv6c1 := qXv6.c1
            have qXv6c2 := qXv6.c2
            have qXv6l := qXv6.lt
            clear qXv6
            by_cases p4 : Precise (strip t) (strip v)
            · have P4 := Lib.hid p4
              have hc6 := tPrec_any t v w6 (It.out.on Z6.out) (Iv.out.on Z6.out) (HSP.out.below Z6.out)
              rw [tb_true p4] at hc6
              unfold LTy.val at hc6
              have HC6 := Lib.hid hc6
              clear hc6 p4
              go_wp2_with fail
              with_reducible refine (HC6.out).mono ?_
              rintro e w7 ⟨rfl, hb7⟩
              have Xt7 := Lib.hid (Xt6.out.below hb7)
              have Xu7 := Lib.hid (Xu6.out.below hb7)
              have Xv7 := Lib.hid (Xv6.out.below hb7)
              have Z7 := Lib.hid (Z6.out.trans (hb7.mono Z6.out.size))
              clear hb7
              have qXt7 := Xt7.out
              have qXt7c0 := qXt7.c0
              have qXt7c1 := qXt7.c1
              have qXt7c2 := qXt7.c2
              have qXt7l := qXt7.lt
              clear qXt7
              have qXu7 := Xu7.out
              have qXu7c0 := qXu7.c0
              have qXu7c1 := qXu7.c1
              have qXu7c2 := qXu7.c2
              have qXu7l := qXu7.lt
              clear qXu7
              have qXv7 := Xv7.out
              have qXv7c0 := qXv7.c0
              have qXv7c1 := qXv7.c1
              have qXv7c2 := qXv7.c2
              have qXv7l := qXv7.lt
              clear qXv7
              go_wp2
              go_ret
              exact ⟨rfl, Z7.out⟩
            · have P4 := Lib.hid p4
              exact ((P4.out (precise_trans P2.out P3.out)).elim)
          · have P3 := Lib.hid p3
            have hc5 := tPrec_any u v w5 (Iu.out.on Z5.out) (Iv.out.on Z5.out) (HSP.out.below Z5.out)
            rw [tb_false p3] at hc5
            unfold LTy.val at hc5
            have HC5 := Lib.hid hc5
            clear hc5 p3
            go_wp2_with fail
            with_reducible refine (HC5.out).mono ?_
            rintro e w6 ⟨rfl, hb6⟩
            have Xt6 := Lib.hid (Xt5.out.below hb6)
            have Xu6 := Lib.hid (Xu5.out.below hb6)
            have Xv6 := Lib.hid (Xv5.out.below hb6)
            have Z6 := Lib.hid (Z5.out.trans (hb6.mono Z5.out.size))
            clear hb6
            have qXt6 := Xt6.out
            have qXt6c0 := qXt6.c0
            have qXt6c1 := qXt6.c1
            have qXt6c2 := qXt6.c2
            have qXt6l := qXt6.lt
            clear qXt6
            have qXu6 := Xu6.out
            have qXu6c0 := qXu6.c0
            have qXu6c1 := qXu6.c1
            have qXu6c2 := qXu6.c2
            have qXu6l := qXu6.lt
            clear qXu6
            have qXv6 := Xv6.out
            have qXv6c0 := qXv6.c0
            have qXv6c1 := qXv6.c1
            have qXv6c2 := qXv6.c2
            have qXv6l := qXv6.lt
            clear qXv6
            go_wp2
            go_ret
            exact ⟨rfl, Z6.out⟩
        · have P2 := Lib.hid p2
          have hc4 := tPrec_any t u w4 (It.out.on Z4.out) (Iu.out.on Z4.out) (HSP.out.below Z4.out)
          rw [tb_false p2] at hc4
          unfold LTy.val at hc4
          have HC4 := Lib.hid hc4
          clear hc4 p2
          go_wp2_with fail
          with_reducible refine (HC4.out).mono ?_
          rintro e w5 ⟨rfl, hb5⟩
          have Xt5 := Lib.hid (Xt4.out.below hb5)
          have Xu5 := Lib.hid (Xu4.out.below hb5)
          have Xv5 := Lib.hid (Xv4.out.below hb5)
          have Z5 := Lib.hid (Z4.out.trans (hb5.mono Z4.out.size))
          clear hb5
          have qXt5 := Xt5.out
          have qXt5c0 := qXt5.c0
          have qXt5c1 := qXt5.c1
          have qXt5c2 := qXt5.c2
          have qXt5l := qXt5.lt
          clear qXt5
          have qXu5 := Xu5.out
          have qXu5c0 := qXu5.c0
          have qXu5c1 := qXu5.c1
          have qXu5c2 := qXu5.c2
          have qXu5l := qXu5.lt
          clear qXu5
          have qXv5 := Xv5.out
          have qXv5c0 := qXv5.c0
          have qXv5c1 := qXv5.c1
          have qXv5c2 := qXv5.c2
          have qXv5l := qXv5.lt
          clear qXv5
          go_wp2
          go_ret
          exact ⟨rfl, Z5.out⟩
    · have P0 := Lib.hid p0
      have hc2 := tSub_any t u w2 (It.out.on Z2.out) (Iu.out.on Z2.out) (HSP.out.below Z2.out)
      rw [tb_false p0] at hc2
      unfold LTy.val at hc2
      have HC2 := Lib.hid hc2
      clear hc2 p0
      go_wp2_with fail
      with_reducible refine (HC2.out).mono ?_
      rintro e w3 ⟨rfl, hb3⟩
      have Xt3 := Lib.hid (Xt2.out.below hb3)
      have Xu3 := Lib.hid (Xu2.out.below hb3)
      have Xv3 := Lib.hid (Xv2.out.below hb3)
      have Z3 := Lib.hid (Z2.out.trans (hb3.mono Z2.out.size))
      clear hb3
      have qXt3 := Xt3.out
      have qXt3c0 := qXt3.c0
      have qXt3c1 := qXt3.c1
      have qXt3c2 := qXt3.c2
      have qXt3l := qXt3.lt
      clear qXt3
      have qXu3 := Xu3.out
      have qXu3c0 := qXu3.c0
      have qXu3c1 := qXu3.c1
      have qXu3c2 := qXu3.c2
      have qXu3l := qXu3.lt
      clear qXu3
      have qXv3 := Xv3.out
      have qXv3c0 := qXv3.c0
      have qXv3c1 := qXv3.c1
      have qXv3c2 := qXv3.c2
      have qXv3l := qXv3.lt
      clear qXv3
      by_cases p1 : Precise (strip t) (strip u)
      · have P1 := Lib.hid p1
        have hc3 := tPrec_any t u w3 (It.out.on Z3.out) (Iu.out.on Z3.out) (HSP.out.below Z3.out)
        rw [tb_true p1] at hc3
        unfold LTy.val at hc3
        have HC3 := Lib.hid hc3
        clear hc3 p1
        go_wp2_with fail
        with_reducible refine (HC3.out).mono ?_
        rintro e w4 ⟨rfl, hb4⟩
        have Xt4 := Lib.hid (Xt3.out.below hb4)
        have Xu4 := Lib.hid (Xu3.out.below hb4)
        have Xv4 := Lib.hid (Xv3.out.below hb4)
        have Z4 := Lib.hid (Z3.out.trans (hb4.mono Z3.out.size))
        clear hb4
        have qXt4 := Xt4.out
        have qXt4c0 := qXt4.c0
        have qXt4c1 := qXt4.c1
        have qXt4c2 := qXt4.c2
        have qXt4l := qXt4.lt
        clear qXt4
        have qXu4 := Xu4.out
        have qXu4c0 := qXu4.c0
        have qXu4c1 := qXu4.c1
        have qXu4c2 := qXu4.c2
        have qXu4l := qXu4.lt
        clear qXu4
        have qXv4 := Xv4.out
        have qXv4c0 := qXv4.c0
        have qXv4c1 := qXv4.c1
        have qXv4c2 := qXv4.c2
        have qXv4l := qXv4.lt
        clear qXv4
        by_cases p2 : Precise (strip u) (strip v)
        · have P2 := Lib.hid p2
          have hc4 := tPrec_any u v w4 (Iu.out.on Z4.out) (Iv.out.on Z4.out) (HSP.out.below Z4.out)
          rw [tb_true p2] at hc4
          unfold LTy.val at hc4
          have HC4 := Lib.hid hc4
          clear hc4 p2
          go_wp2_with fail
          with_reducible refine (HC4.out).mono ?_
          rintro e w5 ⟨rfl, hb5⟩
          have Xt5 := Lib.hid (Xt4.out.below hb5)
          have Xu5 := Lib.hid (Xu4.out.below hb5)
          have Xv5 := Lib.hid (Xv4.out.below hb5)
          have Z5 := Lib.hid (Z4.out.trans (hb5.mono Z4.out.size))
          clear hb5
          have qXt5 := Xt5.out
          have qXt5c0 := qXt5.c0
          have qXt5c1 := qXt5.c1
          have qXt5c2 := qXt5.c2
          have qXt5l := qXt5.lt
          clear qXt5
          have qXu5 := Xu5.out
          have qXu5c0 := qXu5.c0
          have qXu5c1 := qXu5.c1
          have qXu5c2 := qXu5.c2
          have qXu5l := qXu5.lt
          clear qXu5
          have qXv5 := Xv5.out
          have qXv5c0 := qXv5.c0
          have qXv5c1 := qXv5.c1
          have qXv5c2 := qXv5.c2
          have qXv5l := qXv5.lt
          clear qXv5
          by_cases p3 : Precise (strip t) (strip v)
          · have P3 := Lib.hid p3
            have hc5 := tPrec_any t v w5 (It.out.on Z5.out) (Iv.out.on Z5.out) (HSP.out.below Z5.out)
            rw [tb_true p3] at hc5
            unfold LTy.val at hc5
            have HC5 := Lib.hid hc5
            clear hc5 p3
            go_wp2_with fail
            with_reducible refine (HC5.out).mono ?_
            rintro e w6 ⟨rfl, hb6⟩
            have Xt6 := Lib.hid (Xt5.out.below hb6)
            have Xu6 := Lib.hid (Xu5.out.below hb6)
            have Xv6 := Lib.hid (Xv5.out.below hb6)
            have Z6 := Lib.hid (Z5.out.trans (hb6.mono Z5.out.size))
            clear hb6
            have qXt6 := Xt6.out
            have qXt6c0 := qXt6.c0
            have qXt6c1 := qXt6.c1
            have qXt6c2 := qXt6.c2
            have qXt6l := qXt6.lt
            clear qXt6
            have qXu6 := Xu6.out
            have qXu6c0 := qXu6.c0
            have qXu6c1 := qXu6.c1
            have qXu6c2 := qXu6.c2
            have qXu6l := qXu6.lt
            clear qXu6
            have qXv6 := Xv6.out
            have qXv6c0 := qXv6.c0
            have qXv6c1 := qXv6.c1
            have qXv6c2 := qXv6.c2
            have qXv6l := qXv6.lt
            clear qXv6
            go_wp2
            go_ret
            exact ⟨rfl, Z6.out⟩
          · have P3 := Lib.hid p3
            exact ((P3.out (precise_trans P1.out P2.out)).elim)
        · have P2 := Lib.hid p2
          have hc4 := tPrec_any u v w4 (Iu.out.on Z4.out) (Iv.out.on Z4.out) (HSP.out.below Z4.out)
          rw [tb_false p2] at hc4
          unfold LTy.val at hc4
          have HC4 := Lib.hid hc4
          clear hc4 p2
          go_wp2_with fail
          with_reducible refine (HC4.out).mono ?_
          rintro e w5 ⟨rfl, hb5⟩
          have Xt5 := Lib.hid (Xt4.out.below hb5)
          have Xu5 := Lib.hid (Xu4.out.below hb5)
          have Xv5 := Lib.hid (Xv4.out.below hb5)
          have Z5 := Lib.hid (Z4.out.trans (hb5.mono Z4.out.size))
          clear hb5
          have qXt5 := Xt5.out
          have qXt5c0 := qXt5.c0
          have qXt5c1 := qXt5.c1
          have qXt5c2 := qXt5.c2
          have qXt5l := qXt5.lt
          clear qXt5
          have qXu5 := Xu5.out
          have qXu5c0 := qXu5.c0
          have qXu5c1 := qXu5.c1
          have qXu5c2 := qXu5.c2
          have qXu5l := qXu5.lt
          clear qXu5
          have qXv5 := Xv5.out
          have qXv5c0 := qXv5.c0
          have qXv5c1 := qXv5.c1
          have qXv5c2 := qXv5.c2
          have qXv5l := qXv5.lt
          clear qXv5
          go_wp2
          go_ret
          exact ⟨rfl, Z5.out⟩
      · have P1 := Lib.hid p1
        have hc3 := tPrec_any t u w3 (It.out.on Z3.out) (Iu.out.on Z3.out) (HSP.out.below Z3.out)
        rw [tb_false p1] at hc3
        unfold LTy.val at hc3
        have HC3 := Lib.hid hc3
        clear hc3 p1
        go_wp2_with fail
        with_reducible refine (HC3.out).mono ?_
        rintro e w4 ⟨rfl, hb4⟩
        have Xt4 := Lib.hid (Xt3.out.below hb4)
        have Xu4 := Lib.hid (Xu3.out.below hb4)
        have Xv4 := Lib.hid (Xv3.out.below hb4)
        have Z4 := Lib.hid (Z3.out.trans (hb4.mono Z3.out.size))
        clear hb4
        have qXt4 := Xt4.out
        have qXt4c0 := qXt4.c0
        have qXt4c1 := qXt4.c1
        have qXt4c2 := qXt4.c2
        have qXt4l := qXt4.lt
        clear qXt4
        have qXu4 := Xu4.out
        have qXu4c0 := qXu4.c0
        have qXu4c1 := qXu4.c1
        have qXu4c2 := qXu4.c2
        have qXu4l := qXu4.lt
        clear qXu4
        have qXv4 := Xv4.out
        have qXv4c0 := qXv4.c0
        have qXv4c1 := qXv4.c1
        have qXv4c2 := qXv4.c2
        have qXv4l := qXv4.lt
        clear qXv4
        go_wp2
        go_ret
        exact ⟨rfl, Z4.out⟩
set_option maxRecDepth 100000 in
set_option maxHeartbeats 8000000 in
theorem relateVague_walk (t u : LTy) (w : World) (it : LIn w w.heap.size t) (iu : LIn w w.heap.size u) (hsp : SpW w) : Calls Tryd.prog 11 #[t.val, u.val] w (RetB (.bool true) w) := by
  unfold LTy.val
  obtain ⟨g, hg⟩ : ∃ g, g = w.heap.size := ⟨_, rfl⟩
  have It := Lib.hid it
  have Iu := Lib.hid iu
  have HSP := Lib.hid hsp
  clear hsp it iu
  go_enter Tryd.func11, Tryd.ntmps11
  go_upto_region 1 with fail
  rw [← hg]
  refine gen_wpT fun w0 hW => ?_
  obtain ⟨kt, ku, kb⟩ : TBox w0 (g) t ∧ TBox w0 (g + 1) u ∧ Below w.heap.size w w0 := by rw [← hW, hg]; exact boxes2 w t u
  have Xt0 := Lib.hid kt
  have Xu0 := Lib.hid ku
  have Z0 := Lib.hid kb
  clear hW hg kb kt ku
  have qXt0 := Xt0.out
  have qXt0c0 := qXt0.c0
  have qXt0c1 := qXt0.c1
  have qXt0c2 := qXt0.c2
  have qXt0l := qXt0.lt
  clear qXt0
  have qXu0 := Xu0.out
  have qXu0c0 := qXu0.c0
  have qXu0c1 := qXu0.c1
  have qXu0c2 := qXu0.c2
  have qXu0l := qXu0.lt
  clear qXu0
  go_wp2_with fail
  with_reducible refine (awake10_any _ (HSP.out.below Z0.out)).mono ?_
  rintro e w1 ⟨rfl, hb1⟩
  have Xt1 := Lib.hid (Xt0.out.below hb1)
  have Xu1 := Lib.hid (Xu0.out.below hb1)
  have Z1 := Lib.hid (Z0.out.trans (hb1.mono Z0.out.size))
  clear hb1
  have qXt1 := Xt1.out
  have qXt1c0 := qXt1.c0
  have qXt1c1 := qXt1.c1
  have qXt1c2 := qXt1.c2
  have qXt1l := qXt1.lt
  clear qXt1
  have qXu1 := Xu1.out
  have qXu1c0 := qXu1.c0
  have qXu1c1 := qXu1.c1
  have qXu1c2 := qXu1.c2
  have qXu1l := qXu1.lt
  clear qXu1
  have HROW := Lib.hid (show ∀ w', w' = w1.alloc (.cells #[.int .i64 t.kind, .slice t.A t.ns.length t.c, .slice t.A2 t.xs.length t.c2, .int .i64 u.kind, .slice u.A u.ns.length u.c, .slice u.A2 u.xs.length u.c2] 26) → Calls Tryd.prog 22 #[.slice (some ⟨w1.heap.size, 0, none⟩) 2 2] w' (FewsOut [t, u] w') ∧ Below w1.heap.size w1 w' from fun w' e => by
    subst e
    have hb : Below w1.heap.size w1 (w1.alloc (.cells #[.int .i64 t.kind, .slice t.A t.ns.length t.c, .slice t.A2 t.xs.length t.c2, .int .i64 u.kind, .slice u.A u.ns.length u.c, .slice u.A2 u.xs.length u.c2] 26)) := (Below.refl _ _).alloc (Nat.le_refl _) _
    refine ⟨few_row (w0 := w1) [t, u] rfl (heap_new_at _ _ _ rfl) (fun x hx => ?_) (by simp) 2 rfl, hb⟩
    simp at hx
    rcases hx with rfl | rfl
    · exact (It.out.on Z1.out).on hb
    · exact (Iu.out.on Z1.out).on hb)
  go_wp2_with fail
  with_reducible refine (HROW.out _ rfl).1.mono ?_
  rintro e w2 ⟨hb2, b, rfl, hfew⟩
  have hb2 := (HROW.out _ rfl).2.trans (hb2.mono (HROW.out _ rfl).2.size)
  have Xt2 := Lib.hid (Xt1.out.below hb2)
  have Xu2 := Lib.hid (Xu1.out.below hb2)
  have Z2 := Lib.hid (Z1.out.trans (hb2.mono Z1.out.size))
  have HFEW := Lib.hid hfew
  clear hb2 hfew
  have qXt2 := Xt2.out
  have qXt2c0 := qXt2.c0
  have qXt2c1 := qXt2.c1
  have qXt2c2 := qXt2.c2
  have qXt2l := qXt2.lt
  clear qXt2
  have qXu2 := Xu2.out
  have qXu2c0 := qXu2.c0
  have qXu2c1 := qXu2.c1
  have qXu2c2 := qXu2.c2
  have qXu2l := qXu2.lt
  clear qXu2
  cases b with
  | false =>
    go_wp2
    go_ret
    exact ⟨rfl, Z2.out⟩
  | true =>
    by_cases p0 : Precise (strip t) (strip u)
    · have P0 := Lib.hid p0
      have hc2 := tPrec_any t u w2 (It.out.on Z2.out) (Iu.out.on Z2.out) (HSP.out.below Z2.out)
      rw [tb_true p0] at hc2
      unfold LTy.val at hc2
      have HC2 := Lib.hid hc2
      clear hc2 p0
      go_wp2_with fail
      with_reducible refine (HC2.out).mono ?_
      rintro e w3 ⟨rfl, hb3⟩
      have Xt3 := Lib.hid (Xt2.out.below hb3)
      have Xu3 := Lib.hid (Xu2.out.below hb3)
      have Z3 := Lib.hid (Z2.out.trans (hb3.mono Z2.out.size))
      clear hb3
      have qXt3 := Xt3.out
      have qXt3c0 := qXt3.c0
      have qXt3c1 := qXt3.c1
      have qXt3c2 := qXt3.c2
      have qXt3l := qXt3.lt
      clear qXt3
      have qXu3 := Xu3.out
      have qXu3c0 := qXu3.c0
      have qXu3c1 := qXu3.c1
      have qXu3c2 := qXu3.c2
      have qXu3l := qXu3.lt
      clear qXu3
      by_cases p1 : strip t = strip u ∧ May (strip t)
      · have P1 := Lib.hid p1
        have hc3 := rsame_any t u w3 (It.out.on Z3.out) (Iu.out.on Z3.out)
        rw [tb_true p1] at hc3
        unfold LTy.val at hc3
        have HC3 := Lib.hid hc3
        clear hc3 p1
        go_wp2_with fail
        with_reducible refine (HC3.out).mono ?_
        rintro e w4 ⟨rfl, hb4⟩
        have Xt4 := Lib.hid (Xt3.out.below hb4)
        have Xu4 := Lib.hid (Xu3.out.below hb4)
        have Z4 := Lib.hid (Z3.out.trans (hb4.mono Z3.out.size))
        clear hb4
        have qXt4 := Xt4.out
        have qXt4c0 := qXt4.c0
        have qXt4c1 := qXt4.c1
        have qXt4c2 := qXt4.c2
        have qXt4l := qXt4.lt
        clear qXt4
        have qXu4 := Xu4.out
        have qXu4c0 := qXu4.c0
        have qXu4c1 := qXu4.c1
        have qXu4c2 := qXu4.c2
        have qXu4l := qXu4.lt
        clear qXu4
        go_wp2
        go_ret
        exact ⟨rfl, Z4.out⟩
      · have P1 := Lib.hid p1
        have hc3 := rsame_any t u w3 (It.out.on Z3.out) (Iu.out.on Z3.out)
        rw [tb_false p1] at hc3
        unfold LTy.val at hc3
        have HC3 := Lib.hid hc3
        clear hc3 p1
        go_wp2_with fail
        with_reducible refine (HC3.out).mono ?_
        rintro e w4 ⟨rfl, hb4⟩
        have Xt4 := Lib.hid (Xt3.out.below hb4)
        have Xu4 := Lib.hid (Xu3.out.below hb4)
        have Z4 := Lib.hid (Z3.out.trans (hb4.mono Z3.out.size))
        clear hb4
        have qXt4 := Xt4.out
        have qXt4c0 := qXt4.c0
        have qXt4c1 := qXt4.c1
        have qXt4c2 := qXt4.c2
        have qXt4l := qXt4.lt
        clear qXt4
        have qXu4 := Xu4.out
        have qXu4c0 := qXu4.c0
        have qXu4c1 := qXu4.c1
        have qXu4c2 := qXu4.c2
        have qXu4l := qXu4.lt
        clear qXu4
        by_cases p2 : (May (strip u) → Loose (strip u))
        · have P2 := Lib.hid p2
          have hc4 := rvague_any u w4 (Iu.out.on Z4.out)
          rw [tb_true p2] at hc4
          unfold LTy.val at hc4
          have HC4 := Lib.hid hc4
          clear hc4 p2
          go_wp2_with fail
          with_reducible refine (HC4.out).mono ?_
          rintro e w5 ⟨rfl, hb5⟩
          have Xt5 := Lib.hid (Xt4.out.below hb5)
          have Xu5 := Lib.hid (Xu4.out.below hb5)
          have Z5 := Lib.hid (Z4.out.trans (hb5.mono Z4.out.size))
          clear hb5
          have qXt5 := Xt5.out
          have qXt5c0 := qXt5.c0
          have qXt5c1 := qXt5.c1
          have qXt5c2 := qXt5.c2
          have qXt5l := qXt5.lt
          clear qXt5
          have qXu5 := Xu5.out
          have qXu5c0 := qXu5.c0
          have qXu5c1 := qXu5.c1
          have qXu5c2 := qXu5.c2
          have qXu5l := qXu5.lt
          clear qXu5
          by_cases p3 : Precise (strip u) (strip t)
          · have P3 := Lib.hid p3
            exact ((((precise_vague P0.out).resolve_left (fun e => P1.out ⟨e, P0.out.1⟩)).2 P3.out).elim)
          · have P3 := Lib.hid p3
            have hc5 := tPrec_any u t w5 (Iu.out.on Z5.out) (It.out.on Z5.out) (HSP.out.below Z5.out)
            rw [tb_false p3] at hc5
            unfold LTy.val at hc5
            have HC5 := Lib.hid hc5
            clear hc5 p3
            go_wp2_with fail
            with_reducible refine (HC5.out).mono ?_
            rintro e w6 ⟨rfl, hb6⟩
            have Xt6 := Lib.hid (Xt5.out.below hb6)
            have Xu6 := Lib.hid (Xu5.out.below hb6)
            have Z6 := Lib.hid (Z5.out.trans (hb6.mono Z5.out.size))
            clear hb6
            have qXt6 := Xt6.out
            have qXt6c0 := qXt6.c0
            have qXt6c1 := qXt6.c1
            have qXt6c2 := qXt6.c2
            have qXt6l := qXt6.lt
            clear qXt6
            have qXu6 := Xu6.out
            have qXu6c0 := qXu6.c0
            have qXu6c1 := qXu6.c1
            have qXu6c2 := qXu6.c2
            have qXu6l := qXu6.lt
            clear qXu6
            go_wp2
            go_ret
            exact ⟨rfl, Z6.out⟩
        · have P2 := Lib.hid p2
          exact ((P2.out (fun _ => ((precise_vague P0.out).resolve_left (fun e => P1.out ⟨e, P0.out.1⟩)).1)).elim)
    · have P0 := Lib.hid p0
      have hc2 := tPrec_any t u w2 (It.out.on Z2.out) (Iu.out.on Z2.out) (HSP.out.below Z2.out)
      rw [tb_false p0] at hc2
      unfold LTy.val at hc2
      have HC2 := Lib.hid hc2
      clear hc2 p0
      go_wp2_with fail
      with_reducible refine (HC2.out).mono ?_
      rintro e w3 ⟨rfl, hb3⟩
      have Xt3 := Lib.hid (Xt2.out.below hb3)
      have Xu3 := Lib.hid (Xu2.out.below hb3)
      have Z3 := Lib.hid (Z2.out.trans (hb3.mono Z2.out.size))
      clear hb3
      have qXt3 := Xt3.out
      have qXt3c0 := qXt3.c0
      have qXt3c1 := qXt3.c1
      have qXt3c2 := qXt3.c2
      have qXt3l := qXt3.lt
      clear qXt3
      have qXu3 := Xu3.out
      have qXu3c0 := qXu3.c0
      have qXu3c1 := qXu3.c1
      have qXu3c2 := qXu3.c2
      have qXu3l := qXu3.lt
      clear qXu3
      go_wp2
      go_ret
      exact ⟨rfl, Z3.out⟩
end Go.Proofs.YtllpicibncdppaaDoor
