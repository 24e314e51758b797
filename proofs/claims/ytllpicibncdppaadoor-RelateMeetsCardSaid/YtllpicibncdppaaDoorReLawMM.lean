/-
  RelateMeets: the walk.
-/
import Derived.Test.YtllpicibncdppaaDoorReLawM
import Derived.Test.YtllpicibncdppaaDoorReMeetRW
import Derived.Test.YtllpicibncdppaaDoorReJoin
set_option linter.unusedVariables false
set_option linter.unusedSimpArgs false
namespace Go.Proofs.YtllpicibncdppaaDoor
open Go.ChangeShapes Go.WideShapes Go.ChangeAt Go.RowKit

set_option maxRecDepth 100000 in
set_option maxHeartbeats 8000000 in
theorem relateMeets_walk (t u : LTy) (w : World) (it : LIn w w.heap.size t) (iu : LIn w w.heap.size u) (hsp : SpW w) : Calls Tryd.prog 15 #[t.val, u.val] w (RetB (.bool true) w) := by
  unfold LTy.val
  obtain ⟨g, hg⟩ : ∃ g, g = w.heap.size := ⟨_, rfl⟩
  have It := Lib.hid it
  have Iu := Lib.hid iu
  have HSP := Lib.hid hsp
  clear hsp it iu
  go_enter Tryd.func15, Tryd.ntmps15
  go_upto_region 1 with fail
  rw [← hg]
  refine gen_wpT fun w0 hW => ?_
  obtain ⟨kt, ku, kb⟩ : TBox w0 (g) t ∧ TBox w0 (g + 1) u ∧ Below w.heap.size w w0 := by rw [← hW, hg]; exact boxes2 w t u
  have Xt0 := Lib.hid kt
  have Xu0 := Lib.hid ku
  have Z0 := Lib.hid kb
  clear hW hg kb kt ku
  have qXt0 := Xt0.out
  have qXt0c0 := qXt0.c0
  have qXt0c1 := qXt0.c1
  have qXt0c2 := qXt0.c2
  have qXt0l := qXt0.lt
  clear qXt0
  have qXu0 := Xu0.out
  have qXu0c0 := qXu0.c0
  have qXu0c1 := qXu0.c1
  have qXu0c2 := qXu0.c2
  have qXu0l := qXu0.lt
  clear qXu0
  go_wp2_with fail
  with_reducible refine (awake10_any _ (HSP.out.below Z0.out)).mono ?_
  rintro e w1 ⟨rfl, hb1⟩
  have Xt1 := Lib.hid (Xt0.out.below hb1)
  have Xu1 := Lib.hid (Xu0.out.below hb1)
  have Z1 := Lib.hid (Z0.out.trans (hb1.mono Z0.out.size))
  clear hb1
  have qXt1 := Xt1.out
  have qXt1c0 := qXt1.c0
  have qXt1c1 := qXt1.c1
  have qXt1c2 := qXt1.c2
  have qXt1l := qXt1.lt
  clear qXt1
  have qXu1 := Xu1.out
  have qXu1c0 := qXu1.c0
  have qXu1c1 := qXu1.c1
  have qXu1c2 := qXu1.c2
  have qXu1l := qXu1.lt
  clear qXu1
  have HROW := Lib.hid (show ∀ w', w' = w1.alloc (.cells #[.int .i64 t.kind, .slice t.A t.ns.length t.c, .slice t.A2 t.xs.length t.c2, .int .i64 u.kind, .slice u.A u.ns.length u.c, .slice u.A2 u.xs.length u.c2] 26) → Calls Tryd.prog 22 #[.slice (some ⟨w1.heap.size, 0, none⟩) 2 2] w' (FewsOut [t, u] w') ∧ Below w1.heap.size w1 w' from fun w' e => by
    subst e
    have hb : Below w1.heap.size w1 (w1.alloc (.cells #[.int .i64 t.kind, .slice t.A t.ns.length t.c, .slice t.A2 t.xs.length t.c2, .int .i64 u.kind, .slice u.A u.ns.length u.c, .slice u.A2 u.xs.length u.c2] 26)) := (Below.refl _ _).alloc (Nat.le_refl _) _
    refine ⟨few_row (w0 := w1) [t, u] rfl (heap_new_at _ _ _ rfl) (fun x hx => ?_) (by simp) 2 rfl, hb⟩
    simp at hx
    rcases hx with rfl | rfl
    · exact (It.out.on Z1.out).on hb
    · exact (Iu.out.on Z1.out).on hb)
  go_wp2_with fail
  with_reducible refine (HROW.out _ rfl).1.mono ?_
  rintro e w2 ⟨hb2, b, rfl, hfew⟩
  have hb2 := (HROW.out _ rfl).2.trans (hb2.mono (HROW.out _ rfl).2.size)
  have Xt2 := Lib.hid (Xt1.out.below hb2)
  have Xu2 := Lib.hid (Xu1.out.below hb2)
  have Z2 := Lib.hid (Z1.out.trans (hb2.mono Z1.out.size))
  have HFEW := Lib.hid hfew
  clear hb2 hfew
  have qXt2 := Xt2.out
  have qXt2c0 := qXt2.c0
  have qXt2c1 := qXt2.c1
  have qXt2c2 := qXt2.c2
  have qXt2l := qXt2.lt
  clear qXt2
  have qXu2 := Xu2.out
  have qXu2c0 := qXu2.c0
  have qXu2c1 := qXu2.c1
  have qXu2c2 := qXu2.c2
  have qXu2l := qXu2.lt
  clear qXu2
  cases b with
  | false =>
    go_wp2
    go_ret
    exact ⟨rfl, Z2.out⟩
  | true =>
    have hc2 := tMeet_any t u w2 w2.heap.size (Nat.le_refl _) (It.out.on Z2.out) (Iu.out.on Z2.out) (HSP.out.below Z2.out)
    unfold LTy.val at hc2
    have HC2 := Lib.hid hc2
    clear hc2
    go_wp2_with fail
    with_reducible refine HC2.out.mono ?_
    rintro e w3 (⟨hno, rfl, hb3⟩ | ⟨r, hr, rfl, hlr, hb3⟩)
    · have P0 := Lib.hid hno
      have Xt3 := Lib.hid (Xt2.out.below hb3)
      have Xu3 := Lib.hid (Xu2.out.below hb3)
      have Z3 := Lib.hid (Z2.out.trans (hb3.mono Z2.out.size))
      clear hb3 hno
      have qXt3 := Xt3.out
      have qXt3c0 := qXt3.c0
      have qXt3c1 := qXt3.c1
      have qXt3c2 := qXt3.c2
      have qXt3l := qXt3.lt
      clear qXt3
      have qXu3 := Xu3.out
      have qXu3c0 := qXu3.c0
      have qXu3c1 := qXu3.c1
      have qXu3c2 := qXu3.c2
      have qXu3l := qXu3.lt
      clear qXu3
      go_upto_region 6 with fail
      refine gen_wpT fun w4 hW => ?_
      have hb4 : Below w3.heap.size w3 w4 := by rw [← hW]; exact (Below.refl _ _).alloc (Nat.le_refl _) _
      have Xt4 := Lib.hid (Xt3.out.below hb4)
      have Xu4 := Lib.hid (Xu3.out.below hb4)
      have Z4 := Lib.hid (Z3.out.trans (hb4.mono Z3.out.size))
      clear hW hb4
      have qXt4 := Xt4.out
      have qXt4c0 := qXt4.c0
      have qXt4c1 := qXt4.c1
      have qXt4c2 := qXt4.c2
      have qXt4l := qXt4.lt
      clear qXt4
      have qXu4 := Xu4.out
      have qXu4c0 := qXu4.c0
      have qXu4c1 := qXu4.c1
      have qXu4c2 := qXu4.c2
      have qXu4l := qXu4.lt
      clear qXu4
      have hc4 := (show Calls Tryd.prog 43 #[t.val, u.val] w4 (RetM w4.heap.size none w4) by have := rMeet_any t u w4 w4.heap.size (Nat.le_refl _) (It.out.on Z4.out) (Iu.out.on Z4.out); rw [P0.out] at this; exact this)
      unfold LTy.val at hc4
      have HC4 := Lib.hid hc4
      clear hc4
      go_wp2_with fail
      with_reducible refine HC4.out.mono ?_
      rintro e w5 (⟨hno, rfl, hb5⟩ | ⟨s, hr, _⟩)
      rotate_left
      · cases hr
      have Xt5 := Lib.hid (Xt4.out.below hb5)
      have Xu5 := Lib.hid (Xu4.out.below hb5)
      have Z5 := Lib.hid (Z4.out.trans (hb5.mono Z4.out.size))
      clear hb5 hno
      have qXt5 := Xt5.out
      have qXt5c0 := qXt5.c0
      have qXt5c1 := qXt5.c1
      have qXt5c2 := qXt5.c2
      have qXt5l := qXt5.lt
      clear qXt5
      have qXu5 := Xu5.out
      have qXu5c0 := qXu5.c0
      have qXu5c1 := qXu5.c1
      have qXu5c2 := qXu5.c2
      have qXu5l := qXu5.lt
      clear qXu5
      go_upto_region 7 with fail
      refine gen_wpT fun w6 hW => ?_
      have hb6 : Below w5.heap.size w5 w6 := by rw [← hW]; exact (Below.refl _ _).alloc (Nat.le_refl _) _
      have Xt6 := Lib.hid (Xt5.out.below hb6)
      have Xu6 := Lib.hid (Xu5.out.below hb6)
      have Z6 := Lib.hid (Z5.out.trans (hb6.mono Z5.out.size))
      clear hW hb6
      have qXt6 := Xt6.out
      have qXt6c0 := qXt6.c0
      have qXt6c1 := qXt6.c1
      have qXt6c2 := qXt6.c2
      have qXt6l := qXt6.lt
      clear qXt6
      have qXu6 := Xu6.out
      have qXu6c0 := qXu6.c0
      have qXu6c1 := qXu6.c1
      have qXu6c2 := qXu6.c2
      have qXu6l := qXu6.lt
      clear qXu6
      have HJ1 := Lib.hid (show ∀ w', Below w.heap.size w w' → Calls Tryd.prog 41 #[.agg #[.int .i64 t.kind, .slice t.A t.ns.length t.c, .slice t.A2 t.xs.length t.c2], .agg #[.int .i64 u.kind, .slice u.A u.ns.length u.c, .slice u.A2 u.xs.length u.c2]] w' (RetT w.heap.size (joinT (strip t) (strip u)) w') from fun w' hb => tJoin_any t u w' w.heap.size hb.size (It.out.stay hb) (Iu.out.stay hb) (HSP.out.below hb))
      have HJ2 := Lib.hid (show ∀ w', Below w.heap.size w w' → Calls Tryd.prog 44 #[.agg #[.int .i64 t.kind, .slice t.A t.ns.length t.c, .slice t.A2 t.xs.length t.c2], .agg #[.int .i64 u.kind, .slice u.A u.ns.length u.c, .slice u.A2 u.xs.length u.c2]] w' (RetT w.heap.size (joinT (strip t) (strip u)) w') from fun w' hb => rJoin_any t u w' w.heap.size hb.size (It.out.stay hb) (Iu.out.stay hb))
      go_wp2_with fail
      refine wp_region_held_drew (S := fun w' => TBox w' g t ∧ TBox w' (g + 1) u) (by kernel_rfl) (⟨Xt6.out, Xu6.out⟩) (fun hHeld => ?_)
      refine wpAnyH_take (i := 0) (oi := _) (v := .bool false) rfl (by kernel_rfl) (by kernel_rfl) (by kernel_rfl) (fun _ _ _ h => h) (Or.inl ⟨by rfl, fun w' hS => (by go_simp)⟩) hHeld ?_
      change wpAnyH _ _ _ _ _ _ _ (Act.put _ (some 28) _) _
      try simp only [Act.put, List.setIfInBounds_toArray, List.set_cons_zero, List.set_cons_succ]
      refine wpAnyH_take (i := 1) (oi := _) (v := .bool false) rfl (by kernel_rfl) (by kernel_rfl) (by kernel_rfl) (fun _ _ _ h => h) (Or.inl ⟨by rfl, fun w' hS => (by go_simp)⟩) hHeld ?_
      change wpAnyH _ _ _ _ _ _ _ (Act.put _ (some 29) _) _
      try simp only [Act.put, List.setIfInBounds_toArray, List.set_cons_zero, List.set_cons_succ]
      refine wpAnyH_take (i := 2) (oi := _) (v := .bool true) rfl (by kernel_rfl) (by kernel_rfl) (by kernel_rfl) (fun _ _ _ h => h) (Or.inl ⟨by rfl, fun w' hS => (by go_simp)⟩) hHeld ?_
      change wpAnyH _ _ _ _ _ _ _ (Act.put _ (some 30) _) _
      try simp only [Act.put, List.setIfInBounds_toArray, List.set_cons_zero, List.set_cons_succ]
      refine wpAnyH_take (i := 3) (oi := _) (v := .bool true) rfl (by kernel_rfl) (by kernel_rfl) (by kernel_rfl) (fun _ _ _ h => h) (Or.inl ⟨by rfl, fun w' hS => (by go_simp)⟩) hHeld ?_
      change wpAnyH _ _ _ _ _ _ _ (Act.put _ (some 31) _) _
      try simp only [Act.put, List.setIfInBounds_toArray, List.set_cons_zero, List.set_cons_succ]
      refine wpAnyH_take (i := 4) (oi := _) (v := .bool false) rfl (by kernel_rfl) (by kernel_rfl) (by kernel_rfl) (fun _ _ _ h => h) (Or.inl ⟨by rfl, fun w' hS => (by go_simp)⟩) hHeld ?_
      change wpAnyH _ _ _ _ _ _ _ (Act.put _ (some 32) _) _
      try simp only [Act.put, List.setIfInBounds_toArray, List.set_cons_zero, List.set_cons_succ]
      refine wpAnyH_take (i := 5) (oi := _) (v := .bool true) rfl (by kernel_rfl) (by kernel_rfl) (by kernel_rfl) (fun _ _ _ h => h) (Or.inl ⟨by rfl, fun w' hS => (by go_simp)⟩) hHeld ?_
      change wpAnyH _ _ _ _ _ _ _ (Act.put _ (some 33) _) _
      try simp only [Act.put, List.setIfInBounds_toArray, List.set_cons_zero, List.set_cons_succ]
      refine wpAnyH_take (i := 6) (oi := _) (v := .bool true) rfl (by kernel_rfl) (by kernel_rfl) (by kernel_rfl) (fun _ _ _ h => h) (Or.inl ⟨by rfl, fun w' hS => (by go_simp)⟩) hHeld ?_
      change wpAnyH _ _ _ _ _ _ _ (Act.put _ (some 34) _) _
      try simp only [Act.put, List.setIfInBounds_toArray, List.set_cons_zero, List.set_cons_succ]
      refine wpAnyH_take (i := 7) (oi := _) (v := undef) rfl (by kernel_rfl) (by kernel_rfl) (by kernel_rfl) (fun _ _ _ h => h) (Or.inr ⟨by kernel_rfl, rfl⟩) hHeld ?_
      change wpAnyH _ _ _ _ _ _ _ (Act.put _ (some 35) _) _
      try simp only [Act.put, List.setIfInBounds_toArray, List.set_cons_zero, List.set_cons_succ]
      refine wpAnyH_take (i := 8) (oi := _) (v := undef) rfl (by kernel_rfl) (by kernel_rfl) (by kernel_rfl) (fun _ _ _ h => h) (Or.inr ⟨by kernel_rfl, rfl⟩) hHeld ?_
      change wpAnyH _ _ _ _ _ _ _ (Act.put _ (some 36) _) _
      try simp only [Act.put, List.setIfInBounds_toArray, List.set_cons_zero, List.set_cons_succ]
      refine wpAnyH_take (i := 9) (oi := _) (v := undef) rfl (by kernel_rfl) (by kernel_rfl) (by kernel_rfl) (fun _ _ _ h => h) (Or.inr ⟨by kernel_rfl, rfl⟩) hHeld ?_
      change wpAnyH _ _ _ _ _ _ _ (Act.put _ (some 37) _) _
      try simp only [Act.put, List.setIfInBounds_toArray, List.set_cons_zero, List.set_cons_succ]
      refine wpAnyH_take (i := 10) (oi := _) (v := .bool true) rfl (by kernel_rfl) (by kernel_rfl) (by kernel_rfl) (fun _ _ _ h => h) (Or.inl ⟨by rfl, fun w' hS => (by go_simp)⟩) hHeld ?_
      change wpAnyH _ _ _ _ _ _ _ (Act.put _ (some 38) _) _
      try simp only [Act.put, List.setIfInBounds_toArray, List.set_cons_zero, List.set_cons_succ]
      refine wpAnyH_take (i := 11) (oi := _) (v := .bool true) rfl (by kernel_rfl) (by kernel_rfl) (by kernel_rfl) (fun _ _ _ h => h) (Or.inl ⟨by rfl, fun w' hS => (by go_simp)⟩) hHeld ?_
      change wpAnyH _ _ _ _ _ _ _ (Act.put _ (some 39) _) _
      try simp only [Act.put, List.setIfInBounds_toArray, List.set_cons_zero, List.set_cons_succ]
      refine wpAnyH_take (i := 12) (oi := _) (v := .bool true) rfl (by kernel_rfl) (by kernel_rfl) (by kernel_rfl) (fun _ _ _ h => h) (Or.inl ⟨by rfl, fun w' hS => (by go_simp)⟩) hHeld ?_
      change wpAnyH _ _ _ _ _ _ _ (Act.put _ (some 40) _) _
      try simp only [Act.put, List.setIfInBounds_toArray, List.set_cons_zero, List.set_cons_succ]
      refine wpAnyH_take (i := 13) (oi := _) (v := .agg #[.int .i64 t.kind, .slice t.A t.ns.length t.c, .slice t.A2 t.xs.length t.c2]) rfl (by kernel_rfl) (by kernel_rfl) (by kernel_rfl) (fun _ _ _ h => h) (Or.inl ⟨by rfl, fun w' hS => (by have q0 := TBox.c0 hS.1; have q1 := TBox.c1 hS.1; have q2 := TBox.c2 hS.1; go_simp)⟩) hHeld ?_
      change wpAnyH _ _ _ _ _ _ _ (Act.put _ (some 41) _) _
      try simp only [Act.put, List.setIfInBounds_toArray, List.set_cons_zero, List.set_cons_succ]
      refine wpAnyH_take (i := 14) (oi := _) (v := .agg #[.int .i64 u.kind, .slice u.A u.ns.length u.c, .slice u.A2 u.xs.length u.c2]) rfl (by kernel_rfl) (by kernel_rfl) (by kernel_rfl) (fun _ _ _ h => h) (Or.inl ⟨by rfl, fun w' hS => (by have q0 := TBox.c0 hS.2; have q1 := TBox.c1 hS.2; have q2 := TBox.c2 hS.2; go_simp)⟩) hHeld ?_
      change wpAnyH _ _ _ _ _ _ _ (Act.put _ (some 42) _) _
      try simp only [Act.put, List.setIfInBounds_toArray, List.set_cons_zero, List.set_cons_succ]
      refine wpAnyH_take (i := 16) (oi := _) (v := .agg #[.int .i64 t.kind, .slice t.A t.ns.length t.c, .slice t.A2 t.xs.length t.c2]) rfl (by kernel_rfl) (by kernel_rfl) (by kernel_rfl) (fun _ _ _ h => h) (Or.inl ⟨by rfl, fun w' hS => (by have q0 := TBox.c0 hS.1; have q1 := TBox.c1 hS.1; have q2 := TBox.c2 hS.1; go_simp)⟩) hHeld ?_
      change wpAnyH _ _ _ _ _ _ _ (Act.put _ (some 44) _) _
      try simp only [Act.put, List.setIfInBounds_toArray, List.set_cons_zero, List.set_cons_succ]
      refine wpAnyH_take (i := 17) (oi := _) (v := .agg #[.int .i64 u.kind, .slice u.A u.ns.length u.c, .slice u.A2 u.xs.length u.c2]) rfl (by kernel_rfl) (by kernel_rfl) (by kernel_rfl) (fun _ _ _ h => h) (Or.inl ⟨by rfl, fun w' hS => (by have q0 := TBox.c0 hS.2; have q1 := TBox.c1 hS.2; have q2 := TBox.c2 hS.2; go_simp)⟩) hHeld ?_
      change wpAnyH _ _ _ _ _ _ _ (Act.put _ (some 45) _) _
      try simp only [Act.put, List.setIfInBounds_toArray, List.set_cons_zero, List.set_cons_succ]
      refine wpAnyH_ready (rs := [15]) (by kernel_rfl) (by simp) ?_
      refine AllReadyH.cons (o := _) rfl (fun K hK => ?_) AllReadyH.nil
      go_simp
      with_reducible refine (HJ1.out _ (Z6.out.trans (((Below.refl w6.heap.size w6).drew).mono Z6.out.size))).mono ?_
      rintro e v2 ⟨jx, rfl, hlx, hsx, hc2⟩
      have C2 := Lib.hid (((Below.refl w6.heap.size w6).drew).trans (hc2.mono ((Below.refl w6.heap.size w6).drew).size))
      have LX := Lib.hid (hlx _ (Stays.refl _ _ _))
      have SX := Lib.hid hsx
      clear hc2 hlx hsx
      refine hK.out _ _ (⟨Xt6.out.below C2.out, Xu6.out.below C2.out⟩) (fun hHeld => ?_)
      clear hK K
      try simp only [Act.put, List.setIfInBounds_toArray, List.set_cons_zero, List.set_cons_succ]
      refine wpAnyH_ready (rs := [18]) (by kernel_rfl) (by simp) ?_
      refine AllReadyH.cons (o := _) rfl (fun K hK => ?_) AllReadyH.nil
      go_simp
      with_reducible refine (HJ2.out _ (Z6.out.trans (C2.out.mono Z6.out.size))).mono ?_
      rintro e v3 ⟨jy, rfl, hly, hsy, hc3⟩
      have C3 := Lib.hid (C2.out.trans (hc3.mono C2.out.size))
      have LY := Lib.hid (hly _ (Stays.refl _ _ _))
      have SY := Lib.hid hsy
      have LX2 := Lib.hid (LX.out.on hc3)
      clear hc3 hly hsy
      refine hK.out _ _ (⟨Xt6.out.below C3.out, Xu6.out.below C3.out⟩) (fun hHeld => ?_)
      clear hK K
      try simp only [Act.put, List.setIfInBounds_toArray, List.set_cons_zero, List.set_cons_succ]
      refine wpAnyH_ready (rs := [19]) (by kernel_rfl) (by simp) ?_
      refine AllReadyH.cons (o := _) rfl (fun K hK => ?_) AllReadyH.nil
      go_simp
      have hq := rsame_any jx jy v3 LX2.out LY.out
      rw [tb_true ⟨by rw [SX.out, SY.out], by rw [SX.out]; exact join_may⟩] at hq
      with_reducible refine hq.mono ?_
      rintro e v4 ⟨rfl, hc4⟩
      have C4 := Lib.hid (C3.out.trans (hc4.mono C3.out.size))
      clear hc4 hq
      refine hK.out _ _ (⟨Xt6.out.below C4.out, Xu6.out.below C4.out⟩) (fun hHeld => ?_)
      clear hK K
      try simp only [Act.put, List.setIfInBounds_toArray, List.set_cons_zero, List.set_cons_succ]
      refine wpAnyH_take (i := 20) (oi := _) (v := .bool true) rfl (by kernel_rfl) (by kernel_rfl) (by kernel_rfl) (fun _ _ _ h => h) (Or.inl ⟨by rfl, fun w' hS => (by go_simp)⟩) hHeld ?_
      change wpAnyH _ _ _ _ _ _ _ (Act.put _ (some 48) _) _
      try simp only [Act.put, List.setIfInBounds_toArray, List.set_cons_zero, List.set_cons_succ]
      refine wpAnyH_take (i := 21) (oi := _) (v := .bool true) rfl (by kernel_rfl) (by kernel_rfl) (by kernel_rfl) (fun _ _ _ h => h) (Or.inl ⟨by rfl, fun w' hS => (by go_simp)⟩) hHeld ?_
      change wpAnyH _ _ _ _ _ _ _ (Act.put _ (some 4) _) _
      try simp only [Act.put, List.setIfInBounds_toArray, List.set_cons_zero, List.set_cons_succ]
      refine wpAnyH_done (by kernel_rfl) ?_ _
      go_wp2
      go_ret
      exact ⟨rfl, Z6.out.trans (C4.out.mono Z6.out.size)⟩
    · have P0 := Lib.hid hr
      have Xt3 := Lib.hid (Xt2.out.below hb3)
      have Xu3 := Lib.hid (Xu2.out.below hb3)
      have Z3 := Lib.hid (Z2.out.trans (hb3.mono Z2.out.size))
      have Rr3 := Lib.hid (hlr _ (Stays.refl _ _ _))
      clear hb3 hlr hr
      have qXt3 := Xt3.out
      have qXt3c0 := qXt3.c0
      have qXt3c1 := qXt3.c1
      have qXt3c2 := qXt3.c2
      have qXt3l := qXt3.lt
      clear qXt3
      have qXu3 := Xu3.out
      have qXu3c0 := qXu3.c0
      have qXu3c1 := qXu3.c1
      have qXu3c2 := qXu3.c2
      have qXu3l := qXu3.lt
      clear qXu3
      unfold LTy.val
      go_upto_region 6 with fail
      obtain ⟨br, hbr⟩ : ∃ b, b = w3.heap.size := ⟨_, rfl⟩
      rw [← hbr]
      refine gen_wpT fun w4 hW => ?_
      have hb4 : Below w3.heap.size w3 w4 := by rw [← hW]; exact (one_box w3 r).2
      have Xt4 := Lib.hid (Xt3.out.below hb4)
      have Xu4 := Lib.hid (Xu3.out.below hb4)
      have Z4 := Lib.hid (Z3.out.trans (hb4.mono Z3.out.size))
      have Rr4 := Lib.hid (Rr3.out.on hb4)
      have Xr4 := Lib.hid (show TBox w4 br r by rw [← hW, hbr]; exact (one_box w3 r).1)
      clear hW hbr hb4
      have qXt4 := Xt4.out
      have qXt4c0 := qXt4.c0
      have qXt4c1 := qXt4.c1
      have qXt4c2 := qXt4.c2
      have qXt4l := qXt4.lt
      clear qXt4
      have qXu4 := Xu4.out
      have qXu4c0 := qXu4.c0
      have qXu4c1 := qXu4.c1
      have qXu4c2 := qXu4.c2
      have qXu4l := qXu4.lt
      clear qXu4
      have qXr4 := Xr4.out
      have qXr4c0 := qXr4.c0
      have qXr4c1 := qXr4.c1
      have qXr4c2 := qXr4.c2
      have qXr4l := qXr4.lt
      clear qXr4
      have hc4 := (show Calls Tryd.prog 43 #[t.val, u.val] w4 (RetM w4.heap.size (some (strip r)) w4) by have := rMeet_any t u w4 w4.heap.size (Nat.le_refl _) (It.out.on Z4.out) (Iu.out.on Z4.out); rw [P0.out] at this; exact this)
      unfold LTy.val at hc4
      have HC4 := Lib.hid hc4
      clear hc4
      go_wp2_with fail
      with_reducible refine HC4.out.mono ?_
      rintro e w5 (⟨hno, _⟩ | ⟨s, hr, rfl, hlr, hb5⟩)
      · cases hno
      have P1 := Lib.hid hr
      have Xt5 := Lib.hid (Xt4.out.below hb5)
      have Xu5 := Lib.hid (Xu4.out.below hb5)
      have Xr5 := Lib.hid (Xr4.out.below hb5)
      have Z5 := Lib.hid (Z4.out.trans (hb5.mono Z4.out.size))
      have Rr5 := Lib.hid (Rr4.out.on hb5)
      have Rs5 := Lib.hid (hlr _ (Stays.refl _ _ _))
      clear hb5 hlr hr
      have qXt5 := Xt5.out
      have qXt5c0 := qXt5.c0
      have qXt5c1 := qXt5.c1
      have qXt5c2 := qXt5.c2
      have qXt5l := qXt5.lt
      clear qXt5
      have qXu5 := Xu5.out
      have qXu5c0 := qXu5.c0
      have qXu5c1 := qXu5.c1
      have qXu5c2 := qXu5.c2
      have qXu5l := qXu5.lt
      clear qXu5
      have qXr5 := Xr5.out
      have qXr5c0 := qXr5.c0
      have qXr5c1 := qXr5.c1
      have qXr5c2 := qXr5.c2
      have qXr5l := qXr5.lt
      clear qXr5
      unfold LTy.val
      go_upto_region 7 with fail
      obtain ⟨bs, hbs⟩ : ∃ b, b = w5.heap.size := ⟨_, rfl⟩
      rw [← hbs]
      refine gen_wpT fun w6 hW => ?_
      have hb6 : Below w5.heap.size w5 w6 := by rw [← hW]; exact (one_box w5 s).2
      have Xt6 := Lib.hid (Xt5.out.below hb6)
      have Xu6 := Lib.hid (Xu5.out.below hb6)
      have Xr6 := Lib.hid (Xr5.out.below hb6)
      have Z6 := Lib.hid (Z5.out.trans (hb6.mono Z5.out.size))
      have Rr6 := Lib.hid (Rr5.out.on hb6)
      have Rs6 := Lib.hid (Rs5.out.on hb6)
      have Xs6 := Lib.hid (show TBox w6 bs s by rw [← hW, hbs]; exact (one_box w5 s).1)
      clear hW hbs hb6
      have qXt6 := Xt6.out
      have qXt6c0 := qXt6.c0
      have qXt6c1 := qXt6.c1
      have qXt6c2 := qXt6.c2
      have qXt6l := qXt6.lt
      clear qXt6
      have qXu6 := Xu6.out
      have qXu6c0 := qXu6.c0
      have qXu6c1 := qXu6.c1
      have qXu6c2 := qXu6.c2
      have qXu6l := qXu6.lt
      clear qXu6
      have qXr6 := Xr6.out
      have qXr6c0 := qXr6.c0
      have qXr6c1 := qXr6.c1
      have qXr6c2 := qXr6.c2
      have qXr6l := qXr6.lt
      clear qXr6
      have qXs6 := Xs6.out
      have qXs6c0 := qXs6.c0
      have qXs6c1 := qXs6.c1
      have qXs6c2 := qXs6.c2
      have qXs6l := qXs6.lt
      clear qXs6
      have HJ1 := Lib.hid (show ∀ w', Below w.heap.size w w' → Calls Tryd.prog 41 #[.agg #[.int .i64 t.kind, .slice t.A t.ns.length t.c, .slice t.A2 t.xs.length t.c2], .agg #[.int .i64 u.kind, .slice u.A u.ns.length u.c, .slice u.A2 u.xs.length u.c2]] w' (RetT w.heap.size (joinT (strip t) (strip u)) w') from fun w' hb => tJoin_any t u w' w.heap.size hb.size (It.out.stay hb) (Iu.out.stay hb) (HSP.out.below hb))
      have HJ2 := Lib.hid (show ∀ w', Below w.heap.size w w' → Calls Tryd.prog 44 #[.agg #[.int .i64 t.kind, .slice t.A t.ns.length t.c, .slice t.A2 t.xs.length t.c2], .agg #[.int .i64 u.kind, .slice u.A u.ns.length u.c, .slice u.A2 u.xs.length u.c2]] w' (RetT w.heap.size (joinT (strip t) (strip u)) w') from fun w' hb => rJoin_any t u w' w.heap.size hb.size (It.out.stay hb) (Iu.out.stay hb))
      have HSS := Lib.hid (show ∀ w', Below w6.heap.size w6 w' → Calls Tryd.prog 18 #[.agg #[.int .i64 r.kind, .slice r.A r.ns.length r.c, .slice r.A2 r.xs.length r.c2], .agg #[.int .i64 s.kind, .slice s.A s.ns.length s.c, .slice s.A2 s.xs.length s.c2]] w' (RetB (.bool true) w') from fun w' hb => by
        have := rsame_any r s w' (Rr6.out.on hb) (Rs6.out.on hb)
        rw [tb_true ⟨Option.some.inj P1.out, (meetT_some P0.out (Nat.le_trans (Nat.add_le_add (few_nodes (by first | exact trivial | rfl) HFEW.out It.out (meetT_may P0.out).1 (by simp)) (few_nodes (by first | exact trivial | rfl) HFEW.out Iu.out (meetT_may P0.out).2 (by simp))) (by omega))).2.2.1⟩] at this
        unfold LTy.val at this
        exact this)
      go_wp2_with fail
      refine wp_region_held_drew (S := fun w' => TBox w' g t ∧ TBox w' (g + 1) u ∧ TBox w' br r ∧ TBox w' bs s) (by kernel_rfl) (⟨Xt6.out, Xu6.out, Xr6.out, Xs6.out⟩) (fun hHeld => ?_)
      refine wpAnyH_take (i := 0) (oi := _) (v := .bool true) rfl (by kernel_rfl) (by kernel_rfl) (by kernel_rfl) (fun _ _ _ h => h) (Or.inl ⟨by rfl, fun w' hS => (by go_simp)⟩) hHeld ?_
      change wpAnyH _ _ _ _ _ _ _ (Act.put _ (some 28) _) _
      try simp only [Act.put, List.setIfInBounds_toArray, List.set_cons_zero, List.set_cons_succ]
      refine wpAnyH_take (i := 1) (oi := _) (v := .bool true) rfl (by kernel_rfl) (by kernel_rfl) (by kernel_rfl) (fun _ _ _ h => h) (Or.inl ⟨by rfl, fun w' hS => (by go_simp)⟩) hHeld ?_
      change wpAnyH _ _ _ _ _ _ _ (Act.put _ (some 29) _) _
      try simp only [Act.put, List.setIfInBounds_toArray, List.set_cons_zero, List.set_cons_succ]
      refine wpAnyH_take (i := 2) (oi := _) (v := .bool true) rfl (by kernel_rfl) (by kernel_rfl) (by kernel_rfl) (fun _ _ _ h => h) (Or.inl ⟨by rfl, fun w' hS => (by go_simp)⟩) hHeld ?_
      change wpAnyH _ _ _ _ _ _ _ (Act.put _ (some 30) _) _
      try simp only [Act.put, List.setIfInBounds_toArray, List.set_cons_zero, List.set_cons_succ]
      refine wpAnyH_take (i := 3) (oi := _) (v := .bool true) rfl (by kernel_rfl) (by kernel_rfl) (by kernel_rfl) (fun _ _ _ h => h) (Or.inl ⟨by rfl, fun w' hS => (by go_simp)⟩) hHeld ?_
      change wpAnyH _ _ _ _ _ _ _ (Act.put _ (some 31) _) _
      try simp only [Act.put, List.setIfInBounds_toArray, List.set_cons_zero, List.set_cons_succ]
      refine wpAnyH_take (i := 4) (oi := _) (v := .bool true) rfl (by kernel_rfl) (by kernel_rfl) (by kernel_rfl) (fun _ _ _ h => h) (Or.inl ⟨by rfl, fun w' hS => (by go_simp)⟩) hHeld ?_
      change wpAnyH _ _ _ _ _ _ _ (Act.put _ (some 32) _) _
      try simp only [Act.put, List.setIfInBounds_toArray, List.set_cons_zero, List.set_cons_succ]
      refine wpAnyH_take (i := 5) (oi := _) (v := .bool false) rfl (by kernel_rfl) (by kernel_rfl) (by kernel_rfl) (fun _ _ _ h => h) (Or.inl ⟨by rfl, fun w' hS => (by go_simp)⟩) hHeld ?_
      change wpAnyH _ _ _ _ _ _ _ (Act.put _ (some 33) _) _
      try simp only [Act.put, List.setIfInBounds_toArray, List.set_cons_zero, List.set_cons_succ]
      refine wpAnyH_take (i := 6) (oi := _) (v := .bool false) rfl (by kernel_rfl) (by kernel_rfl) (by kernel_rfl) (fun _ _ _ h => h) (Or.inl ⟨by rfl, fun w' hS => (by go_simp)⟩) hHeld ?_
      change wpAnyH _ _ _ _ _ _ _ (Act.put _ (some 34) _) _
      try simp only [Act.put, List.setIfInBounds_toArray, List.set_cons_zero, List.set_cons_succ]
      refine wpAnyH_take (i := 7) (oi := _) (v := .agg #[.int .i64 r.kind, .slice r.A r.ns.length r.c, .slice r.A2 r.xs.length r.c2]) rfl (by kernel_rfl) (by kernel_rfl) (by kernel_rfl) (fun _ _ _ h => h) (Or.inl ⟨by rfl, fun w' hS => (by have q0 := TBox.c0 hS.2.2.1; have q1 := TBox.c1 hS.2.2.1; have q2 := TBox.c2 hS.2.2.1; go_simp)⟩) hHeld ?_
      change wpAnyH _ _ _ _ _ _ _ (Act.put _ (some 35) _) _
      try simp only [Act.put, List.setIfInBounds_toArray, List.set_cons_zero, List.set_cons_succ]
      refine wpAnyH_take (i := 8) (oi := _) (v := .agg #[.int .i64 s.kind, .slice s.A s.ns.length s.c, .slice s.A2 s.xs.length s.c2]) rfl (by kernel_rfl) (by kernel_rfl) (by kernel_rfl) (fun _ _ _ h => h) (Or.inl ⟨by rfl, fun w' hS => (by have q0 := TBox.c0 hS.2.2.2; have q1 := TBox.c1 hS.2.2.2; have q2 := TBox.c2 hS.2.2.2; go_simp)⟩) hHeld ?_
      change wpAnyH _ _ _ _ _ _ _ (Act.put _ (some 36) _) _
      try simp only [Act.put, List.setIfInBounds_toArray, List.set_cons_zero, List.set_cons_succ]
      refine wpAnyH_ready (rs := [9]) (by kernel_rfl) (by simp) ?_
      refine AllReadyH.cons (o := _) rfl (fun K hK => ?_) AllReadyH.nil
      go_simp
      with_reducible refine (HSS.out _ (Below.refl _ _).drew).mono ?_
      rintro e v1 ⟨rfl, hc1⟩
      have C1 := Lib.hid (show Below w6.heap.size w6 v1 from (Below.refl _ _).drew.trans hc1)
      clear hc1
      refine hK.out _ _ (⟨Xt6.out.below C1.out, Xu6.out.below C1.out, Xr6.out.below C1.out, Xs6.out.below C1.out⟩) (fun hHeld => ?_)
      clear hK K
      try simp only [Act.put, List.setIfInBounds_toArray, List.set_cons_zero, List.set_cons_succ]
      refine wpAnyH_take (i := 10) (oi := _) (v := .bool true) rfl (by kernel_rfl) (by kernel_rfl) (by kernel_rfl) (fun _ _ _ h => h) (Or.inl ⟨by rfl, fun w' hS => (by go_simp)⟩) hHeld ?_
      change wpAnyH _ _ _ _ _ _ _ (Act.put _ (some 38) _) _
      try simp only [Act.put, List.setIfInBounds_toArray, List.set_cons_zero, List.set_cons_succ]
      refine wpAnyH_take (i := 11) (oi := _) (v := .bool true) rfl (by kernel_rfl) (by kernel_rfl) (by kernel_rfl) (fun _ _ _ h => h) (Or.inl ⟨by rfl, fun w' hS => (by go_simp)⟩) hHeld ?_
      change wpAnyH _ _ _ _ _ _ _ (Act.put _ (some 39) _) _
      try simp only [Act.put, List.setIfInBounds_toArray, List.set_cons_zero, List.set_cons_succ]
      refine wpAnyH_take (i := 12) (oi := _) (v := .bool true) rfl (by kernel_rfl) (by kernel_rfl) (by kernel_rfl) (fun _ _ _ h => h) (Or.inl ⟨by rfl, fun w' hS => (by go_simp)⟩) hHeld ?_
      change wpAnyH _ _ _ _ _ _ _ (Act.put _ (some 40) _) _
      try simp only [Act.put, List.setIfInBounds_toArray, List.set_cons_zero, List.set_cons_succ]
      refine wpAnyH_take (i := 13) (oi := _) (v := .agg #[.int .i64 t.kind, .slice t.A t.ns.length t.c, .slice t.A2 t.xs.length t.c2]) rfl (by kernel_rfl) (by kernel_rfl) (by kernel_rfl) (fun _ _ _ h => h) (Or.inl ⟨by rfl, fun w' hS => (by have q0 := TBox.c0 hS.1; have q1 := TBox.c1 hS.1; have q2 := TBox.c2 hS.1; go_simp)⟩) hHeld ?_
      change wpAnyH _ _ _ _ _ _ _ (Act.put _ (some 41) _) _
      try simp only [Act.put, List.setIfInBounds_toArray, List.set_cons_zero, List.set_cons_succ]
      refine wpAnyH_take (i := 14) (oi := _) (v := .agg #[.int .i64 u.kind, .slice u.A u.ns.length u.c, .slice u.A2 u.xs.length u.c2]) rfl (by kernel_rfl) (by kernel_rfl) (by kernel_rfl) (fun _ _ _ h => h) (Or.inl ⟨by rfl, fun w' hS => (by have q0 := TBox.c0 hS.2.1; have q1 := TBox.c1 hS.2.1; have q2 := TBox.c2 hS.2.1; go_simp)⟩) hHeld ?_
      change wpAnyH _ _ _ _ _ _ _ (Act.put _ (some 42) _) _
      try simp only [Act.put, List.setIfInBounds_toArray, List.set_cons_zero, List.set_cons_succ]
      refine wpAnyH_take (i := 16) (oi := _) (v := .agg #[.int .i64 t.kind, .slice t.A t.ns.length t.c, .slice t.A2 t.xs.length t.c2]) rfl (by kernel_rfl) (by kernel_rfl) (by kernel_rfl) (fun _ _ _ h => h) (Or.inl ⟨by rfl, fun w' hS => (by have q0 := TBox.c0 hS.1; have q1 := TBox.c1 hS.1; have q2 := TBox.c2 hS.1; go_simp)⟩) hHeld ?_
      change wpAnyH _ _ _ _ _ _ _ (Act.put _ (some 44) _) _
      try simp only [Act.put, List.setIfInBounds_toArray, List.set_cons_zero, List.set_cons_succ]
      refine wpAnyH_take (i := 17) (oi := _) (v := .agg #[.int .i64 u.kind, .slice u.A u.ns.length u.c, .slice u.A2 u.xs.length u.c2]) rfl (by kernel_rfl) (by kernel_rfl) (by kernel_rfl) (fun _ _ _ h => h) (Or.inl ⟨by rfl, fun w' hS => (by have q0 := TBox.c0 hS.2.1; have q1 := TBox.c1 hS.2.1; have q2 := TBox.c2 hS.2.1; go_simp)⟩) hHeld ?_
      change wpAnyH _ _ _ _ _ _ _ (Act.put _ (some 45) _) _
      try simp only [Act.put, List.setIfInBounds_toArray, List.set_cons_zero, List.set_cons_succ]
      refine wpAnyH_ready (rs := [15]) (by kernel_rfl) (by simp) ?_
      refine AllReadyH.cons (o := _) rfl (fun K hK => ?_) AllReadyH.nil
      go_simp
      with_reducible refine (HJ1.out _ (Z6.out.trans ((C1.out).mono Z6.out.size))).mono ?_
      rintro e v2 ⟨jx, rfl, hlx, hsx, hc2⟩
      have C2 := Lib.hid ((C1.out).trans (hc2.mono (C1.out).size))
      have LX := Lib.hid (hlx _ (Stays.refl _ _ _))
      have SX := Lib.hid hsx
      clear hc2 hlx hsx
      refine hK.out _ _ (⟨Xt6.out.below C2.out, Xu6.out.below C2.out, Xr6.out.below C2.out, Xs6.out.below C2.out⟩) (fun hHeld => ?_)
      clear hK K
      try simp only [Act.put, List.setIfInBounds_toArray, List.set_cons_zero, List.set_cons_succ]
      refine wpAnyH_ready (rs := [18]) (by kernel_rfl) (by simp) ?_
      refine AllReadyH.cons (o := _) rfl (fun K hK => ?_) AllReadyH.nil
      go_simp
      with_reducible refine (HJ2.out _ (Z6.out.trans (C2.out.mono Z6.out.size))).mono ?_
      rintro e v3 ⟨jy, rfl, hly, hsy, hc3⟩
      have C3 := Lib.hid (C2.out.trans (hc3.mono C2.out.size))
      have LY := Lib.hid (hly _ (Stays.refl _ _ _))
      have SY := Lib.hid hsy
      have LX2 := Lib.hid (LX.out.on hc3)
      clear hc3 hly hsy
      refine hK.out _ _ (⟨Xt6.out.below C3.out, Xu6.out.below C3.out, Xr6.out.below C3.out, Xs6.out.below C3.out⟩) (fun hHeld => ?_)
      clear hK K
      try simp only [Act.put, List.setIfInBounds_toArray, List.set_cons_zero, List.set_cons_succ]
      refine wpAnyH_ready (rs := [19]) (by kernel_rfl) (by simp) ?_
      refine AllReadyH.cons (o := _) rfl (fun K hK => ?_) AllReadyH.nil
      go_simp
      have hq := rsame_any jx jy v3 LX2.out LY.out
      rw [tb_true ⟨by rw [SX.out, SY.out], by rw [SX.out]; exact join_may⟩] at hq
      with_reducible refine hq.mono ?_
      rintro e v4 ⟨rfl, hc4⟩
      have C4 := Lib.hid (C3.out.trans (hc4.mono C3.out.size))
      clear hc4 hq
      refine hK.out _ _ (⟨Xt6.out.below C4.out, Xu6.out.below C4.out, Xr6.out.below C4.out, Xs6.out.below C4.out⟩) (fun hHeld => ?_)
      clear hK K
      try simp only [Act.put, List.setIfInBounds_toArray, List.set_cons_zero, List.set_cons_succ]
      refine wpAnyH_take (i := 20) (oi := _) (v := .bool true) rfl (by kernel_rfl) (by kernel_rfl) (by kernel_rfl) (fun _ _ _ h => h) (Or.inl ⟨by rfl, fun w' hS => (by go_simp)⟩) hHeld ?_
      change wpAnyH _ _ _ _ _ _ _ (Act.put _ (some 48) _) _
      try simp only [Act.put, List.setIfInBounds_toArray, List.set_cons_zero, List.set_cons_succ]
      refine wpAnyH_take (i := 21) (oi := _) (v := .bool true) rfl (by kernel_rfl) (by kernel_rfl) (by kernel_rfl) (fun _ _ _ h => h) (Or.inl ⟨by rfl, fun w' hS => (by go_simp)⟩) hHeld ?_
      change wpAnyH _ _ _ _ _ _ _ (Act.put _ (some 4) _) _
      try simp only [Act.put, List.setIfInBounds_toArray, List.set_cons_zero, List.set_cons_succ]
      refine wpAnyH_done (by kernel_rfl) ?_ _
      go_wp2
      go_ret
      exact ⟨rfl, Z6.out.trans (C4.out.mono Z6.out.size)⟩
end Go.Proofs.YtllpicibncdppaaDoor
