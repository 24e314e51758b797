/-
  RelateJoins: the walk.
-/
import Derived.Test.YtllpicibncdppaaDoorReLawSE
import Derived.Test.YtllpicibncdppaaDoorReJoin
set_option linter.unusedVariables false
set_option linter.unusedSimpArgs false
namespace Go.Proofs.YtllpicibncdppaaDoor
open Go.ChangeShapes Go.WideShapes Go.ChangeAt Go.RowKit

set_option maxRecDepth 100000 in
set_option maxHeartbeats 8000000 in
theorem relateJoins_walk (t u : LTy) (w : World) (it : LIn w w.heap.size t) (iu : LIn w w.heap.size u) (hsp : SpW w) : Calls Tryd.prog 12 #[t.val, u.val] w (RetB (.bool true) w) := by
  unfold LTy.val
  obtain ⟨g, hg⟩ : ∃ g, g = w.heap.size := ⟨_, rfl⟩
  have It := Lib.hid it
  have Iu := Lib.hid iu
  have HSP := Lib.hid hsp
  clear hsp it iu
  go_enter Tryd.func12, Tryd.ntmps12
  go_upto_region 1 with fail
  rw [← hg]
  refine gen_wpT fun w0 hW => ?_
  obtain ⟨kt, ku, kb⟩ : TBox w0 (g) t ∧ TBox w0 (g + 1) u ∧ Below w.heap.size w w0 := by rw [← hW, hg]; exact boxes2 w t u
  have Xt0 := Lib.hid kt
  have Xu0 := Lib.hid ku
  have Z0 := Lib.hid kb
  clear hW hg kb kt ku
  have qXt0 := Xt0.out
  have qXt0c0 := qXt0.c0
  have qXt0c1 := qXt0.c1
  have qXt0c2 := qXt0.c2
  have qXt0l := qXt0.lt
  clear qXt0
  have qXu0 := Xu0.out
  have qXu0c0 := qXu0.c0
  have qXu0c1 := qXu0.c1
  have qXu0c2 := qXu0.c2
  have qXu0l := qXu0.lt
  clear qXu0
  go_wp2_with fail
  with_reducible refine (awake10_any _ (HSP.out.below Z0.out)).mono ?_
  rintro e w1 ⟨rfl, hb1⟩
  have Xt1 := Lib.hid (Xt0.out.below hb1)
  have Xu1 := Lib.hid (Xu0.out.below hb1)
  have Z1 := Lib.hid (Z0.out.trans (hb1.mono Z0.out.size))
  clear hb1
  have qXt1 := Xt1.out
  have qXt1c0 := qXt1.c0
  have qXt1c1 := qXt1.c1
  have qXt1c2 := qXt1.c2
  have qXt1l := qXt1.lt
  clear qXt1
  have qXu1 := Xu1.out
  have qXu1c0 := qXu1.c0
  have qXu1c1 := qXu1.c1
  have qXu1c2 := qXu1.c2
  have qXu1l := qXu1.lt
  clear qXu1
  have HROW := Lib.hid (show ∀ w', w' = w1.alloc (.cells #[.int .i64 t.kind, .slice t.A t.ns.length t.c, .slice t.A2 t.xs.length t.c2, .int .i64 u.kind, .slice u.A u.ns.length u.c, .slice u.A2 u.xs.length u.c2] 26) → Calls Tryd.prog 22 #[.slice (some ⟨w1.heap.size, 0, none⟩) 2 2] w' (FewsOut [t, u] w') ∧ Below w1.heap.size w1 w' from fun w' e => by
    subst e
    have hb : Below w1.heap.size w1 (w1.alloc (.cells #[.int .i64 t.kind, .slice t.A t.ns.length t.c, .slice t.A2 t.xs.length t.c2, .int .i64 u.kind, .slice u.A u.ns.length u.c, .slice u.A2 u.xs.length u.c2] 26)) := (Below.refl _ _).alloc (Nat.le_refl _) _
    refine ⟨few_row (w0 := w1) [t, u] rfl (heap_new_at _ _ _ rfl) (fun x hx => ?_) (by simp) 2 rfl, hb⟩
    simp at hx
    rcases hx with rfl | rfl
    · exact (It.out.on Z1.out).on hb
    · exact (Iu.out.on Z1.out).on hb)
  go_wp2_with fail
  with_reducible refine (HROW.out _ rfl).1.mono ?_
  rintro e w2 ⟨hb2, b, rfl, hfew⟩
  have hb2 := (HROW.out _ rfl).2.trans (hb2.mono (HROW.out _ rfl).2.size)
  have Xt2 := Lib.hid (Xt1.out.below hb2)
  have Xu2 := Lib.hid (Xu1.out.below hb2)
  have Z2 := Lib.hid (Z1.out.trans (hb2.mono Z1.out.size))
  have HFEW := Lib.hid hfew
  clear hb2 hfew
  have qXt2 := Xt2.out
  have qXt2c0 := qXt2.c0
  have qXt2c1 := qXt2.c1
  have qXt2c2 := qXt2.c2
  have qXt2l := qXt2.lt
  clear qXt2
  have qXu2 := Xu2.out
  have qXu2c0 := qXu2.c0
  have qXu2c1 := qXu2.c1
  have qXu2c2 := qXu2.c2
  have qXu2l := qXu2.lt
  clear qXu2
  cases b with
  | false =>
    go_wp2
    go_ret
    exact ⟨rfl, Z2.out⟩
  | true =>
    by_cases p0 : May (strip t)
    · have P0 := Lib.hid p0
      have hc2 := rcheck_any t w2 (It.out.on Z2.out)
      rw [tb_true p0] at hc2
      unfold LTy.val at hc2
      have HC2 := Lib.hid hc2
      clear hc2 p0
      go_wp2_with fail
      with_reducible refine (HC2.out).mono ?_
      rintro e w3 ⟨rfl, hb3⟩
      have Xt3 := Lib.hid (Xt2.out.below hb3)
      have Xu3 := Lib.hid (Xu2.out.below hb3)
      have Z3 := Lib.hid (Z2.out.trans (hb3.mono Z2.out.size))
      clear hb3
      have qXt3 := Xt3.out
      have qXt3c0 := qXt3.c0
      have qXt3c1 := qXt3.c1
      have qXt3c2 := qXt3.c2
      have qXt3l := qXt3.lt
      clear qXt3
      have qXu3 := Xu3.out
      have qXu3c0 := qXu3.c0
      have qXu3c1 := qXu3.c1
      have qXu3c2 := qXu3.c2
      have qXu3l := qXu3.lt
      clear qXu3
      by_cases p1 : May (strip u)
      · have P1 := Lib.hid p1
        have hc3 := rcheck_any u w3 (Iu.out.on Z3.out)
        rw [tb_true p1] at hc3
        unfold LTy.val at hc3
        have HC3 := Lib.hid hc3
        clear hc3 p1
        go_wp2_with fail
        with_reducible refine (HC3.out).mono ?_
        rintro e w4 ⟨rfl, hb4⟩
        have Xt4 := Lib.hid (Xt3.out.below hb4)
        have Xu4 := Lib.hid (Xu3.out.below hb4)
        have Z4 := Lib.hid (Z3.out.trans (hb4.mono Z3.out.size))
        clear hb4
        have qXt4 := Xt4.out
        have qXt4c0 := qXt4.c0
        have qXt4c1 := qXt4.c1
        have qXt4c2 := qXt4.c2
        have qXt4l := qXt4.lt
        clear qXt4
        have qXu4 := Xu4.out
        have qXu4c0 := qXu4.c0
        have qXu4c1 := qXu4.c1
        have qXu4c2 := qXu4.c2
        have qXu4l := qXu4.lt
        clear qXu4
        have hc4 := tJoin_any t u w4 w4.heap.size (Nat.le_refl _) (It.out.on Z4.out) (Iu.out.on Z4.out) (HSP.out.below Z4.out)
        unfold LTy.val at hc4
        have HC4 := Lib.hid hc4
        clear hc4
        go_wp2_with fail
        with_reducible refine HC4.out.mono ?_
        rintro e w5 ⟨r, rfl, hlr, hsr, hb5⟩
        have Xt5 := Lib.hid (Xt4.out.below hb5)
        have Xu5 := Lib.hid (Xu4.out.below hb5)
        have Z5 := Lib.hid (Z4.out.trans (hb5.mono Z4.out.size))
        have Rr5 := Lib.hid (hlr _ (Stays.refl _ _ _))
        have HSr := Lib.hid hsr
        clear hb5 hlr hsr
        have qXt5 := Xt5.out
        have qXt5c0 := qXt5.c0
        have qXt5c1 := qXt5.c1
        have qXt5c2 := qXt5.c2
        have qXt5l := qXt5.lt
        clear qXt5
        have qXu5 := Xu5.out
        have qXu5c0 := qXu5.c0
        have qXu5c1 := qXu5.c1
        have qXu5c2 := qXu5.c2
        have qXu5l := qXu5.lt
        clear qXu5
        unfold LTy.val
        go_upto_region 6 with fail
        obtain ⟨br, hbr⟩ : ∃ b, b = w5.heap.size := ⟨_, rfl⟩
        rw [← hbr]
        refine gen_wpT fun w6 hW => ?_
        have hb6 : Below w5.heap.size w5 w6 := by rw [← hW]; exact (one_box w5 r).2
        have Xt6 := Lib.hid (Xt5.out.below hb6)
        have Xu6 := Lib.hid (Xu5.out.below hb6)
        have Z6 := Lib.hid (Z5.out.trans (hb6.mono Z5.out.size))
        have Rr6 := Lib.hid (Rr5.out.on hb6)
        have Xr6 := Lib.hid (show TBox w6 br r by rw [← hW, hbr]; exact (one_box w5 r).1)
        clear hW hbr hb6
        have qXt6 := Xt6.out
        have qXt6c0 := qXt6.c0
        have qXt6c1 := qXt6.c1
        have qXt6c2 := qXt6.c2
        have qXt6l := qXt6.lt
        clear qXt6
        have qXu6 := Xu6.out
        have qXu6c0 := qXu6.c0
        have qXu6c1 := qXu6.c1
        have qXu6c2 := qXu6.c2
        have qXu6l := qXu6.lt
        clear qXu6
        have qXr6 := Xr6.out
        have qXr6c0 := qXr6.c0
        have qXr6c1 := qXr6.c1
        have qXr6c2 := qXr6.c2
        have qXr6l := qXr6.lt
        clear qXr6
        by_cases p2 : Sub (strip t) (strip r)
        · have P2 := Lib.hid p2
          have hc6 := tSub_any t r w6 (It.out.on Z6.out) Rr6.out (HSP.out.below Z6.out)
          rw [tb_true p2] at hc6
          unfold LTy.val at hc6
          have HC6 := Lib.hid hc6
          clear hc6 p2
          go_wp2_with fail
          with_reducible refine (HC6.out).mono ?_
          rintro e w7 ⟨rfl, hb7⟩
          have Xt7 := Lib.hid (Xt6.out.below hb7)
          have Xu7 := Lib.hid (Xu6.out.below hb7)
          have Xr7 := Lib.hid (Xr6.out.below hb7)
          have Z7 := Lib.hid (Z6.out.trans (hb7.mono Z6.out.size))
          have Rr7 := Lib.hid (Rr6.out.on hb7)
          clear hb7
          have qXt7 := Xt7.out
          have qXt7c0 := qXt7.c0
          have qXt7c1 := qXt7.c1
          have qXt7c2 := qXt7.c2
          have qXt7l := qXt7.lt
          clear qXt7
          have qXu7 := Xu7.out
          have qXu7c0 := qXu7.c0
          have qXu7c1 := qXu7.c1
          have qXu7c2 := qXu7.c2
          have qXu7l := qXu7.lt
          clear qXu7
          have qXr7 := Xr7.out
          have qXr7c0 := qXr7.c0
          have qXr7c1 := qXr7.c1
          have qXr7c2 := qXr7.c2
          have qXr7l := qXr7.lt
          clear qXr7
          by_cases p3 : Sub (strip u) (strip r)
          · have P3 := Lib.hid p3
            have hc7 := tSub_any u r w7 (Iu.out.on Z7.out) Rr7.out (HSP.out.below Z7.out)
            rw [tb_true p3] at hc7
            unfold LTy.val at hc7
            have HC7 := Lib.hid hc7
            clear hc7 p3
            go_wp2_with fail
            with_reducible refine (HC7.out).mono ?_
            rintro e w8 ⟨rfl, hb8⟩
            have Xt8 := Lib.hid (Xt7.out.below hb8)
            have Xu8 := Lib.hid (Xu7.out.below hb8)
            have Xr8 := Lib.hid (Xr7.out.below hb8)
            have Z8 := Lib.hid (Z7.out.trans (hb8.mono Z7.out.size))
            have Rr8 := Lib.hid (Rr7.out.on hb8)
            clear hb8
            have qXt8 := Xt8.out
            have qXt8c0 := qXt8.c0
            have qXt8c1 := qXt8.c1
            have qXt8c2 := qXt8.c2
            have qXt8l := qXt8.lt
            clear qXt8
            have qXu8 := Xu8.out
            have qXu8c0 := qXu8.c0
            have qXu8c1 := qXu8.c1
            have qXu8c2 := qXu8.c2
            have qXu8l := qXu8.lt
            clear qXu8
            have qXr8 := Xr8.out
            have qXr8c0 := qXr8.c0
            have qXr8c1 := qXr8.c1
            have qXr8c2 := qXr8.c2
            have qXr8l := qXr8.lt
            clear qXr8
            go_wp2
            go_ret
            exact ⟨rfl, Z8.out⟩
          · have P3 := Lib.hid p3
            exact ((P3.out (by rw [HSr.out]; exact (join_sub P0.out P1.out).2)).elim)
        · have P2 := Lib.hid p2
          exact ((P2.out (by rw [HSr.out]; exact (join_sub P0.out P1.out).1)).elim)
      · have P1 := Lib.hid p1
        have hc3 := rcheck_any u w3 (Iu.out.on Z3.out)
        rw [tb_false p1] at hc3
        unfold LTy.val at hc3
        have HC3 := Lib.hid hc3
        clear hc3 p1
        go_wp2_with fail
        with_reducible refine (HC3.out).mono ?_
        rintro e w4 ⟨rfl, hb4⟩
        have Xt4 := Lib.hid (Xt3.out.below hb4)
        have Xu4 := Lib.hid (Xu3.out.below hb4)
        have Z4 := Lib.hid (Z3.out.trans (hb4.mono Z3.out.size))
        clear hb4
        have qXt4 := Xt4.out
        have qXt4c0 := qXt4.c0
        have qXt4c1 := qXt4.c1
        have qXt4c2 := qXt4.c2
        have qXt4l := qXt4.lt
        clear qXt4
        have qXu4 := Xu4.out
        have qXu4c0 := qXu4.c0
        have qXu4c1 := qXu4.c1
        have qXu4c2 := qXu4.c2
        have qXu4l := qXu4.lt
        clear qXu4
        go_wp2
        go_ret
        exact ⟨rfl, Z4.out⟩
    · have P0 := Lib.hid p0
      have hc2 := rcheck_any t w2 (It.out.on Z2.out)
      rw [tb_false p0] at hc2
      unfold LTy.val at hc2
      have HC2 := Lib.hid hc2
      clear hc2 p0
      go_wp2_with fail
      with_reducible refine (HC2.out).mono ?_
      rintro e w3 ⟨rfl, hb3⟩
      have Xt3 := Lib.hid (Xt2.out.below hb3)
      have Xu3 := Lib.hid (Xu2.out.below hb3)
      have Z3 := Lib.hid (Z2.out.trans (hb3.mono Z2.out.size))
      clear hb3
      have qXt3 := Xt3.out
      have qXt3c0 := qXt3.c0
      have qXt3c1 := qXt3.c1
      have qXt3c2 := qXt3.c2
      have qXt3l := qXt3.lt
      clear qXt3
      have qXu3 := Xu3.out
      have qXu3c0 := qXu3.c0
      have qXu3c1 := qXu3.c1
      have qXu3c2 := qXu3.c2
      have qXu3l := qXu3.lt
      clear qXu3
      go_wp2
      go_ret
      exact ⟨rfl, Z3.out⟩
end Go.Proofs.YtllpicibncdppaaDoor
