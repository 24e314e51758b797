/-
  Sub, Ease, Side of both texts.
-/
import Derived.Test.YtllpicibncdppaaDoorReEase
set_option linter.unusedVariables false
set_option linter.unusedSimpArgs false
namespace Go.Proofs.YtllpicibncdppaaDoor
open Go.ChangeShapes Go.WideShapes Go.ChangeAt Go.RowKit

open Classical in
/-- The side to blame. -/
noncomputable def sideV (a b : Ty) : Int := if May a ∧ May b then (if Loose a then 1 else if Loose b then 2 else 0) else 0
theorem side_no {a b : Ty} (h : ¬ (May a ∧ May b)) : sideV a b = 0 := by unfold sideV; rw [if_neg h]
theorem side_one {a b : Ty} (h : May a ∧ May b) (hl : Loose a) : sideV a b = 1 := by unfold sideV; rw [if_pos h, if_pos hl]
theorem side_two {a b : Ty} (h : May a ∧ May b) (hn : ¬ Loose a) (hl : Loose b) : sideV a b = 2 := by unfold sideV; rw [if_pos h, if_neg hn, if_pos hl]
theorem side_none {a b : Ty} (hn : ¬ Loose a) (hl : ¬ Loose b) : sideV a b = 0 := by unfold sideV; rw [if_neg hn, if_neg hl]; split <;> rfl
set_option maxRecDepth 100000 in
set_option maxHeartbeats 2000000 in
theorem tSub_any (t u : LTy) (w : World) (ht : LIn w w.heap.size t) (hu : LIn w w.heap.size u) (hsp : SpW w) : Calls Tryd.prog 23 #[t.val, u.val] w (RetB (.bool (tb (Sub (strip t) (strip u)))) w) := by
  obtain ⟨ans, hans⟩ : ∃ ans, ans = tb (Sub (strip t) (strip u)) := ⟨_, rfl⟩
  rw [← hans]
  have HA := Lib.hid hans
  clear hans
  unfold LTy.val
  obtain ⟨g, hg⟩ : ∃ g, g = w.heap.size := ⟨_, rfl⟩
  have HT := Lib.hid ht
  have HU := Lib.hid hu
  have HSP := Lib.hid hsp
  clear hsp
  clear ht hu
  go_enter Tryd.func23, Tryd.ntmps23
  go_upto_region 1 with fail
  rw [← hg]
  refine gen_wpT fun W hW => ?_
  obtain ⟨kt, ku, kb⟩ : TBox W g t ∧ TBox W (g + 1) u ∧ Below w.heap.size w W := by rw [← hW, hg]; exact two_boxes w t u
  have KB := Lib.hid kb
  have ktc0 := kt.c0
  have ktc1 := kt.c1
  have ktc2 := kt.c2
  have ktlt := kt.lt
  have kuc0 := ku.c0
  have kuc1 := ku.c1
  have kuc2 := ku.c2
  have kult := ku.lt
  clear hW hg
  have KT := Lib.hid kt
  have KU := Lib.hid ku
  have hc := may_any t u W (HT.out.on kb) (HU.out.on kb) (HSP.out.below kb)
  clear kt ku kb
  unfold LTy.val at hc
  by_cases hm : May (strip t) ∧ May (strip u)
  case neg =>
    have e : ans = false := by rw [HA.out]; exact tb_false fun e => hm ⟨e.1, e.2.1⟩
    subst e
    rw [tb_false hm] at hc
    have HC := Lib.hid hc
    clear hc hm HA
    go_wp2_with fail
    with_reducible refine (HC.out).mono ?_
    rintro e w1 ⟨rfl, hb1⟩
    have T1 := Lib.hid (KT.out.below hb1)
    have U1 := Lib.hid (KU.out.below hb1)
    have B1 := Lib.hid (KB.out.trans (hb1.mono KB.out.size))
    have t1 := T1.out
    have u1 := U1.out
    have t1c0 := t1.c0
    have t1c1 := t1.c1
    have t1c2 := t1.c2
    have t1lt := t1.lt
    have u1c0 := u1.c0
    have u1c1 := u1.c1
    have u1c2 := u1.c2
    have u1lt := u1.lt
    clear hb1 t1 u1
    go_wp2
    go_ret
    exact ⟨rfl, B1.out⟩
  rw [tb_true hm] at hc
  have HC := Lib.hid hc
  have HM := Lib.hid hm
  have HQ := Lib.hid (show ans = tb (Goes false 50 (strip t) (strip u)) by rw [HA.out]; exact tb_congr ⟨fun e => e.2.2, fun e => ⟨hm.1, hm.2, e⟩⟩)
  clear hc hm
  go_wp2_with fail
  with_reducible refine (HC.out).mono ?_
  rintro e w1 ⟨rfl, hb1⟩
  have T1 := Lib.hid (KT.out.below hb1)
  have U1 := Lib.hid (KU.out.below hb1)
  have B1 := Lib.hid (KB.out.trans (hb1.mono KB.out.size))
  have t1 := T1.out
  have u1 := U1.out
  have t1c0 := t1.c0
  have t1c1 := t1.c1
  have t1c2 := t1.c2
  have t1lt := t1.lt
  have u1c0 := u1.c0
  have u1c1 := u1.c1
  have u1c2 := u1.c2
  have u1lt := u1.lt
  clear hb1 t1 u1
  have hc2 := goes_all false 0 rfl 50 t u w1 (HT.out.on B1.out) (HU.out.on B1.out) (HSP.out.below B1.out) HM.out.1 HM.out.2 HM.out.1.1 HM.out.2.1
  rw [← HQ.out] at hc2
  unfold LTy.val at hc2
  have HC2 := Lib.hid hc2
  clear hc2
  go_wp2_with fail
  with_reducible refine (HC2.out).mono ?_
  rintro e w2 ⟨rfl, hb2⟩
  have T2 := Lib.hid (T1.out.below hb2)
  have U2 := Lib.hid (U1.out.below hb2)
  have B2 := Lib.hid (B1.out.trans (hb2.mono B1.out.size))
  have t2 := T2.out
  have u2 := U2.out
  have t2c0 := t2.c0
  have t2c1 := t2.c1
  have t2c2 := t2.c2
  have t2lt := t2.lt
  have u2c0 := u2.c0
  have u2c1 := u2.c1
  have u2c2 := u2.c2
  have u2lt := u2.lt
  clear hb2 t2 u2
  go_wp2
  go_ret
  exact ⟨by first | rfl | (cases ans <;> rfl), B2.out⟩
set_option maxRecDepth 100000 in
set_option maxHeartbeats 2000000 in
theorem tEase_any (t u : LTy) (w : World) (ht : LIn w w.heap.size t) (hu : LIn w w.heap.size u) (hsp : SpW w) : Calls Tryd.prog 25 #[t.val, u.val] w (RetB (.bool (tb (Ease (strip t) (strip u)))) w) := by
  obtain ⟨ans, hans⟩ : ∃ ans, ans = tb (Ease (strip t) (strip u)) := ⟨_, rfl⟩
  rw [← hans]
  have HA := Lib.hid hans
  clear hans
  unfold LTy.val
  obtain ⟨g, hg⟩ : ∃ g, g = w.heap.size := ⟨_, rfl⟩
  have HT := Lib.hid ht
  have HU := Lib.hid hu
  have HSP := Lib.hid hsp
  clear hsp
  clear ht hu
  go_enter Tryd.func25, Tryd.ntmps25
  go_upto_region 1 with fail
  rw [← hg]
  refine gen_wpT fun W hW => ?_
  obtain ⟨kt, ku, kb⟩ : TBox W g t ∧ TBox W (g + 1) u ∧ Below w.heap.size w W := by rw [← hW, hg]; exact two_boxes w t u
  have KB := Lib.hid kb
  have ktc0 := kt.c0
  have ktc1 := kt.c1
  have ktc2 := kt.c2
  have ktlt := kt.lt
  have kuc0 := ku.c0
  have kuc1 := ku.c1
  have kuc2 := ku.c2
  have kult := ku.lt
  clear hW hg
  have KT := Lib.hid kt
  have KU := Lib.hid ku
  have hc := may_any t u W (HT.out.on kb) (HU.out.on kb) (HSP.out.below kb)
  clear kt ku kb
  unfold LTy.val at hc
  by_cases hm : May (strip t) ∧ May (strip u)
  case neg =>
    have e : ans = false := by rw [HA.out]; exact tb_false fun e => hm ⟨e.1, e.2.1⟩
    subst e
    rw [tb_false hm] at hc
    have HC := Lib.hid hc
    clear hc hm HA
    go_wp2_with fail
    with_reducible refine (HC.out).mono ?_
    rintro e w1 ⟨rfl, hb1⟩
    have T1 := Lib.hid (KT.out.below hb1)
    have U1 := Lib.hid (KU.out.below hb1)
    have B1 := Lib.hid (KB.out.trans (hb1.mono KB.out.size))
    have t1 := T1.out
    have u1 := U1.out
    have t1c0 := t1.c0
    have t1c1 := t1.c1
    have t1c2 := t1.c2
    have t1lt := t1.lt
    have u1c0 := u1.c0
    have u1c1 := u1.c1
    have u1c2 := u1.c2
    have u1lt := u1.lt
    clear hb1 t1 u1
    go_wp2
    go_ret
    exact ⟨rfl, B1.out⟩
  rw [tb_true hm] at hc
  have HC := Lib.hid hc
  have HM := Lib.hid hm
  have HQ := Lib.hid (show ans = tb (Goes true 50 (strip t) (strip u)) by rw [HA.out]; exact tb_congr ⟨fun e => e.2.2, fun e => ⟨hm.1, hm.2, e⟩⟩)
  clear hc hm
  go_wp2_with fail
  with_reducible refine (HC.out).mono ?_
  rintro e w1 ⟨rfl, hb1⟩
  have T1 := Lib.hid (KT.out.below hb1)
  have U1 := Lib.hid (KU.out.below hb1)
  have B1 := Lib.hid (KB.out.trans (hb1.mono KB.out.size))
  have t1 := T1.out
  have u1 := U1.out
  have t1c0 := t1.c0
  have t1c1 := t1.c1
  have t1c2 := t1.c2
  have t1lt := t1.lt
  have u1c0 := u1.c0
  have u1c1 := u1.c1
  have u1c2 := u1.c2
  have u1lt := u1.lt
  clear hb1 t1 u1
  have hc2 := goes_all true 1 rfl 50 t u w1 (HT.out.on B1.out) (HU.out.on B1.out) (HSP.out.below B1.out) HM.out.1 HM.out.2 HM.out.1.1 HM.out.2.1
  rw [← HQ.out] at hc2
  unfold LTy.val at hc2
  have HC2 := Lib.hid hc2
  clear hc2
  go_wp2_with fail
  with_reducible refine (HC2.out).mono ?_
  rintro e w2 ⟨rfl, hb2⟩
  have T2 := Lib.hid (T1.out.below hb2)
  have U2 := Lib.hid (U1.out.below hb2)
  have B2 := Lib.hid (B1.out.trans (hb2.mono B1.out.size))
  have t2 := T2.out
  have u2 := U2.out
  have t2c0 := t2.c0
  have t2c1 := t2.c1
  have t2c2 := t2.c2
  have t2lt := t2.lt
  have u2c0 := u2.c0
  have u2c1 := u2.c1
  have u2c2 := u2.c2
  have u2lt := u2.lt
  clear hb2 t2 u2
  go_wp2
  go_ret
  exact ⟨by first | rfl | (cases ans <;> rfl), B2.out⟩
set_option maxRecDepth 100000 in
set_option maxHeartbeats 2000000 in
theorem rSub_any (t u : LTy) (w : World) (ht : LIn w w.heap.size t) (hu : LIn w w.heap.size u) : Calls Tryd.prog 24 #[t.val, u.val] w (RetB (.bool (tb (Sub (strip t) (strip u)))) w) := by
  obtain ⟨ans, hans⟩ : ∃ ans, ans = tb (Sub (strip t) (strip u)) := ⟨_, rfl⟩
  rw [← hans]
  have HA := Lib.hid hans
  clear hans
  unfold LTy.val
  obtain ⟨g, hg⟩ : ∃ g, g = w.heap.size := ⟨_, rfl⟩
  have HT := Lib.hid ht
  have HU := Lib.hid hu
  clear ht hu
  go_enter Tryd.func24, Tryd.ntmps24
  go_upto_region 1 with fail
  rw [← hg]
  refine gen_wpT fun W hW => ?_
  obtain ⟨kt, ku, kb⟩ : TBox W g t ∧ TBox W (g + 1) u ∧ Below w.heap.size w W := by rw [← hW, hg]; exact two_boxes w t u
  have KB := Lib.hid kb
  have ktc0 := kt.c0
  have ktc1 := kt.c1
  have ktc2 := kt.c2
  have ktlt := kt.lt
  have kuc0 := ku.c0
  have kuc1 := ku.c1
  have kuc2 := ku.c2
  have kult := ku.lt
  clear hW hg
  have KT := Lib.hid kt
  have KU := Lib.hid ku
  have hc := both_any t u W (HT.out.on kb) (HU.out.on kb)
  clear kt ku kb
  unfold LTy.val at hc
  by_cases hm : May (strip t) ∧ May (strip u)
  case neg =>
    have e : ans = false := by rw [HA.out]; exact tb_false fun e => hm ⟨e.1, e.2.1⟩
    subst e
    rw [tb_false hm] at hc
    have HC := Lib.hid hc
    clear hc hm HA
    go_wp2_with fail
    with_reducible refine (HC.out).mono ?_
    rintro e w1 ⟨rfl, hb1⟩
    have T1 := Lib.hid (KT.out.below hb1)
    have U1 := Lib.hid (KU.out.below hb1)
    have B1 := Lib.hid (KB.out.trans (hb1.mono KB.out.size))
    have t1 := T1.out
    have u1 := U1.out
    have t1c0 := t1.c0
    have t1c1 := t1.c1
    have t1c2 := t1.c2
    have t1lt := t1.lt
    have u1c0 := u1.c0
    have u1c1 := u1.c1
    have u1c2 := u1.c2
    have u1lt := u1.lt
    clear hb1 t1 u1
    go_wp2
    go_ret
    exact ⟨rfl, B1.out⟩
  rw [tb_true hm] at hc
  have HC := Lib.hid hc
  have HM := Lib.hid hm
  have HQ := Lib.hid (show ans = tb (Goes false 50 (strip t) (strip u)) by rw [HA.out]; exact tb_congr ⟨fun e => e.2.2, fun e => ⟨hm.1, hm.2, e⟩⟩)
  clear hc hm
  go_wp2_with fail
  with_reducible refine (HC.out).mono ?_
  rintro e w1 ⟨rfl, hb1⟩
  have T1 := Lib.hid (KT.out.below hb1)
  have U1 := Lib.hid (KU.out.below hb1)
  have B1 := Lib.hid (KB.out.trans (hb1.mono KB.out.size))
  have t1 := T1.out
  have u1 := U1.out
  have t1c0 := t1.c0
  have t1c1 := t1.c1
  have t1c2 := t1.c2
  have t1lt := t1.lt
  have u1c0 := u1.c0
  have u1c1 := u1.c1
  have u1c2 := u1.c2
  have u1lt := u1.lt
  clear hb1 t1 u1
  have hc2 := rsub_all 50 t u w1 (HT.out.on B1.out) (HU.out.on B1.out) HM.out.1 HM.out.2 HM.out.1.1 HM.out.2.1
  rw [← HQ.out] at hc2
  unfold LTy.val at hc2
  have HC2 := Lib.hid hc2
  clear hc2
  go_wp2_with fail
  with_reducible refine (HC2.out).mono ?_
  rintro e w2 ⟨rfl, hb2⟩
  have T2 := Lib.hid (T1.out.below hb2)
  have U2 := Lib.hid (U1.out.below hb2)
  have B2 := Lib.hid (B1.out.trans (hb2.mono B1.out.size))
  have t2 := T2.out
  have u2 := U2.out
  have t2c0 := t2.c0
  have t2c1 := t2.c1
  have t2c2 := t2.c2
  have t2lt := t2.lt
  have u2c0 := u2.c0
  have u2c1 := u2.c1
  have u2c2 := u2.c2
  have u2lt := u2.lt
  clear hb2 t2 u2
  go_wp2
  go_ret
  exact ⟨by first | rfl | (cases ans <;> rfl), B2.out⟩
set_option maxRecDepth 100000 in
set_option maxHeartbeats 2000000 in
theorem rEase_any (t u : LTy) (w : World) (ht : LIn w w.heap.size t) (hu : LIn w w.heap.size u) : Calls Tryd.prog 26 #[t.val, u.val] w (RetB (.bool (tb (Ease (strip t) (strip u)))) w) := by
  obtain ⟨ans, hans⟩ : ∃ ans, ans = tb (Ease (strip t) (strip u)) := ⟨_, rfl⟩
  rw [← hans]
  have HA := Lib.hid hans
  clear hans
  unfold LTy.val
  obtain ⟨g, hg⟩ : ∃ g, g = w.heap.size := ⟨_, rfl⟩
  have HT := Lib.hid ht
  have HU := Lib.hid hu
  clear ht hu
  go_enter Tryd.func26, Tryd.ntmps26
  go_upto_region 1 with fail
  rw [← hg]
  refine gen_wpT fun W hW => ?_
  obtain ⟨kt, ku, kb⟩ : TBox W g t ∧ TBox W (g + 1) u ∧ Below w.heap.size w W := by rw [← hW, hg]; exact two_boxes w t u
  have KB := Lib.hid kb
  have ktc0 := kt.c0
  have ktc1 := kt.c1
  have ktc2 := kt.c2
  have ktlt := kt.lt
  have kuc0 := ku.c0
  have kuc1 := ku.c1
  have kuc2 := ku.c2
  have kult := ku.lt
  clear hW hg
  have KT := Lib.hid kt
  have KU := Lib.hid ku
  have hc := both_any t u W (HT.out.on kb) (HU.out.on kb)
  clear kt ku kb
  unfold LTy.val at hc
  by_cases hm : May (strip t) ∧ May (strip u)
  case neg =>
    have e : ans = false := by rw [HA.out]; exact tb_false fun e => hm ⟨e.1, e.2.1⟩
    subst e
    rw [tb_false hm] at hc
    have HC := Lib.hid hc
    clear hc hm HA
    go_wp2_with fail
    with_reducible refine (HC.out).mono ?_
    rintro e w1 ⟨rfl, hb1⟩
    have T1 := Lib.hid (KT.out.below hb1)
    have U1 := Lib.hid (KU.out.below hb1)
    have B1 := Lib.hid (KB.out.trans (hb1.mono KB.out.size))
    have t1 := T1.out
    have u1 := U1.out
    have t1c0 := t1.c0
    have t1c1 := t1.c1
    have t1c2 := t1.c2
    have t1lt := t1.lt
    have u1c0 := u1.c0
    have u1c1 := u1.c1
    have u1c2 := u1.c2
    have u1lt := u1.lt
    clear hb1 t1 u1
    go_wp2
    go_ret
    exact ⟨rfl, B1.out⟩
  rw [tb_true hm] at hc
  have HC := Lib.hid hc
  have HM := Lib.hid hm
  have HQ := Lib.hid (show ans = tb (Goes true 50 (strip t) (strip u)) by rw [HA.out]; exact tb_congr ⟨fun e => e.2.2, fun e => ⟨hm.1, hm.2, e⟩⟩)
  clear hc hm
  go_wp2_with fail
  with_reducible refine (HC.out).mono ?_
  rintro e w1 ⟨rfl, hb1⟩
  have T1 := Lib.hid (KT.out.below hb1)
  have U1 := Lib.hid (KU.out.below hb1)
  have B1 := Lib.hid (KB.out.trans (hb1.mono KB.out.size))
  have t1 := T1.out
  have u1 := U1.out
  have t1c0 := t1.c0
  have t1c1 := t1.c1
  have t1c2 := t1.c2
  have t1lt := t1.lt
  have u1c0 := u1.c0
  have u1c1 := u1.c1
  have u1c2 := u1.c2
  have u1lt := u1.lt
  clear hb1 t1 u1
  have hc2 := rease_all 50 t u w1 (HT.out.on B1.out) (HU.out.on B1.out) HM.out.1 HM.out.2 HM.out.1.1 HM.out.2.1
  rw [← HQ.out] at hc2
  unfold LTy.val at hc2
  have HC2 := Lib.hid hc2
  clear hc2
  go_wp2_with fail
  with_reducible refine (HC2.out).mono ?_
  rintro e w2 ⟨rfl, hb2⟩
  have T2 := Lib.hid (T1.out.below hb2)
  have U2 := Lib.hid (U1.out.below hb2)
  have B2 := Lib.hid (B1.out.trans (hb2.mono B1.out.size))
  have t2 := T2.out
  have u2 := U2.out
  have t2c0 := t2.c0
  have t2c1 := t2.c1
  have t2c2 := t2.c2
  have t2lt := t2.lt
  have u2c0 := u2.c0
  have u2c1 := u2.c1
  have u2c2 := u2.c2
  have u2lt := u2.lt
  clear hb2 t2 u2
  go_wp2
  go_ret
  exact ⟨by first | rfl | (cases ans <;> rfl), B2.out⟩
set_option maxRecDepth 100000 in
set_option maxHeartbeats 2000000 in
theorem tSide_any (t u : LTy) (w : World) (ht : LIn w w.heap.size t) (hu : LIn w w.heap.size u) (hsp : SpW w) : Calls Tryd.prog 27 #[t.val, u.val] w (RetB (.int .i64 (sideV (strip t) (strip u))) w) := by
  obtain ⟨ans, hans⟩ : ∃ ans, ans = sideV (strip t) (strip u) := ⟨_, rfl⟩
  rw [← hans]
  have HA := Lib.hid hans
  clear hans
  unfold LTy.val
  obtain ⟨g, hg⟩ : ∃ g, g = w.heap.size := ⟨_, rfl⟩
  have HT := Lib.hid ht
  have HU := Lib.hid hu
  have HSP := Lib.hid hsp
  clear hsp
  clear ht hu
  go_enter Tryd.func27, Tryd.ntmps27
  go_upto_region 1 with fail
  rw [← hg]
  refine gen_wpT fun W hW => ?_
  obtain ⟨kt, ku, kb⟩ : TBox W g t ∧ TBox W (g + 1) u ∧ Below w.heap.size w W := by rw [← hW, hg]; exact two_boxes w t u
  have KB := Lib.hid kb
  have ktc0 := kt.c0
  have ktc1 := kt.c1
  have ktc2 := kt.c2
  have ktlt := kt.lt
  have kuc0 := ku.c0
  have kuc1 := ku.c1
  have kuc2 := ku.c2
  have kult := ku.lt
  clear hW hg
  have KT := Lib.hid kt
  have KU := Lib.hid ku
  have hc := may_any t u W (HT.out.on kb) (HU.out.on kb) (HSP.out.below kb)
  clear kt ku kb
  unfold LTy.val at hc
  by_cases hm : May (strip t) ∧ May (strip u)
  case neg =>
    have e : ans = 0 := by rw [HA.out]; exact side_no hm
    subst e
    rw [tb_false hm] at hc
    have HC := Lib.hid hc
    clear hc hm HA
    go_wp2_with fail
    with_reducible refine (HC.out).mono ?_
    rintro e w1 ⟨rfl, hb1⟩
    have T1 := Lib.hid (KT.out.below hb1)
    have U1 := Lib.hid (KU.out.below hb1)
    have B1 := Lib.hid (KB.out.trans (hb1.mono KB.out.size))
    have t1 := T1.out
    have u1 := U1.out
    have t1c0 := t1.c0
    have t1c1 := t1.c1
    have t1c2 := t1.c2
    have t1lt := t1.lt
    have u1c0 := u1.c0
    have u1c1 := u1.c1
    have u1c2 := u1.c2
    have u1lt := u1.lt
    clear hb1 t1 u1
    go_wp2
    go_ret
    exact ⟨rfl, B1.out⟩
  rw [tb_true hm] at hc
  have HC := Lib.hid hc
  have HM := Lib.hid hm
  clear hc hm
  go_wp2_with fail
  with_reducible refine (HC.out).mono ?_
  rintro e w1 ⟨rfl, hb1⟩
  have T1 := Lib.hid (KT.out.below hb1)
  have U1 := Lib.hid (KU.out.below hb1)
  have B1 := Lib.hid (KB.out.trans (hb1.mono KB.out.size))
  have t1 := T1.out
  have u1 := U1.out
  have t1c0 := t1.c0
  have t1c1 := t1.c1
  have t1c2 := t1.c2
  have t1lt := t1.lt
  have u1c0 := u1.c0
  have u1c1 := u1.c1
  have u1c2 := u1.c2
  have u1lt := u1.lt
  clear hb1 t1 u1
  have hv := tvague_any t w1 (HT.out.on B1.out) (HSP.out.below B1.out)
  unfold LTy.val at hv
  by_cases hl : Loose (strip t)
  · have e : ans = 1 := by rw [HA.out]; exact side_one HM.out hl
    subst e
    rw [tb_true (fun _ => hl)] at hv
    have HV := Lib.hid hv
    clear hv hl HA
    go_wp2_with fail
    with_reducible refine (HV.out).mono ?_
    rintro e w2 ⟨rfl, hb2⟩
    have T2 := Lib.hid (T1.out.below hb2)
    have U2 := Lib.hid (U1.out.below hb2)
    have B2 := Lib.hid (B1.out.trans (hb2.mono B1.out.size))
    have t2 := T2.out
    have u2 := U2.out
    have t2c0 := t2.c0
    have t2c1 := t2.c1
    have t2c2 := t2.c2
    have t2lt := t2.lt
    have u2c0 := u2.c0
    have u2c1 := u2.c1
    have u2c2 := u2.c2
    have u2lt := u2.lt
    clear hb2 t2 u2
    go_wp2
    go_ret
    exact ⟨rfl, B2.out⟩
  rw [tb_false (fun e => hl (e HM.out.1))] at hv
  have HV := Lib.hid hv
  have HNL := Lib.hid hl
  clear hv hl
  go_wp2_with fail
  with_reducible refine (HV.out).mono ?_
  rintro e w2 ⟨rfl, hb2⟩
  have T2 := Lib.hid (T1.out.below hb2)
  have U2 := Lib.hid (U1.out.below hb2)
  have B2 := Lib.hid (B1.out.trans (hb2.mono B1.out.size))
  have t2 := T2.out
  have u2 := U2.out
  have t2c0 := t2.c0
  have t2c1 := t2.c1
  have t2c2 := t2.c2
  have t2lt := t2.lt
  have u2c0 := u2.c0
  have u2c1 := u2.c1
  have u2c2 := u2.c2
  have u2lt := u2.lt
  clear hb2 t2 u2
  have hv := tvague_any u w2 (HU.out.on B2.out) (HSP.out.below B2.out)
  unfold LTy.val at hv
  by_cases hl : Loose (strip u)
  · have e : ans = 2 := by rw [HA.out]; exact side_two HM.out HNL.out hl
    subst e
    rw [tb_true (fun _ => hl)] at hv
    have HV2 := Lib.hid hv
    clear hv hl HA
    go_wp2_with fail
    with_reducible refine (HV2.out).mono ?_
    rintro e w3 ⟨rfl, hb3⟩
    have T3 := Lib.hid (T2.out.below hb3)
    have U3 := Lib.hid (U2.out.below hb3)
    have B3 := Lib.hid (B2.out.trans (hb3.mono B2.out.size))
    have t3 := T3.out
    have u3 := U3.out
    have t3c0 := t3.c0
    have t3c1 := t3.c1
    have t3c2 := t3.c2
    have t3lt := t3.lt
    have u3c0 := u3.c0
    have u3c1 := u3.c1
    have u3c2 := u3.c2
    have u3lt := u3.lt
    clear hb3 t3 u3
    go_wp2
    go_ret
    exact ⟨rfl, B3.out⟩
  have e : ans = 0 := by rw [HA.out]; exact side_none HNL.out hl
  subst e
  rw [tb_false (fun e => hl (e HM.out.2))] at hv
  have HV2 := Lib.hid hv
  clear hv hl HA
  go_wp2_with fail
  with_reducible refine (HV2.out).mono ?_
  rintro e w3 ⟨rfl, hb3⟩
  have T3 := Lib.hid (T2.out.below hb3)
  have U3 := Lib.hid (U2.out.below hb3)
  have B3 := Lib.hid (B2.out.trans (hb3.mono B2.out.size))
  have t3 := T3.out
  have u3 := U3.out
  have t3c0 := t3.c0
  have t3c1 := t3.c1
  have t3c2 := t3.c2
  have t3lt := t3.lt
  have u3c0 := u3.c0
  have u3c1 := u3.c1
  have u3c2 := u3.c2
  have u3lt := u3.lt
  clear hb3 t3 u3
  go_wp2
  go_ret
  exact ⟨rfl, B3.out⟩
set_option maxRecDepth 100000 in
set_option maxHeartbeats 2000000 in
theorem rSide_any (t u : LTy) (w : World) (ht : LIn w w.heap.size t) (hu : LIn w w.heap.size u) : Calls Tryd.prog 28 #[t.val, u.val] w (RetB (.int .i64 (sideV (strip t) (strip u))) w) := by
  obtain ⟨ans, hans⟩ : ∃ ans, ans = sideV (strip t) (strip u) := ⟨_, rfl⟩
  rw [← hans]
  have HA := Lib.hid hans
  clear hans
  unfold LTy.val
  obtain ⟨g, hg⟩ : ∃ g, g = w.heap.size := ⟨_, rfl⟩
  have HT := Lib.hid ht
  have HU := Lib.hid hu
  clear ht hu
  go_enter Tryd.func28, Tryd.ntmps28
  go_upto_region 1 with fail
  rw [← hg]
  refine gen_wpT fun W hW => ?_
  obtain ⟨kt, ku, kb⟩ : TBox W g t ∧ TBox W (g + 1) u ∧ Below w.heap.size w W := by rw [← hW, hg]; exact two_boxes w t u
  have KB := Lib.hid kb
  have ktc0 := kt.c0
  have ktc1 := kt.c1
  have ktc2 := kt.c2
  have ktlt := kt.lt
  have kuc0 := ku.c0
  have kuc1 := ku.c1
  have kuc2 := ku.c2
  have kult := ku.lt
  clear hW hg
  have KT := Lib.hid kt
  have KU := Lib.hid ku
  have hc := both_any t u W (HT.out.on kb) (HU.out.on kb)
  clear kt ku kb
  unfold LTy.val at hc
  by_cases hm : May (strip t) ∧ May (strip u)
  case neg =>
    have e : ans = 0 := by rw [HA.out]; exact side_no hm
    subst e
    rw [tb_false hm] at hc
    have HC := Lib.hid hc
    clear hc hm HA
    go_wp2_with fail
    with_reducible refine (HC.out).mono ?_
    rintro e w1 ⟨rfl, hb1⟩
    have T1 := Lib.hid (KT.out.below hb1)
    have U1 := Lib.hid (KU.out.below hb1)
    have B1 := Lib.hid (KB.out.trans (hb1.mono KB.out.size))
    have t1 := T1.out
    have u1 := U1.out
    have t1c0 := t1.c0
    have t1c1 := t1.c1
    have t1c2 := t1.c2
    have t1lt := t1.lt
    have u1c0 := u1.c0
    have u1c1 := u1.c1
    have u1c2 := u1.c2
    have u1lt := u1.lt
    clear hb1 t1 u1
    go_wp2
    go_ret
    exact ⟨rfl, B1.out⟩
  rw [tb_true hm] at hc
  have HC := Lib.hid hc
  have HM := Lib.hid hm
  clear hc hm
  go_wp2_with fail
  with_reducible refine (HC.out).mono ?_
  rintro e w1 ⟨rfl, hb1⟩
  have T1 := Lib.hid (KT.out.below hb1)
  have U1 := Lib.hid (KU.out.below hb1)
  have B1 := Lib.hid (KB.out.trans (hb1.mono KB.out.size))
  have t1 := T1.out
  have u1 := U1.out
  have t1c0 := t1.c0
  have t1c1 := t1.c1
  have t1c2 := t1.c2
  have t1lt := t1.lt
  have u1c0 := u1.c0
  have u1c1 := u1.c1
  have u1c2 := u1.c2
  have u1lt := u1.lt
  clear hb1 t1 u1
  have hv := rvague_any t w1 (HT.out.on B1.out)
  unfold LTy.val at hv
  by_cases hl : Loose (strip t)
  · have e : ans = 1 := by rw [HA.out]; exact side_one HM.out hl
    subst e
    rw [tb_true (fun _ => hl)] at hv
    have HV := Lib.hid hv
    clear hv hl HA
    go_wp2_with fail
    with_reducible refine (HV.out).mono ?_
    rintro e w2 ⟨rfl, hb2⟩
    have T2 := Lib.hid (T1.out.below hb2)
    have U2 := Lib.hid (U1.out.below hb2)
    have B2 := Lib.hid (B1.out.trans (hb2.mono B1.out.size))
    have t2 := T2.out
    have u2 := U2.out
    have t2c0 := t2.c0
    have t2c1 := t2.c1
    have t2c2 := t2.c2
    have t2lt := t2.lt
    have u2c0 := u2.c0
    have u2c1 := u2.c1
    have u2c2 := u2.c2
    have u2lt := u2.lt
    clear hb2 t2 u2
    go_wp2
    go_ret
    exact ⟨rfl, B2.out⟩
  rw [tb_false (fun e => hl (e HM.out.1))] at hv
  have HV := Lib.hid hv
  have HNL := Lib.hid hl
  clear hv hl
  go_wp2_with fail
  with_reducible refine (HV.out).mono ?_
  rintro e w2 ⟨rfl, hb2⟩
  have T2 := Lib.hid (T1.out.below hb2)
  have U2 := Lib.hid (U1.out.below hb2)
  have B2 := Lib.hid (B1.out.trans (hb2.mono B1.out.size))
  have t2 := T2.out
  have u2 := U2.out
  have t2c0 := t2.c0
  have t2c1 := t2.c1
  have t2c2 := t2.c2
  have t2lt := t2.lt
  have u2c0 := u2.c0
  have u2c1 := u2.c1
  have u2c2 := u2.c2
  have u2lt := u2.lt
  clear hb2 t2 u2
  have hv := rvague_any u w2 (HU.out.on B2.out)
  unfold LTy.val at hv
  by_cases hl : Loose (strip u)
  · have e : ans = 2 := by rw [HA.out]; exact side_two HM.out HNL.out hl
    subst e
    rw [tb_true (fun _ => hl)] at hv
    have HV2 := Lib.hid hv
    clear hv hl HA
    go_wp2_with fail
    with_reducible refine (HV2.out).mono ?_
    rintro e w3 ⟨rfl, hb3⟩
    have T3 := Lib.hid (T2.out.below hb3)
    have U3 := Lib.hid (U2.out.below hb3)
    have B3 := Lib.hid (B2.out.trans (hb3.mono B2.out.size))
    have t3 := T3.out
    have u3 := U3.out
    have t3c0 := t3.c0
    have t3c1 := t3.c1
    have t3c2 := t3.c2
    have t3lt := t3.lt
    have u3c0 := u3.c0
    have u3c1 := u3.c1
    have u3c2 := u3.c2
    have u3lt := u3.lt
    clear hb3 t3 u3
    go_wp2
    go_ret
    exact ⟨rfl, B3.out⟩
  have e : ans = 0 := by rw [HA.out]; exact side_none HNL.out hl
  subst e
  rw [tb_false (fun e => hl (e HM.out.2))] at hv
  have HV2 := Lib.hid hv
  clear hv hl HA
  go_wp2_with fail
  with_reducible refine (HV2.out).mono ?_
  rintro e w3 ⟨rfl, hb3⟩
  have T3 := Lib.hid (T2.out.below hb3)
  have U3 := Lib.hid (U2.out.below hb3)
  have B3 := Lib.hid (B2.out.trans (hb3.mono B2.out.size))
  have t3 := T3.out
  have u3 := U3.out
  have t3c0 := t3.c0
  have t3c1 := t3.c1
  have t3c2 := t3.c2
  have t3lt := t3.lt
  have u3c0 := u3.c0
  have u3c1 := u3.c1
  have u3c2 := u3.c2
  have u3lt := u3.lt
  clear hb3 t3 u3
  go_wp2
  go_ret
  exact ⟨rfl, B3.out⟩
end Go.Proofs.YtllpicibncdppaaDoor
