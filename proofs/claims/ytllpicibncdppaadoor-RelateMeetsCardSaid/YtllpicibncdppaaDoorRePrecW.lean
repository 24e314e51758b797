/-
  Precise of both texts.
-/
import Derived.Test.YtllpicibncdppaaDoorRePrec
set_option linter.unusedVariables false
set_option linter.unusedSimpArgs false
namespace Go.Proofs.YtllpicibncdppaaDoor
open Go.ChangeShapes Go.WideShapes Go.ChangeAt Go.RowKit

set_option maxRecDepth 100000 in
set_option maxHeartbeats 2000000 in
theorem tPrec_any (t u : LTy) (w : World) (ht : LIn w w.heap.size t) (hu : LIn w w.heap.size u) (hsp : SpW w) : Calls Tryd.prog 39 #[t.val, u.val] w (RetB (.bool (tb (Precise (strip t) (strip u)))) w) := by
  obtain ⟨ans, hans⟩ : ∃ ans, ans = tb (Precise (strip t) (strip u)) := ⟨_, rfl⟩
  rw [← hans]
  have HA := Lib.hid hans
  clear hans
  unfold LTy.val
  obtain ⟨g, hg⟩ : ∃ g, g = w.heap.size := ⟨_, rfl⟩
  have HT := Lib.hid ht
  have HU := Lib.hid hu
  have HSP := Lib.hid hsp
  clear hsp
  clear ht hu
  go_enter Tryd.func39, Tryd.ntmps39
  go_upto_region 1 with fail
  rw [← hg]
  refine gen_wpT fun W hW => ?_
  obtain ⟨kt, ku, kb⟩ : TBox W g t ∧ TBox W (g + 1) u ∧ Below w.heap.size w W := by rw [← hW, hg]; exact two_boxes w t u
  have KB := Lib.hid kb
  have ktc0 := kt.c0
  have ktc1 := kt.c1
  have ktc2 := kt.c2
  have ktlt := kt.lt
  have kuc0 := ku.c0
  have kuc1 := ku.c1
  have kuc2 := ku.c2
  have kult := ku.lt
  clear hW hg
  have KT := Lib.hid kt
  have KU := Lib.hid ku
  have hc := may_any t u W (HT.out.on kb) (HU.out.on kb) (HSP.out.below kb)
  clear kt ku kb
  unfold LTy.val at hc
  by_cases hm : May (strip t) ∧ May (strip u)
  case neg =>
    have e : ans = false := by rw [HA.out]; exact tb_false fun e => hm ⟨e.1, e.2.1⟩
    subst e
    rw [tb_false hm] at hc
    have HC := Lib.hid hc
    clear hc hm HA
    go_wp2_with fail
    with_reducible refine (HC.out).mono ?_
    rintro e w1 ⟨rfl, hb1⟩
    have T1 := Lib.hid (KT.out.below hb1)
    have U1 := Lib.hid (KU.out.below hb1)
    have B1 := Lib.hid (KB.out.trans (hb1.mono KB.out.size))
    have t1 := T1.out
    have u1 := U1.out
    have t1c0 := t1.c0
    have t1c1 := t1.c1
    have t1c2 := t1.c2
    have t1lt := t1.lt
    have u1c0 := u1.c0
    have u1c1 := u1.c1
    have u1c2 := u1.c2
    have u1lt := u1.lt
    clear hb1 t1 u1
    go_wp2
    go_ret
    exact ⟨rfl, B1.out⟩
  rw [tb_true hm] at hc
  have HC := Lib.hid hc
  have HM := Lib.hid hm
  have HQ := Lib.hid (show ans = tb (Prec 50 (strip t) (strip u)) by rw [HA.out]; exact tb_congr ⟨fun e => e.2.2, fun e => ⟨hm.1, hm.2, e⟩⟩)
  clear hc hm
  go_wp2_with fail
  with_reducible refine (HC.out).mono ?_
  rintro e w1 ⟨rfl, hb1⟩
  have T1 := Lib.hid (KT.out.below hb1)
  have U1 := Lib.hid (KU.out.below hb1)
  have B1 := Lib.hid (KB.out.trans (hb1.mono KB.out.size))
  have t1 := T1.out
  have u1 := U1.out
  have t1c0 := t1.c0
  have t1c1 := t1.c1
  have t1c2 := t1.c2
  have t1lt := t1.lt
  have u1c0 := u1.c0
  have u1c1 := u1.c1
  have u1c2 := u1.c2
  have u1lt := u1.lt
  clear hb1 t1 u1
  have hc2 := prec_all 50 t u w1 (HT.out.on B1.out) (HU.out.on B1.out) (HSP.out.below B1.out) HM.out.1 HM.out.2 HM.out.1.1 HM.out.2.1
  rw [← HQ.out] at hc2
  unfold LTy.val at hc2
  have HC2 := Lib.hid hc2
  clear hc2
  go_wp2_with fail
  with_reducible refine (HC2.out).mono ?_
  rintro e w2 ⟨rfl, hb2⟩
  have T2 := Lib.hid (T1.out.below hb2)
  have U2 := Lib.hid (U1.out.below hb2)
  have B2 := Lib.hid (B1.out.trans (hb2.mono B1.out.size))
  have t2 := T2.out
  have u2 := U2.out
  have t2c0 := t2.c0
  have t2c1 := t2.c1
  have t2c2 := t2.c2
  have t2lt := t2.lt
  have u2c0 := u2.c0
  have u2c1 := u2.c1
  have u2c2 := u2.c2
  have u2lt := u2.lt
  clear hb2 t2 u2
  go_wp2
  go_ret
  exact ⟨by first | rfl | (cases ans <;> rfl), B2.out⟩
set_option maxRecDepth 100000 in
set_option maxHeartbeats 2000000 in
theorem rPrec_any (t u : LTy) (w : World) (ht : LIn w w.heap.size t) (hu : LIn w w.heap.size u) : Calls Tryd.prog 40 #[t.val, u.val] w (RetB (.bool (tb (Precise (strip t) (strip u)))) w) := by
  obtain ⟨ans, hans⟩ : ∃ ans, ans = tb (Precise (strip t) (strip u)) := ⟨_, rfl⟩
  rw [← hans]
  have HA := Lib.hid hans
  clear hans
  unfold LTy.val
  obtain ⟨g, hg⟩ : ∃ g, g = w.heap.size := ⟨_, rfl⟩
  have HT := Lib.hid ht
  have HU := Lib.hid hu
  clear ht hu
  go_enter Tryd.func40, Tryd.ntmps40
  go_upto_region 1 with fail
  rw [← hg]
  refine gen_wpT fun W hW => ?_
  obtain ⟨kt, ku, kb⟩ : TBox W g t ∧ TBox W (g + 1) u ∧ Below w.heap.size w W := by rw [← hW, hg]; exact two_boxes w t u
  have KB := Lib.hid kb
  have ktc0 := kt.c0
  have ktc1 := kt.c1
  have ktc2 := kt.c2
  have ktlt := kt.lt
  have kuc0 := ku.c0
  have kuc1 := ku.c1
  have kuc2 := ku.c2
  have kult := ku.lt
  clear hW hg
  have KT := Lib.hid kt
  have KU := Lib.hid ku
  have hc := both_any t u W (HT.out.on kb) (HU.out.on kb)
  clear kt ku kb
  unfold LTy.val at hc
  by_cases hm : May (strip t) ∧ May (strip u)
  case neg =>
    have e : ans = false := by rw [HA.out]; exact tb_false fun e => hm ⟨e.1, e.2.1⟩
    subst e
    rw [tb_false hm] at hc
    have HC := Lib.hid hc
    clear hc hm HA
    go_wp2_with fail
    with_reducible refine (HC.out).mono ?_
    rintro e w1 ⟨rfl, hb1⟩
    have T1 := Lib.hid (KT.out.below hb1)
    have U1 := Lib.hid (KU.out.below hb1)
    have B1 := Lib.hid (KB.out.trans (hb1.mono KB.out.size))
    have t1 := T1.out
    have u1 := U1.out
    have t1c0 := t1.c0
    have t1c1 := t1.c1
    have t1c2 := t1.c2
    have t1lt := t1.lt
    have u1c0 := u1.c0
    have u1c1 := u1.c1
    have u1c2 := u1.c2
    have u1lt := u1.lt
    clear hb1 t1 u1
    go_wp2
    go_ret
    exact ⟨rfl, B1.out⟩
  rw [tb_true hm] at hc
  have HC := Lib.hid hc
  have HM := Lib.hid hm
  have HQ := Lib.hid (show ans = tb (Prec 50 (strip t) (strip u)) by rw [HA.out]; exact tb_congr ⟨fun e => e.2.2, fun e => ⟨hm.1, hm.2, e⟩⟩)
  clear hc hm
  go_wp2_with fail
  with_reducible refine (HC.out).mono ?_
  rintro e w1 ⟨rfl, hb1⟩
  have T1 := Lib.hid (KT.out.below hb1)
  have U1 := Lib.hid (KU.out.below hb1)
  have B1 := Lib.hid (KB.out.trans (hb1.mono KB.out.size))
  have t1 := T1.out
  have u1 := U1.out
  have t1c0 := t1.c0
  have t1c1 := t1.c1
  have t1c2 := t1.c2
  have t1lt := t1.lt
  have u1c0 := u1.c0
  have u1c1 := u1.c1
  have u1c2 := u1.c2
  have u1lt := u1.lt
  clear hb1 t1 u1
  have hc2 := rprec_all 50 t u w1 (HT.out.on B1.out) (HU.out.on B1.out) HM.out.1 HM.out.2 HM.out.1.1 HM.out.2.1
  rw [← HQ.out] at hc2
  unfold LTy.val at hc2
  have HC2 := Lib.hid hc2
  clear hc2
  go_wp2_with fail
  with_reducible refine (HC2.out).mono ?_
  rintro e w2 ⟨rfl, hb2⟩
  have T2 := Lib.hid (T1.out.below hb2)
  have U2 := Lib.hid (U1.out.below hb2)
  have B2 := Lib.hid (B1.out.trans (hb2.mono B1.out.size))
  have t2 := T2.out
  have u2 := U2.out
  have t2c0 := t2.c0
  have t2c1 := t2.c1
  have t2c2 := t2.c2
  have t2lt := t2.lt
  have u2c0 := u2.c0
  have u2c1 := u2.c1
  have u2c2 := u2.c2
  have u2lt := u2.lt
  clear hb2 t2 u2
  go_wp2
  go_ret
  exact ⟨by first | rfl | (cases ans <;> rfl), B2.out⟩
end Go.Proofs.YtllpicibncdppaaDoor
