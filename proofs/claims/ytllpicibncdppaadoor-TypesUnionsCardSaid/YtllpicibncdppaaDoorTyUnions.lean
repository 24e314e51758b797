/-
  TypesUnions: the walk.
-/
import Derived.Test.YtllpicibncdppaaDoorTyAwake
set_option linter.unusedVariables false
set_option linter.unusedSimpArgs false
namespace Go.Proofs.YtllpicibncdppaaDoor
open Go.ChangeShapes Go.WideShapes Go.ChangeAt Go.RowKit

set_option maxRecDepth 100000 in
set_option maxHeartbeats 8000000 in
theorem typesUnions_walk (x : Int) (w : World) (hsp : SpW w) : Calls Tryd.prog 3 #[.int .i64 x] w (RetB (.bool true) w) := by
  have HSP := Lib.hid hsp
  clear hsp
  go_enter Tryd.func3, Tryd.ntmps3
  go_wp2_with fail
  with_reducible refine (awake09_any _ HSP.out).mono ?_
  rintro e w1 ⟨rfl, hb1⟩
  have Z1 := Lib.hid hb1
  clear hb1
  go_wp2_with fail
  with_reducible refine (tunion_any x _).mono ?_
  rintro e w2 ⟨t, rfl, hlt, hst, hb2⟩
  unfold LTy.val
  go_upto_region 4 with fail
  obtain ⟨g, hg⟩ : ∃ g, g = w2.heap.size := ⟨_, rfl⟩
  rw [← hg]
  refine gen_wpT fun W hW => ?_
  have hbw : Below w2.heap.size w2 W := by rw [← hW]; exact (one_box w2 t).2
  have X0 := Lib.hid (show TBox W g t by rw [← hW, hg]; exact (one_box w2 t).1)
  have Z2 := Lib.hid (Z1.out.trans ((hb2.trans (hbw.mono hb2.size)).mono Z1.out.size))
  have RT := Lib.hid ((hlt _ (Stays.refl _ _ _)).on hbw)
  have HST := Lib.hid hst
  clear hW hg hbw hb2 hlt hst
  refine wp_region_held_drew (S := fun w' => TBox w' g t) (by kernel_rfl) (X0.out) (fun hHeld => ?_)
  refine wpAnyH_take (i := 0) (oi := _) (v := .agg #[.int .i64 t.kind, .slice t.A t.ns.length t.c, .slice t.A2 t.xs.length t.c2]) rfl (by kernel_rfl) (by kernel_rfl) (by kernel_rfl) (fun _ _ _ h => h) (Or.inl ⟨by rfl, fun w' hS => (by have q0 := TBox.c0 hS; have q1 := TBox.c1 hS; have q2 := TBox.c2 hS; go_simp)⟩) hHeld ?_
  change wpAnyH _ _ _ _ _ _ _ (Act.put _ (some 9) _) _
  try simp only [Act.put, List.setIfInBounds_toArray, List.set_cons_zero, List.set_cons_succ]
  refine wpAnyH_take (i := 1) (oi := _) (v := .int .i64 x) rfl (by kernel_rfl) (by kernel_rfl) (by kernel_rfl) (fun _ _ _ h => h) (Or.inl ⟨by rfl, fun w' hS => (by go_simp)⟩) hHeld ?_
  change wpAnyH _ _ _ _ _ _ _ (Act.put _ (some 10) _) _
  try simp only [Act.put, List.setIfInBounds_toArray, List.set_cons_zero, List.set_cons_succ]
  refine wpAnyH_ready (rs := [2]) (by kernel_rfl) (by simp) ?_
  refine AllReadyH.cons (o := _) rfl (fun K hK => ?_) AllReadyH.nil
  go_simp
  with_reducible refine (runion_any x _).mono ?_
  rintro e w3 ⟨u, rfl, hlu, hsu, hb3⟩
  have B3 := Lib.hid (show Below W.heap.size W w3 from (Below.refl _ _).drew.trans hb3)
  have RU := Lib.hid (hlu _ (Stays.refl _ _ _))
  have HSU := Lib.hid hsu
  clear hlu hsu hb3
  unfold LTy.val
  refine hK.out _ _ (X0.out.below B3.out) (fun hHeld => ?_)
  clear hK K
  try simp only [Act.put, List.setIfInBounds_toArray, List.set_cons_zero, List.set_cons_succ]
  refine wpAnyH_ready (rs := [3]) (by kernel_rfl) (by simp) ?_
  refine AllReadyH.cons (o := _) rfl (fun K hK => ?_) AllReadyH.nil
  go_simp
  have hc := rsame_any t u w3 (RT.out.on B3.out) RU.out
  rw [tb_true (show strip t = strip u ∧ May (strip t) from ⟨HST.out.trans HSU.out.symm, by rw [HST.out]; exact (union_may (kindsN_lt x)).1⟩)] at hc
  unfold LTy.val at hc
  with_reducible refine hc.mono ?_
  rintro e w4 ⟨rfl, hb4⟩
  have B4 := Lib.hid (show Below W.heap.size W w4 from B3.out.trans (hb4.mono B3.out.size))
  clear hb4 hc
  refine hK.out _ _ (X0.out.below B4.out) (fun hHeld => ?_)
  clear hK K
  try simp only [Act.put, List.setIfInBounds_toArray, List.set_cons_zero, List.set_cons_succ]
  refine wpAnyH_take (i := 4) (oi := _) (v := .bool false) rfl (by kernel_rfl) (by kernel_rfl) (by kernel_rfl) (fun _ _ _ h => h) (Or.inl ⟨by rfl, fun w' hS => (by go_simp)⟩) hHeld ?_
  change wpAnyH _ _ _ _ _ _ _ (Act.put _ (some 13) _) _
  try simp only [Act.put, List.setIfInBounds_toArray, List.set_cons_zero, List.set_cons_succ]
  refine wpAnyH_done (by kernel_rfl) ?_ _
  go_upto_region 7 with fail
  rw [show bits .and .i64 x 95 = ((kindsN x &&& 95 : Nat) : Int) from and_low x 95 (by omega)]
  obtain ⟨q, hq⟩ : ∃ q, q = kindsN x &&& 95 := ⟨_, rfl⟩
  rw [← hq]
  have hcases := union_kinds (kindsN_lt x)
  rw [← hq] at hcases
  have HK := Lib.hid (show ¬ (q = 0 ∨ q = 95) → kindsV (strip t) = q from fun h => by
    rw [HST.out, kindsV_yes (union_may (kindsN_lt x)).1]
    rcases hcases with h2 | h2
    · exact (h h2.1).elim
    · exact h2.2)
  clear hcases hq
  have Z4 := Lib.hid (Z2.out.trans (B4.out.mono Z2.out.size))
  by_cases h0 : q = 0
  · subst h0
    go_wp2
    go_ret
    exact ⟨rfl, Z4.out⟩
  by_cases h5 : q = 95
  · subst h5
    go_wp2
    go_ret
    exact ⟨rfl, Z4.out⟩
  have hk := HK.out (fun h => h.elim h0 h5)
  have e0 : ((q : Int) == 0) = false := beq_eq_false_iff_ne.2 (by omega)
  have e5 : ((q : Int) == 95) = false := beq_eq_false_iff_ne.2 (by omega)
  have hc := tkinds_any t w4 (RT.out.on B4.out) (HSP.out.below Z4.out)
  rw [hk] at hc
  unfold LTy.val at hc
  have HC := Lib.hid hc
  have q4 := X0.out.below B4.out
  have c0 := q4.c0
  have c1 := q4.c1
  have c2 := q4.c2
  have cl := q4.lt
  clear q4 hc hk h0 h5
  go_wp2_with fail
  with_reducible refine HC.out.mono ?_
  rintro e w5 ⟨rfl, hb5⟩
  go_wp2
  go_ret
  exact ⟨rfl, Z4.out.trans (hb5.mono Z4.out.size)⟩
end Go.Proofs.YtllpicibncdppaaDoor
