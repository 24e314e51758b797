/-
  RelateSelf, RelateLeast: the walks.
-/
import Derived.Test.YtllpicibncdppaaDoorReLawSE
import Derived.Test.YtllpicibncdppaaDoorReMeetW
import Derived.Test.YtllpicibncdppaaDoorRePrecW
import Derived.Test.YtllpicibncdppaaDoorTyCount
set_option linter.unusedVariables false
set_option linter.unusedSimpArgs false
namespace Go.Proofs.YtllpicibncdppaaDoor
open Go.ChangeShapes Go.WideShapes Go.ChangeAt Go.RowKit

theorem wName_low : ∀ (ns : List ByteArray), (∀ s ∈ ns, s.size ≤ 140737488355328) → wName ns ≤ ns.length * 1500000000000
  | [], _ => by rw [wName]; omega
  | s :: l, h => by
    have h1 := h s (by simp)
    have h2 := wName_low l (fun x hx => h x (by simp [hx]))
    rw [wName, List.length_cons]
    omega
theorem low_step {a b n1 n2 len M : Nat} (k1 : a + M ≤ 2 * (M * n1)) (k2 : b + M * len ≤ 2 * (M * n2)) : a + b + M * (len + 1) ≤ 2 * (M * (n1 + n2)) := by
  rw [Nat.mul_add, Nat.mul_add]
  omega
theorem wt_low (M : Nat) (hM : M = 1500000000000) : ∀ (t : LTy), ∀ (n : Nat) (w : World) (B : Nat), LIn w B t → Chk n (strip t) → wt (strip t) + M ≤ 2 * (M * nodes (strip t)) := fun t => lty_ind (P := fun t => ∀ (n : Nat) (w : World) (B : Nat), LIn w B t → Chk n (strip t) → wt (strip t) + M ≤ 2 * (M * nodes (strip t))) (fun t ih n w B hin hc => by
  rw [wt_eq, nodes_args, strip_names, strip_args]
  have h1 := wName_low t.ns hin.room
  rw [← hM] at h1
  have h2 : t.ns.length ≤ t.xs.length := by
    cases n with
    | zero => exact hc.elim
    | succ n =>
      have h3 := hc.1
      rw [strip_names, strip_len] at h3
      unfold HeadOk at h3
      omega
  have h4 : ∀ x ∈ t.xs, wt (strip x) + M ≤ 2 * (M * nodes (strip x)) := fun x hx => by
    obtain ⟨i, hi⟩ := List.getElem?_of_mem hx
    cases n with
    | zero => exact hc.elim
    | succ n => exact ih x hx n w B (hin.mem hx) (hc.2 i _ (strip_at hi)).2
  have h5 : ∀ l : List LTy, (∀ x ∈ l, wt (strip x) + M ≤ 2 * (M * nodes (strip x))) → wtL (l.map strip) + M * l.length ≤ 2 * (M * nodesL (l.map strip)) := fun l => by
    induction l with
    | nil => intro _; simp [wtL, nodesL]
    | cons x l ihl =>
      intro h
      have k1 := h x (by simp)
      have k2 := ihl fun y hy => h y (by simp [hy])
      rw [List.map_cons, wtL, nodesL, List.length_cons]
      exact low_step k1 k2
  have h6 := h5 t.xs h4
  have h7 : t.ns.length * M ≤ M * t.xs.length := by rw [Nat.mul_comm]; exact Nat.mul_le_mul_left _ h2
  rw [Nat.mul_add, Nat.mul_one]
  have h8 : 1 ≤ M := by rw [hM]; decide
  clear hM
  omega) t
theorem few_nodes {p : Prop} {t : LTy} {l : List LTy} {w : World} {B : Nat} (hp : p) (h : p → ∀ x ∈ l, wt (strip x) ≤ 1000000000000000000 → wt (strip x) ≤ 500) (hin : LIn w B t) (hm : May (strip t)) (hl : t ∈ l) : nodes (strip t) ≤ 500 := by
  have h1 := wt_low 1500000000000 rfl t _ w B hin hm.1
  have h2 := hm.2
  have h3 := wt_nodes (strip t)
  have h4 := h hp t hl (by omega)
  omega
theorem meetT_may {a b c : Ty} (h : meetT a b = some c) : May a ∧ May b := by
  unfold meetT at h
  by_cases hm : May a ∧ May b
  · exact hm
  · rw [if_neg hm] at h; cases h
theorem ease_any {a : Ty} (h : May a) : Ease (.mk 0 [] []) a := by
  refine ⟨any_may, h, ?_⟩
  by_cases hb : a.kind = 0
  · exact goes_any hb
  · rw [Goes, if_neg hb, if_pos (show (Ty.mk 0 [] []).kind = 0 from rfl)]
theorem put_box (w : World) (r : LTy) : TBox (w.alloc (.cells #[.int .i64 r.kind, .slice r.A r.ns.length r.c, .slice r.A2 r.xs.length r.c2] 26)) w.heap.size r ∧ Below w.heap.size w (w.alloc (.cells #[.int .i64 r.kind, .slice r.A r.ns.length r.c, .slice r.A2 r.xs.length r.c2] 26)) := one_box w r
set_option maxRecDepth 100000 in
set_option maxHeartbeats 8000000 in
theorem relateSelf_walk (t : LTy) (w : World) (it : LIn w w.heap.size t) (hsp : SpW w) : Calls Tryd.prog 13 #[t.val] w (RetB (.bool true) w) := by
  unfold LTy.val
  obtain ⟨g, hg⟩ : ∃ g, g = w.heap.size := ⟨_, rfl⟩
  have It := Lib.hid it
  have HSP := Lib.hid hsp
  clear hsp it
  go_enter Tryd.func13, Tryd.ntmps13
  go_upto_region 1 with fail
  rw [← hg]
  refine gen_wpT fun w0 hW => ?_
  obtain ⟨kt, kb⟩ : TBox w0 (g) t ∧ Below w.heap.size w w0 := by rw [← hW, hg]; exact boxes1 w t
  have Xt0 := Lib.hid kt
  have Z0 := Lib.hid kb
  clear hW hg kb kt
  have qXt0 := Xt0.out
  have qXt0c0 := qXt0.c0
  have qXt0c1 := qXt0.c1
  have qXt0c2 := qXt0.c2
  have qXt0l := qXt0.lt
  clear qXt0
  go_wp2_with fail
  with_reducible refine (awake10_any _ (HSP.out.below Z0.out)).mono ?_
  rintro e w1 ⟨rfl, hb1⟩
  have Xt1 := Lib.hid (Xt0.out.below hb1)
  have Z1 := Lib.hid (Z0.out.trans (hb1.mono Z0.out.size))
  clear hb1
  have qXt1 := Xt1.out
  have qXt1c0 := qXt1.c0
  have qXt1c1 := qXt1.c1
  have qXt1c2 := qXt1.c2
  have qXt1l := qXt1.lt
  clear qXt1
  have HROW := Lib.hid (show ∀ w', w' = w1.alloc (.cells #[.int .i64 t.kind, .slice t.A t.ns.length t.c, .slice t.A2 t.xs.length t.c2] 26) → Calls Tryd.prog 22 #[.slice (some ⟨w1.heap.size, 0, none⟩) 1 1] w' (FewsOut [t] w') ∧ Below w1.heap.size w1 w' from fun w' e => by
    subst e
    have hb : Below w1.heap.size w1 (w1.alloc (.cells #[.int .i64 t.kind, .slice t.A t.ns.length t.c, .slice t.A2 t.xs.length t.c2] 26)) := (Below.refl _ _).alloc (Nat.le_refl _) _
    refine ⟨few_row (w0 := w1) [t] rfl (heap_new_at _ _ _ rfl) (fun x hx => ?_) (by simp) 1 rfl, hb⟩
    simp at hx
    subst hx
    exact (It.out.on Z1.out).on hb)
  go_wp2_with fail
  with_reducible refine (HROW.out _ rfl).1.mono ?_
  rintro e w2 ⟨hb2, b, rfl, hfew⟩
  have hb2 := (HROW.out _ rfl).2.trans (hb2.mono (HROW.out _ rfl).2.size)
  have Xt2 := Lib.hid (Xt1.out.below hb2)
  have Z2 := Lib.hid (Z1.out.trans (hb2.mono Z1.out.size))
  have HFEW := Lib.hid hfew
  clear hb2 hfew
  have qXt2 := Xt2.out
  have qXt2c0 := qXt2.c0
  have qXt2c1 := qXt2.c1
  have qXt2c2 := qXt2.c2
  have qXt2l := qXt2.lt
  clear qXt2
  cases b with
  | false =>
    go_wp2
    go_ret
    exact ⟨rfl, Z2.out⟩
  | true =>
    by_cases p0 : May (strip t)
    · have P0 := Lib.hid p0
      have hc2 := rcheck_any t w2 (It.out.on Z2.out)
      rw [tb_true p0] at hc2
      unfold LTy.val at hc2
      have HC2 := Lib.hid hc2
      clear hc2 p0
      go_wp2_with fail
      with_reducible refine (HC2.out).mono ?_
      rintro e w3 ⟨rfl, hb3⟩
      have Xt3 := Lib.hid (Xt2.out.below hb3)
      have Z3 := Lib.hid (Z2.out.trans (hb3.mono Z2.out.size))
      clear hb3
      have qXt3 := Xt3.out
      have qXt3c0 := qXt3.c0
      have qXt3c1 := qXt3.c1
      have qXt3c2 := qXt3.c2
      have qXt3l := qXt3.lt
      clear qXt3
      have hc3 := tMeet_self t w3 (It.out.on Z3.out) (HSP.out.below Z3.out) P0.out
      unfold LTy.val at hc3
      have HC3 := Lib.hid hc3
      clear hc3
      go_wp2_with fail
      with_reducible refine HC3.out.mono ?_
      rintro e w4 (⟨hno, rfl, hb4⟩ | ⟨r, hr, rfl, hlr, hb4⟩)
      · cases hno
      · have P1 := Lib.hid hr
        have Xt4 := Lib.hid (Xt3.out.below hb4)
        have Z4 := Lib.hid (Z3.out.trans (hb4.mono Z3.out.size))
        have Rr4 := Lib.hid (hlr _ (Stays.refl _ _ _))
        clear hb4 hlr hr
        have qXt4 := Xt4.out
        have qXt4c0 := qXt4.c0
        have qXt4c1 := qXt4.c1
        have qXt4c2 := qXt4.c2
        have qXt4l := qXt4.lt
        clear qXt4
        unfold LTy.val
        go_upto_region 6 with fail
        obtain ⟨br, hbr⟩ : ∃ b, b = w4.heap.size := ⟨_, rfl⟩
        rw [← hbr]
        refine gen_wpT fun w5 hW => ?_
        have hb5 : Below w4.heap.size w4 w5 := by rw [← hW]; exact (one_box w4 r).2
        have Xt5 := Lib.hid (Xt4.out.below hb5)
        have Z5 := Lib.hid (Z4.out.trans (hb5.mono Z4.out.size))
        have Rr5 := Lib.hid (Rr4.out.on hb5)
        have Xr5 := Lib.hid (show TBox w5 br r by rw [← hW, hbr]; exact (one_box w4 r).1)
        clear hW hbr hb5
        have qXt5 := Xt5.out
        have qXt5c0 := qXt5.c0
        have qXt5c1 := qXt5.c1
        have qXt5c2 := qXt5.c2
        have qXt5l := qXt5.lt
        clear qXt5
        have qXr5 := Xr5.out
        have qXr5c0 := qXr5.c0
        have qXr5c1 := qXr5.c1
        have qXr5c2 := qXr5.c2
        have qXr5l := qXr5.lt
        clear qXr5
        by_cases p2 : Sub (strip t) (strip t)
        · have P2 := Lib.hid p2
          have hc5 := tSub_any t t w5 (It.out.on Z5.out) (It.out.on Z5.out) (HSP.out.below Z5.out)
          rw [tb_true p2] at hc5
          unfold LTy.val at hc5
          have HC5 := Lib.hid hc5
          clear hc5 p2
          go_wp2_with fail
          with_reducible refine (HC5.out).mono ?_
          rintro e w6 ⟨rfl, hb6⟩
          have Xt6 := Lib.hid (Xt5.out.below hb6)
          have Xr6 := Lib.hid (Xr5.out.below hb6)
          have Z6 := Lib.hid (Z5.out.trans (hb6.mono Z5.out.size))
          have Rr6 := Lib.hid (Rr5.out.on hb6)
          clear hb6
          have qXt6 := Xt6.out
          have qXt6c0 := qXt6.c0
          have qXt6c1 := qXt6.c1
          have qXt6c2 := qXt6.c2
          have qXt6l := qXt6.lt
          clear qXt6
          have qXr6 := Xr6.out
          have qXr6c0 := qXr6.c0
          have qXr6c1 := qXr6.c1
          have qXr6c2 := qXr6.c2
          have qXr6l := qXr6.lt
          clear qXr6
          by_cases p3 : Ease (strip t) (strip t)
          · have P3 := Lib.hid p3
            have hc6 := tEase_any t t w6 (It.out.on Z6.out) (It.out.on Z6.out) (HSP.out.below Z6.out)
            rw [tb_true p3] at hc6
            unfold LTy.val at hc6
            have HC6 := Lib.hid hc6
            clear hc6 p3
            go_wp2_with fail
            with_reducible refine (HC6.out).mono ?_
            rintro e w7 ⟨rfl, hb7⟩
            have Xt7 := Lib.hid (Xt6.out.below hb7)
            have Xr7 := Lib.hid (Xr6.out.below hb7)
            have Z7 := Lib.hid (Z6.out.trans (hb7.mono Z6.out.size))
            have Rr7 := Lib.hid (Rr6.out.on hb7)
            clear hb7
            have qXt7 := Xt7.out
            have qXt7c0 := qXt7.c0
            have qXt7c1 := qXt7.c1
            have qXt7c2 := qXt7.c2
            have qXt7l := qXt7.lt
            clear qXt7
            have qXr7 := Xr7.out
            have qXr7c0 := qXr7.c0
            have qXr7c1 := qXr7.c1
            have qXr7c2 := qXr7.c2
            have qXr7l := qXr7.lt
            clear qXr7
            by_cases p4 : Precise (strip t) (strip t)
            · have P4 := Lib.hid p4
              have hc7 := tPrec_any t t w7 (It.out.on Z7.out) (It.out.on Z7.out) (HSP.out.below Z7.out)
              rw [tb_true p4] at hc7
              unfold LTy.val at hc7
              have HC7 := Lib.hid hc7
              clear hc7 p4
              go_wp2_with fail
              with_reducible refine (HC7.out).mono ?_
              rintro e w8 ⟨rfl, hb8⟩
              have Xt8 := Lib.hid (Xt7.out.below hb8)
              have Xr8 := Lib.hid (Xr7.out.below hb8)
              have Z8 := Lib.hid (Z7.out.trans (hb8.mono Z7.out.size))
              have Rr8 := Lib.hid (Rr7.out.on hb8)
              clear hb8
              have qXt8 := Xt8.out
              have qXt8c0 := qXt8.c0
              have qXt8c1 := qXt8.c1
              have qXt8c2 := qXt8.c2
              have qXt8l := qXt8.lt
              clear qXt8
              have qXr8 := Xr8.out
              have qXr8c0 := qXr8.c0
              have qXr8c1 := qXr8.c1
              have qXr8c2 := qXr8.c2
              have qXr8l := qXr8.lt
              clear qXr8
              by_cases p5 : Sub (strip t) (strip (leaf 0))
              · have P5 := Lib.hid p5
                have hc8 := (show Calls Tryd.prog 23 #[t.val, .agg #[.int .i64 0, .slice none 0 0, .slice none 0 0]] w8 (RetB (.bool (tb (Sub (strip t) (strip (leaf 0))))) w8) from tSub_any t (leaf 0) w8 (It.out.on Z8.out) (leaf_in _ _ _) (HSP.out.below Z8.out))
                rw [tb_true p5] at hc8
                unfold LTy.val at hc8
                have HC8 := Lib.hid hc8
                clear hc8 p5
                go_wp2_with fail
                with_reducible refine (HC8.out).mono ?_
                rintro e w9 ⟨rfl, hb9⟩
                have Xt9 := Lib.hid (Xt8.out.below hb9)
                have Xr9 := Lib.hid (Xr8.out.below hb9)
                have Z9 := Lib.hid (Z8.out.trans (hb9.mono Z8.out.size))
                have Rr9 := Lib.hid (Rr8.out.on hb9)
                clear hb9
                have qXt9 := Xt9.out
                have qXt9c0 := qXt9.c0
                have qXt9c1 := qXt9.c1
                have qXt9c2 := qXt9.c2
                have qXt9l := qXt9.lt
                clear qXt9
                have qXr9 := Xr9.out
                have qXr9c0 := qXr9.c0
                have qXr9c1 := qXr9.c1
                have qXr9c2 := qXr9.c2
                have qXr9l := qXr9.lt
                clear qXr9
                by_cases p6 : Ease (strip (leaf 0)) (strip t)
                · have P6 := Lib.hid p6
                  have hc9 := (show Calls Tryd.prog 25 #[.agg #[.int .i64 0, .slice none 0 0, .slice none 0 0], t.val] w9 (RetB (.bool (tb (Ease (strip (leaf 0)) (strip t)))) w9) from tEase_any (leaf 0) t w9 (leaf_in _ _ _) (It.out.on Z9.out) (HSP.out.below Z9.out))
                  rw [tb_true p6] at hc9
                  unfold LTy.val at hc9
                  have HC9 := Lib.hid hc9
                  clear hc9 p6
                  go_wp2_with fail
                  with_reducible refine (HC9.out).mono ?_
                  rintro e w10 ⟨rfl, hb10⟩
                  have Xt10 := Lib.hid (Xt9.out.below hb10)
                  have Xr10 := Lib.hid (Xr9.out.below hb10)
                  have Z10 := Lib.hid (Z9.out.trans (hb10.mono Z9.out.size))
                  have Rr10 := Lib.hid (Rr9.out.on hb10)
                  clear hb10
                  have qXt10 := Xt10.out
                  have qXt10c0 := qXt10.c0
                  have qXt10c1 := qXt10.c1
                  have qXt10c2 := qXt10.c2
                  have qXt10l := qXt10.lt
                  clear qXt10
                  have qXr10 := Xr10.out
                  have qXr10c0 := qXr10.c0
                  have qXr10c1 := qXr10.c1
                  have qXr10c2 := qXr10.c2
                  have qXr10l := qXr10.lt
                  clear qXr10
                  by_cases p7 : strip r = strip t ∧ May (strip r)
                  · have P7 := Lib.hid p7
                    have hc10 := rsame_any r t w10 Rr10.out (It.out.on Z10.out)
                    rw [tb_true p7] at hc10
                    unfold LTy.val at hc10
                    have HC10 := Lib.hid hc10
                    clear hc10 p7
                    go_wp2_with fail
                    with_reducible refine (HC10.out).mono ?_
                    rintro e w11 ⟨rfl, hb11⟩
                    have Xt11 := Lib.hid (Xt10.out.below hb11)
                    have Xr11 := Lib.hid (Xr10.out.below hb11)
                    have Z11 := Lib.hid (Z10.out.trans (hb11.mono Z10.out.size))
                    have Rr11 := Lib.hid (Rr10.out.on hb11)
                    clear hb11
                    have qXt11 := Xt11.out
                    have qXt11c0 := qXt11.c0
                    have qXt11c1 := qXt11.c1
                    have qXt11c2 := qXt11.c2
                    have qXt11l := qXt11.lt
                    clear qXt11
                    have qXr11 := Xr11.out
                    have qXr11c0 := qXr11.c0
                    have qXr11c1 := qXr11.c1
                    have qXr11c2 := qXr11.c2
                    have qXr11l := qXr11.lt
                    clear qXr11
                    go_wp2
                    go_ret
                    exact ⟨rfl, Z11.out⟩
                  · have P7 := Lib.hid p7
                    exact ((P7.out ⟨(Option.some.inj P1.out).symm, by rw [← Option.some.inj P1.out]; exact P0.out⟩).elim)
                · have P6 := Lib.hid p6
                  exact ((P6.out (by rw [strip_leaf]; exact ease_any P0.out)).elim)
              · have P5 := Lib.hid p5
                exact ((P5.out (by rw [strip_leaf]; exact sub_any P0.out)).elim)
            · have P4 := Lib.hid p4
              exact ((P4.out ⟨P0.out, P0.out, prec_refl⟩).elim)
          · have P3 := Lib.hid p3
            exact ((P3.out (sub_ease (sub_refl P0.out))).elim)
        · have P2 := Lib.hid p2
          exact ((P2.out (sub_refl P0.out)).elim)
    · have P0 := Lib.hid p0
      have hc2 := rcheck_any t w2 (It.out.on Z2.out)
      rw [tb_false p0] at hc2
      unfold LTy.val at hc2
      have HC2 := Lib.hid hc2
      clear hc2 p0
      go_wp2_with fail
      with_reducible refine (HC2.out).mono ?_
      rintro e w3 ⟨rfl, hb3⟩
      have Xt3 := Lib.hid (Xt2.out.below hb3)
      have Z3 := Lib.hid (Z2.out.trans (hb3.mono Z2.out.size))
      clear hb3
      have qXt3 := Xt3.out
      have qXt3c0 := qXt3.c0
      have qXt3c1 := qXt3.c1
      have qXt3c2 := qXt3.c2
      have qXt3l := qXt3.lt
      clear qXt3
      go_wp2
      go_ret
      exact ⟨rfl, Z3.out⟩
set_option maxRecDepth 100000 in
set_option maxHeartbeats 8000000 in
theorem relateLeast_walk (t u v : LTy) (w : World) (it : LIn w w.heap.size t) (iu : LIn w w.heap.size u) (iv : LIn w w.heap.size v) (hsp : SpW w) : Calls Tryd.prog 14 #[t.val, u.val, v.val] w (RetB (.bool true) w) := by
  unfold LTy.val
  obtain ⟨g, hg⟩ : ∃ g, g = w.heap.size := ⟨_, rfl⟩
  have It := Lib.hid it
  have Iu := Lib.hid iu
  have Iv := Lib.hid iv
  have HSP := Lib.hid hsp
  clear hsp it iu iv
  go_enter Tryd.func14, Tryd.ntmps14
  go_upto_region 1 with fail
  rw [← hg]
  refine gen_wpT fun w0 hW => ?_
  obtain ⟨kt, ku, kv, kb⟩ : TBox w0 (g) t ∧ TBox w0 (g + 1) u ∧ TBox w0 (g + 2) v ∧ Below w.heap.size w w0 := by rw [← hW, hg]; exact boxes3 w t u v
  have Xt0 := Lib.hid kt
  have Xu0 := Lib.hid ku
  have Xv0 := Lib.hid kv
  have Z0 := Lib.hid kb
  clear hW hg kb kt ku kv
  have qXt0 := Xt0.out
  have qXt0c0 := qXt0.c0
  have qXt0c1 := qXt0.c1
  have qXt0c2 := qXt0.c2
  have qXt0l := qXt0.lt
  clear qXt0
  have qXu0 := Xu0.out
  have qXu0c0 := qXu0.c0
  have qXu0c1 := qXu0.c1
  have qXu0c2 := qXu0.c2
  have qXu0l := qXu0.lt
  clear qXu0
  have qXv0 := Xv0.out
  have qXv0c0 := qXv0.c0
  have qXv0c1 := qXv0.c1
  have qXv0c2 := qXv0.c2
  have qXv0l := qXv0.lt
  clear qXv0
  go_wp2_with fail
  with_reducible refine (awake10_any _ (HSP.out.below Z0.out)).mono ?_
  rintro e w1 ⟨rfl, hb1⟩
  have Xt1 := Lib.hid (Xt0.out.below hb1)
  have Xu1 := Lib.hid (Xu0.out.below hb1)
  have Xv1 := Lib.hid (Xv0.out.below hb1)
  have Z1 := Lib.hid (Z0.out.trans (hb1.mono Z0.out.size))
  clear hb1
  have qXt1 := Xt1.out
  have qXt1c0 := qXt1.c0
  have qXt1c1 := qXt1.c1
  have qXt1c2 := qXt1.c2
  have qXt1l := qXt1.lt
  clear qXt1
  have qXu1 := Xu1.out
  have qXu1c0 := qXu1.c0
  have qXu1c1 := qXu1.c1
  have qXu1c2 := qXu1.c2
  have qXu1l := qXu1.lt
  clear qXu1
  have qXv1 := Xv1.out
  have qXv1c0 := qXv1.c0
  have qXv1c1 := qXv1.c1
  have qXv1c2 := qXv1.c2
  have qXv1l := qXv1.lt
  clear qXv1
  have HROW := Lib.hid (show ∀ w', w' = w1.alloc (.cells #[.int .i64 t.kind, .slice t.A t.ns.length t.c, .slice t.A2 t.xs.length t.c2, .int .i64 u.kind, .slice u.A u.ns.length u.c, .slice u.A2 u.xs.length u.c2, .int .i64 v.kind, .slice v.A v.ns.length v.c, .slice v.A2 v.xs.length v.c2] 26) → Calls Tryd.prog 22 #[.slice (some ⟨w1.heap.size, 0, none⟩) 3 3] w' (FewsOut [t, u, v] w') ∧ Below w1.heap.size w1 w' from fun w' e => by
    subst e
    have hb : Below w1.heap.size w1 (w1.alloc (.cells #[.int .i64 t.kind, .slice t.A t.ns.length t.c, .slice t.A2 t.xs.length t.c2, .int .i64 u.kind, .slice u.A u.ns.length u.c, .slice u.A2 u.xs.length u.c2, .int .i64 v.kind, .slice v.A v.ns.length v.c, .slice v.A2 v.xs.length v.c2] 26)) := (Below.refl _ _).alloc (Nat.le_refl _) _
    refine ⟨few_row (w0 := w1) [t, u, v] rfl (heap_new_at _ _ _ rfl) (fun x hx => ?_) (by simp) 3 rfl, hb⟩
    simp at hx
    rcases hx with rfl | rfl | rfl
    · exact (It.out.on Z1.out).on hb
    · exact (Iu.out.on Z1.out).on hb
    · exact (Iv.out.on Z1.out).on hb)
  go_wp2_with fail
  with_reducible refine (HROW.out _ rfl).1.mono ?_
  rintro e w2 ⟨hb2, b, rfl, hfew⟩
  have hb2 := (HROW.out _ rfl).2.trans (hb2.mono (HROW.out _ rfl).2.size)
  have Xt2 := Lib.hid (Xt1.out.below hb2)
  have Xu2 := Lib.hid (Xu1.out.below hb2)
  have Xv2 := Lib.hid (Xv1.out.below hb2)
  have Z2 := Lib.hid (Z1.out.trans (hb2.mono Z1.out.size))
  have HFEW := Lib.hid hfew
  clear hb2 hfew
  have qXt2 := Xt2.out
  have qXt2c0 := qXt2.c0
  have qXt2c1 := qXt2.c1
  have qXt2c2 := qXt2.c2
  have qXt2l := qXt2.lt
  clear qXt2
  have qXu2 := Xu2.out
  have qXu2c0 := qXu2.c0
  have qXu2c1 := qXu2.c1
  have qXu2c2 := qXu2.c2
  have qXu2l := qXu2.lt
  clear qXu2
  have qXv2 := Xv2.out
  have qXv2c0 := qXv2.c0
  have qXv2c1 := qXv2.c1
  have qXv2c2 := qXv2.c2
  have qXv2l := qXv2.lt
  clear qXv2
  cases b with
  | false =>
    go_wp2
    go_ret
    exact ⟨rfl, Z2.out⟩
  | true =>
    have hc2 := tMeet_any t u w2 w2.heap.size (Nat.le_refl _) (It.out.on Z2.out) (Iu.out.on Z2.out) (HSP.out.below Z2.out)
    unfold LTy.val at hc2
    have HC2 := Lib.hid hc2
    clear hc2
    go_wp2_with fail
    with_reducible refine HC2.out.mono ?_
    rintro e w3 (⟨hno, rfl, hb3⟩ | ⟨r, hr, rfl, hlr, hb3⟩)
    · have P0 := Lib.hid hno
      have Xt3 := Lib.hid (Xt2.out.below hb3)
      have Xu3 := Lib.hid (Xu2.out.below hb3)
      have Xv3 := Lib.hid (Xv2.out.below hb3)
      have Z3 := Lib.hid (Z2.out.trans (hb3.mono Z2.out.size))
      clear hb3 hno
      have qXt3 := Xt3.out
      have qXt3c0 := qXt3.c0
      have qXt3c1 := qXt3.c1
      have qXt3c2 := qXt3.c2
      have qXt3l := qXt3.lt
      clear qXt3
      have qXu3 := Xu3.out
      have qXu3c0 := qXu3.c0
      have qXu3c1 := qXu3.c1
      have qXu3c2 := qXu3.c2
      have qXu3l := qXu3.lt
      clear qXu3
      have qXv3 := Xv3.out
      have qXv3c0 := qXv3.c0
      have qXv3c1 := qXv3.c1
      have qXv3c2 := qXv3.c2
      have qXv3l := qXv3.lt
      clear qXv3
      go_upto_region 6 with fail
      refine gen_wpT fun w4 hW => ?_
      have hb4 : Below w3.heap.size w3 w4 := by rw [← hW]; exact (Below.refl _ _).alloc (Nat.le_refl _) _
      have Xt4 := Lib.hid (Xt3.out.below hb4)
      have Xu4 := Lib.hid (Xu3.out.below hb4)
      have Xv4 := Lib.hid (Xv3.out.below hb4)
      have Z4 := Lib.hid (Z3.out.trans (hb4.mono Z3.out.size))
      clear hW hb4
      have qXt4 := Xt4.out
      have qXt4c0 := qXt4.c0
      have qXt4c1 := qXt4.c1
      have qXt4c2 := qXt4.c2
      have qXt4l := qXt4.lt
      clear qXt4
      have qXu4 := Xu4.out
      have qXu4c0 := qXu4.c0
      have qXu4c1 := qXu4.c1
      have qXu4c2 := qXu4.c2
      have qXu4l := qXu4.lt
      clear qXu4
      have qXv4 := Xv4.out
      have qXv4c0 := qXv4.c0
      have qXv4c1 := qXv4.c1
      have qXv4c2 := qXv4.c2
      have qXv4l := qXv4.lt
      clear qXv4
      by_cases p1 : Precise (strip v) (strip t)
      · have P1 := Lib.hid p1
        have hc4 := tPrec_any v t w4 (Iv.out.on Z4.out) (It.out.on Z4.out) (HSP.out.below Z4.out)
        rw [tb_true p1] at hc4
        unfold LTy.val at hc4
        have HC4 := Lib.hid hc4
        clear hc4 p1
        go_wp2_with fail
        with_reducible refine (HC4.out).mono ?_
        rintro e w5 ⟨rfl, hb5⟩
        have Xt5 := Lib.hid (Xt4.out.below hb5)
        have Xu5 := Lib.hid (Xu4.out.below hb5)
        have Xv5 := Lib.hid (Xv4.out.below hb5)
        have Z5 := Lib.hid (Z4.out.trans (hb5.mono Z4.out.size))
        clear hb5
        have qXt5 := Xt5.out
        have qXt5c0 := qXt5.c0
        have qXt5c1 := qXt5.c1
        have qXt5c2 := qXt5.c2
        have qXt5l := qXt5.lt
        clear qXt5
        have qXu5 := Xu5.out
        have qXu5c0 := qXu5.c0
        have qXu5c1 := qXu5.c1
        have qXu5c2 := qXu5.c2
        have qXu5l := qXu5.lt
        clear qXu5
        have qXv5 := Xv5.out
        have qXv5c0 := qXv5.c0
        have qXv5c1 := qXv5.c1
        have qXv5c2 := qXv5.c2
        have qXv5l := qXv5.lt
        clear qXv5
        by_cases p2 : Precise (strip v) (strip u)
        · have P2 := Lib.hid p2
          exact (((show False from Exists.elim (meetT_most P1.out P2.out (Nat.le_trans (Nat.add_le_add (few_nodes (by first | exact trivial | rfl) HFEW.out It.out P1.out.2.1 (by simp)) (few_nodes (by first | exact trivial | rfl) HFEW.out Iu.out P2.out.2.1 (by simp))) (by omega))) fun z h => by have h1 := h.1; rw [P0.out] at h1; cases h1)).elim)
        · have P2 := Lib.hid p2
          have hc5 := tPrec_any v u w5 (Iv.out.on Z5.out) (Iu.out.on Z5.out) (HSP.out.below Z5.out)
          rw [tb_false p2] at hc5
          unfold LTy.val at hc5
          have HC5 := Lib.hid hc5
          clear hc5 p2
          go_wp2_with fail
          with_reducible refine (HC5.out).mono ?_
          rintro e w6 ⟨rfl, hb6⟩
          have Xt6 := Lib.hid (Xt5.out.below hb6)
          have Xu6 := Lib.hid (Xu5.out.below hb6)
          have Xv6 := Lib.hid (Xv5.out.below hb6)
          have Z6 := Lib.hid (Z5.out.trans (hb6.mono Z5.out.size))
          clear hb6
          have qXt6 := Xt6.out
          have qXt6c0 := qXt6.c0
          have qXt6c1 := qXt6.c1
          have qXt6c2 := qXt6.c2
          have qXt6l := qXt6.lt
          clear qXt6
          have qXu6 := Xu6.out
          have qXu6c0 := qXu6.c0
          have qXu6c1 := qXu6.c1
          have qXu6c2 := qXu6.c2
          have qXu6l := qXu6.lt
          clear qXu6
          have qXv6 := Xv6.out
          have qXv6c0 := qXv6.c0
          have qXv6c1 := qXv6.c1
          have qXv6c2 := qXv6.c2
          have qXv6l := qXv6.lt
          clear qXv6
          go_wp2
          go_ret
          exact ⟨rfl, Z6.out⟩
      · have P1 := Lib.hid p1
        have hc4 := tPrec_any v t w4 (Iv.out.on Z4.out) (It.out.on Z4.out) (HSP.out.below Z4.out)
        rw [tb_false p1] at hc4
        unfold LTy.val at hc4
        have HC4 := Lib.hid hc4
        clear hc4 p1
        go_wp2_with fail
        with_reducible refine (HC4.out).mono ?_
        rintro e w5 ⟨rfl, hb5⟩
        have Xt5 := Lib.hid (Xt4.out.below hb5)
        have Xu5 := Lib.hid (Xu4.out.below hb5)
        have Xv5 := Lib.hid (Xv4.out.below hb5)
        have Z5 := Lib.hid (Z4.out.trans (hb5.mono Z4.out.size))
        clear hb5
        have qXt5 := Xt5.out
        have qXt5c0 := qXt5.c0
        have qXt5c1 := qXt5.c1
        have qXt5c2 := qXt5.c2
        have qXt5l := qXt5.lt
        clear qXt5
        have qXu5 := Xu5.out
        have qXu5c0 := qXu5.c0
        have qXu5c1 := qXu5.c1
        have qXu5c2 := qXu5.c2
        have qXu5l := qXu5.lt
        clear qXu5
        have qXv5 := Xv5.out
        have qXv5c0 := qXv5.c0
        have qXv5c1 := qXv5.c1
        have qXv5c2 := qXv5.c2
        have qXv5l := qXv5.lt
        clear qXv5
        go_wp2
        go_ret
        exact ⟨rfl, Z5.out⟩
    · have P0 := Lib.hid hr
      have Xt3 := Lib.hid (Xt2.out.below hb3)
      have Xu3 := Lib.hid (Xu2.out.below hb3)
      have Xv3 := Lib.hid (Xv2.out.below hb3)
      have Z3 := Lib.hid (Z2.out.trans (hb3.mono Z2.out.size))
      have Rr3 := Lib.hid (hlr _ (Stays.refl _ _ _))
      clear hb3 hlr hr
      have qXt3 := Xt3.out
      have qXt3c0 := qXt3.c0
      have qXt3c1 := qXt3.c1
      have qXt3c2 := qXt3.c2
      have qXt3l := qXt3.lt
      clear qXt3
      have qXu3 := Xu3.out
      have qXu3c0 := qXu3.c0
      have qXu3c1 := qXu3.c1
      have qXu3c2 := qXu3.c2
      have qXu3l := qXu3.lt
      clear qXu3
      have qXv3 := Xv3.out
      have qXv3c0 := qXv3.c0
      have qXv3c1 := qXv3.c1
      have qXv3c2 := qXv3.c2
      have qXv3l := qXv3.lt
      clear qXv3
      unfold LTy.val
      go_upto_region 6 with fail
      obtain ⟨br, hbr⟩ : ∃ b, b = w3.heap.size := ⟨_, rfl⟩
      rw [← hbr]
      refine gen_wpT fun w4 hW => ?_
      have hb4 : Below w3.heap.size w3 w4 := by rw [← hW]; exact (one_box w3 r).2
      have Xt4 := Lib.hid (Xt3.out.below hb4)
      have Xu4 := Lib.hid (Xu3.out.below hb4)
      have Xv4 := Lib.hid (Xv3.out.below hb4)
      have Z4 := Lib.hid (Z3.out.trans (hb4.mono Z3.out.size))
      have Rr4 := Lib.hid (Rr3.out.on hb4)
      have Xr4 := Lib.hid (show TBox w4 br r by rw [← hW, hbr]; exact (one_box w3 r).1)
      clear hW hbr hb4
      have qXt4 := Xt4.out
      have qXt4c0 := qXt4.c0
      have qXt4c1 := qXt4.c1
      have qXt4c2 := qXt4.c2
      have qXt4l := qXt4.lt
      clear qXt4
      have qXu4 := Xu4.out
      have qXu4c0 := qXu4.c0
      have qXu4c1 := qXu4.c1
      have qXu4c2 := qXu4.c2
      have qXu4l := qXu4.lt
      clear qXu4
      have qXv4 := Xv4.out
      have qXv4c0 := qXv4.c0
      have qXv4c1 := qXv4.c1
      have qXv4c2 := qXv4.c2
      have qXv4l := qXv4.lt
      clear qXv4
      have qXr4 := Xr4.out
      have qXr4c0 := qXr4.c0
      have qXr4c1 := qXr4.c1
      have qXr4c2 := qXr4.c2
      have qXr4l := qXr4.lt
      clear qXr4
      by_cases p1 : Precise (strip r) (strip t)
      · have P1 := Lib.hid p1
        have hc4 := tPrec_any r t w4 Rr4.out (It.out.on Z4.out) (HSP.out.below Z4.out)
        rw [tb_true p1] at hc4
        unfold LTy.val at hc4
        have HC4 := Lib.hid hc4
        clear hc4 p1
        go_wp2_with fail
        with_reducible refine (HC4.out).mono ?_
        rintro e w5 ⟨rfl, hb5⟩
        have Xt5 := Lib.hid (Xt4.out.below hb5)
        have Xu5 := Lib.hid (Xu4.out.below hb5)
        have Xv5 := Lib.hid (Xv4.out.below hb5)
        have Xr5 := Lib.hid (Xr4.out.below hb5)
        have Z5 := Lib.hid (Z4.out.trans (hb5.mono Z4.out.size))
        have Rr5 := Lib.hid (Rr4.out.on hb5)
        clear hb5
        have qXt5 := Xt5.out
        have qXt5c0 := qXt5.c0
        have qXt5c1 := qXt5.c1
        have qXt5c2 := qXt5.c2
        have qXt5l := qXt5.lt
        clear qXt5
        have qXu5 := Xu5.out
        have qXu5c0 := qXu5.c0
        have qXu5c1 := qXu5.c1
        have qXu5c2 := qXu5.c2
        have qXu5l := qXu5.lt
        clear qXu5
        have qXv5 := Xv5.out
        have qXv5c0 := qXv5.c0
        have qXv5c1 := qXv5.c1
        have qXv5c2 := qXv5.c2
        have qXv5l := qXv5.lt
        clear qXv5
        have qXr5 := Xr5.out
        have qXr5c0 := qXr5.c0
        have qXr5c1 := qXr5.c1
        have qXr5c2 := qXr5.c2
        have qXr5l := qXr5.lt
        clear qXr5
        by_cases p2 : Precise (strip r) (strip u)
        · have P2 := Lib.hid p2
          have hc5 := tPrec_any r u w5 Rr5.out (Iu.out.on Z5.out) (HSP.out.below Z5.out)
          rw [tb_true p2] at hc5
          unfold LTy.val at hc5
          have HC5 := Lib.hid hc5
          clear hc5 p2
          go_wp2_with fail
          with_reducible refine (HC5.out).mono ?_
          rintro e w6 ⟨rfl, hb6⟩
          have Xt6 := Lib.hid (Xt5.out.below hb6)
          have Xu6 := Lib.hid (Xu5.out.below hb6)
          have Xv6 := Lib.hid (Xv5.out.below hb6)
          have Xr6 := Lib.hid (Xr5.out.below hb6)
          have Z6 := Lib.hid (Z5.out.trans (hb6.mono Z5.out.size))
          have Rr6 := Lib.hid (Rr5.out.on hb6)
          clear hb6
          have qXt6 := Xt6.out
          have qXt6c0 := qXt6.c0
          have qXt6c1 := qXt6.c1
          have qXt6c2 := qXt6.c2
          have qXt6l := qXt6.lt
          clear qXt6
          have qXu6 := Xu6.out
          have qXu6c0 := qXu6.c0
          have qXu6c1 := qXu6.c1
          have qXu6c2 := qXu6.c2
          have qXu6l := qXu6.lt
          clear qXu6
          have qXv6 := Xv6.out
          have qXv6c0 := qXv6.c0
          have qXv6c1 := qXv6.c1
          have qXv6c2 := qXv6.c2
          have qXv6l := qXv6.lt
          clear qXv6
          have qXr6 := Xr6.out
          have qXr6c0 := qXr6.c0
          have qXr6c1 := qXr6.c1
          have qXr6c2 := qXr6.c2
          have qXr6l := qXr6.lt
          clear qXr6
          by_cases p3 : Precise (strip v) (strip t)
          · have P3 := Lib.hid p3
            have hc6 := tPrec_any v t w6 (Iv.out.on Z6.out) (It.out.on Z6.out) (HSP.out.below Z6.out)
            rw [tb_true p3] at hc6
            unfold LTy.val at hc6
            have HC6 := Lib.hid hc6
            clear hc6 p3
            go_wp2_with fail
            with_reducible refine (HC6.out).mono ?_
            rintro e w7 ⟨rfl, hb7⟩
            have Xt7 := Lib.hid (Xt6.out.below hb7)
            have Xu7 := Lib.hid (Xu6.out.below hb7)
            have Xv7 := Lib.hid (Xv6.out.below hb7)
            have Xr7 := Lib.hid (Xr6.out.below hb7)
            have Z7 := Lib.hid (Z6.out.trans (hb7.mono Z6.out.size))
            have Rr7 := Lib.hid (Rr6.out.on hb7)
            clear hb7
            have qXt7 := Xt7.out
            have qXt7c0 := qXt7.c0
            have qXt7c1 := qXt7.c1
            have qXt7c2 := qXt7.c2
            have qXt7l := qXt7.lt
            clear qXt7
            have qXu7 := Xu7.out
            have qXu7c0 := qXu7.c0
            have qXu7c1 := qXu7.c1
            have qXu7c2 := qXu7.c2
            have qXu7l := qXu7.lt
            clear qXu7
            have qXv7 := Xv7.out
            have qXv7c0 := qXv7.c0
            have qXv7c1 := qXv7.c1
            have qXv7c2 := qXv7.c2
            have qXv7l := qXv7.lt
            clear qXv7
            have qXr7 := Xr7.out
            have qXr7c0 := qXr7.c0
            have qXr7c1 := qXr7.c1
            have qXr7c2 := qXr7.c2
            have qXr7l := qXr7.lt
            clear qXr7
            by_cases p4 : Precise (strip v) (strip u)
            · have P4 := Lib.hid p4
              have hc7 := tPrec_any v u w7 (Iv.out.on Z7.out) (Iu.out.on Z7.out) (HSP.out.below Z7.out)
              rw [tb_true p4] at hc7
              unfold LTy.val at hc7
              have HC7 := Lib.hid hc7
              clear hc7 p4
              go_wp2_with fail
              with_reducible refine (HC7.out).mono ?_
              rintro e w8 ⟨rfl, hb8⟩
              have Xt8 := Lib.hid (Xt7.out.below hb8)
              have Xu8 := Lib.hid (Xu7.out.below hb8)
              have Xv8 := Lib.hid (Xv7.out.below hb8)
              have Xr8 := Lib.hid (Xr7.out.below hb8)
              have Z8 := Lib.hid (Z7.out.trans (hb8.mono Z7.out.size))
              have Rr8 := Lib.hid (Rr7.out.on hb8)
              clear hb8
              have qXt8 := Xt8.out
              have qXt8c0 := qXt8.c0
              have qXt8c1 := qXt8.c1
              have qXt8c2 := qXt8.c2
              have qXt8l := qXt8.lt
              clear qXt8
              have qXu8 := Xu8.out
              have qXu8c0 := qXu8.c0
              have qXu8c1 := qXu8.c1
              have qXu8c2 := qXu8.c2
              have qXu8l := qXu8.lt
              clear qXu8
              have qXv8 := Xv8.out
              have qXv8c0 := qXv8.c0
              have qXv8c1 := qXv8.c1
              have qXv8c2 := qXv8.c2
              have qXv8l := qXv8.lt
              clear qXv8
              have qXr8 := Xr8.out
              have qXr8c0 := qXr8.c0
              have qXr8c1 := qXr8.c1
              have qXr8c2 := qXr8.c2
              have qXr8l := qXr8.lt
              clear qXr8
              by_cases p5 : Precise (strip v) (strip r)
              · have P5 := Lib.hid p5
                have hc8 := tPrec_any v r w8 (Iv.out.on Z8.out) Rr8.out (HSP.out.below Z8.out)
                rw [tb_true p5] at hc8
                unfold LTy.val at hc8
                have HC8 := Lib.hid hc8
                clear hc8 p5
                go_wp2_with fail
                with_reducible refine (HC8.out).mono ?_
                rintro e w9 ⟨rfl, hb9⟩
                have Xt9 := Lib.hid (Xt8.out.below hb9)
                have Xu9 := Lib.hid (Xu8.out.below hb9)
                have Xv9 := Lib.hid (Xv8.out.below hb9)
                have Xr9 := Lib.hid (Xr8.out.below hb9)
                have Z9 := Lib.hid (Z8.out.trans (hb9.mono Z8.out.size))
                have Rr9 := Lib.hid (Rr8.out.on hb9)
                clear hb9
                have qXt9 := Xt9.out
                have qXt9c0 := qXt9.c0
                have qXt9c1 := qXt9.c1
                have qXt9c2 := qXt9.c2
                have qXt9l := qXt9.lt
                clear qXt9
                have qXu9 := Xu9.out
                have qXu9c0 := qXu9.c0
                have qXu9c1 := qXu9.c1
                have qXu9c2 := qXu9.c2
                have qXu9l := qXu9.lt
                clear qXu9
                have qXv9 := Xv9.out
                have qXv9c0 := qXv9.c0
                have qXv9c1 := qXv9.c1
                have qXv9c2 := qXv9.c2
                have qXv9l := qXv9.lt
                clear qXv9
                have qXr9 := Xr9.out
                have qXr9c0 := qXr9.c0
                have qXr9c1 := qXr9.c1
                have qXr9c2 := qXr9.c2
                have qXr9l := qXr9.lt
                clear qXr9
                go_wp2
                go_ret
                exact ⟨rfl, Z9.out⟩
              · have P5 := Lib.hid p5
                exact (((show False from Exists.elim (meetT_most P3.out P4.out (Nat.le_trans (Nat.add_le_add (few_nodes (by first | exact trivial | rfl) HFEW.out It.out P3.out.2.1 (by simp)) (few_nodes (by first | exact trivial | rfl) HFEW.out Iu.out P4.out.2.1 (by simp))) (by omega))) fun z h => P5.out (by have h2 := h.2; rw [Option.some.inj (h.1.symm.trans P0.out)] at h2; exact h2))).elim)
            · have P4 := Lib.hid p4
              have hc7 := tPrec_any v u w7 (Iv.out.on Z7.out) (Iu.out.on Z7.out) (HSP.out.below Z7.out)
              rw [tb_false p4] at hc7
              unfold LTy.val at hc7
              have HC7 := Lib.hid hc7
              clear hc7 p4
              go_wp2_with fail
              with_reducible refine (HC7.out).mono ?_
              rintro e w8 ⟨rfl, hb8⟩
              have Xt8 := Lib.hid (Xt7.out.below hb8)
              have Xu8 := Lib.hid (Xu7.out.below hb8)
              have Xv8 := Lib.hid (Xv7.out.below hb8)
              have Xr8 := Lib.hid (Xr7.out.below hb8)
              have Z8 := Lib.hid (Z7.out.trans (hb8.mono Z7.out.size))
              have Rr8 := Lib.hid (Rr7.out.on hb8)
              clear hb8
              have qXt8 := Xt8.out
              have qXt8c0 := qXt8.c0
              have qXt8c1 := qXt8.c1
              have qXt8c2 := qXt8.c2
              have qXt8l := qXt8.lt
              clear qXt8
              have qXu8 := Xu8.out
              have qXu8c0 := qXu8.c0
              have qXu8c1 := qXu8.c1
              have qXu8c2 := qXu8.c2
              have qXu8l := qXu8.lt
              clear qXu8
              have qXv8 := Xv8.out
              have qXv8c0 := qXv8.c0
              have qXv8c1 := qXv8.c1
              have qXv8c2 := qXv8.c2
              have qXv8l := qXv8.lt
              clear qXv8
              have qXr8 := Xr8.out
              have qXr8c0 := qXr8.c0
              have qXr8c1 := qXr8.c1
              have qXr8c2 := qXr8.c2
              have qXr8l := qXr8.lt
              clear qXr8
              go_wp2
              go_ret
              exact ⟨rfl, Z8.out⟩
          · have P3 := Lib.hid p3
            have hc6 := tPrec_any v t w6 (Iv.out.on Z6.out) (It.out.on Z6.out) (HSP.out.below Z6.out)
            rw [tb_false p3] at hc6
            unfold LTy.val at hc6
            have HC6 := Lib.hid hc6
            clear hc6 p3
            go_wp2_with fail
            with_reducible refine (HC6.out).mono ?_
            rintro e w7 ⟨rfl, hb7⟩
            have Xt7 := Lib.hid (Xt6.out.below hb7)
            have Xu7 := Lib.hid (Xu6.out.below hb7)
            have Xv7 := Lib.hid (Xv6.out.below hb7)
            have Xr7 := Lib.hid (Xr6.out.below hb7)
            have Z7 := Lib.hid (Z6.out.trans (hb7.mono Z6.out.size))
            have Rr7 := Lib.hid (Rr6.out.on hb7)
            clear hb7
            have qXt7 := Xt7.out
            have qXt7c0 := qXt7.c0
            have qXt7c1 := qXt7.c1
            have qXt7c2 := qXt7.c2
            have qXt7l := qXt7.lt
            clear qXt7
            have qXu7 := Xu7.out
            have qXu7c0 := qXu7.c0
            have qXu7c1 := qXu7.c1
            have qXu7c2 := qXu7.c2
            have qXu7l := qXu7.lt
            clear qXu7
            have qXv7 := Xv7.out
            have qXv7c0 := qXv7.c0
            have qXv7c1 := qXv7.c1
            have qXv7c2 := qXv7.c2
            have qXv7l := qXv7.lt
            clear qXv7
            have qXr7 := Xr7.out
            have qXr7c0 := qXr7.c0
            have qXr7c1 := qXr7.c1
            have qXr7c2 := qXr7.c2
            have qXr7l := qXr7.lt
            clear qXr7
            go_wp2
            go_ret
            exact ⟨rfl, Z7.out⟩
        · have P2 := Lib.hid p2
          exact ((P2.out (meetT_some P0.out (Nat.le_trans (Nat.add_le_add (few_nodes (by first | exact trivial | rfl) HFEW.out It.out (meetT_may P0.out).1 (by simp)) (few_nodes (by first | exact trivial | rfl) HFEW.out Iu.out (meetT_may P0.out).2 (by simp))) (by omega))).2.2.2.2).elim)
      · have P1 := Lib.hid p1
        exact ((P1.out (meetT_some P0.out (Nat.le_trans (Nat.add_le_add (few_nodes (by first | exact trivial | rfl) HFEW.out It.out (meetT_may P0.out).1 (by simp)) (few_nodes (by first | exact trivial | rfl) HFEW.out Iu.out (meetT_may P0.out).2 (by simp))) (by omega))).2.2.2.1).elim)
end Go.Proofs.YtllpicibncdppaaDoor
