/-
  The reference's ravelinref10.sub: whether a type may be used as another one, as it is asked.
-/
import Derived.Test.YtllpicibncdppaaDoorReGoes
set_option linter.unusedVariables false
set_option linter.unusedSimpArgs false
namespace Go.Proofs.YtllpicibncdppaaDoor
open Go.ChangeShapes Go.WideShapes Go.ChangeAt Go.RowKit

def SubAll (f : Nat) (h : Bool) (n : Nat) : Prop := ∀ (t u : LTy) (w : World), LIn w w.heap.size t → LIn w w.heap.size u → May (strip t) → May (strip u) → Chk n (strip t) → Chk n (strip u) →
  Calls Tryd.prog f #[t.val, u.val] w (RetB (.bool (tb (Goes h n (strip t) (strip u)))) w)
set_option maxRecDepth 100000 in
set_option maxHeartbeats 1000000 in
theorem r10flat_any (t : LTy) (w : World) : Calls Tryd.prog 68 #[t.val] w (RetB (.bool (tb (Flat t.kind))) w) := by
  unfold LTy.val
  have HB := Lib.hid (one_box w t).2
  have HF := Lib.hid (fun w => rflat_any t.kind w)
  go_enter Tryd.func68, Tryd.ntmps68
  go_wp2_with fail
  refine (HF.out _).mono ?_
  rintro e w' ⟨rfl, rfl⟩
  go_wp2
  go_ret
  exact ⟨rfl, HB.out⟩
theorem and16 {a : Nat} (ha : a < 128) : (bits .and .i64 (a : Int) 16 != 0) = tb (a &&& 16 = 16) := by
  have h1 := and_i64 (b := 16) ha (by omega)
  rw [show ((16 : Nat) : Int) = 16 from rfl] at h1
  rw [h1]
  have h2 : a &&& 16 = 0 ∨ a &&& 16 = 16 := by
    have : ∀ a : Fin 128, a.1 &&& 16 = 0 ∨ a.1 &&& 16 = 16 := by decide +kernel
    exact this ⟨a, ha⟩
  rcases h2 with h | h
  · rw [h, tb_false (by omega)]; rfl
  · rw [h, tb_true rfl]; rfl
theorem goes_weak : ∀ {n : Nat} {a b : Ty}, Goes false n a b → Goes true n a b
  | 0, _, _, h => h
  | n + 1, a, b, h => by
    by_cases b0 : b.kind = 0
    · exact goes_any b0
    by_cases a0 : a.kind = 0
    · exact (goes_from b0 a0).2 rfl
    by_cases f : Flat a.kind ∧ Flat b.kind
    · exact (goes_flat b0 a0 f.1 f.2).2 ((goes_flat b0 a0 f.1 f.2).1 h)
    by_cases a5 : a.kind = 5
    · have fb : ¬ Flat b.kind := fun e => f ⟨⟨by omega, by omega⟩, e⟩
      exact absurd ((goes_table fb a5).1 h).1 (by simp)
    by_cases a8 : a.kind = 8
    · by_cases fb : Flat b.kind
      · exact (goes_shape_flat b0 a8 fb).2 ((goes_shape_flat b0 a8 fb).1 h)
      · obtain ⟨h1, h2⟩ := (goes_shape a8 fb).1 h
        refine (goes_shape a8 fb).2 ⟨h1, fun i s y hs hy => ?_⟩
        obtain ⟨j, x, h3, h4, h5⟩ := h2 i s y hs hy
        exact ⟨j, x, h3, h4, h5.imp id fun e => absurd e.1 (by simp)⟩
    · obtain ⟨h1, h2, h3, h4, h5⟩ := (goes_else b0 a0 f a5 a8).1 h
      exact (goes_else b0 a0 f a5 a8).2 ⟨h1, h2, h3, fun i x y hi hx hy => goes_weak (h4 i x y hi hx hy), fun x y hx hy => goes_weak (h5 x y hx hy)⟩

set_option maxRecDepth 100000 in
set_option maxHeartbeats 8000000 in
theorem rsub_succ (n : Nat) (ih : SubAll 53 false n) : SubAll 53 false (n + 1) := by
  intro t u w ht hu mt mu ct cu
  have HMT := Lib.hid mt
  have HMU := Lib.hid mu
  have HCT := Lib.hid ct
  have HCU := Lib.hid cu
  have HIH := Lib.hid ih
  skip
  clear ih mt mu ct cu
  obtain ⟨ans, hans⟩ : ∃ ans, ans = tb (Goes false (n + 1) (strip t) (strip u)) := ⟨_, rfl⟩
  rw [← hans]
  have HA := Lib.hid hans
  clear hans
  have HKT := Lib.hid (strip_kind t)
  have HKU := Lib.hid (strip_kind u)
  unfold LTy.val
  obtain ⟨g, hg⟩ : ∃ g, g = w.heap.size := ⟨_, rfl⟩
  have HT := Lib.hid ht
  have HU := Lib.hid hu
  clear ht hu
  go_enter Tryd.func53, Tryd.ntmps53
  go_upto_region 1 with fail
  rw [← hg]
  refine gen_wpT fun W hW => ?_
  obtain ⟨kt, ku, kb⟩ : TBox W g t ∧ TBox W (g + 1) u ∧ Below w.heap.size w W := by rw [← hW, hg]; exact two_boxes w t u
  have KB := Lib.hid kb
  have ktc0 := kt.c0
  have ktc1 := kt.c1
  have ktc2 := kt.c2
  have ktlt := kt.lt
  have kuc0 := ku.c0
  have kuc1 := ku.c1
  have kuc2 := ku.c2
  have kult := ku.lt
  clear hW hg
  have KT := Lib.hid kt
  have KU := Lib.hid ku
  clear kt ku kb
  have hl2 := HT.out.n2.2
  have hl3 := HU.out.n2.2
  have hl4 := HU.out.n1.2
  have HTB := Lib.hid (show ∀ w, Calls Tryd.prog 37 #[.agg #[.int .i64 5, .slice none 0 0, .slice none 0 0]] w (RetB (.int .i64 16) w) from fun w => by
    have h5 : May (strip (.mk 5 none 0 [] none 0 [] : LTy)) := by
      rw [strip_mk]
      exact ⟨leaf_chk (k := 5) (by omega) (by omega), by rw [nodes_args]; show 0 + 1 ≤ 10000; omega⟩
    have := rkinds_any (.mk 5 none 0 [] none 0 [] : LTy) w (.mk (.inl rfl) (.inl rfl) (Nat.le_refl _) (Nat.zero_le _) (Nat.le_refl _) (Nat.zero_le _) (fun s hs => by simp [LTy.ns] at hs) (fun _ => rfl) (fun x hx => by simp [LTy.xs] at hx))
    rw [kindsV_yes h5, kindsT_leaf (t := (.mk 5 none 0 [] none 0 [] : LTy)) (show (5 : Int) ≤ 6 by omega), show bitsOf (LTy.mk 5 none 0 [] none 0 []).kind = 16 from rfl] at this
    exact this)
  go_wp2_with fail
  with_reducible refine ((HTB.out W)).mono ?_
  rintro e w1 ⟨rfl, hb1⟩
  have T1 := Lib.hid (KT.out.below hb1)
  have U1 := Lib.hid (KU.out.below hb1)
  have B1 := Lib.hid (KB.out.trans (hb1.mono KB.out.size))
  have t1 := T1.out
  have u1 := U1.out
  have t1c0 := t1.c0
  have t1c1 := t1.c1
  have t1c2 := t1.c2
  have t1lt := t1.lt
  have u1c0 := u1.c0
  have u1c1 := u1.c1
  have u1c2 := u1.c2
  have u1lt := u1.lt
  clear hb1 t1 u1
  by_cases hu0 : u.kind = 0
  · have e : ans = true := by rw [HA.out]; exact tb_true (goes_any (by rw [HKU.out]; exact hu0))
    subst e
    have eu : (u.kind == 0) = true := beq_iff_eq.2 hu0
    clear hu0 HA
    go_wp2
    go_ret
    exact ⟨rfl, B1.out⟩
  have eu : (u.kind == 0) = false := beq_eq_false_iff_ne.2 hu0
  have HK1 := Lib.hid (show ∀ w', Below w.heap.size w w' → Calls Tryd.prog 37 #[.agg #[.int .i64 t.kind, .slice t.A t.ns.length t.c, .slice t.A2 t.xs.length t.c2]] w' (RetB (.int .i64 (kindsT (strip t) : Nat)) w') from fun w' hb => by
    have := rkinds_any t w' (HT.out.on hb)
    rw [kindsV_yes HMT.out] at this
    unfold LTy.val at this
    exact this)
  have HK2 := Lib.hid (show ∀ w', Below w.heap.size w w' → Calls Tryd.prog 37 #[.agg #[.int .i64 u.kind, .slice u.A u.ns.length u.c, .slice u.A2 u.xs.length u.c2]] w' (RetB (.int .i64 (kindsT (strip u) : Nat)) w') from fun w' hb => by
    have := rkinds_any u w' (HU.out.on hb)
    rw [kindsV_yes HMU.out] at this
    unfold LTy.val at this
    exact this)
  have h1 := fun w => r10flat_any t w
  have h2 := fun w => r10flat_any u w
  unfold LTy.val at h1 h2
  by_cases ft : Flat t.kind
  · rw [tb_true ft] at h1
    have HF1 := Lib.hid h1
    have e8 : (t.kind == 8) = false := beq_eq_false_iff_ne.2 (by have := ft.2; omega)
    have e9 : (t.kind == 9) = false := beq_eq_false_iff_ne.2 (by have := ft.2; omega)
    by_cases fu : Flat u.kind
    · rw [tb_true fu] at h2
      have HF2 := Lib.hid h2
      by_cases ht0 : t.kind = 0
      · have e : ans = false := by rw [HA.out]; exact tb_false fun e => by have := (goes_from (by rw [HKU.out]; exact hu0) (by rw [HKT.out]; exact ht0)).1 e; cases this
        subst e
        have et : (t.kind == 0) = true := beq_iff_eq.2 ht0
        have et' : (t.kind != 0) = false := by rw [bne, et]; rfl
        clear h1 h2 hu0 ht0 ft fu HA
        go_wp2_with fail
        with_reducible refine ((HF1.out w1)).mono ?_
        rintro e w2 ⟨rfl, hb2⟩
        have T2 := Lib.hid (T1.out.below hb2)
        have U2 := Lib.hid (U1.out.below hb2)
        have B2 := Lib.hid (B1.out.trans (hb2.mono B1.out.size))
        have t2 := T2.out
        have u2 := U2.out
        have t2c0 := t2.c0
        have t2c1 := t2.c1
        have t2c2 := t2.c2
        have t2lt := t2.lt
        have u2c0 := u2.c0
        have u2c1 := u2.c1
        have u2c2 := u2.c2
        have u2lt := u2.lt
        clear hb2 t2 u2
        go_wp2_with fail
        with_reducible refine ((HF2.out w2)).mono ?_
        rintro e w3 ⟨rfl, hb3⟩
        have T3 := Lib.hid (T2.out.below hb3)
        have U3 := Lib.hid (U2.out.below hb3)
        have B3 := Lib.hid (B2.out.trans (hb3.mono B2.out.size))
        have t3 := T3.out
        have u3 := U3.out
        have t3c0 := t3.c0
        have t3c1 := t3.c1
        have t3c2 := t3.c2
        have t3lt := t3.lt
        have u3c0 := u3.c0
        have u3c1 := u3.c1
        have u3c2 := u3.c2
        have u3lt := u3.lt
        clear hb3 t3 u3
        go_wp2_with fail
        refine wp_region_held_drew (S := fun w' => TBox w' g t ∧ TBox w' (g + 1) u) (by kernel_rfl) (⟨T3.out, U3.out⟩) (fun hHeld => ?_)
        refine wpAnyH_take (i := 0) (oi := _) (v := .pointer (some ⟨g, 0, none⟩)) rfl (by kernel_rfl) (by kernel_rfl) (by kernel_rfl) (fun _ _ _ h => h) (Or.inl ⟨by rfl, fun w' hS => (by go_simp)⟩) hHeld ?_
        change wpAnyH _ _ _ _ _ _ _ (Act.put _ (some 25) _) _
        try simp only [Act.put, List.setIfInBounds_toArray, List.set_cons_zero, List.set_cons_succ]
        refine wpAnyH_take (i := 1) (oi := _) (v := .int .i64 t.kind) rfl (by kernel_rfl) (by kernel_rfl) (by kernel_rfl) (fun _ _ _ h => h) (Or.inl ⟨by rfl, fun w' hS => (by have q0 := TBox.c0 hS.1; go_simp)⟩) hHeld ?_
        change wpAnyH _ _ _ _ _ _ _ (Act.put _ (some 26) _) _
        try simp only [Act.put, List.setIfInBounds_toArray, List.set_cons_zero, List.set_cons_succ]
        refine wpAnyH_take (i := 2) (oi := _) (v := .bool false) rfl (by kernel_rfl) (by kernel_rfl) (by kernel_rfl) (fun _ _ _ h => h) (Or.inl ⟨by rfl, fun w' hS => (by go_simp)⟩) hHeld ?_
        change wpAnyH _ _ _ _ _ _ _ (Act.put _ (some 27) _) _
        try simp only [Act.put, List.setIfInBounds_toArray, List.set_cons_zero, List.set_cons_succ]
        refine wpAnyH_take (i := 3) (oi := _) (v := .bool false) rfl (by kernel_rfl) (by kernel_rfl) (by kernel_rfl) (fun _ _ _ h => h) (Or.inl ⟨by rfl, fun w' hS => (by go_simp)⟩) hHeld ?_
        change wpAnyH _ _ _ _ _ _ _ (Act.put _ (some 28) _) _
        try simp only [Act.put, List.setIfInBounds_toArray, List.set_cons_zero, List.set_cons_succ]
        refine wpAnyH_take (i := 4) (oi := _) (v := undef) rfl (by kernel_rfl) (by kernel_rfl) (by kernel_rfl) (fun _ _ _ h => h) (Or.inr ⟨by kernel_rfl, rfl⟩) hHeld ?_
        change wpAnyH _ _ _ _ _ _ _ (Act.put _ (some 29) _) _
        try simp only [Act.put, List.setIfInBounds_toArray, List.set_cons_zero, List.set_cons_succ]
        refine wpAnyH_take (i := 5) (oi := _) (v := undef) rfl (by kernel_rfl) (by kernel_rfl) (by kernel_rfl) (fun _ _ _ h => h) (Or.inr ⟨by kernel_rfl, rfl⟩) hHeld ?_
        change wpAnyH _ _ _ _ _ _ _ (Act.put _ (some 30) _) _
        try simp only [Act.put, List.setIfInBounds_toArray, List.set_cons_zero, List.set_cons_succ]
        refine wpAnyH_take (i := 6) (oi := _) (v := undef) rfl (by kernel_rfl) (by kernel_rfl) (by kernel_rfl) (fun _ _ _ h => h) (Or.inr ⟨by kernel_rfl, rfl⟩) hHeld ?_
        change wpAnyH _ _ _ _ _ _ _ (Act.put _ (some 31) _) _
        try simp only [Act.put, List.setIfInBounds_toArray, List.set_cons_zero, List.set_cons_succ]
        refine wpAnyH_take (i := 7) (oi := _) (v := undef) rfl (by kernel_rfl) (by kernel_rfl) (by kernel_rfl) (fun _ _ _ h => h) (Or.inr ⟨by kernel_rfl, rfl⟩) hHeld ?_
        change wpAnyH _ _ _ _ _ _ _ (Act.put _ (some 32) _) _
        try simp only [Act.put, List.setIfInBounds_toArray, List.set_cons_zero, List.set_cons_succ]
        refine wpAnyH_take (i := 8) (oi := _) (v := undef) rfl (by kernel_rfl) (by kernel_rfl) (by kernel_rfl) (fun _ _ _ h => h) (Or.inr ⟨by kernel_rfl, rfl⟩) hHeld ?_
        change wpAnyH _ _ _ _ _ _ _ (Act.put _ (some 33) _) _
        try simp only [Act.put, List.setIfInBounds_toArray, List.set_cons_zero, List.set_cons_succ]
        refine wpAnyH_take (i := 9) (oi := _) (v := undef) rfl (by kernel_rfl) (by kernel_rfl) (by kernel_rfl) (fun _ _ _ h => h) (Or.inr ⟨by kernel_rfl, rfl⟩) hHeld ?_
        change wpAnyH _ _ _ _ _ _ _ (Act.put _ (some 34) _) _
        try simp only [Act.put, List.setIfInBounds_toArray, List.set_cons_zero, List.set_cons_succ]
        refine wpAnyH_take (i := 10) (oi := _) (v := .bool false) rfl (by kernel_rfl) (by kernel_rfl) (by kernel_rfl) (fun _ _ _ h => h) (Or.inl ⟨by rfl, fun w' hS => (by go_simp)⟩) hHeld ?_
        change wpAnyH _ _ _ _ _ _ _ (Act.put _ (some 35) _) _
        try simp only [Act.put, List.setIfInBounds_toArray, List.set_cons_zero, List.set_cons_succ]
        refine wpAnyH_take (i := 11) (oi := _) (v := .bool false) rfl (by kernel_rfl) (by kernel_rfl) (by kernel_rfl) (fun _ _ _ h => h) (Or.inl ⟨by rfl, fun w' hS => (by go_simp)⟩) hHeld ?_
        change wpAnyH _ _ _ _ _ _ _ (Act.put _ (some 4) _) _
        try simp only [Act.put, List.setIfInBounds_toArray, List.set_cons_zero, List.set_cons_succ]
        refine wpAnyH_done (by kernel_rfl) ?_ _
        go_wp2
        go_ret
        exact ⟨rfl, B3.out.drew⟩
      have et : (t.kind == 0) = false := beq_eq_false_iff_ne.2 ht0
      have et' : (t.kind != 0) = true := by rw [bne, et]; rfl
      have HG := Lib.hid (show ans = tb (kindsT (strip t) ||| kindsT (strip u) = kindsT (strip u)) by rw [HA.out]; exact tb_congr (goes_flat (by rw [HKU.out]; exact hu0) (by rw [HKT.out]; exact ht0) (by rw [HKT.out]; exact ft) (by rw [HKU.out]; exact fu)))
      have HAN := Lib.hid (andnot_i64 (kinds128 (strip t)) (kinds128 (strip u)))
      clear h1 h2 hu0 ht0 ft fu HA
      go_wp2_with fail
      with_reducible refine ((HF1.out w1)).mono ?_
      rintro e w2 ⟨rfl, hb2⟩
      have T2 := Lib.hid (T1.out.below hb2)
      have U2 := Lib.hid (U1.out.below hb2)
      have B2 := Lib.hid (B1.out.trans (hb2.mono B1.out.size))
      have t2 := T2.out
      have u2 := U2.out
      have t2c0 := t2.c0
      have t2c1 := t2.c1
      have t2c2 := t2.c2
      have t2lt := t2.lt
      have u2c0 := u2.c0
      have u2c1 := u2.c1
      have u2c2 := u2.c2
      have u2lt := u2.lt
      clear hb2 t2 u2
      go_wp2_with fail
      with_reducible refine ((HF2.out w2)).mono ?_
      rintro e w3 ⟨rfl, hb3⟩
      have T3 := Lib.hid (T2.out.below hb3)
      have U3 := Lib.hid (U2.out.below hb3)
      have B3 := Lib.hid (B2.out.trans (hb3.mono B2.out.size))
      have t3 := T3.out
      have u3 := U3.out
      have t3c0 := t3.c0
      have t3c1 := t3.c1
      have t3c2 := t3.c2
      have t3lt := t3.lt
      have u3c0 := u3.c0
      have u3c1 := u3.c1
      have u3c2 := u3.c2
      have u3lt := u3.lt
      clear hb3 t3 u3
      go_wp2_with fail
      refine wp_region_held_drew (S := fun w' => TBox w' g t ∧ TBox w' (g + 1) u) (by kernel_rfl) (⟨T3.out, U3.out⟩) (fun hHeld => ?_)
      refine wpAnyH_take (i := 0) (oi := _) (v := .pointer (some ⟨g, 0, none⟩)) rfl (by kernel_rfl) (by kernel_rfl) (by kernel_rfl) (fun _ _ _ h => h) (Or.inl ⟨by rfl, fun w' hS => (by go_simp)⟩) hHeld ?_
      change wpAnyH _ _ _ _ _ _ _ (Act.put _ (some 25) _) _
      try simp only [Act.put, List.setIfInBounds_toArray, List.set_cons_zero, List.set_cons_succ]
      refine wpAnyH_take (i := 1) (oi := _) (v := .int .i64 t.kind) rfl (by kernel_rfl) (by kernel_rfl) (by kernel_rfl) (fun _ _ _ h => h) (Or.inl ⟨by rfl, fun w' hS => (by have q0 := TBox.c0 hS.1; go_simp)⟩) hHeld ?_
      change wpAnyH _ _ _ _ _ _ _ (Act.put _ (some 26) _) _
      try simp only [Act.put, List.setIfInBounds_toArray, List.set_cons_zero, List.set_cons_succ]
      refine wpAnyH_take (i := 2) (oi := _) (v := .bool true) rfl (by kernel_rfl) (by kernel_rfl) (by kernel_rfl) (fun _ _ _ h => h) (Or.inl ⟨by rfl, fun w' hS => (by go_simp)⟩) hHeld ?_
      change wpAnyH _ _ _ _ _ _ _ (Act.put _ (some 27) _) _
      try simp only [Act.put, List.setIfInBounds_toArray, List.set_cons_zero, List.set_cons_succ]
      refine wpAnyH_take (i := 3) (oi := _) (v := .bool true) rfl (by kernel_rfl) (by kernel_rfl) (by kernel_rfl) (fun _ _ _ h => h) (Or.inl ⟨by rfl, fun w' hS => (by go_simp)⟩) hHeld ?_
      change wpAnyH _ _ _ _ _ _ _ (Act.put _ (some 28) _) _
      try simp only [Act.put, List.setIfInBounds_toArray, List.set_cons_zero, List.set_cons_succ]
      refine wpAnyH_take (i := 4) (oi := _) (v := .agg #[.int .i64 t.kind, .slice t.A t.ns.length t.c, .slice t.A2 t.xs.length t.c2]) rfl (by kernel_rfl) (by kernel_rfl) (by kernel_rfl) (fun _ _ _ h => h) (Or.inl ⟨by rfl, fun w' hS => (by have q0 := TBox.c0 hS.1; have q1 := TBox.c1 hS.1; have q2 := TBox.c2 hS.1; go_simp)⟩) hHeld ?_
      change wpAnyH _ _ _ _ _ _ _ (Act.put _ (some 29) _) _
      try simp only [Act.put, List.setIfInBounds_toArray, List.set_cons_zero, List.set_cons_succ]
      refine wpAnyH_take (i := 6) (oi := _) (v := .agg #[.int .i64 u.kind, .slice u.A u.ns.length u.c, .slice u.A2 u.xs.length u.c2]) rfl (by kernel_rfl) (by kernel_rfl) (by kernel_rfl) (fun _ _ _ h => h) (Or.inl ⟨by rfl, fun w' hS => (by have q0 := TBox.c0 hS.2; have q1 := TBox.c1 hS.2; have q2 := TBox.c2 hS.2; go_simp)⟩) hHeld ?_
      change wpAnyH _ _ _ _ _ _ _ (Act.put _ (some 31) _) _
      try simp only [Act.put, List.setIfInBounds_toArray, List.set_cons_zero, List.set_cons_succ]
      refine wpAnyH_ready (rs := [5]) (by kernel_rfl) (by simp) ?_
      refine AllReadyH.cons (o := _) rfl (fun K hK => ?_) AllReadyH.nil
      go_simp
      with_reducible refine (HK1.out _ (B3.out.drew)).mono ?_
      rintro e w5 ⟨rfl, hb5⟩
      have HB5 := Lib.hid (show Below w3.heap.size w3 w5 from (Below.refl _ _).drew.trans hb5)
      clear hb5
      refine hK.out _ _ (⟨T3.out.below HB5.out, U3.out.below HB5.out⟩) (fun hHeld => ?_)
      clear hK K
      try simp only [Act.put, List.setIfInBounds_toArray, List.set_cons_zero, List.set_cons_succ]
      refine wpAnyH_ready (rs := [7]) (by kernel_rfl) (by simp) ?_
      refine AllReadyH.cons (o := _) rfl (fun K hK => ?_) AllReadyH.nil
      go_simp
      with_reducible refine (HK2.out w5 (B3.out.trans (HB5.out.mono B3.out.size))).mono ?_
      rintro e w6 ⟨rfl, hb6⟩
      have HB6 := Lib.hid hb6
      clear hb6
      refine hK.out _ _ (⟨(T3.out.below HB5.out).below HB6.out, (U3.out.below HB5.out).below HB6.out⟩) (fun hHeld => ?_)
      clear hK K
      try simp only [Act.put, List.setIfInBounds_toArray, List.set_cons_zero, List.set_cons_succ]
      refine wpAnyH_take (i := 8) (oi := _) (v := .int .i64 (bits .andNot .i64 (kindsT (strip t) : Nat) (kindsT (strip u) : Nat))) rfl (by kernel_rfl) (by kernel_rfl) (by kernel_rfl) (fun _ _ _ h => h) (Or.inl ⟨by rfl, fun w' hS => (by go_simp)⟩) hHeld ?_
      change wpAnyH _ _ _ _ _ _ _ (Act.put _ (some 33) _) _
      try simp only [Act.put, List.setIfInBounds_toArray, List.set_cons_zero, List.set_cons_succ]
      refine wpAnyH_take (i := 9) (oi := _) (v := .bool ((bits .andNot .i64 (kindsT (strip t) : Nat) (kindsT (strip u) : Nat)) == 0)) rfl (by kernel_rfl) (by kernel_rfl) (by kernel_rfl) (fun _ _ _ h => h) (Or.inl ⟨by rfl, fun w' hS => (by go_simp)⟩) hHeld ?_
      change wpAnyH _ _ _ _ _ _ _ (Act.put _ (some 34) _) _
      try simp only [Act.put, List.setIfInBounds_toArray, List.set_cons_zero, List.set_cons_succ]
      refine wpAnyH_take (i := 10) (oi := _) (v := .bool ((bits .andNot .i64 (kindsT (strip t) : Nat) (kindsT (strip u) : Nat)) == 0)) rfl (by kernel_rfl) (by kernel_rfl) (by kernel_rfl) (fun _ _ _ h => h) (Or.inl ⟨by rfl, fun w' hS => (by go_simp)⟩) hHeld ?_
      change wpAnyH _ _ _ _ _ _ _ (Act.put _ (some 35) _) _
      try simp only [Act.put, List.setIfInBounds_toArray, List.set_cons_zero, List.set_cons_succ]
      refine wpAnyH_take (i := 11) (oi := _) (v := .bool ((bits .andNot .i64 (kindsT (strip t) : Nat) (kindsT (strip u) : Nat)) == 0)) rfl (by kernel_rfl) (by kernel_rfl) (by kernel_rfl) (fun _ _ _ h => h) (Or.inl ⟨by rfl, fun w' hS => (by go_simp)⟩) hHeld ?_
      change wpAnyH _ _ _ _ _ _ _ (Act.put _ (some 4) _) _
      try simp only [Act.put, List.setIfInBounds_toArray, List.set_cons_zero, List.set_cons_succ]
      refine wpAnyH_done (by kernel_rfl) ?_ _
      go_wp2
      go_ret
      exact ⟨by rw [HG.out, ← HAN.out]; rfl, B3.out.trans ((HB5.out.trans (HB6.out.mono HB5.out.size)).mono B3.out.size)⟩
    · rw [tb_false fu] at h2
      have HF2 := Lib.hid h2
      have e : ans = false := by
        rw [HA.out]
        refine tb_false fun e => ?_
        by_cases ht0 : t.kind = 0
        · have := (goes_from (by rw [HKU.out]; exact hu0) (by rw [HKT.out]; exact ht0)).1 e
          cases this
        · exact goes_flat_out (by rw [HKT.out]; exact ft) (by rw [HKT.out]; exact ht0) (by rw [HKU.out]; exact fu) e
      subst e
      clear h1 h2 hu0 ft fu HA
      go_wp2_with fail
      with_reducible refine ((HF1.out w1)).mono ?_
      rintro e w2 ⟨rfl, hb2⟩
      have T2 := Lib.hid (T1.out.below hb2)
      have U2 := Lib.hid (U1.out.below hb2)
      have B2 := Lib.hid (B1.out.trans (hb2.mono B1.out.size))
      have t2 := T2.out
      have u2 := U2.out
      have t2c0 := t2.c0
      have t2c1 := t2.c1
      have t2c2 := t2.c2
      have t2lt := t2.lt
      have u2c0 := u2.c0
      have u2c1 := u2.c1
      have u2c2 := u2.c2
      have u2lt := u2.lt
      clear hb2 t2 u2
      go_wp2_with fail
      with_reducible refine ((HF2.out w2)).mono ?_
      rintro e w3 ⟨rfl, hb3⟩
      have T3 := Lib.hid (T2.out.below hb3)
      have U3 := Lib.hid (U2.out.below hb3)
      have B3 := Lib.hid (B2.out.trans (hb3.mono B2.out.size))
      have t3 := T3.out
      have u3 := U3.out
      have t3c0 := t3.c0
      have t3c1 := t3.c1
      have t3c2 := t3.c2
      have t3lt := t3.lt
      have u3c0 := u3.c0
      have u3c1 := u3.c1
      have u3c2 := u3.c2
      have u3lt := u3.lt
      clear hb3 t3 u3
      go_wp2
      go_ret
      exact ⟨rfl, B3.out⟩
  rw [tb_false ft] at h1
  have HF1 := Lib.hid h1
  rcases (show t.kind = 8 ∨ t.kind = 9 by rcases HCT.out.cases with e | e | e; exact (ft (by rw [HKT.out] at e; exact e)).elim; exact .inl (by rw [HKT.out] at e; exact e); exact .inr (by rw [HKT.out] at e; exact e)) with h8 | h9
  · have e8 : (t.kind == 8) = true := beq_iff_eq.2 h8
    have e9 : (t.kind == 9) = false := beq_eq_false_iff_ne.2 (by omega)
    by_cases fu : Flat u.kind
    · rw [tb_true fu] at h2
      have HF2 := Lib.hid h2
      have HG := Lib.hid (show ans = tb (kindsT (strip u) &&& 16 = 16) by rw [HA.out]; exact tb_congr (goes_shape_flat (by rw [HKU.out]; exact hu0) (by rw [HKT.out]; exact h8) (by rw [HKU.out]; exact fu)))
      have HAN := Lib.hid (and16 (kinds128 (strip u)))
      clear h1 h2 hu0 ft fu HA h8
      go_wp2_with fail
      with_reducible refine ((HF1.out w1)).mono ?_
      rintro e w2 ⟨rfl, hb2⟩
      have T2 := Lib.hid (T1.out.below hb2)
      have U2 := Lib.hid (U1.out.below hb2)
      have B2 := Lib.hid (B1.out.trans (hb2.mono B1.out.size))
      have t2 := T2.out
      have u2 := U2.out
      have t2c0 := t2.c0
      have t2c1 := t2.c1
      have t2c2 := t2.c2
      have t2lt := t2.lt
      have u2c0 := u2.c0
      have u2c1 := u2.c1
      have u2c2 := u2.c2
      have u2lt := u2.lt
      clear hb2 t2 u2
      go_wp2_with fail
      with_reducible refine ((HF2.out w2)).mono ?_
      rintro e w3 ⟨rfl, hb3⟩
      have T3 := Lib.hid (T2.out.below hb3)
      have U3 := Lib.hid (U2.out.below hb3)
      have B3 := Lib.hid (B2.out.trans (hb3.mono B2.out.size))
      have t3 := T3.out
      have u3 := U3.out
      have t3c0 := t3.c0
      have t3c1 := t3.c1
      have t3c2 := t3.c2
      have t3lt := t3.lt
      have u3c0 := u3.c0
      have u3c1 := u3.c1
      have u3c2 := u3.c2
      have u3lt := u3.lt
      clear hb3 t3 u3
      go_wp2_with fail
      with_reducible refine ((HK2.out w3 B3.out)).mono ?_
      rintro e w4 ⟨rfl, hb4⟩
      have T4 := Lib.hid (T3.out.below hb4)
      have U4 := Lib.hid (U3.out.below hb4)
      have B4 := Lib.hid (B3.out.trans (hb4.mono B3.out.size))
      have t4 := T4.out
      have u4 := U4.out
      have t4c0 := t4.c0
      have t4c1 := t4.c1
      have t4c2 := t4.c2
      have t4lt := t4.lt
      have u4c0 := u4.c0
      have u4c1 := u4.c1
      have u4c2 := u4.c2
      have u4lt := u4.lt
      clear hb4 t4 u4
      go_wp2
      go_ret
      exact ⟨by rw [HG.out, ← HAN.out]; rfl, B4.out⟩
    rw [tb_false fu] at h2
    have HF2 := Lib.hid h2
    have HG := Lib.hid (show ans = tb (u.kind = 8 ∧ FieldsT false (strip t) (strip u)) by rw [HA.out]; have := goes_shape (h := false) (n := n) (a := strip t) (b := strip u) (by rw [HKT.out]; exact h8) (by rw [HKU.out]; exact fu); rw [HKU.out] at this; exact tb_congr this)
    by_cases hu8 : u.kind = 8
    case neg =>
      have e : ans = false := by rw [HG.out]; exact tb_false fun e => hu8 e.1
      subst e
      have eu8 : (u.kind == 8) = false := beq_eq_false_iff_ne.2 hu8
      clear h1 h2 hu0 ft fu HA h8 hu8 HG
      go_wp2_with fail
      with_reducible refine ((HF1.out w1)).mono ?_
      rintro e w2 ⟨rfl, hb2⟩
      have T2 := Lib.hid (T1.out.below hb2)
      have U2 := Lib.hid (U1.out.below hb2)
      have B2 := Lib.hid (B1.out.trans (hb2.mono B1.out.size))
      have t2 := T2.out
      have u2 := U2.out
      have t2c0 := t2.c0
      have t2c1 := t2.c1
      have t2c2 := t2.c2
      have t2lt := t2.lt
      have u2c0 := u2.c0
      have u2c1 := u2.c1
      have u2c2 := u2.c2
      have u2lt := u2.lt
      clear hb2 t2 u2
      go_wp2_with fail
      with_reducible refine ((HF2.out w2)).mono ?_
      rintro e w3 ⟨rfl, hb3⟩
      have T3 := Lib.hid (T2.out.below hb3)
      have U3 := Lib.hid (U2.out.below hb3)
      have B3 := Lib.hid (B2.out.trans (hb3.mono B2.out.size))
      have t3 := T3.out
      have u3 := U3.out
      have t3c0 := t3.c0
      have t3c1 := t3.c1
      have t3c2 := t3.c2
      have t3lt := t3.lt
      have u3c0 := u3.c0
      have u3c1 := u3.c1
      have u3c2 := u3.c2
      have u3lt := u3.lt
      clear hb3 t3 u3
      go_wp2
      go_ret
      exact ⟨rfl, B3.out⟩
    have eu8 : (u.kind == 8) = true := beq_iff_eq.2 hu8
    have HFD := Lib.hid (show ans = tb (FieldsT false (strip t) (strip u)) by rw [HG.out]; exact tb_congr ⟨fun e => e.2, fun e => ⟨hu8, e⟩⟩)
    have hr := chk_rise HMT.out.1 (by rw [HKT.out]; exact h8)
    have hlt := (shape_names HMT.out.1 (by rw [HKT.out]; exact h8)).1
    have hlu := (shape_names HMU.out.1 (by rw [HKU.out]; exact hu8)).1
    rw [strip_names] at hr
    rw [strip_names, strip_len] at hlt hlu
    obtain ⟨n1, hn1⟩ : ∃ n, n = t.ns.length := ⟨_, rfl⟩
    obtain ⟨n2, hn2⟩ : ∃ n, n = u.ns.length := ⟨_, rfl⟩
    have HN := Lib.hid (show t.ns.length = n1 ∧ t.xs.length = n1 ∧ u.ns.length = n2 ∧ u.xs.length = n2 from ⟨hn1.symm, by rw [hn1]; exact hlt.symm, hn2.symm, by rw [hn2]; exact hlu.symm⟩)
    have HR := Lib.hid hr
    have hl5 : n2 ≤ 8796093022208 := by rw [hn2]; exact hl4
    clear hr hlt hlu hn1 hn2
    clear h1 h2 hu0 ft fu HA h8 hu8 HG hl2 hl3 hl4
    go_wp2_with fail
    with_reducible refine ((HF1.out w1)).mono ?_
    rintro e w2 ⟨rfl, hb2⟩
    have T2 := Lib.hid (T1.out.below hb2)
    have U2 := Lib.hid (U1.out.below hb2)
    have B2 := Lib.hid (B1.out.trans (hb2.mono B1.out.size))
    have t2 := T2.out
    have u2 := U2.out
    have t2c0 := t2.c0
    have t2c1 := t2.c1
    have t2c2 := t2.c2
    have t2lt := t2.lt
    have u2c0 := u2.c0
    have u2c1 := u2.c1
    have u2c2 := u2.c2
    have u2lt := u2.lt
    clear hb2 t2 u2
    go_wp2_with fail
    with_reducible refine ((HF2.out w2)).mono ?_
    rintro e w3 ⟨rfl, hb3⟩
    have T3 := Lib.hid (T2.out.below hb3)
    have U3 := Lib.hid (U2.out.below hb3)
    have B3 := Lib.hid (B2.out.trans (hb3.mono B2.out.size))
    have t3 := T3.out
    have u3 := U3.out
    have t3c0 := t3.c0
    have t3c1 := t3.c1
    have t3c2 := t3.c2
    have t3lt := t3.lt
    have u3c0 := u3.c0
    have u3c1 := u3.c1
    have u3c2 := u3.c2
    have u3lt := u3.lt
    clear hb3 t3 u3
    rw [HN.out.2.2.1] at u3c1
    go_wp2_with fail
    clear u3c1 u3c2 u3c0 t3c0 t3c1 t3c2
    go_loopw [61] (fun i wr => ∃ k : Nat, k ≤ n2 ∧ i = .int .i64 k ∧ Hid (∀ (j : Nat) (s : ByteArray) (y : LTy), j < k → u.ns[j]? = some s → u.xs[j]? = some y → FieldAt false (strip t) s (strip y)) ∧ Hid (Below w3.heap.size w3 wr)) (fun i _ => n2 - (intOf i).toNat)
    case atStart => exact ⟨0, by omega, rfl, Lib.hid (fun j s y hj => by omega), Lib.hid (Below.refl _ _)⟩
    case round =>
      obtain ⟨k, hk, rfl, HK, HW⟩ := hrel
      have KBr := Lib.hid (B3.out.trans (HW.out.mono B3.out.size))
      by_cases hlt : k < n2
      case neg =>
        obtain rfl : k = n2 := by omega
        have hkk : ¬ (k : Int) < (k : Int) := by omega
        have e : ans = true := by
          rw [HFD.out]
          exact tb_true fun i s y hs hy => by
            rw [strip_names] at hs
            obtain ⟨y', hy', rfl⟩ := strip_of hy
            exact HK.out i s y' (by have := (List.getElem?_eq_some_iff.1 hs).1; rw [HN.out.2.2.1] at this; exact this) hs hy'
        subst e
        go_wp2
        go_ret
        exact ⟨rfl, KBr.out⟩
      obtain ⟨s, hs⟩ : ∃ s, u.ns[k]? = some s := ⟨_, List.getElem?_eq_getElem (by rw [HN.out.2.2.1]; exact hlt)⟩
      obtain ⟨y, hy⟩ : ∃ y, u.xs[k]? = some y := ⟨_, List.getElem?_eq_getElem (by rw [HN.out.2.2.2]; exact hlt)⟩
      have htr := HT.out.on KBr.out
      have hur := HU.out.on KBr.out
      obtain ⟨a1, hA1, hl, s0⟩ := hur.name hs
      obtain ⟨a2, hA2, hy3⟩ := hur.at3 hy
      have sl : (a1.add k).block < wr.heap.size := by rw [block_add']; exact hl
      have hk' : (k : Int) < (n2 : Int) := by omega
      have hk0 : (0 : Int) ≤ k := by omega
      have BT := Lib.hid (T3.out.below HW.out)
      have BU := Lib.hid (U3.out.below HW.out)
      have bt := BT.out
      have btc0 := bt.c0
      have btc1 := bt.c1
      have btc2 := bt.c2
      have btlt := bt.lt
      have hfd := rfield_any t s wr htr (by rw [HN.out.1, HN.out.2.1])
      unfold LTy.val at hfd
      have HFO := Lib.hid hfd
      have HS := Lib.hid hs
      have HY := Lib.hid hy
      have HY3 := Lib.hid hy3
      have HTR := Lib.hid htr
      have HUR := Lib.hid hur
      have HA2 := Lib.hid hA2
      have HNO := Lib.hid (show ¬ FieldAt false (strip t) s (strip y) → ans = false from fun hn => by
        rw [HFD.out]
        exact tb_false fun e => hn (e k s (strip y) (by rw [strip_names]; exact HS.out) (strip_at HY.out)))
      rw [hA1]
      clear bt hfd hs hy hl hA1 hA2 hy3 htr hur
      go_wp2_with fail
      with_reducible refine HFO.out.mono ?_
      rintro e w4 ⟨hb4, ⟨j, x, hj, hx, rfl⟩ | ⟨hno, rfl⟩⟩
      case inr =>
        have e : ans = false := HNO.out (fun ⟨j, x, h1, _⟩ => hno (by rw [strip_names] at h1; exact List.mem_of_getElem? h1))
        subst e
        have B4 := Lib.hid hb4
        clear hno hb4
        go_upto_region 13 with fail
        refine gen_wpT fun V hV => ?_
        obtain ⟨p, hp⟩ : ∃ p, p = w4.heap.size := ⟨_, rfl⟩
        obtain ⟨x, hxl⟩ : ∃ x, x = (.mk 0 none 0 [] none 0 [] : LTy) := ⟨_, rfl⟩
        have kx : TBox V p x := by rw [← hV, hp, hxl]; exact (one_box w4 (.mk 0 none 0 [] none 0 [] : LTy)).1
        have hbv : Below w4.heap.size w4 V := by rw [← hV]; exact (one_box w4 (.mk 0 none 0 [] none 0 [] : LTy)).2
        have KX := Lib.hid kx
        have KU3 := Lib.hid ((BU.out.below B4.out).below hbv)
        have Y3 := Lib.hid ((HY3.out.below B4.out).below hbv)
        have BV := Lib.hid (KBr.out.trans ((B4.out.trans (hbv.mono B4.out.size)).mono KBr.out.size))
        rw [← hp]
        clear hV kx hbv hp hxl
        go_wp2_with fail
        refine wp_region_held_drew (S := fun w' => TBox w' p x ∧ TBox w' (g + 1) u ∧ At3 w' (a2.add (k * 3)) y) (by kernel_rfl) (⟨KX.out, KU3.out, Y3.out⟩) (fun hHeld => ?_)
        refine wpAnyH_take (i := 0) (oi := _) (v := .bool false) rfl (by kernel_rfl) (by kernel_rfl) (by kernel_rfl) (fun _ _ _ h => h) (Or.inl ⟨by rfl, fun w' hS => (by go_simp)⟩) hHeld ?_
        change wpAnyH _ _ _ _ _ _ _ (Act.put _ (some 72) _) _
        try simp only [Act.put, List.setIfInBounds_toArray, List.set_cons_zero, List.set_cons_succ]
        refine wpAnyH_take (i := 1) (oi := _) (v := .bool true) rfl (by kernel_rfl) (by kernel_rfl) (by kernel_rfl) (fun _ _ _ h => h) (Or.inl ⟨by rfl, fun w' hS => (by go_simp)⟩) hHeld ?_
        change wpAnyH _ _ _ _ _ _ _ (Act.put _ (some 73) _) _
        try simp only [Act.put, List.setIfInBounds_toArray, List.set_cons_zero, List.set_cons_succ]
        refine wpAnyH_take (i := 2) (oi := _) (v := .bool true) rfl (by kernel_rfl) (by kernel_rfl) (by kernel_rfl) (fun _ _ _ h => h) (Or.inl ⟨by rfl, fun w' hS => (by go_simp)⟩) hHeld ?_
        change wpAnyH _ _ _ _ _ _ _ (Act.put _ (some 74) _) _
        try simp only [Act.put, List.setIfInBounds_toArray, List.set_cons_zero, List.set_cons_succ]
        refine wpAnyH_take (i := 3) (oi := _) (v := undef) rfl (by kernel_rfl) (by kernel_rfl) (by kernel_rfl) (fun _ _ _ h => h) (Or.inr ⟨by kernel_rfl, rfl⟩) hHeld ?_
        change wpAnyH _ _ _ _ _ _ _ (Act.put _ (some 75) _) _
        try simp only [Act.put, List.setIfInBounds_toArray, List.set_cons_zero, List.set_cons_succ]
        refine wpAnyH_take (i := 4) (oi := _) (v := undef) rfl (by kernel_rfl) (by kernel_rfl) (by kernel_rfl) (fun _ _ _ h => h) (Or.inr ⟨by kernel_rfl, rfl⟩) hHeld ?_
        change wpAnyH _ _ _ _ _ _ _ (Act.put _ (some 76) _) _
        try simp only [Act.put, List.setIfInBounds_toArray, List.set_cons_zero, List.set_cons_succ]
        refine wpAnyH_take (i := 5) (oi := _) (v := undef) rfl (by kernel_rfl) (by kernel_rfl) (by kernel_rfl) (fun _ _ _ h => h) (Or.inr ⟨by kernel_rfl, rfl⟩) hHeld ?_
        change wpAnyH _ _ _ _ _ _ _ (Act.put _ (some 77) _) _
        try simp only [Act.put, List.setIfInBounds_toArray, List.set_cons_zero, List.set_cons_succ]
        refine wpAnyH_take (i := 6) (oi := _) (v := undef) rfl (by kernel_rfl) (by kernel_rfl) (by kernel_rfl) (fun _ _ _ h => h) (Or.inr ⟨by kernel_rfl, rfl⟩) hHeld ?_
        change wpAnyH _ _ _ _ _ _ _ (Act.put _ (some 78) _) _
        try simp only [Act.put, List.setIfInBounds_toArray, List.set_cons_zero, List.set_cons_succ]
        refine wpAnyH_take (i := 7) (oi := _) (v := undef) rfl (by kernel_rfl) (by kernel_rfl) (by kernel_rfl) (fun _ _ _ h => h) (Or.inr ⟨by kernel_rfl, rfl⟩) hHeld ?_
        change wpAnyH _ _ _ _ _ _ _ (Act.put _ (some 79) _) _
        try simp only [Act.put, List.setIfInBounds_toArray, List.set_cons_zero, List.set_cons_succ]
        refine wpAnyH_take (i := 8) (oi := _) (v := undef) rfl (by kernel_rfl) (by kernel_rfl) (by kernel_rfl) (fun _ _ _ h => h) (Or.inr ⟨by kernel_rfl, rfl⟩) hHeld ?_
        change wpAnyH _ _ _ _ _ _ _ (Act.put _ (some 80) _) _
        try simp only [Act.put, List.setIfInBounds_toArray, List.set_cons_zero, List.set_cons_succ]
        refine wpAnyH_take (i := 9) (oi := _) (v := undef) rfl (by kernel_rfl) (by kernel_rfl) (by kernel_rfl) (fun _ _ _ h => h) (Or.inr ⟨by kernel_rfl, rfl⟩) hHeld ?_
        change wpAnyH _ _ _ _ _ _ _ (Act.put _ (some 81) _) _
        try simp only [Act.put, List.setIfInBounds_toArray, List.set_cons_zero, List.set_cons_succ]
        refine wpAnyH_take (i := 10) (oi := _) (v := undef) rfl (by kernel_rfl) (by kernel_rfl) (by kernel_rfl) (fun _ _ _ h => h) (Or.inr ⟨by kernel_rfl, rfl⟩) hHeld ?_
        change wpAnyH _ _ _ _ _ _ _ (Act.put _ (some 82) _) _
        try simp only [Act.put, List.setIfInBounds_toArray, List.set_cons_zero, List.set_cons_succ]
        refine wpAnyH_take (i := 11) (oi := _) (v := .bool true) rfl (by kernel_rfl) (by kernel_rfl) (by kernel_rfl) (fun _ _ _ h => h) (Or.inl ⟨by rfl, fun w' hS => (by go_simp)⟩) hHeld ?_
        change wpAnyH _ _ _ _ _ _ _ (Act.put _ (some 83) _) _
        try simp only [Act.put, List.setIfInBounds_toArray, List.set_cons_zero, List.set_cons_succ]
        refine wpAnyH_done (by kernel_rfl) ?_ _
        go_wp2
        go_ret
        exact ⟨rfl, BV.out.drew⟩
      have B4 := Lib.hid hb4
      have HIS := Lib.hid (field_is (h := false) (y := strip y) (by rw [strip_names]; exact HR.out) (by rw [strip_names]; exact hj) (strip_at hx))
      have HX := Lib.hid hx
      clear hb4 hj hx
      unfold LTy.val
      go_upto_region 13 with fail
      refine gen_wpT fun V hV => ?_
      obtain ⟨p, hp⟩ : ∃ p, p = w4.heap.size := ⟨_, rfl⟩
      have kx : TBox V p x := by rw [← hV, hp]; exact (one_box w4 x).1
      have hbv : Below w4.heap.size w4 V := by rw [← hV]; exact (one_box w4 x).2
      have KX := Lib.hid kx
      have hbr := B4.out.trans (hbv.mono B4.out.size)
      have KU3 := Lib.hid (BU.out.below hbr)
      have Y3 := Lib.hid (HY3.out.below hbr)
      have BV := Lib.hid (KBr.out.trans (hbr.mono KBr.out.size))
      have BW := Lib.hid (HW.out.trans (hbr.mono HW.out.size))
      have mx : May (strip x) := HMT.out.part (strip_at HX.out)
      have hd : Below V.heap.size V V.drew := (Below.refl _ _).drew
      have hsame := rsame_any x y V.drew (((HTR.out.part HX.out).on hbr).on hd) (((HUR.out.part HY.out).on hbr).on hd)
      unfold LTy.val at hsame
      rw [show tb (strip x = strip y ∧ May (strip x)) = tb (strip x = strip y) by rw [tb_and, tb_true mx]; cases tb (strip x = strip y) <;> rfl] at hsame
      have HXK := Lib.hid (show (strip x).kind = x.kind ∧ (strip y).kind = y.kind from ⟨strip_kind x, strip_kind y⟩)
      have HYES := Lib.hid (show FieldAt false (strip t) s (strip y) → ∀ (j : Nat) (s : ByteArray) (y : LTy), j < k + 1 → u.ns[j]? = some s → u.xs[j]? = some y → FieldAt false (strip t) s (strip y) from fun hf j' s' y' hj hs' hy' => by
        rcases Nat.lt_or_ge j' k with h1 | h1
        · exact HK.out j' s' y' h1 hs' hy'
        · obtain rfl : j' = k := by omega
          rw [HS.out] at hs'
          rw [HY.out] at hy'
          obtain rfl := Option.some.inj hs'
          obtain rfl := Option.some.inj hy'
          exact hf)
      have lp := KX.out.lt
      have lu3 := KU3.out.lt
      have hwk : IntKind.i64.wrap (k : Int) = (k : Int) := IntWalk.i64_in _ (by omega)
      rw [← hp]
      clear hV kx hbv hbr hd mx hp
      by_cases hxy : strip x = strip y
      · have HK2 := Lib.hid (HYES.out (HIS.out.2 (.inl hxy)))
        rw [tb_true hxy] at hsame
        have HSM := Lib.hid hsame
        clear hsame hxy
        go_wp2_with fail
        refine wp_region_held_drew (S := fun w' => TBox w' p x ∧ TBox w' (g + 1) u ∧ At3 w' (a2.add (k * 3)) y) (by kernel_rfl) (⟨KX.out, KU3.out, Y3.out⟩) (fun hHeld => ?_)
        refine wpAnyH_take (i := 0) (oi := _) (v := .bool true) rfl (by kernel_rfl) (by kernel_rfl) (by kernel_rfl) (fun _ _ _ h => h) (Or.inl ⟨by rfl, fun w' hS => (by go_simp)⟩) hHeld ?_
        change wpAnyH _ _ _ _ _ _ _ (Act.put _ (some 72) _) _
        try simp only [Act.put, List.setIfInBounds_toArray, List.set_cons_zero, List.set_cons_succ]
        refine wpAnyH_take (i := 1) (oi := _) (v := .bool false) rfl (by kernel_rfl) (by kernel_rfl) (by kernel_rfl) (fun _ _ _ h => h) (Or.inl ⟨by rfl, fun w' hS => (by go_simp)⟩) hHeld ?_
        change wpAnyH _ _ _ _ _ _ _ (Act.put _ (some 73) _) _
        try simp only [Act.put, List.setIfInBounds_toArray, List.set_cons_zero, List.set_cons_succ]
        refine wpAnyH_take (i := 2) (oi := _) (v := .bool false) rfl (by kernel_rfl) (by kernel_rfl) (by kernel_rfl) (fun _ _ _ h => h) (Or.inl ⟨by rfl, fun w' hS => (by go_simp)⟩) hHeld ?_
        change wpAnyH _ _ _ _ _ _ _ (Act.put _ (some 74) _) _
        try simp only [Act.put, List.setIfInBounds_toArray, List.set_cons_zero, List.set_cons_succ]
        refine wpAnyH_take (i := 3) (oi := _) (v := .agg #[.int .i64 x.kind, .slice x.A x.ns.length x.c, .slice x.A2 x.xs.length x.c2]) rfl (by kernel_rfl) (by kernel_rfl) (by kernel_rfl) (fun _ _ _ h => h) (Or.inl ⟨by rfl, fun w' hS => (by have q0 := TBox.c0 hS.1; have q1 := TBox.c1 hS.1; have q2 := TBox.c2 hS.1; go_simp)⟩) hHeld ?_
        change wpAnyH _ _ _ _ _ _ _ (Act.put _ (some 75) _) _
        try simp only [Act.put, List.setIfInBounds_toArray, List.set_cons_zero, List.set_cons_succ]
        refine wpAnyH_take (i := 4) (oi := _) (v := .pointer (some ⟨g + 1, 2, none⟩)) rfl (by kernel_rfl) (by kernel_rfl) (by kernel_rfl) (fun _ _ _ h => h) (Or.inl ⟨by rfl, fun w' hS => (by go_simp)⟩) hHeld ?_
        change wpAnyH _ _ _ _ _ _ _ (Act.put _ (some 76) _) _
        try simp only [Act.put, List.setIfInBounds_toArray, List.set_cons_zero, List.set_cons_succ]
        refine wpAnyH_take (i := 5) (oi := _) (v := .slice (some a2) n2 u.c2) rfl (by kernel_rfl) (by kernel_rfl) (by kernel_rfl) (fun _ _ _ h => h) (Or.inl ⟨by rfl, fun w' hS => (by have q := TBox.c2 hS.2.1; rw [HN.out.2.2.2, HA2.out] at q; go_simp)⟩) hHeld ?_
        change wpAnyH _ _ _ _ _ _ _ (Act.put _ (some 77) _) _
        try simp only [Act.put, List.setIfInBounds_toArray, List.set_cons_zero, List.set_cons_succ]
        refine wpAnyH_take (i := 6) (oi := _) (v := .int .i64 (k : Int)) rfl (by kernel_rfl) (by kernel_rfl) (by kernel_rfl) (fun _ _ _ h => h) (Or.inl ⟨by rfl, fun w' hS => (by go_simp)⟩) hHeld ?_
        change wpAnyH _ _ _ _ _ _ _ (Act.put _ (some 78) _) _
        try simp only [Act.put, List.setIfInBounds_toArray, List.set_cons_zero, List.set_cons_succ]
        refine wpAnyH_take (i := 7) (oi := _) (v := .pointer (some (a2.add (k * 3)))) rfl (by kernel_rfl) (by kernel_rfl) (by kernel_rfl) (fun _ _ _ h => h) (Or.inl ⟨by rfl, fun w' hS => (by go_simp)⟩) hHeld ?_
        change wpAnyH _ _ _ _ _ _ _ (Act.put _ (some 79) _) _
        try simp only [Act.put, List.setIfInBounds_toArray, List.set_cons_zero, List.set_cons_succ]
        refine wpAnyH_take (i := 8) (oi := _) (v := .agg #[.int .i64 y.kind, .slice y.A y.ns.length y.c, .slice y.A2 y.xs.length y.c2]) rfl (by kernel_rfl) (by kernel_rfl) (by kernel_rfl) (fun _ _ _ h => h) (Or.inl ⟨by rfl, fun w' hS => (by obtain ⟨_, q0, q1, q2⟩ := hS.2.2; go_simp)⟩) hHeld ?_
        change wpAnyH _ _ _ _ _ _ _ (Act.put _ (some 80) _) _
        try simp only [Act.put, List.setIfInBounds_toArray, List.set_cons_zero, List.set_cons_succ]
        refine wpAnyH_ready (rs := [9]) (by kernel_rfl) (by simp) ?_
        refine AllReadyH.cons (o := _) rfl (fun K hK => ?_) AllReadyH.nil
        go_simp
        with_reducible refine HSM.out.mono ?_
        rintro e w5 ⟨rfl, hb5⟩
        have HB5 := Lib.hid (show Below V.heap.size V w5 from (Below.refl _ _).drew.trans hb5)
        clear hb5
        refine hK.out _ _ (⟨KX.out.below HB5.out, KU3.out.below HB5.out, Y3.out.below HB5.out⟩) (fun hHeld => ?_)
        clear hK K
        try simp only [Act.put, List.setIfInBounds_toArray, List.set_cons_zero, List.set_cons_succ]
        refine wpAnyH_take (i := 10) (oi := _) (v := .bool false) rfl (by kernel_rfl) (by kernel_rfl) (by kernel_rfl) (fun _ _ _ h => h) (Or.inl ⟨by rfl, fun w' hS => (by go_simp)⟩) hHeld ?_
        change wpAnyH _ _ _ _ _ _ _ (Act.put _ (some 82) _) _
        try simp only [Act.put, List.setIfInBounds_toArray, List.set_cons_zero, List.set_cons_succ]
        refine wpAnyH_take (i := 11) (oi := _) (v := .bool false) rfl (by kernel_rfl) (by kernel_rfl) (by kernel_rfl) (fun _ _ _ h => h) (Or.inl ⟨by rfl, fun w' hS => (by go_simp)⟩) hHeld ?_
        change wpAnyH _ _ _ _ _ _ _ (Act.put _ (some 83) _) _
        try simp only [Act.put, List.setIfInBounds_toArray, List.set_cons_zero, List.set_cons_succ]
        refine wpAnyH_done (by kernel_rfl) ?_ _
        go_wp2_with fail
        go_roundw
        case rel => exact ⟨k + 1, by omega, by go_num, HK2, Lib.hid (BW.out.trans (HB5.out.mono BW.out.size))⟩
        case measure => simp [intOf]; omega
      rw [tb_false hxy] at hsame
      have HSM := Lib.hid hsame
      clear hsame
      have e : ans = false := HNO.out (fun e => by
        rcases HIS.out.1 e with e | ⟨e, _⟩
        · exact hxy e
        · cases e)
      subst e
      clear hxy
      go_wp2_with fail
      refine wp_region_held_drew (S := fun w' => TBox w' p x ∧ TBox w' (g + 1) u ∧ At3 w' (a2.add (k * 3)) y) (by kernel_rfl) (⟨KX.out, KU3.out, Y3.out⟩) (fun hHeld => ?_)
      refine wpAnyH_take (i := 0) (oi := _) (v := .bool true) rfl (by kernel_rfl) (by kernel_rfl) (by kernel_rfl) (fun _ _ _ h => h) (Or.inl ⟨by rfl, fun w' hS => (by go_simp)⟩) hHeld ?_
      change wpAnyH _ _ _ _ _ _ _ (Act.put _ (some 72) _) _
      try simp only [Act.put, List.setIfInBounds_toArray, List.set_cons_zero, List.set_cons_succ]
      refine wpAnyH_take (i := 1) (oi := _) (v := .bool false) rfl (by kernel_rfl) (by kernel_rfl) (by kernel_rfl) (fun _ _ _ h => h) (Or.inl ⟨by rfl, fun w' hS => (by go_simp)⟩) hHeld ?_
      change wpAnyH _ _ _ _ _ _ _ (Act.put _ (some 73) _) _
      try simp only [Act.put, List.setIfInBounds_toArray, List.set_cons_zero, List.set_cons_succ]
      refine wpAnyH_take (i := 2) (oi := _) (v := .bool false) rfl (by kernel_rfl) (by kernel_rfl) (by kernel_rfl) (fun _ _ _ h => h) (Or.inl ⟨by rfl, fun w' hS => (by go_simp)⟩) hHeld ?_
      change wpAnyH _ _ _ _ _ _ _ (Act.put _ (some 74) _) _
      try simp only [Act.put, List.setIfInBounds_toArray, List.set_cons_zero, List.set_cons_succ]
      refine wpAnyH_take (i := 3) (oi := _) (v := .agg #[.int .i64 x.kind, .slice x.A x.ns.length x.c, .slice x.A2 x.xs.length x.c2]) rfl (by kernel_rfl) (by kernel_rfl) (by kernel_rfl) (fun _ _ _ h => h) (Or.inl ⟨by rfl, fun w' hS => (by have q0 := TBox.c0 hS.1; have q1 := TBox.c1 hS.1; have q2 := TBox.c2 hS.1; go_simp)⟩) hHeld ?_
      change wpAnyH _ _ _ _ _ _ _ (Act.put _ (some 75) _) _
      try simp only [Act.put, List.setIfInBounds_toArray, List.set_cons_zero, List.set_cons_succ]
      refine wpAnyH_take (i := 4) (oi := _) (v := .pointer (some ⟨g + 1, 2, none⟩)) rfl (by kernel_rfl) (by kernel_rfl) (by kernel_rfl) (fun _ _ _ h => h) (Or.inl ⟨by rfl, fun w' hS => (by go_simp)⟩) hHeld ?_
      change wpAnyH _ _ _ _ _ _ _ (Act.put _ (some 76) _) _
      try simp only [Act.put, List.setIfInBounds_toArray, List.set_cons_zero, List.set_cons_succ]
      refine wpAnyH_take (i := 5) (oi := _) (v := .slice (some a2) n2 u.c2) rfl (by kernel_rfl) (by kernel_rfl) (by kernel_rfl) (fun _ _ _ h => h) (Or.inl ⟨by rfl, fun w' hS => (by have q := TBox.c2 hS.2.1; rw [HN.out.2.2.2, HA2.out] at q; go_simp)⟩) hHeld ?_
      change wpAnyH _ _ _ _ _ _ _ (Act.put _ (some 77) _) _
      try simp only [Act.put, List.setIfInBounds_toArray, List.set_cons_zero, List.set_cons_succ]
      refine wpAnyH_take (i := 6) (oi := _) (v := .int .i64 (k : Int)) rfl (by kernel_rfl) (by kernel_rfl) (by kernel_rfl) (fun _ _ _ h => h) (Or.inl ⟨by rfl, fun w' hS => (by go_simp)⟩) hHeld ?_
      change wpAnyH _ _ _ _ _ _ _ (Act.put _ (some 78) _) _
      try simp only [Act.put, List.setIfInBounds_toArray, List.set_cons_zero, List.set_cons_succ]
      refine wpAnyH_take (i := 7) (oi := _) (v := .pointer (some (a2.add (k * 3)))) rfl (by kernel_rfl) (by kernel_rfl) (by kernel_rfl) (fun _ _ _ h => h) (Or.inl ⟨by rfl, fun w' hS => (by go_simp)⟩) hHeld ?_
      change wpAnyH _ _ _ _ _ _ _ (Act.put _ (some 79) _) _
      try simp only [Act.put, List.setIfInBounds_toArray, List.set_cons_zero, List.set_cons_succ]
      refine wpAnyH_take (i := 8) (oi := _) (v := .agg #[.int .i64 y.kind, .slice y.A y.ns.length y.c, .slice y.A2 y.xs.length y.c2]) rfl (by kernel_rfl) (by kernel_rfl) (by kernel_rfl) (fun _ _ _ h => h) (Or.inl ⟨by rfl, fun w' hS => (by obtain ⟨_, q0, q1, q2⟩ := hS.2.2; go_simp)⟩) hHeld ?_
      change wpAnyH _ _ _ _ _ _ _ (Act.put _ (some 80) _) _
      try simp only [Act.put, List.setIfInBounds_toArray, List.set_cons_zero, List.set_cons_succ]
      refine wpAnyH_ready (rs := [9]) (by kernel_rfl) (by simp) ?_
      refine AllReadyH.cons (o := _) rfl (fun K hK => ?_) AllReadyH.nil
      go_simp
      with_reducible refine HSM.out.mono ?_
      rintro e w5 ⟨rfl, hb5⟩
      have HB5 := Lib.hid (show Below V.heap.size V w5 from (Below.refl _ _).drew.trans hb5)
      clear hb5
      refine hK.out _ _ (⟨KX.out.below HB5.out, KU3.out.below HB5.out, Y3.out.below HB5.out⟩) (fun hHeld => ?_)
      clear hK K
      try simp only [Act.put, List.setIfInBounds_toArray, List.set_cons_zero, List.set_cons_succ]
      refine wpAnyH_take (i := 10) (oi := _) (v := .bool true) rfl (by kernel_rfl) (by kernel_rfl) (by kernel_rfl) (fun _ _ _ h => h) (Or.inl ⟨by rfl, fun w' hS => (by go_simp)⟩) hHeld ?_
      change wpAnyH _ _ _ _ _ _ _ (Act.put _ (some 82) _) _
      try simp only [Act.put, List.setIfInBounds_toArray, List.set_cons_zero, List.set_cons_succ]
      refine wpAnyH_take (i := 11) (oi := _) (v := .bool true) rfl (by kernel_rfl) (by kernel_rfl) (by kernel_rfl) (fun _ _ _ h => h) (Or.inl ⟨by rfl, fun w' hS => (by go_simp)⟩) hHeld ?_
      change wpAnyH _ _ _ _ _ _ _ (Act.put _ (some 83) _) _
      try simp only [Act.put, List.setIfInBounds_toArray, List.set_cons_zero, List.set_cons_succ]
      refine wpAnyH_done (by kernel_rfl) ?_ _
      go_wp2
      go_ret
      exact ⟨rfl, BV.out.trans (HB5.out.mono BV.out.size)⟩
  have e8 : (t.kind == 8) = false := beq_eq_false_iff_ne.2 (by omega)
  have e9 : (t.kind == 9) = true := beq_iff_eq.2 h9
  have HG := Lib.hid (goes_func (h := false) (n := n) (a := strip t) (b := strip u) (by rw [HKT.out]; exact h9) (by rw [HKU.out]; exact hu0))
  by_cases hu9 : u.kind = 9
  case neg =>
    have e : ans = false := by rw [HA.out]; exact tb_false fun e => hu9 (by have := (HG.out.1 e).2.1; rwa [HKU.out] at this)
    subst e
    have eu9 : (u.kind == 9) = false := beq_eq_false_iff_ne.2 hu9
    clear h1 h2 hu0 ft HA h9 hu9 HG
    go_wp2_with fail
    with_reducible refine ((HF1.out w1)).mono ?_
    rintro e w2 ⟨rfl, hb2⟩
    have T2 := Lib.hid (T1.out.below hb2)
    have U2 := Lib.hid (U1.out.below hb2)
    have B2 := Lib.hid (B1.out.trans (hb2.mono B1.out.size))
    have t2 := T2.out
    have u2 := U2.out
    have t2c0 := t2.c0
    have t2c1 := t2.c1
    have t2c2 := t2.c2
    have t2lt := t2.lt
    have u2c0 := u2.c0
    have u2c1 := u2.c1
    have u2c2 := u2.c2
    have u2lt := u2.lt
    clear hb2 t2 u2
    go_wp2
    go_ret
    exact ⟨rfl, B2.out⟩
  have eu9 : (u.kind == 9) = true := beq_iff_eq.2 hu9
  by_cases hlen : t.xs.length = u.xs.length
  case neg =>
    have e : ans = false := by rw [HA.out]; exact tb_false fun e => hlen (by have := (HG.out.1 e).2.2.1; rwa [strip_len, strip_len] at this)
    subst e
    have el : ((t.xs.length : Int) == (u.xs.length : Int)) = false := beq_eq_false_iff_ne.2 (by omega)
    clear h1 h2 hu0 ft HA h9 hu9 HG hlen
    go_wp2_with fail
    with_reducible refine ((HF1.out w1)).mono ?_
    rintro e w2 ⟨rfl, hb2⟩
    have T2 := Lib.hid (T1.out.below hb2)
    have U2 := Lib.hid (U1.out.below hb2)
    have B2 := Lib.hid (B1.out.trans (hb2.mono B1.out.size))
    have t2 := T2.out
    have u2 := U2.out
    have t2c0 := t2.c0
    have t2c1 := t2.c1
    have t2c2 := t2.c2
    have t2lt := t2.lt
    have u2c0 := u2.c0
    have u2c1 := u2.c1
    have u2c2 := u2.c2
    have u2lt := u2.lt
    clear hb2 t2 u2
    go_wp2
    go_ret
    exact ⟨rfl, B2.out⟩
  obtain ⟨m, hm⟩ : ∃ m, t.xs.length = m + 1 := by
    obtain ⟨_, us, z, e⟩ := func_split HCT.out (by rw [HKT.out]; exact h9)
    exact ⟨us.length, by rw [← strip_len, e]; simp⟩
  have HN := Lib.hid (show t.xs.length = m + 1 ∧ u.xs.length = m + 1 from ⟨hm, by rw [← hlen]; exact hm⟩)
  have HG2 := Lib.hid (show ans = tb ((∀ (i : Nat) (x y : LTy), i < m → t.xs[i]? = some x → u.xs[i]? = some y → Goes false n (strip y) (strip x)) ∧ (∀ (x y : LTy), t.xs[m]? = some x → u.xs[m]? = some y → Goes false n (strip x) (strip y))) by
    rw [HA.out, tb_congr HG.out]
    rw [HKT.out, HKU.out, strip_len, strip_len, hm]
    have hl := HN.out.2
    refine tb_congr ⟨fun e => ⟨fun i x y hi hx hy => e.2.2.2.1 i _ _ (by omega) (strip_at hx) (strip_at hy), fun x y hx hy => e.2.2.2.2 _ _ (by simpa using strip_at hx) (by rw [hl]; simpa using strip_at hy)⟩, fun e => ⟨h9, hu9, hl.symm, fun i x y hi hx hy => ?_, fun x y hx hy => ?_⟩⟩
    · obtain ⟨x', hx', rfl⟩ := strip_of hx
      obtain ⟨y', hy', rfl⟩ := strip_of hy
      exact e.1 i x' y' (by omega) hx' hy'
    · obtain ⟨x', hx', rfl⟩ := strip_of hx
      obtain ⟨y', hy', rfl⟩ := strip_of hy
      rw [hl] at hy'
      exact e.2 x' y' (by simpa using hx') (by simpa using hy'))
  have HPM := Lib.hid (show ∀ (i : Nat) (x y : LTy), t.xs[i]? = some x → u.xs[i]? = some y → (May (strip x) ∧ Chk n (strip x)) ∧ May (strip y) ∧ Chk n (strip y) from fun i x y hx hy => ⟨⟨HMT.out.part (strip_at hx), HCT.out.part (strip_at hx)⟩, HMU.out.part (strip_at hy), HCU.out.part (strip_at hy)⟩)
  have hm2 : m + 1 ≤ 8796093022208 := by omega
  have hwm : IntKind.i64.wrap (m : Int) = (m : Int) := IntWalk.i64_in _ (by omega)
  have hF1 := HF1.out
  rw [HN.out.1] at hF1 t1c2
  rw [HN.out.2] at u1c2
  have HF1' := Lib.hid hF1
  have el : (((m + 1 : Nat) : Int) == ((m + 1 : Nat) : Int)) = true := by simp
  clear h1 h2 hu0 ft HA h9 hu9 HG hlen hm hF1 hl2 hl3 HF1
  go_wp2_with fail
  with_reducible refine ((HF1'.out w1)).mono ?_
  rintro e w2 ⟨rfl, hb2⟩
  have T2 := Lib.hid (T1.out.below hb2)
  have U2 := Lib.hid (U1.out.below hb2)
  have B2 := Lib.hid (B1.out.trans (hb2.mono B1.out.size))
  have t2 := T2.out
  have u2 := U2.out
  have t2c0 := t2.c0
  have t2c1 := t2.c1
  have t2c2 := t2.c2
  have t2lt := t2.lt
  have u2c0 := u2.c0
  have u2c1 := u2.c1
  have u2c2 := u2.c2
  have u2lt := u2.lt
  clear hb2 t2 u2
  rw [HN.out.1] at t2c2
  rw [HN.out.2] at u2c2
  go_wp2_with fail
  clear t2c0 t2c1 t2c2 u2c0 u2c1 u2c2 t2lt u2lt el
  go_loopw [11] (fun i wr => ∃ k : Nat, k ≤ m ∧ i = .int .i64 k ∧ Hid (∀ (j : Nat) (x y : LTy), j < k → t.xs[j]? = some x → u.xs[j]? = some y → Goes false n (strip y) (strip x)) ∧ Hid (Below w2.heap.size w2 wr)) (fun i _ => m - (intOf i).toNat)
  case atStart => exact ⟨0, by omega, rfl, Lib.hid (fun j x y hj => by omega), Lib.hid (Below.refl _ _)⟩
  case round =>
    obtain ⟨k, hk, rfl, HK, HW⟩ := hrel
    have KBr := Lib.hid (B2.out.trans (HW.out.mono B2.out.size))
    obtain ⟨x, hx⟩ : ∃ x, t.xs[k]? = some x := ⟨_, List.getElem?_eq_getElem (by rw [HN.out.1]; omega)⟩
    obtain ⟨y, hy⟩ : ∃ y, u.xs[k]? = some y := ⟨_, List.getElem?_eq_getElem (by rw [HN.out.2]; omega)⟩
    have htr := HT.out.on KBr.out
    have hur := HU.out.on KBr.out
    obtain ⟨a1, hA1, hx3⟩ := htr.at3 hx
    obtain ⟨a2, hA2, hy3⟩ := hur.at3 hy
    have BT := Lib.hid (T2.out.below HW.out)
    have BU := Lib.hid (U2.out.below HW.out)
    have X3 := Lib.hid hx3
    have Y3 := Lib.hid hy3
    have HA1 := Lib.hid hA1
    have HA2 := Lib.hid hA2
    have hd : Below wr.heap.size wr wr.drew := (Below.refl _ _).drew
    have hpm := HPM.out k x y hx hy
    have lt1 := BT.out.lt
    have lu1 := BU.out.lt
    have hwk : IntKind.i64.wrap (k : Int) = (k : Int) := IntWalk.i64_in _ (by omega)
    by_cases hlt : k < m
    · have hcall := HIH.out y x wr.drew ((hur.part hy).on hd) ((htr.part hx).on hd) hpm.2.1 hpm.1.1 hpm.2.2 hpm.1.2
      unfold LTy.val at hcall
      have HX := Lib.hid (show t.xs[k]? = some x ∧ u.xs[k]? = some y from ⟨hx, hy⟩)
      have hk' : (k : Int) < ((m + 1 : Nat) : Int) := by omega
      have hk'' : (k : Int) < (m : Int) + 1 := by omega
      have hkm : (k : Int) < (m : Int) := by omega
      have hk0 : (0 : Int) ≤ k := by omega
      clear htr hur hx hy hA1 hA2 hd hx3 hy3 hpm
      by_cases hg : Goes false n (strip y) (strip x)
      · rw [tb_true hg] at hcall
        have HC := Lib.hid hcall
        have HK2 := Lib.hid (show ∀ (j : Nat) (x y : LTy), j < k + 1 → t.xs[j]? = some x → u.xs[j]? = some y → Goes false n (strip y) (strip x) from fun j x' y' hj hx' hy' => by
          rcases Nat.lt_or_ge j k with h1 | h1
          · exact HK.out j x' y' h1 hx' hy'
          · obtain rfl : j = k := by omega
            rw [HX.out.1] at hx'
            rw [HX.out.2] at hy'
            obtain rfl := Option.some.inj hx'
            obtain rfl := Option.some.inj hy'
            exact hg)
        clear hcall hg
        go_wp2_with fail
        refine wp_region_held_drew (S := fun w' => TBox w' g t ∧ TBox w' (g + 1) u ∧ At3 w' (a1.add (k * 3)) x ∧ At3 w' (a2.add (k * 3)) y) (by kernel_rfl) (⟨BT.out, BU.out, X3.out, Y3.out⟩) (fun hHeld => ?_)
        refine wpAnyH_take (i := 0) (oi := _) (v := .pointer (some ⟨g + 1, 2, none⟩)) rfl (by kernel_rfl) (by kernel_rfl) (by kernel_rfl) (fun _ _ _ h => h) (Or.inl ⟨by rfl, fun w' hS => (by go_simp)⟩) hHeld ?_
        change wpAnyH _ _ _ _ _ _ _ (Act.put _ (some 112) _) _
        try simp only [Act.put, List.setIfInBounds_toArray, List.set_cons_zero, List.set_cons_succ]
        refine wpAnyH_take (i := 1) (oi := _) (v := .slice (some a2) (m + 1) u.c2) rfl (by kernel_rfl) (by kernel_rfl) (by kernel_rfl) (fun _ _ _ h => h) (Or.inl ⟨by rfl, fun w' hS => (by have q := TBox.c2 hS.2.1; rw [HN.out.2, HA2.out] at q; go_simp)⟩) hHeld ?_
        change wpAnyH _ _ _ _ _ _ _ (Act.put _ (some 113) _) _
        try simp only [Act.put, List.setIfInBounds_toArray, List.set_cons_zero, List.set_cons_succ]
        refine wpAnyH_take (i := 2) (oi := _) (v := .int .i64 (k : Int)) rfl (by kernel_rfl) (by kernel_rfl) (by kernel_rfl) (fun _ _ _ h => h) (Or.inl ⟨by rfl, fun w' hS => (by go_simp)⟩) hHeld ?_
        change wpAnyH _ _ _ _ _ _ _ (Act.put _ (some 114) _) _
        try simp only [Act.put, List.setIfInBounds_toArray, List.set_cons_zero, List.set_cons_succ]
        refine wpAnyH_take (i := 3) (oi := _) (v := .pointer (some (a2.add (k * 3)))) rfl (by kernel_rfl) (by kernel_rfl) (by kernel_rfl) (fun _ _ _ h => h) (Or.inl ⟨by rfl, fun w' hS => (by go_simp)⟩) hHeld ?_
        change wpAnyH _ _ _ _ _ _ _ (Act.put _ (some 115) _) _
        try simp only [Act.put, List.setIfInBounds_toArray, List.set_cons_zero, List.set_cons_succ]
        refine wpAnyH_take (i := 4) (oi := _) (v := .agg #[.int .i64 y.kind, .slice y.A y.ns.length y.c, .slice y.A2 y.xs.length y.c2]) rfl (by kernel_rfl) (by kernel_rfl) (by kernel_rfl) (fun _ _ _ h => h) (Or.inl ⟨by rfl, fun w' hS => (by obtain ⟨_, q0, q1, q2⟩ := hS.2.2.2; go_simp)⟩) hHeld ?_
        change wpAnyH _ _ _ _ _ _ _ (Act.put _ (some 116) _) _
        try simp only [Act.put, List.setIfInBounds_toArray, List.set_cons_zero, List.set_cons_succ]
        refine wpAnyH_take (i := 5) (oi := _) (v := .pointer (some ⟨g, 2, none⟩)) rfl (by kernel_rfl) (by kernel_rfl) (by kernel_rfl) (fun _ _ _ h => h) (Or.inl ⟨by rfl, fun w' hS => (by go_simp)⟩) hHeld ?_
        change wpAnyH _ _ _ _ _ _ _ (Act.put _ (some 117) _) _
        try simp only [Act.put, List.setIfInBounds_toArray, List.set_cons_zero, List.set_cons_succ]
        refine wpAnyH_take (i := 6) (oi := _) (v := .slice (some a1) (m + 1) t.c2) rfl (by kernel_rfl) (by kernel_rfl) (by kernel_rfl) (fun _ _ _ h => h) (Or.inl ⟨by rfl, fun w' hS => (by have q := TBox.c2 hS.1; rw [HN.out.1, HA1.out] at q; go_simp)⟩) hHeld ?_
        change wpAnyH _ _ _ _ _ _ _ (Act.put _ (some 118) _) _
        try simp only [Act.put, List.setIfInBounds_toArray, List.set_cons_zero, List.set_cons_succ]
        refine wpAnyH_take (i := 7) (oi := _) (v := .int .i64 (k : Int)) rfl (by kernel_rfl) (by kernel_rfl) (by kernel_rfl) (fun _ _ _ h => h) (Or.inl ⟨by rfl, fun w' hS => (by go_simp)⟩) hHeld ?_
        change wpAnyH _ _ _ _ _ _ _ (Act.put _ (some 119) _) _
        try simp only [Act.put, List.setIfInBounds_toArray, List.set_cons_zero, List.set_cons_succ]
        refine wpAnyH_take (i := 8) (oi := _) (v := .pointer (some (a1.add (k * 3)))) rfl (by kernel_rfl) (by kernel_rfl) (by kernel_rfl) (fun _ _ _ h => h) (Or.inl ⟨by rfl, fun w' hS => (by go_simp)⟩) hHeld ?_
        change wpAnyH _ _ _ _ _ _ _ (Act.put _ (some 120) _) _
        try simp only [Act.put, List.setIfInBounds_toArray, List.set_cons_zero, List.set_cons_succ]
        refine wpAnyH_take (i := 9) (oi := _) (v := .agg #[.int .i64 x.kind, .slice x.A x.ns.length x.c, .slice x.A2 x.xs.length x.c2]) rfl (by kernel_rfl) (by kernel_rfl) (by kernel_rfl) (fun _ _ _ h => h) (Or.inl ⟨by rfl, fun w' hS => (by obtain ⟨_, q0, q1, q2⟩ := hS.2.2.1; go_simp)⟩) hHeld ?_
        change wpAnyH _ _ _ _ _ _ _ (Act.put _ (some 121) _) _
        try simp only [Act.put, List.setIfInBounds_toArray, List.set_cons_zero, List.set_cons_succ]
        refine wpAnyH_ready (rs := [10]) (by kernel_rfl) (by simp) ?_
        refine AllReadyH.cons (o := _) rfl (fun K hK => ?_) AllReadyH.nil
        go_simp
        with_reducible refine HC.out.mono ?_
        rintro e w5 ⟨rfl, hb5⟩
        have HB5 := Lib.hid (show Below wr.heap.size wr w5 from (Below.refl _ _).drew.trans hb5)
        clear hb5
        refine hK.out _ _ (⟨BT.out.below HB5.out, BU.out.below HB5.out, X3.out.below HB5.out, Y3.out.below HB5.out⟩) (fun hHeld => ?_)
        clear hK K
        try simp only [Act.put, List.setIfInBounds_toArray, List.set_cons_zero, List.set_cons_succ]
        refine wpAnyH_take (i := 11) (oi := _) (v := .bool false) rfl (by kernel_rfl) (by kernel_rfl) (by kernel_rfl) (fun _ _ _ h => h) (Or.inl ⟨by rfl, fun w' hS => (by go_simp)⟩) hHeld ?_
        change wpAnyH _ _ _ _ _ _ _ (Act.put _ (some 123) _) _
        try simp only [Act.put, List.setIfInBounds_toArray, List.set_cons_zero, List.set_cons_succ]
        refine wpAnyH_done (by kernel_rfl) ?_ _
        go_wp2_with fail
        go_roundw
        case rel => exact ⟨k + 1, by omega, by go_num, HK2, Lib.hid (HW.out.trans (HB5.out.mono HW.out.size))⟩
        case measure => simp [intOf]; omega
      · rw [tb_false hg] at hcall
        have HC := Lib.hid hcall
        have e : ans = false := by rw [HG2.out]; exact tb_false fun e => hg (e.1 k x y hlt HX.out.1 HX.out.2)
        subst e
        clear hcall hg HG2
        go_wp2_with fail
        refine wp_region_held_drew (S := fun w' => TBox w' g t ∧ TBox w' (g + 1) u ∧ At3 w' (a1.add (k * 3)) x ∧ At3 w' (a2.add (k * 3)) y) (by kernel_rfl) (⟨BT.out, BU.out, X3.out, Y3.out⟩) (fun hHeld => ?_)
        refine wpAnyH_take (i := 0) (oi := _) (v := .pointer (some ⟨g + 1, 2, none⟩)) rfl (by kernel_rfl) (by kernel_rfl) (by kernel_rfl) (fun _ _ _ h => h) (Or.inl ⟨by rfl, fun w' hS => (by go_simp)⟩) hHeld ?_
        change wpAnyH _ _ _ _ _ _ _ (Act.put _ (some 112) _) _
        try simp only [Act.put, List.setIfInBounds_toArray, List.set_cons_zero, List.set_cons_succ]
        refine wpAnyH_take (i := 1) (oi := _) (v := .slice (some a2) (m + 1) u.c2) rfl (by kernel_rfl) (by kernel_rfl) (by kernel_rfl) (fun _ _ _ h => h) (Or.inl ⟨by rfl, fun w' hS => (by have q := TBox.c2 hS.2.1; rw [HN.out.2, HA2.out] at q; go_simp)⟩) hHeld ?_
        change wpAnyH _ _ _ _ _ _ _ (Act.put _ (some 113) _) _
        try simp only [Act.put, List.setIfInBounds_toArray, List.set_cons_zero, List.set_cons_succ]
        refine wpAnyH_take (i := 2) (oi := _) (v := .int .i64 (k : Int)) rfl (by kernel_rfl) (by kernel_rfl) (by kernel_rfl) (fun _ _ _ h => h) (Or.inl ⟨by rfl, fun w' hS => (by go_simp)⟩) hHeld ?_
        change wpAnyH _ _ _ _ _ _ _ (Act.put _ (some 114) _) _
        try simp only [Act.put, List.setIfInBounds_toArray, List.set_cons_zero, List.set_cons_succ]
        refine wpAnyH_take (i := 3) (oi := _) (v := .pointer (some (a2.add (k * 3)))) rfl (by kernel_rfl) (by kernel_rfl) (by kernel_rfl) (fun _ _ _ h => h) (Or.inl ⟨by rfl, fun w' hS => (by go_simp)⟩) hHeld ?_
        change wpAnyH _ _ _ _ _ _ _ (Act.put _ (some 115) _) _
        try simp only [Act.put, List.setIfInBounds_toArray, List.set_cons_zero, List.set_cons_succ]
        refine wpAnyH_take (i := 4) (oi := _) (v := .agg #[.int .i64 y.kind, .slice y.A y.ns.length y.c, .slice y.A2 y.xs.length y.c2]) rfl (by kernel_rfl) (by kernel_rfl) (by kernel_rfl) (fun _ _ _ h => h) (Or.inl ⟨by rfl, fun w' hS => (by obtain ⟨_, q0, q1, q2⟩ := hS.2.2.2; go_simp)⟩) hHeld ?_
        change wpAnyH _ _ _ _ _ _ _ (Act.put _ (some 116) _) _
        try simp only [Act.put, List.setIfInBounds_toArray, List.set_cons_zero, List.set_cons_succ]
        refine wpAnyH_take (i := 5) (oi := _) (v := .pointer (some ⟨g, 2, none⟩)) rfl (by kernel_rfl) (by kernel_rfl) (by kernel_rfl) (fun _ _ _ h => h) (Or.inl ⟨by rfl, fun w' hS => (by go_simp)⟩) hHeld ?_
        change wpAnyH _ _ _ _ _ _ _ (Act.put _ (some 117) _) _
        try simp only [Act.put, List.setIfInBounds_toArray, List.set_cons_zero, List.set_cons_succ]
        refine wpAnyH_take (i := 6) (oi := _) (v := .slice (some a1) (m + 1) t.c2) rfl (by kernel_rfl) (by kernel_rfl) (by kernel_rfl) (fun _ _ _ h => h) (Or.inl ⟨by rfl, fun w' hS => (by have q := TBox.c2 hS.1; rw [HN.out.1, HA1.out] at q; go_simp)⟩) hHeld ?_
        change wpAnyH _ _ _ _ _ _ _ (Act.put _ (some 118) _) _
        try simp only [Act.put, List.setIfInBounds_toArray, List.set_cons_zero, List.set_cons_succ]
        refine wpAnyH_take (i := 7) (oi := _) (v := .int .i64 (k : Int)) rfl (by kernel_rfl) (by kernel_rfl) (by kernel_rfl) (fun _ _ _ h => h) (Or.inl ⟨by rfl, fun w' hS => (by go_simp)⟩) hHeld ?_
        change wpAnyH _ _ _ _ _ _ _ (Act.put _ (some 119) _) _
        try simp only [Act.put, List.setIfInBounds_toArray, List.set_cons_zero, List.set_cons_succ]
        refine wpAnyH_take (i := 8) (oi := _) (v := .pointer (some (a1.add (k * 3)))) rfl (by kernel_rfl) (by kernel_rfl) (by kernel_rfl) (fun _ _ _ h => h) (Or.inl ⟨by rfl, fun w' hS => (by go_simp)⟩) hHeld ?_
        change wpAnyH _ _ _ _ _ _ _ (Act.put _ (some 120) _) _
        try simp only [Act.put, List.setIfInBounds_toArray, List.set_cons_zero, List.set_cons_succ]
        refine wpAnyH_take (i := 9) (oi := _) (v := .agg #[.int .i64 x.kind, .slice x.A x.ns.length x.c, .slice x.A2 x.xs.length x.c2]) rfl (by kernel_rfl) (by kernel_rfl) (by kernel_rfl) (fun _ _ _ h => h) (Or.inl ⟨by rfl, fun w' hS => (by obtain ⟨_, q0, q1, q2⟩ := hS.2.2.1; go_simp)⟩) hHeld ?_
        change wpAnyH _ _ _ _ _ _ _ (Act.put _ (some 121) _) _
        try simp only [Act.put, List.setIfInBounds_toArray, List.set_cons_zero, List.set_cons_succ]
        refine wpAnyH_ready (rs := [10]) (by kernel_rfl) (by simp) ?_
        refine AllReadyH.cons (o := _) rfl (fun K hK => ?_) AllReadyH.nil
        go_simp
        with_reducible refine HC.out.mono ?_
        rintro e w5 ⟨rfl, hb5⟩
        have HB5 := Lib.hid (show Below wr.heap.size wr w5 from (Below.refl _ _).drew.trans hb5)
        clear hb5
        refine hK.out _ _ (⟨BT.out.below HB5.out, BU.out.below HB5.out, X3.out.below HB5.out, Y3.out.below HB5.out⟩) (fun hHeld => ?_)
        clear hK K
        try simp only [Act.put, List.setIfInBounds_toArray, List.set_cons_zero, List.set_cons_succ]
        refine wpAnyH_take (i := 11) (oi := _) (v := .bool true) rfl (by kernel_rfl) (by kernel_rfl) (by kernel_rfl) (fun _ _ _ h => h) (Or.inl ⟨by rfl, fun w' hS => (by go_simp)⟩) hHeld ?_
        change wpAnyH _ _ _ _ _ _ _ (Act.put _ (some 123) _) _
        try simp only [Act.put, List.setIfInBounds_toArray, List.set_cons_zero, List.set_cons_succ]
        refine wpAnyH_done (by kernel_rfl) ?_ _
        go_wp2
        go_ret
        exact ⟨rfl, KBr.out.trans (HB5.out.mono KBr.out.size)⟩
    · obtain rfl : k = m := by omega
      have hcall := HIH.out x y wr.drew ((htr.part hx).on hd) ((hur.part hy).on hd) hpm.1.1 hpm.2.1 hpm.1.2 hpm.2.2
      rw [show tb (Goes false n (strip x) (strip y)) = ans by
        rw [HG2.out]
        refine tb_congr ⟨fun e => ⟨HK.out, fun x' y' hx' hy' => ?_⟩, fun e => e.2 x y hx hy⟩
        rw [hx] at hx'
        rw [hy] at hy'
        obtain rfl := Option.some.inj hx'
        obtain rfl := Option.some.inj hy'
        exact e] at hcall
      unfold LTy.val at hcall
      have HC := Lib.hid hcall
      have hk' : (k : Int) < ((k + 1 : Nat) : Int) := by omega
      have hk'' : (k : Int) < (k : Int) + 1 := by omega
      have hkm : ¬ (k : Int) < (k : Int) := by omega
      have hk0 : (0 : Int) ≤ k := by omega
      clear htr hur hx hy hA1 hA2 hd hx3 hy3 hpm hcall hlt
      go_wp2_with fail
      refine wp_region_held_drew (S := fun w' => TBox w' g t ∧ TBox w' (g + 1) u ∧ At3 w' (a1.add (k * 3)) x ∧ At3 w' (a2.add (k * 3)) y) (by kernel_rfl) (⟨BT.out, BU.out, X3.out, Y3.out⟩) (fun hHeld => ?_)
      refine wpAnyH_take (i := 0) (oi := _) (v := .pointer (some ⟨g, 2, none⟩)) rfl (by kernel_rfl) (by kernel_rfl) (by kernel_rfl) (fun _ _ _ h => h) (Or.inl ⟨by rfl, fun w' hS => (by go_simp)⟩) hHeld ?_
      change wpAnyH _ _ _ _ _ _ _ (Act.put _ (some 124) _) _
      try simp only [Act.put, List.setIfInBounds_toArray, List.set_cons_zero, List.set_cons_succ]
      refine wpAnyH_take (i := 1) (oi := _) (v := .slice (some a1) (k + 1) t.c2) rfl (by kernel_rfl) (by kernel_rfl) (by kernel_rfl) (fun _ _ _ h => h) (Or.inl ⟨by rfl, fun w' hS => (by have q := TBox.c2 hS.1; rw [HN.out.1, HA1.out] at q; go_simp)⟩) hHeld ?_
      change wpAnyH _ _ _ _ _ _ _ (Act.put _ (some 125) _) _
      try simp only [Act.put, List.setIfInBounds_toArray, List.set_cons_zero, List.set_cons_succ]
      refine wpAnyH_take (i := 2) (oi := _) (v := .int .i64 (k : Int)) rfl (by kernel_rfl) (by kernel_rfl) (by kernel_rfl) (fun _ _ _ h => h) (Or.inl ⟨by rfl, fun w' hS => (by go_simp)⟩) hHeld ?_
      change wpAnyH _ _ _ _ _ _ _ (Act.put _ (some 126) _) _
      try simp only [Act.put, List.setIfInBounds_toArray, List.set_cons_zero, List.set_cons_succ]
      refine wpAnyH_take (i := 3) (oi := _) (v := .pointer (some (a1.add (k * 3)))) rfl (by kernel_rfl) (by kernel_rfl) (by kernel_rfl) (fun _ _ _ h => h) (Or.inl ⟨by rfl, fun w' hS => (by go_simp)⟩) hHeld ?_
      change wpAnyH _ _ _ _ _ _ _ (Act.put _ (some 127) _) _
      try simp only [Act.put, List.setIfInBounds_toArray, List.set_cons_zero, List.set_cons_succ]
      refine wpAnyH_take (i := 4) (oi := _) (v := .agg #[.int .i64 x.kind, .slice x.A x.ns.length x.c, .slice x.A2 x.xs.length x.c2]) rfl (by kernel_rfl) (by kernel_rfl) (by kernel_rfl) (fun _ _ _ h => h) (Or.inl ⟨by rfl, fun w' hS => (by obtain ⟨_, q0, q1, q2⟩ := hS.2.2.1; go_simp)⟩) hHeld ?_
      change wpAnyH _ _ _ _ _ _ _ (Act.put _ (some 128) _) _
      try simp only [Act.put, List.setIfInBounds_toArray, List.set_cons_zero, List.set_cons_succ]
      refine wpAnyH_take (i := 5) (oi := _) (v := .pointer (some ⟨g + 1, 2, none⟩)) rfl (by kernel_rfl) (by kernel_rfl) (by kernel_rfl) (fun _ _ _ h => h) (Or.inl ⟨by rfl, fun w' hS => (by go_simp)⟩) hHeld ?_
      change wpAnyH _ _ _ _ _ _ _ (Act.put _ (some 129) _) _
      try simp only [Act.put, List.setIfInBounds_toArray, List.set_cons_zero, List.set_cons_succ]
      refine wpAnyH_take (i := 6) (oi := _) (v := .slice (some a2) (k + 1) u.c2) rfl (by kernel_rfl) (by kernel_rfl) (by kernel_rfl) (fun _ _ _ h => h) (Or.inl ⟨by rfl, fun w' hS => (by have q := TBox.c2 hS.2.1; rw [HN.out.2, HA2.out] at q; go_simp)⟩) hHeld ?_
      change wpAnyH _ _ _ _ _ _ _ (Act.put _ (some 130) _) _
      try simp only [Act.put, List.setIfInBounds_toArray, List.set_cons_zero, List.set_cons_succ]
      refine wpAnyH_take (i := 7) (oi := _) (v := .int .i64 (k : Int)) rfl (by kernel_rfl) (by kernel_rfl) (by kernel_rfl) (fun _ _ _ h => h) (Or.inl ⟨by rfl, fun w' hS => (by go_simp)⟩) hHeld ?_
      change wpAnyH _ _ _ _ _ _ _ (Act.put _ (some 131) _) _
      try simp only [Act.put, List.setIfInBounds_toArray, List.set_cons_zero, List.set_cons_succ]
      refine wpAnyH_take (i := 8) (oi := _) (v := .pointer (some (a2.add (k * 3)))) rfl (by kernel_rfl) (by kernel_rfl) (by kernel_rfl) (fun _ _ _ h => h) (Or.inl ⟨by rfl, fun w' hS => (by go_simp)⟩) hHeld ?_
      change wpAnyH _ _ _ _ _ _ _ (Act.put _ (some 132) _) _
      try simp only [Act.put, List.setIfInBounds_toArray, List.set_cons_zero, List.set_cons_succ]
      refine wpAnyH_take (i := 9) (oi := _) (v := .agg #[.int .i64 y.kind, .slice y.A y.ns.length y.c, .slice y.A2 y.xs.length y.c2]) rfl (by kernel_rfl) (by kernel_rfl) (by kernel_rfl) (fun _ _ _ h => h) (Or.inl ⟨by rfl, fun w' hS => (by obtain ⟨_, q0, q1, q2⟩ := hS.2.2.2; go_simp)⟩) hHeld ?_
      change wpAnyH _ _ _ _ _ _ _ (Act.put _ (some 133) _) _
      try simp only [Act.put, List.setIfInBounds_toArray, List.set_cons_zero, List.set_cons_succ]
      refine wpAnyH_ready (rs := [10]) (by kernel_rfl) (by simp) ?_
      refine AllReadyH.cons (o := _) rfl (fun K hK => ?_) AllReadyH.nil
      go_simp
      with_reducible refine HC.out.mono ?_
      rintro e w5 ⟨rfl, hb5⟩
      have HB5 := Lib.hid (show Below wr.heap.size wr w5 from (Below.refl _ _).drew.trans hb5)
      clear hb5
      refine hK.out _ _ (⟨BT.out.below HB5.out, BU.out.below HB5.out, X3.out.below HB5.out, Y3.out.below HB5.out⟩) (fun hHeld => ?_)
      clear hK K
      try simp only [Act.put, List.setIfInBounds_toArray, List.set_cons_zero, List.set_cons_succ]
      refine wpAnyH_take (i := 11) (oi := _) (v := .bool ans) rfl (by kernel_rfl) (by kernel_rfl) (by kernel_rfl) (fun _ _ _ h => h) (Or.inl ⟨by rfl, fun w' hS => (by go_simp)⟩) hHeld ?_
      change wpAnyH _ _ _ _ _ _ _ (Act.put _ (some 4) _) _
      try simp only [Act.put, List.setIfInBounds_toArray, List.set_cons_zero, List.set_cons_succ]
      refine wpAnyH_done (by kernel_rfl) ?_ _
      go_wp2
      go_ret
      exact ⟨by first | rfl | (cases ans <;> rfl), KBr.out.trans (HB5.out.mono KBr.out.size)⟩
theorem rsub_all : ∀ n, SubAll 53 false n
  | 0 => fun t u w _ _ _ _ ct _ => ct.elim
  | n + 1 => rsub_succ n (rsub_all n)
end Go.Proofs.YtllpicibncdppaaDoor
