/-
  precise of both texts: whether a type says at least as much as another.
-/
import Derived.Test.YtllpicibncdppaaDoorTyTwo
set_option linter.unusedVariables false
set_option linter.unusedSimpArgs false
namespace Go.Proofs.YtllpicibncdppaaDoor
open Go.ChangeShapes Go.WideShapes Go.ChangeAt Go.RowKit

theorem prec_paired {n : Nat} {a b : Ty} (ca : Chk (n + 1) a) (hp : Paired a b) (h0 : ¬ b.kind = 0) : Prec (n + 1) a b ↔ ∀ (i : Nat) (x y : Ty), a.args[i]? = some x → b.args[i]? = some y → Prec n x y := by
  constructor
  · rintro (h | ⟨h, _⟩ | rfl | ⟨_, h⟩)
    · exact (h0 h).elim
    · have := hp.kind; omega
    · intro i x y hx hy
      rw [hx] at hy
      obtain rfl := Option.some.inj hy
      obtain ⟨m, rfl⟩ : ∃ m, n = m + 1 := ⟨n - 1, by have := chk_deep (ca.part hx); omega⟩
      exact prec_refl
    · exact h
  · exact fun h => .inr (.inr (.inr ⟨hp, h⟩))
theorem prec_else {n : Nat} {a b : Ty} (hp : ¬ Paired a b) (h0 : ¬ b.kind = 0) (h58 : ¬ (b.kind = 5 ∧ a.kind = 8)) : Prec (n + 1) a b ↔ a = b := by
  constructor
  · rintro (h | h | h | ⟨h, _⟩)
    · exact (h0 h).elim
    · exact (h58 h).elim
    · exact h
    · exact (hp h).elim
  · exact fun h => .inr (.inr (.inl h))
def PrecAll (f : Nat) (n : Nat) : Prop := ∀ (t u : LTy) (w : World), LIn w w.heap.size t → LIn w w.heap.size u → SpW w → May (strip t) → May (strip u) → Chk n (strip t) → Chk n (strip u) →
  Calls Tryd.prog f #[t.val, u.val] w (RetB (.bool (tb (Prec n (strip t) (strip u)))) w)
def RPrecAll (f : Nat) (n : Nat) : Prop := ∀ (t u : LTy) (w : World), LIn w w.heap.size t → LIn w w.heap.size u → May (strip t) → May (strip u) → Chk n (strip t) → Chk n (strip u) →
  Calls Tryd.prog f #[t.val, u.val] w (RetB (.bool (tb (Prec n (strip t) (strip u)))) w)
set_option maxRecDepth 100000 in
set_option maxHeartbeats 8000000 in
theorem prec_succ (n : Nat) (ih : PrecAll 63 n) : PrecAll 63 (n + 1) := by
  intro t u w ht hu hsp mt mu ct cu
  have HMT := Lib.hid mt
  have HMU := Lib.hid mu
  have HCT := Lib.hid ct
  have HCU := Lib.hid cu
  have HIH := Lib.hid ih
  clear ih mt mu ct cu
  obtain ⟨ans, hans⟩ : ∃ ans, ans = tb (Prec (n + 1) (strip t) (strip u)) := ⟨_, rfl⟩
  rw [← hans]
  have HA := Lib.hid hans
  clear hans
  have HKT := Lib.hid (strip_kind t)
  have HKU := Lib.hid (strip_kind u)
  unfold LTy.val
  obtain ⟨g, hg⟩ : ∃ g, g = w.heap.size := ⟨_, rfl⟩
  have HT := Lib.hid ht
  have HU := Lib.hid hu
  have HSP := Lib.hid hsp
  clear hsp
  clear ht hu
  go_enter Tryd.func63, Tryd.ntmps63
  go_upto_region 1 with fail
  rw [← hg]
  refine gen_wpT fun W hW => ?_
  obtain ⟨kt, ku, kb⟩ : TBox W g t ∧ TBox W (g + 1) u ∧ Below w.heap.size w W := by rw [← hW, hg]; exact two_boxes w t u
  have KB := Lib.hid kb
  have ktc0 := kt.c0
  have ktc1 := kt.c1
  have ktc2 := kt.c2
  have ktlt := kt.lt
  have kuc0 := ku.c0
  have kuc1 := ku.c1
  have kuc2 := ku.c2
  have kult := ku.lt
  clear hW hg
  have KT := Lib.hid kt
  have KU := Lib.hid ku
  clear kt ku kb
  by_cases hu0 : u.kind = 0
  · have e : ans = true := by rw [HA.out]; exact tb_true (.inl (by rw [HKU.out]; exact hu0))
    subst e
    have eu : (u.kind == 0) = true := beq_iff_eq.2 hu0
    clear hu0 HA
    go_wp2
    go_ret
    exact ⟨rfl, KB.out⟩
  have eu : (u.kind == 0) = false := beq_eq_false_iff_ne.2 hu0
  by_cases h58 : u.kind = 5 ∧ t.kind = 8
  · have e : ans = true := by rw [HA.out]; exact tb_true (.inr (.inl ⟨by rw [HKU.out]; exact h58.1, by rw [HKT.out]; exact h58.2⟩))
    subst e
    have eu5 : (u.kind == 5) = true := beq_iff_eq.2 h58.1
    have et8 : (t.kind == 8) = true := beq_iff_eq.2 h58.2
    clear hu0 HA h58
    go_wp2
    go_ret
    exact ⟨rfl, KB.out⟩
  have hor : (u.kind == 5) = false ∨ ((u.kind == 5) = true ∧ (t.kind == 8) = false) := by
    by_cases h5 : u.kind = 5
    · exact .inr ⟨beq_iff_eq.2 h5, beq_eq_false_iff_ne.2 fun e => h58 ⟨h5, e⟩⟩
    · exact .inl (beq_eq_false_iff_ne.2 h5)
  have hpr := paired_any t u W (HT.out.on KB.out) (HU.out.on KB.out)
  unfold LTy.val at hpr
  by_cases hp : Paired (strip t) (strip u)
  case neg =>
    rw [tb_false hp] at hpr
    have HPR := Lib.hid hpr
    have HG := Lib.hid (show ans = tb (strip t = strip u) by rw [HA.out]; exact tb_congr (prec_else hp (by rw [HKU.out]; exact hu0) (by rw [HKU.out, HKT.out]; exact h58)))
    have HSM := Lib.hid (show ∀ w', Below w.heap.size w w' → Calls Tryd.prog 33 #[.agg #[.int .i64 t.kind, .slice t.A t.ns.length t.c, .slice t.A2 t.xs.length t.c2], .agg #[.int .i64 u.kind, .slice u.A u.ns.length u.c, .slice u.A2 u.xs.length u.c2]] w' (RetB (.bool ans) w') from fun w' hb => by
      have := tsame_any t u w' (HT.out.on hb) (HU.out.on hb) (HSP.out.below hb)
      rw [show tb (strip t = strip u ∧ May (strip t)) = ans by rw [tb_and, tb_true HMT.out, HG.out]; cases tb (strip t = strip u) <;> rfl] at this
      unfold LTy.val at this
      exact this)
    clear hu0 HA h58 hpr hp
    rcases hor with e5 | ⟨e5, e8⟩
    all_goals
      skip
      go_wp2_with fail
      with_reducible refine (HPR.out).mono ?_
      rintro e w1 ⟨rfl, hb1⟩
      have T1 := Lib.hid (KT.out.below hb1)
      have U1 := Lib.hid (KU.out.below hb1)
      have B1 := Lib.hid (KB.out.trans (hb1.mono KB.out.size))
      have t1 := T1.out
      have u1 := U1.out
      have t1c0 := t1.c0
      have t1c1 := t1.c1
      have t1c2 := t1.c2
      have t1lt := t1.lt
      have u1c0 := u1.c0
      have u1c1 := u1.c1
      have u1c2 := u1.c2
      have u1lt := u1.lt
      clear hb1 t1 u1
      go_wp2_with fail
      with_reducible refine ((HSM.out w1 B1.out)).mono ?_
      rintro e w2 ⟨rfl, hb2⟩
      have T2 := Lib.hid (T1.out.below hb2)
      have U2 := Lib.hid (U1.out.below hb2)
      have B2 := Lib.hid (B1.out.trans (hb2.mono B1.out.size))
      have t2 := T2.out
      have u2 := U2.out
      have t2c0 := t2.c0
      have t2c1 := t2.c1
      have t2c2 := t2.c2
      have t2lt := t2.lt
      have u2c0 := u2.c0
      have u2c1 := u2.c1
      have u2c2 := u2.c2
      have u2lt := u2.lt
      clear hb2 t2 u2
      go_wp2
      go_ret
      exact ⟨rfl, B2.out⟩
  rw [tb_true hp] at hpr
  have hlen : t.xs.length = u.xs.length := by have := hp.2.2; rwa [strip_len, strip_len] at this
  obtain ⟨n2, hn2⟩ : ∃ n, n = t.xs.length := ⟨_, rfl⟩
  have HN := Lib.hid (show t.xs.length = n2 ∧ u.xs.length = n2 from ⟨hn2.symm, by rw [hn2]; exact hlen.symm⟩)
  have hl2 := HT.out.n2.2
  rw [← hn2] at hl2
  have HG := Lib.hid (show ans = tb (∀ (i : Nat) (x y : LTy), t.xs[i]? = some x → u.xs[i]? = some y → Prec n (strip x) (strip y)) by
    rw [HA.out, tb_congr (prec_paired HCT.out hp (by rw [HKU.out]; exact hu0))]
    refine tb_congr ⟨fun e i x y hx hy => e i _ _ (strip_at hx) (strip_at hy), fun e i x y hx hy => ?_⟩
    obtain ⟨x', hx', rfl⟩ := strip_of hx
    obtain ⟨y', hy', rfl⟩ := strip_of hy
    exact e i x' y' hx' hy')
  have HPM := Lib.hid (show ∀ (i : Nat) (x y : LTy), t.xs[i]? = some x → u.xs[i]? = some y → (May (strip x) ∧ Chk n (strip x)) ∧ May (strip y) ∧ Chk n (strip y) from fun i x y hx hy => ⟨⟨HMT.out.part (strip_at hx), HCT.out.part (strip_at hx)⟩, HMU.out.part (strip_at hy), HCU.out.part (strip_at hy)⟩)
  rw [HN.out.1, HN.out.2] at hpr
  rw [HN.out.1] at ktc2
  rw [HN.out.2] at kuc2
  have HPR := Lib.hid hpr
  clear hu0 HA h58 hpr hp hlen hn2
  rcases hor with e5 | ⟨e5, e8⟩
  all_goals
    skip
    go_wp2_with fail
    with_reducible refine (HPR.out).mono ?_
    rintro e w1 ⟨rfl, hb1⟩
    have T1 := Lib.hid (KT.out.below hb1)
    have U1 := Lib.hid (KU.out.below hb1)
    have B1 := Lib.hid (KB.out.trans (hb1.mono KB.out.size))
    have t1 := T1.out
    have u1 := U1.out
    have t1c0 := t1.c0
    have t1c1 := t1.c1
    have t1c2 := t1.c2
    have t1lt := t1.lt
    have u1c0 := u1.c0
    have u1c1 := u1.c1
    have u1c2 := u1.c2
    have u1lt := u1.lt
    clear hb1 t1 u1
    rw [HN.out.1] at t1c2
    rw [HN.out.2] at u1c2
    go_wp2_with fail
    clear t1c2 u1c2 t1c0 t1c1 u1c0 u1c1
    go_loopw [25] (fun i wr => ∃ k : Nat, k ≤ n2 ∧ i = .int .i64 k ∧ Hid (∀ (j : Nat) (x y : LTy), j < k → t.xs[j]? = some x → u.xs[j]? = some y → Prec n (strip x) (strip y)) ∧ Hid (Below w1.heap.size w1 wr)) (fun i _ => n2 - (intOf i).toNat)
    case atStart => exact ⟨0, by omega, rfl, Lib.hid (fun j x y hj => by omega), Lib.hid (below_drewT (Below.refl _ _) 0)⟩
    case round =>
      obtain ⟨k, hk, rfl, HK, HW⟩ := hrel
      have KBr := Lib.hid (B1.out.trans (HW.out.mono B1.out.size))
      by_cases hlt : k < n2
      case neg =>
        obtain rfl : k = n2 := by omega
        have hkk : ¬ (k : Int) < (k : Int) := by omega
        have e : ans = true := by
          rw [HG.out]
          exact tb_true fun i x y hx hy => HK.out i x y (by have := (List.getElem?_eq_some_iff.1 hx).1; rw [HN.out.1] at this; exact this) hx hy
        subst e
        go_wp2
        go_ret
        exact ⟨rfl, KBr.out⟩
      obtain ⟨x, hx⟩ : ∃ x, t.xs[k]? = some x := ⟨_, List.getElem?_eq_getElem (by rw [HN.out.1]; omega)⟩
      obtain ⟨y, hy⟩ : ∃ y, u.xs[k]? = some y := ⟨_, List.getElem?_eq_getElem (by rw [HN.out.2]; omega)⟩
      have htr := HT.out.on KBr.out
      have hur := HU.out.on KBr.out
      obtain ⟨a1, hA1, hx3⟩ := htr.at3 hx
      obtain ⟨a2, hA2, hy3⟩ := hur.at3 hy
      have BT := Lib.hid (T1.out.below HW.out)
      have BU := Lib.hid (U1.out.below HW.out)
      have X3 := Lib.hid hx3
      have Y3 := Lib.hid hy3
      have HA1 := Lib.hid hA1
      have HA2 := Lib.hid hA2
      have hd : Below wr.heap.size wr wr.drew := (Below.refl _ _).drew
      have hpm := HPM.out k x y hx hy
      have lt1 := BT.out.lt
      have lu1 := BU.out.lt
      have hwk : IntKind.i64.wrap (k : Int) = (k : Int) := IntWalk.i64_in _ (by omega)
      have hcall := HIH.out x y wr.drew ((htr.part hx).on hd) ((hur.part hy).on hd) (HSP.out.below (KBr.out.trans (hd.mono KBr.out.size))) hpm.1.1 hpm.2.1 hpm.1.2 hpm.2.2
      unfold LTy.val at hcall
      have HX := Lib.hid (show t.xs[k]? = some x ∧ u.xs[k]? = some y from ⟨hx, hy⟩)
      have hk' : (k : Int) < (n2 : Int) := by omega
      have hk0 : (0 : Int) ≤ k := by omega
      clear htr hur hx hy hA1 hA2 hd hx3 hy3 hpm
      by_cases hg : Prec n (strip x) (strip y)
      · rw [tb_true hg] at hcall
        have HC := Lib.hid hcall
        have HK2 := Lib.hid (show ∀ (j : Nat) (x y : LTy), j < k + 1 → t.xs[j]? = some x → u.xs[j]? = some y → Prec n (strip x) (strip y) from fun j x' y' hj hx' hy' => by
          rcases Nat.lt_or_ge j k with h1 | h1
          · exact HK.out j x' y' h1 hx' hy'
          · obtain rfl : j = k := by omega
            rw [HX.out.1] at hx'
            rw [HX.out.2] at hy'
            obtain rfl := Option.some.inj hx'
            obtain rfl := Option.some.inj hy'
            exact hg)
        clear hcall hg
        go_wp2_with fail
        refine wp_region_held_drew (S := fun w' => TBox w' g t ∧ TBox w' (g + 1) u ∧ At3 w' (a1.add (k * 3)) x ∧ At3 w' (a2.add (k * 3)) y) (by kernel_rfl) (⟨BT.out, BU.out, X3.out, Y3.out⟩) (fun hHeld => ?_)
        refine wpAnyH_take (i := 0) (oi := _) (v := .pointer (some ⟨g, 2, none⟩)) rfl (by kernel_rfl) (by kernel_rfl) (by kernel_rfl) (fun _ _ _ h => h) (Or.inl ⟨by rfl, fun w' hS => (by go_simp)⟩) hHeld ?_
        change wpAnyH _ _ _ _ _ _ _ (Act.put _ (some 28) _) _
        try simp only [Act.put, List.setIfInBounds_toArray, List.set_cons_zero, List.set_cons_succ]
        refine wpAnyH_take (i := 1) (oi := _) (v := .slice (some a1) n2 t.c2) rfl (by kernel_rfl) (by kernel_rfl) (by kernel_rfl) (fun _ _ _ h => h) (Or.inl ⟨by rfl, fun w' hS => (by have q := TBox.c2 hS.1; rw [HN.out.1, HA1.out] at q; go_simp)⟩) hHeld ?_
        change wpAnyH _ _ _ _ _ _ _ (Act.put _ (some 29) _) _
        try simp only [Act.put, List.setIfInBounds_toArray, List.set_cons_zero, List.set_cons_succ]
        refine wpAnyH_take (i := 2) (oi := _) (v := .int .i64 (k : Int)) rfl (by kernel_rfl) (by kernel_rfl) (by kernel_rfl) (fun _ _ _ h => h) (Or.inl ⟨by rfl, fun w' hS => (by go_simp)⟩) hHeld ?_
        change wpAnyH _ _ _ _ _ _ _ (Act.put _ (some 30) _) _
        try simp only [Act.put, List.setIfInBounds_toArray, List.set_cons_zero, List.set_cons_succ]
        refine wpAnyH_take (i := 3) (oi := _) (v := .pointer (some (a1.add (k * 3)))) rfl (by kernel_rfl) (by kernel_rfl) (by kernel_rfl) (fun _ _ _ h => h) (Or.inl ⟨by rfl, fun w' hS => (by go_simp)⟩) hHeld ?_
        change wpAnyH _ _ _ _ _ _ _ (Act.put _ (some 31) _) _
        try simp only [Act.put, List.setIfInBounds_toArray, List.set_cons_zero, List.set_cons_succ]
        refine wpAnyH_take (i := 4) (oi := _) (v := .agg #[.int .i64 x.kind, .slice x.A x.ns.length x.c, .slice x.A2 x.xs.length x.c2]) rfl (by kernel_rfl) (by kernel_rfl) (by kernel_rfl) (fun _ _ _ h => h) (Or.inl ⟨by rfl, fun w' hS => (by obtain ⟨_, q0, q1, q2⟩ := hS.2.2.1; go_simp)⟩) hHeld ?_
        change wpAnyH _ _ _ _ _ _ _ (Act.put _ (some 32) _) _
        try simp only [Act.put, List.setIfInBounds_toArray, List.set_cons_zero, List.set_cons_succ]
        refine wpAnyH_take (i := 5) (oi := _) (v := .pointer (some ⟨g + 1, 2, none⟩)) rfl (by kernel_rfl) (by kernel_rfl) (by kernel_rfl) (fun _ _ _ h => h) (Or.inl ⟨by rfl, fun w' hS => (by go_simp)⟩) hHeld ?_
        change wpAnyH _ _ _ _ _ _ _ (Act.put _ (some 33) _) _
        try simp only [Act.put, List.setIfInBounds_toArray, List.set_cons_zero, List.set_cons_succ]
        refine wpAnyH_take (i := 6) (oi := _) (v := .slice (some a2) n2 u.c2) rfl (by kernel_rfl) (by kernel_rfl) (by kernel_rfl) (fun _ _ _ h => h) (Or.inl ⟨by rfl, fun w' hS => (by have q := TBox.c2 hS.2.1; rw [HN.out.2, HA2.out] at q; go_simp)⟩) hHeld ?_
        change wpAnyH _ _ _ _ _ _ _ (Act.put _ (some 34) _) _
        try simp only [Act.put, List.setIfInBounds_toArray, List.set_cons_zero, List.set_cons_succ]
        refine wpAnyH_take (i := 7) (oi := _) (v := .int .i64 (k : Int)) rfl (by kernel_rfl) (by kernel_rfl) (by kernel_rfl) (fun _ _ _ h => h) (Or.inl ⟨by rfl, fun w' hS => (by go_simp)⟩) hHeld ?_
        change wpAnyH _ _ _ _ _ _ _ (Act.put _ (some 35) _) _
        try simp only [Act.put, List.setIfInBounds_toArray, List.set_cons_zero, List.set_cons_succ]
        refine wpAnyH_take (i := 8) (oi := _) (v := .pointer (some (a2.add (k * 3)))) rfl (by kernel_rfl) (by kernel_rfl) (by kernel_rfl) (fun _ _ _ h => h) (Or.inl ⟨by rfl, fun w' hS => (by go_simp)⟩) hHeld ?_
        change wpAnyH _ _ _ _ _ _ _ (Act.put _ (some 36) _) _
        try simp only [Act.put, List.setIfInBounds_toArray, List.set_cons_zero, List.set_cons_succ]
        refine wpAnyH_take (i := 9) (oi := _) (v := .agg #[.int .i64 y.kind, .slice y.A y.ns.length y.c, .slice y.A2 y.xs.length y.c2]) rfl (by kernel_rfl) (by kernel_rfl) (by kernel_rfl) (fun _ _ _ h => h) (Or.inl ⟨by rfl, fun w' hS => (by obtain ⟨_, q0, q1, q2⟩ := hS.2.2.2; go_simp)⟩) hHeld ?_
        change wpAnyH _ _ _ _ _ _ _ (Act.put _ (some 37) _) _
        try simp only [Act.put, List.setIfInBounds_toArray, List.set_cons_zero, List.set_cons_succ]
        refine wpAnyH_ready (rs := [10]) (by kernel_rfl) (by simp) ?_
        refine AllReadyH.cons (o := _) rfl (fun K hK => ?_) AllReadyH.nil
        go_simp
        with_reducible refine HC.out.mono ?_
        rintro e w5 ⟨rfl, hb5⟩
        have HB5 := Lib.hid (show Below wr.heap.size wr w5 from (Below.refl _ _).drew.trans hb5)
        clear hb5
        refine hK.out _ _ (⟨BT.out.below HB5.out, BU.out.below HB5.out, X3.out.below HB5.out, Y3.out.below HB5.out⟩) (fun hHeld => ?_)
        clear hK K
        try simp only [Act.put, List.setIfInBounds_toArray, List.set_cons_zero, List.set_cons_succ]
        refine wpAnyH_take (i := 11) (oi := _) (v := .bool false) rfl (by kernel_rfl) (by kernel_rfl) (by kernel_rfl) (fun _ _ _ h => h) (Or.inl ⟨by rfl, fun w' hS => (by go_simp)⟩) hHeld ?_
        change wpAnyH _ _ _ _ _ _ _ (Act.put _ (some 39) _) _
        try simp only [Act.put, List.setIfInBounds_toArray, List.set_cons_zero, List.set_cons_succ]
        refine wpAnyH_done (by kernel_rfl) ?_ _
        go_wp2_with fail
        go_roundw
        case rel => exact ⟨k + 1, by omega, by go_num, HK2, Lib.hid (HW.out.trans (HB5.out.mono HW.out.size))⟩
        case measure => simp [intOf]; omega
      · rw [tb_false hg] at hcall
        have HC := Lib.hid hcall
        have e : ans = false := by rw [HG.out]; exact tb_false fun e => hg (e k x y HX.out.1 HX.out.2)
        subst e
        clear hcall hg HG
        go_wp2_with fail
        refine wp_region_held_drew (S := fun w' => TBox w' g t ∧ TBox w' (g + 1) u ∧ At3 w' (a1.add (k * 3)) x ∧ At3 w' (a2.add (k * 3)) y) (by kernel_rfl) (⟨BT.out, BU.out, X3.out, Y3.out⟩) (fun hHeld => ?_)
        refine wpAnyH_take (i := 0) (oi := _) (v := .pointer (some ⟨g, 2, none⟩)) rfl (by kernel_rfl) (by kernel_rfl) (by kernel_rfl) (fun _ _ _ h => h) (Or.inl ⟨by rfl, fun w' hS => (by go_simp)⟩) hHeld ?_
        change wpAnyH _ _ _ _ _ _ _ (Act.put _ (some 28) _) _
        try simp only [Act.put, List.setIfInBounds_toArray, List.set_cons_zero, List.set_cons_succ]
        refine wpAnyH_take (i := 1) (oi := _) (v := .slice (some a1) n2 t.c2) rfl (by kernel_rfl) (by kernel_rfl) (by kernel_rfl) (fun _ _ _ h => h) (Or.inl ⟨by rfl, fun w' hS => (by have q := TBox.c2 hS.1; rw [HN.out.1, HA1.out] at q; go_simp)⟩) hHeld ?_
        change wpAnyH _ _ _ _ _ _ _ (Act.put _ (some 29) _) _
        try simp only [Act.put, List.setIfInBounds_toArray, List.set_cons_zero, List.set_cons_succ]
        refine wpAnyH_take (i := 2) (oi := _) (v := .int .i64 (k : Int)) rfl (by kernel_rfl) (by kernel_rfl) (by kernel_rfl) (fun _ _ _ h => h) (Or.inl ⟨by rfl, fun w' hS => (by go_simp)⟩) hHeld ?_
        change wpAnyH _ _ _ _ _ _ _ (Act.put _ (some 30) _) _
        try simp only [Act.put, List.setIfInBounds_toArray, List.set_cons_zero, List.set_cons_succ]
        refine wpAnyH_take (i := 3) (oi := _) (v := .pointer (some (a1.add (k * 3)))) rfl (by kernel_rfl) (by kernel_rfl) (by kernel_rfl) (fun _ _ _ h => h) (Or.inl ⟨by rfl, fun w' hS => (by go_simp)⟩) hHeld ?_
        change wpAnyH _ _ _ _ _ _ _ (Act.put _ (some 31) _) _
        try simp only [Act.put, List.setIfInBounds_toArray, List.set_cons_zero, List.set_cons_succ]
        refine wpAnyH_take (i := 4) (oi := _) (v := .agg #[.int .i64 x.kind, .slice x.A x.ns.length x.c, .slice x.A2 x.xs.length x.c2]) rfl (by kernel_rfl) (by kernel_rfl) (by kernel_rfl) (fun _ _ _ h => h) (Or.inl ⟨by rfl, fun w' hS => (by obtain ⟨_, q0, q1, q2⟩ := hS.2.2.1; go_simp)⟩) hHeld ?_
        change wpAnyH _ _ _ _ _ _ _ (Act.put _ (some 32) _) _
        try simp only [Act.put, List.setIfInBounds_toArray, List.set_cons_zero, List.set_cons_succ]
        refine wpAnyH_take (i := 5) (oi := _) (v := .pointer (some ⟨g + 1, 2, none⟩)) rfl (by kernel_rfl) (by kernel_rfl) (by kernel_rfl) (fun _ _ _ h => h) (Or.inl ⟨by rfl, fun w' hS => (by go_simp)⟩) hHeld ?_
        change wpAnyH _ _ _ _ _ _ _ (Act.put _ (some 33) _) _
        try simp only [Act.put, List.setIfInBounds_toArray, List.set_cons_zero, List.set_cons_succ]
        refine wpAnyH_take (i := 6) (oi := _) (v := .slice (some a2) n2 u.c2) rfl (by kernel_rfl) (by kernel_rfl) (by kernel_rfl) (fun _ _ _ h => h) (Or.inl ⟨by rfl, fun w' hS => (by have q := TBox.c2 hS.2.1; rw [HN.out.2, HA2.out] at q; go_simp)⟩) hHeld ?_
        change wpAnyH _ _ _ _ _ _ _ (Act.put _ (some 34) _) _
        try simp only [Act.put, List.setIfInBounds_toArray, List.set_cons_zero, List.set_cons_succ]
        refine wpAnyH_take (i := 7) (oi := _) (v := .int .i64 (k : Int)) rfl (by kernel_rfl) (by kernel_rfl) (by kernel_rfl) (fun _ _ _ h => h) (Or.inl ⟨by rfl, fun w' hS => (by go_simp)⟩) hHeld ?_
        change wpAnyH _ _ _ _ _ _ _ (Act.put _ (some 35) _) _
        try simp only [Act.put, List.setIfInBounds_toArray, List.set_cons_zero, List.set_cons_succ]
        refine wpAnyH_take (i := 8) (oi := _) (v := .pointer (some (a2.add (k * 3)))) rfl (by kernel_rfl) (by kernel_rfl) (by kernel_rfl) (fun _ _ _ h => h) (Or.inl ⟨by rfl, fun w' hS => (by go_simp)⟩) hHeld ?_
        change wpAnyH _ _ _ _ _ _ _ (Act.put _ (some 36) _) _
        try simp only [Act.put, List.setIfInBounds_toArray, List.set_cons_zero, List.set_cons_succ]
        refine wpAnyH_take (i := 9) (oi := _) (v := .agg #[.int .i64 y.kind, .slice y.A y.ns.length y.c, .slice y.A2 y.xs.length y.c2]) rfl (by kernel_rfl) (by kernel_rfl) (by kernel_rfl) (fun _ _ _ h => h) (Or.inl ⟨by rfl, fun w' hS => (by obtain ⟨_, q0, q1, q2⟩ := hS.2.2.2; go_simp)⟩) hHeld ?_
        change wpAnyH _ _ _ _ _ _ _ (Act.put _ (some 37) _) _
        try simp only [Act.put, List.setIfInBounds_toArray, List.set_cons_zero, List.set_cons_succ]
        refine wpAnyH_ready (rs := [10]) (by kernel_rfl) (by simp) ?_
        refine AllReadyH.cons (o := _) rfl (fun K hK => ?_) AllReadyH.nil
        go_simp
        with_reducible refine HC.out.mono ?_
        rintro e w5 ⟨rfl, hb5⟩
        have HB5 := Lib.hid (show Below wr.heap.size wr w5 from (Below.refl _ _).drew.trans hb5)
        clear hb5
        refine hK.out _ _ (⟨BT.out.below HB5.out, BU.out.below HB5.out, X3.out.below HB5.out, Y3.out.below HB5.out⟩) (fun hHeld => ?_)
        clear hK K
        try simp only [Act.put, List.setIfInBounds_toArray, List.set_cons_zero, List.set_cons_succ]
        refine wpAnyH_take (i := 11) (oi := _) (v := .bool true) rfl (by kernel_rfl) (by kernel_rfl) (by kernel_rfl) (fun _ _ _ h => h) (Or.inl ⟨by rfl, fun w' hS => (by go_simp)⟩) hHeld ?_
        change wpAnyH _ _ _ _ _ _ _ (Act.put _ (some 39) _) _
        try simp only [Act.put, List.setIfInBounds_toArray, List.set_cons_zero, List.set_cons_succ]
        refine wpAnyH_done (by kernel_rfl) ?_ _
        go_wp2
        go_ret
        exact ⟨rfl, KBr.out.trans (HB5.out.mono KBr.out.size)⟩
theorem prec_all : ∀ n, PrecAll 63 n
  | 0 => fun t u w _ _ _ _ _ ct _ => ct.elim
  | n + 1 => prec_succ n (prec_all n)
set_option maxRecDepth 100000 in
set_option maxHeartbeats 8000000 in
theorem rprec_succ (n : Nat) (ih : RPrecAll 64 n) : RPrecAll 64 (n + 1) := by
  intro t u w ht hu mt mu ct cu
  have HMT := Lib.hid mt
  have HMU := Lib.hid mu
  have HCT := Lib.hid ct
  have HCU := Lib.hid cu
  have HIH := Lib.hid ih
  clear ih mt mu ct cu
  obtain ⟨ans, hans⟩ : ∃ ans, ans = tb (Prec (n + 1) (strip t) (strip u)) := ⟨_, rfl⟩
  rw [← hans]
  have HA := Lib.hid hans
  clear hans
  have HKT := Lib.hid (strip_kind t)
  have HKU := Lib.hid (strip_kind u)
  unfold LTy.val
  obtain ⟨g, hg⟩ : ∃ g, g = w.heap.size := ⟨_, rfl⟩
  have HT := Lib.hid ht
  have HU := Lib.hid hu
  clear ht hu
  go_enter Tryd.func64, Tryd.ntmps64
  go_upto_region 1 with fail
  rw [← hg]
  refine gen_wpT fun W hW => ?_
  obtain ⟨kt, ku, kb⟩ : TBox W g t ∧ TBox W (g + 1) u ∧ Below w.heap.size w W := by rw [← hW, hg]; exact two_boxes w t u
  have KB := Lib.hid kb
  have ktc0 := kt.c0
  have ktc1 := kt.c1
  have ktc2 := kt.c2
  have ktlt := kt.lt
  have kuc0 := ku.c0
  have kuc1 := ku.c1
  have kuc2 := ku.c2
  have kult := ku.lt
  clear hW hg
  have KT := Lib.hid kt
  have KU := Lib.hid ku
  clear kt ku kb
  have hsm := rsame_any t u W (HT.out.on KB.out) (HU.out.on KB.out)
  rw [show tb (strip t = strip u ∧ May (strip t)) = tb (strip t = strip u) by rw [tb_and, tb_true HMT.out]; cases tb (strip t = strip u) <;> rfl] at hsm
  unfold LTy.val at hsm
  by_cases hs : strip t = strip u
  · have e : ans = true := by rw [HA.out]; exact tb_true (.inr (.inr (.inl hs)))
    subst e
    rw [tb_true hs] at hsm
    have HSM := Lib.hid hsm
    clear hs HA hsm
    go_wp2_with fail
    with_reducible refine (HSM.out).mono ?_
    rintro e w1 ⟨rfl, hb1⟩
    have T1 := Lib.hid (KT.out.below hb1)
    have U1 := Lib.hid (KU.out.below hb1)
    have B1 := Lib.hid (KB.out.trans (hb1.mono KB.out.size))
    have t1 := T1.out
    have u1 := U1.out
    have t1c0 := t1.c0
    have t1c1 := t1.c1
    have t1c2 := t1.c2
    have t1lt := t1.lt
    have u1c0 := u1.c0
    have u1c1 := u1.c1
    have u1c2 := u1.c2
    have u1lt := u1.lt
    clear hb1 t1 u1
    go_wp2
    go_ret
    exact ⟨rfl, B1.out⟩
  rw [tb_false hs] at hsm
  have HSM := Lib.hid hsm
  have HNS := Lib.hid hs
  clear hs hsm
  by_cases hu0 : u.kind = 0
  · have e : ans = true := by rw [HA.out]; exact tb_true (.inl (by rw [HKU.out]; exact hu0))
    subst e
    have eu : (u.kind == 0) = true := beq_iff_eq.2 hu0
    clear hu0 HA
    go_wp2_with fail
    with_reducible refine (HSM.out).mono ?_
    rintro e w1 ⟨rfl, hb1⟩
    have T1 := Lib.hid (KT.out.below hb1)
    have U1 := Lib.hid (KU.out.below hb1)
    have B1 := Lib.hid (KB.out.trans (hb1.mono KB.out.size))
    have t1 := T1.out
    have u1 := U1.out
    have t1c0 := t1.c0
    have t1c1 := t1.c1
    have t1c2 := t1.c2
    have t1lt := t1.lt
    have u1c0 := u1.c0
    have u1c1 := u1.c1
    have u1c2 := u1.c2
    have u1lt := u1.lt
    clear hb1 t1 u1
    go_wp2
    go_ret
    exact ⟨rfl, B1.out⟩
  have eu : (u.kind == 0) = false := beq_eq_false_iff_ne.2 hu0
  by_cases h58 : u.kind = 5 ∧ t.kind = 8
  · have e : ans = true := by rw [HA.out]; exact tb_true (.inr (.inl ⟨by rw [HKU.out]; exact h58.1, by rw [HKT.out]; exact h58.2⟩))
    subst e
    have eu5 : (u.kind == 5) = true := beq_iff_eq.2 h58.1
    have et8 : (t.kind == 8) = true := beq_iff_eq.2 h58.2
    clear hu0 HA h58
    go_wp2_with fail
    with_reducible refine (HSM.out).mono ?_
    rintro e w1 ⟨rfl, hb1⟩
    have T1 := Lib.hid (KT.out.below hb1)
    have U1 := Lib.hid (KU.out.below hb1)
    have B1 := Lib.hid (KB.out.trans (hb1.mono KB.out.size))
    have t1 := T1.out
    have u1 := U1.out
    have t1c0 := t1.c0
    have t1c1 := t1.c1
    have t1c2 := t1.c2
    have t1lt := t1.lt
    have u1c0 := u1.c0
    have u1c1 := u1.c1
    have u1c2 := u1.c2
    have u1lt := u1.lt
    clear hb1 t1 u1
    go_wp2
    go_ret
    exact ⟨rfl, B1.out⟩
  have hor : (u.kind == 5) = false ∨ ((u.kind == 5) = true ∧ (t.kind == 8) = false) := by
    by_cases h5 : u.kind = 5
    · exact .inr ⟨beq_iff_eq.2 h5, beq_eq_false_iff_ne.2 fun e => h58 ⟨h5, e⟩⟩
    · exact .inl (beq_eq_false_iff_ne.2 h5)
  have hpr := fun w' (hb : Below w.heap.size w w') => rpaired_any (n + 1) (n + 1) t u w' (HT.out.on hb) (HU.out.on hb) HCT.out HCU.out
  unfold LTy.val at hpr
  by_cases hp : Paired (strip t) (strip u)
  case neg =>
    rw [tb_false hp] at hpr
    have HPR := Lib.hid hpr
    have e : ans = false := by rw [HA.out]; exact tb_false fun e => HNS.out ((prec_else hp (by rw [HKU.out]; exact hu0) (by rw [HKU.out, HKT.out]; exact h58)).1 e)
    subst e
    clear hu0 HA h58 hpr hp
    rcases hor with e5 | ⟨e5, e8⟩
    all_goals
      skip
      go_wp2_with fail
      with_reducible refine (HSM.out).mono ?_
      rintro e w1 ⟨rfl, hb1⟩
      have T1 := Lib.hid (KT.out.below hb1)
      have U1 := Lib.hid (KU.out.below hb1)
      have B1 := Lib.hid (KB.out.trans (hb1.mono KB.out.size))
      have t1 := T1.out
      have u1 := U1.out
      have t1c0 := t1.c0
      have t1c1 := t1.c1
      have t1c2 := t1.c2
      have t1lt := t1.lt
      have u1c0 := u1.c0
      have u1c1 := u1.c1
      have u1c2 := u1.c2
      have u1lt := u1.lt
      clear hb1 t1 u1
      go_wp2_with fail
      with_reducible refine ((HPR.out w1 B1.out)).mono ?_
      rintro e w2 ⟨rfl, hb2⟩
      have T2 := Lib.hid (T1.out.below hb2)
      have U2 := Lib.hid (U1.out.below hb2)
      have B2 := Lib.hid (B1.out.trans (hb2.mono B1.out.size))
      have t2 := T2.out
      have u2 := U2.out
      have t2c0 := t2.c0
      have t2c1 := t2.c1
      have t2c2 := t2.c2
      have t2lt := t2.lt
      have u2c0 := u2.c0
      have u2c1 := u2.c1
      have u2c2 := u2.c2
      have u2lt := u2.lt
      clear hb2 t2 u2
      go_wp2
      go_ret
      exact ⟨rfl, B2.out⟩
  rw [tb_true hp] at hpr
  have hlen : t.xs.length = u.xs.length := by have := hp.2.2; rwa [strip_len, strip_len] at this
  obtain ⟨n2, hn2⟩ : ∃ n, n = t.xs.length := ⟨_, rfl⟩
  have HN := Lib.hid (show t.xs.length = n2 ∧ u.xs.length = n2 from ⟨hn2.symm, by rw [hn2]; exact hlen.symm⟩)
  have hl2 := HT.out.n2.2
  rw [← hn2] at hl2
  have HG := Lib.hid (show ans = tb (∀ (i : Nat) (x y : LTy), t.xs[i]? = some x → u.xs[i]? = some y → Prec n (strip x) (strip y)) by
    rw [HA.out, tb_congr (prec_paired HCT.out hp (by rw [HKU.out]; exact hu0))]
    refine tb_congr ⟨fun e i x y hx hy => e i _ _ (strip_at hx) (strip_at hy), fun e i x y hx hy => ?_⟩
    obtain ⟨x', hx', rfl⟩ := strip_of hx
    obtain ⟨y', hy', rfl⟩ := strip_of hy
    exact e i x' y' hx' hy')
  have HPM := Lib.hid (show ∀ (i : Nat) (x y : LTy), t.xs[i]? = some x → u.xs[i]? = some y → (May (strip x) ∧ Chk n (strip x)) ∧ May (strip y) ∧ Chk n (strip y) from fun i x y hx hy => ⟨⟨HMT.out.part (strip_at hx), HCT.out.part (strip_at hx)⟩, HMU.out.part (strip_at hy), HCU.out.part (strip_at hy)⟩)
  rw [HN.out.1, HN.out.2] at hpr
  have hsm' := HSM.out
  rw [HN.out.1, HN.out.2] at hsm'
  rw [HN.out.1] at ktc2
  rw [HN.out.2] at kuc2
  have HPR := Lib.hid hpr
  have HSM' := Lib.hid hsm'
  clear hu0 HA h58 hpr hp hlen hn2 hsm' HSM
  rcases hor with e5 | ⟨e5, e8⟩
  all_goals
    skip
    go_wp2_with fail
    with_reducible refine (HSM'.out).mono ?_
    rintro e w1 ⟨rfl, hb1⟩
    have T1 := Lib.hid (KT.out.below hb1)
    have U1 := Lib.hid (KU.out.below hb1)
    have B1 := Lib.hid (KB.out.trans (hb1.mono KB.out.size))
    have t1 := T1.out
    have u1 := U1.out
    have t1c0 := t1.c0
    have t1c1 := t1.c1
    have t1c2 := t1.c2
    have t1lt := t1.lt
    have u1c0 := u1.c0
    have u1c1 := u1.c1
    have u1c2 := u1.c2
    have u1lt := u1.lt
    clear hb1 t1 u1
    rw [HN.out.1] at t1c2
    rw [HN.out.2] at u1c2
    go_wp2_with fail
    with_reducible refine ((HPR.out w1 B1.out)).mono ?_
    rintro e w2 ⟨rfl, hb2⟩
    have T2 := Lib.hid (T1.out.below hb2)
    have U2 := Lib.hid (U1.out.below hb2)
    have B2 := Lib.hid (B1.out.trans (hb2.mono B1.out.size))
    have t2 := T2.out
    have u2 := U2.out
    have t2c0 := t2.c0
    have t2c1 := t2.c1
    have t2c2 := t2.c2
    have t2lt := t2.lt
    have u2c0 := u2.c0
    have u2c1 := u2.c1
    have u2c2 := u2.c2
    have u2lt := u2.lt
    clear hb2 t2 u2
    rw [HN.out.1] at t2c2
    rw [HN.out.2] at u2c2
    go_wp2_with fail
    clear t2c2 u2c2 t2c0 t2c1 u2c0 u2c1
    go_loopw [31] (fun i wr => ∃ k : Nat, k ≤ n2 ∧ i = .int .i64 k ∧ Hid (∀ (j : Nat) (x y : LTy), j < k → t.xs[j]? = some x → u.xs[j]? = some y → Prec n (strip x) (strip y)) ∧ Hid (Below w2.heap.size w2 wr)) (fun i _ => n2 - (intOf i).toNat)
    case atStart => exact ⟨0, by omega, rfl, Lib.hid (fun j x y hj => by omega), Lib.hid (below_drewT (Below.refl _ _) 0)⟩
    case round =>
      obtain ⟨k, hk, rfl, HK, HW⟩ := hrel
      have KBr := Lib.hid (B2.out.trans (HW.out.mono B2.out.size))
      by_cases hlt : k < n2
      case neg =>
        obtain rfl : k = n2 := by omega
        have hkk : ¬ (k : Int) < (k : Int) := by omega
        have e : ans = true := by
          rw [HG.out]
          exact tb_true fun i x y hx hy => HK.out i x y (by have := (List.getElem?_eq_some_iff.1 hx).1; rw [HN.out.1] at this; exact this) hx hy
        subst e
        go_wp2
        go_ret
        exact ⟨rfl, KBr.out⟩
      obtain ⟨x, hx⟩ : ∃ x, t.xs[k]? = some x := ⟨_, List.getElem?_eq_getElem (by rw [HN.out.1]; omega)⟩
      obtain ⟨y, hy⟩ : ∃ y, u.xs[k]? = some y := ⟨_, List.getElem?_eq_getElem (by rw [HN.out.2]; omega)⟩
      have htr := HT.out.on KBr.out
      have hur := HU.out.on KBr.out
      obtain ⟨a1, hA1, hx3⟩ := htr.at3 hx
      obtain ⟨a2, hA2, hy3⟩ := hur.at3 hy
      have BT := Lib.hid (T2.out.below HW.out)
      have BU := Lib.hid (U2.out.below HW.out)
      have X3 := Lib.hid hx3
      have Y3 := Lib.hid hy3
      have HA1 := Lib.hid hA1
      have HA2 := Lib.hid hA2
      have hd : Below wr.heap.size wr wr.drew := (Below.refl _ _).drew
      have hpm := HPM.out k x y hx hy
      have lt1 := BT.out.lt
      have lu1 := BU.out.lt
      have hwk : IntKind.i64.wrap (k : Int) = (k : Int) := IntWalk.i64_in _ (by omega)
      have hcall := HIH.out x y wr.drew ((htr.part hx).on hd) ((hur.part hy).on hd) hpm.1.1 hpm.2.1 hpm.1.2 hpm.2.2
      unfold LTy.val at hcall
      have HX := Lib.hid (show t.xs[k]? = some x ∧ u.xs[k]? = some y from ⟨hx, hy⟩)
      have hk' : (k : Int) < (n2 : Int) := by omega
      have hk0 : (0 : Int) ≤ k := by omega
      clear htr hur hx hy hA1 hA2 hd hx3 hy3 hpm
      by_cases hg : Prec n (strip x) (strip y)
      · rw [tb_true hg] at hcall
        have HC := Lib.hid hcall
        have HK2 := Lib.hid (show ∀ (j : Nat) (x y : LTy), j < k + 1 → t.xs[j]? = some x → u.xs[j]? = some y → Prec n (strip x) (strip y) from fun j x' y' hj hx' hy' => by
          rcases Nat.lt_or_ge j k with h1 | h1
          · exact HK.out j x' y' h1 hx' hy'
          · obtain rfl : j = k := by omega
            rw [HX.out.1] at hx'
            rw [HX.out.2] at hy'
            obtain rfl := Option.some.inj hx'
            obtain rfl := Option.some.inj hy'
            exact hg)
        clear hcall hg
        go_wp2_with fail
        refine wp_region_held_drew (S := fun w' => TBox w' g t ∧ TBox w' (g + 1) u ∧ At3 w' (a1.add (k * 3)) x ∧ At3 w' (a2.add (k * 3)) y) (by kernel_rfl) (⟨BT.out, BU.out, X3.out, Y3.out⟩) (fun hHeld => ?_)
        refine wpAnyH_take (i := 0) (oi := _) (v := .pointer (some ⟨g, 2, none⟩)) rfl (by kernel_rfl) (by kernel_rfl) (by kernel_rfl) (fun _ _ _ h => h) (Or.inl ⟨by rfl, fun w' hS => (by go_simp)⟩) hHeld ?_
        change wpAnyH _ _ _ _ _ _ _ (Act.put _ (some 34) _) _
        try simp only [Act.put, List.setIfInBounds_toArray, List.set_cons_zero, List.set_cons_succ]
        refine wpAnyH_take (i := 1) (oi := _) (v := .slice (some a1) n2 t.c2) rfl (by kernel_rfl) (by kernel_rfl) (by kernel_rfl) (fun _ _ _ h => h) (Or.inl ⟨by rfl, fun w' hS => (by have q := TBox.c2 hS.1; rw [HN.out.1, HA1.out] at q; go_simp)⟩) hHeld ?_
        change wpAnyH _ _ _ _ _ _ _ (Act.put _ (some 35) _) _
        try simp only [Act.put, List.setIfInBounds_toArray, List.set_cons_zero, List.set_cons_succ]
        refine wpAnyH_take (i := 2) (oi := _) (v := .int .i64 (k : Int)) rfl (by kernel_rfl) (by kernel_rfl) (by kernel_rfl) (fun _ _ _ h => h) (Or.inl ⟨by rfl, fun w' hS => (by go_simp)⟩) hHeld ?_
        change wpAnyH _ _ _ _ _ _ _ (Act.put _ (some 36) _) _
        try simp only [Act.put, List.setIfInBounds_toArray, List.set_cons_zero, List.set_cons_succ]
        refine wpAnyH_take (i := 3) (oi := _) (v := .pointer (some (a1.add (k * 3)))) rfl (by kernel_rfl) (by kernel_rfl) (by kernel_rfl) (fun _ _ _ h => h) (Or.inl ⟨by rfl, fun w' hS => (by go_simp)⟩) hHeld ?_
        change wpAnyH _ _ _ _ _ _ _ (Act.put _ (some 37) _) _
        try simp only [Act.put, List.setIfInBounds_toArray, List.set_cons_zero, List.set_cons_succ]
        refine wpAnyH_take (i := 4) (oi := _) (v := .agg #[.int .i64 x.kind, .slice x.A x.ns.length x.c, .slice x.A2 x.xs.length x.c2]) rfl (by kernel_rfl) (by kernel_rfl) (by kernel_rfl) (fun _ _ _ h => h) (Or.inl ⟨by rfl, fun w' hS => (by obtain ⟨_, q0, q1, q2⟩ := hS.2.2.1; go_simp)⟩) hHeld ?_
        change wpAnyH _ _ _ _ _ _ _ (Act.put _ (some 38) _) _
        try simp only [Act.put, List.setIfInBounds_toArray, List.set_cons_zero, List.set_cons_succ]
        refine wpAnyH_take (i := 5) (oi := _) (v := .pointer (some ⟨g + 1, 2, none⟩)) rfl (by kernel_rfl) (by kernel_rfl) (by kernel_rfl) (fun _ _ _ h => h) (Or.inl ⟨by rfl, fun w' hS => (by go_simp)⟩) hHeld ?_
        change wpAnyH _ _ _ _ _ _ _ (Act.put _ (some 39) _) _
        try simp only [Act.put, List.setIfInBounds_toArray, List.set_cons_zero, List.set_cons_succ]
        refine wpAnyH_take (i := 6) (oi := _) (v := .slice (some a2) n2 u.c2) rfl (by kernel_rfl) (by kernel_rfl) (by kernel_rfl) (fun _ _ _ h => h) (Or.inl ⟨by rfl, fun w' hS => (by have q := TBox.c2 hS.2.1; rw [HN.out.2, HA2.out] at q; go_simp)⟩) hHeld ?_
        change wpAnyH _ _ _ _ _ _ _ (Act.put _ (some 40) _) _
        try simp only [Act.put, List.setIfInBounds_toArray, List.set_cons_zero, List.set_cons_succ]
        refine wpAnyH_take (i := 7) (oi := _) (v := .int .i64 (k : Int)) rfl (by kernel_rfl) (by kernel_rfl) (by kernel_rfl) (fun _ _ _ h => h) (Or.inl ⟨by rfl, fun w' hS => (by go_simp)⟩) hHeld ?_
        change wpAnyH _ _ _ _ _ _ _ (Act.put _ (some 41) _) _
        try simp only [Act.put, List.setIfInBounds_toArray, List.set_cons_zero, List.set_cons_succ]
        refine wpAnyH_take (i := 8) (oi := _) (v := .pointer (some (a2.add (k * 3)))) rfl (by kernel_rfl) (by kernel_rfl) (by kernel_rfl) (fun _ _ _ h => h) (Or.inl ⟨by rfl, fun w' hS => (by go_simp)⟩) hHeld ?_
        change wpAnyH _ _ _ _ _ _ _ (Act.put _ (some 42) _) _
        try simp only [Act.put, List.setIfInBounds_toArray, List.set_cons_zero, List.set_cons_succ]
        refine wpAnyH_take (i := 9) (oi := _) (v := .agg #[.int .i64 y.kind, .slice y.A y.ns.length y.c, .slice y.A2 y.xs.length y.c2]) rfl (by kernel_rfl) (by kernel_rfl) (by kernel_rfl) (fun _ _ _ h => h) (Or.inl ⟨by rfl, fun w' hS => (by obtain ⟨_, q0, q1, q2⟩ := hS.2.2.2; go_simp)⟩) hHeld ?_
        change wpAnyH _ _ _ _ _ _ _ (Act.put _ (some 43) _) _
        try simp only [Act.put, List.setIfInBounds_toArray, List.set_cons_zero, List.set_cons_succ]
        refine wpAnyH_ready (rs := [10]) (by kernel_rfl) (by simp) ?_
        refine AllReadyH.cons (o := _) rfl (fun K hK => ?_) AllReadyH.nil
        go_simp
        with_reducible refine HC.out.mono ?_
        rintro e w5 ⟨rfl, hb5⟩
        have HB5 := Lib.hid (show Below wr.heap.size wr w5 from (Below.refl _ _).drew.trans hb5)
        clear hb5
        refine hK.out _ _ (⟨BT.out.below HB5.out, BU.out.below HB5.out, X3.out.below HB5.out, Y3.out.below HB5.out⟩) (fun hHeld => ?_)
        clear hK K
        try simp only [Act.put, List.setIfInBounds_toArray, List.set_cons_zero, List.set_cons_succ]
        refine wpAnyH_take (i := 11) (oi := _) (v := .bool false) rfl (by kernel_rfl) (by kernel_rfl) (by kernel_rfl) (fun _ _ _ h => h) (Or.inl ⟨by rfl, fun w' hS => (by go_simp)⟩) hHeld ?_
        change wpAnyH _ _ _ _ _ _ _ (Act.put _ (some 45) _) _
        try simp only [Act.put, List.setIfInBounds_toArray, List.set_cons_zero, List.set_cons_succ]
        refine wpAnyH_done (by kernel_rfl) ?_ _
        go_wp2_with fail
        go_roundw
        case rel => exact ⟨k + 1, by omega, by go_num, HK2, Lib.hid (HW.out.trans (HB5.out.mono HW.out.size))⟩
        case measure => simp [intOf]; omega
      · rw [tb_false hg] at hcall
        have HC := Lib.hid hcall
        have e : ans = false := by rw [HG.out]; exact tb_false fun e => hg (e k x y HX.out.1 HX.out.2)
        subst e
        clear hcall hg HG
        go_wp2_with fail
        refine wp_region_held_drew (S := fun w' => TBox w' g t ∧ TBox w' (g + 1) u ∧ At3 w' (a1.add (k * 3)) x ∧ At3 w' (a2.add (k * 3)) y) (by kernel_rfl) (⟨BT.out, BU.out, X3.out, Y3.out⟩) (fun hHeld => ?_)
        refine wpAnyH_take (i := 0) (oi := _) (v := .pointer (some ⟨g, 2, none⟩)) rfl (by kernel_rfl) (by kernel_rfl) (by kernel_rfl) (fun _ _ _ h => h) (Or.inl ⟨by rfl, fun w' hS => (by go_simp)⟩) hHeld ?_
        change wpAnyH _ _ _ _ _ _ _ (Act.put _ (some 34) _) _
        try simp only [Act.put, List.setIfInBounds_toArray, List.set_cons_zero, List.set_cons_succ]
        refine wpAnyH_take (i := 1) (oi := _) (v := .slice (some a1) n2 t.c2) rfl (by kernel_rfl) (by kernel_rfl) (by kernel_rfl) (fun _ _ _ h => h) (Or.inl ⟨by rfl, fun w' hS => (by have q := TBox.c2 hS.1; rw [HN.out.1, HA1.out] at q; go_simp)⟩) hHeld ?_
        change wpAnyH _ _ _ _ _ _ _ (Act.put _ (some 35) _) _
        try simp only [Act.put, List.setIfInBounds_toArray, List.set_cons_zero, List.set_cons_succ]
        refine wpAnyH_take (i := 2) (oi := _) (v := .int .i64 (k : Int)) rfl (by kernel_rfl) (by kernel_rfl) (by kernel_rfl) (fun _ _ _ h => h) (Or.inl ⟨by rfl, fun w' hS => (by go_simp)⟩) hHeld ?_
        change wpAnyH _ _ _ _ _ _ _ (Act.put _ (some 36) _) _
        try simp only [Act.put, List.setIfInBounds_toArray, List.set_cons_zero, List.set_cons_succ]
        refine wpAnyH_take (i := 3) (oi := _) (v := .pointer (some (a1.add (k * 3)))) rfl (by kernel_rfl) (by kernel_rfl) (by kernel_rfl) (fun _ _ _ h => h) (Or.inl ⟨by rfl, fun w' hS => (by go_simp)⟩) hHeld ?_
        change wpAnyH _ _ _ _ _ _ _ (Act.put _ (some 37) _) _
        try simp only [Act.put, List.setIfInBounds_toArray, List.set_cons_zero, List.set_cons_succ]
        refine wpAnyH_take (i := 4) (oi := _) (v := .agg #[.int .i64 x.kind, .slice x.A x.ns.length x.c, .slice x.A2 x.xs.length x.c2]) rfl (by kernel_rfl) (by kernel_rfl) (by kernel_rfl) (fun _ _ _ h => h) (Or.inl ⟨by rfl, fun w' hS => (by obtain ⟨_, q0, q1, q2⟩ := hS.2.2.1; go_simp)⟩) hHeld ?_
        change wpAnyH _ _ _ _ _ _ _ (Act.put _ (some 38) _) _
        try simp only [Act.put, List.setIfInBounds_toArray, List.set_cons_zero, List.set_cons_succ]
        refine wpAnyH_take (i := 5) (oi := _) (v := .pointer (some ⟨g + 1, 2, none⟩)) rfl (by kernel_rfl) (by kernel_rfl) (by kernel_rfl) (fun _ _ _ h => h) (Or.inl ⟨by rfl, fun w' hS => (by go_simp)⟩) hHeld ?_
        change wpAnyH _ _ _ _ _ _ _ (Act.put _ (some 39) _) _
        try simp only [Act.put, List.setIfInBounds_toArray, List.set_cons_zero, List.set_cons_succ]
        refine wpAnyH_take (i := 6) (oi := _) (v := .slice (some a2) n2 u.c2) rfl (by kernel_rfl) (by kernel_rfl) (by kernel_rfl) (fun _ _ _ h => h) (Or.inl ⟨by rfl, fun w' hS => (by have q := TBox.c2 hS.2.1; rw [HN.out.2, HA2.out] at q; go_simp)⟩) hHeld ?_
        change wpAnyH _ _ _ _ _ _ _ (Act.put _ (some 40) _) _
        try simp only [Act.put, List.setIfInBounds_toArray, List.set_cons_zero, List.set_cons_succ]
        refine wpAnyH_take (i := 7) (oi := _) (v := .int .i64 (k : Int)) rfl (by kernel_rfl) (by kernel_rfl) (by kernel_rfl) (fun _ _ _ h => h) (Or.inl ⟨by rfl, fun w' hS => (by go_simp)⟩) hHeld ?_
        change wpAnyH _ _ _ _ _ _ _ (Act.put _ (some 41) _) _
        try simp only [Act.put, List.setIfInBounds_toArray, List.set_cons_zero, List.set_cons_succ]
        refine wpAnyH_take (i := 8) (oi := _) (v := .pointer (some (a2.add (k * 3)))) rfl (by kernel_rfl) (by kernel_rfl) (by kernel_rfl) (fun _ _ _ h => h) (Or.inl ⟨by rfl, fun w' hS => (by go_simp)⟩) hHeld ?_
        change wpAnyH _ _ _ _ _ _ _ (Act.put _ (some 42) _) _
        try simp only [Act.put, List.setIfInBounds_toArray, List.set_cons_zero, List.set_cons_succ]
        refine wpAnyH_take (i := 9) (oi := _) (v := .agg #[.int .i64 y.kind, .slice y.A y.ns.length y.c, .slice y.A2 y.xs.length y.c2]) rfl (by kernel_rfl) (by kernel_rfl) (by kernel_rfl) (fun _ _ _ h => h) (Or.inl ⟨by rfl, fun w' hS => (by obtain ⟨_, q0, q1, q2⟩ := hS.2.2.2; go_simp)⟩) hHeld ?_
        change wpAnyH _ _ _ _ _ _ _ (Act.put _ (some 43) _) _
        try simp only [Act.put, List.setIfInBounds_toArray, List.set_cons_zero, List.set_cons_succ]
        refine wpAnyH_ready (rs := [10]) (by kernel_rfl) (by simp) ?_
        refine AllReadyH.cons (o := _) rfl (fun K hK => ?_) AllReadyH.nil
        go_simp
        with_reducible refine HC.out.mono ?_
        rintro e w5 ⟨rfl, hb5⟩
        have HB5 := Lib.hid (show Below wr.heap.size wr w5 from (Below.refl _ _).drew.trans hb5)
        clear hb5
        refine hK.out _ _ (⟨BT.out.below HB5.out, BU.out.below HB5.out, X3.out.below HB5.out, Y3.out.below HB5.out⟩) (fun hHeld => ?_)
        clear hK K
        try simp only [Act.put, List.setIfInBounds_toArray, List.set_cons_zero, List.set_cons_succ]
        refine wpAnyH_take (i := 11) (oi := _) (v := .bool true) rfl (by kernel_rfl) (by kernel_rfl) (by kernel_rfl) (fun _ _ _ h => h) (Or.inl ⟨by rfl, fun w' hS => (by go_simp)⟩) hHeld ?_
        change wpAnyH _ _ _ _ _ _ _ (Act.put _ (some 45) _) _
        try simp only [Act.put, List.setIfInBounds_toArray, List.set_cons_zero, List.set_cons_succ]
        refine wpAnyH_done (by kernel_rfl) ?_ _
        go_wp2
        go_ret
        exact ⟨rfl, KBr.out.trans (HB5.out.mono KBr.out.size)⟩
theorem rprec_all : ∀ n, RPrecAll 64 n
  | 0 => fun t u w _ _ _ _ ct _ => ct.elim
  | n + 1 => rprec_succ n (rprec_all n)
end Go.Proofs.YtllpicibncdppaaDoor
