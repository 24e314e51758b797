/-
  relate.goes: whether a type may be used as another one, as it is asked.
-/
import Derived.Test.YtllpicibncdppaaDoorReFields
import Derived.Test.YtllpicibncdppaaDoorTyKinds
set_option linter.unusedVariables false
set_option linter.unusedSimpArgs false
namespace Go.Proofs.YtllpicibncdppaaDoor
open Go.ChangeShapes Go.WideShapes Go.ChangeAt Go.RowKit

theorem bv_small {a : Nat} (ha : a < 128) : (BitVec.ofInt 64 (a : Int)).toNat = a := by rw [BitVec.ofInt_natCast, BitVec.toNat_ofNat]; exact Nat.mod_eq_of_lt (by omega)
theorem andnot_i64 {a b : Nat} (ha : a < 128) (hb : b < 128) : (bits .andNot .i64 (a : Int) (b : Int) == 0) = tb (a ||| b = b) := by
  have h1 := bv_small ha
  have h2 := bv_small hb
  have h3 : (BitVec.ofInt 64 (a : Int) &&& ~~~(BitVec.ofInt 64 (b : Int))).toNat = a &&& (2 ^ 64 - (b + 1)) := by
    rw [BitVec.toNat_and, BitVec.toNat_not, h1, h2]
    congr 1
    rw [Nat.sub_sub, Nat.add_comm 1 b]
  have hm : a &&& (2 ^ 64 - (b + 1)) < 128 := Nat.lt_of_le_of_lt Nat.and_le_left ha
  have h4 : bits .andNot .i64 (a : Int) (b : Int) = ((a &&& (2 ^ 64 - (b + 1)) : Nat) : Int) := by
    show IntKind.i64.wrap ((BitVec.ofInt 64 (a : Int) &&& ~~~(BitVec.ofInt 64 (b : Int))).toNat : Int) = _
    rw [h3, IntKind.wrap_i64]
    omega
  have h5 : a &&& (2 ^ 64 - (b + 1)) = 0 ↔ a ||| b = b := by
    constructor
    · intro e
      refine Nat.eq_of_testBit_eq fun i => ?_
      have := congrArg (fun n => Nat.testBit n i) e
      simp only [Nat.testBit_and, Nat.zero_testBit, Nat.testBit_two_pow_sub_succ (show b < 2 ^ 64 by omega)] at this
      rw [Nat.testBit_or]
      by_cases hi : i < 64
      · simp [hi] at this
        cases h : a.testBit i <;> simp_all
      · have : a.testBit i = false := Nat.testBit_lt_two_pow (Nat.lt_of_lt_of_le (show a < 2 ^ 64 by omega) (Nat.pow_le_pow_right (by omega) (by omega)))
        simp [this]
    · intro e
      refine Nat.eq_of_testBit_eq fun i => ?_
      have := congrArg (fun n => Nat.testBit n i) e
      simp only [Nat.testBit_or] at this
      simp only [Nat.testBit_and, Nat.zero_testBit, Nat.testBit_two_pow_sub_succ (show b < 2 ^ 64 by omega)]
      cases h : a.testBit i <;> simp_all
  rw [h4]
  by_cases e : a ||| b = b
  · rw [tb_true e, h5.2 e]; rfl
  · rw [tb_false e]
    exact beq_eq_false_iff_ne.2 (fun k => e (h5.1 (by omega)))
theorem and_i64 {a b : Nat} (ha : a < 128) (hb : b < 128) : bits .and .i64 (a : Int) (b : Int) = ((a &&& b : Nat) : Int) := by
  have hx : a &&& b < 128 := Nat.lt_of_le_of_lt Nat.and_le_left ha
  show IntKind.i64.wrap ((BitVec.ofInt 64 (a : Int) &&& BitVec.ofInt 64 (b : Int)).toNat : Int) = _
  rw [BitVec.toNat_and, bv_small ha, bv_small hb, IntKind.wrap_i64]
  omega
theorem shr4_all : ∀ a : Fin 128, ((a.1 / 16 &&& 1 = 1) ↔ (a.1 &&& 16 = 16)) := by decide +kernel
theorem shr4 {a : Nat} (ha : a < 128) : (bits .and .i64 ((a : Int) / 16) 1 == 1) = tb (a &&& 16 = 16) := by
  have e : ((a : Int) / 16) = ((a / 16 : Nat) : Int) := by omega
  have h1 := and_i64 (a := a / 16) (b := 1) (by omega) (by omega)
  rw [e]
  rw [show ((1 : Nat) : Int) = 1 from rfl] at h1
  rw [h1]
  have := shr4_all ⟨a, ha⟩
  by_cases k : a &&& 16 = 16
  · rw [tb_true k]
    have := this.2 k
    dsimp only at this
    rw [this]; rfl
  · rw [tb_false k]
    exact beq_eq_false_iff_ne.2 fun e => k (this.1 (by dsimp only; omega))
def GoesAll (f : Nat) (h : Bool) (hv : Int) (n : Nat) : Prop := ∀ (t u : LTy) (w : World), LIn w w.heap.size t → LIn w w.heap.size u → SpW w → May (strip t) → May (strip u) → Chk n (strip t) → Chk n (strip u) →
  Calls Tryd.prog f #[t.val, u.val, .int .i64 hv] w (RetB (.bool (tb (Goes h n (strip t) (strip u)))) w)
theorem flat_tb (k : Int) : Flat k ↔ 0 ≤ k ∧ k ≤ 7 := Iff.rfl
set_option maxRecDepth 100000 in
set_option maxHeartbeats 8000000 in
theorem goes_succ (h : Bool) (hv : Int) (hh : (hv == 1) = h) (n : Nat) (ih : GoesAll 51 h hv n) : GoesAll 51 h hv (n + 1) := by
  intro t u w ht hu hsp mt mu ct cu
  have HMT := Lib.hid mt
  have HMU := Lib.hid mu
  have HCT := Lib.hid ct
  have HCU := Lib.hid cu
  have HIH := Lib.hid ih
  clear ih mt mu ct cu
  obtain ⟨ans, hans⟩ : ∃ ans, ans = tb (Goes h (n + 1) (strip t) (strip u)) := ⟨_, rfl⟩
  rw [← hans]
  have HA := Lib.hid hans
  clear hans
  have HKT := Lib.hid (strip_kind t)
  have HKU := Lib.hid (strip_kind u)
  unfold LTy.val
  obtain ⟨g, hg⟩ : ∃ g, g = w.heap.size := ⟨_, rfl⟩
  have HT := Lib.hid ht
  have HU := Lib.hid hu
  have HSP := Lib.hid hsp
  clear hsp
  clear ht hu
  go_enter Tryd.func51, Tryd.ntmps51
  go_upto_region 1 with fail
  rw [← hg]
  refine gen_wpT fun W hW => ?_
  obtain ⟨kt, ku, kb⟩ : TBox W g t ∧ TBox W (g + 1) u ∧ Below w.heap.size w W := by rw [← hW, hg]; exact two_boxes w t u
  have KB := Lib.hid kb
  have ktc0 := kt.c0
  have ktc1 := kt.c1
  have ktc2 := kt.c2
  have ktlt := kt.lt
  have kuc0 := ku.c0
  have kuc1 := ku.c1
  have kuc2 := ku.c2
  have kult := ku.lt
  clear hW hg
  have KT := Lib.hid kt
  have KU := Lib.hid ku
  have KTI := Lib.hid (HT.out.on kb)
  have KUI := Lib.hid (HU.out.on kb)
  have KSP := Lib.hid (HSP.out.below kb)
  clear kt ku kb
  have hl2 := HT.out.n2.2
  have hl3 := HU.out.n2.2
  by_cases hu0 : u.kind = 0
  · have e : ans = true := by rw [HA.out]; exact tb_true (goes_any (by rw [HKU.out]; exact hu0))
    subst e
    have eu : (u.kind == 0) = true := beq_iff_eq.2 hu0
    clear hu0 HA
    go_wp2
    go_ret
    exact ⟨rfl, KB.out⟩
  have eu : (u.kind == 0) = false := beq_eq_false_iff_ne.2 hu0
  by_cases ht0 : t.kind = 0
  · have e : ans = h := by rw [HA.out, tb_congr (goes_from (by rw [HKU.out]; exact hu0) (by rw [HKT.out]; exact ht0)), tb_bool]
    subst e
    have et : (t.kind == 0) = true := beq_iff_eq.2 ht0
    clear hu0 ht0 HA
    go_wp2
    go_ret
    exact ⟨rfl, KB.out⟩
  have et : (t.kind == 0) = false := beq_eq_false_iff_ne.2 ht0
  by_cases ft : Flat t.kind
  · have h1 := bflat_any t W
    rw [tb_true ft] at h1
    unfold LTy.val at h1
    have HF1 := Lib.hid h1
    by_cases fu : Flat u.kind
    · have HG := Lib.hid (show ans = tb (kindsT (strip t) ||| kindsT (strip u) = kindsT (strip u)) by rw [HA.out]; exact tb_congr (goes_flat (by rw [HKU.out]; exact hu0) (by rw [HKT.out]; exact ht0) (by rw [HKT.out]; exact ft) (by rw [HKU.out]; exact fu)))
      have h2 := fun w => bflat_any u w
      rw [tb_true fu] at h2
      unfold LTy.val at h2
      have HF2 := Lib.hid h2
      clear h1 h2 hu0 ht0 ft fu HA
      go_wp2_with fail
      with_reducible refine (HF1.out).mono ?_
      rintro e w1 ⟨rfl, hb1⟩
      have T1 := Lib.hid (KT.out.below hb1)
      have U1 := Lib.hid (KU.out.below hb1)
      have B1 := Lib.hid (KB.out.trans (hb1.mono KB.out.size))
      have t1 := T1.out
      have u1 := U1.out
      have t1c0 := t1.c0
      have t1c1 := t1.c1
      have t1c2 := t1.c2
      have t1lt := t1.lt
      have u1c0 := u1.c0
      have u1c1 := u1.c1
      have u1c2 := u1.c2
      have u1lt := u1.lt
      clear hb1 t1 u1
      go_wp2_with fail
      with_reducible refine ((HF2.out w1)).mono ?_
      rintro e w2 ⟨rfl, hb2⟩
      have T2 := Lib.hid (T1.out.below hb2)
      have U2 := Lib.hid (U1.out.below hb2)
      have B2 := Lib.hid (B1.out.trans (hb2.mono B1.out.size))
      have t2 := T2.out
      have u2 := U2.out
      have t2c0 := t2.c0
      have t2c1 := t2.c1
      have t2c2 := t2.c2
      have t2lt := t2.lt
      have u2c0 := u2.c0
      have u2c1 := u2.c1
      have u2c2 := u2.c2
      have u2lt := u2.lt
      clear hb2 t2 u2
      have hk1 := tkinds_any t w2.drew (HT.out.on B2.out.drew) (HSP.out.below B2.out.drew)
      rw [kindsV_yes HMT.out] at hk1
      unfold LTy.val at hk1
      have HK1 := Lib.hid hk1
      have HK2 := Lib.hid (show ∀ w', Below w.heap.size w w' → Calls Tryd.prog 20 #[.agg #[.int .i64 u.kind, .slice u.A u.ns.length u.c, .slice u.A2 u.xs.length u.c2]] w' (RetB (.int .i64 (kindsT (strip u) : Nat)) w') from fun w' hb => by
        have := tkinds_any u w' (HU.out.on hb) (HSP.out.below hb)
        rw [kindsV_yes HMU.out] at this
        unfold LTy.val at this
        exact this)
      have HAN := Lib.hid (andnot_i64 (kinds128 (strip t)) (kinds128 (strip u)))
      clear hk1
      go_wp2_with fail
      refine wp_region_held_drew (S := fun w' => TBox w' g t ∧ TBox w' (g + 1) u) (by kernel_rfl) (⟨T2.out, U2.out⟩) (fun hHeld => ?_)
      refine wpAnyH_take (i := 0) (oi := _) (v := .agg #[.int .i64 t.kind, .slice t.A t.ns.length t.c, .slice t.A2 t.xs.length t.c2]) rfl (by kernel_rfl) (by kernel_rfl) (by kernel_rfl) (fun _ _ _ h => h) (Or.inl ⟨by rfl, fun w' hS => (by have q0 := TBox.c0 hS.1; have q1 := TBox.c1 hS.1; have q2 := TBox.c2 hS.1; go_simp)⟩) hHeld ?_
      change wpAnyH _ _ _ _ _ _ _ (Act.put _ (some 26) _) _
      try simp only [Act.put, List.setIfInBounds_toArray, List.set_cons_zero, List.set_cons_succ]
      refine wpAnyH_take (i := 2) (oi := _) (v := .agg #[.int .i64 u.kind, .slice u.A u.ns.length u.c, .slice u.A2 u.xs.length u.c2]) rfl (by kernel_rfl) (by kernel_rfl) (by kernel_rfl) (fun _ _ _ h => h) (Or.inl ⟨by rfl, fun w' hS => (by have q0 := TBox.c0 hS.2; have q1 := TBox.c1 hS.2; have q2 := TBox.c2 hS.2; go_simp)⟩) hHeld ?_
      change wpAnyH _ _ _ _ _ _ _ (Act.put _ (some 28) _) _
      try simp only [Act.put, List.setIfInBounds_toArray, List.set_cons_zero, List.set_cons_succ]
      refine wpAnyH_ready (rs := [1]) (by kernel_rfl) (by simp) ?_
      refine AllReadyH.cons (o := _) rfl (fun K hK => ?_) AllReadyH.nil
      go_simp
      with_reducible refine HK1.out.mono ?_
      rintro e w5 ⟨rfl, hb5⟩
      have HB5 := Lib.hid (show Below w2.heap.size w2 w5 from (Below.refl _ _).drew.trans hb5)
      clear hb5
      refine hK.out _ _ (⟨T2.out.below HB5.out, U2.out.below HB5.out⟩) (fun hHeld => ?_)
      clear hK K
      try simp only [Act.put, List.setIfInBounds_toArray, List.set_cons_zero, List.set_cons_succ]
      refine wpAnyH_ready (rs := [3]) (by kernel_rfl) (by simp) ?_
      refine AllReadyH.cons (o := _) rfl (fun K hK => ?_) AllReadyH.nil
      go_simp
      with_reducible refine (HK2.out w5 (B2.out.trans (HB5.out.mono B2.out.size))).mono ?_
      rintro e w6 ⟨rfl, hb6⟩
      have HB6 := Lib.hid hb6
      clear hb6
      refine hK.out _ _ (⟨(T2.out.below HB5.out).below HB6.out, (U2.out.below HB5.out).below HB6.out⟩) (fun hHeld => ?_)
      clear hK K
      try simp only [Act.put, List.setIfInBounds_toArray, List.set_cons_zero, List.set_cons_succ]
      refine wpAnyH_take (i := 4) (oi := _) (v := .int .i64 (bits .andNot .i64 (kindsT (strip t) : Nat) (kindsT (strip u) : Nat))) rfl (by kernel_rfl) (by kernel_rfl) (by kernel_rfl) (fun _ _ _ h => h) (Or.inl ⟨by rfl, fun w' hS => (by go_simp)⟩) hHeld ?_
      change wpAnyH _ _ _ _ _ _ _ (Act.put _ (some 30) _) _
      try simp only [Act.put, List.setIfInBounds_toArray, List.set_cons_zero, List.set_cons_succ]
      refine wpAnyH_take (i := 5) (oi := _) (v := .bool ((bits .andNot .i64 (kindsT (strip t) : Nat) (kindsT (strip u) : Nat)) == 0)) rfl (by kernel_rfl) (by kernel_rfl) (by kernel_rfl) (fun _ _ _ h => h) (Or.inl ⟨by rfl, fun w' hS => (by go_simp)⟩) hHeld ?_
      change wpAnyH _ _ _ _ _ _ _ (Act.put _ (some 31) _) _
      try simp only [Act.put, List.setIfInBounds_toArray, List.set_cons_zero, List.set_cons_succ]
      refine wpAnyH_take (i := 6) (oi := _) (v := .bool ((bits .andNot .i64 (kindsT (strip t) : Nat) (kindsT (strip u) : Nat)) == 0)) rfl (by kernel_rfl) (by kernel_rfl) (by kernel_rfl) (fun _ _ _ h => h) (Or.inl ⟨by rfl, fun w' hS => (by go_simp)⟩) hHeld ?_
      change wpAnyH _ _ _ _ _ _ _ (Act.put _ (some 6) _) _
      try simp only [Act.put, List.setIfInBounds_toArray, List.set_cons_zero, List.set_cons_succ]
      refine wpAnyH_done (by kernel_rfl) ?_ _
      go_wp2
      go_ret
      exact ⟨by rw [HG.out, ← HAN.out]; rfl, B2.out.trans ((HB5.out.trans (HB6.out.mono HB5.out.size)).mono B2.out.size)⟩
    · have h2 := fun w => bflat_any u w
      rw [tb_false fu] at h2
      unfold LTy.val at h2
      have HF2 := Lib.hid h2
      by_cases h5 : t.kind = 5
      · have HG := Lib.hid (show ans = tb (h = true ∧ u.kind = 8) by rw [HA.out]; have := goes_table (h := h) (n := n) (a := strip t) (b := strip u) (by rw [HKU.out]; exact fu) (by rw [HKT.out]; exact h5); rw [HKU.out] at this; exact tb_congr this)
        have e5 : (t.kind == 5) = true := beq_iff_eq.2 h5
        have hor : h = false ∨ (h = true ∧ ((u.kind == 8) = true ∧ ans = true)) ∨ (h = true ∧ ((u.kind == 8) = false ∧ ans = false)) := by
          cases h with
          | false => exact .inl rfl
          | true =>
            by_cases h8 : u.kind = 8
            · exact .inr (.inl ⟨rfl, beq_iff_eq.2 h8, by rw [HG.out]; exact tb_true ⟨rfl, h8⟩⟩)
            · exact .inr (.inr ⟨rfl, beq_eq_false_iff_ne.2 h8, by rw [HG.out]; exact tb_false fun e => h8 e.2⟩)
        clear h1 h2 hu0 ht0 ft fu HA h5
        rcases hor with rfl | ⟨rfl, e8, rfl⟩ | ⟨rfl, e8, rfl⟩
        · have e : ans = false := by rw [HG.out]; exact tb_false (fun e => by cases e.1)
          subst e
          clear HG
          go_wp2_with fail
          with_reducible refine (HF1.out).mono ?_
          rintro e w1 ⟨rfl, hb1⟩
          have T1 := Lib.hid (KT.out.below hb1)
          have U1 := Lib.hid (KU.out.below hb1)
          have B1 := Lib.hid (KB.out.trans (hb1.mono KB.out.size))
          have t1 := T1.out
          have u1 := U1.out
          have t1c0 := t1.c0
          have t1c1 := t1.c1
          have t1c2 := t1.c2
          have t1lt := t1.lt
          have u1c0 := u1.c0
          have u1c1 := u1.c1
          have u1c2 := u1.c2
          have u1lt := u1.lt
          clear hb1 t1 u1
          go_wp2_with fail
          with_reducible refine ((HF2.out w1)).mono ?_
          rintro e w2 ⟨rfl, hb2⟩
          have T2 := Lib.hid (T1.out.below hb2)
          have U2 := Lib.hid (U1.out.below hb2)
          have B2 := Lib.hid (B1.out.trans (hb2.mono B1.out.size))
          have t2 := T2.out
          have u2 := U2.out
          have t2c0 := t2.c0
          have t2c1 := t2.c1
          have t2c2 := t2.c2
          have t2lt := t2.lt
          have u2c0 := u2.c0
          have u2c1 := u2.c1
          have u2c2 := u2.c2
          have u2lt := u2.lt
          clear hb2 t2 u2
          go_wp2
          go_ret
          exact ⟨rfl, B2.out⟩
        all_goals
          clear HG
          go_wp2_with fail
          with_reducible refine (HF1.out).mono ?_
          rintro e w1 ⟨rfl, hb1⟩
          have T1 := Lib.hid (KT.out.below hb1)
          have U1 := Lib.hid (KU.out.below hb1)
          have B1 := Lib.hid (KB.out.trans (hb1.mono KB.out.size))
          have t1 := T1.out
          have u1 := U1.out
          have t1c0 := t1.c0
          have t1c1 := t1.c1
          have t1c2 := t1.c2
          have t1lt := t1.lt
          have u1c0 := u1.c0
          have u1c1 := u1.c1
          have u1c2 := u1.c2
          have u1lt := u1.lt
          clear hb1 t1 u1
          go_wp2_with fail
          with_reducible refine ((HF2.out w1)).mono ?_
          rintro e w2 ⟨rfl, hb2⟩
          have T2 := Lib.hid (T1.out.below hb2)
          have U2 := Lib.hid (U1.out.below hb2)
          have B2 := Lib.hid (B1.out.trans (hb2.mono B1.out.size))
          have t2 := T2.out
          have u2 := U2.out
          have t2c0 := t2.c0
          have t2c1 := t2.c1
          have t2c2 := t2.c2
          have t2lt := t2.lt
          have u2c0 := u2.c0
          have u2c1 := u2.c1
          have u2c2 := u2.c2
          have u2lt := u2.lt
          clear hb2 t2 u2
          go_wp2
          go_ret
          exact ⟨rfl, B2.out⟩
      · have e : ans = false := by
          rw [HA.out]
          refine tb_false fun e => ?_
          have := (goes_else (by rw [HKU.out]; exact hu0) (by rw [HKT.out]; exact ht0) (fun e => fu (by have := e.2; rwa [HKU.out] at this)) (by rw [HKT.out]; exact h5) (by rw [HKT.out]; have := ft.2; omega)).1 e
          have h9 := this.1
          rw [HKT.out] at h9
          have := ft.2
          omega
        subst e
        have e5 : (t.kind == 5) = false := beq_eq_false_iff_ne.2 h5
        have e8 : (t.kind == 8) = false := beq_eq_false_iff_ne.2 (by have := ft.2; omega)
        have e9 : (t.kind == 9) = false := beq_eq_false_iff_ne.2 (by have := ft.2; omega)
        clear h1 h2 hu0 ht0 ft fu HA h5
        go_wp2_with fail
        with_reducible refine (HF1.out).mono ?_
        rintro e w1 ⟨rfl, hb1⟩
        have T1 := Lib.hid (KT.out.below hb1)
        have U1 := Lib.hid (KU.out.below hb1)
        have B1 := Lib.hid (KB.out.trans (hb1.mono KB.out.size))
        have t1 := T1.out
        have u1 := U1.out
        have t1c0 := t1.c0
        have t1c1 := t1.c1
        have t1c2 := t1.c2
        have t1lt := t1.lt
        have u1c0 := u1.c0
        have u1c1 := u1.c1
        have u1c2 := u1.c2
        have u1lt := u1.lt
        clear hb1 t1 u1
        go_wp2_with fail
        with_reducible refine ((HF2.out w1)).mono ?_
        rintro e w2 ⟨rfl, hb2⟩
        have T2 := Lib.hid (T1.out.below hb2)
        have U2 := Lib.hid (U1.out.below hb2)
        have B2 := Lib.hid (B1.out.trans (hb2.mono B1.out.size))
        have t2 := T2.out
        have u2 := U2.out
        have t2c0 := t2.c0
        have t2c1 := t2.c1
        have t2c2 := t2.c2
        have t2lt := t2.lt
        have u2c0 := u2.c0
        have u2c1 := u2.c1
        have u2c2 := u2.c2
        have u2lt := u2.lt
        clear hb2 t2 u2
        go_wp2
        go_ret
        exact ⟨rfl, B2.out⟩
  have h1 := bflat_any t W
  rw [tb_false ft] at h1
  unfold LTy.val at h1
  have HF1 := Lib.hid h1
  have e5 : (t.kind == 5) = false := beq_eq_false_iff_ne.2 (fun e => ft ⟨by omega, by omega⟩)
  rcases (show t.kind = 8 ∨ t.kind = 9 by rcases HCT.out.cases with e | e | e; exact (ft (by rw [HKT.out] at e; exact e)).elim; exact .inl (by rw [HKT.out] at e; exact e); exact .inr (by rw [HKT.out] at e; exact e)) with h8 | h9
  · have e8 : (t.kind == 8) = true := beq_iff_eq.2 h8
    by_cases fu : Flat u.kind
    · have HG := Lib.hid (show ans = tb (kindsT (strip u) &&& 16 = 16) by rw [HA.out]; exact tb_congr (goes_shape_flat (by rw [HKU.out]; exact hu0) (by rw [HKT.out]; exact h8) (by rw [HKU.out]; exact fu)))
      have h2 := fun w => bflat_any u w
      rw [tb_true fu] at h2
      unfold LTy.val at h2
      have HF2 := Lib.hid h2
      have HK2 := Lib.hid (show ∀ w', Below w.heap.size w w' → Calls Tryd.prog 20 #[.agg #[.int .i64 u.kind, .slice u.A u.ns.length u.c, .slice u.A2 u.xs.length u.c2]] w' (RetB (.int .i64 (kindsT (strip u) : Nat)) w') from fun w' hb => by
        have := tkinds_any u w' (HU.out.on hb) (HSP.out.below hb)
        rw [kindsV_yes HMU.out] at this
        unfold LTy.val at this
        exact this)
      have HSH := Lib.hid (shr4 (kinds128 (strip u)))
      clear h1 h2 hu0 ht0 ft fu HA h8
      go_wp2_with fail
      with_reducible refine (HF1.out).mono ?_
      rintro e w1 ⟨rfl, hb1⟩
      have T1 := Lib.hid (KT.out.below hb1)
      have U1 := Lib.hid (KU.out.below hb1)
      have B1 := Lib.hid (KB.out.trans (hb1.mono KB.out.size))
      have t1 := T1.out
      have u1 := U1.out
      have t1c0 := t1.c0
      have t1c1 := t1.c1
      have t1c2 := t1.c2
      have t1lt := t1.lt
      have u1c0 := u1.c0
      have u1c1 := u1.c1
      have u1c2 := u1.c2
      have u1lt := u1.lt
      clear hb1 t1 u1
      go_wp2_with fail
      with_reducible refine ((HF2.out w1)).mono ?_
      rintro e w2 ⟨rfl, hb2⟩
      have T2 := Lib.hid (T1.out.below hb2)
      have U2 := Lib.hid (U1.out.below hb2)
      have B2 := Lib.hid (B1.out.trans (hb2.mono B1.out.size))
      have t2 := T2.out
      have u2 := U2.out
      have t2c0 := t2.c0
      have t2c1 := t2.c1
      have t2c2 := t2.c2
      have t2lt := t2.lt
      have u2c0 := u2.c0
      have u2c1 := u2.c1
      have u2c2 := u2.c2
      have u2lt := u2.lt
      clear hb2 t2 u2
      go_wp2_with fail
      with_reducible refine ((HK2.out w2 B2.out)).mono ?_
      rintro e w3 ⟨rfl, hb3⟩
      have T3 := Lib.hid (T2.out.below hb3)
      have U3 := Lib.hid (U2.out.below hb3)
      have B3 := Lib.hid (B2.out.trans (hb3.mono B2.out.size))
      have t3 := T3.out
      have u3 := U3.out
      have t3c0 := t3.c0
      have t3c1 := t3.c1
      have t3c2 := t3.c2
      have t3lt := t3.lt
      have u3c0 := u3.c0
      have u3c1 := u3.c1
      have u3c2 := u3.c2
      have u3lt := u3.lt
      clear hb3 t3 u3
      go_wp2
      go_ret
      exact ⟨by rw [HG.out, ← HSH.out]; rfl, B3.out⟩
    have h2 := fun w => bflat_any u w
    rw [tb_false fu] at h2
    unfold LTy.val at h2
    have HF2 := Lib.hid h2
    have HG := Lib.hid (show ans = tb (u.kind = 8 ∧ FieldsT h (strip t) (strip u)) by rw [HA.out]; have := goes_shape (h := h) (n := n) (a := strip t) (b := strip u) (by rw [HKT.out]; exact h8) (by rw [HKU.out]; exact fu); rw [HKU.out] at this; exact tb_congr this)
    by_cases hu8 : u.kind = 8
    · have eu8 : (u.kind == 8) = true := beq_iff_eq.2 hu8
      have HFL := Lib.hid (show ∀ w', Below w.heap.size w w' → Calls Tryd.prog 75 #[.agg #[.int .i64 t.kind, .slice t.A t.ns.length t.c, .slice t.A2 t.xs.length t.c2], .agg #[.int .i64 u.kind, .slice u.A u.ns.length u.c, .slice u.A2 u.xs.length u.c2], .int .i64 hv] w' (RetB (.bool ans) w') from fun w' hb => by
        have := fields_any h hv hh t u w' (HT.out.on hb) (HU.out.on hb) (HSP.out.below hb) HMT.out HMU.out h8 hu8
        rw [show ans = tb (FieldsT h (strip t) (strip u)) by rw [HG.out]; exact tb_congr ⟨fun e => e.2, fun e => ⟨hu8, e⟩⟩]
        unfold LTy.val at this
        exact this)
      clear h1 h2 hu0 ht0 ft fu HA h8 hu8 HG
      go_wp2_with fail
      with_reducible refine (HF1.out).mono ?_
      rintro e w1 ⟨rfl, hb1⟩
      have T1 := Lib.hid (KT.out.below hb1)
      have U1 := Lib.hid (KU.out.below hb1)
      have B1 := Lib.hid (KB.out.trans (hb1.mono KB.out.size))
      have t1 := T1.out
      have u1 := U1.out
      have t1c0 := t1.c0
      have t1c1 := t1.c1
      have t1c2 := t1.c2
      have t1lt := t1.lt
      have u1c0 := u1.c0
      have u1c1 := u1.c1
      have u1c2 := u1.c2
      have u1lt := u1.lt
      clear hb1 t1 u1
      go_wp2_with fail
      with_reducible refine ((HF2.out w1)).mono ?_
      rintro e w2 ⟨rfl, hb2⟩
      have T2 := Lib.hid (T1.out.below hb2)
      have U2 := Lib.hid (U1.out.below hb2)
      have B2 := Lib.hid (B1.out.trans (hb2.mono B1.out.size))
      have t2 := T2.out
      have u2 := U2.out
      have t2c0 := t2.c0
      have t2c1 := t2.c1
      have t2c2 := t2.c2
      have t2lt := t2.lt
      have u2c0 := u2.c0
      have u2c1 := u2.c1
      have u2c2 := u2.c2
      have u2lt := u2.lt
      clear hb2 t2 u2
      go_wp2_with fail
      with_reducible refine ((HFL.out w2 B2.out)).mono ?_
      rintro e w3 ⟨rfl, hb3⟩
      have T3 := Lib.hid (T2.out.below hb3)
      have U3 := Lib.hid (U2.out.below hb3)
      have B3 := Lib.hid (B2.out.trans (hb3.mono B2.out.size))
      have t3 := T3.out
      have u3 := U3.out
      have t3c0 := t3.c0
      have t3c1 := t3.c1
      have t3c2 := t3.c2
      have t3lt := t3.lt
      have u3c0 := u3.c0
      have u3c1 := u3.c1
      have u3c2 := u3.c2
      have u3lt := u3.lt
      clear hb3 t3 u3
      go_wp2
      go_ret
      exact ⟨by first | rfl | (cases ans <;> rfl), B3.out⟩
    · have e : ans = false := by rw [HG.out]; exact tb_false fun e => hu8 e.1
      subst e
      have eu8 : (u.kind == 8) = false := beq_eq_false_iff_ne.2 hu8
      clear h1 h2 hu0 ht0 ft fu HA h8 hu8 HG
      go_wp2_with fail
      with_reducible refine (HF1.out).mono ?_
      rintro e w1 ⟨rfl, hb1⟩
      have T1 := Lib.hid (KT.out.below hb1)
      have U1 := Lib.hid (KU.out.below hb1)
      have B1 := Lib.hid (KB.out.trans (hb1.mono KB.out.size))
      have t1 := T1.out
      have u1 := U1.out
      have t1c0 := t1.c0
      have t1c1 := t1.c1
      have t1c2 := t1.c2
      have t1lt := t1.lt
      have u1c0 := u1.c0
      have u1c1 := u1.c1
      have u1c2 := u1.c2
      have u1lt := u1.lt
      clear hb1 t1 u1
      go_wp2_with fail
      with_reducible refine ((HF2.out w1)).mono ?_
      rintro e w2 ⟨rfl, hb2⟩
      have T2 := Lib.hid (T1.out.below hb2)
      have U2 := Lib.hid (U1.out.below hb2)
      have B2 := Lib.hid (B1.out.trans (hb2.mono B1.out.size))
      have t2 := T2.out
      have u2 := U2.out
      have t2c0 := t2.c0
      have t2c1 := t2.c1
      have t2c2 := t2.c2
      have t2lt := t2.lt
      have u2c0 := u2.c0
      have u2c1 := u2.c1
      have u2c2 := u2.c2
      have u2lt := u2.lt
      clear hb2 t2 u2
      go_wp2
      go_ret
      exact ⟨rfl, B2.out⟩
  have e8 : (t.kind == 8) = false := beq_eq_false_iff_ne.2 (by omega)
  have e9 : (t.kind == 9) = true := beq_iff_eq.2 h9
  have HG := Lib.hid (goes_func (h := h) (n := n) (a := strip t) (b := strip u) (by rw [HKT.out]; exact h9) (by rw [HKU.out]; exact hu0))
  by_cases hu9 : u.kind = 9
  case neg =>
    have e : ans = false := by rw [HA.out]; exact tb_false fun e => hu9 (by have := (HG.out.1 e).2.1; rwa [HKU.out] at this)
    subst e
    have eu9 : (u.kind == 9) = false := beq_eq_false_iff_ne.2 hu9
    have eu9' : (u.kind != 9) = true := by rw [bne, eu9]; rfl
    clear h1 hu0 ht0 ft HA h9 hu9 HG
    go_wp2_with fail
    with_reducible refine (HF1.out).mono ?_
    rintro e w1 ⟨rfl, hb1⟩
    have T1 := Lib.hid (KT.out.below hb1)
    have U1 := Lib.hid (KU.out.below hb1)
    have B1 := Lib.hid (KB.out.trans (hb1.mono KB.out.size))
    have t1 := T1.out
    have u1 := U1.out
    have t1c0 := t1.c0
    have t1c1 := t1.c1
    have t1c2 := t1.c2
    have t1lt := t1.lt
    have u1c0 := u1.c0
    have u1c1 := u1.c1
    have u1c2 := u1.c2
    have u1lt := u1.lt
    clear hb1 t1 u1
    go_wp2
    go_ret
    exact ⟨rfl, B1.out⟩
  have eu9 : (u.kind == 9) = true := beq_iff_eq.2 hu9
  have eu9' : (u.kind != 9) = false := by rw [bne, eu9]; rfl
  by_cases hlen : t.xs.length = u.xs.length
  case neg =>
    have e : ans = false := by rw [HA.out]; exact tb_false fun e => hlen (by have := (HG.out.1 e).2.2.1; rwa [strip_len, strip_len] at this)
    subst e
    have el : ((t.xs.length : Int) == (u.xs.length : Int)) = false := beq_eq_false_iff_ne.2 (by omega)
    have el' : ((t.xs.length : Int) != (u.xs.length : Int)) = true := by rw [bne, el]; rfl
    clear h1 hu0 ht0 ft HA h9 hu9 HG hlen
    go_wp2_with fail
    with_reducible refine (HF1.out).mono ?_
    rintro e w1 ⟨rfl, hb1⟩
    have T1 := Lib.hid (KT.out.below hb1)
    have U1 := Lib.hid (KU.out.below hb1)
    have B1 := Lib.hid (KB.out.trans (hb1.mono KB.out.size))
    have t1 := T1.out
    have u1 := U1.out
    have t1c0 := t1.c0
    have t1c1 := t1.c1
    have t1c2 := t1.c2
    have t1lt := t1.lt
    have u1c0 := u1.c0
    have u1c1 := u1.c1
    have u1c2 := u1.c2
    have u1lt := u1.lt
    clear hb1 t1 u1
    go_wp2
    go_ret
    exact ⟨rfl, B1.out⟩
  obtain ⟨m, hm⟩ : ∃ m, t.xs.length = m + 1 := by
    obtain ⟨_, us, z, e⟩ := func_split HCT.out (by rw [HKT.out]; exact h9)
    exact ⟨us.length, by rw [← strip_len, e]; simp⟩
  have HN := Lib.hid (show t.xs.length = m + 1 ∧ u.xs.length = m + 1 from ⟨hm, by rw [← hlen]; exact hm⟩)
  have HG2 := Lib.hid (show ans = tb ((∀ (i : Nat) (x y : LTy), i < m → t.xs[i]? = some x → u.xs[i]? = some y → Goes h n (strip y) (strip x)) ∧ (∀ (x y : LTy), t.xs[m]? = some x → u.xs[m]? = some y → Goes h n (strip x) (strip y))) by
    rw [HA.out, tb_congr HG.out]
    rw [HKT.out, HKU.out, strip_len, strip_len, hm]
    have hl := HN.out.2
    refine tb_congr ⟨fun e => ⟨fun i x y hi hx hy => e.2.2.2.1 i _ _ (by omega) (strip_at hx) (strip_at hy), fun x y hx hy => e.2.2.2.2 _ _ (by simpa using strip_at hx) (by rw [hl]; simpa using strip_at hy)⟩, fun e => ⟨h9, hu9, hl.symm, fun i x y hi hx hy => ?_, fun x y hx hy => ?_⟩⟩
    · obtain ⟨x', hx', rfl⟩ := strip_of hx
      obtain ⟨y', hy', rfl⟩ := strip_of hy
      exact e.1 i x' y' (by omega) hx' hy'
    · obtain ⟨x', hx', rfl⟩ := strip_of hx
      obtain ⟨y', hy', rfl⟩ := strip_of hy
      rw [hl] at hy'
      exact e.2 x' y' (by simpa using hx') (by simpa using hy'))
  have HPM := Lib.hid (show ∀ (i : Nat) (x y : LTy), t.xs[i]? = some x → u.xs[i]? = some y → (May (strip x) ∧ Chk n (strip x)) ∧ May (strip y) ∧ Chk n (strip y) from fun i x y hx hy => ⟨⟨HMT.out.part (strip_at hx), HCT.out.part (strip_at hx)⟩, HMU.out.part (strip_at hy), HCU.out.part (strip_at hy)⟩)
  have hm2 : m + 1 ≤ 8796093022208 := by omega
  have hwm : IntKind.i64.wrap (m : Int) = (m : Int) := IntWalk.i64_in _ (by omega)
  rw [HN.out.1] at ktc2
  rw [HN.out.2] at kuc2
  have hF1 := HF1.out
  rw [HN.out.1] at hF1
  have HF1' := Lib.hid hF1
  have el' : (((m + 1 : Nat) : Int) != ((m + 1 : Nat) : Int)) = false := by simp
  have el2 : (((m : Int) + 1) != ((m : Int) + 1)) = false := by simp
  clear h1 hu0 ht0 ft HA h9 hu9 HG hlen hm hF1 hl2 hl3 HF1
  go_wp2_with fail
  with_reducible refine HF1'.out.mono ?_
  rintro e w1 ⟨rfl, hb1⟩
  have T1 := Lib.hid (KT.out.below hb1)
  have U1 := Lib.hid (KU.out.below hb1)
  have B1 := Lib.hid (KB.out.trans (hb1.mono KB.out.size))
  have t1 := T1.out
  have u1 := U1.out
  have t1c0 := t1.c0
  have t1c1 := t1.c1
  have t1c2 := t1.c2
  have t1lt := t1.lt
  have u1c0 := u1.c0
  have u1c1 := u1.c1
  have u1c2 := u1.c2
  have u1lt := u1.lt
  rw [HN.out.1] at t1c2
  rw [HN.out.2] at u1c2
  clear hb1 t1 u1
  go_wp2_with fail
  clear t1c0 t1c1 t1c2 u1c0 u1c1 u1c2 t1lt u1lt ktc0 ktc1 ktc2 kuc0 kuc1 kuc2 ktlt kult el' el2
  go_loopw [80] (fun i wr => ∃ k : Nat, k ≤ m ∧ i = .int .i64 k ∧ Hid (∀ (j : Nat) (x y : LTy), j < k → t.xs[j]? = some x → u.xs[j]? = some y → Goes h n (strip y) (strip x)) ∧ Hid (Below w1.heap.size w1 wr)) (fun i _ => m - (intOf i).toNat)
  case atStart => exact ⟨0, by omega, rfl, Lib.hid (fun j x y hj => by omega), Lib.hid (Below.refl _ _)⟩
  case round =>
    obtain ⟨k, hk, rfl, HK, HW⟩ := hrel
    have KBr := Lib.hid (B1.out.trans (HW.out.mono B1.out.size))
    obtain ⟨x, hx⟩ : ∃ x, t.xs[k]? = some x := ⟨_, List.getElem?_eq_getElem (by rw [HN.out.1]; omega)⟩
    obtain ⟨y, hy⟩ : ∃ y, u.xs[k]? = some y := ⟨_, List.getElem?_eq_getElem (by rw [HN.out.2]; omega)⟩
    have htr := HT.out.on KBr.out
    have hur := HU.out.on KBr.out
    obtain ⟨a1, hA1, hx3⟩ := htr.at3 hx
    obtain ⟨a2, hA2, hy3⟩ := hur.at3 hy
    have BT := Lib.hid (T1.out.below HW.out)
    have BU := Lib.hid (U1.out.below HW.out)
    have X3 := Lib.hid hx3
    have Y3 := Lib.hid hy3
    have HA1 := Lib.hid hA1
    have HA2 := Lib.hid hA2
    have hd : Below wr.heap.size wr wr.drew := (Below.refl _ _).drew
    have hpm := HPM.out k x y hx hy
    have lt1 := BT.out.lt
    have lu1 := BU.out.lt
    have hwk : IntKind.i64.wrap (k : Int) = (k : Int) := IntWalk.i64_in _ (by omega)
    by_cases hlt : k < m
    · have hcall := HIH.out y x wr.drew ((hur.part hy).on hd) ((htr.part hx).on hd) (HSP.out.below (KBr.out.trans (hd.mono KBr.out.size))) hpm.2.1 hpm.1.1 hpm.2.2 hpm.1.2
      unfold LTy.val at hcall
      have HX := Lib.hid (show t.xs[k]? = some x ∧ u.xs[k]? = some y from ⟨hx, hy⟩)
      have hk' : (k : Int) < ((m + 1 : Nat) : Int) := by omega
      have hk'' : (k : Int) < (m : Int) + 1 := by omega
      have hkm : (k : Int) < (m : Int) := by omega
      have hk0 : (0 : Int) ≤ k := by omega
      clear htr hur hx hy hA1 hA2 hd hx3 hy3 hpm
      by_cases hg : Goes h n (strip y) (strip x)
      · rw [tb_true hg] at hcall
        have HC := Lib.hid hcall
        have HK2 := Lib.hid (show ∀ (j : Nat) (x y : LTy), j < k + 1 → t.xs[j]? = some x → u.xs[j]? = some y → Goes h n (strip y) (strip x) from fun j x' y' hj hx' hy' => by
          rcases Nat.lt_or_ge j k with h1 | h1
          · exact HK.out j x' y' h1 hx' hy'
          · obtain rfl : j = k := by omega
            rw [HX.out.1] at hx'
            rw [HX.out.2] at hy'
            obtain rfl := Option.some.inj hx'
            obtain rfl := Option.some.inj hy'
            exact hg)
        clear hcall hg
        go_wp2_with fail
        refine wp_region_held_drew (S := fun w' => TBox w' g t ∧ TBox w' (g + 1) u ∧ At3 w' (a1.add (k * 3)) x ∧ At3 w' (a2.add (k * 3)) y) (by kernel_rfl) (⟨BT.out, BU.out, X3.out, Y3.out⟩) (fun hHeld => ?_)
        refine wpAnyH_take (i := 0) (oi := _) (v := .pointer (some ⟨g + 1, 2, none⟩)) rfl (by kernel_rfl) (by kernel_rfl) (by kernel_rfl) (fun _ _ _ h => h) (Or.inl ⟨by rfl, fun w' hS => (by go_simp)⟩) hHeld ?_
        change wpAnyH _ _ _ _ _ _ _ (Act.put _ (some 83) _) _
        try simp only [Act.put, List.setIfInBounds_toArray, List.set_cons_zero, List.set_cons_succ]
        refine wpAnyH_take (i := 1) (oi := _) (v := .slice (some a2) (m + 1) u.c2) rfl (by kernel_rfl) (by kernel_rfl) (by kernel_rfl) (fun _ _ _ h => h) (Or.inl ⟨by rfl, fun w' hS => (by have q := TBox.c2 hS.2.1; rw [HN.out.2, HA2.out] at q; go_simp)⟩) hHeld ?_
        change wpAnyH _ _ _ _ _ _ _ (Act.put _ (some 84) _) _
        try simp only [Act.put, List.setIfInBounds_toArray, List.set_cons_zero, List.set_cons_succ]
        refine wpAnyH_take (i := 2) (oi := _) (v := .int .i64 (k : Int)) rfl (by kernel_rfl) (by kernel_rfl) (by kernel_rfl) (fun _ _ _ h => h) (Or.inl ⟨by rfl, fun w' hS => (by go_simp)⟩) hHeld ?_
        change wpAnyH _ _ _ _ _ _ _ (Act.put _ (some 85) _) _
        try simp only [Act.put, List.setIfInBounds_toArray, List.set_cons_zero, List.set_cons_succ]
        refine wpAnyH_take (i := 3) (oi := _) (v := .pointer (some (a2.add (k * 3)))) rfl (by kernel_rfl) (by kernel_rfl) (by kernel_rfl) (fun _ _ _ h => h) (Or.inl ⟨by rfl, fun w' hS => (by go_simp)⟩) hHeld ?_
        change wpAnyH _ _ _ _ _ _ _ (Act.put _ (some 86) _) _
        try simp only [Act.put, List.setIfInBounds_toArray, List.set_cons_zero, List.set_cons_succ]
        refine wpAnyH_take (i := 4) (oi := _) (v := .agg #[.int .i64 y.kind, .slice y.A y.ns.length y.c, .slice y.A2 y.xs.length y.c2]) rfl (by kernel_rfl) (by kernel_rfl) (by kernel_rfl) (fun _ _ _ h => h) (Or.inl ⟨by rfl, fun w' hS => (by obtain ⟨_, q0, q1, q2⟩ := hS.2.2.2; go_simp)⟩) hHeld ?_
        change wpAnyH _ _ _ _ _ _ _ (Act.put _ (some 87) _) _
        try simp only [Act.put, List.setIfInBounds_toArray, List.set_cons_zero, List.set_cons_succ]
        refine wpAnyH_take (i := 5) (oi := _) (v := .pointer (some ⟨g, 2, none⟩)) rfl (by kernel_rfl) (by kernel_rfl) (by kernel_rfl) (fun _ _ _ h => h) (Or.inl ⟨by rfl, fun w' hS => (by go_simp)⟩) hHeld ?_
        change wpAnyH _ _ _ _ _ _ _ (Act.put _ (some 88) _) _
        try simp only [Act.put, List.setIfInBounds_toArray, List.set_cons_zero, List.set_cons_succ]
        refine wpAnyH_take (i := 6) (oi := _) (v := .slice (some a1) (m + 1) t.c2) rfl (by kernel_rfl) (by kernel_rfl) (by kernel_rfl) (fun _ _ _ h => h) (Or.inl ⟨by rfl, fun w' hS => (by have q := TBox.c2 hS.1; rw [HN.out.1, HA1.out] at q; go_simp)⟩) hHeld ?_
        change wpAnyH _ _ _ _ _ _ _ (Act.put _ (some 89) _) _
        try simp only [Act.put, List.setIfInBounds_toArray, List.set_cons_zero, List.set_cons_succ]
        refine wpAnyH_take (i := 7) (oi := _) (v := .int .i64 (k : Int)) rfl (by kernel_rfl) (by kernel_rfl) (by kernel_rfl) (fun _ _ _ h => h) (Or.inl ⟨by rfl, fun w' hS => (by go_simp)⟩) hHeld ?_
        change wpAnyH _ _ _ _ _ _ _ (Act.put _ (some 90) _) _
        try simp only [Act.put, List.setIfInBounds_toArray, List.set_cons_zero, List.set_cons_succ]
        refine wpAnyH_take (i := 8) (oi := _) (v := .pointer (some (a1.add (k * 3)))) rfl (by kernel_rfl) (by kernel_rfl) (by kernel_rfl) (fun _ _ _ h => h) (Or.inl ⟨by rfl, fun w' hS => (by go_simp)⟩) hHeld ?_
        change wpAnyH _ _ _ _ _ _ _ (Act.put _ (some 91) _) _
        try simp only [Act.put, List.setIfInBounds_toArray, List.set_cons_zero, List.set_cons_succ]
        refine wpAnyH_take (i := 9) (oi := _) (v := .agg #[.int .i64 x.kind, .slice x.A x.ns.length x.c, .slice x.A2 x.xs.length x.c2]) rfl (by kernel_rfl) (by kernel_rfl) (by kernel_rfl) (fun _ _ _ h => h) (Or.inl ⟨by rfl, fun w' hS => (by obtain ⟨_, q0, q1, q2⟩ := hS.2.2.1; go_simp)⟩) hHeld ?_
        change wpAnyH _ _ _ _ _ _ _ (Act.put _ (some 92) _) _
        try simp only [Act.put, List.setIfInBounds_toArray, List.set_cons_zero, List.set_cons_succ]
        refine wpAnyH_take (i := 10) (oi := _) (v := .int .i64 hv) rfl (by kernel_rfl) (by kernel_rfl) (by kernel_rfl) (fun _ _ _ h => h) (Or.inl ⟨by rfl, fun w' hS => (by go_simp)⟩) hHeld ?_
        change wpAnyH _ _ _ _ _ _ _ (Act.put _ (some 93) _) _
        try simp only [Act.put, List.setIfInBounds_toArray, List.set_cons_zero, List.set_cons_succ]
        refine wpAnyH_ready (rs := [11]) (by kernel_rfl) (by simp) ?_
        refine AllReadyH.cons (o := _) rfl (fun K hK => ?_) AllReadyH.nil
        go_simp
        with_reducible refine HC.out.mono ?_
        rintro e w5 ⟨rfl, hb5⟩
        have HB5 := Lib.hid (show Below wr.heap.size wr w5 from (Below.refl _ _).drew.trans hb5)
        clear hb5
        refine hK.out _ _ (⟨BT.out.below HB5.out, BU.out.below HB5.out, X3.out.below HB5.out, Y3.out.below HB5.out⟩) (fun hHeld => ?_)
        clear hK K
        try simp only [Act.put, List.setIfInBounds_toArray, List.set_cons_zero, List.set_cons_succ]
        refine wpAnyH_take (i := 12) (oi := _) (v := .bool false) rfl (by kernel_rfl) (by kernel_rfl) (by kernel_rfl) (fun _ _ _ h => h) (Or.inl ⟨by rfl, fun w' hS => (by go_simp)⟩) hHeld ?_
        change wpAnyH _ _ _ _ _ _ _ (Act.put _ (some 95) _) _
        try simp only [Act.put, List.setIfInBounds_toArray, List.set_cons_zero, List.set_cons_succ]
        refine wpAnyH_done (by kernel_rfl) ?_ _
        go_wp2_with fail
        go_roundw
        case rel => exact ⟨k + 1, by omega, by go_num, HK2, Lib.hid (HW.out.trans (HB5.out.mono HW.out.size))⟩
        case measure => simp [intOf]; omega
      · rw [tb_false hg] at hcall
        have HC := Lib.hid hcall
        have e : ans = false := by rw [HG2.out]; exact tb_false fun e => hg (e.1 k x y hlt HX.out.1 HX.out.2)
        subst e
        clear hcall hg HG2
        go_wp2_with fail
        refine wp_region_held_drew (S := fun w' => TBox w' g t ∧ TBox w' (g + 1) u ∧ At3 w' (a1.add (k * 3)) x ∧ At3 w' (a2.add (k * 3)) y) (by kernel_rfl) (⟨BT.out, BU.out, X3.out, Y3.out⟩) (fun hHeld => ?_)
        refine wpAnyH_take (i := 0) (oi := _) (v := .pointer (some ⟨g + 1, 2, none⟩)) rfl (by kernel_rfl) (by kernel_rfl) (by kernel_rfl) (fun _ _ _ h => h) (Or.inl ⟨by rfl, fun w' hS => (by go_simp)⟩) hHeld ?_
        change wpAnyH _ _ _ _ _ _ _ (Act.put _ (some 83) _) _
        try simp only [Act.put, List.setIfInBounds_toArray, List.set_cons_zero, List.set_cons_succ]
        refine wpAnyH_take (i := 1) (oi := _) (v := .slice (some a2) (m + 1) u.c2) rfl (by kernel_rfl) (by kernel_rfl) (by kernel_rfl) (fun _ _ _ h => h) (Or.inl ⟨by rfl, fun w' hS => (by have q := TBox.c2 hS.2.1; rw [HN.out.2, HA2.out] at q; go_simp)⟩) hHeld ?_
        change wpAnyH _ _ _ _ _ _ _ (Act.put _ (some 84) _) _
        try simp only [Act.put, List.setIfInBounds_toArray, List.set_cons_zero, List.set_cons_succ]
        refine wpAnyH_take (i := 2) (oi := _) (v := .int .i64 (k : Int)) rfl (by kernel_rfl) (by kernel_rfl) (by kernel_rfl) (fun _ _ _ h => h) (Or.inl ⟨by rfl, fun w' hS => (by go_simp)⟩) hHeld ?_
        change wpAnyH _ _ _ _ _ _ _ (Act.put _ (some 85) _) _
        try simp only [Act.put, List.setIfInBounds_toArray, List.set_cons_zero, List.set_cons_succ]
        refine wpAnyH_take (i := 3) (oi := _) (v := .pointer (some (a2.add (k * 3)))) rfl (by kernel_rfl) (by kernel_rfl) (by kernel_rfl) (fun _ _ _ h => h) (Or.inl ⟨by rfl, fun w' hS => (by go_simp)⟩) hHeld ?_
        change wpAnyH _ _ _ _ _ _ _ (Act.put _ (some 86) _) _
        try simp only [Act.put, List.setIfInBounds_toArray, List.set_cons_zero, List.set_cons_succ]
        refine wpAnyH_take (i := 4) (oi := _) (v := .agg #[.int .i64 y.kind, .slice y.A y.ns.length y.c, .slice y.A2 y.xs.length y.c2]) rfl (by kernel_rfl) (by kernel_rfl) (by kernel_rfl) (fun _ _ _ h => h) (Or.inl ⟨by rfl, fun w' hS => (by obtain ⟨_, q0, q1, q2⟩ := hS.2.2.2; go_simp)⟩) hHeld ?_
        change wpAnyH _ _ _ _ _ _ _ (Act.put _ (some 87) _) _
        try simp only [Act.put, List.setIfInBounds_toArray, List.set_cons_zero, List.set_cons_succ]
        refine wpAnyH_take (i := 5) (oi := _) (v := .pointer (some ⟨g, 2, none⟩)) rfl (by kernel_rfl) (by kernel_rfl) (by kernel_rfl) (fun _ _ _ h => h) (Or.inl ⟨by rfl, fun w' hS => (by go_simp)⟩) hHeld ?_
        change wpAnyH _ _ _ _ _ _ _ (Act.put _ (some 88) _) _
        try simp only [Act.put, List.setIfInBounds_toArray, List.set_cons_zero, List.set_cons_succ]
        refine wpAnyH_take (i := 6) (oi := _) (v := .slice (some a1) (m + 1) t.c2) rfl (by kernel_rfl) (by kernel_rfl) (by kernel_rfl) (fun _ _ _ h => h) (Or.inl ⟨by rfl, fun w' hS => (by have q := TBox.c2 hS.1; rw [HN.out.1, HA1.out] at q; go_simp)⟩) hHeld ?_
        change wpAnyH _ _ _ _ _ _ _ (Act.put _ (some 89) _) _
        try simp only [Act.put, List.setIfInBounds_toArray, List.set_cons_zero, List.set_cons_succ]
        refine wpAnyH_take (i := 7) (oi := _) (v := .int .i64 (k : Int)) rfl (by kernel_rfl) (by kernel_rfl) (by kernel_rfl) (fun _ _ _ h => h) (Or.inl ⟨by rfl, fun w' hS => (by go_simp)⟩) hHeld ?_
        change wpAnyH _ _ _ _ _ _ _ (Act.put _ (some 90) _) _
        try simp only [Act.put, List.setIfInBounds_toArray, List.set_cons_zero, List.set_cons_succ]
        refine wpAnyH_take (i := 8) (oi := _) (v := .pointer (some (a1.add (k * 3)))) rfl (by kernel_rfl) (by kernel_rfl) (by kernel_rfl) (fun _ _ _ h => h) (Or.inl ⟨by rfl, fun w' hS => (by go_simp)⟩) hHeld ?_
        change wpAnyH _ _ _ _ _ _ _ (Act.put _ (some 91) _) _
        try simp only [Act.put, List.setIfInBounds_toArray, List.set_cons_zero, List.set_cons_succ]
        refine wpAnyH_take (i := 9) (oi := _) (v := .agg #[.int .i64 x.kind, .slice x.A x.ns.length x.c, .slice x.A2 x.xs.length x.c2]) rfl (by kernel_rfl) (by kernel_rfl) (by kernel_rfl) (fun _ _ _ h => h) (Or.inl ⟨by rfl, fun w' hS => (by obtain ⟨_, q0, q1, q2⟩ := hS.2.2.1; go_simp)⟩) hHeld ?_
        change wpAnyH _ _ _ _ _ _ _ (Act.put _ (some 92) _) _
        try simp only [Act.put, List.setIfInBounds_toArray, List.set_cons_zero, List.set_cons_succ]
        refine wpAnyH_take (i := 10) (oi := _) (v := .int .i64 hv) rfl (by kernel_rfl) (by kernel_rfl) (by kernel_rfl) (fun _ _ _ h => h) (Or.inl ⟨by rfl, fun w' hS => (by go_simp)⟩) hHeld ?_
        change wpAnyH _ _ _ _ _ _ _ (Act.put _ (some 93) _) _
        try simp only [Act.put, List.setIfInBounds_toArray, List.set_cons_zero, List.set_cons_succ]
        refine wpAnyH_ready (rs := [11]) (by kernel_rfl) (by simp) ?_
        refine AllReadyH.cons (o := _) rfl (fun K hK => ?_) AllReadyH.nil
        go_simp
        with_reducible refine HC.out.mono ?_
        rintro e w5 ⟨rfl, hb5⟩
        have HB5 := Lib.hid (show Below wr.heap.size wr w5 from (Below.refl _ _).drew.trans hb5)
        clear hb5
        refine hK.out _ _ (⟨BT.out.below HB5.out, BU.out.below HB5.out, X3.out.below HB5.out, Y3.out.below HB5.out⟩) (fun hHeld => ?_)
        clear hK K
        try simp only [Act.put, List.setIfInBounds_toArray, List.set_cons_zero, List.set_cons_succ]
        refine wpAnyH_take (i := 12) (oi := _) (v := .bool true) rfl (by kernel_rfl) (by kernel_rfl) (by kernel_rfl) (fun _ _ _ h => h) (Or.inl ⟨by rfl, fun w' hS => (by go_simp)⟩) hHeld ?_
        change wpAnyH _ _ _ _ _ _ _ (Act.put _ (some 95) _) _
        try simp only [Act.put, List.setIfInBounds_toArray, List.set_cons_zero, List.set_cons_succ]
        refine wpAnyH_done (by kernel_rfl) ?_ _
        go_wp2
        go_ret
        exact ⟨rfl, KBr.out.trans (HB5.out.mono KBr.out.size)⟩
    · obtain rfl : k = m := by omega
      have hcall := HIH.out x y wr.drew ((htr.part hx).on hd) ((hur.part hy).on hd) (HSP.out.below (KBr.out.trans (hd.mono KBr.out.size))) hpm.1.1 hpm.2.1 hpm.1.2 hpm.2.2
      rw [show tb (Goes h n (strip x) (strip y)) = ans by
        rw [HG2.out]
        refine tb_congr ⟨fun e => ⟨HK.out, fun x' y' hx' hy' => ?_⟩, fun e => e.2 x y hx hy⟩
        rw [hx] at hx'
        rw [hy] at hy'
        obtain rfl := Option.some.inj hx'
        obtain rfl := Option.some.inj hy'
        exact e] at hcall
      unfold LTy.val at hcall
      have HC := Lib.hid hcall
      have hk' : (k : Int) < ((k + 1 : Nat) : Int) := by omega
      have hk'' : (k : Int) < (k : Int) + 1 := by omega
      have hkm : ¬ (k : Int) < (k : Int) := by omega
      have hk0 : (0 : Int) ≤ k := by omega
      clear htr hur hx hy hA1 hA2 hd hx3 hy3 hpm hcall hlt
      go_wp2_with fail
      refine wp_region_held_drew (S := fun w' => TBox w' g t ∧ TBox w' (g + 1) u ∧ At3 w' (a1.add (k * 3)) x ∧ At3 w' (a2.add (k * 3)) y) (by kernel_rfl) (⟨BT.out, BU.out, X3.out, Y3.out⟩) (fun hHeld => ?_)
      refine wpAnyH_take (i := 0) (oi := _) (v := .pointer (some ⟨g, 2, none⟩)) rfl (by kernel_rfl) (by kernel_rfl) (by kernel_rfl) (fun _ _ _ h => h) (Or.inl ⟨by rfl, fun w' hS => (by go_simp)⟩) hHeld ?_
      change wpAnyH _ _ _ _ _ _ _ (Act.put _ (some 97) _) _
      try simp only [Act.put, List.setIfInBounds_toArray, List.set_cons_zero, List.set_cons_succ]
      refine wpAnyH_take (i := 1) (oi := _) (v := .slice (some a1) (k + 1) t.c2) rfl (by kernel_rfl) (by kernel_rfl) (by kernel_rfl) (fun _ _ _ h => h) (Or.inl ⟨by rfl, fun w' hS => (by have q := TBox.c2 hS.1; rw [HN.out.1, HA1.out] at q; go_simp)⟩) hHeld ?_
      change wpAnyH _ _ _ _ _ _ _ (Act.put _ (some 98) _) _
      try simp only [Act.put, List.setIfInBounds_toArray, List.set_cons_zero, List.set_cons_succ]
      refine wpAnyH_take (i := 2) (oi := _) (v := .int .i64 (k : Int)) rfl (by kernel_rfl) (by kernel_rfl) (by kernel_rfl) (fun _ _ _ h => h) (Or.inl ⟨by rfl, fun w' hS => (by go_simp)⟩) hHeld ?_
      change wpAnyH _ _ _ _ _ _ _ (Act.put _ (some 99) _) _
      try simp only [Act.put, List.setIfInBounds_toArray, List.set_cons_zero, List.set_cons_succ]
      refine wpAnyH_take (i := 3) (oi := _) (v := .pointer (some (a1.add (k * 3)))) rfl (by kernel_rfl) (by kernel_rfl) (by kernel_rfl) (fun _ _ _ h => h) (Or.inl ⟨by rfl, fun w' hS => (by go_simp)⟩) hHeld ?_
      change wpAnyH _ _ _ _ _ _ _ (Act.put _ (some 100) _) _
      try simp only [Act.put, List.setIfInBounds_toArray, List.set_cons_zero, List.set_cons_succ]
      refine wpAnyH_take (i := 4) (oi := _) (v := .agg #[.int .i64 x.kind, .slice x.A x.ns.length x.c, .slice x.A2 x.xs.length x.c2]) rfl (by kernel_rfl) (by kernel_rfl) (by kernel_rfl) (fun _ _ _ h => h) (Or.inl ⟨by rfl, fun w' hS => (by obtain ⟨_, q0, q1, q2⟩ := hS.2.2.1; go_simp)⟩) hHeld ?_
      change wpAnyH _ _ _ _ _ _ _ (Act.put _ (some 101) _) _
      try simp only [Act.put, List.setIfInBounds_toArray, List.set_cons_zero, List.set_cons_succ]
      refine wpAnyH_take (i := 5) (oi := _) (v := .pointer (some ⟨g + 1, 2, none⟩)) rfl (by kernel_rfl) (by kernel_rfl) (by kernel_rfl) (fun _ _ _ h => h) (Or.inl ⟨by rfl, fun w' hS => (by go_simp)⟩) hHeld ?_
      change wpAnyH _ _ _ _ _ _ _ (Act.put _ (some 102) _) _
      try simp only [Act.put, List.setIfInBounds_toArray, List.set_cons_zero, List.set_cons_succ]
      refine wpAnyH_take (i := 6) (oi := _) (v := .slice (some a2) (k + 1) u.c2) rfl (by kernel_rfl) (by kernel_rfl) (by kernel_rfl) (fun _ _ _ h => h) (Or.inl ⟨by rfl, fun w' hS => (by have q := TBox.c2 hS.2.1; rw [HN.out.2, HA2.out] at q; go_simp)⟩) hHeld ?_
      change wpAnyH _ _ _ _ _ _ _ (Act.put _ (some 103) _) _
      try simp only [Act.put, List.setIfInBounds_toArray, List.set_cons_zero, List.set_cons_succ]
      refine wpAnyH_take (i := 7) (oi := _) (v := .int .i64 (k : Int)) rfl (by kernel_rfl) (by kernel_rfl) (by kernel_rfl) (fun _ _ _ h => h) (Or.inl ⟨by rfl, fun w' hS => (by go_simp)⟩) hHeld ?_
      change wpAnyH _ _ _ _ _ _ _ (Act.put _ (some 104) _) _
      try simp only [Act.put, List.setIfInBounds_toArray, List.set_cons_zero, List.set_cons_succ]
      refine wpAnyH_take (i := 8) (oi := _) (v := .pointer (some (a2.add (k * 3)))) rfl (by kernel_rfl) (by kernel_rfl) (by kernel_rfl) (fun _ _ _ h => h) (Or.inl ⟨by rfl, fun w' hS => (by go_simp)⟩) hHeld ?_
      change wpAnyH _ _ _ _ _ _ _ (Act.put _ (some 105) _) _
      try simp only [Act.put, List.setIfInBounds_toArray, List.set_cons_zero, List.set_cons_succ]
      refine wpAnyH_take (i := 9) (oi := _) (v := .agg #[.int .i64 y.kind, .slice y.A y.ns.length y.c, .slice y.A2 y.xs.length y.c2]) rfl (by kernel_rfl) (by kernel_rfl) (by kernel_rfl) (fun _ _ _ h => h) (Or.inl ⟨by rfl, fun w' hS => (by obtain ⟨_, q0, q1, q2⟩ := hS.2.2.2; go_simp)⟩) hHeld ?_
      change wpAnyH _ _ _ _ _ _ _ (Act.put _ (some 106) _) _
      try simp only [Act.put, List.setIfInBounds_toArray, List.set_cons_zero, List.set_cons_succ]
      refine wpAnyH_take (i := 10) (oi := _) (v := .int .i64 hv) rfl (by kernel_rfl) (by kernel_rfl) (by kernel_rfl) (fun _ _ _ h => h) (Or.inl ⟨by rfl, fun w' hS => (by go_simp)⟩) hHeld ?_
      change wpAnyH _ _ _ _ _ _ _ (Act.put _ (some 107) _) _
      try simp only [Act.put, List.setIfInBounds_toArray, List.set_cons_zero, List.set_cons_succ]
      refine wpAnyH_ready (rs := [11]) (by kernel_rfl) (by simp) ?_
      refine AllReadyH.cons (o := _) rfl (fun K hK => ?_) AllReadyH.nil
      go_simp
      with_reducible refine HC.out.mono ?_
      rintro e w5 ⟨rfl, hb5⟩
      have HB5 := Lib.hid (show Below wr.heap.size wr w5 from (Below.refl _ _).drew.trans hb5)
      clear hb5
      refine hK.out _ _ (⟨BT.out.below HB5.out, BU.out.below HB5.out, X3.out.below HB5.out, Y3.out.below HB5.out⟩) (fun hHeld => ?_)
      clear hK K
      try simp only [Act.put, List.setIfInBounds_toArray, List.set_cons_zero, List.set_cons_succ]
      refine wpAnyH_take (i := 12) (oi := _) (v := .bool ans) rfl (by kernel_rfl) (by kernel_rfl) (by kernel_rfl) (fun _ _ _ h => h) (Or.inl ⟨by rfl, fun w' hS => (by go_simp)⟩) hHeld ?_
      change wpAnyH _ _ _ _ _ _ _ (Act.put _ (some 6) _) _
      try simp only [Act.put, List.setIfInBounds_toArray, List.set_cons_zero, List.set_cons_succ]
      refine wpAnyH_done (by kernel_rfl) ?_ _
      go_wp2
      go_ret
      exact ⟨by first | rfl | (cases ans <;> rfl), KBr.out.trans (HB5.out.mono KBr.out.size)⟩
theorem goes_all (h : Bool) (hv : Int) (hh : (hv == 1) = h) : ∀ n, GoesAll 51 h hv n
  | 0 => fun t u w _ _ _ _ _ ct _ => ct.elim
  | n + 1 => goes_succ h hv hh n (goes_all h hv hh n)
end Go.Proofs.YtllpicibncdppaaDoor
