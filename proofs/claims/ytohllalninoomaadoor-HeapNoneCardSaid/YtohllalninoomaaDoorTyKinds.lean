/-
  The kinds of a type's values: types.Kinds and the reference's.
-/
import Derived.Test.YtohllalninoomaaDoorTyTwo
set_option linter.unusedVariables false
set_option linter.unusedSimpArgs false
namespace Go.Proofs.YtohllalninoomaaDoor
open Go.ChangeShapes Go.WideShapes Go.ChangeAt Go.RowKit

theorem or_i64 {a b : Nat} (ha : a < 128) (hb : b < 128) : bits .or .i64 (a : Int) (b : Int) = ((a ||| b : Nat) : Int) := by
  have hx : a ||| b < 2 ^ 7 := Nat.or_lt_two_pow ha hb
  have h1 : (BitVec.ofInt 64 (a : Int)).toNat = a := by rw [BitVec.ofInt_natCast, BitVec.toNat_ofNat]; exact Nat.mod_eq_of_lt (by omega)
  have h2 : (BitVec.ofInt 64 (b : Int)).toNat = b := by rw [BitVec.ofInt_natCast, BitVec.toNat_ofNat]; exact Nat.mod_eq_of_lt (by omega)
  show IntKind.i64.wrap ((BitVec.ofInt 64 (a : Int) ||| BitVec.ofInt 64 (b : Int)).toNat : Int) = _
  rw [BitVec.toNat_or, h1, h2, IntKind.wrap_i64]
  omega
theorem idx_bits {k : Int} (h0 : 0 ≤ k) (h6 : k ≤ 6) (w : World) : (Instr.index 124 (.agg #[.int .i64 127, .int .i64 1, .int .i64 2, .int .i64 4, .int .i64 8, .int .i64 16, .int .i64 64]) (.int .i64 k)).run Tryd.prog w = .ok (.int .i64 (bitsOf k : Nat)) w := by
  rcases range7 h0 h6 with rfl | rfl | rfl | rfl | rfl | rfl | rfl <;> kernel_rfl
theorem kindsU_append : ∀ (l : List Ty) (a : Ty), kindsU (l ++ [a]) = kindsU l ||| bitsOf a.kind
  | [], a => by simp [kindsU]
  | b :: l, a => by
    rw [List.cons_append, kindsU, kindsU_append l a, kindsU, Nat.or_assoc]
theorem kindsU_take {l : List Ty} {k : Nat} {a : Ty} (h : l[k]? = some a) : kindsU (l.take (k + 1)) = kindsU (l.take k) ||| bitsOf a.kind := by
  rw [List.take_add_one, h]
  exact kindsU_append _ _
theorem bits_val {k : Int} (h0 : 0 < k) (h6 : k < 7) : bitsOf k < 128 := bits128 k
/-- What is said of a type that may not be: nothing. -/
noncomputable def kindsV (t : Ty) : Nat := if tb (May t) = true then kindsT t else 0
theorem kindsV_yes {t : Ty} (h : May t) : kindsV t = kindsT t := by unfold kindsV; rw [if_pos (tb_true h)]
theorem kindsV_no {t : Ty} (h : ¬ May t) : kindsV t = 0 := by unfold kindsV; rw [if_neg (by rw [tb_false h]; simp)]
theorem may_part {t x : LTy} {i : Nat} (h : May (strip t)) (hx : t.xs[i]? = some x) : May (strip x) := h.part (strip_at hx)
theorem union_kind {t x : LTy} {i : Nat} (h : May (strip t)) (h7 : t.kind = 7) (hx : t.xs[i]? = some x) : 0 < x.kind ∧ x.kind < 7 := by
  have := (union_parts h.1 (by rw [strip_kind]; exact h7)).2.2 _ (List.mem_of_getElem? (strip_at hx))
  rw [strip_kind] at this
  exact ⟨this.1, this.2.1⟩
theorem may_kind {t : LTy} (h : May (strip t)) : 0 ≤ t.kind ∧ t.kind ≤ 9 := by
  rcases chk_head h.1 with ⟨h1, h2, _⟩ | ⟨h1, _⟩ | ⟨h1, _⟩ | ⟨h1, _⟩ <;> omega
theorem kindsT_7 {t : LTy} (h : t.kind = 7) : kindsT (strip t) = kindsU (strip t).args := by unfold kindsT; rw [strip_kind, if_pos h]
theorem kindsT_8 {t : LTy} (h : t.kind = 8) : kindsT (strip t) = 16 := by unfold kindsT; rw [strip_kind, if_neg (by omega), if_pos h]
theorem kindsT_9 {t : LTy} (h : t.kind = 9) : kindsT (strip t) = 32 := by unfold kindsT; rw [strip_kind, if_neg (by omega), if_neg (by omega), if_pos h]
theorem kindsT_leaf {t : LTy} (h : t.kind ≤ 6) : kindsT (strip t) = bitsOf t.kind := by unfold kindsT; rw [strip_kind, if_neg (by omega), if_neg (by omega), if_neg (by omega)]
set_option maxRecDepth 100000 in
set_option maxHeartbeats 1000000 in
theorem tbits_any (w : World) : Calls Tryd.prog 61 #[] w (RetB (.agg #[.int .i64 127, .int .i64 1, .int .i64 2, .int .i64 4, .int .i64 8, .int .i64 16, .int .i64 64]) w) := by
  go_enter Tryd.func61, Tryd.ntmps61
  go_wp2
  refine bodyPost_ret (v := .agg #[.int .i64 127, .int .i64 1, .int .i64 2, .int .i64 4, .int .i64 8, .int .i64 16, .int .i64 64]) (by simp [results, Tryd.results61, go_sem]) rfl ?_
  refine ⟨rfl, ?_⟩
  first | exact (Below.refl _ _).alloc (Nat.le_refl _) _ | exact ((((((((Below.refl _ _).alloc (Nat.le_refl _) _).setCell (by simp) _).setCell (by simp) _).setCell (by simp) _).setCell (by simp) _).setCell (by simp) _).setCell (by simp) _).setCell (by simp) _
set_option maxRecDepth 100000 in
set_option maxHeartbeats 8000000 in
theorem tkinds_any (t : LTy) (w : World) (hin : LIn w w.heap.size t) (hsp : SpW w) : Calls Tryd.prog 38 #[t.val] w (RetB (.int .i64 (kindsV (strip t) : Nat)) w) := by
  unfold LTy.val
  obtain ⟨g, hg⟩ : ∃ g, g = w.heap.size := ⟨_, rfl⟩
  have HIN := Lib.hid hin
  have HSP := Lib.hid hsp
  clear hin hsp
  obtain ⟨ans, hans⟩ : ∃ ans, ans = kindsV (strip t) := ⟨_, rfl⟩
  rw [← hans]
  have HA := Lib.hid hans
  clear hans
  go_enter Tryd.func38, Tryd.ntmps38
  go_upto_region 1 with fail
  rw [← hg]
  refine gen_wpT fun W hW => ?_
  obtain ⟨kt, kb⟩ : TBox W g t ∧ Below w.heap.size w W := by rw [← hW, hg]; exact one_box w t
  have KB := Lib.hid kb
  have KT := Lib.hid kt
  have ktc0 := kt.c0
  have ktc1 := kt.c1
  have ktc2 := kt.c2
  have ktlt := kt.lt
  have hc := tcheck_any t W (HIN.out.on kb) (HSP.out.below kb)
  unfold LTy.val at hc
  have HG := Lib.hid hg
  clear hW kb kt hg
  by_cases hm : May (strip t)
  case neg =>
    rw [tb_false hm] at hc
    have e : ans = 0 := by rw [HA.out]; exact kindsV_no hm
    subst e
    have HC := Lib.hid hc
    clear hc hm HA
    go_wp2_with fail
    refine HC.out.mono ?_
    rintro e w1 ⟨rfl, hb1⟩
    have HB1 := Lib.hid (KB.out.trans (hb1.mono KB.out.size))
    clear hb1
    go_wp2
    go_ret
    exact ⟨rfl, HB1.out⟩
  rw [tb_true hm] at hc
  have HM := Lib.hid hm
  have HAM := Lib.hid (show ans = kindsT (strip t) by rw [HA.out]; exact kindsV_yes hm)
  have HC := Lib.hid hc
  have hk9 := may_kind hm
  clear hc hm HA
  obtain ⟨n2, hn2⟩ : ∃ n, n = t.xs.length := ⟨_, rfl⟩
  have hl2 := HIN.out.n2.2
  rw [← hn2] at hl2 ktc2 HC
  have HN := Lib.hid hn2
  clear hn2
  rcases (show t.kind = 7 ∨ t.kind = 8 ∨ t.kind = 9 ∨ t.kind ≤ 6 by omega) with h7 | h8 | h9 | h6
  · have e7 : (t.kind == 7) = true := beq_iff_eq.2 h7
    have H7 := Lib.hid h7
    clear h7 hk9
    go_wp2_with fail
    refine HC.out.mono ?_
    rintro e w1 ⟨rfl, hb1⟩
    have HB1 := Lib.hid (KB.out.trans (hb1.mono KB.out.size))
    have kt1 := KT.out.below hb1
    have kt1c0 := kt1.c0
    have kt1c1 := kt1.c1
    have kt1c2 := kt1.c2
    have kt1lt := kt1.lt
    have KT1 := Lib.hid kt1
    rw [← HN.out] at kt1c2
    clear hb1 kt1
    go_wp2_with fail
    go_loopw [3, 20] (fun s i wr => ∃ k N : Nat, k ≤ n2 ∧ i = .int .i64 k ∧ s = .int .i64 (N : Int) ∧ Hid (N = kindsU ((strip t).args.take k)) ∧ Hid (Below w1.heap.size w1 wr)) (fun _ i _ => n2 - (intOf i).toNat)
    case atStart => exact ⟨0, 0, by omega, rfl, rfl, Lib.hid (by simp [kindsU]), Lib.hid (Below.refl _ _)⟩
    case round =>
      obtain ⟨k, N, hk, rfl, rfl, HNN, HW⟩ := hrel
      have HBr := Lib.hid (HB1.out.trans (HW.out.mono HB1.out.size))
      by_cases hlt : k < n2
      · obtain ⟨x, hx⟩ : ∃ x, t.xs[k]? = some x := ⟨_, List.getElem?_eq_getElem (by rw [← HN.out]; exact hlt)⟩
        have htr := HIN.out.on HBr.out
        obtain ⟨a1, hA1, l1, x0, x1, x2⟩ := htr.cells hx
        have m1 : (a1.add (k * 3)).block < wr.heap.size := by rw [block_add']; exact l1
        have hk' : (k : Int) < (n2 : Int) := by omega
        have hk0 : (0 : Int) ≤ k := by omega
        have hxk := union_kind HM.out H7.out hx
        have HX := Lib.hid (kindsU_take (strip_at hx))
        have hN : N < 128 := by rw [HNN.out]; exact kindsU128 _
        have hbx := bits128 x.kind
        have HOR := Lib.hid (or_i64 hN hbx)
        have HIX := Lib.hid (fun w => idx_bits (k := x.kind) (by omega) (by omega) w)
        have HXS := Lib.hid (strip_kind x)
        have hbW : Below wr.heap.size wr (wr.alloc (.cells #[.int .i64 x.kind, .slice x.A x.ns.length x.c, .slice x.A2 x.xs.length x.c2] 30)) := (one_box wr x).2
        have HBX := Lib.hid (HW.out.trans (hbW.mono HW.out.size))
        rw [hA1]
        clear htr hx l1 hxk hbW
        go_upto_region 10 with fail
        refine gen_wpT fun V hV => ?_
        obtain ⟨gx, hgx⟩ : ∃ gx, gx = wr.heap.size := ⟨_, rfl⟩
        rw [← hgx]
        have kx : TBox V gx x := by rw [← hV, hgx]; exact (one_box wr x).1
        have hbv : Below w1.heap.size w1 V := by rw [← hV]; exact HBX.out
        have HV := Lib.hid hbv
        have KX := Lib.hid kx
        clear hV hbv kx hgx HBX
        refine wp_region_held_drew (S := fun w' => TBox w' gx x) (by kernel_rfl) (KX.out) (fun hHeld => ?_)
        refine wpAnyH_take (i := 0) (oi := _) (v := .int .i64 (N : Int)) rfl (by kernel_rfl) (by kernel_rfl) (by kernel_rfl) (fun _ _ _ h => h) (Or.inl ⟨by rfl, fun w' hS => (by go_simp)⟩) hHeld ?_
        change wpAnyH _ _ _ _ _ _ _ (Act.put _ (some 24) _) _
        try simp only [Act.put, List.setIfInBounds_toArray, List.set_cons_zero, List.set_cons_succ]
        refine wpAnyH_take (i := 2) (oi := _) (v := .pointer (some ⟨gx, 0, none⟩)) rfl (by kernel_rfl) (by kernel_rfl) (by kernel_rfl) (fun _ _ _ h => h) (Or.inl ⟨by rfl, fun w' hS => (by go_simp)⟩) hHeld ?_
        change wpAnyH _ _ _ _ _ _ _ (Act.put _ (some 26) _) _
        try simp only [Act.put, List.setIfInBounds_toArray, List.set_cons_zero, List.set_cons_succ]
        refine wpAnyH_take (i := 3) (oi := _) (v := .int .i64 x.kind) rfl (by kernel_rfl) (by kernel_rfl) (by kernel_rfl) (fun _ _ _ h => h) (Or.inl ⟨by rfl, fun w' hS => (by have q := TBox.c0 hS; go_simp)⟩) hHeld ?_
        change wpAnyH _ _ _ _ _ _ _ (Act.put _ (some 27) _) _
        try simp only [Act.put, List.setIfInBounds_toArray, List.set_cons_zero, List.set_cons_succ]
        refine wpAnyH_ready (rs := [1]) (by kernel_rfl) (by simp) ?_
        refine AllReadyH.cons (o := _) rfl (fun K hK => ?_) AllReadyH.nil
        go_simp
        with_reducible refine (tbits_any _).mono ?_
        rintro e w5 ⟨rfl, hb5⟩
        have HB5 := Lib.hid (show Below V.heap.size V w5 from (Below.refl _ _).drew.trans hb5)
        clear hb5
        refine hK.out _ _ (KX.out.below HB5.out) (fun hHeld => ?_)
        clear hK K
        try simp only [Act.put, List.setIfInBounds_toArray, List.set_cons_zero, List.set_cons_succ]
        refine wpAnyH_take (i := 4) (oi := _) (v := .int .i64 (bitsOf x.kind : Nat)) rfl (by kernel_rfl) (by kernel_rfl) (by kernel_rfl) (fun _ _ _ h => h) (Or.inl ⟨by rfl, fun w' hS => (by have q := HIX.out w'; go_simp)⟩) hHeld ?_
        change wpAnyH _ _ _ _ _ _ _ (Act.put _ (some 28) _) _
        try simp only [Act.put, List.setIfInBounds_toArray, List.set_cons_zero, List.set_cons_succ]
        refine wpAnyH_take (i := 5) (oi := _) (v := .int .i64 (bits .or .i64 (N : Int) (bitsOf x.kind : Nat))) rfl (by kernel_rfl) (by kernel_rfl) (by kernel_rfl) (fun _ _ _ h => h) (Or.inl ⟨by rfl, fun w' hS => (by go_simp)⟩) hHeld ?_
        change wpAnyH _ _ _ _ _ _ _ (Act.put _ (some 29) _) _
        try simp only [Act.put, List.setIfInBounds_toArray, List.set_cons_zero, List.set_cons_succ]
        refine wpAnyH_take (i := 6) (oi := _) (v := .int .i64 (bits .or .i64 (N : Int) (bitsOf x.kind : Nat))) rfl (by kernel_rfl) (by kernel_rfl) (by kernel_rfl) (fun _ _ _ h => h) (Or.inl ⟨by rfl, fun w' hS => (by go_simp)⟩) hHeld ?_
        change wpAnyH _ _ _ _ _ _ _ (Act.put _ (some 3) _) _
        try simp only [Act.put, List.setIfInBounds_toArray, List.set_cons_zero, List.set_cons_succ]
        refine wpAnyH_done (by kernel_rfl) ?_ _
        rw [HOR.out]
        go_wp2_with fail
        go_roundw
        case rel => exact ⟨k + 1, N ||| bitsOf x.kind, by omega, by go_num, rfl, Lib.hid (by rw [HX.out, HNN.out, HXS.out]), Lib.hid (HV.out.trans (HB5.out.mono HV.out.size))⟩
        case measure => simp [intOf]; omega
      · obtain rfl : k = n2 := by omega
        have e : ans = N := by rw [HAM.out, kindsT_7 H7.out, HNN.out, List.take_of_length_le (by rw [strip_len, ← HN.out]; exact Nat.le_refl _)]
        subst e
        have hkk : ¬ (k : Int) < (k : Int) := by omega
        go_wp2
        go_ret
        exact ⟨rfl, HBr.out⟩
  · have e7 : (t.kind == 7) = false := beq_eq_false_iff_ne.2 (by omega)
    have e8 : (t.kind == 8) = true := beq_iff_eq.2 h8
    have e : ans = 16 := by rw [HAM.out]; exact kindsT_8 h8
    subst e
    clear h8 hk9 HAM
    go_wp2_with fail
    refine HC.out.mono ?_
    rintro e w1 ⟨rfl, hb1⟩
    have HB1 := Lib.hid (KB.out.trans (hb1.mono KB.out.size))
    have kt1 := KT.out.below hb1
    have kt1c0 := kt1.c0
    have kt1c1 := kt1.c1
    have kt1c2 := kt1.c2
    have kt1lt := kt1.lt
    clear hb1 kt1
    go_wp2
    go_ret
    exact ⟨rfl, HB1.out⟩
  · have e7 : (t.kind == 7) = false := beq_eq_false_iff_ne.2 (by omega)
    have e8 : (t.kind == 8) = false := beq_eq_false_iff_ne.2 (by omega)
    have e9 : (t.kind == 9) = true := beq_iff_eq.2 h9
    have e : ans = 32 := by rw [HAM.out]; exact kindsT_9 h9
    subst e
    clear h9 hk9 HAM
    go_wp2_with fail
    refine HC.out.mono ?_
    rintro e w1 ⟨rfl, hb1⟩
    have HB1 := Lib.hid (KB.out.trans (hb1.mono KB.out.size))
    have kt1 := KT.out.below hb1
    have kt1c0 := kt1.c0
    have kt1c1 := kt1.c1
    have kt1c2 := kt1.c2
    have kt1lt := kt1.lt
    clear hb1 kt1
    go_wp2
    go_ret
    exact ⟨rfl, HB1.out⟩
  · have e7 : (t.kind == 7) = false := beq_eq_false_iff_ne.2 (by omega)
    have e8 : (t.kind == 8) = false := beq_eq_false_iff_ne.2 (by omega)
    have e9 : (t.kind == 9) = false := beq_eq_false_iff_ne.2 (by omega)
    have e : ans = bitsOf t.kind := by rw [HAM.out]; exact kindsT_leaf h6
    subst e
    have HIX := Lib.hid (fun w => idx_bits (k := t.kind) hk9.1 h6 w)
    clear h6 hk9 HAM
    go_wp2_with fail
    refine HC.out.mono ?_
    rintro e w1 ⟨rfl, hb1⟩
    have HB1 := Lib.hid (KB.out.trans (hb1.mono KB.out.size))
    have kt1 := KT.out.below hb1
    have kt1c0 := kt1.c0
    have kt1c1 := kt1.c1
    have kt1c2 := kt1.c2
    have kt1lt := kt1.lt
    have KT1 := Lib.hid kt1
    clear hb1 kt1
    go_wp2_with fail
    refine wp_region_held_drew (S := fun w' => TBox w' g t) (by kernel_rfl) (KT1.out) (fun hHeld => ?_)
    refine wpAnyH_take (i := 1) (oi := _) (v := .pointer (some ⟨g, 0, none⟩)) rfl (by kernel_rfl) (by kernel_rfl) (by kernel_rfl) (fun _ _ _ h => h) (Or.inl ⟨by rfl, fun w' hS => (by go_simp)⟩) hHeld ?_
    change wpAnyH _ _ _ _ _ _ _ (Act.put _ (some 12) _) _
    try simp only [Act.put, List.setIfInBounds_toArray, List.set_cons_zero, List.set_cons_succ]
    refine wpAnyH_take (i := 2) (oi := _) (v := .int .i64 t.kind) rfl (by kernel_rfl) (by kernel_rfl) (by kernel_rfl) (fun _ _ _ h => h) (Or.inl ⟨by rfl, fun w' hS => (by have q := TBox.c0 hS; go_simp)⟩) hHeld ?_
    change wpAnyH _ _ _ _ _ _ _ (Act.put _ (some 13) _) _
    try simp only [Act.put, List.setIfInBounds_toArray, List.set_cons_zero, List.set_cons_succ]
    refine wpAnyH_ready (rs := [0]) (by kernel_rfl) (by simp) ?_
    refine AllReadyH.cons (o := _) rfl (fun K hK => ?_) AllReadyH.nil
    go_simp
    with_reducible refine (tbits_any _).mono ?_
    rintro e w5 ⟨rfl, hb5⟩
    have HB5 := Lib.hid (show Below w1.heap.size w1 w5 from (Below.refl _ _).drew.trans hb5)
    clear hb5
    refine hK.out _ _ (KT1.out.below HB5.out) (fun hHeld => ?_)
    clear hK K
    try simp only [Act.put, List.setIfInBounds_toArray, List.set_cons_zero, List.set_cons_succ]
    refine wpAnyH_take (i := 3) (oi := _) (v := .int .i64 (bitsOf t.kind : Nat)) rfl (by kernel_rfl) (by kernel_rfl) (by kernel_rfl) (fun _ _ _ h => h) (Or.inl ⟨by rfl, fun w' hS => (by have q := HIX.out w'; go_simp)⟩) hHeld ?_
    change wpAnyH _ _ _ _ _ _ _ (Act.put _ (some 14) _) _
    try simp only [Act.put, List.setIfInBounds_toArray, List.set_cons_zero, List.set_cons_succ]
    refine wpAnyH_take (i := 4) (oi := _) (v := .int .i64 (bitsOf t.kind : Nat)) rfl (by kernel_rfl) (by kernel_rfl) (by kernel_rfl) (fun _ _ _ h => h) (Or.inl ⟨by rfl, fun w' hS => (by go_simp)⟩) hHeld ?_
    change wpAnyH _ _ _ _ _ _ _ (Act.put _ (some 3) _) _
    try simp only [Act.put, List.setIfInBounds_toArray, List.set_cons_zero, List.set_cons_succ]
    refine wpAnyH_done (by kernel_rfl) ?_ _
    go_wp2
    go_ret
    exact ⟨rfl, HB1.out.trans (HB5.out.mono HB1.out.size)⟩
end Go.Proofs.YtohllalninoomaaDoor
