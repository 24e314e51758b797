/-
 HeapApart: part 8 of what the claim rests on.
-/
import Derived.Test.YtilcofpceadpbaaGreatDoorA07
set_option linter.unusedVariables false
set_option linter.unusedSimpArgs false
set_option maxHeartbeats 64000000
namespace Go.Proofs.YtilcofpceadpbaaGreatDoor
open Go.ChangeShapes Go.WideShapes Go.ChangeAt Go.RowKit

theorem or_i64 {a b : Nat} (ha : a < 128) (hb : b < 128) : bits .or .i64 (a : Int) (b : Int) = ((a ||| b : Nat) : Int) := by
 have hx : a ||| b < 2 ^ 7 := Nat.or_lt_two_pow ha hb
 have h1 : (BitVec.ofInt 64 (a : Int)).toNat = a := by rw [BitVec.ofInt_natCast, BitVec.toNat_ofNat]; exact Nat.mod_eq_of_lt (by omega)
 have h2 : (BitVec.ofInt 64 (b : Int)).toNat = b := by rw [BitVec.ofInt_natCast, BitVec.toNat_ofNat]; exact Nat.mod_eq_of_lt (by omega)
 show IntKind.i64.wrap ((BitVec.ofInt 64 (a : Int) ||| BitVec.ofInt 64 (b : Int)).toNat : Int) = _
 rw [BitVec.toNat_or, h1, h2, IntKind.wrap_i64]
 omega
theorem idx_bits {k : Int} (h0 : 0 ≤ k) (h6 : k ≤ 6) (w : World) : (Instr.index 143 (.agg #[.int .i64 127, .int .i64 1, .int .i64 2, .int .i64 4, .int .i64 8, .int .i64 16, .int .i64 64]) (.int .i64 k)).run Tryz.prog w = .ok (.int .i64 (bitsOf k : Nat)) w := by
 rcases range7 h0 h6 with rfl | rfl | rfl | rfl | rfl | rfl | rfl <;> kernel_rfl
theorem kindsU_append : ∀ (l : List Ty) (a : Ty), kindsU (l ++ [a]) = kindsU l ||| bitsOf a.kind
 | [], a => by simp [kindsU]
 | b :: l, a => by
  rw [List.cons_append, kindsU, kindsU_append l a, kindsU, Nat.or_assoc]
theorem kindsU_take {l : List Ty} {k : Nat} {a : Ty} (h : l[k]? = some a) : kindsU (l.take (k + 1)) = kindsU (l.take k) ||| bitsOf a.kind := by
 rw [List.take_add_one, h]
 exact kindsU_append _ _
noncomputable def kindsV (t : Ty) : Nat := if tb (May t) = true then kindsT t else 0
theorem kindsV_yes {t : Ty} (h : May t) : kindsV t = kindsT t := by unfold kindsV; rw [if_pos (tb_true h)]
theorem kindsV_no {t : Ty} (h : ¬ May t) : kindsV t = 0 := by unfold kindsV; rw [if_neg (by rw [tb_false h]; simp)]
theorem may_part {t x : LTy} {i : Nat} (h : May (strip t)) (hx : t.xs[i]? = some x) : May (strip x) := h.part (strip_at hx)
theorem union_kind {t x : LTy} {i : Nat} (h : May (strip t)) (h7 : t.kind = 7) (hx : t.xs[i]? = some x) : 0 < x.kind ∧ x.kind < 7 := by
 have := (union_parts h.1 (by rw [strip_kind]; exact h7)).2.2 _ (List.mem_of_getElem? (strip_at hx))
 rw [strip_kind] at this
 exact ⟨this.1, this.2.1⟩
theorem may_kind {t : LTy} (h : May (strip t)) : 0 ≤ t.kind ∧ t.kind ≤ 9 := by
 rcases chk_head h.1 with ⟨h1, h2, _⟩ | ⟨h1, _⟩ | ⟨h1, _⟩ | ⟨h1, _⟩ <;> omega
theorem kindsT_7 {t : LTy} (h : t.kind = 7) : kindsT (strip t) = kindsU (strip t).args := by unfold kindsT; rw [strip_kind, if_pos h]
theorem kindsT_8 {t : LTy} (h : t.kind = 8) : kindsT (strip t) = 16 := by unfold kindsT; rw [strip_kind, if_neg (by omega), if_pos h]
theorem kindsT_9 {t : LTy} (h : t.kind = 9) : kindsT (strip t) = 32 := by unfold kindsT; rw [strip_kind, if_neg (by omega), if_neg (by omega), if_pos h]
theorem kindsT_leaf {t : LTy} (h : t.kind ≤ 6) : kindsT (strip t) = bitsOf t.kind := by unfold kindsT; rw [strip_kind, if_neg (by omega), if_neg (by omega), if_neg (by omega)]
set_option maxRecDepth 100000 in
theorem tbits_any (w : World) : Calls Tryz.prog 91 #[] w (RetB (.agg #[.int .i64 127, .int .i64 1, .int .i64 2, .int .i64 4, .int .i64 8, .int .i64 16, .int .i64 64]) w) := by
 go_enter Tryz.func91, Tryz.ntmps91
 go_wp2
 refine bodyPost_ret (v := .agg #[.int .i64 127, .int .i64 1, .int .i64 2, .int .i64 4, .int .i64 8, .int .i64 16, .int .i64 64]) (by simp [results, Tryz.results91, go_sem]) rfl ?_
 refine ⟨rfl, ?_⟩
 first | exact (Below.refl _ _).alloc (Nat.le_refl _) _ | exact ((((((((Below.refl _ _).alloc (Nat.le_refl _) _).setCell (by simp) _).setCell (by simp) _).setCell (by simp) _).setCell (by simp) _).setCell (by simp) _).setCell (by simp) _).setCell (by simp) _
set_option maxRecDepth 100000 in
theorem tkinds_any (t : LTy) (w : World) (hin : LIn w w.heap.size t) (hsp : SpW w) : Calls Tryz.prog 48 #[t.val] w (RetB (.int .i64 (kindsV (strip t) : Nat)) w) := by
 unfold LTy.val
 obtain ⟨g, hg⟩ : ∃ g, g = w.heap.size := ⟨_, rfl⟩
 have HIN := Lib.hid hin
 have HSP := Lib.hid hsp
 clear hin hsp
 obtain ⟨ans, hans⟩ : ∃ ans, ans = kindsV (strip t) := ⟨_, rfl⟩
 rw [← hans]
 have HA := Lib.hid hans
 clear hans
 go_enter Tryz.func48, Tryz.ntmps48
 go_upto_region 1 with fail
 rw [← hg]
 refine gen_wpT fun W hW => ?_
 obtain ⟨kt, kb⟩ : TBox W g t ∧ Below w.heap.size w W := by rw [← hW, hg]; exact one_box w t
 have KB := Lib.hid kb
 have KT := Lib.hid kt
 have ktc0 := kt.c0
 have ktc1 := kt.c1
 have ktc2 := kt.c2
 have ktlt := kt.lt
 have hc := tcheck_any t W (HIN.out.on kb) (HSP.out.below kb)
 unfold LTy.val at hc
 have HG := Lib.hid hg
 clear hW kb kt hg
 by_cases hm : May (strip t)
 case neg =>
  rw [tb_false hm] at hc
  have e : ans = 0 := by rw [HA.out]; exact kindsV_no hm
  subst e
  have HC := Lib.hid hc
  clear hc hm HA
  go_wp2_with fail
  refine HC.out.mono ?_
  rintro e w1 ⟨rfl, hb1⟩
  have HB1 := Lib.hid (KB.out.trans (hb1.mono KB.out.size))
  clear hb1
  go_wp2
  go_ret
  exact ⟨rfl, HB1.out⟩
 rw [tb_true hm] at hc
 have HM := Lib.hid hm
 have HAM := Lib.hid (show ans = kindsT (strip t) by rw [HA.out]; exact kindsV_yes hm)
 have HC := Lib.hid hc
 have hk9 := may_kind hm
 clear hc hm HA
 obtain ⟨n2, hn2⟩ : ∃ n, n = t.xs.length := ⟨_, rfl⟩
 have hl2 := HIN.out.n2.2
 rw [← hn2] at hl2 ktc2 HC
 have HN := Lib.hid hn2
 clear hn2
 rcases (show t.kind = 7 ∨ t.kind = 8 ∨ t.kind = 9 ∨ t.kind ≤ 6 by omega) with h7 | h8 | h9 | h6
 ·have e7 : (t.kind == 7) = true := beq_iff_eq.2 h7
  have H7 := Lib.hid h7
  clear h7 hk9
  go_wp2_with fail
  refine HC.out.mono ?_
  rintro e w1 ⟨rfl, hb1⟩
  have HB1 := Lib.hid (KB.out.trans (hb1.mono KB.out.size))
  have kt1 := KT.out.below hb1
  have kt1c0 := kt1.c0
  have kt1c1 := kt1.c1
  have kt1c2 := kt1.c2
  have kt1lt := kt1.lt
  have KT1 := Lib.hid kt1
  rw [← HN.out] at kt1c2
  clear hb1 kt1
  go_wp2_with fail
  go_loopw [3, 20] (fun s i wr => ∃ k N : Nat, k ≤ n2 ∧ i = .int .i64 k ∧ s = .int .i64 (N : Int) ∧ Hid (N = kindsU ((strip t).args.take k)) ∧ Hid (Below w1.heap.size w1 wr)) (fun _ i _ => n2 - (intOf i).toNat)
  case atStart => exact ⟨0, 0, by omega, rfl, rfl, Lib.hid (by simp [kindsU]), Lib.hid (Below.refl _ _)⟩
  case round =>
   obtain ⟨k, N, hk, rfl, rfl, HNN, HW⟩ := hrel
   have HBr := Lib.hid (HB1.out.trans (HW.out.mono HB1.out.size))
   by_cases hlt : k < n2
   ·obtain ⟨x, hx⟩ : ∃ x, t.xs[k]? = some x := ⟨_, List.getElem?_eq_getElem (by rw [← HN.out]; exact hlt)⟩
    have htr := HIN.out.on HBr.out
    obtain ⟨a1, hA1, l1, x0, x1, x2⟩ := htr.cells hx
    have m1 : (a1.add (k * 3)).block < wr.heap.size := by rw [block_add']; exact l1
    have hk' : (k : Int) < (n2 : Int) := by omega
    have hk0 : (0 : Int) ≤ k := by omega
    have hxk := union_kind HM.out H7.out hx
    have HX := Lib.hid (kindsU_take (strip_at hx))
    have hN : N < 128 := by rw [HNN.out]; exact kindsU128 _
    have hbx := bits128 x.kind
    have HOR := Lib.hid (or_i64 hN hbx)
    have HIX := Lib.hid (fun w => idx_bits (k := x.kind) (by omega) (by omega) w)
    have HXS := Lib.hid (strip_kind x)
    have hbW : Below wr.heap.size wr (wr.alloc (.cells #[.int .i64 x.kind, .slice x.A x.ns.length x.c, .slice x.A2 x.xs.length x.c2] 31)) := (one_box wr x).2
    have HBX := Lib.hid (HW.out.trans (hbW.mono HW.out.size))
    rw [hA1]
    clear htr hx l1 hxk hbW
    go_upto_region 10 with fail
    refine gen_wpT fun V hV => ?_
    obtain ⟨gx, hgx⟩ : ∃ gx, gx = wr.heap.size := ⟨_, rfl⟩
    rw [← hgx]
    have kx : TBox V gx x := by rw [← hV, hgx]; exact (one_box wr x).1
    have hbv : Below w1.heap.size w1 V := by rw [← hV]; exact HBX.out
    have HV := Lib.hid hbv
    have KX := Lib.hid kx
    clear hV hbv kx hgx HBX
    refine wp_region_held_drew (S := fun w' => TBox w' gx x) (by kernel_rfl) (KX.out) (fun hHeld => ?_)
    refine tk 0 24 (.int .i64 (N : Int)) hHeld ?_; simp only [Act.put, zq1, zq2, zq3]
    refine tk 2 26 (.pointer (some ⟨gx, 0, none⟩)) hHeld ?_; simp only [Act.put, zq1, zq2, zq3]
    refine tk 3 27 (.int .i64 x.kind) hHeld ?_ (hy := Or.inl ⟨by rfl, fun w' hS => (by have q := TBox.c0 hS; go_simp)⟩); simp only [Act.put, zq1, zq2, zq3]
    refine rd 1 fun K hK => ?_
    go_simp
    with_reducible refine (tbits_any _).mono ?_
    rintro e w5 ⟨rfl, hb5⟩
    have HB5 := Lib.hid (show Below V.heap.size V w5 from (Below.refl _ _).drew.trans hb5)
    clear hb5
    refine hK.out _ _ (KX.out.below HB5.out) (fun hHeld => ?_)
    clear hK K
    try simp only [Act.put, zq1, zq2, zq3]
    refine tk 4 28 (.int .i64 (bitsOf x.kind : Nat)) hHeld ?_ (hy := Or.inl ⟨by rfl, fun w' hS => (by have q := HIX.out w'; go_simp)⟩); simp only [Act.put, zq1, zq2, zq3]
    refine tk 5 29 (.int .i64 (bits .or .i64 (N : Int) (bitsOf x.kind : Nat))) hHeld ?_; simp only [Act.put, zq1, zq2, zq3]
    refine tk 6 3 (.int .i64 (bits .or .i64 (N : Int) (bitsOf x.kind : Nat))) hHeld ?_; simp only [Act.put, zq1, zq2, zq3]
    refine wpAnyH_done (by kernel_rfl) ?_ _
    rw [HOR.out]
    go_wp2_with fail
    go_roundw
    case rel => exact ⟨k + 1, N ||| bitsOf x.kind, by omega, by go_num, rfl, Lib.hid (by rw [HX.out, HNN.out, HXS.out]), Lib.hid (HV.out.trans (HB5.out.mono HV.out.size))⟩
    case measure => simp [intOf]; omega
   ·obtain rfl : k = n2 := by omega
    have e : ans = N := by rw [HAM.out, kindsT_7 H7.out, HNN.out, List.take_of_length_le (by rw [strip_len, ← HN.out]; exact Nat.le_refl _)]
    subst e
    have hkk : ¬ (k : Int) < (k : Int) := by omega
    go_wp2
    go_ret
    exact ⟨rfl, HBr.out⟩
 ·have e7 : (t.kind == 7) = false := beq_eq_false_iff_ne.2 (by omega)
  have e8 : (t.kind == 8) = true := beq_iff_eq.2 h8
  have e : ans = 16 := by rw [HAM.out]; exact kindsT_8 h8
  subst e
  clear h8 hk9 HAM
  go_wp2_with fail
  refine HC.out.mono ?_
  rintro e w1 ⟨rfl, hb1⟩
  have HB1 := Lib.hid (KB.out.trans (hb1.mono KB.out.size))
  have kt1 := KT.out.below hb1
  have kt1c0 := kt1.c0
  have kt1c1 := kt1.c1
  have kt1c2 := kt1.c2
  have kt1lt := kt1.lt
  clear hb1 kt1
  go_wp2
  go_ret
  exact ⟨rfl, HB1.out⟩
 ·have e7 : (t.kind == 7) = false := beq_eq_false_iff_ne.2 (by omega)
  have e8 : (t.kind == 8) = false := beq_eq_false_iff_ne.2 (by omega)
  have e9 : (t.kind == 9) = true := beq_iff_eq.2 h9
  have e : ans = 32 := by rw [HAM.out]; exact kindsT_9 h9
  subst e
  clear h9 hk9 HAM
  go_wp2_with fail
  refine HC.out.mono ?_
  rintro e w1 ⟨rfl, hb1⟩
  have HB1 := Lib.hid (KB.out.trans (hb1.mono KB.out.size))
  have kt1 := KT.out.below hb1
  have kt1c0 := kt1.c0
  have kt1c1 := kt1.c1
  have kt1c2 := kt1.c2
  have kt1lt := kt1.lt
  clear hb1 kt1
  go_wp2
  go_ret
  exact ⟨rfl, HB1.out⟩
 ·have e7 : (t.kind == 7) = false := beq_eq_false_iff_ne.2 (by omega)
  have e8 : (t.kind == 8) = false := beq_eq_false_iff_ne.2 (by omega)
  have e9 : (t.kind == 9) = false := beq_eq_false_iff_ne.2 (by omega)
  have e : ans = bitsOf t.kind := by rw [HAM.out]; exact kindsT_leaf h6
  subst e
  have HIX := Lib.hid (fun w => idx_bits (k := t.kind) hk9.1 h6 w)
  clear h6 hk9 HAM
  go_wp2_with fail
  refine HC.out.mono ?_
  rintro e w1 ⟨rfl, hb1⟩
  have HB1 := Lib.hid (KB.out.trans (hb1.mono KB.out.size))
  have kt1 := KT.out.below hb1
  have kt1c0 := kt1.c0
  have kt1c1 := kt1.c1
  have kt1c2 := kt1.c2
  have kt1lt := kt1.lt
  have KT1 := Lib.hid kt1
  clear hb1 kt1
  go_wp2_with fail
  refine wp_region_held_drew (S := fun w' => TBox w' g t) (by kernel_rfl) (KT1.out) (fun hHeld => ?_)
  refine tk 1 12 (.pointer (some ⟨g, 0, none⟩)) hHeld ?_; simp only [Act.put, zq1, zq2, zq3]
  refine tk 2 13 (.int .i64 t.kind) hHeld ?_ (hy := Or.inl ⟨by rfl, fun w' hS => (by have q := TBox.c0 hS; go_simp)⟩); simp only [Act.put, zq1, zq2, zq3]
  refine rd 0 fun K hK => ?_
  go_simp
  with_reducible refine (tbits_any _).mono ?_
  rintro e w5 ⟨rfl, hb5⟩
  have HB5 := Lib.hid (show Below w1.heap.size w1 w5 from (Below.refl _ _).drew.trans hb5)
  clear hb5
  refine hK.out _ _ (KT1.out.below HB5.out) (fun hHeld => ?_)
  clear hK K
  try simp only [Act.put, zq1, zq2, zq3]
  refine tk 3 14 (.int .i64 (bitsOf t.kind : Nat)) hHeld ?_ (hy := Or.inl ⟨by rfl, fun w' hS => (by have q := HIX.out w'; go_simp)⟩); simp only [Act.put, zq1, zq2, zq3]
  refine tk 4 3 (.int .i64 (bitsOf t.kind : Nat)) hHeld ?_; simp only [Act.put, zq1, zq2, zq3]
  refine wpAnyH_done (by kernel_rfl) ?_ _
  go_wp2
  go_ret
  exact ⟨rfl, HB1.out.trans (HB5.out.mono HB1.out.size)⟩
set_option maxRecDepth 100000 in
theorem rkinds_any (t : LTy) : ∀ (w : World), LIn w w.heap.size t → Calls Tryz.prog 77 #[t.val] w (RetB (.int .i64 (kindsV (strip t) : Nat)) w) := by
 induction t using lty_ind with
 | h t ih =>
 intro w hin
 unfold LTy.val
 obtain ⟨g, hg⟩ : ∃ g, g = w.heap.size := ⟨_, rfl⟩
 have HIN := Lib.hid hin
 have HIH := Lib.hid ih
 clear hin ih
 obtain ⟨ans, hans⟩ : ∃ ans, ans = kindsV (strip t) := ⟨_, rfl⟩
 rw [← hans]
 have HA := Lib.hid hans
 clear hans
 go_enter Tryz.func77, Tryz.ntmps77
 go_upto_region 1 with fail
 rw [← hg]
 refine gen_wpT fun W hW => ?_
 obtain ⟨kt, kb⟩ : TBox W g t ∧ Below w.heap.size w W := by rw [← hW, hg]; exact one_box w t
 have KB := Lib.hid kb
 have KT := Lib.hid kt
 have ktc0 := kt.c0
 have ktc1 := kt.c1
 have ktc2 := kt.c2
 have ktlt := kt.lt
 have hc := trcheck_any t W (HIN.out.on kb)
 unfold LTy.val at hc
 have HG := Lib.hid hg
 clear hW kb kt hg
 by_cases hm : May (strip t)
 case neg =>
  rw [tb_false hm] at hc
  have e : ans = 0 := by rw [HA.out]; exact kindsV_no hm
  subst e
  have HC := Lib.hid hc
  clear hc hm HA
  go_wp2_with fail
  refine HC.out.mono ?_
  rintro e w1 ⟨rfl, hb1⟩
  have HB1 := Lib.hid (KB.out.trans (hb1.mono KB.out.size))
  clear hb1
  go_wp2
  go_ret
  exact ⟨rfl, HB1.out⟩
 rw [tb_true hm] at hc
 have HM := Lib.hid hm
 have HAM := Lib.hid (show ans = kindsT (strip t) by rw [HA.out]; exact kindsV_yes hm)
 have HC := Lib.hid hc
 have hk9 := may_kind hm
 clear hc hm HA
 obtain ⟨n2, hn2⟩ : ∃ n, n = t.xs.length := ⟨_, rfl⟩
 have hl2 := HIN.out.n2.2
 rw [← hn2] at hl2 ktc2 HC
 have HN := Lib.hid hn2
 clear hn2
 obtain ⟨K, hK⟩ : ∃ K, K = t.kind := ⟨_, rfl⟩
 rw [← hK] at ktc0 hk9
 rw [← hK] at HC
 have HKK := Lib.hid hK
 rcases (show K = 7 ∨ K = 0 ∨ K = 1 ∨ K = 2 ∨ K = 3 ∨ K = 4 ∨ K = 5 ∨ K = 6 ∨ K = 8 ∨ K = 9 by omega) with h7 | h0
 ·have e7 : (K == 7) = true := beq_iff_eq.2 h7
  have e0 : (K == 0) = false := beq_eq_false_iff_ne.2 (by omega)
  have H7 := Lib.hid (show t.kind = 7 by omega)
  clear h7 hk9 hK
  go_wp2_with fail
  refine HC.out.mono ?_
  rintro e w1 ⟨rfl, hb1⟩
  have HB1 := Lib.hid (KB.out.trans (hb1.mono KB.out.size))
  have kt1 := KT.out.below hb1
  have kt1c0 := kt1.c0
  have kt1c1 := kt1.c1
  have kt1c2 := kt1.c2
  have kt1lt := kt1.lt
  have KT1 := Lib.hid kt1
  rw [← HN.out] at kt1c2
  rw [← HKK.out] at kt1c0
  clear hb1 kt1
  go_wp2_with fail
  go_loopw [3, 18] (fun s i wr => ∃ k N : Nat, k ≤ n2 ∧ i = .int .i64 k ∧ s = .int .i64 (N : Int) ∧ Hid (N = kindsU ((strip t).args.take k)) ∧ Hid (Below w1.heap.size w1 wr)) (fun _ i _ => n2 - (intOf i).toNat)
  case atStart => exact ⟨0, 0, by omega, rfl, rfl, Lib.hid (by simp [kindsU]), Lib.hid (Below.refl _ _)⟩
  case round =>
   obtain ⟨k, N, hk, rfl, rfl, HNN, HW⟩ := hrel
   have HBr := Lib.hid (HB1.out.trans (HW.out.mono HB1.out.size))
   by_cases hlt : k < n2
   ·obtain ⟨x, hx⟩ : ∃ x, t.xs[k]? = some x := ⟨_, List.getElem?_eq_getElem (by rw [← HN.out]; exact hlt)⟩
    have htr := HIN.out.on HBr.out
    obtain ⟨a1, hA1, l1, x0, x1, x2⟩ := htr.cells hx
    have m1 : (a1.add (k * 3)).block < wr.heap.size := by rw [block_add']; exact l1
    have hk' : (k : Int) < (n2 : Int) := by omega
    have hk0 : (0 : Int) ≤ k := by omega
    have hxk := union_kind HM.out H7.out hx
    have HX := Lib.hid (kindsU_take (strip_at hx))
    have hN : N < 128 := by rw [HNN.out]; exact kindsU128 _
    have hbx := bits128 x.kind
    have HOR := Lib.hid (or_i64 hN hbx)
    have HXS := Lib.hid (strip_kind x)
    have hbW : Below wr.heap.size wr (wr.alloc (.cells #[.int .i64 x.kind, .slice x.A x.ns.length x.c, .slice x.A2 x.xs.length x.c2] 31)) := (one_box wr x).2
    have hcall := HIH.out x (List.mem_of_getElem? hx) _ ((htr.part hx).on hbW)
    rw [kindsV_yes (may_part HM.out hx), kindsT_leaf (by omega)] at hcall
    unfold LTy.val at hcall
    have HCX := Lib.hid hcall
    have HBX := Lib.hid (HW.out.trans (hbW.mono HW.out.size))
    rw [hA1]
    clear htr hx l1 hxk hbW hcall
    go_wp2_with fail
    refine HCX.out.mono ?_
    rintro e w5 ⟨rfl, hb5⟩
    have HB5 := Lib.hid (HBX.out.trans (hb5.mono HBX.out.size))
    clear hb5
    go_wp2_with fail
    rw [HOR.out]
    go_roundw
    case rel => exact ⟨k + 1, N ||| bitsOf x.kind, by omega, by go_num, rfl, Lib.hid (by rw [HX.out, HNN.out, HXS.out]), HB5⟩
    case measure => simp [intOf]; omega
   ·obtain rfl : k = n2 := by omega
    have e : ans = N := by rw [HAM.out, kindsT_7 H7.out, HNN.out, List.take_of_length_le (by rw [strip_len, ← HN.out]; exact Nat.le_refl _)]
    subst e
    have hkk : ¬ (k : Int) < (k : Int) := by omega
    go_wp2
    go_ret
    exact ⟨rfl, HBr.out⟩
 ·have HV := Lib.hid (show ans = kindsT (.mk K [] (strip t).args) by
   rw [HAM.out, hK]
   unfold kindsT
   rw [strip_kind]
   rfl)
  clear hk9
  rcases h0 with h | h | h | h | h | h | h | h | h
  all_goals
   have HL := Lib.hid (HKK.out.symm.trans h)
   rw [h] at ktc0 HC HV
   clear hK
   have e : ans = _ := HV.out
   simp [kindsT, bitsOf, Ty.kind] at e
   subst e
   clear h HAM HV
   go_wp2_with fail
   refine HC.out.mono ?_
   rintro e w1 ⟨rfl, hb1⟩
   have HB1 := Lib.hid (KB.out.trans (hb1.mono KB.out.size))
   have kt1 := KT.out.below hb1
   have kt1c0 := kt1.c0
   have kt1c1 := kt1.c1
   have kt1c2 := kt1.c2
   have kt1lt := kt1.lt
   rw [HL.out] at kt1c0
   clear hb1 kt1
   go_wp2
   go_ret
   exact ⟨rfl, HB1.out⟩

theorem cell_same {w w2 : World} {p : Addr} (h : w2.heap[p.block]? = w.heap[p.block]?) : w2.cell? p = w.cell? p := by unfold World.cell?; rw [h]
theorem LIn.same {w w2 : World} {B : Nat} {t : LTy} (h : LIn w B t) (hb : ∀ b, b < B → w2.heap[b]? = w.heap[b]?) : LIn w2 B t := by
 have key : ∀ {A : Option Addr} {xs : List Value}, Reads w B A xs → Reads w2 B A xs := fun h => h.imp id fun ⟨ad, h1, h2, h3⟩ => ⟨ad, h1, h2, fun j u hu => (cell_same (by rw [block_add']; exact hb _ h2)).trans (h3 j u hu)⟩
 induction h with
 | mk h1 h2 h3 h4 h5 h6 h7 hA h8 ih => exact .mk (key h1) (key h2) h3 h4 h5 h6 h7 hA ih
def Stays (B : Nat) (w w' w2 : World) : Prop := (∀ b, (b < B ∨ w.heap.size ≤ b) → b < w'.heap.size → w2.heap[b]? = w'.heap[b]?) ∧ w'.heap.size ≤ w2.heap.size
theorem Stays.refl (B : Nat) (w w' : World) : Stays B w w' w' := ⟨fun _ _ _ => rfl, Nat.le_refl _⟩
theorem row_ge {w : World} {base : Nat} {e : TypeId} {sz n : Nat} {v : Value} {xs : List Value} (h : w.ownsRow base e sz v n xs) (g : Nat) (hg : v.ownBlock = some g) : base ≤ g := (World.ownsRow.lt h g hg).1
theorem town_reads {w : World} {base : Nat} {e : TypeId} {sz n c : Nat} {A : Option Addr} {xs : List Value} (h : w.ownsRow base e sz (.slice A n c) n xs) : Reads w w.heap.size A xs ∧ n ≤ c := by
 obtain ⟨A', c', hv, h1, h2, h3⟩ := own_form h
 injection hv with e1 e2 e3
 subst e1 e3
 refine ⟨?_, h1⟩
 rcases Nat.eq_zero_or_pos n with h0 | h0
 ·left
  have := h.1
  rw [h0] at this
  exact List.eq_nil_of_length_eq_zero (by simpa using this)
 ·obtain ⟨gb, h4, h5, h6, _, h7⟩ := h3 h0
  exact .inr ⟨⟨gb, 0, none⟩, h4, h6, fun j u hu => by
   have := h7 j u hu
   unfold Addr.add
   split
   ·rename_i h8; subst h8; exact this
   ·simpa using this⟩

theorem take_more1 {α : Type} {l : List α} {k : Nat} {x : α} (h : l[k]? = some x) : l.take (k + 1) = l.take k ++ [x] := by
 rw [List.take_add_one, h]
 rfl
theorem tinfoSt : (Tryz.prog.info? 135).map (fun i => (i.zero, i.size, i.bytes)) = some (some (.agg #[.string ByteArray.empty, .int .i64 0]), 2, 24) := by kernel_rfl
def spEnc (p : ByteArray × Nat) : List Value := [.string p.1, .int .i64 (p.2 : Nat)]
open Classical in
noncomputable def stampsL (t : Ty) : List (ByteArray × Nat) := if t.kind = 8 ∧ May t then List.zipWith (fun s a => (s, kindsV a)) t.names t.args else []
theorem stampsL_no {t : Ty} (h : ¬ (t.kind = 8 ∧ May t)) : stampsL t = [] := by unfold stampsL; rw [if_neg h]
theorem stampsL_at {t x : LTy} {s : ByteArray} {k : Nat} (h8 : t.kind = 8) (hm : May (strip t)) (hs : t.ns[k]? = some s) (hx : t.xs[k]? = some x) : (stampsL (strip t))[k]? = some (s, kindsV (strip x)) := by
 unfold stampsL
 rw [if_pos ⟨by rw [strip_kind]; exact h8, hm⟩, List.getElem?_zipWith, strip_names, hs, strip_at hx]
theorem shape_len {t : LTy} (h8 : t.kind = 8) (hm : May (strip t)) : t.ns.length = t.xs.length ∧ t.xs.length ≤ 10000 := by
 have h1 := (shape_names hm.1 (by rw [strip_kind]; exact h8)).1
 rw [strip_names, strip_len] at h1
 refine ⟨h1, ?_⟩
 have h2 := hm.2
 have h3 := nodesL_len (strip t).args
 rw [nodes_args] at h2
 rw [strip_len] at h3
 omega
theorem stampsL_len {t : LTy} (h8 : t.kind = 8) (hm : May (strip t)) : (stampsL (strip t)).length = t.ns.length := by
 unfold stampsL
 rw [if_pos ⟨by rw [strip_kind]; exact h8, hm⟩, List.length_zipWith, strip_names, strip_len]
 have := (shape_len h8 hm).1
 omega
def StampsOut (t : Ty) (w : World) (e : Ending) (w' : World) : Prop := ∃ (A : Option Addr) (c : Nat), e = .returned (.slice A (stampsL t).length c) ∧ Reads w' w'.heap.size A ((stampsL t).flatMap spEnc) ∧ (stampsL t).length ≤ c ∧ Below w.heap.size w w'
theorem stampsOut_nil {t : Ty} {w w' : World} (h : stampsL t = []) (hb : Below w.heap.size w w') : StampsOut t w (.returned (.slice none 0 0)) w' := ⟨none, 0, by rw [h]; rfl, by rw [h]; exact .inl rfl, by rw [h]; exact Nat.le_refl _, hb⟩
set_option maxRecDepth 100000 in
theorem tstamps_shape (t : LTy) (w : World) (ht : LIn w w.heap.size t) (hsp : SpW w) : Calls Tryz.prog 50 #[t.val] w (StampsOut (strip t) w) := by
 obtain ⟨iS, hiS, hS0, hS1, hS2⟩ := info_parts tinfoSt
 unfold LTy.val
 obtain ⟨g, hg⟩ : ∃ g, g = w.heap.size := ⟨_, rfl⟩
 have HT := Lib.hid ht
 have HSP := Lib.hid hsp
 clear hsp
 clear ht
 go_enter Tryz.func50, Tryz.ntmps50
 go_upto_region 1 with fail
 rw [← hg]
 refine gen_wpT fun W hW => ?_
 obtain ⟨kt, kb⟩ : TBox W g t ∧ Below w.heap.size w W := by rw [← hW, hg]; exact one_box w t
 have KB := Lib.hid kb
 have KT := Lib.hid kt
 have k0 := kt.c0
 have k1 := kt.c1
 have k2 := kt.c2
 have kl := kt.lt
 clear hW kb kt hg
 by_cases h8 : t.kind = 8
 case neg =>
  have e8 : (t.kind == 8) = false := beq_eq_false_iff_ne.2 h8
  have HN := Lib.hid (stampsL_no (t := strip t) (fun e => h8 (by rw [← strip_kind]; exact e.1)))
  clear h8
  go_wp2
  go_ret
  exact stampsOut_nil HN.out KB.out
 have e8 : (t.kind == 8) = true := beq_iff_eq.2 h8
 have hc := tcheck_any t W (HT.out.on KB.out) (HSP.out.below KB.out)
 by_cases hm : May (strip t)
 case neg =>
  rw [tb_false hm] at hc
  unfold LTy.val at hc
  have HC := Lib.hid hc
  have HN := Lib.hid (stampsL_no (t := strip t) (fun e => hm e.2))
  clear h8 hc hm
  go_wp2_with fail
  with_reducible refine HC.out.mono ?_
  rintro e w1 ⟨rfl, hb1⟩
  go_wp2
  go_ret
  exact stampsOut_nil HN.out (KB.out.trans (hb1.mono KB.out.size))
 rw [tb_true hm] at hc
 unfold LTy.val at hc
 have HC := Lib.hid hc
 have HM := Lib.hid hm
 have H8 := Lib.hid h8
 have HLN := Lib.hid (shape_len h8 hm)
 have HSL := Lib.hid (stampsL_len h8 hm)
 obtain ⟨L, hL⟩ : ∃ L, L = stampsL (strip t) := ⟨_, rfl⟩
 have HL := Lib.hid hL
 obtain ⟨n2, hn2⟩ : ∃ n, n = t.ns.length := ⟨_, rfl⟩
 have HN := Lib.hid hn2.symm
 have hl2 : n2 ≤ 10000 := by have := HLN.out; omega
 clear h8 hc hm hL hn2
 go_wp2_with fail
 with_reducible refine HC.out.mono ?_
 rintro e w1 ⟨rfl, hb1⟩
 have KB1 := Lib.hid (KB.out.trans (hb1.mono KB.out.size))
 have KT1 := Lib.hid (KT.out.below hb1)
 have q0 := KT1.out.c0
 have q1 := KT1.out.c1
 have q2 := KT1.out.c2
 have ql := KT1.out.lt
 rw [HN.out] at q1
 clear hb1 k0 k1 k2 kl
 go_wp2_with fail
 go_loopw [3, 16] (fun l i wr => ∃ (k : Nat) (A : Option Addr) (c : Nat), k ≤ n2 ∧ i = .int .i64 k ∧ l = .slice A k c ∧ Hid (wr.ownsRow w1.heap.size 135 2 (.slice A k c) k ((L.take k).flatMap spEnc)) ∧ Hid (Below w1.heap.size w1 wr)) (fun _ i _ => n2 - (intOf i).toNat)
 case atStart => exact ⟨0, none, 0, by omega, rfl, rfl, Lib.hid (World.ownsRow_nil _ _ _ _), Lib.hid (Below.refl _ _)⟩
 case round =>
  obtain ⟨k, A, c, hk, rfl, rfl, HO, HW⟩ := hrel
  have KBr := Lib.hid (KB1.out.trans (HW.out.mono KB1.out.size))
  by_cases hlt : k < n2
  case pos =>
   obtain ⟨x, hx⟩ : ∃ x, t.xs[k]? = some x := ⟨_, List.getElem?_eq_getElem (by have := HLN.out.1; have := HN.out; omega)⟩
   obtain ⟨s, hs⟩ : ∃ s, t.ns[k]? = some s := ⟨_, List.getElem?_eq_getElem (by have := HN.out; omega)⟩
   have htr := HT.out.on KBr.out
   obtain ⟨a1, hA1, hx3⟩ := htr.at3 hx
   have x0 := hx3.2.1
   have x1 := hx3.2.2.1
   have x2 := hx3.2.2.2
   have xl := hx3.1
   obtain ⟨a2, hA2, hl2', s0⟩ := htr.name hs
   have sl : (a2.add k).block < wr.heap.size := by rw [block_add']; exact hl2'
   have hk' : (k : Int) < (n2 : Int) := by omega
   have hkx : (k : Int) < (t.xs.length : Int) := by have := (List.getElem?_eq_some_iff.1 hx).1; omega
   have hk0 : (0 : Int) ≤ k := by omega
   obtain ⟨kv, hkv⟩ : ∃ kv, kv = kindsV (strip x) := ⟨_, rfl⟩
   have HP := Lib.hid (show L[k]? = some (s, kv) by rw [HL.out, hkv]; exact stampsL_at H8.out HM.out hs hx)
   have hc := tkinds_any x wr (htr.part hx) (HSP.out.below KBr.out)
   rw [← hkv] at hc
   unfold LTy.val at hc
   have HCX := Lib.hid hc
   have KTr := KT1.out.below HW.out
   have r0 := KTr.c0
   have r1 := KTr.c1
   have r2 := KTr.c2
   have rl := KTr.lt
   rw [HN.out, hA2] at r1
   rw [hA1] at r2
   rw [hA2]
   clear htr hx hs hA1 hA2 hx3 hl2' hc hkv KTr
   go_wp2_with fail
   with_reducible refine HCX.out.mono ?_
   rintro e w5 ⟨rfl, hb5⟩
   have HB5 := Lib.hid (HW.out.trans (hb5.mono HW.out.size))
   have HO5 := Lib.hid (below_own hb5 HO.out)
   clear hb5
   go_wp2_with (at_builtin; refine wpList_append_own _ rfl _ _ 73 rfl w1.heap.size 135 iS _ 2 24 Tryz.underlying73 hiS hS0 hS1 hS2 rfl (by decide) _ _ _ rfl (HO5.out.alloc _) ⟨w5.heap.size, 0, none⟩ 1 1 [_, _] rfl rfl (World.news_of_block (heap_alloc_new _ _)) (by simp [Value.oneCell']) (by unfold maxLen; omega) (by omega) (by have := HB5.out.size; simp; omega) ?_; intro v' w6 hown6 hg6 _; obtain ⟨A6, c6, rfl, _, _, _⟩ := own_form hown6; have HO6 := Lib.hid hown6; have HB6 := Lib.hid ((HB5.out.alloc HB5.out.size _).grown hg6 (by have := HB5.out.size; simp; omega) (fun gg hgg => row_ge HO5.out _ hgg)); clear hown6 hg6)
   go_roundw
   case rel => exact ⟨k + 1, A6, c6, by omega, by go_num, rfl, Lib.hid (by rw [take_more1 HP.out, List.flatMap_append]; exact HO6.out), HB6⟩
   case measure => simp [intOf]; omega
  case neg =>
   obtain rfl : k = n2 := by omega
   have hkk : ¬ (k : Int) < (k : Int) := by omega
   have HF := Lib.hid (show stampsL (strip t) = L from HL.out.symm)
   have HLL := Lib.hid (show L.length = k by rw [HL.out, HSL.out, HN.out])
   have HO2 := Lib.hid (show wr.ownsRow w1.heap.size 135 2 (.slice A k c) k (L.flatMap spEnc) by have h := HO.out; rw [List.take_of_length_le (by rw [HLL.out]; exact Nat.le_refl _)] at h; exact h)
   go_wp2
   go_ret
   have h2 := town_reads HO2.out
   exact ⟨A, c, by rw [HF.out, HLL.out]; rfl, by rw [HF.out]; exact h2.1, by rw [HF.out, HLL.out]; exact h2.2, KBr.out⟩
set_option maxRecDepth 100000 in
theorem rstamps_shape (t : LTy) (w : World) (ht : LIn w w.heap.size t) : Calls Tryz.prog 76 #[t.val] w (StampsOut (strip t) w) := by
 obtain ⟨iS, hiS, hS0, hS1, hS2⟩ := info_parts tinfoSt
 unfold LTy.val
 obtain ⟨g, hg⟩ : ∃ g, g = w.heap.size := ⟨_, rfl⟩
 have HT := Lib.hid ht
 clear ht
 go_enter Tryz.func76, Tryz.ntmps76
 go_upto_region 1 with fail
 rw [← hg]
 refine gen_wpT fun W hW => ?_
 obtain ⟨kt, kb⟩ : TBox W g t ∧ Below w.heap.size w W := by rw [← hW, hg]; exact one_box w t
 have KB := Lib.hid kb
 have KT := Lib.hid kt
 have k0 := kt.c0
 have k1 := kt.c1
 have k2 := kt.c2
 have kl := kt.lt
 clear hW kb kt hg
 by_cases h8 : t.kind = 8
 case neg =>
  have e8 : (t.kind == 8) = false := beq_eq_false_iff_ne.2 h8
  have HN := Lib.hid (stampsL_no (t := strip t) (fun e => h8 (by rw [← strip_kind]; exact e.1)))
  clear h8
  go_wp2
  go_ret
  exact stampsOut_nil HN.out KB.out
 have e8 : (t.kind == 8) = true := beq_iff_eq.2 h8
 have hc := trcheck_any t W (HT.out.on KB.out)
 by_cases hm : May (strip t)
 case neg =>
  rw [tb_false hm] at hc
  unfold LTy.val at hc
  have HC := Lib.hid hc
  have HN := Lib.hid (stampsL_no (t := strip t) (fun e => hm e.2))
  clear h8 hc hm
  go_wp2_with fail
  with_reducible refine HC.out.mono ?_
  rintro e w1 ⟨rfl, hb1⟩
  go_wp2
  go_ret
  exact stampsOut_nil HN.out (KB.out.trans (hb1.mono KB.out.size))
 rw [tb_true hm] at hc
 unfold LTy.val at hc
 have HC := Lib.hid hc
 have HM := Lib.hid hm
 have H8 := Lib.hid h8
 have HLN := Lib.hid (shape_len h8 hm)
 have HSL := Lib.hid (stampsL_len h8 hm)
 obtain ⟨L, hL⟩ : ∃ L, L = stampsL (strip t) := ⟨_, rfl⟩
 have HL := Lib.hid hL
 obtain ⟨n2, hn2⟩ : ∃ n, n = t.ns.length := ⟨_, rfl⟩
 have HN := Lib.hid hn2.symm
 have hl2 : n2 ≤ 10000 := by have := HLN.out; omega
 clear h8 hc hm hL hn2
 go_wp2_with fail
 with_reducible refine HC.out.mono ?_
 rintro e w1 ⟨rfl, hb1⟩
 have KB1 := Lib.hid (KB.out.trans (hb1.mono KB.out.size))
 have KT1 := Lib.hid (KT.out.below hb1)
 have q0 := KT1.out.c0
 have q1 := KT1.out.c1
 have q2 := KT1.out.c2
 have ql := KT1.out.lt
 rw [HN.out] at q1
 clear hb1 k0 k1 k2 kl
 go_wp2_with fail
 go_loopw [3, 16] (fun l i wr => ∃ (k : Nat) (A : Option Addr) (c : Nat), k ≤ n2 ∧ i = .int .i64 k ∧ l = .slice A k c ∧ Hid (wr.ownsRow w1.heap.size 135 2 (.slice A k c) k ((L.take k).flatMap spEnc)) ∧ Hid (Below w1.heap.size w1 wr)) (fun _ i _ => n2 - (intOf i).toNat)
 case atStart => exact ⟨0, none, 0, by omega, rfl, rfl, Lib.hid (World.ownsRow_nil _ _ _ _), Lib.hid (Below.refl _ _)⟩
 case round =>
  obtain ⟨k, A, c, hk, rfl, rfl, HO, HW⟩ := hrel
  have KBr := Lib.hid (KB1.out.trans (HW.out.mono KB1.out.size))
  by_cases hlt : k < n2
  case pos =>
   obtain ⟨x, hx⟩ : ∃ x, t.xs[k]? = some x := ⟨_, List.getElem?_eq_getElem (by have := HLN.out.1; have := HN.out; omega)⟩
   obtain ⟨s, hs⟩ : ∃ s, t.ns[k]? = some s := ⟨_, List.getElem?_eq_getElem (by have := HN.out; omega)⟩
   have htr := HT.out.on KBr.out
   obtain ⟨a1, hA1, hx3⟩ := htr.at3 hx
   have x0 := hx3.2.1
   have x1 := hx3.2.2.1
   have x2 := hx3.2.2.2
   have xl := hx3.1
   obtain ⟨a2, hA2, hl2', s0⟩ := htr.name hs
   have sl : (a2.add k).block < wr.heap.size := by rw [block_add']; exact hl2'
   have hk' : (k : Int) < (n2 : Int) := by omega
   have hkx : (k : Int) < (t.xs.length : Int) := by have := (List.getElem?_eq_some_iff.1 hx).1; omega
   have hk0 : (0 : Int) ≤ k := by omega
   obtain ⟨kv, hkv⟩ : ∃ kv, kv = kindsV (strip x) := ⟨_, rfl⟩
   have HP := Lib.hid (show L[k]? = some (s, kv) by rw [HL.out, hkv]; exact stampsL_at H8.out HM.out hs hx)
   have hc := rkinds_any x wr (htr.part hx)
   rw [← hkv] at hc
   unfold LTy.val at hc
   have HCX := Lib.hid hc
   have KTr := KT1.out.below HW.out
   have r0 := KTr.c0
   have r1 := KTr.c1
   have r2 := KTr.c2
   have rl := KTr.lt
   rw [HN.out, hA2] at r1
   rw [hA1] at r2
   rw [hA2]
   clear htr hx hs hA1 hA2 hx3 hl2' hc hkv KTr
   go_wp2_with fail
   with_reducible refine HCX.out.mono ?_
   rintro e w5 ⟨rfl, hb5⟩
   have HB5 := Lib.hid (HW.out.trans (hb5.mono HW.out.size))
   have HO5 := Lib.hid (below_own hb5 HO.out)
   clear hb5
   go_wp2_with (at_builtin; refine wpList_append_own _ rfl _ _ 73 rfl w1.heap.size 135 iS _ 2 24 Tryz.underlying73 hiS hS0 hS1 hS2 rfl (by decide) _ _ _ rfl (HO5.out.alloc _) ⟨w5.heap.size, 0, none⟩ 1 1 [_, _] rfl rfl (World.news_of_block (heap_alloc_new _ _)) (by simp [Value.oneCell']) (by unfold maxLen; omega) (by omega) (by have := HB5.out.size; simp; omega) ?_; intro v' w6 hown6 hg6 _; obtain ⟨A6, c6, rfl, _, _, _⟩ := own_form hown6; have HO6 := Lib.hid hown6; have HB6 := Lib.hid ((HB5.out.alloc HB5.out.size _).grown hg6 (by have := HB5.out.size; simp; omega) (fun gg hgg => row_ge HO5.out _ hgg)); clear hown6 hg6)
   go_roundw
   case rel => exact ⟨k + 1, A6, c6, by omega, by go_num, rfl, Lib.hid (by rw [take_more1 HP.out, List.flatMap_append]; exact HO6.out), HB6⟩
   case measure => simp [intOf]; omega
  case neg =>
   obtain rfl : k = n2 := by omega
   have hkk : ¬ (k : Int) < (k : Int) := by omega
   have HF := Lib.hid (show stampsL (strip t) = L from HL.out.symm)
   have HLL := Lib.hid (show L.length = k by rw [HL.out, HSL.out, HN.out])
   have HO2 := Lib.hid (show wr.ownsRow w1.heap.size 135 2 (.slice A k c) k (L.flatMap spEnc) by have h := HO.out; rw [List.take_of_length_le (by rw [HLL.out]; exact Nat.le_refl _)] at h; exact h)
   go_wp2
   go_ret
   have h2 := town_reads HO2.out
   exact ⟨A, c, by rw [HF.out, HLL.out]; rfl, by rw [HF.out]; exact h2.1, by rw [HF.out, HLL.out]; exact h2.2, KBr.out⟩
end Go.Proofs.YtilcofpceadpbaaGreatDoor
