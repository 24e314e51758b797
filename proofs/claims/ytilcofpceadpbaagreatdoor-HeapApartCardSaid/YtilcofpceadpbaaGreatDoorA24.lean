/-
 HeapApart: part 24 of what the claim rests on.
-/
import Derived.Test.YtilcofpceadpbaaGreatDoorA23
set_option linter.unusedVariables false
set_option linter.unusedSimpArgs false
set_option maxHeartbeats 64000000
namespace Go.Proofs.YtilcofpceadpbaaGreatDoor
open Go.ChangeShapes Go.WideShapes Go.ChangeAt Go.RowKit Go.Maps

theorem doPut_grow (T : TabS) (ctx : Nat) (k v : VV) : (doPut T ctx k v).2.F.length = T.F.length ∨ ((doPut T ctx k v).2.F.length = T.F.length + 1 ∧ freshB T k = true ∧ flowsB (ctx ||| k.label) T.l = true ∧ mayB T k v = true) := by
 unfold doPut
 cases hk : isKey k
 ·simp
 ·cases hst : (decide (k.kind = 3) && !allowsB T.S k.s v.kind)
  ·cases hf : findF T.F k with
   | some i =>
    simp only [Bool.true_eq_false, if_false, Bool.false_eq_true]
    split
    ·split <;> simp
    ·simp
   | none =>
    simp only [Bool.true_eq_false, if_false, Bool.false_eq_true]
    split
    ·rename_i hfl
     refine .inr ⟨by simp, ?_, hfl, ?_⟩
     ·unfold freshB
      rw [hk]
      simp only [Bool.true_and, Bool.not_eq_true', List.any_eq_false]
      intro f hm
      rw [findF_none hf hk f hm]
      simp
     ·unfold mayB
      simp only [Bool.not_eq_true', List.any_eq_false]
      intro s hs hb
      unfold barsB at hb
      simp only [Bool.and_eq_true, decide_eq_true_eq, Bool.not_eq_true'] at hb
      obtain ⟨⟨h1, h2⟩, h3⟩ := hb
      rw [h1] at hst
      simp at hst
      unfold allowsB at hst
      rw [List.all_eq_true] at hst
      have := hst s hs
      rw [h2, h3] at this
      simp at this
    ·simp
  ·simp
def OthersT (t : VV) (s s' : HpS) : Prop := ∀ i : Nat, ¬ (t.kind = 4 ∧ t.n = (i : Int)) → s'.T[i]? = s.T[i]?
def GoP (w : World) (B N h : Nat) (s : HpS) (d : HpD) (n : Nat) (t : VV) (e : Ending) (w' : World) : Prop := ∃ (k : Int) (b : Bool) (s' : HpS), e = .returned (.tuple #[.int .i64 k, .bool b]) ∧ HpLe n s s' ∧ HpTo w B N h s d s' w' ∧ OthersT t s s' ∧ s'.T.length = s.T.length
theorem doPut_str {T : TabS} {ctx : Nat} {k v : VV} (h : StrT T) (hk : k.s.size ≤ 140737488351232) (hv : v.s.size ≤ 140737488351232) : StrT (doPut T ctx k v).2 := by
 unfold doPut
 split
 ·exact h
 ·split
  ·exact h
  ·split
   ·split
    ·rename_i i _ f hfi
     split
     ·intro g hg
      rcases List.mem_or_eq_of_mem_set hg with hg | rfl
      ·exact h g hg
      ·exact ⟨(h f (List.mem_of_getElem? hfi)).1, hv⟩
     ·exact h
    ·exact h
   ·split
    ·intro g hg
     rcases List.mem_append.1 hg with hg | hg
     ·exact h g hg
     ·simp at hg
      subst hg
      exact ⟨hk, hv⟩
    ·exact h
theorem le_put {s : HpS} {n i : Nat} {T T' : TabS} (hi : s.T[i]? = some T) (hT : TabOk T → TabOk T') (hst : StrT T → StrT T') (hF : T'.F.length ≤ T.F.length + 1) (hS : T'.S.length ≤ T.S.length + 1000) {U : Int} (hU : s.U ≤ U) : HpLe n s { s with U := U, T := s.T.set i T' } :=
 ⟨rfl, hU, fun ok => ⟨by have := ok.tl; simp; omega, by have := ok.fl; exact Nat.le_trans this (by omega), by have := ok.cl; exact Nat.le_trans this (by omega), fun X hX => by
  rcases List.mem_or_eq_of_mem_set hX with hX | rfl
  ·exact ⟨(ok.tab X hX).1, by have := (ok.tab X hX).2.1; omega, by have := (ok.tab X hX).2.2; omega⟩
  ·obtain ⟨h1, h2, h3⟩ := ok.tab T (List.mem_of_getElem? hi)
   exact ⟨hT h1, by omega, by omega⟩, ok.fn, ok.cell, fun X hX => by
  rcases List.mem_or_eq_of_mem_set hX with hX | rfl
  ·exact ok.str X hX
  ·exact hst (ok.str T (List.mem_of_getElem? hi))⟩⟩
theorem hp_cells {w : World} {B N h : Nat} {s : HpS} {d : HpD} (H : HpAt w B N h s d) : w.cell? ⟨h, 0, none⟩ = some (.int .i64 s.L) ∧ w.cell? ⟨h, 1, none⟩ = some (.int .i64 s.U) ∧ (∀ i, w.frozen? ⟨h, i, none⟩ = false) ∧ h < w.heap.size :=
 ⟨cell_of_blk H.blk rfl, cell_of_blk H.blk rfl, fun i => free_of_blk H.blk, blk_lt H.blk⟩
set_option maxRecDepth 100000 in
theorem put_at {w : World} {B N h : Nat} {s : HpS} {d : HpD} (H : HpAt w B N h s d) {m : Nat} (ok : HpOk m s) (hm : m ≤ 1000) (ctx : Nat) (t k v : VV) (hc : ctx < 18446744073709551616) (kk : VOk k) (kv : VOk v) (ks : k.s.size ≤ 140737488351232) (vs : v.s.size ≤ 140737488351232) :
  Calls Tryz.prog 10 #[.pointer (some ⟨h, 0, none⟩), .int .u64 (ctx : Int), .agg #[.int .i64 t.kind, .int .i64 t.n, .string t.s, .int .u64 (t.label : Int)], .agg #[.int .i64 k.kind, .int .i64 k.n, .string k.s, .int .u64 (k.label : Int)], .agg #[.int .i64 v.kind, .int .i64 v.n, .string v.s, .int .u64 (v.label : Int)]] w (GoP w B N h s d m t) := by
 obtain ⟨b0, hb0⟩ : ∃ b, b = w.heap.size := ⟨_, rfl⟩
 obtain ⟨b1, hb1⟩ : ∃ b, b = w.heap.size + 1 := ⟨_, rfl⟩
 obtain ⟨b2, hb2⟩ : ∃ b, b = w.heap.size + 1 + 1 := ⟨_, rfl⟩
 have HE0 := Lib.hid hb0
 have HE1 := Lib.hid hb1
 have HE2 := Lib.hid hb2
 have HH := Lib.hid H
 have HLT := Lib.hid (fun b (hb : b ∈ d.fp h s.F) => (H.kinds hb).2)
 have HOK := Lib.hid (And.intro ok (And.intro hm (And.intro hc (And.intro kk (And.intro kv (And.intro ks vs))))))
 clear hb0 hb1 hb2 H ok hm hc kk kv ks vs
 go_enter Tryz.func10, Tryz.ntmps10
 go_upto_region 1 with fail
 rw [← HE2.out, ← HE1.out, ← HE0.out]
 refine gen_wp fun W hW => ?_
 have HB0 := Lib.hid (show W.heap[b0]? = some (.cells #[.int .i64 t.kind, .int .i64 t.n, .string t.s, .int .u64 (t.label : Int)] 26 (0, 0)) by rw [← hW, HE0.out]; exact blk_alloc (blk_alloc (heap_new_at _ _ _ (by first | rfl | simp)) _) _)
 have HB1 := Lib.hid (show W.heap[b1]? = some (.cells #[.int .i64 k.kind, .int .i64 k.n, .string k.s, .int .u64 (k.label : Int)] 26 (0, 0)) by rw [← hW, HE1.out]; exact blk_alloc (heap_new_at _ _ _ (by first | rfl | simp)) _)
 have HB2 := Lib.hid (show W.heap[b2]? = some (.cells #[.int .i64 v.kind, .int .i64 v.n, .string v.s, .int .u64 (v.label : Int)] 26 (0, 0)) by rw [← hW, HE2.out]; exact heap_new_at _ _ _ (by first | rfl | simp))
 have HW := Lib.hid (show Below w.heap.size w W by rw [← hW]; exact (((Below.refl _ _).alloc (Nat.le_refl _) _).alloc (by simp) _).alloc (by simp; omega) _)
 clear hW
 have HOF := Lib.hid (of_at (HH.out.below HW.out) t (by have := HOK.out.1.tl; have := HOK.out.2.1; omega))
 obtain ⟨p0, p1, p2, p3, pf0, pf1, pf2, pf3, pl⟩ := blk_4 HB0.out
 rcases hof : ofI s t with _ | i
 ·rw [ofV_none (HH.out.below HW.out) hof] at HOF
  clear hof
  go_wp2_with fail
  refine HOF.out.mono ?_
  rintro e w1 ⟨rfl, hb⟩
  have DW := Lib.hid (HW.out.trans (hb.mono HW.out.size))
  clear hb
  go_wp2
  go_returns
  exact ⟨3, true, s, rfl, .refl _ _, .same HH.out DW.out, fun _ _ => rfl, rfl⟩
 ·obtain ⟨p, f, T, h1, h2, h3, h4, h5, h6, h7⟩ := ofV_some (HH.out.below HW.out) hof
  rw [h5] at HOF
  have HT := Lib.hid (HOK.out.1.tab T (List.mem_of_getElem? h1))
  have HI := Lib.hid (And.intro h1 (And.intro h2 (And.intro h3 (And.intro h6 h7))))
  have HIL := Lib.hid (List.getElem?_eq_some_iff.1 h1).1
  clear hof h1 h2 h3 h4 h5 h6 h7
  go_wp2_with fail
  refine HOF.out.mono ?_
  rintro e w1 ⟨rfl, hb⟩
  have D1 := Lib.hid (below_blk hb HB1.out)
  have D2 := Lib.hid (below_blk hb HB2.out)
  have DW := Lib.hid hb
  clear hb p0 pf0 p1 pf1 p2 pf2 p3 pf3 pl
  have HTI := Lib.hid (show ∀ W', Below W.heap.size W W' → TabIn W' B p T f from fun W' hb => (HH.out.below (HW.out.trans (hb.mono HW.out.size))).tabs i p T f HI.out.2.1 HI.out.1 HI.out.2.2.1)
  obtain ⟨l0, hl0⟩ : ∃ l0 : Int, l0 = (T.F.length : Int) := ⟨_, rfl⟩
  have HL0 := Lib.hid hl0
  have HLEN := Lib.hid (show ∀ W', Below W.heap.size W W' → Calls Tryz.prog 19 #[.pointer (some ⟨p, 0, none⟩)] W' (Ret (.int .i64 l0) W') from fun W' hb => by rw [hl0]; exact tlen_any (HTI.out W' hb))
  obtain ⟨T', hT'⟩ : ∃ T', T' = (doPut T ctx k v).2 := ⟨_, rfl⟩
  obtain ⟨e1, he1⟩ : ∃ e1, e1 = (doPut T ctx k v).1 := ⟨_, rfl⟩
  have HT' := Lib.hid hT'
  have HFL := Lib.hid (show T.F.length ≤ 1000 ∧ T.S.length ≤ 1000000 from ⟨Nat.le_trans HT.out.2.1 HOK.out.2.1, by have := HT.out.2.2; have := HOK.out.2.1; omega⟩)
  have HPUT := Lib.hid (show ∀ W', Below W.heap.size W W' → Calls Tryz.prog 47 #[.pointer (some ⟨p, 0, none⟩), .int .u64 (ctx : Int), .agg #[.int .i64 k.kind, .int .i64 k.n, .string k.s, .int .u64 (k.label : Int)], .agg #[.int .i64 v.kind, .int .i64 v.n, .string v.s, .int .u64 (v.label : Int)]] W' (fun e w' => e = .returned (.int .i64 e1) ∧ TabTo W' B p T' f w') from fun W' hb => by rw [hT', he1]; exact tput_any (HTI.out W' hb) HT.out.1 HOK.out.2.2.1 HOK.out.2.2.2.1 HOK.out.2.2.2.2.1 (by have := HFL.out.1; omega))
  obtain ⟨fr, hfr⟩ : ∃ fr, fr = freshB T k := ⟨_, rfl⟩
  obtain ⟨fl, hfl⟩ : ∃ fl, fl = flowsB (ctx ||| k.label) T.l := ⟨_, rfl⟩
  obtain ⟨my, hmy⟩ : ∃ my, my = mayB T k v := ⟨_, rfl⟩
  have HGR := Lib.hid (show T'.F.length = T.F.length ∨ (T'.F.length = T.F.length + 1 ∧ fr = true ∧ fl = true ∧ my = true) by rw [hT', hfr, hfl, hmy]; exact doPut_grow T ctx k v)
  have HTL := Lib.hid (show T'.F.length ≤ T.F.length + 1 ∧ T'.S = T.S ∧ (TabOk T → TabOk T') ∧ (StrT T → StrT T') by rw [hT']; exact ⟨(doPut_len T ctx k v).1, (doPut_len T ctx k v).2.1, fun o => doPut_ok o HOK.out.2.2.1 HOK.out.2.2.2.1 HOK.out.2.2.2.2.1, fun o => doPut_str o HOK.out.2.2.2.2.2.1 HOK.out.2.2.2.2.2.2⟩)
  have HFR := Lib.hid (show ∀ W', Below W.heap.size W W' → Calls Tryz.prog 42 #[.pointer (some ⟨p, 0, none⟩), .agg #[.int .i64 k.kind, .int .i64 k.n, .string k.s, .int .u64 (k.label : Int)]] W' (RetB (.bool fr) W') from fun W' hb => by rw [hfr]; exact fresh_any (HTI.out W' hb) k (by have := HFL.out.1; omega))
  have HJN := Lib.hid (fun n c t W h => join2_any ctx k.label n c t W HOK.out.2.2.1 HOK.out.2.2.2.1.label h)
  have HLB := Lib.hid (show ∀ W', Below W.heap.size W W' → Calls Tryz.prog 45 #[.pointer (some ⟨p, 0, none⟩)] W' (Ret (.int .u64 (T.l : Int)) W') from fun W' hb => tlabel_any (HTI.out W' hb))
  have HFLW := Lib.hid (show ∀ W', Calls Tryz.prog 43 #[.int .u64 ((ctx ||| k.label : Nat) : Int), .int .u64 (T.l : Int)] W' (Ret (.bool fl) W') from fun W' => by rw [hfl]; exact flows_any (ctx ||| k.label) T.l W' (Nat.or_lt_two_pow (n := 64) HOK.out.2.2.1 HOK.out.2.2.2.1.label) HT.out.1.l)
  have HAL := Lib.hid (show ∀ W', Below W.heap.size W W' → Calls Tryz.prog 46 #[.pointer (some ⟨p, 0, none⟩), .agg #[.int .i64 k.kind, .int .i64 k.n, .string k.s, .int .u64 (k.label : Int)], .agg #[.int .i64 v.kind, .int .i64 v.n, .string v.s, .int .u64 (v.label : Int)]] W' (RetB (.bool my) W') from fun W' hb => by rw [hmy]; exact allowed_any (HTI.out W' hb) k v HFL.out.2)
  clear hl0 hT' he1 hfr hfl hmy
  obtain ⟨q0, q1, qf, ql⟩ := hp_cells (HH.out.below (HW.out.trans (DW.out.mono HW.out.size)))
  have qf0 := qf 0
  have qf1 := qf 1
  clear qf
  obtain ⟨x0, x1, x2, x3, xf0, xf1, xf2, xf3, xl⟩ := blk_4 D1.out
  obtain ⟨y0, y1, y2, y3, yf0, yf1, yf2, yf3, yl⟩ := blk_4 D2.out
  by_cases hfull : s.U < s.L
  ·have HG := Lib.hid (show T'.F.length = T.F.length ∨ (T'.F.length = T.F.length + 1 ∧ s.U < s.L) from HGR.out.imp id fun e => ⟨e.1, hfull⟩)
   go_wp2_with fail
   go_quiet (fail)
   go_wp2_with fail
   clear q0 q1 qf0 qf1 ql hfull x0 xf0 x1 xf1 x2 xf2 x3 xf3 xl y0 yf0 y1 yf1 y2 yf2 y3 yf3 yl
   refine (HLEN.out _ (belowDN DW.out _)).mono ?_
   rintro e wa ⟨rfl, hwa⟩
   have WA := Lib.hid (show Below W.heap.size W wa by rw [← hwa]; exact belowDN DW.out _)
   clear hwa
   have F1 := Lib.hid (below_blk WA.out HB1.out)
   have F2 := Lib.hid (below_blk WA.out HB2.out)
   obtain ⟨x0, x1, x2, x3, xf0, xf1, xf2, xf3, xl⟩ := blk_4 F1.out
   obtain ⟨y0, y1, y2, y3, yf0, yf1, yf2, yf3, yl⟩ := blk_4 F2.out
   go_wp2_with fail
   clear x0 xf0 x1 xf1 x2 xf2 x3 xf3 xl y0 yf0 y1 yf1 y2 yf2 y3 yf3 yl
   refine (HPUT.out _ WA.out).mono ?_
   rintro e wb ⟨rfl, hto⟩
   obtain ⟨f', ht3, hf3, hn3⟩ := hto
   have WAW := Lib.hid (HW.out.trans (WA.out.mono HW.out.size))
   obtain ⟨d3, a3, b3, c3⟩ := (HH.out.below WAW.out).turnT HIL.out HI.out.2.1 HI.out.2.2.1 ht3 hf3 hn3
   obtain ⟨l1, hl1⟩ : ∃ l1 : Int, l1 = (T'.F.length : Int) := ⟨_, rfl⟩
   obtain ⟨dl, hdl⟩ : ∃ dl : Int, dl = l1 - l0 := ⟨_, rfl⟩
   obtain ⟨U2, hU2⟩ : ∃ U2 : Int, U2 = s.U + dl := ⟨_, rfl⟩
   have HLEN2 := Lib.hid (show Calls Tryz.prog 19 #[.pointer (some ⟨p, 0, none⟩)] wb.drew (Ret (.int .i64 l1) wb.drew) from by rw [hl1]; exact tlen_any (ht3.kept ((Fr.refl [] wb).drew) (by simp)))
   have hU : s.U ≤ U2 ∧ U2 ≤ s.L ∧ 0 ≤ dl ∧ dl ≤ 1 := by
    have h1 := HG.out
    have h2 := HL0.out
    have h3 := HH.out.u1
    omega
   have hsub : IntKind.wrap .i64 (l1 - l0) = dl := by rw [IntKind.wrap_i64, hdl]; omega
   have hadd : IntKind.wrap .i64 (s.U + dl) = U2 := by have := HH.out.u0; have := HH.out.u2; rw [IntKind.wrap_i64, hU2]; omega
   have a4 := a3.below (Below.refl wb.heap.size wb).drew
   have hcb := blk_set (i := 1) a4.blk (.int .i64 U2)
   have hfc : Fr [h] wb.drew (wb.drew.setCell ⟨h, 1, none⟩ (.int .i64 U2)) := (Fr.refl _ _).set _ (.inl (by simp))
   have HTO := Lib.hid (show HpTo w B N h s d { s with U := U2, T := s.T.set i T' } (wb.drew.setCell ⟨h, 1, none⟩ (.int .i64 U2)) from
    HpTo.trans2 (s1 := { s with T := s.T.set i T' }) (d1 := d3) ((Fr.of_below WAW.out _).trans b3 fun x hx => .inl hx) (fun b hb => (c3 b hb).imp id fun e => Nat.le_trans WAW.out.size e) (a4.charged hfc hcb (by have := HH.out.u0; omega) hU.2.1) (((Fr.refl _ wb).drew).trans hfc fun x hx => .inl (by simp at hx; rw [hx]; exact fp_h _ _ _)) (fun b hb => .inl hb))
   have HLE := Lib.hid (show HpLe m s { s with U := U2, T := s.T.set i T' } from le_put HI.out.1 HTL.out.2.2.1 HTL.out.2.2.2 HTL.out.1 (by rw [HTL.out.2.1]; omega) hU.1)
   have HOT := Lib.hid (show OthersT t s { s with U := U2, T := s.T.set i T' } from fun j hj => by
    show (s.T.set i T')[j]? = s.T[j]?
    rw [List.getElem?_set_ne]
    intro e
    exact hj ⟨HI.out.2.2.2.1, by rw [HI.out.2.2.2.2, e]⟩)
   obtain ⟨_, y1, yf, yl⟩ := hp_cells a4
   have y1 : wb.drew.cell? ⟨h, 1, none⟩ = some (.int .i64 s.U) := y1
   have yf1 := yf 1
   have HD := Lib.hid (And.intro hl1 (And.intro hdl hU2))
   clear ht3 hf3 hn3 a3 b3 c3 hl1 hdl hU2 hU a4 hcb hfc yf
   go_wp2_with fail
   refine wp_region_held_drew (S := fun _ => True) (by kernel_rfl) (trivial) (fun hHeld => ?_)
   refine tk 0 59 (.pointer (some ⟨h, 0, none⟩)) hHeld ?_; simp only [Act.put, zq1, zq2, zq3]
   refine tk 1 60 (.pointer (some ⟨h, 0, none⟩)) hHeld ?_; simp only [Act.put, zq1, zq2, zq3]
   refine tk 2 61 (.pointer (some ⟨h, 1, none⟩)) hHeld ?_; simp only [Act.put, zq1, zq2, zq3]
   refine tk 4 63 (.pointer (some ⟨p, 0, none⟩)) hHeld ?_; simp only [Act.put, zq1, zq2, zq3]
   refine tk 6 65 (.int .i64 l0) hHeld ?_; simp only [Act.put, zq1, zq2, zq3]
   refine wpAnyH_ready (rs := [3, 5]) (by kernel_rfl) (by simp) ?_
   refine AllReadyH.cons (o := _) rfl (fun K hK => ?_) (AllReadyH.cons (o := _) rfl (fun K hK => ?_) (AllReadyH.nil))
   ·go_simp
    refine hK.out _ _ (trivial) (fun hHeld => ?_)
    clear hK K
    try simp only [Act.put, zq1, zq2, zq3]
    refine rd 5 fun K hK => ?_
    go_simp
    refine HLEN2.out.mono ?_
    rintro e w9 ⟨rfl, rfl⟩
    refine hK.out _ _ (trivial) (fun hHeld => ?_)
    clear hK K
    try simp only [Act.put, zq1, zq2, zq3]
    refine tk 7 66 (.int .i64 dl) hHeld ?_; simp only [Act.put, zq1, zq2, zq3]
    refine tk 8 67 (.int .i64 U2) hHeld ?_; simp only [Act.put, zq1, zq2, zq3]
    refine tk 9 68 (.pointer (some ⟨h, 0, none⟩)) hHeld ?_; simp only [Act.put, zq1, zq2, zq3]
    refine tk 10 69 (.pointer (some ⟨h, 1, none⟩)) hHeld ?_; simp only [Act.put, zq1, zq2, zq3]
    refine rd 11 fun K hK => ?_
    go_simp
    refine hK.out _ _ (trivial) (fun hHeld => ?_)
    clear hK K
    try simp only [Act.put, zq1, zq2, zq3]
    refine wpAnyH_done (by kernel_rfl) ?_ _
    go_wp2
    go_returns
    exact ⟨e1, true, _, rfl, HLE.out, HTO.out, HOT.out, by simp⟩
   ·go_simp
    refine HLEN2.out.mono ?_
    rintro e w9 ⟨rfl, rfl⟩
    refine hK.out _ _ (trivial) (fun hHeld => ?_)
    clear hK K
    try simp only [Act.put, zq1, zq2, zq3]
    refine tk 7 66 (.int .i64 dl) hHeld ?_; simp only [Act.put, zq1, zq2, zq3]
    refine rd 3 fun K hK => ?_
    go_simp
    refine hK.out _ _ (trivial) (fun hHeld => ?_)
    clear hK K
    try simp only [Act.put, zq1, zq2, zq3]
    refine tk 8 67 (.int .i64 U2) hHeld ?_; simp only [Act.put, zq1, zq2, zq3]
    refine tk 9 68 (.pointer (some ⟨h, 0, none⟩)) hHeld ?_; simp only [Act.put, zq1, zq2, zq3]
    refine tk 10 69 (.pointer (some ⟨h, 1, none⟩)) hHeld ?_; simp only [Act.put, zq1, zq2, zq3]
    refine rd 11 fun K hK => ?_
    go_simp
    refine hK.out _ _ (trivial) (fun hHeld => ?_)
    clear hK K
    try simp only [Act.put, zq1, zq2, zq3]
    refine wpAnyH_done (by kernel_rfl) ?_ _
    go_wp2
    go_returns
    exact ⟨e1, true, _, rfl, HLE.out, HTO.out, HOT.out, by simp⟩
  ·go_wp2_with fail
   go_quiet (fail)
   go_wp2_with fail
   clear q0 q1 qf0 qf1 ql x0 xf0 x1 xf1 x2 xf2 x3 xf3 xl y0 yf0 y1 yf1 y2 yf2 y3 yf3 yl
   refine (HFR.out _ (belowDN DW.out _)).mono ?_
   rintro e w2 ⟨rfl, hb2⟩
   have W2 := Lib.hid (show Below W.heap.size W w2 from (belowDN DW.out _).trans (hb2.mono DW.out.size))
   clear hb2 hfull
   cases fr with
   | false =>
    have HG := Lib.hid (show T'.F.length = T.F.length ∨ (T'.F.length = T.F.length + 1 ∧ s.U < s.L) from HGR.out.imp id fun e => by cases e.2.1)
    go_wp2_with fail
    refine (HLEN.out _ (W2.out)).mono ?_
    rintro e wa ⟨rfl, hwa⟩
    have WA := Lib.hid (show Below W.heap.size W wa by rw [← hwa]; exact W2.out)
    clear hwa
    have F1 := Lib.hid (below_blk WA.out HB1.out)
    have F2 := Lib.hid (below_blk WA.out HB2.out)
    obtain ⟨x0, x1, x2, x3, xf0, xf1, xf2, xf3, xl⟩ := blk_4 F1.out
    obtain ⟨y0, y1, y2, y3, yf0, yf1, yf2, yf3, yl⟩ := blk_4 F2.out
    go_wp2_with fail
    clear x0 xf0 x1 xf1 x2 xf2 x3 xf3 xl y0 yf0 y1 yf1 y2 yf2 y3 yf3 yl
    refine (HPUT.out _ WA.out).mono ?_
    rintro e wb ⟨rfl, hto⟩
    obtain ⟨f', ht3, hf3, hn3⟩ := hto
    have WAW := Lib.hid (HW.out.trans (WA.out.mono HW.out.size))
    obtain ⟨d3, a3, b3, c3⟩ := (HH.out.below WAW.out).turnT HIL.out HI.out.2.1 HI.out.2.2.1 ht3 hf3 hn3
    obtain ⟨l1, hl1⟩ : ∃ l1 : Int, l1 = (T'.F.length : Int) := ⟨_, rfl⟩
    obtain ⟨dl, hdl⟩ : ∃ dl : Int, dl = l1 - l0 := ⟨_, rfl⟩
    obtain ⟨U2, hU2⟩ : ∃ U2 : Int, U2 = s.U + dl := ⟨_, rfl⟩
    have HLEN2 := Lib.hid (show Calls Tryz.prog 19 #[.pointer (some ⟨p, 0, none⟩)] wb.drew (Ret (.int .i64 l1) wb.drew) from by rw [hl1]; exact tlen_any (ht3.kept ((Fr.refl [] wb).drew) (by simp)))
    have hU : s.U ≤ U2 ∧ U2 ≤ s.L ∧ 0 ≤ dl ∧ dl ≤ 1 := by
     have h1 := HG.out
     have h2 := HL0.out
     have h3 := HH.out.u1
     omega
    have hsub : IntKind.wrap .i64 (l1 - l0) = dl := by rw [IntKind.wrap_i64, hdl]; omega
    have hadd : IntKind.wrap .i64 (s.U + dl) = U2 := by have := HH.out.u0; have := HH.out.u2; rw [IntKind.wrap_i64, hU2]; omega
    have a4 := a3.below (Below.refl wb.heap.size wb).drew
    have hcb := blk_set (i := 1) a4.blk (.int .i64 U2)
    have hfc : Fr [h] wb.drew (wb.drew.setCell ⟨h, 1, none⟩ (.int .i64 U2)) := (Fr.refl _ _).set _ (.inl (by simp))
    have HTO := Lib.hid (show HpTo w B N h s d { s with U := U2, T := s.T.set i T' } (wb.drew.setCell ⟨h, 1, none⟩ (.int .i64 U2)) from
     HpTo.trans2 (s1 := { s with T := s.T.set i T' }) (d1 := d3) ((Fr.of_below WAW.out _).trans b3 fun x hx => .inl hx) (fun b hb => (c3 b hb).imp id fun e => Nat.le_trans WAW.out.size e) (a4.charged hfc hcb (by have := HH.out.u0; omega) hU.2.1) (((Fr.refl _ wb).drew).trans hfc fun x hx => .inl (by simp at hx; rw [hx]; exact fp_h _ _ _)) (fun b hb => .inl hb))
    have HLE := Lib.hid (show HpLe m s { s with U := U2, T := s.T.set i T' } from le_put HI.out.1 HTL.out.2.2.1 HTL.out.2.2.2 HTL.out.1 (by rw [HTL.out.2.1]; omega) hU.1)
    have HOT := Lib.hid (show OthersT t s { s with U := U2, T := s.T.set i T' } from fun j hj => by
     show (s.T.set i T')[j]? = s.T[j]?
     rw [List.getElem?_set_ne]
     intro e
     exact hj ⟨HI.out.2.2.2.1, by rw [HI.out.2.2.2.2, e]⟩)
    obtain ⟨_, y1, yf, yl⟩ := hp_cells a4
    have y1 : wb.drew.cell? ⟨h, 1, none⟩ = some (.int .i64 s.U) := y1
    have yf1 := yf 1
    have HD := Lib.hid (And.intro hl1 (And.intro hdl hU2))
    clear ht3 hf3 hn3 a3 b3 c3 hl1 hdl hU2 hU a4 hcb hfc yf
    go_wp2_with fail
    refine wp_region_held_drew (S := fun _ => True) (by kernel_rfl) (trivial) (fun hHeld => ?_)
    refine tk 0 59 (.pointer (some ⟨h, 0, none⟩)) hHeld ?_; simp only [Act.put, zq1, zq2, zq3]
    refine tk 1 60 (.pointer (some ⟨h, 0, none⟩)) hHeld ?_; simp only [Act.put, zq1, zq2, zq3]
    refine tk 2 61 (.pointer (some ⟨h, 1, none⟩)) hHeld ?_; simp only [Act.put, zq1, zq2, zq3]
    refine tk 4 63 (.pointer (some ⟨p, 0, none⟩)) hHeld ?_; simp only [Act.put, zq1, zq2, zq3]
    refine tk 6 65 (.int .i64 l0) hHeld ?_; simp only [Act.put, zq1, zq2, zq3]
    refine wpAnyH_ready (rs := [3, 5]) (by kernel_rfl) (by simp) ?_
    refine AllReadyH.cons (o := _) rfl (fun K hK => ?_) (AllReadyH.cons (o := _) rfl (fun K hK => ?_) (AllReadyH.nil))
    ·go_simp
     refine hK.out _ _ (trivial) (fun hHeld => ?_)
     clear hK K
     try simp only [Act.put, zq1, zq2, zq3]
     refine rd 5 fun K hK => ?_
     go_simp
     refine HLEN2.out.mono ?_
     rintro e w9 ⟨rfl, rfl⟩
     refine hK.out _ _ (trivial) (fun hHeld => ?_)
     clear hK K
     try simp only [Act.put, zq1, zq2, zq3]
     refine tk 7 66 (.int .i64 dl) hHeld ?_; simp only [Act.put, zq1, zq2, zq3]
     refine tk 8 67 (.int .i64 U2) hHeld ?_; simp only [Act.put, zq1, zq2, zq3]
     refine tk 9 68 (.pointer (some ⟨h, 0, none⟩)) hHeld ?_; simp only [Act.put, zq1, zq2, zq3]
     refine tk 10 69 (.pointer (some ⟨h, 1, none⟩)) hHeld ?_; simp only [Act.put, zq1, zq2, zq3]
     refine rd 11 fun K hK => ?_
     go_simp
     refine hK.out _ _ (trivial) (fun hHeld => ?_)
     clear hK K
     try simp only [Act.put, zq1, zq2, zq3]
     refine wpAnyH_done (by kernel_rfl) ?_ _
     go_wp2
     go_returns
     exact ⟨e1, true, _, rfl, HLE.out, HTO.out, HOT.out, by simp⟩
    ·go_simp
     refine HLEN2.out.mono ?_
     rintro e w9 ⟨rfl, rfl⟩
     refine hK.out _ _ (trivial) (fun hHeld => ?_)
     clear hK K
     try simp only [Act.put, zq1, zq2, zq3]
     refine tk 7 66 (.int .i64 dl) hHeld ?_; simp only [Act.put, zq1, zq2, zq3]
     refine rd 3 fun K hK => ?_
     go_simp
     refine hK.out _ _ (trivial) (fun hHeld => ?_)
     clear hK K
     try simp only [Act.put, zq1, zq2, zq3]
     refine tk 8 67 (.int .i64 U2) hHeld ?_; simp only [Act.put, zq1, zq2, zq3]
     refine tk 9 68 (.pointer (some ⟨h, 0, none⟩)) hHeld ?_; simp only [Act.put, zq1, zq2, zq3]
     refine tk 10 69 (.pointer (some ⟨h, 1, none⟩)) hHeld ?_; simp only [Act.put, zq1, zq2, zq3]
     refine rd 11 fun K hK => ?_
     go_simp
     refine hK.out _ _ (trivial) (fun hHeld => ?_)
     clear hK K
     try simp only [Act.put, zq1, zq2, zq3]
     refine wpAnyH_done (by kernel_rfl) ?_ _
     go_wp2
     go_returns
     exact ⟨e1, true, _, rfl, HLE.out, HTO.out, HOT.out, by simp⟩
   | true =>
    have E1 := Lib.hid (below_blk W2.out HB1.out)
    have E2 := Lib.hid (below_blk W2.out HB2.out)
    obtain ⟨x0, x1, x2, x3, xf0, xf1, xf2, xf3, xl⟩ := blk_4 E1.out
    obtain ⟨y0, y1, y2, y3, yf0, yf1, yf2, yf3, yl⟩ := blk_4 E2.out
    go_wp2_with fail
    clear x0 xf0 x1 xf1 x2 xf2 x3 xf3 xl y0 yf0 y1 yf1 y2 yf2 y3 yf3 yl
    refine (HJN.out _ _ _ _ (heap_alloc_new _ _)).mono ?_
    rintro e w3 ⟨rfl, hw3⟩
    have W3 := Lib.hid (show Below W.heap.size W w3 by rw [← hw3]; exact W2.out.alloc W2.out.size _)
    clear hw3
    go_wp2_with fail
    refine (HLB.out _ W3.out).mono ?_
    rintro e w4 ⟨rfl, rfl⟩
    go_wp2_with fail
    refine (HFLW.out _).mono ?_
    rintro e w4 ⟨rfl, rfl⟩
    cases fl with
    | false =>
     have HG := Lib.hid (show T'.F.length = T.F.length ∨ (T'.F.length = T.F.length + 1 ∧ s.U < s.L) from HGR.out.imp id fun e => by cases e.2.2.1)
     go_wp2_with fail
     refine (HLEN.out _ (W3.out)).mono ?_
     rintro e wa ⟨rfl, hwa⟩
     have WA := Lib.hid (show Below W.heap.size W wa by rw [← hwa]; exact W3.out)
     clear hwa
     have F1 := Lib.hid (below_blk WA.out HB1.out)
     have F2 := Lib.hid (below_blk WA.out HB2.out)
     obtain ⟨x0, x1, x2, x3, xf0, xf1, xf2, xf3, xl⟩ := blk_4 F1.out
     obtain ⟨y0, y1, y2, y3, yf0, yf1, yf2, yf3, yl⟩ := blk_4 F2.out
     go_wp2_with fail
     clear x0 xf0 x1 xf1 x2 xf2 x3 xf3 xl y0 yf0 y1 yf1 y2 yf2 y3 yf3 yl
     refine (HPUT.out _ WA.out).mono ?_
     rintro e wb ⟨rfl, hto⟩
     obtain ⟨f', ht3, hf3, hn3⟩ := hto
     have WAW := Lib.hid (HW.out.trans (WA.out.mono HW.out.size))
     obtain ⟨d3, a3, b3, c3⟩ := (HH.out.below WAW.out).turnT HIL.out HI.out.2.1 HI.out.2.2.1 ht3 hf3 hn3
     obtain ⟨l1, hl1⟩ : ∃ l1 : Int, l1 = (T'.F.length : Int) := ⟨_, rfl⟩
     obtain ⟨dl, hdl⟩ : ∃ dl : Int, dl = l1 - l0 := ⟨_, rfl⟩
     obtain ⟨U2, hU2⟩ : ∃ U2 : Int, U2 = s.U + dl := ⟨_, rfl⟩
     have HLEN2 := Lib.hid (show Calls Tryz.prog 19 #[.pointer (some ⟨p, 0, none⟩)] wb.drew (Ret (.int .i64 l1) wb.drew) from by rw [hl1]; exact tlen_any (ht3.kept ((Fr.refl [] wb).drew) (by simp)))
     have hU : s.U ≤ U2 ∧ U2 ≤ s.L ∧ 0 ≤ dl ∧ dl ≤ 1 := by
      have h1 := HG.out
      have h2 := HL0.out
      have h3 := HH.out.u1
      omega
     have hsub : IntKind.wrap .i64 (l1 - l0) = dl := by rw [IntKind.wrap_i64, hdl]; omega
     have hadd : IntKind.wrap .i64 (s.U + dl) = U2 := by have := HH.out.u0; have := HH.out.u2; rw [IntKind.wrap_i64, hU2]; omega
     have a4 := a3.below (Below.refl wb.heap.size wb).drew
     have hcb := blk_set (i := 1) a4.blk (.int .i64 U2)
     have hfc : Fr [h] wb.drew (wb.drew.setCell ⟨h, 1, none⟩ (.int .i64 U2)) := (Fr.refl _ _).set _ (.inl (by simp))
     have HTO := Lib.hid (show HpTo w B N h s d { s with U := U2, T := s.T.set i T' } (wb.drew.setCell ⟨h, 1, none⟩ (.int .i64 U2)) from
      HpTo.trans2 (s1 := { s with T := s.T.set i T' }) (d1 := d3) ((Fr.of_below WAW.out _).trans b3 fun x hx => .inl hx) (fun b hb => (c3 b hb).imp id fun e => Nat.le_trans WAW.out.size e) (a4.charged hfc hcb (by have := HH.out.u0; omega) hU.2.1) (((Fr.refl _ wb).drew).trans hfc fun x hx => .inl (by simp at hx; rw [hx]; exact fp_h _ _ _)) (fun b hb => .inl hb))
     have HLE := Lib.hid (show HpLe m s { s with U := U2, T := s.T.set i T' } from le_put HI.out.1 HTL.out.2.2.1 HTL.out.2.2.2 HTL.out.1 (by rw [HTL.out.2.1]; omega) hU.1)
     have HOT := Lib.hid (show OthersT t s { s with U := U2, T := s.T.set i T' } from fun j hj => by
      show (s.T.set i T')[j]? = s.T[j]?
      rw [List.getElem?_set_ne]
      intro e
      exact hj ⟨HI.out.2.2.2.1, by rw [HI.out.2.2.2.2, e]⟩)
     obtain ⟨_, y1, yf, yl⟩ := hp_cells a4
     have y1 : wb.drew.cell? ⟨h, 1, none⟩ = some (.int .i64 s.U) := y1
     have yf1 := yf 1
     have HD := Lib.hid (And.intro hl1 (And.intro hdl hU2))
     clear ht3 hf3 hn3 a3 b3 c3 hl1 hdl hU2 hU a4 hcb hfc yf
     go_wp2_with fail
     refine wp_region_held_drew (S := fun _ => True) (by kernel_rfl) (trivial) (fun hHeld => ?_)
     refine tk 0 59 (.pointer (some ⟨h, 0, none⟩)) hHeld ?_; simp only [Act.put, zq1, zq2, zq3]
     refine tk 1 60 (.pointer (some ⟨h, 0, none⟩)) hHeld ?_; simp only [Act.put, zq1, zq2, zq3]
     refine tk 2 61 (.pointer (some ⟨h, 1, none⟩)) hHeld ?_; simp only [Act.put, zq1, zq2, zq3]
     refine tk 4 63 (.pointer (some ⟨p, 0, none⟩)) hHeld ?_; simp only [Act.put, zq1, zq2, zq3]
     refine tk 6 65 (.int .i64 l0) hHeld ?_; simp only [Act.put, zq1, zq2, zq3]
     refine wpAnyH_ready (rs := [3, 5]) (by kernel_rfl) (by simp) ?_
     refine AllReadyH.cons (o := _) rfl (fun K hK => ?_) (AllReadyH.cons (o := _) rfl (fun K hK => ?_) (AllReadyH.nil))
     ·go_simp
      refine hK.out _ _ (trivial) (fun hHeld => ?_)
      clear hK K
      try simp only [Act.put, zq1, zq2, zq3]
      refine rd 5 fun K hK => ?_
      go_simp
      refine HLEN2.out.mono ?_
      rintro e w9 ⟨rfl, rfl⟩
      refine hK.out _ _ (trivial) (fun hHeld => ?_)
      clear hK K
      try simp only [Act.put, zq1, zq2, zq3]
      refine tk 7 66 (.int .i64 dl) hHeld ?_; simp only [Act.put, zq1, zq2, zq3]
      refine tk 8 67 (.int .i64 U2) hHeld ?_; simp only [Act.put, zq1, zq2, zq3]
      refine tk 9 68 (.pointer (some ⟨h, 0, none⟩)) hHeld ?_; simp only [Act.put, zq1, zq2, zq3]
      refine tk 10 69 (.pointer (some ⟨h, 1, none⟩)) hHeld ?_; simp only [Act.put, zq1, zq2, zq3]
      refine rd 11 fun K hK => ?_
      go_simp
      refine hK.out _ _ (trivial) (fun hHeld => ?_)
      clear hK K
      try simp only [Act.put, zq1, zq2, zq3]
      refine wpAnyH_done (by kernel_rfl) ?_ _
      go_wp2
      go_returns
      exact ⟨e1, true, _, rfl, HLE.out, HTO.out, HOT.out, by simp⟩
     ·go_simp
      refine HLEN2.out.mono ?_
      rintro e w9 ⟨rfl, rfl⟩
      refine hK.out _ _ (trivial) (fun hHeld => ?_)
      clear hK K
      try simp only [Act.put, zq1, zq2, zq3]
      refine tk 7 66 (.int .i64 dl) hHeld ?_; simp only [Act.put, zq1, zq2, zq3]
      refine rd 3 fun K hK => ?_
      go_simp
      refine hK.out _ _ (trivial) (fun hHeld => ?_)
      clear hK K
      try simp only [Act.put, zq1, zq2, zq3]
      refine tk 8 67 (.int .i64 U2) hHeld ?_; simp only [Act.put, zq1, zq2, zq3]
      refine tk 9 68 (.pointer (some ⟨h, 0, none⟩)) hHeld ?_; simp only [Act.put, zq1, zq2, zq3]
      refine tk 10 69 (.pointer (some ⟨h, 1, none⟩)) hHeld ?_; simp only [Act.put, zq1, zq2, zq3]
      refine rd 11 fun K hK => ?_
      go_simp
      refine hK.out _ _ (trivial) (fun hHeld => ?_)
      clear hK K
      try simp only [Act.put, zq1, zq2, zq3]
      refine wpAnyH_done (by kernel_rfl) ?_ _
      go_wp2
      go_returns
      exact ⟨e1, true, _, rfl, HLE.out, HTO.out, HOT.out, by simp⟩
    | true =>
     have E1 := Lib.hid (below_blk W3.out HB1.out)
     have E2 := Lib.hid (below_blk W3.out HB2.out)
     obtain ⟨x0, x1, x2, x3, xf0, xf1, xf2, xf3, xl⟩ := blk_4 E1.out
     obtain ⟨y0, y1, y2, y3, yf0, yf1, yf2, yf3, yl⟩ := blk_4 E2.out
     go_wp2_with fail
     clear x0 xf0 x1 xf1 x2 xf2 x3 xf3 xl y0 yf0 y1 yf1 y2 yf2 y3 yf3 yl
     refine (HAL.out _ W3.out).mono ?_
     rintro e w5 ⟨rfl, hb5⟩
     have W5 := Lib.hid (show Below W.heap.size W w5 from W3.out.trans (hb5.mono W3.out.size))
     clear hb5
     cases my with
     | false =>
      have HG := Lib.hid (show T'.F.length = T.F.length ∨ (T'.F.length = T.F.length + 1 ∧ s.U < s.L) from HGR.out.imp id fun e => by cases e.2.2.2)
      go_wp2_with fail
      refine (HLEN.out _ (W5.out)).mono ?_
      rintro e wa ⟨rfl, hwa⟩
      have WA := Lib.hid (show Below W.heap.size W wa by rw [← hwa]; exact W5.out)
      clear hwa
      have F1 := Lib.hid (below_blk WA.out HB1.out)
      have F2 := Lib.hid (below_blk WA.out HB2.out)
      obtain ⟨x0, x1, x2, x3, xf0, xf1, xf2, xf3, xl⟩ := blk_4 F1.out
      obtain ⟨y0, y1, y2, y3, yf0, yf1, yf2, yf3, yl⟩ := blk_4 F2.out
      go_wp2_with fail
      clear x0 xf0 x1 xf1 x2 xf2 x3 xf3 xl y0 yf0 y1 yf1 y2 yf2 y3 yf3 yl
      refine (HPUT.out _ WA.out).mono ?_
      rintro e wb ⟨rfl, hto⟩
      obtain ⟨f', ht3, hf3, hn3⟩ := hto
      have WAW := Lib.hid (HW.out.trans (WA.out.mono HW.out.size))
      obtain ⟨d3, a3, b3, c3⟩ := (HH.out.below WAW.out).turnT HIL.out HI.out.2.1 HI.out.2.2.1 ht3 hf3 hn3
      obtain ⟨l1, hl1⟩ : ∃ l1 : Int, l1 = (T'.F.length : Int) := ⟨_, rfl⟩
      obtain ⟨dl, hdl⟩ : ∃ dl : Int, dl = l1 - l0 := ⟨_, rfl⟩
      obtain ⟨U2, hU2⟩ : ∃ U2 : Int, U2 = s.U + dl := ⟨_, rfl⟩
      have HLEN2 := Lib.hid (show Calls Tryz.prog 19 #[.pointer (some ⟨p, 0, none⟩)] wb.drew (Ret (.int .i64 l1) wb.drew) from by rw [hl1]; exact tlen_any (ht3.kept ((Fr.refl [] wb).drew) (by simp)))
      have hU : s.U ≤ U2 ∧ U2 ≤ s.L ∧ 0 ≤ dl ∧ dl ≤ 1 := by
       have h1 := HG.out
       have h2 := HL0.out
       have h3 := HH.out.u1
       omega
      have hsub : IntKind.wrap .i64 (l1 - l0) = dl := by rw [IntKind.wrap_i64, hdl]; omega
      have hadd : IntKind.wrap .i64 (s.U + dl) = U2 := by have := HH.out.u0; have := HH.out.u2; rw [IntKind.wrap_i64, hU2]; omega
      have a4 := a3.below (Below.refl wb.heap.size wb).drew
      have hcb := blk_set (i := 1) a4.blk (.int .i64 U2)
      have hfc : Fr [h] wb.drew (wb.drew.setCell ⟨h, 1, none⟩ (.int .i64 U2)) := (Fr.refl _ _).set _ (.inl (by simp))
      have HTO := Lib.hid (show HpTo w B N h s d { s with U := U2, T := s.T.set i T' } (wb.drew.setCell ⟨h, 1, none⟩ (.int .i64 U2)) from
       HpTo.trans2 (s1 := { s with T := s.T.set i T' }) (d1 := d3) ((Fr.of_below WAW.out _).trans b3 fun x hx => .inl hx) (fun b hb => (c3 b hb).imp id fun e => Nat.le_trans WAW.out.size e) (a4.charged hfc hcb (by have := HH.out.u0; omega) hU.2.1) (((Fr.refl _ wb).drew).trans hfc fun x hx => .inl (by simp at hx; rw [hx]; exact fp_h _ _ _)) (fun b hb => .inl hb))
      have HLE := Lib.hid (show HpLe m s { s with U := U2, T := s.T.set i T' } from le_put HI.out.1 HTL.out.2.2.1 HTL.out.2.2.2 HTL.out.1 (by rw [HTL.out.2.1]; omega) hU.1)
      have HOT := Lib.hid (show OthersT t s { s with U := U2, T := s.T.set i T' } from fun j hj => by
       show (s.T.set i T')[j]? = s.T[j]?
       rw [List.getElem?_set_ne]
       intro e
       exact hj ⟨HI.out.2.2.2.1, by rw [HI.out.2.2.2.2, e]⟩)
      obtain ⟨_, y1, yf, yl⟩ := hp_cells a4
      have y1 : wb.drew.cell? ⟨h, 1, none⟩ = some (.int .i64 s.U) := y1
      have yf1 := yf 1
      have HD := Lib.hid (And.intro hl1 (And.intro hdl hU2))
      clear ht3 hf3 hn3 a3 b3 c3 hl1 hdl hU2 hU a4 hcb hfc yf
      go_wp2_with fail
      refine wp_region_held_drew (S := fun _ => True) (by kernel_rfl) (trivial) (fun hHeld => ?_)
      refine tk 0 59 (.pointer (some ⟨h, 0, none⟩)) hHeld ?_; simp only [Act.put, zq1, zq2, zq3]
      refine tk 1 60 (.pointer (some ⟨h, 0, none⟩)) hHeld ?_; simp only [Act.put, zq1, zq2, zq3]
      refine tk 2 61 (.pointer (some ⟨h, 1, none⟩)) hHeld ?_; simp only [Act.put, zq1, zq2, zq3]
      refine tk 4 63 (.pointer (some ⟨p, 0, none⟩)) hHeld ?_; simp only [Act.put, zq1, zq2, zq3]
      refine tk 6 65 (.int .i64 l0) hHeld ?_; simp only [Act.put, zq1, zq2, zq3]
      refine wpAnyH_ready (rs := [3, 5]) (by kernel_rfl) (by simp) ?_
      refine AllReadyH.cons (o := _) rfl (fun K hK => ?_) (AllReadyH.cons (o := _) rfl (fun K hK => ?_) (AllReadyH.nil))
      ·go_simp
       refine hK.out _ _ (trivial) (fun hHeld => ?_)
       clear hK K
       try simp only [Act.put, zq1, zq2, zq3]
       refine rd 5 fun K hK => ?_
       go_simp
       refine HLEN2.out.mono ?_
       rintro e w9 ⟨rfl, rfl⟩
       refine hK.out _ _ (trivial) (fun hHeld => ?_)
       clear hK K
       try simp only [Act.put, zq1, zq2, zq3]
       refine tk 7 66 (.int .i64 dl) hHeld ?_; simp only [Act.put, zq1, zq2, zq3]
       refine tk 8 67 (.int .i64 U2) hHeld ?_; simp only [Act.put, zq1, zq2, zq3]
       refine tk 9 68 (.pointer (some ⟨h, 0, none⟩)) hHeld ?_; simp only [Act.put, zq1, zq2, zq3]
       refine tk 10 69 (.pointer (some ⟨h, 1, none⟩)) hHeld ?_; simp only [Act.put, zq1, zq2, zq3]
       refine rd 11 fun K hK => ?_
       go_simp
       refine hK.out _ _ (trivial) (fun hHeld => ?_)
       clear hK K
       try simp only [Act.put, zq1, zq2, zq3]
       refine wpAnyH_done (by kernel_rfl) ?_ _
       go_wp2
       go_returns
       exact ⟨e1, true, _, rfl, HLE.out, HTO.out, HOT.out, by simp⟩
      ·go_simp
       refine HLEN2.out.mono ?_
       rintro e w9 ⟨rfl, rfl⟩
       refine hK.out _ _ (trivial) (fun hHeld => ?_)
       clear hK K
       try simp only [Act.put, zq1, zq2, zq3]
       refine tk 7 66 (.int .i64 dl) hHeld ?_; simp only [Act.put, zq1, zq2, zq3]
       refine rd 3 fun K hK => ?_
       go_simp
       refine hK.out _ _ (trivial) (fun hHeld => ?_)
       clear hK K
       try simp only [Act.put, zq1, zq2, zq3]
       refine tk 8 67 (.int .i64 U2) hHeld ?_; simp only [Act.put, zq1, zq2, zq3]
       refine tk 9 68 (.pointer (some ⟨h, 0, none⟩)) hHeld ?_; simp only [Act.put, zq1, zq2, zq3]
       refine tk 10 69 (.pointer (some ⟨h, 1, none⟩)) hHeld ?_; simp only [Act.put, zq1, zq2, zq3]
       refine rd 11 fun K hK => ?_
       go_simp
       refine hK.out _ _ (trivial) (fun hHeld => ?_)
       clear hK K
       try simp only [Act.put, zq1, zq2, zq3]
       refine wpAnyH_done (by kernel_rfl) ?_ _
       go_wp2
       go_returns
       exact ⟨e1, true, _, rfl, HLE.out, HTO.out, HOT.out, by simp⟩
     | true =>
      go_wp2
      go_returns
      exact ⟨0, false, s, rfl, .refl _ _, .same HH.out (HW.out.trans (W5.out.mono HW.out.size)), fun _ _ => rfl, rfl⟩
end Go.Proofs.YtilcofpceadpbaaGreatDoor
