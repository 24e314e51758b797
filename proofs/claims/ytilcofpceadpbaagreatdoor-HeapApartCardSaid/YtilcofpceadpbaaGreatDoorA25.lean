/-
 HeapApart: part 25 of what the claim rests on.
-/
import Derived.Test.YtilcofpceadpbaaGreatDoorA20
import Derived.Test.YtilcofpceadpbaaGreatDoorA24
set_option linter.unusedVariables false
set_option linter.unusedSimpArgs false
set_option maxHeartbeats 64000000
namespace Go.Proofs.YtilcofpceadpbaaGreatDoor
open Go.ChangeShapes Go.WideShapes Go.ChangeAt Go.RowKit Go.Maps

theorem rcharge_yes {w : World} {B N h : Nat} {s : HpS} {d : HpD} (H : RpAt w B N h s d) (hr : s.U + 1 ≤ s.L) : Calls Tryz.prog 39 #[.pointer (some ⟨h, 0, none⟩), .int .i64 1] w fun e w' =>
  e = .returned (.bool true) ∧ RpAt w' B N h { s with U := s.U + 1 } d ∧ Fr [h] w w' := by
 refine (rhcharge_any 1 H.blk H.u0 H.u1 H.u2 (by omega)).mono ?_
 rintro e w' (⟨h1, rfl, hb⟩ | ⟨h1, rfl, hh, hf⟩)
 ·omega
 ·refine ⟨rfl, ?_, hf⟩
  have e1 : s.U + max 1 0 = s.U + 1 := by omega
  rw [e1] at hh
  exact H.charged hf hh (by have := H.u0; omega) (by omega)
theorem rcharge_not {w : World} {B N h : Nat} {s : HpS} {d : HpD} (H : RpAt w B N h s d) (hr : ¬ s.U + 1 ≤ s.L) : Calls Tryz.prog 39 #[.pointer (some ⟨h, 0, none⟩), .int .i64 1] w fun e w' =>
  e = .returned (.bool false) ∧ Below w.heap.size w w' := by
 refine (rhcharge_any 1 H.blk H.u0 H.u1 H.u2 (by omega)).mono ?_
 rintro e w' (⟨h1, rfl, hb⟩ | ⟨h1, rfl, hh, hf⟩)
 ·exact ⟨rfl, hb⟩
 ·omega
theorem rtab_cells {w : World} {B rb : Nat} {T : TabS} {fp : List Nat} (h : RTabIn w B rb T fp) : ∃ A c, w.cell? ⟨rb, 1, none⟩ = some (.slice A T.F.length c) ∧ rb < w.heap.size ∧ rb ∈ fp := by
 obtain ⟨⟨fv, sv, rfl, h1, h2, h3⟩, _⟩ := h
 obtain ⟨A, c, rfl, _⟩ := own_form h2
 exact ⟨A, c, cell_of_blk h1 rfl, blk_lt h1, by simp⟩
def RGoP (w : World) (B N h : Nat) (s : HpS) (d : HpD) (n : Nat) (e : Ending) (w' : World) : Prop := ∃ (k : Int) (b : Bool) (s' : HpS), e = .returned (.tuple #[.int .i64 k, .bool b]) ∧ HpLe n s s' ∧ RpTo w B N h s d s' w'
theorem swap_to {w Y w' : World} {B N h : Nat} {s s1 : HpS} {d : HpD} (hT : s1.T = s.T) (hF : s1.F = s.F) (H : RpAt Y B N h s1 d) (hf0 : Fr (d.fp h s.F) w Y) {i p' : Nat} {f' : List Nat} {T' : TabS} (hi : i < s.T.length) (ht : RTabIn w' B p' T' f') (hr : w'.ownsRow B 70 1 (.slice d.A1 s.T.length d.c1) s.T.length (ptrs (d.ps.set i p'))) (hf : Fr (aB d.A1) Y w') (hd : ∀ b ∈ f', b ∉ d.fp h s.F) (hn : ∀ b ∈ f', w.heap.size ≤ b) :
  RpTo w B N h s d { s1 with T := s.T.set i T' } w' := by
 have hr1 : RpAt w' B N h { s1 with T := s1.T.set i T' } { d with ps := d.ps.set i p', fps := d.fps.set i f' } := ref_swap H (by rw [hT]; exact hi) ht (by rw [hT]; exact hr) hf (by rw [hF]; exact hd)
 rw [hT] at hr1
 refine ⟨_, hr1, hf0.trans hf fun x hx => .inl (fp_1 hx), fun b hb => ?_⟩
 rcases fp_cases hb with rfl | hy | hy | hy | ⟨g, hg, hy⟩ | ⟨g, hg, hy⟩
 ·exact .inl (fp_h _ _ _)
 ·exact .inl (fp_1 hy)
 ·exact .inl (fp_2 hy)
 ·exact .inl (fp_3 hy)
 ·rcases List.mem_or_eq_of_mem_set hg with hg | rfl
  ·exact .inl (fp_t hg hy)
  ·exact .inr (hn b hy)
 ·have hg : g ∈ s1.F := hg
  rw [hF] at hg
  exact .inl (fp_f hg hy)
set_option maxRecDepth 100000 in
theorem rput_at {w : World} {B N h : Nat} {s : HpS} {d : HpD} (H : RpAt w B N h s d) {m : Nat} (ok : HpOk m s) (hm : m ≤ 1000) (ctx : Nat) (t k v : VV) (hc : ctx < 18446744073709551616) (kk : VOk k) (kv : VOk v) (ks : k.s.size ≤ 140737488351232) (vs : v.s.size ≤ 140737488351232) :
  Calls Tryz.prog 17 #[.pointer (some ⟨h, 0, none⟩), .int .u64 (ctx : Int), .agg #[.int .i64 t.kind, .int .i64 t.n, .string t.s, .int .u64 (t.label : Int)], .agg #[.int .i64 k.kind, .int .i64 k.n, .string k.s, .int .u64 (k.label : Int)], .agg #[.int .i64 v.kind, .int .i64 v.n, .string v.s, .int .u64 (v.label : Int)]] w (RGoP w B N h s d m) := by
 have HH := Lib.hid H
 have HLT := Lib.hid (fun b (hb : b ∈ d.fp h s.F) => (H.kinds hb).2)
 have HOK := Lib.hid (And.intro ok (And.intro hm (And.intro hc (And.intro kk (And.intro kv (And.intro ks vs))))))
 clear H ok hm hc kk kv ks vs
 obtain ⟨b0, hb0⟩ : ∃ b, b = w.heap.size := ⟨_, rfl⟩
 have HE_b0 := Lib.hid hb0
 obtain ⟨b1, hb1⟩ : ∃ b, b = w.heap.size + 1 := ⟨_, rfl⟩
 have HE_b1 := Lib.hid hb1
 obtain ⟨b2, hb2⟩ : ∃ b, b = w.heap.size + 1 + 1 := ⟨_, rfl⟩
 have HE_b2 := Lib.hid hb2
 clear hb0 hb1 hb2
 go_enter Tryz.func17, Tryz.ntmps17
 go_upto_region 1 with fail
 rw [← HE_b2.out, ← HE_b1.out, ← HE_b0.out]
 refine gen_wp fun W hW => ?_
 have HB_b0 := Lib.hid (show W.heap[b0]? = some (.cells #[.int .i64 t.kind, .int .i64 t.n, .string t.s, .int .u64 (t.label : Int)] 26 (0, 0)) by rw [← hW, HE_b0.out]; exact blk_alloc (blk_alloc (heap_new_at _ _ _ (by first | rfl | simp)) _) _)
 have HB_b1 := Lib.hid (show W.heap[b1]? = some (.cells #[.int .i64 k.kind, .int .i64 k.n, .string k.s, .int .u64 (k.label : Int)] 26 (0, 0)) by rw [← hW, HE_b1.out]; exact blk_alloc (heap_new_at _ _ _ (by first | rfl | simp)) _)
 have HB_b2 := Lib.hid (show W.heap[b2]? = some (.cells #[.int .i64 v.kind, .int .i64 v.n, .string v.s, .int .u64 (v.label : Int)] 26 (0, 0)) by rw [← hW, HE_b2.out]; exact heap_new_at _ _ _ (by first | rfl | simp))
 have HW := Lib.hid (show Below w.heap.size w W by rw [← hW]; exact (((Below.refl _ _).alloc (by simp <;> omega) _).alloc (by simp <;> omega) _).alloc (by simp <;> omega) _)
 clear hW
 have HOF := Lib.hid (rof_at (HH.out.below HW.out) t (by have := HOK.out.1.tl; have := HOK.out.2.1; omega))
 obtain ⟨p0, p1, p2, p3, pf0, pf1, pf2, pf3, pl⟩ := blk_4 HB_b0.out
 rcases hof : ofI s t with _ | i
 ·rw [rofV_none (HH.out.below HW.out) hof] at HOF
  clear hof
  go_wp2_with fail
  refine HOF.out.mono ?_
  rintro e w1 ⟨rfl, hb⟩
  have DW := Lib.hid (HW.out.trans (hb.mono HW.out.size))
  clear hb
  go_wp2
  go_returns
  exact ⟨3, true, s, rfl, .refl _ _, .same HH.out DW.out⟩
 ·obtain ⟨p, f, T, h1, h2, h3, h4, h5, h6, h7⟩ := rofV_some (HH.out.below HW.out) hof
  rw [h5] at HOF
  have HT := Lib.hid (HOK.out.1.tab T (List.mem_of_getElem? h1))
  have HI := Lib.hid (And.intro h1 (And.intro h2 (And.intro h3 (And.intro h6 h7))))
  have HIL := Lib.hid (List.getElem?_eq_some_iff.1 h1).1
  clear hof h1 h2 h3 h4 h5 h6 h7
  go_wp2_with fail
  refine HOF.out.mono ?_
  rintro e w1 ⟨rfl, hb⟩
  have DW := Lib.hid hb
  clear hb p0 pf0 p1 pf1 p2 pf2 p3 pf3 pl
  have HTI := Lib.hid (show ∀ W', Below W.heap.size W W' → RTabIn W' B p T f from fun W' hb => (HH.out.below (HW.out.trans (hb.mono HW.out.size))).tabs i p T f HI.out.2.1 HI.out.1 HI.out.2.2.1)
  have HSZ := Lib.hid (show (T.F.length + T.S.length + 1) * 80 ≤ 140737488355328 by have := HT.out.2.1; have := HT.out.2.2; have := HOK.out.2.1; omega)
  have HTW := Lib.hid (rtwin_any (HTI.out w1 DW.out) HSZ.out)
  obtain ⟨T', hT'⟩ : ∃ T', T' = (doPut T ctx k v).2 := ⟨_, rfl⟩
  obtain ⟨e1, he1⟩ : ∃ e1, e1 = (doPut T ctx k v).1 := ⟨_, rfl⟩
  have HTL := Lib.hid (show T'.F.length ≤ T.F.length + 1 ∧ T'.S = T.S ∧ (TabOk T → TabOk T') ∧ (StrT T → StrT T') by rw [hT']; exact ⟨(doPut_len T ctx k v).1, (doPut_len T ctx k v).2.1, fun o => doPut_ok o HOK.out.2.2.1 HOK.out.2.2.2.1 HOK.out.2.2.2.2.1, fun o => doPut_str o HOK.out.2.2.2.2.2.1 HOK.out.2.2.2.2.2.2⟩)
  have HPUT := Lib.hid (show ∀ W' B' rb fp, RTabIn W' B' rb T fp → Calls Tryz.prog 60 #[.pointer (some ⟨rb, 0, none⟩), .int .u64 (ctx : Int), .agg #[.int .i64 k.kind, .int .i64 k.n, .string k.s, .int .u64 (k.label : Int)], .agg #[.int .i64 v.kind, .int .i64 v.n, .string v.s, .int .u64 (v.label : Int)]] W' (fun e w' => e = .returned (.int .i64 e1) ∧ RTabTo W' B' rb T' fp w') from fun W' B' rb fp hr => by rw [hT', he1]; exact rput_any hr HT.out.1 HOK.out.2.2.1 HOK.out.2.2.2.1 HOK.out.2.2.2.2.1 HSZ.out)
  clear hT' he1
  go_wp2_with fail
  refine HTW.out.mono ?_
  rintro e w2 ⟨rb, fp, rfl, hrt, hb2⟩
  have W2 := Lib.hid (show Below W.heap.size W w2 from DW.out.trans (hb2.mono DW.out.size))
  have HRT := Lib.hid hrt
  have E0 := Lib.hid (below_blk W2.out HB_b0.out)
  have E1 := Lib.hid (below_blk W2.out HB_b1.out)
  have E2 := Lib.hid (below_blk W2.out HB_b2.out)
  clear hb2 hrt
  obtain ⟨x0, x1, x2, x3, xf0, xf1, xf2, xf3, xl⟩ := blk_4 E1.out
  obtain ⟨y0, y1, y2, y3, yf0, yf1, yf2, yf3, yl⟩ := blk_4 E2.out
  go_wp2_with fail
  clear x0 xf0 x1 xf1 x2 xf2 x3 xf3 xl y0 yf0 y1 yf1 y2 yf2 y3 yf3 yl
  refine (HPUT.out _ _ _ _ HRT.out).mono ?_
  rintro e w3 ⟨rfl, f', hr3, hf3, hn3⟩
  have hfpb : ∀ b ∈ fp, W.heap.size ≤ b := fun b hb => Nat.le_trans DW.out.size (HRT.out.base b hb).1
  have hb3 : Below W.heap.size W w3 := W2.out.trans (hf3.to_below W2.out.size hfpb)
  have W3 := Lib.hid hb3
  have W3w := Lib.hid (show Below w.heap.size w w3 from HW.out.trans (hb3.mono HW.out.size))
  have HR3 := Lib.hid (show RTabIn w3 B rb T' f' from rtabIn_low hr3 (Nat.le_trans HH.out.wB (Nat.le_trans HW.out.size DW.out.size)))
  have HFN := Lib.hid (show ∀ b ∈ f', W.heap.size ≤ b from fun b hb => (hn3 b hb).elim (fun e => hfpb b e) fun e => Nat.le_trans W2.out.size e)
  have HNF := Lib.hid (show ∀ b ∈ f', b ∉ d.fp h s.F from fun b hb hm => by have := HLT.out b hm; have := HFN.out b hb; have := HW.out.size; omega)
  have G0 := Lib.hid (below_blk hb3 HB_b0.out)
  obtain ⟨A1, c1, y1, y1l, hrbf⟩ := rtab_cells hr3
  obtain ⟨A0, c0, y0, y0l, hpf⟩ := rtab_cells (HTI.out w3 hb3)
  have HPF := Lib.hid (And.intro hrbf hpf)
  have HY := Lib.hid (And.intro y1 y0)
  obtain ⟨n1, hn1⟩ : ∃ n1 : Nat, n1 = T'.F.length := ⟨_, rfl⟩
  obtain ⟨n0, hn0⟩ : ∃ n0 : Nat, n0 = T.F.length := ⟨_, rfl⟩
  rw [← hn1, ← hn0] at HY
  have HNN := Lib.hid (And.intro hn1 hn0)
  clear hr3 hf3 hn3 hfpb hb3 y1 y1l y0 y0l hn1 hn0 hrbf hpf
  by_cases he : e1 = 0
  case neg =>
   go_wp2
   go_returns
   exact ⟨e1, true, s, rfl, .refl _ _, .same HH.out W3w.out⟩
  have HE1 := Lib.hid he
  subst he
  have HLE := Lib.hid (fun (U' : Int) (hU : s.U ≤ U') => (show HpLe m s { s with U := U', T := s.T.set i T' } from le_put HI.out.1 HTL.out.2.2.1 HTL.out.2.2.2 HTL.out.1 (by rw [HTL.out.2.1]; omega) hU))
  by_cases hgr : n0 < n1
  ·have hgt : (n1 : Int) > (n0 : Int) := by omega
   have HGT := Lib.hid hgt
   clear hgr hgt
   by_cases hroom : s.U + 1 ≤ s.L
   ·have HCH := Lib.hid (rcharge_yes (HH.out.below W3w.out.drew) hroom)
    have HRM := Lib.hid hroom
    clear hroom
    go_wp2_with fail
    refine wp_region_held_drew (S := fun w' => w'.cell? ⟨rb, 1, none⟩ = some (.slice A1 n1 c1) ∧ w'.cell? ⟨p, 1, none⟩ = some (.slice A0 n0 c0)) (by kernel_rfl) (⟨HY.out.1, HY.out.2⟩) (fun hHeld => ?_)
    refine tk 0 30 (.pointer (some ⟨rb, 0, none⟩)) hHeld ?_; simp only [Act.put, zq1, zq2, zq3]
    refine tk 1 31 (.pointer (some ⟨rb, 0, none⟩)) hHeld ?_; simp only [Act.put, zq1, zq2, zq3]
    refine tk 2 32 (.pointer (some ⟨rb, 1, none⟩)) hHeld ?_; simp only [Act.put, zq1, zq2, zq3]
    refine tk 3 33 (.slice A1 n1 c1) hHeld ?_ (hy := Or.inl ⟨by rfl, fun w' hS => (by have q0 := hS.1; go_simp)⟩); simp only [Act.put, zq1, zq2, zq3]
    refine tk 4 34 (.int .i64 n1) hHeld ?_; simp only [Act.put, zq1, zq2, zq3]
    refine tk 5 35 (.pointer (some ⟨p, 0, none⟩)) hHeld ?_; simp only [Act.put, zq1, zq2, zq3]
    refine tk 6 36 (.pointer (some ⟨p, 0, none⟩)) hHeld ?_; simp only [Act.put, zq1, zq2, zq3]
    refine tk 7 37 (.pointer (some ⟨p, 1, none⟩)) hHeld ?_; simp only [Act.put, zq1, zq2, zq3]
    refine tk 8 38 (.slice A0 n0 c0) hHeld ?_ (hy := Or.inl ⟨by rfl, fun w' hS => (by have q0 := hS.2; go_simp)⟩); simp only [Act.put, zq1, zq2, zq3]
    refine tk 9 39 (.int .i64 n0) hHeld ?_; simp only [Act.put, zq1, zq2, zq3]
    refine tk 10 40 (.bool true) hHeld ?_ (hy := Or.inl ⟨by rfl, fun w' hS => (by have hgt := HGT.out; go_simp)⟩); simp only [Act.put, zq1, zq2, zq3]
    refine tk 11 41 (.bool true) hHeld ?_; simp only [Act.put, zq1, zq2, zq3]
    refine tk 12 42 (.pointer (some ⟨h, 0, none⟩)) hHeld ?_; simp only [Act.put, zq1, zq2, zq3]
    refine rd 13 fun K hK => ?_
    go_simp
    refine HCH.out.mono ?_
    rintro e w4 ⟨rfl, hh4, hf4⟩
    have H4 := Lib.hid hh4
    have F4 := Lib.hid (((Fr.refl [h] w3).drew).trans hf4 fun x hx => .inl hx)
    clear hh4 hf4
    have hnh : ∀ b, b ∈ f' ∨ b = b0 → b ∉ [h] := fun b hb hm => by simp at hm; subst hm; rcases hb with hb | hb; exact HNF.out b hb (fp_h _ _ _); have := HLT.out b (fp_h d b s.F); have := HE_b0.out; omega
    have R4 := Lib.hid (HR3.out.kept F4.out fun b hb => hnh b (.inl hb))
    have K0 := Lib.hid (F4.out.blk G0.out (hnh b0 (.inr rfl)))
    clear hnh
    obtain ⟨A4, c4, z4, _, _⟩ := rtab_cells R4.out
    obtain ⟨A5, c5, z5, _, _⟩ := rtab_cells (H4.out.tabs i p T f HI.out.2.1 HI.out.1 HI.out.2.2.1)
    have hS4 : w4.cell? ⟨rb, 1, none⟩ = some (.slice A1 n1 c1) ∧ w4.cell? ⟨p, 1, none⟩ = some (.slice A0 n0 c0) := by
     obtain ⟨_, ho1, hb1⟩ := (show ∃ o, w3.heap[rb]? = some o ∧ w4.heap[rb]? = some o from by
      obtain ⟨⟨fv, sv, _, k1, _⟩, _⟩ := HR3.out
      exact ⟨_, k1, F4.out.blk k1 (by simp; rintro rfl; exact HNF.out rb HPF.out.1 (fp_h _ _ _))⟩)
     obtain ⟨_, ho2, hb2⟩ := (show ∃ o, w3.heap[p]? = some o ∧ w4.heap[p]? = some o from by
      obtain ⟨⟨fv, sv, _, k1, _⟩, _⟩ := (HTI.out w3 W3.out)
      exact ⟨_, k1, F4.out.blk k1 (by simp; rintro rfl; exact kind_ne k1 (HH.out.below W3w.out).blk (by decide) rfl)⟩)
     exact ⟨by have := HY.out.1; simp only [World.cell?] at this ⊢; rw [ho1] at this; rw [hb1]; exact this, by have := HY.out.2; simp only [World.cell?] at this ⊢; rw [ho2] at this; rw [hb2]; exact this⟩
    clear z4 z5
    refine hK.out _ _ (hS4) (fun hHeld => ?_)
    clear hK K
    try simp only [Act.put, zq1, zq2, zq3]
    refine tk 14 44 (.bool false) hHeld ?_; simp only [Act.put, zq1, zq2, zq3]
    refine tk 15 45 (.bool false) hHeld ?_; simp only [Act.put, zq1, zq2, zq3]
    refine wpAnyH_done (by kernel_rfl) ?_ _
    go_upto_region 10 with fail
    refine gen_wp fun Y hY => ?_
    have YA := Lib.hid (show RpAt Y B N h { s with U := s.U + 1 } d by rw [← hY]; exact H4.out)
    have YF := Lib.hid (show Fr (d.fp h s.F) w Y by rw [← hY]; exact (Fr.of_below W3w.out _).trans F4.out fun x hx => .inl (by simp at hx; rw [hx]; exact fp_h _ _ _))
    have YT := Lib.hid (show RTabIn Y B rb T' f' by rw [← hY]; exact R4.out)
    have Y0 := Lib.hid (show Y.heap[b0]? = some (.cells #[.int .i64 t.kind, .int .i64 t.n, .string t.s, .int .u64 (t.label : Int)] 26 (0, 0)) by rw [← hY]; exact K0.out)
    clear hY hS4
    have HLP := Lib.hid (show (ptrs d.ps).length = s.T.length by simp [ptrs, HH.out.lp])
    obtain ⟨A', c', e, _, _, hfm⟩ := own_form YA.out.o1
    injection e with a1 a2 a3
    have a1 : d.A1 = A' := a1
    obtain ⟨gb, e4, _, hlt, ⟨cur, hcur⟩, hcell⟩ := hfm (Nat.lt_of_le_of_lt (Nat.zero_le _) HIL.out)
    have hA1 : d.A1 = some ⟨gb, 0, none⟩ := by rw [a1, e4]
    obtain ⟨x, hx⟩ : ∃ x, (ptrs d.ps)[i]? = some x := ⟨_, List.getElem?_eq_getElem (by rw [HLP.out]; exact HIL.out)⟩
    have z0 : Y.drew.cell? ⟨gb, i, none⟩ = some x := hcell i x hx
    have zf0 : Y.drew.frozen? ⟨gb, i, none⟩ = false := free_of_blk (w := Y.drew) hcur
    have zl : gb < Y.drew.heap.size := hlt
    have z0' : Y.cell? ⟨gb, i, none⟩ = some x := z0
    have zf0' : Y.frozen? ⟨gb, i, none⟩ = false := zf0
    have zl' : gb < Y.heap.size := hlt
    have HA1 := Lib.hid hA1
    have HCUR := Lib.hid hcur
    have HC2 := Lib.hid (show Y.cell? ⟨h, 2, none⟩ = some (.slice (some ⟨gb, 0, none⟩) s.T.length d.c1) by have := (rp_cells YA.out).2.2.1; rw [hA1] at this; exact this)
    have hHB : gb ≠ h := kind_ne hcur YA.out.blk (by decide)
    have hgd : gb ∈ d.fp h s.F := fp_1 (by rw [hA1]; simp [aB])
    have HGN := Lib.hid (show gb ≠ b0 ∧ gb ∉ f' ∧ gb ≠ h from ⟨fun e => by have := HLT.out gb hgd; have := HE_b0.out; omega, fun e => HNF.out gb e hgd, hHB⟩)
    have hi0 : (0 : Int) ≤ (i : Int) := by omega
    have hi1 : (i : Int) < (s.T.length : Int) := by have := HIL.out; omega
    have HIX := Lib.hid (And.intro hi0 hi1)
    have HTN := Lib.hid HI.out.2.2.2.2
    clear hfm a1 a2 a3 hcell hcur hA1 hHB hgd hx e4 hlt
    go_wp2_with fail
    refine wp_region_held_drew (S := fun w' => w'.cell? ⟨h, 2, none⟩ = some (.slice (some ⟨gb, 0, none⟩) s.T.length d.c1) ∧ w'.heap[b0]? = some (.cells #[.int .i64 t.kind, .int .i64 t.n, .string t.s, .int .u64 (t.label : Int)] 26 (0, 0))) (by kernel_rfl) (⟨HC2.out, Y0.out⟩) (fun hHeld => ?_)
    refine tk 0 46 (.pointer (some ⟨h, 0, none⟩)) hHeld ?_; simp only [Act.put, zq1, zq2, zq3]
    refine tk 1 47 (.pointer (some ⟨h, 0, none⟩)) hHeld ?_; simp only [Act.put, zq1, zq2, zq3]
    refine tk 2 48 (.pointer (some ⟨h, 2, none⟩)) hHeld ?_; simp only [Act.put, zq1, zq2, zq3]
    refine tk 3 49 (.slice (some ⟨gb, 0, none⟩) s.T.length d.c1) hHeld ?_ (hy := Or.inl ⟨by rfl, fun w' hS => (by have q0 := hS.1; go_simp)⟩); simp only [Act.put, zq1, zq2, zq3]
    refine tk 4 50 (.pointer (some ⟨b0, 1, none⟩)) hHeld ?_; simp only [Act.put, zq1, zq2, zq3]
    refine tk 5 51 (.int .i64 (i : Int)) hHeld ?_ (hy := Or.inl ⟨by rfl, fun w' hS => (by have q1 := cell_of_blk (i := 1) (v := .int .i64 t.n) hS.2 rfl; rw [HTN.out] at q1; go_simp)⟩); simp only [Act.put, zq1, zq2, zq3]
    refine tk 6 52 (.pointer (some ⟨rb, 0, none⟩)) hHeld ?_; simp only [Act.put, zq1, zq2, zq3]
    refine tk 7 53 (.pointer (some ⟨gb, i, none⟩)) hHeld ?_; simp only [Act.put, zq1, zq2, zq3]
    refine rd 8 fun K hK => ?_
    go_simp
    refine hK.out _ _ (⟨by have := cell_of_blk (i := 2) (blk_far (a := ⟨gb, i, none⟩) (w := Y.drew) YA.out.blk HGN.out.2.2.symm (.pointer (some ⟨rb, 0, none⟩))) rfl; rw [HA1.out] at this; exact this, blk_far (a := ⟨gb, i, none⟩) (w := Y.drew) Y0.out HGN.out.1.symm (.pointer (some ⟨rb, 0, none⟩))⟩) (fun hHeld => ?_)
    clear hK K
    try simp only [Act.put, zq1, zq2, zq3]
    refine wpAnyH_done (by kernel_rfl) ?_ _
    go_wp2
    go_returns
    refine ⟨0, true, _, rfl, HLE.out (s.U + 1) (by omega), ?_⟩
    have hset : Fr (aB d.A1) Y (Y.drew.setCell ⟨gb, i, none⟩ (.pointer (some ⟨rb, 0, none⟩))) := ((Fr.refl _ Y).drew).set _ (.inl (by rw [HA1.out]; simp [aB]))
    refine swap_to (s1 := { s with U := s.U + 1 }) rfl rfl YA.out YF.out HIL.out (YT.out.kept hset fun b hb hm => ?_) ?_ hset HNF.out (fun b hb => Nat.le_trans HW.out.size (HFN.out b hb))
    ·rw [HA1.out] at hm
     simp [aB] at hm
     subst hm
     exact HGN.out.2.1 hb
    ·have ho := below_own (Below.refl Y.heap.size Y).drew YA.out.o1
     rw [HA1.out] at ho
     have ho := own_put ho i (.pointer (some ⟨rb, 0, none⟩))
     rw [HA1.out]
     have ep : (ptrs d.ps).set i (.pointer (some ⟨rb, 0, none⟩)) = ptrs (d.ps.set i rb) := by simp [ptrs, List.map_set]
     rw [← ep]
     exact ho
   ·have HCH := Lib.hid (rcharge_not (HH.out.below W3w.out.drew) hroom)
    clear hroom
    go_wp2_with fail
    refine wp_region_held_drew (S := fun w' => w'.cell? ⟨rb, 1, none⟩ = some (.slice A1 n1 c1) ∧ w'.cell? ⟨p, 1, none⟩ = some (.slice A0 n0 c0)) (by kernel_rfl) (⟨HY.out.1, HY.out.2⟩) (fun hHeld => ?_)
    refine tk 0 30 (.pointer (some ⟨rb, 0, none⟩)) hHeld ?_; simp only [Act.put, zq1, zq2, zq3]
    refine tk 1 31 (.pointer (some ⟨rb, 0, none⟩)) hHeld ?_; simp only [Act.put, zq1, zq2, zq3]
    refine tk 2 32 (.pointer (some ⟨rb, 1, none⟩)) hHeld ?_; simp only [Act.put, zq1, zq2, zq3]
    refine tk 3 33 (.slice A1 n1 c1) hHeld ?_ (hy := Or.inl ⟨by rfl, fun w' hS => (by have q0 := hS.1; go_simp)⟩); simp only [Act.put, zq1, zq2, zq3]
    refine tk 4 34 (.int .i64 n1) hHeld ?_; simp only [Act.put, zq1, zq2, zq3]
    refine tk 5 35 (.pointer (some ⟨p, 0, none⟩)) hHeld ?_; simp only [Act.put, zq1, zq2, zq3]
    refine tk 6 36 (.pointer (some ⟨p, 0, none⟩)) hHeld ?_; simp only [Act.put, zq1, zq2, zq3]
    refine tk 7 37 (.pointer (some ⟨p, 1, none⟩)) hHeld ?_; simp only [Act.put, zq1, zq2, zq3]
    refine tk 8 38 (.slice A0 n0 c0) hHeld ?_ (hy := Or.inl ⟨by rfl, fun w' hS => (by have q0 := hS.2; go_simp)⟩); simp only [Act.put, zq1, zq2, zq3]
    refine tk 9 39 (.int .i64 n0) hHeld ?_; simp only [Act.put, zq1, zq2, zq3]
    refine tk 10 40 (.bool true) hHeld ?_ (hy := Or.inl ⟨by rfl, fun w' hS => (by have hgt := HGT.out; go_simp)⟩); simp only [Act.put, zq1, zq2, zq3]
    refine tk 11 41 (.bool true) hHeld ?_; simp only [Act.put, zq1, zq2, zq3]
    refine tk 12 42 (.pointer (some ⟨h, 0, none⟩)) hHeld ?_; simp only [Act.put, zq1, zq2, zq3]
    refine rd 13 fun K hK => ?_
    go_simp
    refine HCH.out.mono ?_
    rintro e w4 ⟨rfl, hb4⟩
    have W4 := Lib.hid (show Below w.heap.size w w4 from (W3w.out.drew).trans (hb4.mono W3w.out.size))
    have hc4 := fun (a : Addr) (v : Value) (hv : w3.cell? a = some v) => (show w4.cell? a = some v from (hb4.cell (by have := cell_lt hv; exact this)).trans hv)
    refine hK.out _ _ (⟨hc4 _ _ HY.out.1, hc4 _ _ HY.out.2⟩) (fun hHeld => ?_)
    clear hK K
    try simp only [Act.put, zq1, zq2, zq3]
    refine tk 14 44 (.bool true) hHeld ?_; simp only [Act.put, zq1, zq2, zq3]
    refine tk 15 45 (.bool true) hHeld ?_; simp only [Act.put, zq1, zq2, zq3]
    refine wpAnyH_done (by kernel_rfl) ?_ _
    go_wp2
    go_returns
    exact ⟨0, false, s, rfl, .refl _ _, .same HH.out W4.out⟩
  ·have hgt : ¬ ((n1 : Int) > (n0 : Int)) := by omega
   have hle : n1 ≤ n0 := by omega
   have HGT := Lib.hid (And.intro hgt hle)
   clear hgr hgt hle
   go_wp2_with fail
   refine wp_region_held_drew (S := fun w' => w'.cell? ⟨rb, 1, none⟩ = some (.slice A1 n1 c1) ∧ w'.cell? ⟨p, 1, none⟩ = some (.slice A0 n0 c0)) (by kernel_rfl) (⟨HY.out.1, HY.out.2⟩) (fun hHeld => ?_)
   refine tk 0 30 (.pointer (some ⟨rb, 0, none⟩)) hHeld ?_; simp only [Act.put, zq1, zq2, zq3]
   refine tk 1 31 (.pointer (some ⟨rb, 0, none⟩)) hHeld ?_; simp only [Act.put, zq1, zq2, zq3]
   refine tk 2 32 (.pointer (some ⟨rb, 1, none⟩)) hHeld ?_; simp only [Act.put, zq1, zq2, zq3]
   refine tk 3 33 (.slice A1 n1 c1) hHeld ?_ (hy := Or.inl ⟨by rfl, fun w' hS => (by have q0 := hS.1; go_simp)⟩); simp only [Act.put, zq1, zq2, zq3]
   refine tk 4 34 (.int .i64 n1) hHeld ?_; simp only [Act.put, zq1, zq2, zq3]
   refine tk 5 35 (.pointer (some ⟨p, 0, none⟩)) hHeld ?_; simp only [Act.put, zq1, zq2, zq3]
   refine tk 6 36 (.pointer (some ⟨p, 0, none⟩)) hHeld ?_; simp only [Act.put, zq1, zq2, zq3]
   refine tk 7 37 (.pointer (some ⟨p, 1, none⟩)) hHeld ?_; simp only [Act.put, zq1, zq2, zq3]
   refine tk 8 38 (.slice A0 n0 c0) hHeld ?_ (hy := Or.inl ⟨by rfl, fun w' hS => (by have q0 := hS.2; go_simp)⟩); simp only [Act.put, zq1, zq2, zq3]
   refine tk 9 39 (.int .i64 n0) hHeld ?_; simp only [Act.put, zq1, zq2, zq3]
   refine tk 10 40 (.bool false) hHeld ?_ (hy := Or.inl ⟨by rfl, fun w' hS => (by have hgt := HGT.out.1; have hle := HGT.out.2; go_simp)⟩); simp only [Act.put, zq1, zq2, zq3]
   refine tk 11 41 (.bool false) hHeld ?_; simp only [Act.put, zq1, zq2, zq3]
   refine tu 12 42 hHeld ?_; simp only [Act.put, zq1, zq2, zq3]
   refine tu 13 43 hHeld ?_; simp only [Act.put, zq1, zq2, zq3]
   refine tu 14 44 hHeld ?_; simp only [Act.put, zq1, zq2, zq3]
   refine tk 15 45 (.bool false) hHeld ?_; simp only [Act.put, zq1, zq2, zq3]
   refine wpAnyH_done (by kernel_rfl) ?_ _
   go_upto_region 10 with fail
   refine gen_wp fun Y hY => ?_
   have YA := Lib.hid (show RpAt Y B N h { s with U := s.U } d by rw [← hY]; exact HH.out.below W3w.out.drew)
   have YF := Lib.hid (show Fr (d.fp h s.F) w Y by rw [← hY]; exact Fr.of_below W3w.out.drew _)
   have YT := Lib.hid (show RTabIn Y B rb T' f' by rw [← hY]; exact HR3.out.kept ((Fr.refl [] w3).drew) (by simp))
   have Y0 := Lib.hid (show Y.heap[b0]? = some (.cells #[.int .i64 t.kind, .int .i64 t.n, .string t.s, .int .u64 (t.label : Int)] 26 (0, 0)) by rw [← hY]; exact G0.out)
   clear hY
   have HLP := Lib.hid (show (ptrs d.ps).length = s.T.length by simp [ptrs, HH.out.lp])
   obtain ⟨A', c', e, _, _, hfm⟩ := own_form YA.out.o1
   injection e with a1 a2 a3
   have a1 : d.A1 = A' := a1
   obtain ⟨gb, e4, _, hlt, ⟨cur, hcur⟩, hcell⟩ := hfm (Nat.lt_of_le_of_lt (Nat.zero_le _) HIL.out)
   have hA1 : d.A1 = some ⟨gb, 0, none⟩ := by rw [a1, e4]
   obtain ⟨x, hx⟩ : ∃ x, (ptrs d.ps)[i]? = some x := ⟨_, List.getElem?_eq_getElem (by rw [HLP.out]; exact HIL.out)⟩
   have z0 : Y.drew.cell? ⟨gb, i, none⟩ = some x := hcell i x hx
   have zf0 : Y.drew.frozen? ⟨gb, i, none⟩ = false := free_of_blk (w := Y.drew) hcur
   have zl : gb < Y.drew.heap.size := hlt
   have z0' : Y.cell? ⟨gb, i, none⟩ = some x := z0
   have zf0' : Y.frozen? ⟨gb, i, none⟩ = false := zf0
   have zl' : gb < Y.heap.size := hlt
   have HA1 := Lib.hid hA1
   have HCUR := Lib.hid hcur
   have HC2 := Lib.hid (show Y.cell? ⟨h, 2, none⟩ = some (.slice (some ⟨gb, 0, none⟩) s.T.length d.c1) by have := (rp_cells YA.out).2.2.1; rw [hA1] at this; exact this)
   have hHB : gb ≠ h := kind_ne hcur YA.out.blk (by decide)
   have hgd : gb ∈ d.fp h s.F := fp_1 (by rw [hA1]; simp [aB])
   have HGN := Lib.hid (show gb ≠ b0 ∧ gb ∉ f' ∧ gb ≠ h from ⟨fun e => by have := HLT.out gb hgd; have := HE_b0.out; omega, fun e => HNF.out gb e hgd, hHB⟩)
   have hi0 : (0 : Int) ≤ (i : Int) := by omega
   have hi1 : (i : Int) < (s.T.length : Int) := by have := HIL.out; omega
   have HIX := Lib.hid (And.intro hi0 hi1)
   have HTN := Lib.hid HI.out.2.2.2.2
   clear hfm a1 a2 a3 hcell hcur hA1 hHB hgd hx e4 hlt
   go_wp2_with fail
   refine wp_region_held_drew (S := fun w' => w'.cell? ⟨h, 2, none⟩ = some (.slice (some ⟨gb, 0, none⟩) s.T.length d.c1) ∧ w'.heap[b0]? = some (.cells #[.int .i64 t.kind, .int .i64 t.n, .string t.s, .int .u64 (t.label : Int)] 26 (0, 0))) (by kernel_rfl) (⟨HC2.out, Y0.out⟩) (fun hHeld => ?_)
   refine tk 0 46 (.pointer (some ⟨h, 0, none⟩)) hHeld ?_; simp only [Act.put, zq1, zq2, zq3]
   refine tk 1 47 (.pointer (some ⟨h, 0, none⟩)) hHeld ?_; simp only [Act.put, zq1, zq2, zq3]
   refine tk 2 48 (.pointer (some ⟨h, 2, none⟩)) hHeld ?_; simp only [Act.put, zq1, zq2, zq3]
   refine tk 3 49 (.slice (some ⟨gb, 0, none⟩) s.T.length d.c1) hHeld ?_ (hy := Or.inl ⟨by rfl, fun w' hS => (by have q0 := hS.1; go_simp)⟩); simp only [Act.put, zq1, zq2, zq3]
   refine tk 4 50 (.pointer (some ⟨b0, 1, none⟩)) hHeld ?_; simp only [Act.put, zq1, zq2, zq3]
   refine tk 5 51 (.int .i64 (i : Int)) hHeld ?_ (hy := Or.inl ⟨by rfl, fun w' hS => (by have q1 := cell_of_blk (i := 1) (v := .int .i64 t.n) hS.2 rfl; rw [HTN.out] at q1; go_simp)⟩); simp only [Act.put, zq1, zq2, zq3]
   refine tk 6 52 (.pointer (some ⟨rb, 0, none⟩)) hHeld ?_; simp only [Act.put, zq1, zq2, zq3]
   refine tk 7 53 (.pointer (some ⟨gb, i, none⟩)) hHeld ?_; simp only [Act.put, zq1, zq2, zq3]
   refine rd 8 fun K hK => ?_
   go_simp
   refine hK.out _ _ (⟨by have := cell_of_blk (i := 2) (blk_far (a := ⟨gb, i, none⟩) (w := Y.drew) YA.out.blk HGN.out.2.2.symm (.pointer (some ⟨rb, 0, none⟩))) rfl; rw [HA1.out] at this; exact this, blk_far (a := ⟨gb, i, none⟩) (w := Y.drew) Y0.out HGN.out.1.symm (.pointer (some ⟨rb, 0, none⟩))⟩) (fun hHeld => ?_)
   clear hK K
   try simp only [Act.put, zq1, zq2, zq3]
   refine wpAnyH_done (by kernel_rfl) ?_ _
   go_wp2
   go_returns
   refine ⟨0, true, _, rfl, HLE.out (s.U) (by omega), ?_⟩
   have hset : Fr (aB d.A1) Y (Y.drew.setCell ⟨gb, i, none⟩ (.pointer (some ⟨rb, 0, none⟩))) := ((Fr.refl _ Y).drew).set _ (.inl (by rw [HA1.out]; simp [aB]))
   refine swap_to (s1 := { s with U := s.U }) rfl rfl YA.out YF.out HIL.out (YT.out.kept hset fun b hb hm => ?_) ?_ hset HNF.out (fun b hb => Nat.le_trans HW.out.size (HFN.out b hb))
   ·rw [HA1.out] at hm
    simp [aB] at hm
    subst hm
    exact HGN.out.2.1 hb
   ·have ho := below_own (Below.refl Y.heap.size Y).drew YA.out.o1
    rw [HA1.out] at ho
    have ho := own_put ho i (.pointer (some ⟨rb, 0, none⟩))
    rw [HA1.out]
    have ep : (ptrs d.ps).set i (.pointer (some ⟨rb, 0, none⟩)) = ptrs (d.ps.set i rb) := by simp [ptrs, List.map_set]
    rw [← ep]
    exact ho
end Go.Proofs.YtilcofpceadpbaaGreatDoor
