/-
 HeapApart: part 36 of what the claim rests on.
-/
import Derived.Test.YtilcofpceadpbaaGreatDoorA22
import Derived.Test.YtilcofpceadpbaaGreatDoorA26
import Derived.Test.YtilcofpceadpbaaGreatDoorA28
set_option linter.unusedVariables false
set_option linter.unusedSimpArgs false
set_option maxHeartbeats 64000000
namespace Go.Proofs.YtilcofpceadpbaaGreatDoor
open Go.ChangeShapes Go.WideShapes Go.ChangeAt Go.RowKit Go.Maps

def RGoC (w : World) (B N h : Nat) (s : HpS) (d : HpD) (n : Nat) (e : Ending) (w' : World) : Prop := ∃ (x : VV) (is room : Bool) (s' : HpS), e = .returned (.tuple #[.agg #[.int .i64 x.kind, .int .i64 x.n, .string x.s, .int .u64 (x.label : Int)], .bool is, .bool room]) ∧ HpLe n s s' ∧ RpTo w B N h s d s' w' ∧ SameF s s'
set_option maxRecDepth 100000 in
theorem rcast_at {w : World} {B N h : Nat} {s : HpS} {d : HpD} (H : RpAt w B N h s d) {m : Nat} (ok : HpOk m s) (hm : m ≤ 1000) (v : VV) (t : LTy) (c : Int) (ht : LIn w N t) (hst : (stampsL (strip t)).length ≤ 1000) :
  Calls Tryz.prog 37 #[.pointer (some ⟨h, 0, none⟩), .agg #[.int .i64 v.kind, .int .i64 v.n, .string v.s, .int .u64 (v.label : Int)], .agg #[.int .i64 t.kind, .slice t.A t.ns.length t.c, .slice t.A2 t.xs.length t.c2], .int .i64 c] w (RGoC w B N h s d m) := by
 have HH := Lib.hid H
 have HLT := Lib.hid (fun b (hb : b ∈ d.fp h s.F) => (H.kinds hb).2)
 have HOK := Lib.hid (And.intro ok (And.intro hm hst))
 have HNW := Lib.hid (Nat.le_trans H.nB H.wB)
 have HTY := Lib.hid (fun W' (hb : Below w.heap.size w W') => (ht.stay (hb.mono HNW.out)).more (Nat.le_trans HNW.out hb.size))
 have HTN := Lib.hid ht
 obtain ⟨mb, hmb⟩ : ∃ mb, mb = tb (May (strip t)) := ⟨_, rfl⟩
 have HK := Lib.hid (fun w' (hb : Below w.heap.size w w') => show Calls Tryz.prog 74 #[.agg #[.int .i64 t.kind, .slice t.A t.ns.length t.c, .slice t.A2 t.xs.length t.c2]] w' (RetB (.bool mb) w') from by
  rw [hmb]
  exact trcheck_any t w' (HTY.out w' hb))
 obtain ⟨kk, hkk⟩ : ∃ kk : Nat, kk = kindsV (strip t) := ⟨_, rfl⟩
 have HKN := Lib.hid (fun w' (hb : Below w.heap.size w w') => show Calls Tryz.prog 77 #[.agg #[.int .i64 t.kind, .slice t.A t.ns.length t.c, .slice t.A2 t.xs.length t.c2]] w' (RetB (.int .i64 (kk : Int)) w') from by
  rw [hkk]
  exact rkinds_any t w' (HTY.out w' hb))
 clear H ok hm hst ht hmb hkk
 obtain ⟨b0, hb0⟩ : ∃ b, b = w.heap.size := ⟨_, rfl⟩
 have HE_b0 := Lib.hid hb0
 obtain ⟨b1, hb1⟩ : ∃ b, b = w.heap.size + 1 := ⟨_, rfl⟩
 have HE_b1 := Lib.hid hb1
 obtain ⟨b2, hb2⟩ : ∃ b, b = w.heap.size + 1 + 1 := ⟨_, rfl⟩
 have HE_b2 := Lib.hid hb2
 clear hb0 hb1 hb2
 go_enter Tryz.func37, Tryz.ntmps37
 go_upto_region 1 with fail
 rw [← HE_b2.out, ← HE_b1.out, ← HE_b0.out]
 refine gen_wp fun W hW => ?_
 have HB_b0 := Lib.hid (show W.heap[b0]? = some (.cells #[.int .i64 v.kind, .int .i64 v.n, .string v.s, .int .u64 (v.label : Int)] 26 (0, 0)) by rw [← hW, HE_b0.out]; exact blk_alloc (blk_alloc (heap_new_at _ _ _ (by first | rfl | simp)) _) _)
 have HB_b1 := Lib.hid (show W.heap[b1]? = some (.cells #[.int .i64 t.kind, .slice t.A t.ns.length t.c, .slice t.A2 t.xs.length t.c2] 31 (0, 0)) by rw [← hW, HE_b1.out]; exact blk_alloc (heap_new_at _ _ _ (by first | rfl | simp)) _)
 have HB_b2 := Lib.hid (show W.heap[b2]? = some (.cells #[.int .i64 0, .int .i64 0, .string ⟨#[]⟩, .int .u64 0] 26 (0, 0)) by rw [← hW, HE_b2.out]; exact heap_new_at _ _ _ (by first | rfl | simp))
 have HW := Lib.hid (show Below w.heap.size w W by rw [← hW]; exact (((Below.refl _ _).alloc (by simp <;> omega) _).alloc (by simp <;> omega) _).alloc (by simp <;> omega) _)
 clear hW
 have HB2W := Lib.hid (show w.heap.size ≤ b2 by have := HE_b2.out; omega)
 obtain ⟨p0, p1, p2, pf0, pf1, pf2, pl⟩ := blk_3 HB_b1.out
 go_wp2_with fail
 refine (HK.out _ HW.out).mono ?_
 rintro e w1 ⟨rfl, hb⟩
 have D0 := Lib.hid (below_blk hb HB_b0.out)
 have D1 := Lib.hid (below_blk hb HB_b1.out)
 have D2 := Lib.hid (below_blk hb HB_b2.out)
 have DW := Lib.hid (HW.out.trans (hb.mono HW.out.size))
 clear hb p0 pf0 p1 pf1 p2 pf2 pl
 obtain ⟨x0, x1, x2, x3, xf0, xf1, xf2, xf3, xl⟩ := blk_4 D0.out
 obtain ⟨y0, y1, y2, yf0, yf1, yf2, yl⟩ := blk_3 D1.out
 obtain ⟨z0, z1, z2, z3, zf0, zf1, zf2, zf3, zl⟩ := blk_4 D2.out
 cases mb with
 | false =>
  clear y0 yf0 y1 yf1 y2 yf2 yl x0 xf0 x1 xf1 x2 xf2 x3 xf3 xl
  go_wp2
  obtain ⟨j0, j1, j2, j3⟩ := four D2.out rfl (.int .i64 0) (.int .i64 0) (.string ⟨#[]⟩) (.int .u64 0)
  refine bodyPost_ret (v := .tuple #[.agg #[.int .i64 0, .int .i64 0, .string ⟨#[]⟩, .int .u64 0], .bool false, .bool true]) (by simp [results, Tryz.results37, go_sem, j0, j1, j2, j3]) rfl ?_
  exact ⟨⟨0, 0, ⟨#[]⟩, 0⟩, false, true, s, rfl, .refl _ _, .same HH.out (Below.setCell (p := ⟨b2, 3, none⟩) (Below.setCell (p := ⟨b2, 2, none⟩) (Below.setCell (p := ⟨b2, 1, none⟩) (Below.setCell (p := ⟨b2, 0, none⟩) DW.out HB2W.out (.int .i64 0)) HB2W.out (.int .i64 0)) HB2W.out (.string ⟨#[]⟩)) HB2W.out (.int .u64 0)), rfl⟩
 | true =>
  by_cases h8 : t.kind = 8
  ·have e8 : (t.kind == 8) = true := beq_iff_eq.2 h8
   clear h8
   have HSTM := Lib.hid (fun W' (hb : Below w.heap.size w W') => show Calls Tryz.prog 76 #[.agg #[.int .i64 t.kind, .slice t.A t.ns.length t.c, .slice t.A2 t.xs.length t.c2]] W' (StampsOut (strip t) W') from rstamps_shape t W' (HTY.out W' hb))
   rcases hof : ofI s v with _ | i
   ·have HOF := Lib.hid (fun W' (hb : Below w.heap.size w W') => show Calls Tryz.prog 18 #[.pointer (some ⟨h, 0, none⟩), .agg #[.int .i64 v.kind, .int .i64 v.n, .string v.s, .int .u64 (v.label : Int)]] W' (RetB (.pointer none) W') from by
     have := rof_at (HH.out.below hb) v (by have := HOK.out.1.tl; have := HOK.out.2.1; omega)
     rw [rofV_none (HH.out.below hb) hof] at this
     exact this)
    clear hof
    go_wp2_with fail
    clear e8 x0 xf0 x1 xf1 x2 xf2 x3 xf3 xl y0 yf0 y1 yf1 y2 yf2 yl z0 zf0 z1 zf1 z2 zf2 z3 zf3 zl
    refine (HOF.out _ DW.out).mono ?_
    rintro e w2 ⟨rfl, hb2⟩
    have W2 := Lib.hid (show Below w.heap.size w w2 from DW.out.trans (hb2.mono DW.out.size))
    have E2 := Lib.hid (below_blk hb2 D2.out)
    clear hb2
    obtain ⟨z0, z1, z2, z3, zf0, zf1, zf2, zf3, zl⟩ := blk_4 E2.out
    go_wp2
    obtain ⟨j0, j1, j2, j3⟩ := four E2.out rfl (.int .i64 0) (.int .i64 0) (.string ⟨#[]⟩) (.int .u64 0)
    refine bodyPost_ret (v := .tuple #[.agg #[.int .i64 0, .int .i64 0, .string ⟨#[]⟩, .int .u64 0], .bool false, .bool true]) (by simp [results, Tryz.results37, go_sem, j0, j1, j2, j3]) rfl ?_
    exact ⟨⟨0, 0, ⟨#[]⟩, 0⟩, false, true, s, rfl, .refl _ _, .same HH.out (Below.setCell (p := ⟨b2, 3, none⟩) (Below.setCell (p := ⟨b2, 2, none⟩) (Below.setCell (p := ⟨b2, 1, none⟩) (Below.setCell (p := ⟨b2, 0, none⟩) W2.out HB2W.out (.int .i64 0)) HB2W.out (.int .i64 0)) HB2W.out (.string ⟨#[]⟩)) HB2W.out (.int .u64 0)), rfl⟩
   ·obtain ⟨p, f, T, i1, i2, i3, i4, i5, i6, i7⟩ := rofV_some HH.out hof
    have HOF := Lib.hid (fun W' (hb : Below w.heap.size w W') => show Calls Tryz.prog 18 #[.pointer (some ⟨h, 0, none⟩), .agg #[.int .i64 v.kind, .int .i64 v.n, .string v.s, .int .u64 (v.label : Int)]] W' (RetB (.pointer (some ⟨p, 0, none⟩)) W') from by
     have := rof_at (HH.out.below hb) v (by have := HOK.out.1.tl; have := HOK.out.2.1; omega)
     rw [i5] at this
     exact this)
    have HI := Lib.hid (And.intro i1 (And.intro i2 i3))
    have HTI := Lib.hid (fun W' (hb : Below w.heap.size w W') => (show RTabIn W' B p T f from (HH.out.below hb).tabs i p T f i2 i1 i3))
    have HT := Lib.hid (HOK.out.1.tab T (List.mem_of_getElem? i1))
    obtain ⟨T', hT'⟩ : ∃ T', T' = (doStamp T (castL t)).2 := ⟨_, rfl⟩
    obtain ⟨ds, hds⟩ : ∃ ds, ds = (doStamp T (castL t)).1 := ⟨_, rfl⟩
    have HDL := Lib.hid (show T'.F = T.F ∧ T'.S.length ≤ T.S.length + 1000 ∧ (TabOk T → TabOk T') by
     rw [hT']
     refine ⟨(doStamp_len T (castL t)).1, Nat.le_trans (doStamp_len T (castL t)).2.1 ?_, fun o => doStamp_ok o (castL_ok HTN.out)⟩
     have := HOK.out.2.2
     rw [castL_len]
     omega)
    have HSTP := Lib.hid (fun W' (hb : Below w.heap.size w W') (A : Option Addr) (cc : Nat) (hr : Reads W' W'.heap.size A ((stampsL (strip t)).flatMap spEnc)) => show Calls Tryz.prog 75 #[.pointer (some ⟨p, 0, none⟩), .slice A (stampsL (strip t)).length cc] W' (fun e w' => e = .returned (.bool ds) ∧ RTabTo W' B p T' f w') from by
     have := rstamp_any (HTI.out W' hb) HT.out.1 (castL t) A cc (by rw [castL_enc]; exact hr) (castL_ok HTN.out) (by rw [castL_len]; have := HT.out.2.2; have := HOK.out.2.1; have := HOK.out.2.2; omega) (by have := HT.out.2.1; have := HOK.out.2.1; omega)
     rw [castL_len] at this
     rw [hT', hds]
     exact this)
    clear hof i1 i2 i3 i4 i5 i6 i7 hT' hds
    go_wp2_with fail
    clear e8 x0 xf0 x1 xf1 x2 xf2 x3 xf3 xl y0 yf0 y1 yf1 y2 yf2 yl z0 zf0 z1 zf1 z2 zf2 z3 zf3 zl
    refine (HOF.out _ DW.out).mono ?_
    rintro e w2 ⟨rfl, hb2⟩
    have W2 := Lib.hid (show Below w.heap.size w w2 from DW.out.trans (hb2.mono DW.out.size))
    have E0 := Lib.hid (below_blk hb2 D0.out)
    have E1 := Lib.hid (below_blk hb2 D1.out)
    have E2 := Lib.hid (below_blk hb2 D2.out)
    clear hb2
    obtain ⟨y0, y1, y2, yf0, yf1, yf2, yl⟩ := blk_3 E1.out
    go_wp2_with fail
    clear y0 yf0 y1 yf1 y2 yf2 yl
    refine (HSTM.out _ W2.out).mono ?_
    rintro e w3 ⟨A3, c3, rfl, hr3, hc3, hb3⟩
    have W3 := Lib.hid (show Below w.heap.size w w3 from W2.out.trans (hb3.mono W2.out.size))
    have G0 := Lib.hid (below_blk hb3 E0.out)
    have G2 := Lib.hid (below_blk hb3 E2.out)
    have HR3 := Lib.hid hr3
    clear hb3 hr3 hc3
    go_wp2_with fail
    refine (HSTP.out _ W3.out A3 c3 HR3.out).mono ?_
    rintro e w4 ⟨rfl, f', ht4, hf4, hn4⟩
    have hno : ∀ b, w.heap.size ≤ b → b ∉ f := fun b hb hm => by have := HLT.out b (fp_t (List.mem_of_getElem? HI.out.2.2) hm); omega
    have K0 := Lib.hid (hf4.blk G0.out (hno _ (by have := HE_b0.out; omega)))
    have K2 := Lib.hid (hf4.blk G2.out (hno _ HB2W.out))
    have HTO := Lib.hid ((HH.out.below W3.out).turnT (List.getElem?_eq_some_iff.1 HI.out.1).1 HI.out.2.1 HI.out.2.2 ht4 hf4 hn4)
    clear ht4 hf4 hn4 hno
    cases ds with
    | false =>
     obtain ⟨z0, z1, z2, z3, zf0, zf1, zf2, zf3, zl⟩ := blk_4 K2.out
     go_wp2
     obtain ⟨j0, j1, j2, j3⟩ := four K2.out rfl (.int .i64 0) (.int .i64 0) (.string ⟨#[]⟩) (.int .u64 0)
     refine bodyPost_ret (v := .tuple #[.agg #[.int .i64 0, .int .i64 0, .string ⟨#[]⟩, .int .u64 0], .bool false, .bool true]) (by simp [results, Tryz.results37, go_sem, j0, j1, j2, j3]) rfl ?_
     exact ⟨⟨0, 0, ⟨#[]⟩, 0⟩, false, true, { s with T := s.T.set i T' }, rfl, le_stamp HI.out.1 HDL.out.2.2 HDL.out.1 HDL.out.2.1, RpTo.wrap (R := [b2]) (HH.out.below W3.out) W3.out HLT.out HTO.out (fr_sets _ _ _ _) (fun x hx => by simp at hx; subst hx; exact ⟨HB2W.out, blk_lt G2.out⟩), sameF_set HI.out.1 HDL.out.1⟩
    | true =>
     obtain ⟨x0, x1, x2, x3, xf0, xf1, xf2, xf3, xl⟩ := blk_4 K0.out
     obtain ⟨z0, z1, z2, z3, zf0, zf1, zf2, zf3, zl⟩ := blk_4 K2.out
     go_wp2
     obtain ⟨j0, j1, j2, j3⟩ := four K2.out rfl (.int .i64 v.kind) (.int .i64 v.n) (.string v.s) (.int .u64 (v.label : Int))
     refine bodyPost_ret (v := .tuple #[.agg #[.int .i64 v.kind, .int .i64 v.n, .string v.s, .int .u64 (v.label : Int)], .bool true, .bool true]) (by simp [results, Tryz.results37, go_sem, j0, j1, j2, j3]) rfl ?_
     exact ⟨v, true, true, { s with T := s.T.set i T' }, rfl, le_stamp HI.out.1 HDL.out.2.2 HDL.out.1 HDL.out.2.1, RpTo.wrap (R := [b2]) (HH.out.below W3.out) W3.out HLT.out HTO.out (fr_sets _ _ _ _) (fun x hx => by simp at hx; subst hx; exact ⟨HB2W.out, blk_lt G2.out⟩), sameF_set HI.out.1 HDL.out.1⟩
  have e8 : (t.kind == 8) = false := beq_eq_false_iff_ne.2 h8
  clear h8
  by_cases h9 : t.kind = 9
  ·have e9 : (t.kind == 9) = true := beq_iff_eq.2 h9
   clear h9
   rcases hfi : fnI s v with _ | f
   ·have HCN := Lib.hid (rfn_none (HH.out.below DW.out) v (by have := HOK.out.1.fl; have := HOK.out.2.1; omega) hfi)
    clear hfi
    go_wp2_with fail
    refine HCN.out.mono ?_
    rintro e w2 ⟨rfl, hb2⟩
    have W2 := Lib.hid (show Below w.heap.size w w2 from DW.out.trans (hb2.mono DW.out.size))
    have E0 := Lib.hid (below_blk hb2 D0.out)
    have E1 := Lib.hid (below_blk hb2 D1.out)
    have E2 := Lib.hid (below_blk hb2 D2.out)
    clear hb2 x0 xf0 x1 xf1 x2 xf2 x3 xf3 xl y0 yf0 y1 yf1 y2 yf2 yl z0 zf0 z1 zf1 z2 zf2 z3 zf3 zl
    go_upto_region 11 with fail
    refine gen_wp fun U hU => ?_
    obtain ⟨b5, hb5⟩ : ∃ b, b = w2.heap.size := ⟨_, rfl⟩
    rw [← hb5]
    have U0 := Lib.hid (show U.heap[b0]? = some (.cells #[.int .i64 v.kind, .int .i64 v.n, .string v.s, .int .u64 (v.label : Int)] 26 (0, 0)) by rw [← hU]; exact blk_alloc E0.out _)
    have U1 := Lib.hid (show U.heap[b1]? = some (.cells #[.int .i64 t.kind, .slice t.A t.ns.length t.c, .slice t.A2 t.xs.length t.c2] 31 (0, 0)) by rw [← hU]; exact blk_alloc E1.out _)
    have U2 := Lib.hid (show U.heap[b2]? = some (.cells #[.int .i64 0, .int .i64 0, .string ⟨#[]⟩, .int .u64 0] 26 (0, 0)) by rw [← hU]; exact blk_alloc E2.out _)
    have U5 := Lib.hid (show U.heap[b5]? = some (.cells #[.int .i64 0, .slice none 0 0, .int .i64 0, .int .i64 0, .string ⟨#[]⟩, .int .u64 0, .int .i64 0, .slice none 0 0, .slice none 0 0, .int .i64 0, .bool false] 79 (0, 0)) by rw [← hU, hb5]; exact heap_new_at _ _ _ (by first | rfl | simp))
    have UW := Lib.hid (show Below w.heap.size w U by rw [← hU]; exact W2.out.alloc W2.out.size _)
    clear hU hb5
    obtain ⟨z0, z1, z2, z3, zf0, zf1, zf2, zf3, zl⟩ := blk_4 U2.out
    go_wp2
    obtain ⟨j0, j1, j2, j3⟩ := four U2.out rfl (.int .i64 0) (.int .i64 0) (.string ⟨#[]⟩) (.int .u64 0)
    refine bodyPost_ret (v := .tuple #[.agg #[.int .i64 0, .int .i64 0, .string ⟨#[]⟩, .int .u64 0], .bool false, .bool true]) (by simp [results, Tryz.results37, go_sem, j0, j1, j2, j3]) rfl ?_
    exact ⟨⟨0, 0, ⟨#[]⟩, 0⟩, false, true, s, rfl, .refl _ _, .same HH.out (Below.setCell (p := ⟨b2, 3, none⟩) (Below.setCell (p := ⟨b2, 2, none⟩) (Below.setCell (p := ⟨b2, 1, none⟩) (Below.setCell (p := ⟨b2, 0, none⟩) UW.out HB2W.out (.int .i64 0)) HB2W.out (.int .i64 0)) HB2W.out (.string ⟨#[]⟩)) HB2W.out (.int .u64 0)), rfl⟩
   ·have HCN := Lib.hid (rfn_got (HH.out.below DW.out) v (by have := HOK.out.1.fl; have := HOK.out.2.1; omega) hfi)
    have HFI := Lib.hid hfi
    clear hfi
    go_wp2_with fail
    refine HCN.out.mono ?_
    rintro e w2 ⟨hb2, rfl⟩
    have W2 := Lib.hid (show Below w.heap.size w w2 from DW.out.trans (hb2.mono DW.out.size))
    have E0 := Lib.hid (below_blk hb2 D0.out)
    have E1 := Lib.hid (below_blk hb2 D1.out)
    have E2 := Lib.hid (below_blk hb2 D2.out)
    clear hb2 x0 xf0 x1 xf1 x2 xf2 x3 xf3 xl y0 yf0 y1 yf1 y2 yf2 yl z0 zf0 z1 zf1 z2 zf2 z3 zf3 zl
    go_upto_region 11 with fail
    refine gen_wp fun U hU => ?_
    obtain ⟨b5, hb5⟩ : ∃ b, b = w2.heap.size := ⟨_, rfl⟩
    rw [← hb5]
    have U0 := Lib.hid (show U.heap[b0]? = some (.cells #[.int .i64 v.kind, .int .i64 v.n, .string v.s, .int .u64 (v.label : Int)] 26 (0, 0)) by rw [← hU]; exact blk_alloc E0.out _)
    have U1 := Lib.hid (show U.heap[b1]? = some (.cells #[.int .i64 t.kind, .slice t.A t.ns.length t.c, .slice t.A2 t.xs.length t.c2] 31 (0, 0)) by rw [← hU]; exact blk_alloc E1.out _)
    have U2 := Lib.hid (show U.heap[b2]? = some (.cells #[.int .i64 0, .int .i64 0, .string ⟨#[]⟩, .int .u64 0] 26 (0, 0)) by rw [← hU]; exact blk_alloc E2.out _)
    have U5 := Lib.hid (show U.heap[b5]? = some (.cells #[.int .i64 f.pr, .slice f.A f.n f.c, .int .i64 f.x.kind, .int .i64 f.x.n, .string f.x.s, .int .u64 (f.x.label : Int), .int .i64 f.ty.kind, .slice f.ty.A f.ty.ns.length f.ty.c, .slice f.ty.A2 f.ty.xs.length f.ty.c2, .int .i64 f.ca, .bool f.wr] 79 (0, 0)) by rw [← hU, hb5]; exact heap_new_at _ _ _ (by first | rfl | simp))
    have UW := Lib.hid (show Below w.heap.size w U by rw [← hU]; exact W2.out.alloc W2.out.size _)
    clear hU hb5
    have HFNI := Lib.hid (fnI_some HFI.out)
    have HFI2 := Lib.hid (show FnIn w B N f by obtain ⟨j, hj, _⟩ := HFNI.out; exact HH.out.fns f (List.mem_of_getElem? hj))
    have HSM := Lib.hid (fun W' (hb : Below w.heap.size w W') => show Calls Tryz.prog 66 #[.agg #[.int .i64 f.ty.kind, .slice f.ty.A f.ty.ns.length f.ty.c, .slice f.ty.A2 f.ty.xs.length f.ty.c2], .agg #[.int .i64 t.kind, .slice t.A t.ns.length t.c, .slice t.A2 t.xs.length t.c2]] W' (RetB (.bool (tb (strip f.ty = strip t ∧ May (strip f.ty)))) W') from trsame_any f.ty t W' ((HFI2.out.ty.stay (hb.mono HNW.out)).more (Nat.le_trans HNW.out hb.size)) (HTY.out W' hb))
    obtain ⟨sm, hsm⟩ : ∃ sm, sm = tb (strip f.ty = strip t ∧ May (strip f.ty)) := ⟨_, rfl⟩
    rw [← hsm] at HSM
    clear hsm
    obtain ⟨fw, hfw⟩ : ∃ fw, fw = f.wr := ⟨_, rfl⟩
    rw [← hfw] at U5
    have HFW := Lib.hid hfw
    clear hfw
    obtain ⟨x0, x1, x2, x3, xf0, xf1, xf2, xf3, xl⟩ := blk_4 U0.out
    obtain ⟨y0, y1, y2, yf0, yf1, yf2, yl⟩ := blk_3 U1.out
    obtain ⟨z0, z1, z2, z3, zf0, zf1, zf2, zf3, zl⟩ := blk_4 U2.out
    obtain ⟨r0, r1, r2, r3, r4, r5, r6, r7, r8, r9, r10, rf0, rf1, rf2, rf3, rf4, rf5, rf6, rf7, rf8, rf9, rf10, rl⟩ := blk_11 U5.out
    cases fw with
    | false =>
     have HFNN := Lib.hid (show FnIn U B N (cstF v t c) from ⟨⟨[], rfl, World.ownsRow_nil _ _ _ _⟩, HTN.out.stay (UW.out.mono HNW.out), by simp [cstF]⟩)
     have HFC := Lib.hid (show Calls Tryz.prog 64 #[.pointer (some ⟨h, 0, none⟩), .agg #[.int .i64 0, .slice none 0 0, .int .i64 v.kind, .int .i64 v.n, .string v.s, .int .u64 (v.label : Int), .int .i64 t.kind, .slice t.A t.ns.length t.c, .slice t.A2 t.xs.length t.c2, .int .i64 c, .bool true], .int .i64 1] U (RFnAt U B N h s d (cstF v t c) 1) from rfn_at (HH.out.below UW.out) (cstF v t c) HFNN.out 1 (by omega) (by have := HOK.out.1.fl; have := HOK.out.2.1; omega))
     go_wp2_with fail
     refine HFC.out.mono ?_
     rintro e w5 (⟨rfl, hb⟩ | ⟨rfl, hr, d', ha, hf, hn'⟩)
     ·have W5 := Lib.hid (show Below w.heap.size w w5 from UW.out.trans (hb.mono UW.out.size))
      have L0 := Lib.hid (below_blk hb U0.out)
      have L2 := Lib.hid (below_blk hb U2.out)
      clear hb
      go_upto_region 16 with fail
      refine gen_wp fun X hX => ?_
      obtain ⟨b6, hb6⟩ : ∃ b, b = w5.heap.size := ⟨_, rfl⟩
      rw [← hb6]
      have X0 := Lib.hid (show X.heap[b0]? = some (.cells #[.int .i64 v.kind, .int .i64 v.n, .string v.s, .int .u64 (v.label : Int)] 26 (0, 0)) by rw [← hX]; exact blk_alloc L0.out _)
      have X2 := Lib.hid (show X.heap[b2]? = some (.cells #[.int .i64 0, .int .i64 0, .string ⟨#[]⟩, .int .u64 0] 26 (0, 0)) by rw [← hX]; exact blk_alloc L2.out _)
      have X6 := Lib.hid (show X.heap[b6]? = some (.cells #[.int .i64 0, .int .i64 0, .string ⟨#[]⟩, .int .u64 0] 26 (0, 0)) by rw [← hX, hb6]; exact heap_new_at _ _ _ (by first | rfl | simp))
      have HXA := Lib.hid (show X = w5.alloc (.cells #[.int .i64 0, .int .i64 0, .string ⟨#[]⟩, .int .u64 0] 26) from hX.symm)
      have HB6 := Lib.hid (show b0 ≠ b6 ∧ b2 ≠ b6 by have := blk_lt L0.out; have := blk_lt L2.out; omega)
      have HB6E := Lib.hid hb6
      clear hX hb6
      have XW := Lib.hid (show Below w.heap.size w X by rw [HXA.out]; exact W5.out.alloc W5.out.size _)
      obtain ⟨z0, z1, z2, z3, zf0, zf1, zf2, zf3, zl⟩ := blk_4 X2.out
      go_wp2
      obtain ⟨j0, j1, j2, j3⟩ := four X2.out rfl (.int .i64 0) (.int .i64 0) (.string ⟨#[]⟩) (.int .u64 0)
      refine bodyPost_ret (v := .tuple #[.agg #[.int .i64 0, .int .i64 0, .string ⟨#[]⟩, .int .u64 0], .bool false, .bool false]) (by simp [results, Tryz.results37, go_sem, j0, j1, j2, j3]) rfl ?_
      exact ⟨⟨0, 0, ⟨#[]⟩, 0⟩, false, false, s, rfl, .refl _ _, .same HH.out (Below.setCell (p := ⟨b2, 3, none⟩) (Below.setCell (p := ⟨b2, 2, none⟩) (Below.setCell (p := ⟨b2, 1, none⟩) (Below.setCell (p := ⟨b2, 0, none⟩) XW.out HB2W.out (.int .i64 0)) HB2W.out (.int .i64 0)) HB2W.out (.string ⟨#[]⟩)) HB2W.out (.int .u64 0)), rfl⟩
     ·have hne : ∀ b, w.heap.size ≤ b → b ∉ d.fp h s.F := fun b hb hm => by have := HLT.out b hm; omega
      have L0 := Lib.hid (hf.blk U0.out (hne _ (by have := HE_b0.out; omega)))
      have L2 := Lib.hid (hf.blk U2.out (hne _ HB2W.out))
      have HA := Lib.hid ha
      have HF := Lib.hid hf
      have HN' := Lib.hid hn'
      clear hr ha hf hn' hne
      unfold newFnV
      go_upto_region 16 with fail
      refine gen_wp fun X hX => ?_
      obtain ⟨b6, hb6⟩ : ∃ b, b = w5.heap.size := ⟨_, rfl⟩
      rw [← hb6]
      have X0 := Lib.hid (show X.heap[b0]? = some (.cells #[.int .i64 v.kind, .int .i64 v.n, .string v.s, .int .u64 (v.label : Int)] 26 (0, 0)) by rw [← hX]; exact blk_alloc L0.out _)
      have X2 := Lib.hid (show X.heap[b2]? = some (.cells #[.int .i64 0, .int .i64 0, .string ⟨#[]⟩, .int .u64 0] 26 (0, 0)) by rw [← hX]; exact blk_alloc L2.out _)
      have X6 := Lib.hid (show X.heap[b6]? = some (.cells #[.int .i64 5, .int .i64 (s.F.length : Int), .string ⟨#[]⟩, .int .u64 0] 26 (0, 0)) by rw [← hX, hb6]; exact heap_new_at _ _ _ (by first | rfl | simp))
      have HXA := Lib.hid (show X = w5.alloc (.cells #[.int .i64 5, .int .i64 (s.F.length : Int), .string ⟨#[]⟩, .int .u64 0] 26) from hX.symm)
      have HB6 := Lib.hid (show b0 ≠ b6 ∧ b2 ≠ b6 by have := blk_lt L0.out; have := blk_lt L2.out; omega)
      have HB6E := Lib.hid hb6
      clear hX hb6
      obtain ⟨x0, x1, x2, x3, xf0, xf1, xf2, xf3, xl⟩ := blk_4 X0.out
      obtain ⟨z0, z1, z2, z3, zf0, zf1, zf2, zf3, zl⟩ := blk_4 X2.out
      obtain ⟨r0, r1, r2, r3, rf0, rf1, rf2, rf3, rl⟩ := blk_4 X6.out
      have X2s := Lib.hid (blk_far (a := ⟨b6, 3, none⟩) X2.out HB6.out.2 (.int .u64 (v.label : Int)))
      have X6s := Lib.hid (show (X.setCell ⟨b6, 3, none⟩ (.int .u64 (v.label : Int))).heap[b6]? = some (.cells #[.int .i64 5, .int .i64 (s.F.length : Int), .string ⟨#[]⟩, .int .u64 (v.label : Int)] 26 (0, 0)) from blk_set X6.out _)
      obtain ⟨Y, hY⟩ : ∃ Y, Y = X.setCell ⟨b6, 3, none⟩ (.int .u64 (v.label : Int)) := ⟨_, rfl⟩
      rw [← hY] at X2s X6s
      have HXY := Lib.hid (show Below w5.heap.size w5 Y by rw [hY, HXA.out]; exact ((Below.refl _ _).alloc (Nat.le_refl _) _).setCell (show w5.heap.size ≤ b6 by have := HB6E.out; omega) _)
      go_upto_region 19 with fail
      refine gen_wp fun Y' hY' => ?_
      obtain rfl : Y' = Y := by rw [← hY', hY]
      clear hY hY' x0 xf0 x1 xf1 x2 xf2 x3 xf3 xl z0 zf0 z1 zf1 z2 zf2 z3 zf3 zl r0 rf0 r1 rf1 r2 rf2 r3 rf3 rl
      obtain ⟨r0, r1, r2, r3, rf0, rf1, rf2, rf3, rl⟩ := blk_4 X6s.out
      obtain ⟨z0, z1, z2, z3, zf0, zf1, zf2, zf3, zl⟩ := blk_4 X2s.out
      go_wp2
      obtain ⟨j0, j1, j2, j3⟩ := four X2s.out rfl (.int .i64 5) (.int .i64 (s.F.length : Int)) (.string ⟨#[]⟩) (.int .u64 (v.label : Int))
      refine bodyPost_ret (v := .tuple #[.agg #[.int .i64 5, .int .i64 (s.F.length : Int), .string ⟨#[]⟩, .int .u64 (v.label : Int)], .bool true, .bool true]) (by simp [results, Tryz.results37, go_sem, j0, j1, j2, j3]) rfl ?_
      refine ⟨⟨5, (s.F.length : Int), ⟨#[]⟩, v.label⟩, true, true, _, rfl, le_fn (f := cstF v t c) (fun _ => ?_) (show s.U ≤ s.U + max 1 0 by omega), ?_, rfl⟩
      ·obtain ⟨j, hj, _, hj2⟩ := HFNI.out
       have := (List.getElem?_eq_some_iff.1 hj).1
       show 0 ≤ v.n ∧ v.n < (s.F.length : Int)
       omega
      ·have hfs := fr_sets (w := Y') (b := b2) (.int .i64 5) (.int .i64 (s.F.length : Int)) (.string ⟨#[]⟩) (.int .u64 (v.label : Int))
       have hA5 := HA.out.below HXY.out
       refine ⟨d', hA5.kept hfs (fun b hb hm => ?_) (fun b hm => ?_), ((Fr.of_below UW.out _).trans (HF.out.trans (Fr.of_below HXY.out _) fun x hx => .inl hx) fun x hx => .inl hx).trans hfs fun x hx => .inr (by simp at hx; rw [hx]; exact HB2W.out), fun b hb => ?_⟩
       ·simp at hm
        subst hm
        rcases HN'.out b hb with e | e | e
        ·have := HLT.out b e; have := HB2W.out; omega
        ·simp [cstF, aB] at e
        ·have h2 := blk_lt U2.out
         omega
       ·simp at hm
        subst hm
        have := HNW.out
        have := HB2W.out
        omega
       ·rcases HN'.out b hb with e | e | e
        ·exact .inl e
        ·simp [cstF, aB] at e
        ·exact .inr (Nat.le_trans UW.out.size e)
    | true =>
     go_wp2_with fail
     refine (HSM.out _ UW.out).mono ?_
     rintro e w4 ⟨rfl, hb4⟩
     have W4 := Lib.hid (show Below w.heap.size w w4 from UW.out.trans (hb4.mono UW.out.size))
     have K0 := Lib.hid (below_blk hb4 U0.out)
     have K1 := Lib.hid (below_blk hb4 U1.out)
     have K2 := Lib.hid (below_blk hb4 U2.out)
     clear hb4 x0 xf0 x1 xf1 x2 xf2 x3 xf3 xl y0 yf0 y1 yf1 y2 yf2 yl z0 zf0 z1 zf1 z2 zf2 z3 zf3 zl r0 rf0 r1 rf1 r2 rf2 r3 rf3 r4 rf4 r5 rf5 r6 rf6 r7 rf7 r8 rf8 r9 rf9 r10 rf10 rl
     obtain ⟨x0, x1, x2, x3, xf0, xf1, xf2, xf3, xl⟩ := blk_4 K0.out
     obtain ⟨y0, y1, y2, yf0, yf1, yf2, yl⟩ := blk_3 K1.out
     obtain ⟨z0, z1, z2, z3, zf0, zf1, zf2, zf3, zl⟩ := blk_4 K2.out
     cases sm with
     | true =>
      go_wp2
      obtain ⟨j0, j1, j2, j3⟩ := four K2.out rfl (.int .i64 v.kind) (.int .i64 v.n) (.string v.s) (.int .u64 (v.label : Int))
      refine bodyPost_ret (v := .tuple #[.agg #[.int .i64 v.kind, .int .i64 v.n, .string v.s, .int .u64 (v.label : Int)], .bool true, .bool true]) (by simp [results, Tryz.results37, go_sem, j0, j1, j2, j3]) rfl ?_
      exact ⟨v, true, true, s, rfl, .refl _ _, .same HH.out (Below.setCell (p := ⟨b2, 3, none⟩) (Below.setCell (p := ⟨b2, 2, none⟩) (Below.setCell (p := ⟨b2, 1, none⟩) (Below.setCell (p := ⟨b2, 0, none⟩) W4.out HB2W.out (.int .i64 v.kind)) HB2W.out (.int .i64 v.n)) HB2W.out (.string v.s)) HB2W.out (.int .u64 (v.label : Int))), rfl⟩
     | false =>
      have HFNN := Lib.hid (show FnIn w4 B N (cstF v t c) from ⟨⟨[], rfl, World.ownsRow_nil _ _ _ _⟩, HTN.out.stay (W4.out.mono HNW.out), by simp [cstF]⟩)
      have HFC := Lib.hid (show Calls Tryz.prog 64 #[.pointer (some ⟨h, 0, none⟩), .agg #[.int .i64 0, .slice none 0 0, .int .i64 v.kind, .int .i64 v.n, .string v.s, .int .u64 (v.label : Int), .int .i64 t.kind, .slice t.A t.ns.length t.c, .slice t.A2 t.xs.length t.c2, .int .i64 c, .bool true], .int .i64 1] w4 (RFnAt w4 B N h s d (cstF v t c) 1) from rfn_at (HH.out.below W4.out) (cstF v t c) HFNN.out 1 (by omega) (by have := HOK.out.1.fl; have := HOK.out.2.1; omega))
      go_wp2_with fail
      refine HFC.out.mono ?_
      rintro e w5 (⟨rfl, hb⟩ | ⟨rfl, hr, d', ha, hf, hn'⟩)
      ·have W5 := Lib.hid (show Below w.heap.size w w5 from W4.out.trans (hb.mono W4.out.size))
       have L0 := Lib.hid (below_blk hb K0.out)
       have L2 := Lib.hid (below_blk hb K2.out)
       clear hb
       go_upto_region 16 with fail
       refine gen_wp fun X hX => ?_
       obtain ⟨b6, hb6⟩ : ∃ b, b = w5.heap.size := ⟨_, rfl⟩
       rw [← hb6]
       have X0 := Lib.hid (show X.heap[b0]? = some (.cells #[.int .i64 v.kind, .int .i64 v.n, .string v.s, .int .u64 (v.label : Int)] 26 (0, 0)) by rw [← hX]; exact blk_alloc L0.out _)
       have X2 := Lib.hid (show X.heap[b2]? = some (.cells #[.int .i64 0, .int .i64 0, .string ⟨#[]⟩, .int .u64 0] 26 (0, 0)) by rw [← hX]; exact blk_alloc L2.out _)
       have X6 := Lib.hid (show X.heap[b6]? = some (.cells #[.int .i64 0, .int .i64 0, .string ⟨#[]⟩, .int .u64 0] 26 (0, 0)) by rw [← hX, hb6]; exact heap_new_at _ _ _ (by first | rfl | simp))
       have HXA := Lib.hid (show X = w5.alloc (.cells #[.int .i64 0, .int .i64 0, .string ⟨#[]⟩, .int .u64 0] 26) from hX.symm)
       have HB6 := Lib.hid (show b0 ≠ b6 ∧ b2 ≠ b6 by have := blk_lt L0.out; have := blk_lt L2.out; omega)
       have HB6E := Lib.hid hb6
       clear hX hb6
       have XW := Lib.hid (show Below w.heap.size w X by rw [HXA.out]; exact W5.out.alloc W5.out.size _)
       obtain ⟨z0, z1, z2, z3, zf0, zf1, zf2, zf3, zl⟩ := blk_4 X2.out
       go_wp2
       obtain ⟨j0, j1, j2, j3⟩ := four X2.out rfl (.int .i64 0) (.int .i64 0) (.string ⟨#[]⟩) (.int .u64 0)
       refine bodyPost_ret (v := .tuple #[.agg #[.int .i64 0, .int .i64 0, .string ⟨#[]⟩, .int .u64 0], .bool false, .bool false]) (by simp [results, Tryz.results37, go_sem, j0, j1, j2, j3]) rfl ?_
       exact ⟨⟨0, 0, ⟨#[]⟩, 0⟩, false, false, s, rfl, .refl _ _, .same HH.out (Below.setCell (p := ⟨b2, 3, none⟩) (Below.setCell (p := ⟨b2, 2, none⟩) (Below.setCell (p := ⟨b2, 1, none⟩) (Below.setCell (p := ⟨b2, 0, none⟩) XW.out HB2W.out (.int .i64 0)) HB2W.out (.int .i64 0)) HB2W.out (.string ⟨#[]⟩)) HB2W.out (.int .u64 0)), rfl⟩
      ·have hne : ∀ b, w.heap.size ≤ b → b ∉ d.fp h s.F := fun b hb hm => by have := HLT.out b hm; omega
       have L0 := Lib.hid (hf.blk K0.out (hne _ (by have := HE_b0.out; omega)))
       have L2 := Lib.hid (hf.blk K2.out (hne _ HB2W.out))
       have HA := Lib.hid ha
       have HF := Lib.hid hf
       have HN' := Lib.hid hn'
       clear hr ha hf hn' hne
       unfold newFnV
       go_upto_region 16 with fail
       refine gen_wp fun X hX => ?_
       obtain ⟨b6, hb6⟩ : ∃ b, b = w5.heap.size := ⟨_, rfl⟩
       rw [← hb6]
       have X0 := Lib.hid (show X.heap[b0]? = some (.cells #[.int .i64 v.kind, .int .i64 v.n, .string v.s, .int .u64 (v.label : Int)] 26 (0, 0)) by rw [← hX]; exact blk_alloc L0.out _)
       have X2 := Lib.hid (show X.heap[b2]? = some (.cells #[.int .i64 0, .int .i64 0, .string ⟨#[]⟩, .int .u64 0] 26 (0, 0)) by rw [← hX]; exact blk_alloc L2.out _)
       have X6 := Lib.hid (show X.heap[b6]? = some (.cells #[.int .i64 5, .int .i64 (s.F.length : Int), .string ⟨#[]⟩, .int .u64 0] 26 (0, 0)) by rw [← hX, hb6]; exact heap_new_at _ _ _ (by first | rfl | simp))
       have HXA := Lib.hid (show X = w5.alloc (.cells #[.int .i64 5, .int .i64 (s.F.length : Int), .string ⟨#[]⟩, .int .u64 0] 26) from hX.symm)
       have HB6 := Lib.hid (show b0 ≠ b6 ∧ b2 ≠ b6 by have := blk_lt L0.out; have := blk_lt L2.out; omega)
       have HB6E := Lib.hid hb6
       clear hX hb6
       obtain ⟨x0, x1, x2, x3, xf0, xf1, xf2, xf3, xl⟩ := blk_4 X0.out
       obtain ⟨z0, z1, z2, z3, zf0, zf1, zf2, zf3, zl⟩ := blk_4 X2.out
       obtain ⟨r0, r1, r2, r3, rf0, rf1, rf2, rf3, rl⟩ := blk_4 X6.out
       have X2s := Lib.hid (blk_far (a := ⟨b6, 3, none⟩) X2.out HB6.out.2 (.int .u64 (v.label : Int)))
       have X6s := Lib.hid (show (X.setCell ⟨b6, 3, none⟩ (.int .u64 (v.label : Int))).heap[b6]? = some (.cells #[.int .i64 5, .int .i64 (s.F.length : Int), .string ⟨#[]⟩, .int .u64 (v.label : Int)] 26 (0, 0)) from blk_set X6.out _)
       obtain ⟨Y, hY⟩ : ∃ Y, Y = X.setCell ⟨b6, 3, none⟩ (.int .u64 (v.label : Int)) := ⟨_, rfl⟩
       rw [← hY] at X2s X6s
       have HXY := Lib.hid (show Below w5.heap.size w5 Y by rw [hY, HXA.out]; exact ((Below.refl _ _).alloc (Nat.le_refl _) _).setCell (show w5.heap.size ≤ b6 by have := HB6E.out; omega) _)
       go_upto_region 19 with fail
       refine gen_wp fun Y' hY' => ?_
       obtain rfl : Y' = Y := by rw [← hY', hY]
       clear hY hY' x0 xf0 x1 xf1 x2 xf2 x3 xf3 xl z0 zf0 z1 zf1 z2 zf2 z3 zf3 zl r0 rf0 r1 rf1 r2 rf2 r3 rf3 rl
       obtain ⟨r0, r1, r2, r3, rf0, rf1, rf2, rf3, rl⟩ := blk_4 X6s.out
       obtain ⟨z0, z1, z2, z3, zf0, zf1, zf2, zf3, zl⟩ := blk_4 X2s.out
       go_wp2
       obtain ⟨j0, j1, j2, j3⟩ := four X2s.out rfl (.int .i64 5) (.int .i64 (s.F.length : Int)) (.string ⟨#[]⟩) (.int .u64 (v.label : Int))
       refine bodyPost_ret (v := .tuple #[.agg #[.int .i64 5, .int .i64 (s.F.length : Int), .string ⟨#[]⟩, .int .u64 (v.label : Int)], .bool true, .bool true]) (by simp [results, Tryz.results37, go_sem, j0, j1, j2, j3]) rfl ?_
       refine ⟨⟨5, (s.F.length : Int), ⟨#[]⟩, v.label⟩, true, true, _, rfl, le_fn (f := cstF v t c) (fun _ => ?_) (show s.U ≤ s.U + max 1 0 by omega), ?_, rfl⟩
       ·obtain ⟨j, hj, _, hj2⟩ := HFNI.out
        have := (List.getElem?_eq_some_iff.1 hj).1
        show 0 ≤ v.n ∧ v.n < (s.F.length : Int)
        omega
       ·have hfs := fr_sets (w := Y') (b := b2) (.int .i64 5) (.int .i64 (s.F.length : Int)) (.string ⟨#[]⟩) (.int .u64 (v.label : Int))
        have hA5 := HA.out.below HXY.out
        refine ⟨d', hA5.kept hfs (fun b hb hm => ?_) (fun b hm => ?_), ((Fr.of_below W4.out _).trans (HF.out.trans (Fr.of_below HXY.out _) fun x hx => .inl hx) fun x hx => .inl hx).trans hfs fun x hx => .inr (by simp at hx; rw [hx]; exact HB2W.out), fun b hb => ?_⟩
        ·simp at hm
         subst hm
         rcases HN'.out b hb with e | e | e
         ·have := HLT.out b e; have := HB2W.out; omega
         ·simp [cstF, aB] at e
         ·have h2 := blk_lt K2.out
          omega
        ·simp at hm
         subst hm
         have := HNW.out
         have := HB2W.out
         omega
        ·rcases HN'.out b hb with e | e | e
         ·exact .inl e
         ·simp [cstF, aB] at e
         ·exact .inr (Nat.le_trans W4.out.size e)
  have e9 : (t.kind == 9) = false := beq_eq_false_iff_ne.2 h9
  clear h9
  by_cases h0 : v.kind < 0
  ·have H0 := Lib.hid h0
   clear h0
   go_wp2_with fail
   clear x0 xf0 x1 xf1 x2 xf2 x3 xf3 xl y0 yf0 y1 yf1 y2 yf2 yl z0 zf0 z1 zf1 z2 zf2 z3 zf3 zl
   refine wp_region_held_drew (S := fun w' => w'.heap[b0]? = some (.cells #[.int .i64 v.kind, .int .i64 v.n, .string v.s, .int .u64 (v.label : Int)] 26 (0, 0)) ∧ w'.heap[b1]? = some (.cells #[.int .i64 t.kind, .slice t.A t.ns.length t.c, .slice t.A2 t.xs.length t.c2] 31 (0, 0))) (by kernel_rfl) (⟨D0.out, D1.out⟩) (fun hHeld => ?_)
   refine tk 0 74 (.pointer (some ⟨b0, 0, none⟩)) hHeld ?_; simp only [Act.put, zq1, zq2, zq3]
   refine tk 1 75 (.int .i64 v.kind) hHeld ?_ (hy := Or.inl ⟨by rfl, fun w' hS => (by have q0 := cell_of_blk (i := 0) (v := .int .i64 v.kind) hS.1 rfl; go_simp)⟩); simp only [Act.put, zq1, zq2, zq3]
   refine tk 2 76 (.bool true) hHeld ?_ (hy := Or.inl ⟨by rfl, fun w' hS => (by have h0 := H0.out; go_simp)⟩); simp only [Act.put, zq1, zq2, zq3]
   refine tk 3 77 (.bool true) hHeld ?_; simp only [Act.put, zq1, zq2, zq3]
   refine tu 4 78 hHeld ?_; simp only [Act.put, zq1, zq2, zq3]
   refine tu 5 79 hHeld ?_; simp only [Act.put, zq1, zq2, zq3]
   refine tu 6 80 hHeld ?_; simp only [Act.put, zq1, zq2, zq3]
   refine tk 7 81 (.bool true) hHeld ?_; simp only [Act.put, zq1, zq2, zq3]
   refine tk 8 82 (.bool true) hHeld ?_; simp only [Act.put, zq1, zq2, zq3]
   refine tu 9 83 hHeld ?_; simp only [Act.put, zq1, zq2, zq3]
   refine tu 10 84 hHeld ?_; simp only [Act.put, zq1, zq2, zq3]
   refine tu 11 85 hHeld ?_; simp only [Act.put, zq1, zq2, zq3]
   refine tu 12 86 hHeld ?_; simp only [Act.put, zq1, zq2, zq3]
   refine tu 13 87 hHeld ?_; simp only [Act.put, zq1, zq2, zq3]
   refine tu 14 88 hHeld ?_; simp only [Act.put, zq1, zq2, zq3]
   refine tu 15 89 hHeld ?_; simp only [Act.put, zq1, zq2, zq3]
   refine tu 16 90 hHeld ?_; simp only [Act.put, zq1, zq2, zq3]
   refine tk 17 91 (.bool true) hHeld ?_; simp only [Act.put, zq1, zq2, zq3]
   refine wpAnyH_done (by kernel_rfl) ?_ _
   go_upto_region 21 with fail
   refine gen_wp fun Y hY => ?_
   have Y2 := Lib.hid (show Y.heap[b2]? = some (.cells #[.int .i64 0, .int .i64 0, .string ⟨#[]⟩, .int .u64 0] 26 (0, 0)) by rw [← hY]; exact D2.out)
   have YW := Lib.hid (show Below w.heap.size w Y by rw [← hY]; exact DW.out.drew)
   clear hY
   obtain ⟨z0, z1, z2, z3, zf0, zf1, zf2, zf3, zl⟩ := blk_4 Y2.out
   go_wp2
   obtain ⟨j0, j1, j2, j3⟩ := four Y2.out rfl (.int .i64 0) (.int .i64 0) (.string ⟨#[]⟩) (.int .u64 0)
   refine bodyPost_ret (v := .tuple #[.agg #[.int .i64 0, .int .i64 0, .string ⟨#[]⟩, .int .u64 0], .bool false, .bool true]) (by simp [results, Tryz.results37, go_sem, j0, j1, j2, j3]) rfl ?_
   exact ⟨⟨0, 0, ⟨#[]⟩, 0⟩, false, true, s, rfl, .refl _ _, .same HH.out (Below.setCell (p := ⟨b2, 3, none⟩) (Below.setCell (p := ⟨b2, 2, none⟩) (Below.setCell (p := ⟨b2, 1, none⟩) (Below.setCell (p := ⟨b2, 0, none⟩) YW.out HB2W.out (.int .i64 0)) HB2W.out (.int .i64 0)) HB2W.out (.string ⟨#[]⟩)) HB2W.out (.int .u64 0)), rfl⟩
  by_cases h1 : 62 < v.kind
  ·have H0 := Lib.hid (And.intro h0 h1)
   clear h0 h1
   go_wp2_with fail
   clear x0 xf0 x1 xf1 x2 xf2 x3 xf3 xl y0 yf0 y1 yf1 y2 yf2 yl z0 zf0 z1 zf1 z2 zf2 z3 zf3 zl
   refine wp_region_held_drew (S := fun w' => w'.heap[b0]? = some (.cells #[.int .i64 v.kind, .int .i64 v.n, .string v.s, .int .u64 (v.label : Int)] 26 (0, 0)) ∧ w'.heap[b1]? = some (.cells #[.int .i64 t.kind, .slice t.A t.ns.length t.c, .slice t.A2 t.xs.length t.c2] 31 (0, 0))) (by kernel_rfl) (⟨D0.out, D1.out⟩) (fun hHeld => ?_)
   refine tk 0 74 (.pointer (some ⟨b0, 0, none⟩)) hHeld ?_; simp only [Act.put, zq1, zq2, zq3]
   refine tk 1 75 (.int .i64 v.kind) hHeld ?_ (hy := Or.inl ⟨by rfl, fun w' hS => (by have q0 := cell_of_blk (i := 0) (v := .int .i64 v.kind) hS.1 rfl; go_simp)⟩); simp only [Act.put, zq1, zq2, zq3]
   refine tk 2 76 (.bool false) hHeld ?_ (hy := Or.inl ⟨by rfl, fun w' hS => (by have h0 := H0.out.1; go_simp)⟩); simp only [Act.put, zq1, zq2, zq3]
   refine tk 3 77 (.bool false) hHeld ?_; simp only [Act.put, zq1, zq2, zq3]
   refine tk 4 78 (.pointer (some ⟨b0, 0, none⟩)) hHeld ?_; simp only [Act.put, zq1, zq2, zq3]
   refine tk 5 79 (.int .i64 v.kind) hHeld ?_ (hy := Or.inl ⟨by rfl, fun w' hS => (by have q0 := cell_of_blk (i := 0) (v := .int .i64 v.kind) hS.1 rfl; go_simp)⟩); simp only [Act.put, zq1, zq2, zq3]
   refine tk 6 80 (.bool true) hHeld ?_ (hy := Or.inl ⟨by rfl, fun w' hS => (by have h1 := H0.out.2; have h2 : v.kind > 62 := h1; go_simp)⟩); simp only [Act.put, zq1, zq2, zq3]
   refine tk 7 81 (.bool true) hHeld ?_; simp only [Act.put, zq1, zq2, zq3]
   refine tk 8 82 (.bool true) hHeld ?_; simp only [Act.put, zq1, zq2, zq3]
   refine tu 9 83 hHeld ?_; simp only [Act.put, zq1, zq2, zq3]
   refine tu 10 84 hHeld ?_; simp only [Act.put, zq1, zq2, zq3]
   refine tu 11 85 hHeld ?_; simp only [Act.put, zq1, zq2, zq3]
   refine tu 12 86 hHeld ?_; simp only [Act.put, zq1, zq2, zq3]
   refine tu 13 87 hHeld ?_; simp only [Act.put, zq1, zq2, zq3]
   refine tu 14 88 hHeld ?_; simp only [Act.put, zq1, zq2, zq3]
   refine tu 15 89 hHeld ?_; simp only [Act.put, zq1, zq2, zq3]
   refine tu 16 90 hHeld ?_; simp only [Act.put, zq1, zq2, zq3]
   refine tk 17 91 (.bool true) hHeld ?_; simp only [Act.put, zq1, zq2, zq3]
   refine wpAnyH_done (by kernel_rfl) ?_ _
   go_upto_region 21 with fail
   refine gen_wp fun Y hY => ?_
   have Y2 := Lib.hid (show Y.heap[b2]? = some (.cells #[.int .i64 0, .int .i64 0, .string ⟨#[]⟩, .int .u64 0] 26 (0, 0)) by rw [← hY]; exact D2.out)
   have YW := Lib.hid (show Below w.heap.size w Y by rw [← hY]; exact DW.out.drew)
   clear hY
   obtain ⟨z0, z1, z2, z3, zf0, zf1, zf2, zf3, zl⟩ := blk_4 Y2.out
   go_wp2
   obtain ⟨j0, j1, j2, j3⟩ := four Y2.out rfl (.int .i64 0) (.int .i64 0) (.string ⟨#[]⟩) (.int .u64 0)
   refine bodyPost_ret (v := .tuple #[.agg #[.int .i64 0, .int .i64 0, .string ⟨#[]⟩, .int .u64 0], .bool false, .bool true]) (by simp [results, Tryz.results37, go_sem, j0, j1, j2, j3]) rfl ?_
   exact ⟨⟨0, 0, ⟨#[]⟩, 0⟩, false, true, s, rfl, .refl _ _, .same HH.out (Below.setCell (p := ⟨b2, 3, none⟩) (Below.setCell (p := ⟨b2, 2, none⟩) (Below.setCell (p := ⟨b2, 1, none⟩) (Below.setCell (p := ⟨b2, 0, none⟩) YW.out HB2W.out (.int .i64 0)) HB2W.out (.int .i64 0)) HB2W.out (.string ⟨#[]⟩)) HB2W.out (.int .u64 0)), rfl⟩
  obtain ⟨n, hn⟩ : ∃ n : Nat, v.kind = (n : Int) := ⟨v.kind.toNat, by omega⟩
  have HNK := Lib.hid hn
  have HN0 := Lib.hid (show ¬ ((n : Int) < 0) ∧ ¬ ((n : Int) > 62) ∧ (0 : Int) ≤ n ∧ (n : Int) ≤ 62 ∧ IntKind.wrap .u64 (n : Int) = (n : Int) from ⟨by omega, by omega, by omega, by omega, by rw [IntKind.wrap_u64]; omega⟩)
  clear h0 h1 hn
  go_wp2_with fail
  clear x0 xf0 x1 xf1 x2 xf2 x3 xf3 xl y0 yf0 y1 yf1 y2 yf2 yl z0 zf0 z1 zf1 z2 zf2 z3 zf3 zl
  obtain ⟨bt, hbt⟩ : ∃ bt, bt = (bits .and .i64 ((kk : Int) / 2 ^ n) 1 == 0) := ⟨_, rfl⟩
  have HBT := Lib.hid hbt
  clear hbt
  cases bt with
  | true =>
   refine wp_region_held_drew (S := fun w' => w'.heap[b0]? = some (.cells #[.int .i64 v.kind, .int .i64 v.n, .string v.s, .int .u64 (v.label : Int)] 26 (0, 0)) ∧ w'.heap[b1]? = some (.cells #[.int .i64 t.kind, .slice t.A t.ns.length t.c, .slice t.A2 t.xs.length t.c2] 31 (0, 0))) (by kernel_rfl) (⟨D0.out, D1.out⟩) (fun hHeld => ?_)
   refine tk 0 74 (.pointer (some ⟨b0, 0, none⟩)) hHeld ?_; simp only [Act.put, zq1, zq2, zq3]
   refine tk 1 75 (.int .i64 (n : Int)) hHeld ?_ (hy := Or.inl ⟨by rfl, fun w' hS => (by have q0 := cell_of_blk (i := 0) (v := .int .i64 v.kind) hS.1 rfl; rw [HNK.out] at q0; go_simp)⟩); simp only [Act.put, zq1, zq2, zq3]
   refine tk 2 76 (.bool false) hHeld ?_ (hy := Or.inl ⟨by rfl, fun w' hS => (by have hn0 := HN0.out.1; have hn1 := HN0.out.2.1; have hn2 := HN0.out.2.2.1; have hn3 := HN0.out.2.2.2.1; have hn4 := HN0.out.2.2.2.2; go_simp)⟩); simp only [Act.put, zq1, zq2, zq3]
   refine tk 3 77 (.bool false) hHeld ?_; simp only [Act.put, zq1, zq2, zq3]
   refine tk 4 78 (.pointer (some ⟨b0, 0, none⟩)) hHeld ?_; simp only [Act.put, zq1, zq2, zq3]
   refine tk 5 79 (.int .i64 (n : Int)) hHeld ?_ (hy := Or.inl ⟨by rfl, fun w' hS => (by have q0 := cell_of_blk (i := 0) (v := .int .i64 v.kind) hS.1 rfl; rw [HNK.out] at q0; go_simp)⟩); simp only [Act.put, zq1, zq2, zq3]
   refine tk 6 80 (.bool false) hHeld ?_ (hy := Or.inl ⟨by rfl, fun w' hS => (by have hn0 := HN0.out.1; have hn1 := HN0.out.2.1; have hn2 := HN0.out.2.2.1; have hn3 := HN0.out.2.2.2.1; have hn4 := HN0.out.2.2.2.2; go_simp)⟩); simp only [Act.put, zq1, zq2, zq3]
   refine tk 7 81 (.bool false) hHeld ?_; simp only [Act.put, zq1, zq2, zq3]
   refine tk 8 82 (.bool false) hHeld ?_; simp only [Act.put, zq1, zq2, zq3]
   refine tk 9 83 (.agg #[.int .i64 t.kind, .slice t.A t.ns.length t.c, .slice t.A2 t.xs.length t.c2]) hHeld ?_ (hy := Or.inl ⟨by rfl, fun w' hS => (by have q0 := cell_of_blk (i := 0) hS.2 rfl; have q1 := cell_of_blk (i := 1) hS.2 rfl; have q2 := cell_of_blk (i := 2) hS.2 rfl; go_simp)⟩); simp only [Act.put, zq1, zq2, zq3]
   refine tk 11 85 (.pointer (some ⟨b0, 0, none⟩)) hHeld ?_; simp only [Act.put, zq1, zq2, zq3]
   refine tk 12 86 (.int .i64 (n : Int)) hHeld ?_ (hy := Or.inl ⟨by rfl, fun w' hS => (by have q0 := cell_of_blk (i := 0) (v := .int .i64 v.kind) hS.1 rfl; rw [HNK.out] at q0; go_simp)⟩); simp only [Act.put, zq1, zq2, zq3]
   refine tk 13 87 (.int .u64 (n : Int)) hHeld ?_ (hy := Or.inl ⟨by rfl, fun w' hS => (by have hn0 := HN0.out.1; have hn1 := HN0.out.2.1; have hn2 := HN0.out.2.2.1; have hn3 := HN0.out.2.2.2.1; have hn4 := HN0.out.2.2.2.2; go_simp)⟩); simp only [Act.put, zq1, zq2, zq3]
   refine rd 10 fun K hK => ?_
   go_simp
   refine (HKN.out _ DW.out.drew).mono ?_
   rintro e w4 ⟨rfl, hb4⟩
   have W4 := Lib.hid (show Below w.heap.size w w4 from (DW.out.drew).trans (hb4.mono DW.out.size))
   have K0 := Lib.hid (below_blk (hb4 : Below w1.heap.size _ _) D0.out)
   have K1 := Lib.hid (below_blk (hb4 : Below w1.heap.size _ _) D1.out)
   have K2 := Lib.hid (below_blk (hb4 : Below w1.heap.size _ _) D2.out)
   clear hb4
   refine hK.out _ _ (⟨K0.out, K1.out⟩) (fun hHeld => ?_)
   clear hK K
   try simp only [Act.put, zq1, zq2, zq3]
   refine tk 14 88 (.int .i64 ((kk : Int) / 2 ^ n)) hHeld ?_ (hy := Or.inl ⟨by rfl, fun w' hS => (by have hn0 := HN0.out.1; have hn1 := HN0.out.2.1; have hn2 := HN0.out.2.2.1; have hn3 := HN0.out.2.2.2.1; have hn4 := HN0.out.2.2.2.2; go_simp)⟩); simp only [Act.put, zq1, zq2, zq3]
   refine tk 15 89 (.int .i64 (bits .and .i64 ((kk : Int) / 2 ^ n) 1)) hHeld ?_ (hy := Or.inl ⟨by rfl, fun w' hS => (by have hn0 := HN0.out.1; have hn1 := HN0.out.2.1; have hn2 := HN0.out.2.2.1; have hn3 := HN0.out.2.2.2.1; have hn4 := HN0.out.2.2.2.2; go_simp)⟩); simp only [Act.put, zq1, zq2, zq3]
   refine tk 16 90 (.bool true) hHeld ?_ (hy := Or.inl ⟨by rfl, fun w' hS => (by have hbt := HBT.out.symm; go_simp)⟩); simp only [Act.put, zq1, zq2, zq3]
   refine tk 17 91 (.bool true) hHeld ?_; simp only [Act.put, zq1, zq2, zq3]
   refine wpAnyH_done (by kernel_rfl) ?_ _
   obtain ⟨z0, z1, z2, z3, zf0, zf1, zf2, zf3, zl⟩ := blk_4 K2.out
   go_wp2
   obtain ⟨j0, j1, j2, j3⟩ := four K2.out rfl (.int .i64 0) (.int .i64 0) (.string ⟨#[]⟩) (.int .u64 0)
   refine bodyPost_ret (v := .tuple #[.agg #[.int .i64 0, .int .i64 0, .string ⟨#[]⟩, .int .u64 0], .bool false, .bool true]) (by simp [results, Tryz.results37, go_sem, j0, j1, j2, j3]) rfl ?_
   exact ⟨⟨0, 0, ⟨#[]⟩, 0⟩, false, true, s, rfl, .refl _ _, .same HH.out (Below.setCell (p := ⟨b2, 3, none⟩) (Below.setCell (p := ⟨b2, 2, none⟩) (Below.setCell (p := ⟨b2, 1, none⟩) (Below.setCell (p := ⟨b2, 0, none⟩) W4.out HB2W.out (.int .i64 0)) HB2W.out (.int .i64 0)) HB2W.out (.string ⟨#[]⟩)) HB2W.out (.int .u64 0)), rfl⟩
  | false =>
   refine wp_region_held_drew (S := fun w' => w'.heap[b0]? = some (.cells #[.int .i64 v.kind, .int .i64 v.n, .string v.s, .int .u64 (v.label : Int)] 26 (0, 0)) ∧ w'.heap[b1]? = some (.cells #[.int .i64 t.kind, .slice t.A t.ns.length t.c, .slice t.A2 t.xs.length t.c2] 31 (0, 0))) (by kernel_rfl) (⟨D0.out, D1.out⟩) (fun hHeld => ?_)
   refine tk 0 74 (.pointer (some ⟨b0, 0, none⟩)) hHeld ?_; simp only [Act.put, zq1, zq2, zq3]
   refine tk 1 75 (.int .i64 (n : Int)) hHeld ?_ (hy := Or.inl ⟨by rfl, fun w' hS => (by have q0 := cell_of_blk (i := 0) (v := .int .i64 v.kind) hS.1 rfl; rw [HNK.out] at q0; go_simp)⟩); simp only [Act.put, zq1, zq2, zq3]
   refine tk 2 76 (.bool false) hHeld ?_ (hy := Or.inl ⟨by rfl, fun w' hS => (by have hn0 := HN0.out.1; have hn1 := HN0.out.2.1; have hn2 := HN0.out.2.2.1; have hn3 := HN0.out.2.2.2.1; have hn4 := HN0.out.2.2.2.2; go_simp)⟩); simp only [Act.put, zq1, zq2, zq3]
   refine tk 3 77 (.bool false) hHeld ?_; simp only [Act.put, zq1, zq2, zq3]
   refine tk 4 78 (.pointer (some ⟨b0, 0, none⟩)) hHeld ?_; simp only [Act.put, zq1, zq2, zq3]
   refine tk 5 79 (.int .i64 (n : Int)) hHeld ?_ (hy := Or.inl ⟨by rfl, fun w' hS => (by have q0 := cell_of_blk (i := 0) (v := .int .i64 v.kind) hS.1 rfl; rw [HNK.out] at q0; go_simp)⟩); simp only [Act.put, zq1, zq2, zq3]
   refine tk 6 80 (.bool false) hHeld ?_ (hy := Or.inl ⟨by rfl, fun w' hS => (by have hn0 := HN0.out.1; have hn1 := HN0.out.2.1; have hn2 := HN0.out.2.2.1; have hn3 := HN0.out.2.2.2.1; have hn4 := HN0.out.2.2.2.2; go_simp)⟩); simp only [Act.put, zq1, zq2, zq3]
   refine tk 7 81 (.bool false) hHeld ?_; simp only [Act.put, zq1, zq2, zq3]
   refine tk 8 82 (.bool false) hHeld ?_; simp only [Act.put, zq1, zq2, zq3]
   refine tk 9 83 (.agg #[.int .i64 t.kind, .slice t.A t.ns.length t.c, .slice t.A2 t.xs.length t.c2]) hHeld ?_ (hy := Or.inl ⟨by rfl, fun w' hS => (by have q0 := cell_of_blk (i := 0) hS.2 rfl; have q1 := cell_of_blk (i := 1) hS.2 rfl; have q2 := cell_of_blk (i := 2) hS.2 rfl; go_simp)⟩); simp only [Act.put, zq1, zq2, zq3]
   refine tk 11 85 (.pointer (some ⟨b0, 0, none⟩)) hHeld ?_; simp only [Act.put, zq1, zq2, zq3]
   refine tk 12 86 (.int .i64 (n : Int)) hHeld ?_ (hy := Or.inl ⟨by rfl, fun w' hS => (by have q0 := cell_of_blk (i := 0) (v := .int .i64 v.kind) hS.1 rfl; rw [HNK.out] at q0; go_simp)⟩); simp only [Act.put, zq1, zq2, zq3]
   refine tk 13 87 (.int .u64 (n : Int)) hHeld ?_ (hy := Or.inl ⟨by rfl, fun w' hS => (by have hn0 := HN0.out.1; have hn1 := HN0.out.2.1; have hn2 := HN0.out.2.2.1; have hn3 := HN0.out.2.2.2.1; have hn4 := HN0.out.2.2.2.2; go_simp)⟩); simp only [Act.put, zq1, zq2, zq3]
   refine rd 10 fun K hK => ?_
   go_simp
   refine (HKN.out _ DW.out.drew).mono ?_
   rintro e w4 ⟨rfl, hb4⟩
   have W4 := Lib.hid (show Below w.heap.size w w4 from (DW.out.drew).trans (hb4.mono DW.out.size))
   have K0 := Lib.hid (below_blk (hb4 : Below w1.heap.size _ _) D0.out)
   have K1 := Lib.hid (below_blk (hb4 : Below w1.heap.size _ _) D1.out)
   have K2 := Lib.hid (below_blk (hb4 : Below w1.heap.size _ _) D2.out)
   clear hb4
   refine hK.out _ _ (⟨K0.out, K1.out⟩) (fun hHeld => ?_)
   clear hK K
   try simp only [Act.put, zq1, zq2, zq3]
   refine tk 14 88 (.int .i64 ((kk : Int) / 2 ^ n)) hHeld ?_ (hy := Or.inl ⟨by rfl, fun w' hS => (by have hn0 := HN0.out.1; have hn1 := HN0.out.2.1; have hn2 := HN0.out.2.2.1; have hn3 := HN0.out.2.2.2.1; have hn4 := HN0.out.2.2.2.2; go_simp)⟩); simp only [Act.put, zq1, zq2, zq3]
   refine tk 15 89 (.int .i64 (bits .and .i64 ((kk : Int) / 2 ^ n) 1)) hHeld ?_ (hy := Or.inl ⟨by rfl, fun w' hS => (by have hn0 := HN0.out.1; have hn1 := HN0.out.2.1; have hn2 := HN0.out.2.2.1; have hn3 := HN0.out.2.2.2.1; have hn4 := HN0.out.2.2.2.2; go_simp)⟩); simp only [Act.put, zq1, zq2, zq3]
   refine tk 16 90 (.bool false) hHeld ?_ (hy := Or.inl ⟨by rfl, fun w' hS => (by have hbt := HBT.out.symm; go_simp)⟩); simp only [Act.put, zq1, zq2, zq3]
   refine tk 17 91 (.bool false) hHeld ?_; simp only [Act.put, zq1, zq2, zq3]
   refine wpAnyH_done (by kernel_rfl) ?_ _
   obtain ⟨x0, x1, x2, x3, xf0, xf1, xf2, xf3, xl⟩ := blk_4 K0.out
   obtain ⟨z0, z1, z2, z3, zf0, zf1, zf2, zf3, zl⟩ := blk_4 K2.out
   go_wp2
   obtain ⟨j0, j1, j2, j3⟩ := four K2.out rfl (.int .i64 v.kind) (.int .i64 v.n) (.string v.s) (.int .u64 (v.label : Int))
   refine bodyPost_ret (v := .tuple #[.agg #[.int .i64 v.kind, .int .i64 v.n, .string v.s, .int .u64 (v.label : Int)], .bool true, .bool true]) (by simp [results, Tryz.results37, go_sem, j0, j1, j2, j3]) rfl ?_
   exact ⟨v, true, true, s, rfl, .refl _ _, .same HH.out (Below.setCell (p := ⟨b2, 3, none⟩) (Below.setCell (p := ⟨b2, 2, none⟩) (Below.setCell (p := ⟨b2, 1, none⟩) (Below.setCell (p := ⟨b2, 0, none⟩) W4.out HB2W.out (.int .i64 v.kind)) HB2W.out (.int .i64 v.n)) HB2W.out (.string v.s)) HB2W.out (.int .u64 (v.label : Int))), rfl⟩
end Go.Proofs.YtilcofpceadpbaaGreatDoor
