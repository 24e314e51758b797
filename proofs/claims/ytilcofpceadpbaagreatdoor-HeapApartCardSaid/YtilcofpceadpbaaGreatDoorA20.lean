/-
 HeapApart: part 20 of what the claim rests on.
-/
import Derived.Test.YtilcofpceadpbaaGreatDoorA19
set_option linter.unusedVariables false
set_option linter.unusedSimpArgs false
set_option maxHeartbeats 64000000
namespace Go.Proofs.YtilcofpceadpbaaGreatDoor
open Go.ChangeShapes Go.WideShapes Go.ChangeAt Go.RowKit Go.Maps

theorem rofV_none {w : World} {B N h : Nat} {s : HpS} {d : HpD} (H : RpAt w B N h s d) {t : VV} (ht : ofI s t = none) : ofV (ptrs d.ps) t = .pointer none := by
 unfold ofI at ht
 unfold ofV
 split
 ·rename_i hk
  unfold atV
  split
  ·rename_i h0
   split at ht
   ·cases ht
   ·rename_i hc
    have : s.T.length ≤ t.n.toNat := by
     rcases Int.lt_or_le t.n s.T.length with h1 | h1
     ·exact absurd ⟨hk, h0, h1⟩ hc
     ·omega
    rw [List.getElem?_eq_none (by simp [ptrs, H.lp]; exact this)]
    rfl
  ·rfl
 ·rfl
theorem rofV_some {w : World} {B N h : Nat} {s : HpS} {d : HpD} (H : RpAt w B N h s d) {t : VV} {i : Nat} (ht : ofI s t = some i) : ∃ p f T, s.T[i]? = some T ∧ d.ps[i]? = some p ∧ d.fps[i]? = some f ∧ RTabIn w B p T f ∧ ofV (ptrs d.ps) t = .pointer (some ⟨p, 0, none⟩) ∧ t.kind = 4 ∧ t.n = (i : Int) := by
 unfold ofI at ht
 split at ht
 ·rename_i hc
  injection ht with ht
  have hi : i < s.T.length := by omega
  obtain ⟨p, f, h1, h2, h3⟩ := H.tab (List.getElem?_eq_getElem hi)
  refine ⟨p, f, _, List.getElem?_eq_getElem hi, h1, h2, h3, ?_, hc.1, by omega⟩
  unfold ofV atV
  rw [if_pos hc.1, if_pos hc.2.1, ht]
  simp [ptrs, h1]
 ·cases ht
set_option maxRecDepth 100000 in
theorem rof_at {w : World} {B N h : Nat} {s : HpS} {d : HpD} (H : RpAt w B N h s d) (t : VV) (hn : s.T.length ≤ 1000000) :
  Calls Tryz.prog 18 #[.pointer (some ⟨h, 0, none⟩), .agg #[.int .i64 t.kind, .int .i64 t.n, .string t.s, .int .u64 (t.label : Int)]] w (RetB (ofV (ptrs d.ps) t) w) := by
 have HH := Lib.hid H
 obtain ⟨ov, hov⟩ : ∃ ov, ov = ofV (ptrs d.ps) t := ⟨_, rfl⟩
 rw [← hov]
 have HOV := Lib.hid hov
 have HLP := Lib.hid (show (ptrs d.ps).length = s.T.length by simp [ptrs, H.lp])
 clear hov H
 obtain ⟨b0, hb0⟩ : ∃ b, b = w.heap.size := ⟨_, rfl⟩
 have HE_b0 := Lib.hid hb0
 clear hb0
 go_enter Tryz.func18, Tryz.ntmps18
 go_upto_region 1 with fail
 rw [← HE_b0.out]
 refine gen_wp fun W hW => ?_
 have HB_b0 := Lib.hid (show W.heap[b0]? = some (.cells #[.int .i64 t.kind, .int .i64 t.n, .string t.s, .int .u64 (t.label : Int)] 26 (0, 0)) by rw [← hW, HE_b0.out]; exact heap_new_at _ _ _ (by first | rfl | simp))
 have HW := Lib.hid (show Below w.heap.size w W by rw [← hW]; exact (Below.refl _ _).alloc (by simp <;> omega) _)
 clear hW
 obtain ⟨_, _, c2, _, _, cf, cl⟩ := rp_cells (HH.out.below HW.out)
 have cf2 := cf 2
 clear cf
 obtain ⟨q0, q1, q2, q3, qf0, qf1, qf2, qf3, ql⟩ := blk_4 HB_b0.out
 by_cases hk : t.kind = 4
 ·by_cases h0 : t.n < 0
  ·have hov : ov = .pointer none := by rw [HOV.out]; unfold ofV atV; rw [if_pos hk, if_neg (by omega)]
   have HOVV := Lib.hid hov
   clear hov
   go_wp2_with fail
   go_quiet (fail)
   go_wp2
   go_returns
   exact ⟨by rw [HOVV.out]; rfl, belowDN HW.out _⟩
  by_cases h1 : t.n < (s.T.length : Int)
  ·obtain ⟨j, hj⟩ : ∃ j : Nat, t.n = (j : Int) := ⟨t.n.toNat, by omega⟩
   have hjl : j < s.T.length := by omega
   obtain ⟨x, hxj⟩ : ∃ x, (ptrs d.ps)[j]? = some x := ⟨_, List.getElem?_eq_getElem (by rw [HLP.out]; exact hjl)⟩
   have hov : ov = x := by rw [HOV.out]; unfold ofV atV; rw [if_pos hk, if_pos (by omega), hj]; simp [hxj]
   obtain ⟨A', c', e, _, _, hf⟩ := own_form (HH.out.below HW.out).o1
   injection e with e1 e2 e3
   obtain ⟨gb, e4, _, hlt, _, hc⟩ := hf (by omega)
   rw [e1, e4] at c2
   have hcj := hc j x hxj
   rw [hj] at q1
   have hj0 : ¬ ((j : Int) < 0) := by omega
   have hge : ¬ ((j : Int) ≥ (s.T.length : Int)) := by omega
   have hj0' : (0 : Int) ≤ j := by omega
   have hj1' : (j : Int) < (s.T.length : Int) := by omega
   have HOVV := Lib.hid hov
   clear hov hf hc e1 e2 e3 e4 h0 h1 hxj hjl
   have HJ := Lib.hid hj
   clear hj
   go_wp2_with fail
   go_quiet (fail)
   go_wp2_with fail
   go_quiet (fail)
   go_wp2
   go_returns
   exact ⟨by rw [HOVV.out]; rfl, belowDN (belowDN HW.out _) _⟩
  ·have hge : t.n ≥ (s.T.length : Int) := by omega
   have hov : ov = .pointer none := by rw [HOV.out]; unfold ofV atV; rw [if_pos hk, if_pos (by omega), List.getElem?_eq_none (by rw [HLP.out]; omega)]; rfl
   have HOVV := Lib.hid hov
   clear hov
   go_wp2_with fail
   go_quiet (fail)
   go_wp2
   go_returns
   exact ⟨by rw [HOVV.out]; rfl, belowDN HW.out _⟩
 ·have hov : ov = .pointer none := by rw [HOV.out]; unfold ofV; rw [if_neg hk]
  have HOVV := Lib.hid hov
  clear hov
  go_wp2_with fail
  go_quiet (fail)
  go_wp2
  go_returns
  exact ⟨by rw [HOVV.out]; rfl, belowDN HW.out _⟩
set_option maxRecDepth 100000 in
theorem rget_at {w : World} {B N h : Nat} {s : HpS} {d : HpD} (H : RpAt w B N h s d) {m : Nat} (ok : HpOk m s) (hm : m ≤ 1000) (t k : VV) (kk : HVOk k) :
  Calls Tryz.prog 21 #[.pointer (some ⟨h, 0, none⟩), .agg #[.int .i64 t.kind, .int .i64 t.n, .string t.s, .int .u64 (t.label : Int)], .agg #[.int .i64 k.kind, .int .i64 k.n, .string k.s, .int .u64 (k.label : Int)]] w (RetV w) := by
 obtain ⟨b0, hb0⟩ : ∃ b, b = w.heap.size := ⟨_, rfl⟩
 obtain ⟨b1, hb1⟩ : ∃ b, b = w.heap.size + 1 := ⟨_, rfl⟩
 obtain ⟨b2, hb2⟩ : ∃ b, b = w.heap.size + 1 + 1 := ⟨_, rfl⟩
 have HE0 := Lib.hid hb0
 have HE1 := Lib.hid hb1
 have HE2 := Lib.hid hb2
 have HH := Lib.hid H
 have HOK := Lib.hid (And.intro ok (And.intro hm kk))
 clear hb0 hb1 hb2 H ok hm kk
 go_enter Tryz.func21, Tryz.ntmps21
 go_upto_region 1 with fail
 rw [← HE2.out, ← HE1.out, ← HE0.out]
 refine gen_wp fun W hW => ?_
 have HB0 := Lib.hid (show W.heap[b0]? = some (.cells #[.int .i64 t.kind, .int .i64 t.n, .string t.s, .int .u64 (t.label : Int)] 26 (0, 0)) by rw [← hW, HE0.out]; exact blk_alloc (blk_alloc (heap_new_at _ _ _ (by first | rfl | simp)) _) _)
 have HB1 := Lib.hid (show W.heap[b1]? = some (.cells #[.int .i64 k.kind, .int .i64 k.n, .string k.s, .int .u64 (k.label : Int)] 26 (0, 0)) by rw [← hW, HE1.out]; exact blk_alloc (heap_new_at _ _ _ (by first | rfl | simp)) _)
 have HB2 := Lib.hid (show W.heap[b2]? = some (.cells #[.int .i64 0, .int .i64 0, .string ⟨#[]⟩, .int .u64 0] 26 (0, 0)) by rw [← hW, HE2.out]; exact heap_new_at _ _ _ (by first | rfl | simp))
 have HW := Lib.hid (show Below w.heap.size w W by rw [← hW]; exact (((Below.refl _ _).alloc (Nat.le_refl _) _).alloc (by simp) _).alloc (by simp; omega) _)
 clear hW
 have HOF := Lib.hid (rof_at (HH.out.below HW.out) t (by have := HOK.out.1.tl; have := HOK.out.2.1; omega))
 obtain ⟨p0, p1, p2, p3, pf0, pf1, pf2, pf3, pl⟩ := blk_4 HB0.out
 obtain ⟨q0, q1, q2, q3, qf0, qf1, qf2, qf3, ql⟩ := blk_4 HB2.out
 rcases hof : ofI s t with _ | i
 ·rw [rofV_none (HH.out.below HW.out) hof] at HOF
  clear hof
  go_wp2_with fail
  refine HOF.out.mono ?_
  rintro e w1 ⟨rfl, hb⟩
  have D2 := Lib.hid (below_blk hb HB2.out)
  have DW := Lib.hid (HW.out.trans (hb.mono HW.out.size))
  clear hb
  obtain ⟨r0, r1, r2, r3, rf0, rf1, rf2, rf3, rl⟩ := blk_4 D2.out
  go_wp2
  obtain ⟨j0, j1, j2, j3⟩ := four D2.out rfl (.int .i64 0) (.int .i64 0) (.string ⟨#[]⟩) (.int .u64 0)
  refine bodyPost_ret (v := .agg #[.int .i64 0, .int .i64 0, .string ⟨#[]⟩, .int .u64 0]) (by simp [results, Tryz.results21, go_sem, j0, j1, j2, j3]) rfl ?_
  exact ⟨(Below.setCell (p := ⟨b2, 3, none⟩) (Below.setCell (p := ⟨b2, 2, none⟩) (Below.setCell (p := ⟨b2, 1, none⟩) (Below.setCell (p := ⟨b2, 0, none⟩) DW.out (show w.heap.size ≤ b2 by have := HE2.out; omega) (.int .i64 0)) (show w.heap.size ≤ b2 by have := HE2.out; omega) (.int .i64 0)) (show w.heap.size ≤ b2 by have := HE2.out; omega) (.string ⟨#[]⟩)) (show w.heap.size ≤ b2 by have := HE2.out; omega) (.int .u64 0)), ⟨0, 0, ⟨#[]⟩, 0⟩, rfl⟩
 ·obtain ⟨p, f, T, h1, h2, h3, h4, h5, h6, h7⟩ := rofV_some (HH.out.below HW.out) hof
  rw [h5] at HOF
  have H4 := Lib.hid h4
  have HT := Lib.hid (HOK.out.1.tab T (List.mem_of_getElem? h1))
  clear hof h1 h2 h3 h4 h5 h6 h7
  go_wp2_with fail
  refine HOF.out.mono ?_
  rintro e w1 ⟨rfl, hb⟩
  have D1 := Lib.hid (below_blk hb HB1.out)
  have D2 := Lib.hid (below_blk hb HB2.out)
  have DW := Lib.hid (HW.out.trans (hb.mono HW.out.size))
  have HTG := Lib.hid (rget_any (H4.out.kept (Fr.of_below hb []) (by simp)) HT.out.1 HOK.out.2.2.vok (by have := HT.out.2.1; have := HOK.out.2.1; omega))
  obtain ⟨x, hx⟩ : ∃ x, x = withV (getV T.F k) (k.label ||| T.l) := ⟨_, rfl⟩
  rw [← hx] at HTG
  unfold vvCells at HTG
  clear hb hx p0 pf0 p1 pf1 p2 pf2 p3 pf3 pl q0 qf0 q1 qf1 q2 qf2 q3 qf3 ql
  obtain ⟨r0, r1, r2, r3, rf0, rf1, rf2, rf3, rl⟩ := blk_4 D1.out
  go_wp2_with fail
  refine HTG.out.mono ?_
  rintro e w2 ⟨rfl, hb⟩
  have E2 := Lib.hid (below_blk hb D2.out)
  have EW := Lib.hid (DW.out.trans (hb.mono DW.out.size))
  clear hb r0 rf0 r1 rf1 r2 rf2 r3 rf3 rl
  obtain ⟨u0, u1, u2, u3, uf0, uf1, uf2, uf3, ul⟩ := blk_4 E2.out
  go_wp2
  obtain ⟨j0, j1, j2, j3⟩ := four E2.out rfl (.int .i64 x.kind) (.int .i64 x.n) (.string x.s) (.int .u64 (x.label : Int))
  refine bodyPost_ret (v := .agg #[.int .i64 x.kind, .int .i64 x.n, .string x.s, .int .u64 (x.label : Int)]) (by simp [results, Tryz.results21, go_sem, j0, j1, j2, j3]) rfl ?_
  exact ⟨(Below.setCell (p := ⟨b2, 3, none⟩) (Below.setCell (p := ⟨b2, 2, none⟩) (Below.setCell (p := ⟨b2, 1, none⟩) (Below.setCell (p := ⟨b2, 0, none⟩) EW.out (show w.heap.size ≤ b2 by have := HE2.out; omega) (.int .i64 x.kind)) (show w.heap.size ≤ b2 by have := HE2.out; omega) (.int .i64 x.n)) (show w.heap.size ≤ b2 by have := HE2.out; omega) (.string x.s)) (show w.heap.size ≤ b2 by have := HE2.out; omega) (.int .u64 (x.label : Int))), x, rfl⟩
end Go.Proofs.YtilcofpceadpbaaGreatDoor
