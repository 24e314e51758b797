/-
 HeapApart: part 26 of what the claim rests on.
-/
import Derived.Test.YtilcofpceadpbaaGreatDoorA20
set_option linter.unusedVariables false
set_option linter.unusedSimpArgs false
set_option maxHeartbeats 64000000
namespace Go.Proofs.YtilcofpceadpbaaGreatDoor
open Go.ChangeShapes Go.WideShapes Go.ChangeAt Go.RowKit Go.Maps

def RFnGot (f : FnS) (w : World) (e : Ending) (w' : World) : Prop := Below w.heap.size w w' ∧ e = .returned (.tuple #[.agg #[.int .i64 f.pr, .slice f.A f.n f.c, .int .i64 f.x.kind, .int .i64 f.x.n, .string f.x.s, .int .u64 (f.x.label : Int), .int .i64 f.ty.kind, .slice f.ty.A f.ty.ns.length f.ty.c, .slice f.ty.A2 f.ty.xs.length f.ty.c2, .int .i64 f.ca, .bool f.wr], .bool true])
set_option maxRecDepth 100000 in
theorem rfn_none {w : World} {B N h : Nat} {s : HpS} {d : HpD} (H : RpAt w B N h s d) (v : VV) (hn : s.F.length ≤ 1000000) (hf : fnI s v = none) :
  Calls Tryz.prog 25 #[.pointer (some ⟨h, 0, none⟩), .agg #[.int .i64 v.kind, .int .i64 v.n, .string v.s, .int .u64 (v.label : Int)]] w (RetB (.tuple #[.agg #[.int .i64 0, .slice none 0 0, .int .i64 0, .int .i64 0, .string ⟨#[]⟩, .int .u64 0, .int .i64 0, .slice none 0 0, .slice none 0 0, .int .i64 0, .bool false], .bool false]) w) := by
 have HH := Lib.hid H
 have HF := Lib.hid hf
 clear H hf
 obtain ⟨b0, hb0⟩ : ∃ b, b = w.heap.size := ⟨_, rfl⟩
 have HE_b0 := Lib.hid hb0
 obtain ⟨b1, hb1⟩ : ∃ b, b = w.heap.size + 1 := ⟨_, rfl⟩
 have HE_b1 := Lib.hid hb1
 clear hb0 hb1
 go_enter Tryz.func25, Tryz.ntmps25
 go_upto_region 1 with fail
 rw [← HE_b1.out, ← HE_b0.out]
 refine gen_wp fun W hW => ?_
 have HB_b0 := Lib.hid (show W.heap[b0]? = some (.cells #[.int .i64 v.kind, .int .i64 v.n, .string v.s, .int .u64 (v.label : Int)] 26 (0, 0)) by rw [← hW, HE_b0.out]; exact blk_alloc (heap_new_at _ _ _ (by first | rfl | simp)) _)
 have HB_b1 := Lib.hid (show W.heap[b1]? = some (.cells #[.int .i64 0, .slice none 0 0, .int .i64 0, .int .i64 0, .string ⟨#[]⟩, .int .u64 0, .int .i64 0, .slice none 0 0, .slice none 0 0, .int .i64 0, .bool false] 79 (0, 0)) by rw [← hW, HE_b1.out]; exact heap_new_at _ _ _ (by first | rfl | simp))
 have HW := Lib.hid (show Below w.heap.size w W by rw [← hW]; exact ((Below.refl _ _).alloc (by simp <;> omega) _).alloc (by simp <;> omega) _)
 clear hW
 obtain ⟨_, _, _, c3, _, cf, cl⟩ := rp_cells (HH.out.below HW.out)
 have cf3 := cf 3
 clear cf
 obtain ⟨q0, q1, q2, q3, qf0, qf1, qf2, qf3, ql⟩ := blk_4 HB_b0.out
 by_cases hk : v.kind = 5
 ·by_cases h0 : v.n < 0
  ·go_wp2_with fail
   go_quiet (fail)
   go_upto_region 2 with fail
   refine gen_wp fun X hX => ?_
   have X1 := Lib.hid (show X.heap[b1]? = some (.cells #[.int .i64 0, .slice none 0 0, .int .i64 0, .int .i64 0, .string ⟨#[]⟩, .int .u64 0, .int .i64 0, .slice none 0 0, .slice none 0 0, .int .i64 0, .bool false] 79 (0, 0)) by rw [← hX]; exact HB_b1.out)
   have XW := Lib.hid (show Below w.heap.size w X by rw [← hX]; exact belowDN HW.out _)
   clear hX c3 cf3 cl q0 qf0 q1 qf1 q2 qf2 q3 qf3 ql
   obtain ⟨r0, r1, r2, r3, r4, r5, r6, r7, r8, r9, r10, rf0, rf1, rf2, rf3, rf4, rf5, rf6, rf7, rf8, rf9, rf10, rl⟩ := blk_11 X1.out
   go_wp2
   obtain ⟨j0, j1, j2, j3, j4, j5, j6, j7, j8, j9, j10⟩ := eleven X1.out rfl (.int .i64 0) (.slice none 0 0) (.int .i64 0) (.int .i64 0) (.string ⟨#[]⟩) (.int .u64 0) (.int .i64 0) (.slice none 0 0) (.slice none 0 0) (.int .i64 0) (.bool false)
   refine bodyPost_ret (v := .tuple #[.agg #[.int .i64 0, .slice none 0 0, .int .i64 0, .int .i64 0, .string ⟨#[]⟩, .int .u64 0, .int .i64 0, .slice none 0 0, .slice none 0 0, .int .i64 0, .bool false], .bool false]) (by simp [results, Tryz.results25, go_sem, j0, j1, j2, j3, j4, j5, j6, j7, j8, j9, j10]) rfl ?_
   exact ⟨rfl, el_below XW.out (show w.heap.size ≤ b1 by have := HE_b1.out; omega) (.int .i64 0) (.slice none 0 0) (.int .i64 0) (.int .i64 0) (.string ⟨#[]⟩) (.int .u64 0) (.int .i64 0) (.slice none 0 0) (.slice none 0 0) (.int .i64 0) (.bool false)⟩
  ·have hge : v.n ≥ (s.F.length : Int) := by
    rcases Int.lt_or_le v.n s.F.length with h1 | h1
    ·have hf := HF.out
     unfold fnI at hf
     rw [if_pos ⟨hk, by omega, h1⟩, List.getElem?_eq_none_iff] at hf
     omega
    ·omega
   go_wp2_with fail
   go_quiet (fail)
   go_upto_region 2 with fail
   refine gen_wp fun X hX => ?_
   have X1 := Lib.hid (show X.heap[b1]? = some (.cells #[.int .i64 0, .slice none 0 0, .int .i64 0, .int .i64 0, .string ⟨#[]⟩, .int .u64 0, .int .i64 0, .slice none 0 0, .slice none 0 0, .int .i64 0, .bool false] 79 (0, 0)) by rw [← hX]; exact HB_b1.out)
   have XW := Lib.hid (show Below w.heap.size w X by rw [← hX]; exact belowDN HW.out _)
   clear hX c3 cf3 cl q0 qf0 q1 qf1 q2 qf2 q3 qf3 ql
   obtain ⟨r0, r1, r2, r3, r4, r5, r6, r7, r8, r9, r10, rf0, rf1, rf2, rf3, rf4, rf5, rf6, rf7, rf8, rf9, rf10, rl⟩ := blk_11 X1.out
   go_wp2
   obtain ⟨j0, j1, j2, j3, j4, j5, j6, j7, j8, j9, j10⟩ := eleven X1.out rfl (.int .i64 0) (.slice none 0 0) (.int .i64 0) (.int .i64 0) (.string ⟨#[]⟩) (.int .u64 0) (.int .i64 0) (.slice none 0 0) (.slice none 0 0) (.int .i64 0) (.bool false)
   refine bodyPost_ret (v := .tuple #[.agg #[.int .i64 0, .slice none 0 0, .int .i64 0, .int .i64 0, .string ⟨#[]⟩, .int .u64 0, .int .i64 0, .slice none 0 0, .slice none 0 0, .int .i64 0, .bool false], .bool false]) (by simp [results, Tryz.results25, go_sem, j0, j1, j2, j3, j4, j5, j6, j7, j8, j9, j10]) rfl ?_
   exact ⟨rfl, el_below XW.out (show w.heap.size ≤ b1 by have := HE_b1.out; omega) (.int .i64 0) (.slice none 0 0) (.int .i64 0) (.int .i64 0) (.string ⟨#[]⟩) (.int .u64 0) (.int .i64 0) (.slice none 0 0) (.slice none 0 0) (.int .i64 0) (.bool false)⟩
 ·go_wp2_with fail
  go_quiet (fail)
  go_upto_region 2 with fail
  refine gen_wp fun X hX => ?_
  have X1 := Lib.hid (show X.heap[b1]? = some (.cells #[.int .i64 0, .slice none 0 0, .int .i64 0, .int .i64 0, .string ⟨#[]⟩, .int .u64 0, .int .i64 0, .slice none 0 0, .slice none 0 0, .int .i64 0, .bool false] 79 (0, 0)) by rw [← hX]; exact HB_b1.out)
  have XW := Lib.hid (show Below w.heap.size w X by rw [← hX]; exact belowDN HW.out _)
  clear hX c3 cf3 cl q0 qf0 q1 qf1 q2 qf2 q3 qf3 ql
  obtain ⟨r0, r1, r2, r3, r4, r5, r6, r7, r8, r9, r10, rf0, rf1, rf2, rf3, rf4, rf5, rf6, rf7, rf8, rf9, rf10, rl⟩ := blk_11 X1.out
  go_wp2
  obtain ⟨j0, j1, j2, j3, j4, j5, j6, j7, j8, j9, j10⟩ := eleven X1.out rfl (.int .i64 0) (.slice none 0 0) (.int .i64 0) (.int .i64 0) (.string ⟨#[]⟩) (.int .u64 0) (.int .i64 0) (.slice none 0 0) (.slice none 0 0) (.int .i64 0) (.bool false)
  refine bodyPost_ret (v := .tuple #[.agg #[.int .i64 0, .slice none 0 0, .int .i64 0, .int .i64 0, .string ⟨#[]⟩, .int .u64 0, .int .i64 0, .slice none 0 0, .slice none 0 0, .int .i64 0, .bool false], .bool false]) (by simp [results, Tryz.results25, go_sem, j0, j1, j2, j3, j4, j5, j6, j7, j8, j9, j10]) rfl ?_
  exact ⟨rfl, el_below XW.out (show w.heap.size ≤ b1 by have := HE_b1.out; omega) (.int .i64 0) (.slice none 0 0) (.int .i64 0) (.int .i64 0) (.string ⟨#[]⟩) (.int .u64 0) (.int .i64 0) (.slice none 0 0) (.slice none 0 0) (.int .i64 0) (.bool false)⟩
set_option maxRecDepth 100000 in
theorem rfn_got {w : World} {B N h : Nat} {s : HpS} {d : HpD} (H : RpAt w B N h s d) (v : VV) (hn : s.F.length ≤ 1000000) {f : FnS} (hf : fnI s v = some f) :
  Calls Tryz.prog 25 #[.pointer (some ⟨h, 0, none⟩), .agg #[.int .i64 v.kind, .int .i64 v.n, .string v.s, .int .u64 (v.label : Int)]] w (RFnGot f w) := by
 obtain ⟨j, hj, hk, hvn⟩ := fnI_some hf
 have hjl := (List.getElem?_eq_some_iff.1 hj).1
 obtain ⟨A', c', e, _, _, hfm⟩ := own_form H.o2
 injection e with e1 e2 e3
 obtain ⟨gb, e4, _, hlt, _, hc⟩ := hfm (by omega)
 have hA2 : d.A2 = some ⟨gb, 0, none⟩ := by rw [e1, e4]
 have hcs := elem_cells (w := w) (ad := ⟨gb, 0, none⟩) (K := 11) fn_len (fun i u hu => by rw [Addr.add_mid, Nat.zero_add]; exact hc i u hu) hj
 have HQ := Lib.hid (show ∀ W', Below w.heap.size w W' → W'.cell? ⟨h, 3, none⟩ = some (.slice (some ⟨gb, 0, none⟩) s.F.length d.c2) ∧ ∀ i u, (fnEnc f)[i]? = some u → W'.cell? ⟨gb, j * 11 + i, none⟩ = some u from fun W' hb => by
  refine ⟨?_, fun i u hu => ?_⟩
  ·have := (rp_cells (H.below hb)).2.2.2.1
   rw [hA2] at this
   exact this
  ·have h1 := hcs i u hu
   rw [Addr.add_mid, Addr.add_mid, Nat.zero_add] at h1
   rw [hb.cell (by exact hlt)]
   exact h1)
 have HL := Lib.hid (show h < w.heap.size ∧ gb < w.heap.size from ⟨blk_lt H.blk, hlt⟩)
 have HVN := Lib.hid (And.intro hvn hk)
 have HJL := Lib.hid hjl
 clear hfm hc hcs hf e1 e2 e3 e4 hA2 H hj hlt hvn hk hn hjl
 obtain ⟨b0, hb0⟩ : ∃ b, b = w.heap.size := ⟨_, rfl⟩
 have HE_b0 := Lib.hid hb0
 obtain ⟨b1, hb1⟩ : ∃ b, b = w.heap.size + 1 := ⟨_, rfl⟩
 have HE_b1 := Lib.hid hb1
 clear hb0 hb1
 go_enter Tryz.func25, Tryz.ntmps25
 go_upto_region 1 with fail
 rw [← HE_b1.out, ← HE_b0.out]
 refine gen_wp fun W hW => ?_
 have HB_b0 := Lib.hid (show W.heap[b0]? = some (.cells #[.int .i64 v.kind, .int .i64 v.n, .string v.s, .int .u64 (v.label : Int)] 26 (0, 0)) by rw [← hW, HE_b0.out]; exact blk_alloc (heap_new_at _ _ _ (by first | rfl | simp)) _)
 have HB_b1 := Lib.hid (show W.heap[b1]? = some (.cells #[.int .i64 0, .slice none 0 0, .int .i64 0, .int .i64 0, .string ⟨#[]⟩, .int .u64 0, .int .i64 0, .slice none 0 0, .slice none 0 0, .int .i64 0, .bool false] 79 (0, 0)) by rw [← hW, HE_b1.out]; exact heap_new_at _ _ _ (by first | rfl | simp))
 have HW := Lib.hid (show Below w.heap.size w W by rw [← hW]; exact ((Below.refl _ _).alloc (by simp <;> omega) _).alloc (by simp <;> omega) _)
 clear hW
 obtain ⟨q0, q1, q2, q3, qf0, qf1, qf2, qf3, ql⟩ := blk_4 HB_b0.out
 have c3 := (HQ.out W HW.out).1
 have cl : h < W.heap.size := Nat.lt_of_lt_of_le HL.out.1 HW.out.size
 have hjl := HJL.out
 have hk := HVN.out.2
 have hvn := HVN.out.1
 rw [hvn] at q1
 have hj0 : ¬ ((j : Int) < 0) := by omega
 have hj0' : (0 : Int) ≤ j := by omega
 have hge : ¬ ((j : Int) ≥ (s.F.length : Int)) := by omega
 have hj1' : (j : Int) < (s.F.length : Int) := by omega
 clear hvn hjl
 go_wp2_with fail
 go_quiet (fail)
 go_upto_region 3 with fail
 refine gen_wp fun X hX => ?_
 have X0 := Lib.hid (show X.heap[b0]? = some (.cells #[.int .i64 v.kind, .int .i64 v.n, .string v.s, .int .u64 (v.label : Int)] 26 (0, 0)) by rw [← hX]; exact HB_b0.out)
 have X1 := Lib.hid (show X.heap[b1]? = some (.cells #[.int .i64 0, .slice none 0 0, .int .i64 0, .int .i64 0, .string ⟨#[]⟩, .int .u64 0, .int .i64 0, .slice none 0 0, .slice none 0 0, .int .i64 0, .bool false] 79 (0, 0)) by rw [← hX]; exact HB_b1.out)
 have XW := Lib.hid (show Below w.heap.size w X by rw [← hX]; exact belowDN HW.out _)
 have HE := Lib.hid (show b0 ≠ b1 by have := HE_b0.out; have := HE_b1.out; omega)
 clear hX c3 cl q0 qf0 q1 qf1 q2 qf2 q3 qf3 ql
 have HJ := Lib.hid (And.intro hj0 (And.intro hge (And.intro hj0' hj1')))
 go_wp2_with fail
 refine wp_region_held_drew (S := fun w' => Below w.heap.size w w' ∧ w'.heap[b0]? = some (.cells #[.int .i64 v.kind, .int .i64 v.n, .string v.s, .int .u64 (v.label : Int)] 26 (0, 0))) (by kernel_rfl) (⟨XW.out.drew, X0.out⟩) (fun hHeld => ?_)
 refine tk 0 25 (.pointer (some ⟨h, 0, none⟩)) hHeld ?_; simp only [Act.put, zq1, zq2, zq3]
 refine tk 1 26 (.pointer (some ⟨h, 0, none⟩)) hHeld ?_; simp only [Act.put, zq1, zq2, zq3]
 refine tk 2 27 (.pointer (some ⟨h, 3, none⟩)) hHeld ?_; simp only [Act.put, zq1, zq2, zq3]
 refine tk 3 28 (.slice (some ⟨gb, 0, none⟩) s.F.length d.c2) hHeld ?_ (hy := Or.inl ⟨by rfl, fun w' hS => (by have q0 := (HQ.out w' hS.1).1; go_simp)⟩); simp only [Act.put, zq1, zq2, zq3]
 refine tk 4 29 (.pointer (some ⟨b0, 1, none⟩)) hHeld ?_; simp only [Act.put, zq1, zq2, zq3]
 refine tk 5 30 (.int .i64 (j : Int)) hHeld ?_ (hy := Or.inl ⟨by rfl, fun w' hS => (by have q1 := cell_of_blk (i := 1) (v := .int .i64 v.n) hS.2 rfl; rw [HVN.out.1] at q1; go_simp)⟩); simp only [Act.put, zq1, zq2, zq3]
 refine tk 6 31 (.pointer (some ⟨gb, j * 11, none⟩)) hHeld ?_; simp only [Act.put, zq1, zq2, zq3]
 refine tk 7 32 (.agg #[.int .i64 f.pr, .slice f.A f.n f.c, .int .i64 f.x.kind, .int .i64 f.x.n, .string f.x.s, .int .u64 (f.x.label : Int), .int .i64 f.ty.kind, .slice f.ty.A f.ty.ns.length f.ty.c, .slice f.ty.A2 f.ty.xs.length f.ty.c2, .int .i64 f.ca, .bool f.wr]) hHeld ?_ (hy := Or.inl ⟨by rfl, fun w' hS => (by have q0 : w'.cell? ⟨gb, j * 11, none⟩ = some (.int .i64 f.pr) := (HQ.out w' hS.1).2 0 _ rfl; have q1 : w'.cell? ⟨gb, j * 11 + 1, none⟩ = some (.slice f.A f.n f.c) := (HQ.out w' hS.1).2 1 _ rfl; have q2 : w'.cell? ⟨gb, j * 11 + 2, none⟩ = some (.int .i64 f.x.kind) := (HQ.out w' hS.1).2 2 _ rfl; have q3 : w'.cell? ⟨gb, j * 11 + 3, none⟩ = some (.int .i64 f.x.n) := (HQ.out w' hS.1).2 3 _ rfl; have q4 : w'.cell? ⟨gb, j * 11 + 4, none⟩ = some (.string f.x.s) := (HQ.out w' hS.1).2 4 _ rfl; have q5 : w'.cell? ⟨gb, j * 11 + 5, none⟩ = some (.int .u64 (f.x.label : Int)) := (HQ.out w' hS.1).2 5 _ rfl; have q6 : w'.cell? ⟨gb, j * 11 + 6, none⟩ = some (.int .i64 f.ty.kind) := (HQ.out w' hS.1).2 6 _ rfl; have q7 : w'.cell? ⟨gb, j * 11 + 7, none⟩ = some (.slice f.ty.A f.ty.ns.length f.ty.c) := (HQ.out w' hS.1).2 7 _ rfl; have q8 : w'.cell? ⟨gb, j * 11 + 8, none⟩ = some (.slice f.ty.A2 f.ty.xs.length f.ty.c2) := (HQ.out w' hS.1).2 8 _ rfl; have q9 : w'.cell? ⟨gb, j * 11 + 9, none⟩ = some (.int .i64 f.ca) := (HQ.out w' hS.1).2 9 _ rfl; have q10 : w'.cell? ⟨gb, j * 11 + 10, none⟩ = some (.bool f.wr) := (HQ.out w' hS.1).2 10 _ rfl; go_simp)⟩); simp only [Act.put, zq1, zq2, zq3]
 generalize hXD : X.drew = XD
 have D1X := Lib.hid (show XD.heap[b1]? = some (.cells #[.int .i64 0, .slice none 0 0, .int .i64 0, .int .i64 0, .string ⟨#[]⟩, .int .u64 0, .int .i64 0, .slice none 0 0, .slice none 0 0, .int .i64 0, .bool false] 79 (0, 0)) by rw [← hXD]; exact X1.out)
 have D0X := Lib.hid (show XD.heap[b0]? = some (.cells #[.int .i64 v.kind, .int .i64 v.n, .string v.s, .int .u64 (v.label : Int)] 26 (0, 0)) by rw [← hXD]; exact X0.out)
 have DWX := Lib.hid (show Below w.heap.size w XD by rw [← hXD]; exact XW.out.drew)
 clear hXD
 obtain ⟨r0, r1, r2, r3, r4, r5, r6, r7, r8, r9, r10, rf0, rf1, rf2, rf3, rf4, rf5, rf6, rf7, rf8, rf9, rf10, rl⟩ := blk_11 D1X.out
 refine rd 8 fun K hK => ?_
 go_simp
 refine hK.out _ _ (⟨el_below DWX.out (show w.heap.size ≤ b1 by have := HE_b1.out; omega) (.int .i64 f.pr) (.slice f.A f.n f.c) (.int .i64 f.x.kind) (.int .i64 f.x.n) (.string f.x.s) (.int .u64 (f.x.label : Int)) (.int .i64 f.ty.kind) (.slice f.ty.A f.ty.ns.length f.ty.c) (.slice f.ty.A2 f.ty.xs.length f.ty.c2) (.int .i64 f.ca) (.bool f.wr), el_far D0X.out HE.out (.int .i64 f.pr) (.slice f.A f.n f.c) (.int .i64 f.x.kind) (.int .i64 f.x.n) (.string f.x.s) (.int .u64 (f.x.label : Int)) (.int .i64 f.ty.kind) (.slice f.ty.A f.ty.ns.length f.ty.c) (.slice f.ty.A2 f.ty.xs.length f.ty.c2) (.int .i64 f.ca) (.bool f.wr)⟩) (fun hHeld => ?_)
 clear hK K
 try simp only [Act.put, zq1, zq2, zq3]
 refine tk 9 5 (.bool true) hHeld ?_; simp only [Act.put, zq1, zq2, zq3]
 refine wpAnyH_done (by kernel_rfl) ?_ _
 clear r0 rf0 r1 rf1 r2 rf2 r3 rf3 r4 rf4 r5 rf5 r6 rf6 r7 rf7 r8 rf8 r9 rf9 r10 rf10 rl
 go_wp2
 obtain ⟨j0, j1, j2, j3, j4, j5, j6, j7, j8, j9, j10⟩ := eleven D1X.out rfl (.int .i64 f.pr) (.slice f.A f.n f.c) (.int .i64 f.x.kind) (.int .i64 f.x.n) (.string f.x.s) (.int .u64 (f.x.label : Int)) (.int .i64 f.ty.kind) (.slice f.ty.A f.ty.ns.length f.ty.c) (.slice f.ty.A2 f.ty.xs.length f.ty.c2) (.int .i64 f.ca) (.bool f.wr)
 refine bodyPost_ret (v := .tuple #[.agg #[.int .i64 f.pr, .slice f.A f.n f.c, .int .i64 f.x.kind, .int .i64 f.x.n, .string f.x.s, .int .u64 (f.x.label : Int), .int .i64 f.ty.kind, .slice f.ty.A f.ty.ns.length f.ty.c, .slice f.ty.A2 f.ty.xs.length f.ty.c2, .int .i64 f.ca, .bool f.wr], .bool true]) (by simp [results, Tryz.results25, go_sem, j0, j1, j2, j3, j4, j5, j6, j7, j8, j9, j10]) rfl ?_
 exact ⟨el_below DWX.out (show w.heap.size ≤ b1 by have := HE_b1.out; omega) (.int .i64 f.pr) (.slice f.A f.n f.c) (.int .i64 f.x.kind) (.int .i64 f.x.n) (.string f.x.s) (.int .u64 (f.x.label : Int)) (.int .i64 f.ty.kind) (.slice f.ty.A f.ty.ns.length f.ty.c) (.slice f.ty.A2 f.ty.xs.length f.ty.c2) (.int .i64 f.ca) (.bool f.wr), rfl⟩
end Go.Proofs.YtilcofpceadpbaaGreatDoor
