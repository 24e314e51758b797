/-
 HeapApart: part 27 of what the claim rests on.
-/
import Derived.Test.YtilcofpceadpbaaGreatDoorA26
set_option linter.unusedVariables false
set_option linter.unusedSimpArgs false
set_option maxHeartbeats 64000000
namespace Go.Proofs.YtilcofpceadpbaaGreatDoor
open Go.ChangeShapes Go.WideShapes Go.ChangeAt Go.RowKit Go.Maps

set_option maxRecDepth 100000 in
theorem rhbase_any {w : World} {B N h : Nat} {s : HpS} {d : HpD} (H : RpAt w B N h s d) (v : VV) (hn : s.F.length ≤ 1000000) (hc : ChainF s.F) :
  Calls Tryz.prog 28 #[.pointer (some ⟨h, 0, none⟩), .agg #[.int .i64 v.kind, .int .i64 v.n, .string v.s, .int .u64 (v.label : Int)]] w (RetV w) := by
 obtain ⟨b0, hb0⟩ : ∃ b, b = w.heap.size := ⟨_, rfl⟩
 obtain ⟨b1, hb1⟩ : ∃ b, b = w.heap.size + 1 := ⟨_, rfl⟩
 have HE0 := Lib.hid hb0
 have HE1 := Lib.hid hb1
 have HH := Lib.hid H
 have HC := Lib.hid hc
 have HN := Lib.hid hn
 clear hb0 hb1 H hc hn
 go_enter Tryz.func28, Tryz.ntmps28
 go_upto_region 1 with fail
 rw [← HE1.out, ← HE0.out]
 refine gen_wp fun W hW => ?_
 have HB0 := Lib.hid (show W.heap[b0]? = some (.cells #[.int .i64 v.kind, .int .i64 v.n, .string v.s, .int .u64 (v.label : Int)] 26 (0, 0)) by rw [← hW, HE0.out]; exact blk_alloc (heap_new_at _ _ _ (by first | rfl | simp)) _)
 have HB1 := Lib.hid (show W.heap[b1]? = some (.cells #[.int .i64 0, .int .i64 0, .string ⟨#[]⟩, .int .u64 0] 26 (0, 0)) by rw [← hW, HE1.out]; exact heap_new_at _ _ _ (by first | rfl | simp))
 have HW := Lib.hid (show Below w.heap.size w W by rw [← hW]; exact ((Below.refl _ _).alloc (Nat.le_refl _) _).alloc (by simp) _)
 clear hW
 go_wp2_with fail
 go_loopw [] (fun wr => ∃ x : VV, Hid (wr.heap[b0]? = some (.cells #[.int .i64 x.kind, .int .i64 x.n, .string x.s, .int .u64 (x.label : Int)] 26 (0, 0))) ∧ Hid (wr.heap[b1]? = some (.cells #[.int .i64 0, .int .i64 0, .string ⟨#[]⟩, .int .u64 0] 26 (0, 0))) ∧ Hid (Below w.heap.size w wr)) (fun wr => (intOf ((wr.cell? ⟨b0, 1, none⟩).getD (.int .i64 0))).toNat)
 case atStart => exact ⟨v, HB0, HB1, HW⟩
 case round =>
  obtain ⟨x, X0, X1, XW⟩ := hrel
  clear HB0 HB1 HW
  have hold : wr.cell? ⟨b0, 1, none⟩ = some (.int .i64 x.n) := cell_of_blk X0.out rfl
  have HOLD := Lib.hid hold
  clear hold
  obtain ⟨p0, p1, p2, p3, pf0, pf1, pf2, pf3, pl⟩ := blk_4 X0.out
  rcases hfi : fnI s x with _ | f
  ·have HCN := Lib.hid (rfn_none (HH.out.below XW.out) x HN.out hfi)
   clear hfi
   go_wp2_with fail
   refine HCN.out.mono ?_
   rintro e w1 ⟨rfl, hb⟩
   have D0 := Lib.hid (below_blk hb X0.out)
   have D1 := Lib.hid (below_blk hb X1.out)
   have DW := Lib.hid (XW.out.trans (hb.mono XW.out.size))
   clear hb p0 pf0 p1 pf1 p2 pf2 p3 pf3 pl
   go_upto_region 2 with fail
   refine gen_wp fun U hU => ?_
   obtain ⟨b5, hb5⟩ : ∃ b, b = w1.heap.size := ⟨_, rfl⟩
   rw [← hb5]
   have U0 := Lib.hid (show U.heap[b0]? = some (.cells #[.int .i64 x.kind, .int .i64 x.n, .string x.s, .int .u64 (x.label : Int)] 26 (0, 0)) by rw [← hU]; exact blk_alloc D0.out _)
   have U1 := Lib.hid (show U.heap[b1]? = some (.cells #[.int .i64 0, .int .i64 0, .string ⟨#[]⟩, .int .u64 0] 26 (0, 0)) by rw [← hU]; exact blk_alloc D1.out _)
   have U5 := Lib.hid (show U.heap[b5]? = some (.cells #[.int .i64 0, .slice none 0 0, .int .i64 0, .int .i64 0, .string ⟨#[]⟩, .int .u64 0, .int .i64 0, .slice none 0 0, .slice none 0 0, .int .i64 0, .bool false] 79 (0, 0)) by rw [← hU, hb5]; exact heap_new_at _ _ _ (by first | rfl | simp))
   have UW := Lib.hid (show Below w.heap.size w U by rw [← hU]; exact DW.out.alloc DW.out.size _)
   clear hU hb5
   obtain ⟨p0, p1, p2, p3, pf0, pf1, pf2, pf3, pl⟩ := blk_4 U0.out
   obtain ⟨q0, q1, q2, q3, qf0, qf1, qf2, qf3, ql⟩ := blk_4 U1.out
   obtain ⟨r0, r1, r2, r3, r4, r5, r6, r7, r8, r9, r10, rf0, rf1, rf2, rf3, rf4, rf5, rf6, rf7, rf8, rf9, rf10, rl⟩ := blk_11 U5.out
   go_wp2
   obtain ⟨j0, j1, j2, j3⟩ := four U1.out rfl (.int .i64 x.kind) (.int .i64 x.n) (.string x.s) (.int .u64 (x.label : Int))
   refine bodyPost_ret (v := .agg #[.int .i64 x.kind, .int .i64 x.n, .string x.s, .int .u64 (x.label : Int)]) (by simp [results, Tryz.results28, go_sem, j0, j1, j2, j3]) rfl ?_
   exact ⟨(Below.setCell (p := ⟨b1, 3, none⟩) (Below.setCell (p := ⟨b1, 2, none⟩) (Below.setCell (p := ⟨b1, 1, none⟩) (Below.setCell (p := ⟨b1, 0, none⟩) UW.out (show w.heap.size ≤ b1 by have := HE1.out; omega) (.int .i64 x.kind)) (show w.heap.size ≤ b1 by have := HE1.out; omega) (.int .i64 x.n)) (show w.heap.size ≤ b1 by have := HE1.out; omega) (.string x.s)) (show w.heap.size ≤ b1 by have := HE1.out; omega) (.int .u64 (x.label : Int))), x, rfl⟩
  ·have HCN := Lib.hid (rfn_got (HH.out.below XW.out) x HN.out hfi)
   have HFI := Lib.hid hfi
   clear hfi
   go_wp2_with fail
   refine HCN.out.mono ?_
   rintro e w1 ⟨hb, rfl⟩
   have D0 := Lib.hid (below_blk hb X0.out)
   have D1 := Lib.hid (below_blk hb X1.out)
   have DW := Lib.hid (XW.out.trans (hb.mono XW.out.size))
   clear hb p0 pf0 p1 pf1 p2 pf2 p3 pf3 pl
   go_upto_region 2 with fail
   refine gen_wp fun U hU => ?_
   obtain ⟨b5, hb5⟩ : ∃ b, b = w1.heap.size := ⟨_, rfl⟩
   rw [← hb5]
   have U0 := Lib.hid (show U.heap[b0]? = some (.cells #[.int .i64 x.kind, .int .i64 x.n, .string x.s, .int .u64 (x.label : Int)] 26 (0, 0)) by rw [← hU]; exact blk_alloc D0.out _)
   have U1 := Lib.hid (show U.heap[b1]? = some (.cells #[.int .i64 0, .int .i64 0, .string ⟨#[]⟩, .int .u64 0] 26 (0, 0)) by rw [← hU]; exact blk_alloc D1.out _)
   have U5 := Lib.hid (show U.heap[b5]? = some (.cells #[.int .i64 f.pr, .slice f.A f.n f.c, .int .i64 f.x.kind, .int .i64 f.x.n, .string f.x.s, .int .u64 (f.x.label : Int), .int .i64 f.ty.kind, .slice f.ty.A f.ty.ns.length f.ty.c, .slice f.ty.A2 f.ty.xs.length f.ty.c2, .int .i64 f.ca, .bool f.wr] 79 (0, 0)) by rw [← hU, hb5]; exact heap_new_at _ _ _ (by first | rfl | simp))
   have UW := Lib.hid (show Below w.heap.size w U by rw [← hU]; exact DW.out.alloc DW.out.size _)
   have HNE := Lib.hid (show b0 ≠ b1 by have := HE0.out; have := HE1.out; omega)
   clear hU hb5
   cases hwr : f.wr with
   | false =>
    obtain ⟨p0, p1, p2, p3, pf0, pf1, pf2, pf3, pl⟩ := blk_4 U0.out
    obtain ⟨q0, q1, q2, q3, qf0, qf1, qf2, qf3, ql⟩ := blk_4 U1.out
    obtain ⟨r0, r1, r2, r3, r4, r5, r6, r7, r8, r9, r10, rf0, rf1, rf2, rf3, rf4, rf5, rf6, rf7, rf8, rf9, rf10, rl⟩ := blk_11 U5.out
    go_wp2
    obtain ⟨j0, j1, j2, j3⟩ := four U1.out rfl (.int .i64 x.kind) (.int .i64 x.n) (.string x.s) (.int .u64 (x.label : Int))
    refine bodyPost_ret (v := .agg #[.int .i64 x.kind, .int .i64 x.n, .string x.s, .int .u64 (x.label : Int)]) (by simp [results, Tryz.results28, go_sem, j0, j1, j2, j3]) rfl ?_
    exact ⟨(Below.setCell (p := ⟨b1, 3, none⟩) (Below.setCell (p := ⟨b1, 2, none⟩) (Below.setCell (p := ⟨b1, 1, none⟩) (Below.setCell (p := ⟨b1, 0, none⟩) UW.out (show w.heap.size ≤ b1 by have := HE1.out; omega) (.int .i64 x.kind)) (show w.heap.size ≤ b1 by have := HE1.out; omega) (.int .i64 x.n)) (show w.heap.size ≤ b1 by have := HE1.out; omega) (.string x.s)) (show w.heap.size ≤ b1 by have := HE1.out; omega) (.int .u64 (x.label : Int))), x, rfl⟩
   | true =>
    have HCH := Lib.hid (show 0 ≤ f.x.n ∧ f.x.n < x.n by
     obtain ⟨j, h1, _, h3⟩ := fnI_some HFI.out
     have := HC.out j f h1 hwr
     omega)
    obtain ⟨p0, p1, p2, p3, pf0, pf1, pf2, pf3, pl⟩ := blk_4 U0.out
    obtain ⟨q0, q1, q2, q3, qf0, qf1, qf2, qf3, ql⟩ := blk_4 U1.out
    obtain ⟨r0, r1, r2, r3, r4, r5, r6, r7, r8, r9, r10, rf0, rf1, rf2, rf3, rf4, rf5, rf6, rf7, rf8, rf9, rf10, rl⟩ := blk_11 U5.out
    go_wp2_with fail
    go_roundw
    case rel => exact ⟨{ x with n := f.x.n }, Lib.hid (by have := blk_set (i := 1) U0.out (.int .i64 f.x.n); exact this), Lib.hid (blk_far (a := ⟨b0, 1, none⟩) U1.out HNE.out.symm _), Lib.hid (Below.setCell (p := ⟨b0, 1, none⟩) UW.out (show w.heap.size ≤ b0 by have := HE0.out; omega) _)⟩
    case measure =>
     have hnew : (U.setCell ⟨b0, 1, none⟩ (.int .i64 f.x.n)).cell? ⟨b0, 1, none⟩ = some (.int .i64 f.x.n) := cell_same_set U0.out (by simp) _
     rw [hnew, HOLD.out]
     have := HCH.out
     simp [intOf]
     omega
set_option maxRecDepth 100000 in
theorem rhequal_any {w : World} {B N h : Nat} {s : HpS} {d : HpD} (H : RpAt w B N h s d) (a b : VV) (hn : s.F.length ≤ 1000000) (hc : ChainF s.F) :
  Calls Tryz.prog 30 #[.pointer (some ⟨h, 0, none⟩), .agg #[.int .i64 a.kind, .int .i64 a.n, .string a.s, .int .u64 (a.label : Int)], .agg #[.int .i64 b.kind, .int .i64 b.n, .string b.s, .int .u64 (b.label : Int)]] w (RetBool w) := by
 obtain ⟨g, hg⟩ : ∃ g, g = w.heap.size := ⟨_, rfl⟩
 have HG := Lib.hid hg
 have HH := Lib.hid H
 have HC := Lib.hid hc
 have HN := Lib.hid hn
 clear hg H hc hn
 go_enter Tryz.func30, Tryz.ntmps30
 go_upto_region 1 with fail
 rw [← HG.out]
 refine gen_wp fun W hW => ?_
 have HA := Lib.hid (show W.heap[g]? = some (.cells #[.int .i64 a.kind, .int .i64 a.n, .string a.s, .int .u64 (a.label : Int)] 26 (0, 0)) by rw [← hW, HG.out]; exact blk_alloc (heap_new_at _ _ _ rfl) _)
 have HB := Lib.hid (show W.heap[g + 1]? = some (.cells #[.int .i64 b.kind, .int .i64 b.n, .string b.s, .int .u64 (b.label : Int)] 26 (0, 0)) by rw [← hW, HG.out]; exact heap_new_at _ _ _ (by simp))
 have HW := Lib.hid (show Below w.heap.size w W by rw [← hW]; exact ((Below.refl _ _).alloc (Nat.le_refl _) _).alloc (by simp) _)
 clear hW
 refine wp_region_held_drew (S := fun w' => w'.heap[g]? = some (.cells #[.int .i64 a.kind, .int .i64 a.n, .string a.s, .int .u64 (a.label : Int)] 26 (0, 0)) ∧ w'.heap[g + 1]? = some (.cells #[.int .i64 b.kind, .int .i64 b.n, .string b.s, .int .u64 (b.label : Int)] 26 (0, 0))) (by kernel_rfl) (⟨HA.out, HB.out⟩) (fun hHeld => ?_)
 refine tk 0 7 (.pointer (some ⟨h, 0, none⟩)) hHeld ?_; simp only [Act.put, zq1, zq2, zq3]
 refine tk 1 8 (.agg #[.int .i64 a.kind, .int .i64 a.n, .string a.s, .int .u64 (a.label : Int)]) hHeld ?_ (hy := Or.inl ⟨by rfl, fun w' hS => (by have q0 := cell_of_blk (i := 0) hS.1 rfl; have q1 := cell_of_blk (i := 1) hS.1 rfl; have q2 := cell_of_blk (i := 2) hS.1 rfl; have q3 := cell_of_blk (i := 3) hS.1 rfl; go_simp)⟩); simp only [Act.put, zq1, zq2, zq3]
 refine tk 3 10 (.pointer (some ⟨h, 0, none⟩)) hHeld ?_; simp only [Act.put, zq1, zq2, zq3]
 refine tk 4 11 (.agg #[.int .i64 b.kind, .int .i64 b.n, .string b.s, .int .u64 (b.label : Int)]) hHeld ?_ (hy := Or.inl ⟨by rfl, fun w' hS => (by have q0 := cell_of_blk (i := 0) hS.2 rfl; have q1 := cell_of_blk (i := 1) hS.2 rfl; have q2 := cell_of_blk (i := 2) hS.2 rfl; have q3 := cell_of_blk (i := 3) hS.2 rfl; go_simp)⟩); simp only [Act.put, zq1, zq2, zq3]
 refine rd 2 fun K hK => ?_
 go_simp
 refine (rhbase_any (HH.out.below HW.out.drew) a HN.out HC.out).mono ?_
 rintro e w1 ⟨hb1, x1, rfl⟩
 have B1 := Lib.hid (show Below W.heap.size W w1 from (Below.refl _ _).drew.trans hb1)
 clear hb1
 refine hK.out _ _ (⟨below_blk B1.out HA.out, below_blk B1.out HB.out⟩) (fun hHeld => ?_)
 clear hK K
 try simp only [Act.put, zq1, zq2, zq3]
 refine rd 5 fun K hK => ?_
 go_simp
 refine (rhbase_any (HH.out.below (HW.out.trans (B1.out.mono HW.out.size))) b HN.out HC.out).mono ?_
 rintro e w2 ⟨hb2, x2, rfl⟩
 have B2 := Lib.hid (show Below W.heap.size W w2 from B1.out.trans (hb2.mono B1.out.size))
 clear hb2
 refine hK.out _ _ (⟨below_blk B2.out HA.out, below_blk B2.out HB.out⟩) (fun hHeld => ?_)
 clear hK K
 try simp only [Act.put, zq1, zq2, zq3]
 refine rd 6 fun K hK => ?_
 go_simp
 refine (rsame_any x1 x2 _).mono ?_
 rintro e w3 ⟨rfl, hb3⟩
 have B3 := Lib.hid (show Below W.heap.size W w3 from B2.out.trans (hb3.mono B2.out.size))
 clear hb3
 refine hK.out _ _ (⟨below_blk B3.out HA.out, below_blk B3.out HB.out⟩) (fun hHeld => ?_)
 clear hK K
 try simp only [Act.put, zq1, zq2, zq3]
 refine tk 7 6 (.bool (sameV x1 x2)) hHeld ?_; simp only [Act.put, zq1, zq2, zq3]
 refine wpAnyH_done (by kernel_rfl) ?_ _
 go_wp2
 refine bodyPost_ret (v := .bool (sameV x1 x2)) (by simp [results, Tryz.results30, go_sem]) rfl ?_
 exact ⟨HW.out.trans (B3.out.mono HW.out.size), _, rfl⟩
end Go.Proofs.YtilcofpceadpbaaGreatDoor
