/-
 HeapApart: part 31 of what the claim rests on.
-/
import Derived.Test.YtilcofpceadpbaaGreatDoorA29
import Derived.Test.YtilcofpceadpbaaGreatDoorA30
set_option linter.unusedVariables false
set_option linter.unusedSimpArgs false
set_option maxHeartbeats 64000000
namespace Go.Proofs.YtilcofpceadpbaaGreatDoor
open Go.ChangeShapes Go.WideShapes Go.ChangeAt Go.RowKit Go.Maps

set_option maxRecDepth 100000 in
theorem act_get {w : World} {B N h r m : Nat} {s u : HpS} (hp : Pair w B N h r s u) (oks : HpOk m s) (oku : HpOk m u) (hm : m ≤ 500) (a : HAct) (hfit : HaFit w N a) (hst : (stampsL (strip a.to)).length ≤ 1000) (hsp : SpB N w) (e0 : (a.act == 0) = false) (e1 : (a.act == 1) = false) (e2 : (a.act == 2) = true) :
  Calls Tryz.prog 8 #[.pointer (some ⟨h, 0, none⟩), .pointer (some ⟨r, 0, none⟩), .agg #[.int .i64 a.act, .int .u64 (a.ctx : Int), .int .i64 a.a.kind, .int .i64 a.a.n, .string a.a.s, .int .u64 (a.a.label : Int), .int .i64 a.b.kind, .int .i64 a.b.n, .string a.b.s, .int .u64 (a.b.label : Int), .int .i64 a.c.kind, .int .i64 a.c.n, .string a.c.s, .int .u64 (a.c.label : Int), .int .i64 a.n, .slice a.cells.A a.cells.xs.length a.cells.cap, .int .i64 a.to.kind, .slice a.to.A a.to.ns.length a.to.c, .slice a.to.A2 a.to.xs.length a.to.c2]] w (ActTo w B N h r m s u) := by
 obtain ⟨d, e, hd, he, hdj⟩ := hp
 have HD := Lib.hid hd
 have HE := Lib.hid he
 have HDJ := Lib.hid hdj
 have HLD := Lib.hid (fun b (hb : b ∈ d.fp h s.F) => (hd.kinds hb).2)
 have HLE := Lib.hid (fun b (hb : b ∈ e.fp r u.F) => (he.kinds hb).2)
 have HOS := Lib.hid (And.intro oks (And.intro oku hm))
 have HFT := Lib.hid (And.intro hfit (And.intro hst hsp))
 have HNW := Lib.hid (Nat.le_trans hd.nB hd.wB)
 have HQ0 := Lib.hid e0
 have HQ1 := Lib.hid e1
 have HQ2 := Lib.hid e2
 clear hd he hdj oks oku hm hfit hst hsp e0 e1 e2
 obtain ⟨b0, hb0⟩ : ∃ b, b = w.heap.size := ⟨_, rfl⟩
 have HE_b0 := Lib.hid hb0
 clear hb0
 go_enter Tryz.func8, Tryz.ntmps8
 go_upto_region 1 with fail
 rw [← HE_b0.out]
 refine gen_wp fun W hW => ?_
 have HB_b0 := Lib.hid (show W.heap[b0]? = some (.cells (haEnc a).toArray 33 (0, 0)) by rw [← hW, HE_b0.out]; exact heap_new_at _ _ _ (by first | rfl | simp))
 have HW := Lib.hid (show Below w.heap.size w W by rw [← hW]; exact (Below.refl _ _).alloc (by simp <;> omega) _)
 clear hW
 have HDW := Lib.hid (HD.out.below HW.out)
 have HEW := Lib.hid (HE.out.below HW.out)
 have HNB := Lib.hid (show b0 ∉ d.fp h s.F ∧ b0 ∉ e.fp r u.F from ⟨fun hm => by have := HLD.out b0 hm; have := HE_b0.out; omega, fun hm => by have := HLE.out b0 hm; have := HE_b0.out; omega⟩)
 have q0 := HQ0.out
 have q1 := HQ1.out
 have q2 := HQ2.out
 have p0 : W.cell? ⟨b0, 0, none⟩ = some (.int .i64 a.act) := cell_of_blk HB_b0.out rfl
 have pf0 := free_of_blk (i := 0) HB_b0.out
 have pl := blk_lt HB_b0.out
 rcases ho1 : ofI s a.a with _ | i1
 ·have HOF1 := Lib.hid (fun W' (hb : Below w.heap.size w W') => show Calls Tryz.prog 14 #[.pointer (some ⟨h, 0, none⟩), .agg #[.int .i64 a.a.kind, .int .i64 a.a.n, .string a.a.s, .int .u64 (a.a.label : Int)]] W' (RetB (.pointer none) W') from by
   have := of_at (HD.out.below hb) a.a (by have := HOS.out.1.tl; have := HOS.out.2.2; omega)
   rw [ofV_none (HD.out.below hb) ho1] at this
   exact this)
  clear ho1
  rcases ho2 : ofI u a.a with _ | i2
  ·have HOF2 := Lib.hid (fun W' (hb : Below w.heap.size w W') => show Calls Tryz.prog 18 #[.pointer (some ⟨r, 0, none⟩), .agg #[.int .i64 a.a.kind, .int .i64 a.a.n, .string a.a.s, .int .u64 (a.a.label : Int)]] W' (RetB (.pointer none) W') from by
    have := rof_at (HE.out.below hb) a.a (by have := HOS.out.2.1.tl; have := HOS.out.2.2; omega)
    rw [rofV_none (HE.out.below hb) ho2] at this
    exact this)
   clear ho2
   go_wp2_with fail
   clear p0 pf0 pl
   refine wp_region_held_drew (S := fun w' => w'.heap[b0]? = some (.cells (actA a) 33 (0, 0))) (by kernel_rfl) (HB_b0.out) (fun hHeld => ?_)
   refine tk 0 99 (.pointer (some ⟨h, 0, none⟩)) hHeld ?_; simp only [Act.put, zq1, zq2, zq3]
   refine tk 1 100 (.pointer (some ⟨b0, 2, none⟩)) hHeld ?_; simp only [Act.put, zq1, zq2, zq3]
   refine tk 2 101 (.agg #[.int .i64 a.a.kind, .int .i64 a.a.n, .string a.a.s, .int .u64 (a.a.label : Int)]) hHeld ?_ (hy := Or.inl ⟨by rfl, fun w' hS => (by have q2 := cell_of_blk (i := 2) hS rfl; have q3 := cell_of_blk (i := 3) hS rfl; have q4 := cell_of_blk (i := 4) hS rfl; have q5 := cell_of_blk (i := 5) hS rfl; go_simp)⟩); simp only [Act.put, zq1, zq2, zq3]
   refine tk 4 103 (.pointer (some ⟨r, 0, none⟩)) hHeld ?_; simp only [Act.put, zq1, zq2, zq3]
   refine tk 5 104 (.pointer (some ⟨b0, 2, none⟩)) hHeld ?_; simp only [Act.put, zq1, zq2, zq3]
   refine tk 6 105 (.agg #[.int .i64 a.a.kind, .int .i64 a.a.n, .string a.a.s, .int .u64 (a.a.label : Int)]) hHeld ?_ (hy := Or.inl ⟨by rfl, fun w' hS => (by have q2 := cell_of_blk (i := 2) hS rfl; have q3 := cell_of_blk (i := 3) hS rfl; have q4 := cell_of_blk (i := 4) hS rfl; have q5 := cell_of_blk (i := 5) hS rfl; go_simp)⟩); simp only [Act.put, zq1, zq2, zq3]
   refine rd 3 fun K hK => ?_
   go_simp
   refine (HOF1.out _ HW.out.drew).mono ?_
   rintro e w1 ⟨rfl, hb1⟩
   have V1 := Lib.hid (show Below w.heap.size w w1 from (HW.out.drew).trans (hb1.mono HW.out.drew.size))
   have D0 := Lib.hid (below_blk (hb1 : Below W.heap.size _ _) HB_b0.out)
   clear hb1
   refine hK.out _ _ (D0.out) (fun hHeld => ?_)
   clear hK K
   try simp only [Act.put, zq1, zq2, zq3]
   refine rd 7 fun K hK => ?_
   go_simp
   refine (HOF2.out _ V1.out).mono ?_
   rintro e w2 ⟨rfl, hb2⟩
   have V2 := Lib.hid (show Below w.heap.size w w2 from V1.out.trans (hb2.mono V1.out.size))
   have E0 := Lib.hid (below_blk hb2 D0.out)
   clear hb2
   refine hK.out _ _ (E0.out) (fun hHeld => ?_)
   clear hK K
   try simp only [Act.put, zq1, zq2, zq3]
   refine tk 8 15 (.pointer none) hHeld ?_; simp only [Act.put, zq1, zq2, zq3]
   refine tk 9 16 (.pointer none) hHeld ?_; simp only [Act.put, zq1, zq2, zq3]
   refine wpAnyH_done (by kernel_rfl) ?_ _
   go_upto_region 12 with fail
   refine gen_wp fun Y hY => ?_
   have YW := Lib.hid (show Below w.heap.size w Y by rw [← hY]; exact V2.out)
   have Y0 := Lib.hid (show Y.heap[b0]? = some (.cells (haEnc a).toArray 33 (0, 0)) by rw [← hY]; exact E0.out)
   clear hY
   go_wp2_with fail
   refine wp_region_held_drew (S := fun _ => True) (by kernel_rfl) (trivial) (fun hHeld => ?_)
   refine tk 0 107 (.pointer none) hHeld ?_; simp only [Act.put, zq1, zq2, zq3]
   refine tk 1 108 (.bool true) hHeld ?_; simp only [Act.put, zq1, zq2, zq3]
   refine tk 2 109 (.pointer none) hHeld ?_; simp only [Act.put, zq1, zq2, zq3]
   refine tk 3 110 (.bool true) hHeld ?_; simp only [Act.put, zq1, zq2, zq3]
   refine tk 4 111 (.bool false) hHeld ?_; simp only [Act.put, zq1, zq2, zq3]
   refine tk 5 112 (.bool false) hHeld ?_; simp only [Act.put, zq1, zq2, zq3]
   refine tk 6 113 (.pointer none) hHeld ?_; simp only [Act.put, zq1, zq2, zq3]
   refine tk 7 114 (.bool false) hHeld ?_; simp only [Act.put, zq1, zq2, zq3]
   refine tk 8 115 (.bool false) hHeld ?_; simp only [Act.put, zq1, zq2, zq3]
   refine tu 9 116 hHeld ?_; simp only [Act.put, zq1, zq2, zq3]
   refine tu 10 117 hHeld ?_; simp only [Act.put, zq1, zq2, zq3]
   refine tu 11 118 hHeld ?_; simp only [Act.put, zq1, zq2, zq3]
   refine tu 12 119 hHeld ?_; simp only [Act.put, zq1, zq2, zq3]
   refine tu 13 120 hHeld ?_; simp only [Act.put, zq1, zq2, zq3]
   refine tu 14 121 hHeld ?_; simp only [Act.put, zq1, zq2, zq3]
   refine tu 15 122 hHeld ?_; simp only [Act.put, zq1, zq2, zq3]
   refine tu 16 123 hHeld ?_; simp only [Act.put, zq1, zq2, zq3]
   refine tk 17 124 (.bool false) hHeld ?_; simp only [Act.put, zq1, zq2, zq3]
   refine tk 18 125 (.bool false) hHeld ?_; simp only [Act.put, zq1, zq2, zq3]
   refine wpAnyH_done (by kernel_rfl) ?_ _
   go_upto_region 14 with fail
   refine gen_wp fun Z hZ => ?_
   have ZW := Lib.hid (show Below w.heap.size w Z by rw [← hZ]; exact YW.out.drew)
   have Z0 := Lib.hid (show Z.heap[b0]? = some (.cells (haEnc a).toArray 33 (0, 0)) by rw [← hZ]; exact Y0.out)
   clear hZ
   go_wp2_with fail
   refine wp_region_held_drew (S := fun w' => w'.heap[b0]? = some (.cells (actA a) 33 (0, 0))) (by kernel_rfl) (Z0.out) (fun hHeld => ?_)
   refine tk 0 126 (.pointer (some ⟨h, 0, none⟩)) hHeld ?_; simp only [Act.put, zq1, zq2, zq3]
   refine tk 1 127 (.pointer (some ⟨b0, 2, none⟩)) hHeld ?_; simp only [Act.put, zq1, zq2, zq3]
   refine tk 2 128 (.agg #[.int .i64 a.a.kind, .int .i64 a.a.n, .string a.a.s, .int .u64 (a.a.label : Int)]) hHeld ?_ (hy := Or.inl ⟨by rfl, fun w' hS => (by have q2 := cell_of_blk (i := 2) hS rfl; have q3 := cell_of_blk (i := 3) hS rfl; have q4 := cell_of_blk (i := 4) hS rfl; have q5 := cell_of_blk (i := 5) hS rfl; go_simp)⟩); simp only [Act.put, zq1, zq2, zq3]
   refine tk 3 129 (.pointer (some ⟨b0, 6, none⟩)) hHeld ?_; simp only [Act.put, zq1, zq2, zq3]
   refine tk 4 130 (.agg #[.int .i64 a.b.kind, .int .i64 a.b.n, .string a.b.s, .int .u64 (a.b.label : Int)]) hHeld ?_ (hy := Or.inl ⟨by rfl, fun w' hS => (by have q6 := cell_of_blk (i := 6) hS rfl; have q7 := cell_of_blk (i := 7) hS rfl; have q8 := cell_of_blk (i := 8) hS rfl; have q9 := cell_of_blk (i := 9) hS rfl; go_simp)⟩); simp only [Act.put, zq1, zq2, zq3]
   refine tk 6 132 (.pointer (some ⟨r, 0, none⟩)) hHeld ?_; simp only [Act.put, zq1, zq2, zq3]
   refine tk 7 133 (.pointer (some ⟨b0, 2, none⟩)) hHeld ?_; simp only [Act.put, zq1, zq2, zq3]
   refine tk 8 134 (.agg #[.int .i64 a.a.kind, .int .i64 a.a.n, .string a.a.s, .int .u64 (a.a.label : Int)]) hHeld ?_ (hy := Or.inl ⟨by rfl, fun w' hS => (by have q2 := cell_of_blk (i := 2) hS rfl; have q3 := cell_of_blk (i := 3) hS rfl; have q4 := cell_of_blk (i := 4) hS rfl; have q5 := cell_of_blk (i := 5) hS rfl; go_simp)⟩); simp only [Act.put, zq1, zq2, zq3]
   refine tk 9 135 (.pointer (some ⟨b0, 6, none⟩)) hHeld ?_; simp only [Act.put, zq1, zq2, zq3]
   refine tk 10 136 (.agg #[.int .i64 a.b.kind, .int .i64 a.b.n, .string a.b.s, .int .u64 (a.b.label : Int)]) hHeld ?_ (hy := Or.inl ⟨by rfl, fun w' hS => (by have q6 := cell_of_blk (i := 6) hS rfl; have q7 := cell_of_blk (i := 7) hS rfl; have q8 := cell_of_blk (i := 8) hS rfl; have q9 := cell_of_blk (i := 9) hS rfl; go_simp)⟩); simp only [Act.put, zq1, zq2, zq3]
   refine rd 5 fun K hK => ?_
   go_simp
   refine (get_at (HD.out.below ZW.out.drew) HOS.out.1 (by have := HOS.out.2.2; omega) a.a a.b HFT.out.1.vb).mono ?_
   rintro e w5 ⟨hb5, x, rfl⟩
   have V5 := Lib.hid (show Below w.heap.size w w5 from (ZW.out.drew).trans (hb5.mono ZW.out.drew.size))
   have D5 := Lib.hid (below_blk (hb5 : Below Z.heap.size _ _) Z0.out)
   clear hb5
   refine hK.out _ _ (D5.out) (fun hHeld => ?_)
   clear hK K
   try simp only [Act.put, zq1, zq2, zq3]
   refine rd 11 fun K hK => ?_
   go_simp
   refine (rget_at (HE.out.below V5.out) HOS.out.2.1 (by have := HOS.out.2.2; omega) a.a a.b HFT.out.1.vb).mono ?_
   rintro e w6 ⟨hb6, y, rfl⟩
   have V6 := Lib.hid (show Below w.heap.size w w6 from V5.out.trans (hb6.mono V5.out.size))
   have D6 := Lib.hid (below_blk hb6 D5.out)
   obtain ⟨q, hq⟩ := veq x y
   have HQV := Lib.hid hq
   clear hb6 hq
   refine hK.out _ _ (D6.out) (fun hHeld => ?_)
   clear hK K
   try simp only [Act.put, zq1, zq2, zq3]
   refine tk 12 138 (.bool q) hHeld ?_ (hy := Or.inl ⟨by rfl, fun w' hS => (by have hq := HQV.out; go_simp)⟩); simp only [Act.put, zq1, zq2, zq3]
   refine tk 13 6 (.bool q) hHeld ?_; simp only [Act.put, zq1, zq2, zq3]
   refine wpAnyH_done (by kernel_rfl) ?_ _
   go_wp2
   go_returns
   exact ⟨q, s, u, rfl, .refl _ _, .refl _ _, Pair.below ⟨d, e, HD.out, HE.out, HDJ.out⟩ V6.out, Below.mono V6.out HNW.out⟩
  ·obtain ⟨p2, f2, T2, i1, i2, i3, i4, i5, i6, i7⟩ := rofV_some HE.out ho2
   have HOF2 := Lib.hid (fun W' (hb : Below w.heap.size w W') => show Calls Tryz.prog 18 #[.pointer (some ⟨r, 0, none⟩), .agg #[.int .i64 a.a.kind, .int .i64 a.a.n, .string a.a.s, .int .u64 (a.a.label : Int)]] W' (RetB (.pointer (some ⟨p2, 0, none⟩)) W') from by
    have := rof_at (HE.out.below hb) a.a (by have := HOS.out.2.1.tl; have := HOS.out.2.2; omega)
    rw [i5] at this
    exact this)
   have HTB := Lib.hid (fun W' (hb : Below w.heap.size w W') => (show RTabIn W' B p2 T2 f2 from (HE.out.below hb).tabs _ p2 T2 f2 i2 i1 i3))
   clear ho2 i1 i2 i3 i4 i5 i6 i7
   go_wp2_with fail
   clear p0 pf0 pl
   refine wp_region_held_drew (S := fun w' => w'.heap[b0]? = some (.cells (actA a) 33 (0, 0))) (by kernel_rfl) (HB_b0.out) (fun hHeld => ?_)
   refine tk 0 99 (.pointer (some ⟨h, 0, none⟩)) hHeld ?_; simp only [Act.put, zq1, zq2, zq3]
   refine tk 1 100 (.pointer (some ⟨b0, 2, none⟩)) hHeld ?_; simp only [Act.put, zq1, zq2, zq3]
   refine tk 2 101 (.agg #[.int .i64 a.a.kind, .int .i64 a.a.n, .string a.a.s, .int .u64 (a.a.label : Int)]) hHeld ?_ (hy := Or.inl ⟨by rfl, fun w' hS => (by have q2 := cell_of_blk (i := 2) hS rfl; have q3 := cell_of_blk (i := 3) hS rfl; have q4 := cell_of_blk (i := 4) hS rfl; have q5 := cell_of_blk (i := 5) hS rfl; go_simp)⟩); simp only [Act.put, zq1, zq2, zq3]
   refine tk 4 103 (.pointer (some ⟨r, 0, none⟩)) hHeld ?_; simp only [Act.put, zq1, zq2, zq3]
   refine tk 5 104 (.pointer (some ⟨b0, 2, none⟩)) hHeld ?_; simp only [Act.put, zq1, zq2, zq3]
   refine tk 6 105 (.agg #[.int .i64 a.a.kind, .int .i64 a.a.n, .string a.a.s, .int .u64 (a.a.label : Int)]) hHeld ?_ (hy := Or.inl ⟨by rfl, fun w' hS => (by have q2 := cell_of_blk (i := 2) hS rfl; have q3 := cell_of_blk (i := 3) hS rfl; have q4 := cell_of_blk (i := 4) hS rfl; have q5 := cell_of_blk (i := 5) hS rfl; go_simp)⟩); simp only [Act.put, zq1, zq2, zq3]
   refine rd 3 fun K hK => ?_
   go_simp
   refine (HOF1.out _ HW.out.drew).mono ?_
   rintro e w1 ⟨rfl, hb1⟩
   have V1 := Lib.hid (show Below w.heap.size w w1 from (HW.out.drew).trans (hb1.mono HW.out.drew.size))
   have D0 := Lib.hid (below_blk (hb1 : Below W.heap.size _ _) HB_b0.out)
   clear hb1
   refine hK.out _ _ (D0.out) (fun hHeld => ?_)
   clear hK K
   try simp only [Act.put, zq1, zq2, zq3]
   refine rd 7 fun K hK => ?_
   go_simp
   refine (HOF2.out _ V1.out).mono ?_
   rintro e w2 ⟨rfl, hb2⟩
   have V2 := Lib.hid (show Below w.heap.size w w2 from V1.out.trans (hb2.mono V1.out.size))
   have E0 := Lib.hid (below_blk hb2 D0.out)
   clear hb2
   refine hK.out _ _ (E0.out) (fun hHeld => ?_)
   clear hK K
   try simp only [Act.put, zq1, zq2, zq3]
   refine tk 8 15 (.pointer none) hHeld ?_; simp only [Act.put, zq1, zq2, zq3]
   refine tk 9 16 (.pointer (some ⟨p2, 0, none⟩)) hHeld ?_; simp only [Act.put, zq1, zq2, zq3]
   refine wpAnyH_done (by kernel_rfl) ?_ _
   go_upto_region 12 with fail
   refine gen_wp fun Y hY => ?_
   have YW := Lib.hid (show Below w.heap.size w Y by rw [← hY]; exact V2.out)
   have Y0 := Lib.hid (show Y.heap[b0]? = some (.cells (haEnc a).toArray 33 (0, 0)) by rw [← hY]; exact E0.out)
   clear hY
   go_wp2_with fail
   refine wp_region_held_drew (S := fun _ => True) (by kernel_rfl) (trivial) (fun hHeld => ?_)
   refine tk 0 107 (.pointer none) hHeld ?_; simp only [Act.put, zq1, zq2, zq3]
   refine tk 1 108 (.bool true) hHeld ?_; simp only [Act.put, zq1, zq2, zq3]
   refine tk 2 109 (.pointer (some ⟨p2, 0, none⟩)) hHeld ?_; simp only [Act.put, zq1, zq2, zq3]
   refine tk 3 110 (.bool false) hHeld ?_; simp only [Act.put, zq1, zq2, zq3]
   refine tk 4 111 (.bool true) hHeld ?_; simp only [Act.put, zq1, zq2, zq3]
   refine tk 5 112 (.bool true) hHeld ?_; simp only [Act.put, zq1, zq2, zq3]
   refine tu 6 113 hHeld ?_; simp only [Act.put, zq1, zq2, zq3]
   refine tu 7 114 hHeld ?_; simp only [Act.put, zq1, zq2, zq3]
   refine tu 8 115 hHeld ?_; simp only [Act.put, zq1, zq2, zq3]
   refine tu 9 116 hHeld ?_; simp only [Act.put, zq1, zq2, zq3]
   refine tu 10 117 hHeld ?_; simp only [Act.put, zq1, zq2, zq3]
   refine tu 11 118 hHeld ?_; simp only [Act.put, zq1, zq2, zq3]
   refine tu 12 119 hHeld ?_; simp only [Act.put, zq1, zq2, zq3]
   refine tu 13 120 hHeld ?_; simp only [Act.put, zq1, zq2, zq3]
   refine tu 14 121 hHeld ?_; simp only [Act.put, zq1, zq2, zq3]
   refine tu 15 122 hHeld ?_; simp only [Act.put, zq1, zq2, zq3]
   refine tu 16 123 hHeld ?_; simp only [Act.put, zq1, zq2, zq3]
   refine tu 17 124 hHeld ?_; simp only [Act.put, zq1, zq2, zq3]
   refine tk 18 125 (.bool true) hHeld ?_; simp only [Act.put, zq1, zq2, zq3]
   refine wpAnyH_done (by kernel_rfl) ?_ _
   go_wp2
   go_returns
   exact ⟨false, s, u, rfl, .refl _ _, .refl _ _, Pair.below ⟨d, e, HD.out, HE.out, HDJ.out⟩ YW.out.drew, Below.mono YW.out.drew HNW.out⟩
 ·obtain ⟨p1, f1, T1, i1, i2, i3, i4, i5, i6, i7⟩ := ofV_some HD.out ho1
  have HOF1 := Lib.hid (fun W' (hb : Below w.heap.size w W') => show Calls Tryz.prog 14 #[.pointer (some ⟨h, 0, none⟩), .agg #[.int .i64 a.a.kind, .int .i64 a.a.n, .string a.a.s, .int .u64 (a.a.label : Int)]] W' (RetB (.pointer (some ⟨p1, 0, none⟩)) W') from by
   have := of_at (HD.out.below hb) a.a (by have := HOS.out.1.tl; have := HOS.out.2.2; omega)
   rw [i5] at this
   exact this)
  have HTA := Lib.hid (fun W' (hb : Below w.heap.size w W') => (show TabIn W' B p1 T1 f1 from (HD.out.below hb).tabs _ p1 T1 f1 i2 i1 i3))
  clear ho1 i1 i2 i3 i4 i5 i6 i7
  rcases ho2 : ofI u a.a with _ | i2
  ·have HOF2 := Lib.hid (fun W' (hb : Below w.heap.size w W') => show Calls Tryz.prog 18 #[.pointer (some ⟨r, 0, none⟩), .agg #[.int .i64 a.a.kind, .int .i64 a.a.n, .string a.a.s, .int .u64 (a.a.label : Int)]] W' (RetB (.pointer none) W') from by
    have := rof_at (HE.out.below hb) a.a (by have := HOS.out.2.1.tl; have := HOS.out.2.2; omega)
    rw [rofV_none (HE.out.below hb) ho2] at this
    exact this)
   clear ho2
   go_wp2_with fail
   clear p0 pf0 pl
   refine wp_region_held_drew (S := fun w' => w'.heap[b0]? = some (.cells (actA a) 33 (0, 0))) (by kernel_rfl) (HB_b0.out) (fun hHeld => ?_)
   refine tk 0 99 (.pointer (some ⟨h, 0, none⟩)) hHeld ?_; simp only [Act.put, zq1, zq2, zq3]
   refine tk 1 100 (.pointer (some ⟨b0, 2, none⟩)) hHeld ?_; simp only [Act.put, zq1, zq2, zq3]
   refine tk 2 101 (.agg #[.int .i64 a.a.kind, .int .i64 a.a.n, .string a.a.s, .int .u64 (a.a.label : Int)]) hHeld ?_ (hy := Or.inl ⟨by rfl, fun w' hS => (by have q2 := cell_of_blk (i := 2) hS rfl; have q3 := cell_of_blk (i := 3) hS rfl; have q4 := cell_of_blk (i := 4) hS rfl; have q5 := cell_of_blk (i := 5) hS rfl; go_simp)⟩); simp only [Act.put, zq1, zq2, zq3]
   refine tk 4 103 (.pointer (some ⟨r, 0, none⟩)) hHeld ?_; simp only [Act.put, zq1, zq2, zq3]
   refine tk 5 104 (.pointer (some ⟨b0, 2, none⟩)) hHeld ?_; simp only [Act.put, zq1, zq2, zq3]
   refine tk 6 105 (.agg #[.int .i64 a.a.kind, .int .i64 a.a.n, .string a.a.s, .int .u64 (a.a.label : Int)]) hHeld ?_ (hy := Or.inl ⟨by rfl, fun w' hS => (by have q2 := cell_of_blk (i := 2) hS rfl; have q3 := cell_of_blk (i := 3) hS rfl; have q4 := cell_of_blk (i := 4) hS rfl; have q5 := cell_of_blk (i := 5) hS rfl; go_simp)⟩); simp only [Act.put, zq1, zq2, zq3]
   refine rd 3 fun K hK => ?_
   go_simp
   refine (HOF1.out _ HW.out.drew).mono ?_
   rintro e w1 ⟨rfl, hb1⟩
   have V1 := Lib.hid (show Below w.heap.size w w1 from (HW.out.drew).trans (hb1.mono HW.out.drew.size))
   have D0 := Lib.hid (below_blk (hb1 : Below W.heap.size _ _) HB_b0.out)
   clear hb1
   refine hK.out _ _ (D0.out) (fun hHeld => ?_)
   clear hK K
   try simp only [Act.put, zq1, zq2, zq3]
   refine rd 7 fun K hK => ?_
   go_simp
   refine (HOF2.out _ V1.out).mono ?_
   rintro e w2 ⟨rfl, hb2⟩
   have V2 := Lib.hid (show Below w.heap.size w w2 from V1.out.trans (hb2.mono V1.out.size))
   have E0 := Lib.hid (below_blk hb2 D0.out)
   clear hb2
   refine hK.out _ _ (E0.out) (fun hHeld => ?_)
   clear hK K
   try simp only [Act.put, zq1, zq2, zq3]
   refine tk 8 15 (.pointer (some ⟨p1, 0, none⟩)) hHeld ?_; simp only [Act.put, zq1, zq2, zq3]
   refine tk 9 16 (.pointer none) hHeld ?_; simp only [Act.put, zq1, zq2, zq3]
   refine wpAnyH_done (by kernel_rfl) ?_ _
   go_upto_region 12 with fail
   refine gen_wp fun Y hY => ?_
   have YW := Lib.hid (show Below w.heap.size w Y by rw [← hY]; exact V2.out)
   have Y0 := Lib.hid (show Y.heap[b0]? = some (.cells (haEnc a).toArray 33 (0, 0)) by rw [← hY]; exact E0.out)
   clear hY
   go_wp2_with fail
   refine wp_region_held_drew (S := fun _ => True) (by kernel_rfl) (trivial) (fun hHeld => ?_)
   refine tk 0 107 (.pointer (some ⟨p1, 0, none⟩)) hHeld ?_; simp only [Act.put, zq1, zq2, zq3]
   refine tk 1 108 (.bool false) hHeld ?_; simp only [Act.put, zq1, zq2, zq3]
   refine tk 2 109 (.pointer none) hHeld ?_; simp only [Act.put, zq1, zq2, zq3]
   refine tk 3 110 (.bool true) hHeld ?_; simp only [Act.put, zq1, zq2, zq3]
   refine tk 4 111 (.bool true) hHeld ?_; simp only [Act.put, zq1, zq2, zq3]
   refine tk 5 112 (.bool true) hHeld ?_; simp only [Act.put, zq1, zq2, zq3]
   refine tu 6 113 hHeld ?_; simp only [Act.put, zq1, zq2, zq3]
   refine tu 7 114 hHeld ?_; simp only [Act.put, zq1, zq2, zq3]
   refine tu 8 115 hHeld ?_; simp only [Act.put, zq1, zq2, zq3]
   refine tu 9 116 hHeld ?_; simp only [Act.put, zq1, zq2, zq3]
   refine tu 10 117 hHeld ?_; simp only [Act.put, zq1, zq2, zq3]
   refine tu 11 118 hHeld ?_; simp only [Act.put, zq1, zq2, zq3]
   refine tu 12 119 hHeld ?_; simp only [Act.put, zq1, zq2, zq3]
   refine tu 13 120 hHeld ?_; simp only [Act.put, zq1, zq2, zq3]
   refine tu 14 121 hHeld ?_; simp only [Act.put, zq1, zq2, zq3]
   refine tu 15 122 hHeld ?_; simp only [Act.put, zq1, zq2, zq3]
   refine tu 16 123 hHeld ?_; simp only [Act.put, zq1, zq2, zq3]
   refine tu 17 124 hHeld ?_; simp only [Act.put, zq1, zq2, zq3]
   refine tk 18 125 (.bool true) hHeld ?_; simp only [Act.put, zq1, zq2, zq3]
   refine wpAnyH_done (by kernel_rfl) ?_ _
   go_wp2
   go_returns
   exact ⟨false, s, u, rfl, .refl _ _, .refl _ _, Pair.below ⟨d, e, HD.out, HE.out, HDJ.out⟩ YW.out.drew, Below.mono YW.out.drew HNW.out⟩
  ·obtain ⟨p2, f2, T2, i1, i2, i3, i4, i5, i6, i7⟩ := rofV_some HE.out ho2
   have HOF2 := Lib.hid (fun W' (hb : Below w.heap.size w W') => show Calls Tryz.prog 18 #[.pointer (some ⟨r, 0, none⟩), .agg #[.int .i64 a.a.kind, .int .i64 a.a.n, .string a.a.s, .int .u64 (a.a.label : Int)]] W' (RetB (.pointer (some ⟨p2, 0, none⟩)) W') from by
    have := rof_at (HE.out.below hb) a.a (by have := HOS.out.2.1.tl; have := HOS.out.2.2; omega)
    rw [i5] at this
    exact this)
   have HTB := Lib.hid (fun W' (hb : Below w.heap.size w W') => (show RTabIn W' B p2 T2 f2 from (HE.out.below hb).tabs _ p2 T2 f2 i2 i1 i3))
   clear ho2 i1 i2 i3 i4 i5 i6 i7
   go_wp2_with fail
   clear p0 pf0 pl
   refine wp_region_held_drew (S := fun w' => w'.heap[b0]? = some (.cells (actA a) 33 (0, 0))) (by kernel_rfl) (HB_b0.out) (fun hHeld => ?_)
   refine tk 0 99 (.pointer (some ⟨h, 0, none⟩)) hHeld ?_; simp only [Act.put, zq1, zq2, zq3]
   refine tk 1 100 (.pointer (some ⟨b0, 2, none⟩)) hHeld ?_; simp only [Act.put, zq1, zq2, zq3]
   refine tk 2 101 (.agg #[.int .i64 a.a.kind, .int .i64 a.a.n, .string a.a.s, .int .u64 (a.a.label : Int)]) hHeld ?_ (hy := Or.inl ⟨by rfl, fun w' hS => (by have q2 := cell_of_blk (i := 2) hS rfl; have q3 := cell_of_blk (i := 3) hS rfl; have q4 := cell_of_blk (i := 4) hS rfl; have q5 := cell_of_blk (i := 5) hS rfl; go_simp)⟩); simp only [Act.put, zq1, zq2, zq3]
   refine tk 4 103 (.pointer (some ⟨r, 0, none⟩)) hHeld ?_; simp only [Act.put, zq1, zq2, zq3]
   refine tk 5 104 (.pointer (some ⟨b0, 2, none⟩)) hHeld ?_; simp only [Act.put, zq1, zq2, zq3]
   refine tk 6 105 (.agg #[.int .i64 a.a.kind, .int .i64 a.a.n, .string a.a.s, .int .u64 (a.a.label : Int)]) hHeld ?_ (hy := Or.inl ⟨by rfl, fun w' hS => (by have q2 := cell_of_blk (i := 2) hS rfl; have q3 := cell_of_blk (i := 3) hS rfl; have q4 := cell_of_blk (i := 4) hS rfl; have q5 := cell_of_blk (i := 5) hS rfl; go_simp)⟩); simp only [Act.put, zq1, zq2, zq3]
   refine rd 3 fun K hK => ?_
   go_simp
   refine (HOF1.out _ HW.out.drew).mono ?_
   rintro e w1 ⟨rfl, hb1⟩
   have V1 := Lib.hid (show Below w.heap.size w w1 from (HW.out.drew).trans (hb1.mono HW.out.drew.size))
   have D0 := Lib.hid (below_blk (hb1 : Below W.heap.size _ _) HB_b0.out)
   clear hb1
   refine hK.out _ _ (D0.out) (fun hHeld => ?_)
   clear hK K
   try simp only [Act.put, zq1, zq2, zq3]
   refine rd 7 fun K hK => ?_
   go_simp
   refine (HOF2.out _ V1.out).mono ?_
   rintro e w2 ⟨rfl, hb2⟩
   have V2 := Lib.hid (show Below w.heap.size w w2 from V1.out.trans (hb2.mono V1.out.size))
   have E0 := Lib.hid (below_blk hb2 D0.out)
   clear hb2
   refine hK.out _ _ (E0.out) (fun hHeld => ?_)
   clear hK K
   try simp only [Act.put, zq1, zq2, zq3]
   refine tk 8 15 (.pointer (some ⟨p1, 0, none⟩)) hHeld ?_; simp only [Act.put, zq1, zq2, zq3]
   refine tk 9 16 (.pointer (some ⟨p2, 0, none⟩)) hHeld ?_; simp only [Act.put, zq1, zq2, zq3]
   refine wpAnyH_done (by kernel_rfl) ?_ _
   go_upto_region 12 with fail
   refine gen_wp fun Y hY => ?_
   have YW := Lib.hid (show Below w.heap.size w Y by rw [← hY]; exact V2.out)
   have Y0 := Lib.hid (show Y.heap[b0]? = some (.cells (haEnc a).toArray 33 (0, 0)) by rw [← hY]; exact E0.out)
   clear hY
   go_wp2_with fail
   obtain ⟨A0, c0, hsc, _, _⟩ := rtab_cells (HTB.out Y YW.out)
   have HLEN0 := Lib.hid (fun W' (hb : Below Y.heap.size Y W') => tlen_any (HTA.out W' (YW.out.trans (hb.mono YW.out.size))))
   obtain ⟨n0, hn0⟩ : ∃ n0 : Nat, n0 = T1.F.length := ⟨_, rfl⟩
   obtain ⟨n1, hn1⟩ : ∃ n1 : Nat, n1 = T2.F.length := ⟨_, rfl⟩
   rw [← hn0] at HLEN0
   rw [← hn1] at hsc
   have HLEN := Lib.hid (show ∀ W', Below Y.heap.size Y W' → Calls Tryz.prog 19 #[.pointer (some ⟨p1, 0, none⟩)] W' (Ret (.int .i64 (n0 : Int)) W') from HLEN0.out)
   clear hn0 hn1
   by_cases hnn : n0 = n1
   ·subst hnn
    have HSC := Lib.hid hsc
    clear hsc
    refine wp_region_held_drew (S := fun w' => w'.cell? ⟨p2, 1, none⟩ = some (.slice A0 n0 c0)) (by kernel_rfl) (HSC.out) (fun hHeld => ?_)
    refine tk 0 107 (.pointer (some ⟨p1, 0, none⟩)) hHeld ?_; simp only [Act.put, zq1, zq2, zq3]
    refine tk 1 108 (.bool false) hHeld ?_; simp only [Act.put, zq1, zq2, zq3]
    refine tk 2 109 (.pointer (some ⟨p2, 0, none⟩)) hHeld ?_; simp only [Act.put, zq1, zq2, zq3]
    refine tk 3 110 (.bool false) hHeld ?_; simp only [Act.put, zq1, zq2, zq3]
    refine tk 4 111 (.bool false) hHeld ?_; simp only [Act.put, zq1, zq2, zq3]
    refine tk 5 112 (.bool false) hHeld ?_; simp only [Act.put, zq1, zq2, zq3]
    refine tk 6 113 (.pointer (some ⟨p1, 0, none⟩)) hHeld ?_; simp only [Act.put, zq1, zq2, zq3]
    refine tk 7 114 (.bool true) hHeld ?_; simp only [Act.put, zq1, zq2, zq3]
    refine tk 8 115 (.bool true) hHeld ?_; simp only [Act.put, zq1, zq2, zq3]
    refine tk 9 116 (.pointer (some ⟨p1, 0, none⟩)) hHeld ?_; simp only [Act.put, zq1, zq2, zq3]
    refine tk 11 118 (.pointer (some ⟨p2, 0, none⟩)) hHeld ?_; simp only [Act.put, zq1, zq2, zq3]
    refine tk 12 119 (.pointer (some ⟨p2, 0, none⟩)) hHeld ?_; simp only [Act.put, zq1, zq2, zq3]
    refine tk 13 120 (.pointer (some ⟨p2, 1, none⟩)) hHeld ?_; simp only [Act.put, zq1, zq2, zq3]
    refine tk 14 121 (.slice A0 n0 c0) hHeld ?_ (hy := Or.inl ⟨by rfl, fun w' hS => (by have q0 := hS; go_simp)⟩); simp only [Act.put, zq1, zq2, zq3]
    refine tk 15 122 (.int .i64 n0) hHeld ?_; simp only [Act.put, zq1, zq2, zq3]
    refine rd 10 fun K hK => ?_
    go_simp
    refine (HLEN.out _ (Below.refl _ _).drew).mono ?_
    rintro e w4 ⟨rfl, rfl⟩
    refine hK.out _ _ (HSC.out) (fun hHeld => ?_)
    clear hK K
    try simp only [Act.put, zq1, zq2, zq3]
    refine tk 16 123 (.bool false) hHeld ?_; simp only [Act.put, zq1, zq2, zq3]
    refine tk 17 124 (.bool false) hHeld ?_; simp only [Act.put, zq1, zq2, zq3]
    refine tk 18 125 (.bool false) hHeld ?_; simp only [Act.put, zq1, zq2, zq3]
    refine wpAnyH_done (by kernel_rfl) ?_ _
    go_upto_region 14 with fail
    refine gen_wp fun Z hZ => ?_
    have ZW := Lib.hid (show Below w.heap.size w Z by rw [← hZ]; exact YW.out.drew)
    have Z0 := Lib.hid (show Z.heap[b0]? = some (.cells (haEnc a).toArray 33 (0, 0)) by rw [← hZ]; exact Y0.out)
    clear hZ
    go_wp2_with fail
    refine wp_region_held_drew (S := fun w' => w'.heap[b0]? = some (.cells (actA a) 33 (0, 0))) (by kernel_rfl) (Z0.out) (fun hHeld => ?_)
    refine tk 0 126 (.pointer (some ⟨h, 0, none⟩)) hHeld ?_; simp only [Act.put, zq1, zq2, zq3]
    refine tk 1 127 (.pointer (some ⟨b0, 2, none⟩)) hHeld ?_; simp only [Act.put, zq1, zq2, zq3]
    refine tk 2 128 (.agg #[.int .i64 a.a.kind, .int .i64 a.a.n, .string a.a.s, .int .u64 (a.a.label : Int)]) hHeld ?_ (hy := Or.inl ⟨by rfl, fun w' hS => (by have q2 := cell_of_blk (i := 2) hS rfl; have q3 := cell_of_blk (i := 3) hS rfl; have q4 := cell_of_blk (i := 4) hS rfl; have q5 := cell_of_blk (i := 5) hS rfl; go_simp)⟩); simp only [Act.put, zq1, zq2, zq3]
    refine tk 3 129 (.pointer (some ⟨b0, 6, none⟩)) hHeld ?_; simp only [Act.put, zq1, zq2, zq3]
    refine tk 4 130 (.agg #[.int .i64 a.b.kind, .int .i64 a.b.n, .string a.b.s, .int .u64 (a.b.label : Int)]) hHeld ?_ (hy := Or.inl ⟨by rfl, fun w' hS => (by have q6 := cell_of_blk (i := 6) hS rfl; have q7 := cell_of_blk (i := 7) hS rfl; have q8 := cell_of_blk (i := 8) hS rfl; have q9 := cell_of_blk (i := 9) hS rfl; go_simp)⟩); simp only [Act.put, zq1, zq2, zq3]
    refine tk 6 132 (.pointer (some ⟨r, 0, none⟩)) hHeld ?_; simp only [Act.put, zq1, zq2, zq3]
    refine tk 7 133 (.pointer (some ⟨b0, 2, none⟩)) hHeld ?_; simp only [Act.put, zq1, zq2, zq3]
    refine tk 8 134 (.agg #[.int .i64 a.a.kind, .int .i64 a.a.n, .string a.a.s, .int .u64 (a.a.label : Int)]) hHeld ?_ (hy := Or.inl ⟨by rfl, fun w' hS => (by have q2 := cell_of_blk (i := 2) hS rfl; have q3 := cell_of_blk (i := 3) hS rfl; have q4 := cell_of_blk (i := 4) hS rfl; have q5 := cell_of_blk (i := 5) hS rfl; go_simp)⟩); simp only [Act.put, zq1, zq2, zq3]
    refine tk 9 135 (.pointer (some ⟨b0, 6, none⟩)) hHeld ?_; simp only [Act.put, zq1, zq2, zq3]
    refine tk 10 136 (.agg #[.int .i64 a.b.kind, .int .i64 a.b.n, .string a.b.s, .int .u64 (a.b.label : Int)]) hHeld ?_ (hy := Or.inl ⟨by rfl, fun w' hS => (by have q6 := cell_of_blk (i := 6) hS rfl; have q7 := cell_of_blk (i := 7) hS rfl; have q8 := cell_of_blk (i := 8) hS rfl; have q9 := cell_of_blk (i := 9) hS rfl; go_simp)⟩); simp only [Act.put, zq1, zq2, zq3]
    refine rd 5 fun K hK => ?_
    go_simp
    refine (get_at (HD.out.below ZW.out.drew) HOS.out.1 (by have := HOS.out.2.2; omega) a.a a.b HFT.out.1.vb).mono ?_
    rintro e w5 ⟨hb5, x, rfl⟩
    have V5 := Lib.hid (show Below w.heap.size w w5 from (ZW.out.drew).trans (hb5.mono ZW.out.drew.size))
    have D5 := Lib.hid (below_blk (hb5 : Below Z.heap.size _ _) Z0.out)
    clear hb5
    refine hK.out _ _ (D5.out) (fun hHeld => ?_)
    clear hK K
    try simp only [Act.put, zq1, zq2, zq3]
    refine rd 11 fun K hK => ?_
    go_simp
    refine (rget_at (HE.out.below V5.out) HOS.out.2.1 (by have := HOS.out.2.2; omega) a.a a.b HFT.out.1.vb).mono ?_
    rintro e w6 ⟨hb6, y, rfl⟩
    have V6 := Lib.hid (show Below w.heap.size w w6 from V5.out.trans (hb6.mono V5.out.size))
    have D6 := Lib.hid (below_blk hb6 D5.out)
    obtain ⟨q, hq⟩ := veq x y
    have HQV := Lib.hid hq
    clear hb6 hq
    refine hK.out _ _ (D6.out) (fun hHeld => ?_)
    clear hK K
    try simp only [Act.put, zq1, zq2, zq3]
    refine tk 12 138 (.bool q) hHeld ?_ (hy := Or.inl ⟨by rfl, fun w' hS => (by have hq := HQV.out; go_simp)⟩); simp only [Act.put, zq1, zq2, zq3]
    refine tk 13 6 (.bool q) hHeld ?_; simp only [Act.put, zq1, zq2, zq3]
    refine wpAnyH_done (by kernel_rfl) ?_ _
    go_wp2
    go_returns
    exact ⟨q, s, u, rfl, .refl _ _, .refl _ _, Pair.below ⟨d, e, HD.out, HE.out, HDJ.out⟩ V6.out, Below.mono V6.out HNW.out⟩
   ·have HSC := Lib.hid hsc
    have HNE := Lib.hid (And.intro hnn (show ¬ ((n0 : Int) = (n1 : Int)) by omega))
    clear hsc hnn
    refine wp_region_held_drew (S := fun w' => w'.cell? ⟨p2, 1, none⟩ = some (.slice A0 n1 c0)) (by kernel_rfl) (HSC.out) (fun hHeld => ?_)
    refine tk 0 107 (.pointer (some ⟨p1, 0, none⟩)) hHeld ?_; simp only [Act.put, zq1, zq2, zq3]
    refine tk 1 108 (.bool false) hHeld ?_; simp only [Act.put, zq1, zq2, zq3]
    refine tk 2 109 (.pointer (some ⟨p2, 0, none⟩)) hHeld ?_; simp only [Act.put, zq1, zq2, zq3]
    refine tk 3 110 (.bool false) hHeld ?_; simp only [Act.put, zq1, zq2, zq3]
    refine tk 4 111 (.bool false) hHeld ?_; simp only [Act.put, zq1, zq2, zq3]
    refine tk 5 112 (.bool false) hHeld ?_; simp only [Act.put, zq1, zq2, zq3]
    refine tk 6 113 (.pointer (some ⟨p1, 0, none⟩)) hHeld ?_; simp only [Act.put, zq1, zq2, zq3]
    refine tk 7 114 (.bool true) hHeld ?_; simp only [Act.put, zq1, zq2, zq3]
    refine tk 8 115 (.bool true) hHeld ?_; simp only [Act.put, zq1, zq2, zq3]
    refine tk 9 116 (.pointer (some ⟨p1, 0, none⟩)) hHeld ?_; simp only [Act.put, zq1, zq2, zq3]
    refine tk 11 118 (.pointer (some ⟨p2, 0, none⟩)) hHeld ?_; simp only [Act.put, zq1, zq2, zq3]
    refine tk 12 119 (.pointer (some ⟨p2, 0, none⟩)) hHeld ?_; simp only [Act.put, zq1, zq2, zq3]
    refine tk 13 120 (.pointer (some ⟨p2, 1, none⟩)) hHeld ?_; simp only [Act.put, zq1, zq2, zq3]
    refine tk 14 121 (.slice A0 n1 c0) hHeld ?_ (hy := Or.inl ⟨by rfl, fun w' hS => (by have q0 := hS; go_simp)⟩); simp only [Act.put, zq1, zq2, zq3]
    refine tk 15 122 (.int .i64 n1) hHeld ?_; simp only [Act.put, zq1, zq2, zq3]
    refine rd 10 fun K hK => ?_
    go_simp
    refine (HLEN.out _ (Below.refl _ _).drew).mono ?_
    rintro e w4 ⟨rfl, rfl⟩
    refine hK.out _ _ (HSC.out) (fun hHeld => ?_)
    clear hK K
    try simp only [Act.put, zq1, zq2, zq3]
    refine tk 16 123 (.bool true) hHeld ?_ (hy := Or.inl ⟨by rfl, fun w' hS => (by have hne := HNE.out.1; have hne2 := HNE.out.2; go_simp)⟩); simp only [Act.put, zq1, zq2, zq3]
    refine tk 17 124 (.bool true) hHeld ?_; simp only [Act.put, zq1, zq2, zq3]
    refine tk 18 125 (.bool true) hHeld ?_; simp only [Act.put, zq1, zq2, zq3]
    refine wpAnyH_done (by kernel_rfl) ?_ _
    go_wp2
    go_returns
    exact ⟨false, s, u, rfl, .refl _ _, .refl _ _, Pair.below ⟨d, e, HD.out, HE.out, HDJ.out⟩ YW.out.drew, Below.mono YW.out.drew HNW.out⟩
end Go.Proofs.YtilcofpceadpbaaGreatDoor
