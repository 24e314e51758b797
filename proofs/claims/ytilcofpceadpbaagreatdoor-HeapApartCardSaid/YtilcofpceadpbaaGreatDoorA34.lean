/-
 HeapApart: part 34 of what the claim rests on.
-/
import Derived.Test.YtilcofpceadpbaaGreatDoorA29
set_option linter.unusedVariables false
set_option linter.unusedSimpArgs false
set_option maxHeartbeats 64000000
namespace Go.Proofs.YtilcofpceadpbaaGreatDoor
open Go.ChangeShapes Go.WideShapes Go.ChangeAt Go.RowKit Go.Maps

set_option maxRecDepth 100000 in
theorem act_equal {w : World} {B N h r m : Nat} {s u : HpS} (hp : Pair w B N h r s u) (oks : HpOk m s) (oku : HpOk m u) (hm : m ≤ 500) (a : HAct) (hfit : HaFit w N a) (hst : (stampsL (strip a.to)).length ≤ 1000) (hsp : SpB N w) (e0 : (a.act == 0) = false) (e1 : (a.act == 1) = false) (e2 : (a.act == 2) = false) (e3 : (a.act == 3) = false) (e4 : (a.act == 4) = false) (e5 : (a.act == 5) = true) :
  Calls Tryz.prog 8 #[.pointer (some ⟨h, 0, none⟩), .pointer (some ⟨r, 0, none⟩), .agg #[.int .i64 a.act, .int .u64 (a.ctx : Int), .int .i64 a.a.kind, .int .i64 a.a.n, .string a.a.s, .int .u64 (a.a.label : Int), .int .i64 a.b.kind, .int .i64 a.b.n, .string a.b.s, .int .u64 (a.b.label : Int), .int .i64 a.c.kind, .int .i64 a.c.n, .string a.c.s, .int .u64 (a.c.label : Int), .int .i64 a.n, .slice a.cells.A a.cells.xs.length a.cells.cap, .int .i64 a.to.kind, .slice a.to.A a.to.ns.length a.to.c, .slice a.to.A2 a.to.xs.length a.to.c2]] w (ActTo w B N h r m s u) := by
 obtain ⟨d, e, hd, he, hdj⟩ := hp
 have HD := Lib.hid hd
 have HE := Lib.hid he
 have HDJ := Lib.hid hdj
 have HLD := Lib.hid (fun b (hb : b ∈ d.fp h s.F) => (hd.kinds hb).2)
 have HLE := Lib.hid (fun b (hb : b ∈ e.fp r u.F) => (he.kinds hb).2)
 have HOS := Lib.hid (And.intro oks (And.intro oku hm))
 have HFT := Lib.hid (And.intro hfit (And.intro hst hsp))
 have HNW := Lib.hid (Nat.le_trans hd.nB hd.wB)
 have HQ0 := Lib.hid e0
 have HQ1 := Lib.hid e1
 have HQ2 := Lib.hid e2
 have HQ3 := Lib.hid e3
 have HQ4 := Lib.hid e4
 have HQ5 := Lib.hid e5
 clear hd he hdj oks oku hm hfit hst hsp e0 e1 e2 e3 e4 e5
 obtain ⟨b0, hb0⟩ : ∃ b, b = w.heap.size := ⟨_, rfl⟩
 have HE_b0 := Lib.hid hb0
 clear hb0
 go_enter Tryz.func8, Tryz.ntmps8
 go_upto_region 1 with fail
 rw [← HE_b0.out]
 refine gen_wp fun W hW => ?_
 have HB_b0 := Lib.hid (show W.heap[b0]? = some (.cells (haEnc a).toArray 33 (0, 0)) by rw [← hW, HE_b0.out]; exact heap_new_at _ _ _ (by first | rfl | simp))
 have HW := Lib.hid (show Below w.heap.size w W by rw [← hW]; exact (Below.refl _ _).alloc (by simp <;> omega) _)
 clear hW
 have HDW := Lib.hid (HD.out.below HW.out)
 have HEW := Lib.hid (HE.out.below HW.out)
 have HNB := Lib.hid (show b0 ∉ d.fp h s.F ∧ b0 ∉ e.fp r u.F from ⟨fun hm => by have := HLD.out b0 hm; have := HE_b0.out; omega, fun hm => by have := HLE.out b0 hm; have := HE_b0.out; omega⟩)
 have q0 := HQ0.out
 have q1 := HQ1.out
 have q2 := HQ2.out
 have q3 := HQ3.out
 have q4 := HQ4.out
 have q5 := HQ5.out
 have p0 : W.cell? ⟨b0, 0, none⟩ = some (.int .i64 a.act) := cell_of_blk HB_b0.out rfl
 have pf0 := free_of_blk (i := 0) HB_b0.out
 have pl := blk_lt HB_b0.out
 go_wp2_with fail
 clear p0 pf0 pl
 have HDd := Lib.hid (HD.out.below HW.out.drew)
 have HEd := Lib.hid (HE.out.below HW.out.drew)
 refine wp_region_held_drew (S := fun w' => w'.heap[b0]? = some (.cells (actA a) 33 (0, 0))) (by kernel_rfl) (HB_b0.out) (fun hHeld => ?_)
 refine tk 0 204 (.pointer (some ⟨h, 0, none⟩)) hHeld ?_; simp only [Act.put, zq1, zq2, zq3]
 refine tk 1 205 (.pointer (some ⟨b0, 2, none⟩)) hHeld ?_; simp only [Act.put, zq1, zq2, zq3]
 refine tk 2 206 (.agg #[.int .i64 a.a.kind, .int .i64 a.a.n, .string a.a.s, .int .u64 (a.a.label : Int)]) hHeld ?_ (hy := Or.inl ⟨by rfl, fun w' hS => (by have p2 := cell_of_blk (i := 2) hS rfl; have p3 := cell_of_blk (i := 3) hS rfl; have p4 := cell_of_blk (i := 4) hS rfl; have p5 := cell_of_blk (i := 5) hS rfl; go_simp)⟩); simp only [Act.put, zq1, zq2, zq3]
 refine tk 3 207 (.pointer (some ⟨b0, 6, none⟩)) hHeld ?_; simp only [Act.put, zq1, zq2, zq3]
 refine tk 4 208 (.agg #[.int .i64 a.b.kind, .int .i64 a.b.n, .string a.b.s, .int .u64 (a.b.label : Int)]) hHeld ?_ (hy := Or.inl ⟨by rfl, fun w' hS => (by have p6 := cell_of_blk (i := 6) hS rfl; have p7 := cell_of_blk (i := 7) hS rfl; have p8 := cell_of_blk (i := 8) hS rfl; have p9 := cell_of_blk (i := 9) hS rfl; go_simp)⟩); simp only [Act.put, zq1, zq2, zq3]
 refine tk 6 210 (.pointer (some ⟨r, 0, none⟩)) hHeld ?_; simp only [Act.put, zq1, zq2, zq3]
 refine tk 7 211 (.pointer (some ⟨b0, 2, none⟩)) hHeld ?_; simp only [Act.put, zq1, zq2, zq3]
 refine tk 8 212 (.agg #[.int .i64 a.a.kind, .int .i64 a.a.n, .string a.a.s, .int .u64 (a.a.label : Int)]) hHeld ?_ (hy := Or.inl ⟨by rfl, fun w' hS => (by have p2 := cell_of_blk (i := 2) hS rfl; have p3 := cell_of_blk (i := 3) hS rfl; have p4 := cell_of_blk (i := 4) hS rfl; have p5 := cell_of_blk (i := 5) hS rfl; go_simp)⟩); simp only [Act.put, zq1, zq2, zq3]
 refine tk 9 213 (.pointer (some ⟨b0, 6, none⟩)) hHeld ?_; simp only [Act.put, zq1, zq2, zq3]
 refine tk 10 214 (.agg #[.int .i64 a.b.kind, .int .i64 a.b.n, .string a.b.s, .int .u64 (a.b.label : Int)]) hHeld ?_ (hy := Or.inl ⟨by rfl, fun w' hS => (by have p6 := cell_of_blk (i := 6) hS rfl; have p7 := cell_of_blk (i := 7) hS rfl; have p8 := cell_of_blk (i := 8) hS rfl; have p9 := cell_of_blk (i := 9) hS rfl; go_simp)⟩); simp only [Act.put, zq1, zq2, zq3]
 refine rd 5 fun K hK => ?_
 go_simp
 refine (hequal_any HDd.out a.a a.b (by have := HOS.out.1.fl; have := HOS.out.2.2; omega) HOS.out.1.fn).mono ?_
 rintro e w1 ⟨hb, b1, rfl⟩
 obtain ⟨s', hs'⟩ : ∃ s', s' = s := ⟨_, rfl⟩
 have hle1 : HpLe m s s' := by rw [hs']; exact .refl _ _
 have hto1 : HpTo W.drew B N h s d s' w1 := by rw [hs']; exact .same HDd.out hb
 clear hb hs'
 have D0 := Lib.hid (show w1.heap[b0]? = some (.cells (haEnc a).toArray 33 (0, 0)) by obtain ⟨_, _, f1, _⟩ := hto1; exact f1.blk HB_b0.out HNB.out.1)
 have HL1 := Lib.hid hle1
 have HT1 := Lib.hid hto1
 clear hle1 hto1
 have HEX := Lib.hid (pair_mid HDd.out HEd.out HDJ.out HT1.out (Below.refl _ _))
 refine hK.out _ _ (D0.out) (fun hHeld => ?_)
 clear hK K
 try simp only [Act.put, zq1, zq2, zq3]
 refine rd 11 fun K hK => ?_
 go_simp
 refine (rhequal_any HEX.out a.a a.b (by have := HOS.out.2.1.fl; have := HOS.out.2.2; omega) HOS.out.2.1.fn).mono ?_
 rintro e w2 ⟨hb, b2, rfl⟩
 obtain ⟨u', hu'⟩ : ∃ u', u' = u := ⟨_, rfl⟩
 have hle2 : HpLe m u u' := by rw [hu']; exact .refl _ _
 have hto2 : RpTo w1 B N r u e u' w2 := by rw [hu']; exact .same HEX.out hb
 clear hb hu'
 have F0 := Lib.hid (show w2.heap[b0]? = some (.cells (haEnc a).toArray 33 (0, 0)) by obtain ⟨_, _, f2, _⟩ := hto2; exact f2.blk D0.out HNB.out.2)
 have HL2 := Lib.hid hle2
 have HT2 := Lib.hid hto2
 clear hle2 hto2
 refine hK.out _ _ (F0.out) (fun hHeld => ?_)
 clear hK K
 try simp only [Act.put, zq1, zq2, zq3]
 refine tk 12 216 (.bool (b1 == b2)) hHeld ?_; simp only [Act.put, zq1, zq2, zq3]
 refine tk 13 6 (.bool (b1 == b2)) hHeld ?_; simp only [Act.put, zq1, zq2, zq3]
 refine wpAnyH_done (by kernel_rfl) ?_ _
 go_wp2
 go_returns
 obtain ⟨hpr, hbl⟩ := pair_fin HDd.out HEd.out HDJ.out HT1.out (Below.refl _ _) HT2.out (Below.refl _ _)
 exact ⟨(b1 == b2), s', u', rfl, HL1.out, HL2.out, hpr, ((HW.out.drew).mono HNW.out).trans hbl⟩

set_option maxRecDepth 100000 in
theorem act_cell {w : World} {B N h r m : Nat} {s u : HpS} (hp : Pair w B N h r s u) (oks : HpOk m s) (oku : HpOk m u) (hm : m ≤ 500) (a : HAct) (hfit : HaFit w N a) (hst : (stampsL (strip a.to)).length ≤ 1000) (hsp : SpB N w) (e0 : (a.act == 0) = false) (e1 : (a.act == 1) = false) (e2 : (a.act == 2) = false) (e3 : (a.act == 3) = false) (e4 : (a.act == 4) = false) (e5 : (a.act == 5) = false) (e6 : (a.act == 6) = true) :
  Calls Tryz.prog 8 #[.pointer (some ⟨h, 0, none⟩), .pointer (some ⟨r, 0, none⟩), .agg #[.int .i64 a.act, .int .u64 (a.ctx : Int), .int .i64 a.a.kind, .int .i64 a.a.n, .string a.a.s, .int .u64 (a.a.label : Int), .int .i64 a.b.kind, .int .i64 a.b.n, .string a.b.s, .int .u64 (a.b.label : Int), .int .i64 a.c.kind, .int .i64 a.c.n, .string a.c.s, .int .u64 (a.c.label : Int), .int .i64 a.n, .slice a.cells.A a.cells.xs.length a.cells.cap, .int .i64 a.to.kind, .slice a.to.A a.to.ns.length a.to.c, .slice a.to.A2 a.to.xs.length a.to.c2]] w (ActTo w B N h r m s u) := by
 obtain ⟨d, e, hd, he, hdj⟩ := hp
 have HD := Lib.hid hd
 have HE := Lib.hid he
 have HDJ := Lib.hid hdj
 have HLD := Lib.hid (fun b (hb : b ∈ d.fp h s.F) => (hd.kinds hb).2)
 have HLE := Lib.hid (fun b (hb : b ∈ e.fp r u.F) => (he.kinds hb).2)
 have HOS := Lib.hid (And.intro oks (And.intro oku hm))
 have HFT := Lib.hid (And.intro hfit (And.intro hst hsp))
 have HNW := Lib.hid (Nat.le_trans hd.nB hd.wB)
 have HQ0 := Lib.hid e0
 have HQ1 := Lib.hid e1
 have HQ2 := Lib.hid e2
 have HQ3 := Lib.hid e3
 have HQ4 := Lib.hid e4
 have HQ5 := Lib.hid e5
 have HQ6 := Lib.hid e6
 clear hd he hdj oks oku hm hfit hst hsp e0 e1 e2 e3 e4 e5 e6
 obtain ⟨b0, hb0⟩ : ∃ b, b = w.heap.size := ⟨_, rfl⟩
 have HE_b0 := Lib.hid hb0
 clear hb0
 go_enter Tryz.func8, Tryz.ntmps8
 go_upto_region 1 with fail
 rw [← HE_b0.out]
 refine gen_wp fun W hW => ?_
 have HB_b0 := Lib.hid (show W.heap[b0]? = some (.cells (haEnc a).toArray 33 (0, 0)) by rw [← hW, HE_b0.out]; exact heap_new_at _ _ _ (by first | rfl | simp))
 have HW := Lib.hid (show Below w.heap.size w W by rw [← hW]; exact (Below.refl _ _).alloc (by simp <;> omega) _)
 clear hW
 have HDW := Lib.hid (HD.out.below HW.out)
 have HEW := Lib.hid (HE.out.below HW.out)
 have HNB := Lib.hid (show b0 ∉ d.fp h s.F ∧ b0 ∉ e.fp r u.F from ⟨fun hm => by have := HLD.out b0 hm; have := HE_b0.out; omega, fun hm => by have := HLE.out b0 hm; have := HE_b0.out; omega⟩)
 have q0 := HQ0.out
 have q1 := HQ1.out
 have q2 := HQ2.out
 have q3 := HQ3.out
 have q4 := HQ4.out
 have q5 := HQ5.out
 have q6 := HQ6.out
 have p2 : W.cell? ⟨b0, 2, none⟩ = some (.int .i64 a.a.kind) := cell_of_blk HB_b0.out rfl
 have pf2 := free_of_blk (i := 2) HB_b0.out
 have p3 : W.cell? ⟨b0, 3, none⟩ = some (.int .i64 a.a.n) := cell_of_blk HB_b0.out rfl
 have pf3 := free_of_blk (i := 3) HB_b0.out
 have p4 : W.cell? ⟨b0, 4, none⟩ = some (.string a.a.s) := cell_of_blk HB_b0.out rfl
 have pf4 := free_of_blk (i := 4) HB_b0.out
 have p5 : W.cell? ⟨b0, 5, none⟩ = some (.int .u64 (a.a.label : Int)) := cell_of_blk HB_b0.out rfl
 have pf5 := free_of_blk (i := 5) HB_b0.out
 have p0 : W.cell? ⟨b0, 0, none⟩ = some (.int .i64 a.act) := cell_of_blk HB_b0.out rfl
 have pf0 := free_of_blk (i := 0) HB_b0.out
 have pl := blk_lt HB_b0.out
 have HC1 := Lib.hid (cell_at HDW.out a.a HFT.out.1.va m (by have := HOS.out.1.cl; have := HOS.out.2.2; omega))
 go_wp2_with fail
 clear p2 pf2 p3 pf3 p4 pf4 p5 pf5 p0 pf0 pl
 refine HC1.out.mono ?_
 rintro e w1 ⟨x, b1, s', rfl, hle1, hto1⟩
 have HL1 := Lib.hid hle1
 have HT1 := Lib.hid hto1
 have D0 := Lib.hid (show w1.heap[b0]? = some (.cells (haEnc a).toArray 33 (0, 0)) by obtain ⟨_, _, f1, _⟩ := hto1; exact f1.blk HB_b0.out HNB.out.1)
 clear hle1 hto1
 go_upto_region 27 with fail
 refine gen_wp fun X hX => ?_
 have E0 := Lib.hid (show X.heap[b0]? = some (.cells (haEnc a).toArray 33 (0, 0)) by rw [← hX]; exact D0.out)
 have EX := Lib.hid (show Below w1.heap.size w1 X by rw [← hX]; exact Below.refl _ _)
 clear hX
 have HEX := Lib.hid (pair_mid HDW.out HEW.out HDJ.out HT1.out EX.out)
 have HSX := Lib.hid (show Below N w X by obtain ⟨_, _, f1, _⟩ := HT1.out; exact ((HW.out.mono HNW.out).trans (fr_N HD.out.fpB HD.out.nB (Nat.le_trans HD.out.wB HW.out.size) f1)).trans (EX.out.mono (Nat.le_trans HNW.out (Nat.le_trans HW.out.size f1.size))))
 have HC2 := Lib.hid (rcell_at HEX.out a.a HFT.out.1.va m (by have := HOS.out.2.1.cl; have := HOS.out.2.2; omega))
 have p2 : X.cell? ⟨b0, 2, none⟩ = some (.int .i64 a.a.kind) := cell_of_blk E0.out rfl
 have pf2 := free_of_blk (i := 2) E0.out
 have p3 : X.cell? ⟨b0, 3, none⟩ = some (.int .i64 a.a.n) := cell_of_blk E0.out rfl
 have pf3 := free_of_blk (i := 3) E0.out
 have p4 : X.cell? ⟨b0, 4, none⟩ = some (.string a.a.s) := cell_of_blk E0.out rfl
 have pf4 := free_of_blk (i := 4) E0.out
 have p5 : X.cell? ⟨b0, 5, none⟩ = some (.int .u64 (a.a.label : Int)) := cell_of_blk E0.out rfl
 have pf5 := free_of_blk (i := 5) E0.out
 have pl := blk_lt E0.out
 go_wp2_with fail
 clear p2 pf2 p3 pf3 p4 pf4 p5 pf5 pl
 refine HC2.out.mono ?_
 rintro e w2 ⟨y, b2, u', rfl, hle2, hto2⟩
 have HL2 := Lib.hid hle2
 have HT2 := Lib.hid hto2
 clear hle2 hto2
 go_upto_region 28 with fail
 refine gen_wp fun Y hY => ?_
 have EY := Lib.hid (show Below w2.heap.size w2 Y by rw [← hY]; exact Below.refl _ _)
 clear hY
 by_cases hk : x = y
 ·have hq : (x == y) = true := beq_iff_eq.2 hk
  go_wp2
  go_returns
  obtain ⟨hpr, hbl⟩ := pair_fin HDW.out HEW.out HDJ.out HT1.out EX.out HT2.out EY.out
  exact ⟨(b1 == b2), s', u', rfl, HL1.out, HL2.out, hpr, (HW.out.mono HNW.out).trans hbl⟩
 ·have hq : (x == y) = false := beq_eq_false_iff_ne.2 hk
  go_wp2
  go_returns
  obtain ⟨hpr, hbl⟩ := pair_fin HDW.out HEW.out HDJ.out HT1.out EX.out HT2.out EY.out
  exact ⟨false, s', u', rfl, HL1.out, HL2.out, hpr, (HW.out.mono HNW.out).trans hbl⟩

set_option maxRecDepth 100000 in
theorem act_load {w : World} {B N h r m : Nat} {s u : HpS} (hp : Pair w B N h r s u) (oks : HpOk m s) (oku : HpOk m u) (hm : m ≤ 500) (a : HAct) (hfit : HaFit w N a) (hst : (stampsL (strip a.to)).length ≤ 1000) (hsp : SpB N w) (e0 : (a.act == 0) = false) (e1 : (a.act == 1) = false) (e2 : (a.act == 2) = false) (e3 : (a.act == 3) = false) (e4 : (a.act == 4) = false) (e5 : (a.act == 5) = false) (e6 : (a.act == 6) = false) (e7 : (a.act == 7) = true) :
  Calls Tryz.prog 8 #[.pointer (some ⟨h, 0, none⟩), .pointer (some ⟨r, 0, none⟩), .agg #[.int .i64 a.act, .int .u64 (a.ctx : Int), .int .i64 a.a.kind, .int .i64 a.a.n, .string a.a.s, .int .u64 (a.a.label : Int), .int .i64 a.b.kind, .int .i64 a.b.n, .string a.b.s, .int .u64 (a.b.label : Int), .int .i64 a.c.kind, .int .i64 a.c.n, .string a.c.s, .int .u64 (a.c.label : Int), .int .i64 a.n, .slice a.cells.A a.cells.xs.length a.cells.cap, .int .i64 a.to.kind, .slice a.to.A a.to.ns.length a.to.c, .slice a.to.A2 a.to.xs.length a.to.c2]] w (ActTo w B N h r m s u) := by
 obtain ⟨d, e, hd, he, hdj⟩ := hp
 have HD := Lib.hid hd
 have HE := Lib.hid he
 have HDJ := Lib.hid hdj
 have HLD := Lib.hid (fun b (hb : b ∈ d.fp h s.F) => (hd.kinds hb).2)
 have HLE := Lib.hid (fun b (hb : b ∈ e.fp r u.F) => (he.kinds hb).2)
 have HOS := Lib.hid (And.intro oks (And.intro oku hm))
 have HFT := Lib.hid (And.intro hfit (And.intro hst hsp))
 have HNW := Lib.hid (Nat.le_trans hd.nB hd.wB)
 have HQ0 := Lib.hid e0
 have HQ1 := Lib.hid e1
 have HQ2 := Lib.hid e2
 have HQ3 := Lib.hid e3
 have HQ4 := Lib.hid e4
 have HQ5 := Lib.hid e5
 have HQ6 := Lib.hid e6
 have HQ7 := Lib.hid e7
 clear hd he hdj oks oku hm hfit hst hsp e0 e1 e2 e3 e4 e5 e6 e7
 obtain ⟨b0, hb0⟩ : ∃ b, b = w.heap.size := ⟨_, rfl⟩
 have HE_b0 := Lib.hid hb0
 clear hb0
 go_enter Tryz.func8, Tryz.ntmps8
 go_upto_region 1 with fail
 rw [← HE_b0.out]
 refine gen_wp fun W hW => ?_
 have HB_b0 := Lib.hid (show W.heap[b0]? = some (.cells (haEnc a).toArray 33 (0, 0)) by rw [← hW, HE_b0.out]; exact heap_new_at _ _ _ (by first | rfl | simp))
 have HW := Lib.hid (show Below w.heap.size w W by rw [← hW]; exact (Below.refl _ _).alloc (by simp <;> omega) _)
 clear hW
 have HDW := Lib.hid (HD.out.below HW.out)
 have HEW := Lib.hid (HE.out.below HW.out)
 have HNB := Lib.hid (show b0 ∉ d.fp h s.F ∧ b0 ∉ e.fp r u.F from ⟨fun hm => by have := HLD.out b0 hm; have := HE_b0.out; omega, fun hm => by have := HLE.out b0 hm; have := HE_b0.out; omega⟩)
 have q0 := HQ0.out
 have q1 := HQ1.out
 have q2 := HQ2.out
 have q3 := HQ3.out
 have q4 := HQ4.out
 have q5 := HQ5.out
 have q6 := HQ6.out
 have q7 := HQ7.out
 have p0 : W.cell? ⟨b0, 0, none⟩ = some (.int .i64 a.act) := cell_of_blk HB_b0.out rfl
 have pf0 := free_of_blk (i := 0) HB_b0.out
 have pl := blk_lt HB_b0.out
 go_wp2_with fail
 clear p0 pf0 pl
 have HDd := Lib.hid (HD.out.below HW.out.drew)
 have HEd := Lib.hid (HE.out.below HW.out.drew)
 refine wp_region_held_drew (S := fun w' => w'.heap[b0]? = some (.cells (actA a) 33 (0, 0))) (by kernel_rfl) (HB_b0.out) (fun hHeld => ?_)
 refine tk 0 243 (.pointer (some ⟨h, 0, none⟩)) hHeld ?_; simp only [Act.put, zq1, zq2, zq3]
 refine tk 1 244 (.pointer (some ⟨b0, 14, none⟩)) hHeld ?_; simp only [Act.put, zq1, zq2, zq3]
 refine tk 2 245 (.int .i64 a.n) hHeld ?_ (hy := Or.inl ⟨by rfl, fun w' hS => (by have p14 := cell_of_blk (i := 14) hS rfl; go_simp)⟩); simp only [Act.put, zq1, zq2, zq3]
 refine tk 4 247 (.pointer (some ⟨r, 0, none⟩)) hHeld ?_; simp only [Act.put, zq1, zq2, zq3]
 refine tk 5 248 (.pointer (some ⟨b0, 14, none⟩)) hHeld ?_; simp only [Act.put, zq1, zq2, zq3]
 refine tk 6 249 (.int .i64 a.n) hHeld ?_ (hy := Or.inl ⟨by rfl, fun w' hS => (by have p14 := cell_of_blk (i := 14) hS rfl; go_simp)⟩); simp only [Act.put, zq1, zq2, zq3]
 refine rd 3 fun K hK => ?_
 go_simp
 refine (load_at HDd.out (by have := HOS.out.1.cl; have := HOS.out.2.2; omega) a.n).mono ?_
 rintro e w1 ⟨hb, x, rfl⟩
 obtain ⟨s', hs'⟩ : ∃ s', s' = s := ⟨_, rfl⟩
 have hle1 : HpLe m s s' := by rw [hs']; exact .refl _ _
 have hto1 : HpTo W.drew B N h s d s' w1 := by rw [hs']; exact .same HDd.out hb
 clear hb hs'
 have D0 := Lib.hid (show w1.heap[b0]? = some (.cells (haEnc a).toArray 33 (0, 0)) by obtain ⟨_, _, f1, _⟩ := hto1; exact f1.blk HB_b0.out HNB.out.1)
 have HL1 := Lib.hid hle1
 have HT1 := Lib.hid hto1
 clear hle1 hto1
 have HEX := Lib.hid (pair_mid HDd.out HEd.out HDJ.out HT1.out (Below.refl _ _))
 refine hK.out _ _ (D0.out) (fun hHeld => ?_)
 clear hK K
 try simp only [Act.put, zq1, zq2, zq3]
 refine rd 7 fun K hK => ?_
 go_simp
 refine (rload_at HEX.out a.n).mono ?_
 rintro e w2 ⟨hb, y, rfl⟩
 obtain ⟨u', hu'⟩ : ∃ u', u' = u := ⟨_, rfl⟩
 have hle2 : HpLe m u u' := by rw [hu']; exact .refl _ _
 have hto2 : RpTo w1 B N r u e u' w2 := by rw [hu']; exact .same HEX.out hb
 clear hb hu'
 have F0 := Lib.hid (show w2.heap[b0]? = some (.cells (haEnc a).toArray 33 (0, 0)) by obtain ⟨_, _, f2, _⟩ := hto2; exact f2.blk D0.out HNB.out.2)
 have HL2 := Lib.hid hle2
 have HT2 := Lib.hid hto2
 clear hle2 hto2
 obtain ⟨q, hq⟩ := veq x y
 have HQV := Lib.hid hq
 clear hq
 refine hK.out _ _ (F0.out) (fun hHeld => ?_)
 clear hK K
 try simp only [Act.put, zq1, zq2, zq3]
 refine tk 8 251 (.bool q) hHeld ?_ (hy := Or.inl ⟨by rfl, fun w' hS => (by have hq := HQV.out; go_simp)⟩); simp only [Act.put, zq1, zq2, zq3]
 refine tk 9 6 (.bool q) hHeld ?_; simp only [Act.put, zq1, zq2, zq3]
 refine wpAnyH_done (by kernel_rfl) ?_ _
 go_wp2
 go_returns
 obtain ⟨hpr, hbl⟩ := pair_fin HDd.out HEd.out HDJ.out HT1.out (Below.refl _ _) HT2.out (Below.refl _ _)
 exact ⟨q, s', u', rfl, HL1.out, HL2.out, hpr, ((HW.out.drew).mono HNW.out).trans hbl⟩
end Go.Proofs.YtilcofpceadpbaaGreatDoor
