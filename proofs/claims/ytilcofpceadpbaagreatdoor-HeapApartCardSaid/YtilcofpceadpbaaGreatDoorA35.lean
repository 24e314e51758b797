/-
 HeapApart: part 35 of what the claim rests on.
-/
import Derived.Test.YtilcofpceadpbaaGreatDoorA29
set_option linter.unusedVariables false
set_option linter.unusedSimpArgs false
set_option maxHeartbeats 64000000
namespace Go.Proofs.YtilcofpceadpbaaGreatDoor
open Go.ChangeShapes Go.WideShapes Go.ChangeAt Go.RowKit Go.Maps

set_option maxRecDepth 100000 in
theorem act_store {w : World} {B N h r m : Nat} {s u : HpS} (hp : Pair w B N h r s u) (oks : HpOk m s) (oku : HpOk m u) (hm : m ≤ 500) (a : HAct) (hfit : HaFit w N a) (hst : (stampsL (strip a.to)).length ≤ 1000) (hsp : SpB N w) (e0 : (a.act == 0) = false) (e1 : (a.act == 1) = false) (e2 : (a.act == 2) = false) (e3 : (a.act == 3) = false) (e4 : (a.act == 4) = false) (e5 : (a.act == 5) = false) (e6 : (a.act == 6) = false) (e7 : (a.act == 7) = false) (e8 : (a.act == 8) = true) :
  Calls Tryz.prog 8 #[.pointer (some ⟨h, 0, none⟩), .pointer (some ⟨r, 0, none⟩), .agg #[.int .i64 a.act, .int .u64 (a.ctx : Int), .int .i64 a.a.kind, .int .i64 a.a.n, .string a.a.s, .int .u64 (a.a.label : Int), .int .i64 a.b.kind, .int .i64 a.b.n, .string a.b.s, .int .u64 (a.b.label : Int), .int .i64 a.c.kind, .int .i64 a.c.n, .string a.c.s, .int .u64 (a.c.label : Int), .int .i64 a.n, .slice a.cells.A a.cells.xs.length a.cells.cap, .int .i64 a.to.kind, .slice a.to.A a.to.ns.length a.to.c, .slice a.to.A2 a.to.xs.length a.to.c2]] w (ActTo w B N h r m s u) := by
 obtain ⟨d, e, hd, he, hdj⟩ := hp
 have HD := Lib.hid hd
 have HE := Lib.hid he
 have HDJ := Lib.hid hdj
 have HLD := Lib.hid (fun b (hb : b ∈ d.fp h s.F) => (hd.kinds hb).2)
 have HLE := Lib.hid (fun b (hb : b ∈ e.fp r u.F) => (he.kinds hb).2)
 have HOS := Lib.hid (And.intro oks (And.intro oku hm))
 have HFT := Lib.hid (And.intro hfit (And.intro hst hsp))
 have HNW := Lib.hid (Nat.le_trans hd.nB hd.wB)
 have HQ0 := Lib.hid e0
 have HQ1 := Lib.hid e1
 have HQ2 := Lib.hid e2
 have HQ3 := Lib.hid e3
 have HQ4 := Lib.hid e4
 have HQ5 := Lib.hid e5
 have HQ6 := Lib.hid e6
 have HQ7 := Lib.hid e7
 have HQ8 := Lib.hid e8
 clear hd he hdj oks oku hm hfit hst hsp e0 e1 e2 e3 e4 e5 e6 e7 e8
 obtain ⟨b0, hb0⟩ : ∃ b, b = w.heap.size := ⟨_, rfl⟩
 have HE_b0 := Lib.hid hb0
 clear hb0
 go_enter Tryz.func8, Tryz.ntmps8
 go_upto_region 1 with fail
 rw [← HE_b0.out]
 refine gen_wp fun W hW => ?_
 have HB_b0 := Lib.hid (show W.heap[b0]? = some (.cells (haEnc a).toArray 33 (0, 0)) by rw [← hW, HE_b0.out]; exact heap_new_at _ _ _ (by first | rfl | simp))
 have HW := Lib.hid (show Below w.heap.size w W by rw [← hW]; exact (Below.refl _ _).alloc (by simp <;> omega) _)
 clear hW
 have HDW := Lib.hid (HD.out.below HW.out)
 have HEW := Lib.hid (HE.out.below HW.out)
 have HNB := Lib.hid (show b0 ∉ d.fp h s.F ∧ b0 ∉ e.fp r u.F from ⟨fun hm => by have := HLD.out b0 hm; have := HE_b0.out; omega, fun hm => by have := HLE.out b0 hm; have := HE_b0.out; omega⟩)
 have q0 := HQ0.out
 have q1 := HQ1.out
 have q2 := HQ2.out
 have q3 := HQ3.out
 have q4 := HQ4.out
 have q5 := HQ5.out
 have q6 := HQ6.out
 have q7 := HQ7.out
 have q8 := HQ8.out
 have p0 : W.cell? ⟨b0, 0, none⟩ = some (.int .i64 a.act) := cell_of_blk HB_b0.out rfl
 have pf0 := free_of_blk (i := 0) HB_b0.out
 have pl := blk_lt HB_b0.out
 go_wp2_with fail
 clear p0 pf0 pl
 have HDd := Lib.hid (HD.out.below HW.out.drew)
 have HEd := Lib.hid (HE.out.below HW.out.drew)
 refine wp_region_held_drew (S := fun w' => w'.heap[b0]? = some (.cells (actA a) 33 (0, 0))) (by kernel_rfl) (HB_b0.out) (fun hHeld => ?_)
 refine tk 0 254 (.pointer (some ⟨h, 0, none⟩)) hHeld ?_; simp only [Act.put, zq1, zq2, zq3]
 refine tk 1 255 (.pointer (some ⟨b0, 1, none⟩)) hHeld ?_; simp only [Act.put, zq1, zq2, zq3]
 refine tk 2 256 (.int .u64 (a.ctx : Int)) hHeld ?_ (hy := Or.inl ⟨by rfl, fun w' hS => (by have p1 := cell_of_blk (i := 1) hS rfl; go_simp)⟩); simp only [Act.put, zq1, zq2, zq3]
 refine tk 3 257 (.pointer (some ⟨b0, 14, none⟩)) hHeld ?_; simp only [Act.put, zq1, zq2, zq3]
 refine tk 4 258 (.int .i64 a.n) hHeld ?_ (hy := Or.inl ⟨by rfl, fun w' hS => (by have p14 := cell_of_blk (i := 14) hS rfl; go_simp)⟩); simp only [Act.put, zq1, zq2, zq3]
 refine tk 5 259 (.pointer (some ⟨b0, 2, none⟩)) hHeld ?_; simp only [Act.put, zq1, zq2, zq3]
 refine tk 6 260 (.agg #[.int .i64 a.a.kind, .int .i64 a.a.n, .string a.a.s, .int .u64 (a.a.label : Int)]) hHeld ?_ (hy := Or.inl ⟨by rfl, fun w' hS => (by have p2 := cell_of_blk (i := 2) hS rfl; have p3 := cell_of_blk (i := 3) hS rfl; have p4 := cell_of_blk (i := 4) hS rfl; have p5 := cell_of_blk (i := 5) hS rfl; go_simp)⟩); simp only [Act.put, zq1, zq2, zq3]
 refine tk 8 262 (.pointer (some ⟨r, 0, none⟩)) hHeld ?_; simp only [Act.put, zq1, zq2, zq3]
 refine tk 9 263 (.pointer (some ⟨b0, 1, none⟩)) hHeld ?_; simp only [Act.put, zq1, zq2, zq3]
 refine tk 10 264 (.int .u64 (a.ctx : Int)) hHeld ?_ (hy := Or.inl ⟨by rfl, fun w' hS => (by have p1 := cell_of_blk (i := 1) hS rfl; go_simp)⟩); simp only [Act.put, zq1, zq2, zq3]
 refine tk 11 265 (.pointer (some ⟨b0, 14, none⟩)) hHeld ?_; simp only [Act.put, zq1, zq2, zq3]
 refine tk 12 266 (.int .i64 a.n) hHeld ?_ (hy := Or.inl ⟨by rfl, fun w' hS => (by have p14 := cell_of_blk (i := 14) hS rfl; go_simp)⟩); simp only [Act.put, zq1, zq2, zq3]
 refine tk 13 267 (.pointer (some ⟨b0, 2, none⟩)) hHeld ?_; simp only [Act.put, zq1, zq2, zq3]
 refine tk 14 268 (.agg #[.int .i64 a.a.kind, .int .i64 a.a.n, .string a.a.s, .int .u64 (a.a.label : Int)]) hHeld ?_ (hy := Or.inl ⟨by rfl, fun w' hS => (by have p2 := cell_of_blk (i := 2) hS rfl; have p3 := cell_of_blk (i := 3) hS rfl; have p4 := cell_of_blk (i := 4) hS rfl; have p5 := cell_of_blk (i := 5) hS rfl; go_simp)⟩); simp only [Act.put, zq1, zq2, zq3]
 refine rd 7 fun K hK => ?_
 go_simp
 refine (store_at HDd.out HOS.out.1 (by have := HOS.out.2.2; omega) a.ctx a.a HFT.out.1.ctx HFT.out.1.va.vok a.n).mono ?_
 rintro e w1 ⟨x, s', rfl, hle1, hto1⟩
 have D0 := Lib.hid (show w1.heap[b0]? = some (.cells (haEnc a).toArray 33 (0, 0)) by obtain ⟨_, _, f1, _⟩ := hto1; exact f1.blk HB_b0.out HNB.out.1)
 have HL1 := Lib.hid hle1
 have HT1 := Lib.hid hto1
 clear hle1 hto1
 have HEX := Lib.hid (pair_mid HDd.out HEd.out HDJ.out HT1.out (Below.refl _ _))
 refine hK.out _ _ (D0.out) (fun hHeld => ?_)
 clear hK K
 try simp only [Act.put, zq1, zq2, zq3]
 refine rd 15 fun K hK => ?_
 go_simp
 refine (rstore_at HEX.out HOS.out.2.1 a.ctx a.a HFT.out.1.ctx HFT.out.1.va.vok a.n).mono ?_
 rintro e w2 ⟨y, u', rfl, hle2, hto2⟩
 have F0 := Lib.hid (show w2.heap[b0]? = some (.cells (haEnc a).toArray 33 (0, 0)) by obtain ⟨_, _, f2, _⟩ := hto2; exact f2.blk D0.out HNB.out.2)
 have HL2 := Lib.hid hle2
 have HT2 := Lib.hid hto2
 clear hle2 hto2
 refine hK.out _ _ (F0.out) (fun hHeld => ?_)
 clear hK K
 try simp only [Act.put, zq1, zq2, zq3]
 refine tk 16 270 (.bool (x == y)) hHeld ?_; simp only [Act.put, zq1, zq2, zq3]
 refine tk 17 6 (.bool (x == y)) hHeld ?_; simp only [Act.put, zq1, zq2, zq3]
 refine wpAnyH_done (by kernel_rfl) ?_ _
 go_wp2
 go_returns
 obtain ⟨hpr, hbl⟩ := pair_fin HDd.out HEd.out HDJ.out HT1.out (Below.refl _ _) HT2.out (Below.refl _ _)
 exact ⟨(x == y), s', u', rfl, HL1.out, HL2.out, hpr, ((HW.out.drew).mono HNW.out).trans hbl⟩
end Go.Proofs.YtilcofpceadpbaaGreatDoor
