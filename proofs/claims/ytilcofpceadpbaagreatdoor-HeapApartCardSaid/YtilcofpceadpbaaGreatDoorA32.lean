/-
 HeapApart: part 32 of what the claim rests on.
-/
import Derived.Test.YtilcofpceadpbaaGreatDoorA29
set_option linter.unusedVariables false
set_option linter.unusedSimpArgs false
set_option maxHeartbeats 64000000
namespace Go.Proofs.YtilcofpceadpbaaGreatDoor
open Go.ChangeShapes Go.WideShapes Go.ChangeAt Go.RowKit Go.Maps

set_option maxRecDepth 100000 in
theorem act_closure {w : World} {B N h r m : Nat} {s u : HpS} (hp : Pair w B N h r s u) (oks : HpOk m s) (oku : HpOk m u) (hm : m ≤ 500) (a : HAct) (hfit : HaFit w N a) (hst : (stampsL (strip a.to)).length ≤ 1000) (hsp : SpB N w) (e0 : (a.act == 0) = false) (e1 : (a.act == 1) = false) (e2 : (a.act == 2) = false) (e3 : (a.act == 3) = true) :
  Calls Tryz.prog 8 #[.pointer (some ⟨h, 0, none⟩), .pointer (some ⟨r, 0, none⟩), .agg #[.int .i64 a.act, .int .u64 (a.ctx : Int), .int .i64 a.a.kind, .int .i64 a.a.n, .string a.a.s, .int .u64 (a.a.label : Int), .int .i64 a.b.kind, .int .i64 a.b.n, .string a.b.s, .int .u64 (a.b.label : Int), .int .i64 a.c.kind, .int .i64 a.c.n, .string a.c.s, .int .u64 (a.c.label : Int), .int .i64 a.n, .slice a.cells.A a.cells.xs.length a.cells.cap, .int .i64 a.to.kind, .slice a.to.A a.to.ns.length a.to.c, .slice a.to.A2 a.to.xs.length a.to.c2]] w (ActTo w B N h r m s u) := by
 obtain ⟨d, e, hd, he, hdj⟩ := hp
 have HD := Lib.hid hd
 have HE := Lib.hid he
 have HDJ := Lib.hid hdj
 have HLD := Lib.hid (fun b (hb : b ∈ d.fp h s.F) => (hd.kinds hb).2)
 have HLE := Lib.hid (fun b (hb : b ∈ e.fp r u.F) => (he.kinds hb).2)
 have HOS := Lib.hid (And.intro oks (And.intro oku hm))
 have HFT := Lib.hid (And.intro hfit (And.intro hst hsp))
 have HNW := Lib.hid (Nat.le_trans hd.nB hd.wB)
 have HQ0 := Lib.hid e0
 have HQ1 := Lib.hid e1
 have HQ2 := Lib.hid e2
 have HQ3 := Lib.hid e3
 clear hd he hdj oks oku hm hfit hst hsp e0 e1 e2 e3
 obtain ⟨b0, hb0⟩ : ∃ b, b = w.heap.size := ⟨_, rfl⟩
 have HE_b0 := Lib.hid hb0
 clear hb0
 go_enter Tryz.func8, Tryz.ntmps8
 go_upto_region 1 with fail
 rw [← HE_b0.out]
 refine gen_wp fun W hW => ?_
 have HB_b0 := Lib.hid (show W.heap[b0]? = some (.cells (haEnc a).toArray 33 (0, 0)) by rw [← hW, HE_b0.out]; exact heap_new_at _ _ _ (by first | rfl | simp))
 have HW := Lib.hid (show Below w.heap.size w W by rw [← hW]; exact (Below.refl _ _).alloc (by simp <;> omega) _)
 clear hW
 have HDW := Lib.hid (HD.out.below HW.out)
 have HEW := Lib.hid (HE.out.below HW.out)
 have HNB := Lib.hid (show b0 ∉ d.fp h s.F ∧ b0 ∉ e.fp r u.F from ⟨fun hm => by have := HLD.out b0 hm; have := HE_b0.out; omega, fun hm => by have := HLE.out b0 hm; have := HE_b0.out; omega⟩)
 have q0 := HQ0.out
 have q1 := HQ1.out
 have q2 := HQ2.out
 have q3 := HQ3.out
 have p14 : W.cell? ⟨b0, 14, none⟩ = some (.int .i64 a.n) := cell_of_blk HB_b0.out rfl
 have pf14 := free_of_blk (i := 14) HB_b0.out
 have p15 : W.cell? ⟨b0, 15, none⟩ = some (.slice a.cells.A a.cells.xs.length a.cells.cap) := cell_of_blk HB_b0.out rfl
 have pf15 := free_of_blk (i := 15) HB_b0.out
 have p0 : W.cell? ⟨b0, 0, none⟩ = some (.int .i64 a.act) := cell_of_blk HB_b0.out rfl
 have pf0 := free_of_blk (i := 0) HB_b0.out
 have pl := blk_lt HB_b0.out
 have HC1 := Lib.hid (closure_at HDW.out a.n a.cells (readsOn (HFT.out.1.reads.mono' HNW.out) HW.out) HFT.out.1.len HFT.out.1.nil_ m (by have := HOS.out.1.fl; have := HOS.out.2.2; omega))
 go_wp2_with fail
 clear p14 pf14 p15 pf15 p0 pf0 pl
 refine HC1.out.mono ?_
 rintro e w1 ⟨x, b1, s', rfl, hle1, hto1⟩
 have HL1 := Lib.hid hle1
 have HT1 := Lib.hid hto1
 have D0 := Lib.hid (show w1.heap[b0]? = some (.cells (haEnc a).toArray 33 (0, 0)) by obtain ⟨_, _, f1, _⟩ := hto1; exact f1.blk HB_b0.out HNB.out.1)
 clear hle1 hto1
 go_upto_region 17 with fail
 refine gen_wp fun X hX => ?_
 obtain ⟨b7, hb7⟩ : ∃ b, b = w1.heap.size := ⟨_, rfl⟩
 rw [← hb7]
 have E7 := Lib.hid (show X.heap[b7]? = some (.cells #[.int .i64 x.kind, .int .i64 x.n, .string x.s, .int .u64 (x.label : Int)] 26 (0, 0)) by rw [← hX, hb7]; exact heap_new_at _ _ _ (by first | rfl | simp))
 have HN7 := Lib.hid (show b7 ∉ e.fp r u.F from fun hm => by have := HLE.out b7 hm; have := HE_b0.out; have := blk_lt D0.out; omega)
 have E0 := Lib.hid (show X.heap[b0]? = some (.cells (haEnc a).toArray 33 (0, 0)) by rw [← hX]; exact blk_alloc D0.out _)
 have EX := Lib.hid (show Below w1.heap.size w1 X by rw [← hX]; exact (Below.refl _ _).alloc (Nat.le_refl _) _)
 clear hX hb7
 have HEX := Lib.hid (pair_mid HDW.out HEW.out HDJ.out HT1.out EX.out)
 have HSX := Lib.hid (show Below N w X by obtain ⟨_, _, f1, _⟩ := HT1.out; exact ((HW.out.mono HNW.out).trans (fr_N HD.out.fpB HD.out.nB (Nat.le_trans HD.out.wB HW.out.size) f1)).trans (EX.out.mono (Nat.le_trans HNW.out (Nat.le_trans HW.out.size f1.size))))
 have HC2 := Lib.hid (rclosure_at HEX.out a.n a.cells ((HFT.out.1.reads.below HSX.out).mono' (Nat.le_trans HNW.out HSX.out.size)) HFT.out.1.len HFT.out.1.nil_ m (by have := HOS.out.2.1.fl; have := HOS.out.2.2; omega))
 have p14 : X.cell? ⟨b0, 14, none⟩ = some (.int .i64 a.n) := cell_of_blk E0.out rfl
 have pf14 := free_of_blk (i := 14) E0.out
 have p15 : X.cell? ⟨b0, 15, none⟩ = some (.slice a.cells.A a.cells.xs.length a.cells.cap) := cell_of_blk E0.out rfl
 have pf15 := free_of_blk (i := 15) E0.out
 have pl := blk_lt E0.out
 go_wp2_with fail
 clear p14 pf14 p15 pf15 pl
 refine HC2.out.mono ?_
 rintro e w2 ⟨y, b2, u', rfl, hle2, hto2⟩
 have HL2 := Lib.hid hle2
 have HT2 := Lib.hid hto2
 have F7 := Lib.hid (show w2.heap[b7]? = some (.cells #[.int .i64 x.kind, .int .i64 x.n, .string x.s, .int .u64 (x.label : Int)] 26 (0, 0)) by obtain ⟨_, _, f2, _⟩ := hto2; exact f2.blk E7.out HN7.out)
 clear hle2 hto2
 go_upto_region 18 with fail
 refine gen_wp fun Y hY => ?_
 obtain ⟨b8, hb8⟩ : ∃ b, b = w2.heap.size := ⟨_, rfl⟩
 rw [← hb8]
 have G8 := Lib.hid (show Y.heap[b8]? = some (.cells #[.int .i64 y.kind, .int .i64 y.n, .string y.s, .int .u64 (y.label : Int)] 26 (0, 0)) by rw [← hY, hb8]; exact heap_new_at _ _ _ (by first | rfl | simp))
 have G7 := Lib.hid (show Y.heap[b7]? = some (.cells #[.int .i64 x.kind, .int .i64 x.n, .string x.s, .int .u64 (x.label : Int)] 26 (0, 0)) by rw [← hY]; exact blk_alloc F7.out _)
 have EY := Lib.hid (show Below w2.heap.size w2 Y by rw [← hY]; exact (Below.refl _ _).alloc (Nat.le_refl _) _)
 clear hY hb8
 obtain ⟨y0, y1, y2, y3, yf0, yf1, yf2, yf3, yl⟩ := blk_4 G7.out
 obtain ⟨z0, z1, z2, z3, zf0, zf1, zf2, zf3, zl⟩ := blk_4 G8.out
 obtain ⟨q, hq⟩ := veq x y
 cases q with
 | false =>
  go_wp2
  go_returns
  obtain ⟨hpr, hbl⟩ := pair_fin HDW.out HEW.out HDJ.out HT1.out EX.out HT2.out EY.out
  exact ⟨false, s', u', rfl, HL1.out, HL2.out, hpr, (HW.out.mono HNW.out).trans hbl⟩
 | true =>
  go_wp2
  go_returns
  obtain ⟨hpr, hbl⟩ := pair_fin HDW.out HEW.out HDJ.out HT1.out EX.out HT2.out EY.out
  exact ⟨(b1 == b2), s', u', rfl, HL1.out, HL2.out, hpr, (HW.out.mono HNW.out).trans hbl⟩
end Go.Proofs.YtilcofpceadpbaaGreatDoor
