/-
 HeapApart: part 37 of what the claim rests on.
-/
import Derived.Test.YtilcofpceadpbaaGreatDoorA02
import Derived.Test.YtilcofpceadpbaaGreatDoorA10
import Derived.Test.YtilcofpceadpbaaGreatDoorA29
import Derived.Test.YtilcofpceadpbaaGreatDoorA31
import Derived.Test.YtilcofpceadpbaaGreatDoorA32
import Derived.Test.YtilcofpceadpbaaGreatDoorA33
import Derived.Test.YtilcofpceadpbaaGreatDoorA34
import Derived.Test.YtilcofpceadpbaaGreatDoorA35
import Derived.Test.YtilcofpceadpbaaGreatDoorA36
set_option linter.unusedVariables false
set_option linter.unusedSimpArgs false
set_option maxHeartbeats 64000000
namespace Go.Proofs.YtilcofpceadpbaaGreatDoor
open Go.ChangeShapes Go.WideShapes Go.ChangeAt Go.RowKit Go.Maps

set_option maxRecDepth 100000 in
theorem act_cast {w : World} {B N h r m : Nat} {s u : HpS} (hp : Pair w B N h r s u) (oks : HpOk m s) (oku : HpOk m u) (hm : m ≤ 500) (a : HAct) (hfit : HaFit w N a) (hst : (stampsL (strip a.to)).length ≤ 1000) (hsp : SpB N w) (e0 : (a.act == 0) = false) (e1 : (a.act == 1) = false) (e2 : (a.act == 2) = false) (e3 : (a.act == 3) = false) (e4 : (a.act == 4) = false) (e5 : (a.act == 5) = false) (e6 : (a.act == 6) = false) (e7 : (a.act == 7) = false) (e8 : (a.act == 8) = false) (e9 : (a.act == 9) = true) :
  Calls Tryz.prog 8 #[.pointer (some ⟨h, 0, none⟩), .pointer (some ⟨r, 0, none⟩), .agg #[.int .i64 a.act, .int .u64 (a.ctx : Int), .int .i64 a.a.kind, .int .i64 a.a.n, .string a.a.s, .int .u64 (a.a.label : Int), .int .i64 a.b.kind, .int .i64 a.b.n, .string a.b.s, .int .u64 (a.b.label : Int), .int .i64 a.c.kind, .int .i64 a.c.n, .string a.c.s, .int .u64 (a.c.label : Int), .int .i64 a.n, .slice a.cells.A a.cells.xs.length a.cells.cap, .int .i64 a.to.kind, .slice a.to.A a.to.ns.length a.to.c, .slice a.to.A2 a.to.xs.length a.to.c2]] w (ActTo w B N h r m s u) := by
 obtain ⟨d, e, hd, he, hdj⟩ := hp
 have HD := Lib.hid hd
 have HE := Lib.hid he
 have HDJ := Lib.hid hdj
 have HLD := Lib.hid (fun b (hb : b ∈ d.fp h s.F) => (hd.kinds hb).2)
 have HLE := Lib.hid (fun b (hb : b ∈ e.fp r u.F) => (he.kinds hb).2)
 have HOS := Lib.hid (And.intro oks (And.intro oku hm))
 have HFT := Lib.hid (And.intro hfit (And.intro hst hsp))
 have HNW := Lib.hid (Nat.le_trans hd.nB hd.wB)
 have HQ0 := Lib.hid e0
 have HQ1 := Lib.hid e1
 have HQ2 := Lib.hid e2
 have HQ3 := Lib.hid e3
 have HQ4 := Lib.hid e4
 have HQ5 := Lib.hid e5
 have HQ6 := Lib.hid e6
 have HQ7 := Lib.hid e7
 have HQ8 := Lib.hid e8
 have HQ9 := Lib.hid e9
 clear hd he hdj oks oku hm hfit hst hsp e0 e1 e2 e3 e4 e5 e6 e7 e8 e9
 obtain ⟨b0, hb0⟩ : ∃ b, b = w.heap.size := ⟨_, rfl⟩
 have HE_b0 := Lib.hid hb0
 clear hb0
 go_enter Tryz.func8, Tryz.ntmps8
 go_upto_region 1 with fail
 rw [← HE_b0.out]
 refine gen_wp fun W hW => ?_
 have HB_b0 := Lib.hid (show W.heap[b0]? = some (.cells (haEnc a).toArray 33 (0, 0)) by rw [← hW, HE_b0.out]; exact heap_new_at _ _ _ (by first | rfl | simp))
 have HW := Lib.hid (show Below w.heap.size w W by rw [← hW]; exact (Below.refl _ _).alloc (by simp <;> omega) _)
 clear hW
 have HDW := Lib.hid (HD.out.below HW.out)
 have HEW := Lib.hid (HE.out.below HW.out)
 have HNB := Lib.hid (show b0 ∉ d.fp h s.F ∧ b0 ∉ e.fp r u.F from ⟨fun hm => by have := HLD.out b0 hm; have := HE_b0.out; omega, fun hm => by have := HLE.out b0 hm; have := HE_b0.out; omega⟩)
 have q0 := HQ0.out
 have q1 := HQ1.out
 have q2 := HQ2.out
 have q3 := HQ3.out
 have q4 := HQ4.out
 have q5 := HQ5.out
 have q6 := HQ6.out
 have q7 := HQ7.out
 have q8 := HQ8.out
 have q9 := HQ9.out
 have p2 : W.cell? ⟨b0, 2, none⟩ = some (.int .i64 a.a.kind) := cell_of_blk HB_b0.out rfl
 have pf2 := free_of_blk (i := 2) HB_b0.out
 have p3 : W.cell? ⟨b0, 3, none⟩ = some (.int .i64 a.a.n) := cell_of_blk HB_b0.out rfl
 have pf3 := free_of_blk (i := 3) HB_b0.out
 have p4 : W.cell? ⟨b0, 4, none⟩ = some (.string a.a.s) := cell_of_blk HB_b0.out rfl
 have pf4 := free_of_blk (i := 4) HB_b0.out
 have p5 : W.cell? ⟨b0, 5, none⟩ = some (.int .u64 (a.a.label : Int)) := cell_of_blk HB_b0.out rfl
 have pf5 := free_of_blk (i := 5) HB_b0.out
 have p14 : W.cell? ⟨b0, 14, none⟩ = some (.int .i64 a.n) := cell_of_blk HB_b0.out rfl
 have pf14 := free_of_blk (i := 14) HB_b0.out
 have p16 : W.cell? ⟨b0, 16, none⟩ = some (.int .i64 a.to.kind) := cell_of_blk HB_b0.out rfl
 have pf16 := free_of_blk (i := 16) HB_b0.out
 have p17 : W.cell? ⟨b0, 17, none⟩ = some (.slice a.to.A a.to.ns.length a.to.c) := cell_of_blk HB_b0.out rfl
 have pf17 := free_of_blk (i := 17) HB_b0.out
 have p18 : W.cell? ⟨b0, 18, none⟩ = some (.slice a.to.A2 a.to.xs.length a.to.c2) := cell_of_blk HB_b0.out rfl
 have pf18 := free_of_blk (i := 18) HB_b0.out
 have p0 : W.cell? ⟨b0, 0, none⟩ = some (.int .i64 a.act) := cell_of_blk HB_b0.out rfl
 have pf0 := free_of_blk (i := 0) HB_b0.out
 have pl := blk_lt HB_b0.out
 have HC1 := Lib.hid (cast_at HDW.out HOS.out.1 (by have := HOS.out.2.2; omega) a.a a.to a.n (HFT.out.1.to.stay (HW.out.mono HNW.out)) HFT.out.2.1 (HFT.out.2.2.on (HW.out.mono HNW.out)))
 go_wp2_with fail
 clear p2 pf2 p3 pf3 p4 pf4 p5 pf5 p14 pf14 p16 pf16 p17 pf17 p18 pf18 p0 pf0 pl
 refine HC1.out.mono ?_
 rintro e w1 ⟨x, b1, c1, s', rfl, hle1, hto1, _⟩
 have HL1 := Lib.hid hle1
 have HT1 := Lib.hid hto1
 have D0 := Lib.hid (show w1.heap[b0]? = some (.cells (haEnc a).toArray 33 (0, 0)) by obtain ⟨_, _, f1, _⟩ := hto1; exact f1.blk HB_b0.out HNB.out.1)
 clear hle1 hto1
 go_upto_region 35 with fail
 refine gen_wp fun X hX => ?_
 obtain ⟨b7, hb7⟩ : ∃ b, b = w1.heap.size := ⟨_, rfl⟩
 rw [← hb7]
 have E7 := Lib.hid (show X.heap[b7]? = some (.cells #[.int .i64 x.kind, .int .i64 x.n, .string x.s, .int .u64 (x.label : Int)] 26 (0, 0)) by rw [← hX, hb7]; exact heap_new_at _ _ _ (by first | rfl | simp))
 have HN7 := Lib.hid (show b7 ∉ e.fp r u.F from fun hm => by have := HLE.out b7 hm; have := HE_b0.out; have := blk_lt D0.out; omega)
 have E0 := Lib.hid (show X.heap[b0]? = some (.cells (haEnc a).toArray 33 (0, 0)) by rw [← hX]; exact blk_alloc D0.out _)
 have EX := Lib.hid (show Below w1.heap.size w1 X by rw [← hX]; exact (Below.refl _ _).alloc (Nat.le_refl _) _)
 clear hX hb7
 have HEX := Lib.hid (pair_mid HDW.out HEW.out HDJ.out HT1.out EX.out)
 have HSX := Lib.hid (show Below N w X by obtain ⟨_, _, f1, _⟩ := HT1.out; exact ((HW.out.mono HNW.out).trans (fr_N HD.out.fpB HD.out.nB (Nat.le_trans HD.out.wB HW.out.size) f1)).trans (EX.out.mono (Nat.le_trans HNW.out (Nat.le_trans HW.out.size f1.size))))
 have HC2 := Lib.hid (rcast_at HEX.out HOS.out.2.1 (by have := HOS.out.2.2; omega) a.a a.to a.n (HFT.out.1.to.stay HSX.out) HFT.out.2.1)
 have p2 : X.cell? ⟨b0, 2, none⟩ = some (.int .i64 a.a.kind) := cell_of_blk E0.out rfl
 have pf2 := free_of_blk (i := 2) E0.out
 have p3 : X.cell? ⟨b0, 3, none⟩ = some (.int .i64 a.a.n) := cell_of_blk E0.out rfl
 have pf3 := free_of_blk (i := 3) E0.out
 have p4 : X.cell? ⟨b0, 4, none⟩ = some (.string a.a.s) := cell_of_blk E0.out rfl
 have pf4 := free_of_blk (i := 4) E0.out
 have p5 : X.cell? ⟨b0, 5, none⟩ = some (.int .u64 (a.a.label : Int)) := cell_of_blk E0.out rfl
 have pf5 := free_of_blk (i := 5) E0.out
 have p14 : X.cell? ⟨b0, 14, none⟩ = some (.int .i64 a.n) := cell_of_blk E0.out rfl
 have pf14 := free_of_blk (i := 14) E0.out
 have p16 : X.cell? ⟨b0, 16, none⟩ = some (.int .i64 a.to.kind) := cell_of_blk E0.out rfl
 have pf16 := free_of_blk (i := 16) E0.out
 have p17 : X.cell? ⟨b0, 17, none⟩ = some (.slice a.to.A a.to.ns.length a.to.c) := cell_of_blk E0.out rfl
 have pf17 := free_of_blk (i := 17) E0.out
 have p18 : X.cell? ⟨b0, 18, none⟩ = some (.slice a.to.A2 a.to.xs.length a.to.c2) := cell_of_blk E0.out rfl
 have pf18 := free_of_blk (i := 18) E0.out
 have pl := blk_lt E0.out
 go_wp2_with fail
 clear p2 pf2 p3 pf3 p4 pf4 p5 pf5 p14 pf14 p16 pf16 p17 pf17 p18 pf18 pl
 refine HC2.out.mono ?_
 rintro e w2 ⟨y, b2, c2, u', rfl, hle2, hto2, _⟩
 have HL2 := Lib.hid hle2
 have HT2 := Lib.hid hto2
 have F7 := Lib.hid (show w2.heap[b7]? = some (.cells #[.int .i64 x.kind, .int .i64 x.n, .string x.s, .int .u64 (x.label : Int)] 26 (0, 0)) by obtain ⟨_, _, f2, _⟩ := hto2; exact f2.blk E7.out HN7.out)
 clear hle2 hto2
 go_upto_region 36 with fail
 refine gen_wp fun Y hY => ?_
 obtain ⟨b8, hb8⟩ : ∃ b, b = w2.heap.size := ⟨_, rfl⟩
 rw [← hb8]
 have G8 := Lib.hid (show Y.heap[b8]? = some (.cells #[.int .i64 y.kind, .int .i64 y.n, .string y.s, .int .u64 (y.label : Int)] 26 (0, 0)) by rw [← hY, hb8]; exact heap_new_at _ _ _ (by first | rfl | simp))
 have G7 := Lib.hid (show Y.heap[b7]? = some (.cells #[.int .i64 x.kind, .int .i64 x.n, .string x.s, .int .u64 (x.label : Int)] 26 (0, 0)) by rw [← hY]; exact blk_alloc F7.out _)
 have EY := Lib.hid (show Below w2.heap.size w2 Y by rw [← hY]; exact (Below.refl _ _).alloc (Nat.le_refl _) _)
 clear hY hb8
 obtain ⟨y0, y1, y2, y3, yf0, yf1, yf2, yf3, yl⟩ := blk_4 G7.out
 obtain ⟨z0, z1, z2, z3, zf0, zf1, zf2, zf3, zl⟩ := blk_4 G8.out
 obtain ⟨q, hq⟩ := veq x y
 cases q with
 | false =>
  go_wp2
  go_returns
  obtain ⟨hpr, hbl⟩ := pair_fin HDW.out HEW.out HDJ.out HT1.out EX.out HT2.out EY.out
  exact ⟨false, s', u', rfl, HL1.out, HL2.out, hpr, (HW.out.mono HNW.out).trans hbl⟩
 | true =>
  cases hbb : (b1 == b2) with
  | false =>
   go_wp2
   go_returns
   obtain ⟨hpr, hbl⟩ := pair_fin HDW.out HEW.out HDJ.out HT1.out EX.out HT2.out EY.out
   exact ⟨false, s', u', rfl, HL1.out, HL2.out, hpr, (HW.out.mono HNW.out).trans hbl⟩
  | true =>
   go_wp2
   go_returns
   obtain ⟨hpr, hbl⟩ := pair_fin HDW.out HEW.out HDJ.out HT1.out EX.out HT2.out EY.out
   exact ⟨(c1 == c2), s', u', rfl, HL1.out, HL2.out, hpr, (HW.out.mono HNW.out).trans hbl⟩

theorem le_charge {s : HpS} {n : Nat} {U : Int} (hU : s.U ≤ U) : HpLe n s { s with U := U } :=
 ⟨rfl, hU, fun ok => ⟨by have := ok.tl; exact Nat.le_trans this (by omega), by have := ok.fl; exact Nat.le_trans this (by omega), by have := ok.cl; exact Nat.le_trans this (by omega), fun T hT => ⟨(ok.tab T hT).1, by have := (ok.tab T hT).2.1; omega, by have := (ok.tab T hT).2.2; omega⟩, ok.fn, ok.cell, ok.str⟩⟩
theorem charge_go {w : World} {B N h : Nat} {s : HpS} {d : HpD} (H : HpAt w B N h s d) (k : Int) (hk : k ≤ 9223372036854775807) (n : Nat) : Calls Tryz.prog 38 #[.pointer (some ⟨h, 0, none⟩), .int .i64 k] w fun e w' => ∃ (b : Bool) (s' : HpS), e = .returned (.bool b) ∧ HpLe n s s' ∧ HpTo w B N h s d s' w' := by
 refine (charge_at H k hk).mono ?_
 rintro e w' (⟨rfl, hb⟩ | ⟨rfl, hr, ha, hf⟩)
 ·exact ⟨false, s, rfl, .refl _ _, .same H hb⟩
 ·exact ⟨true, _, rfl, le_charge (by omega), HpTo.charged H ha hf⟩
theorem rcharge_go {w : World} {B N h : Nat} {s : HpS} {d : HpD} (H : RpAt w B N h s d) (k : Int) (hk : k ≤ 9223372036854775807) (n : Nat) : Calls Tryz.prog 39 #[.pointer (some ⟨h, 0, none⟩), .int .i64 k] w fun e w' => ∃ (b : Bool) (s' : HpS), e = .returned (.bool b) ∧ HpLe n s s' ∧ RpTo w B N h s d s' w' := by
 refine (rcharge_at H k hk).mono ?_
 rintro e w' (⟨rfl, hb⟩ | ⟨rfl, hr, ha, hf⟩)
 ·exact ⟨false, s, rfl, .refl _ _, .same H hb⟩
 ·exact ⟨true, _, rfl, le_charge (by omega), RpTo.charged H ha hf⟩
set_option maxRecDepth 100000 in
theorem act_charge {w : World} {B N h r m : Nat} {s u : HpS} (hp : Pair w B N h r s u) (oks : HpOk m s) (oku : HpOk m u) (hm : m ≤ 500) (a : HAct) (hfit : HaFit w N a) (hst : (stampsL (strip a.to)).length ≤ 1000) (hsp : SpB N w) (e0 : (a.act == 0) = false) (e1 : (a.act == 1) = false) (e2 : (a.act == 2) = false) (e3 : (a.act == 3) = false) (e4 : (a.act == 4) = false) (e5 : (a.act == 5) = false) (e6 : (a.act == 6) = false) (e7 : (a.act == 7) = false) (e8 : (a.act == 8) = false) (e9 : (a.act == 9) = false) :
  Calls Tryz.prog 8 #[.pointer (some ⟨h, 0, none⟩), .pointer (some ⟨r, 0, none⟩), .agg #[.int .i64 a.act, .int .u64 (a.ctx : Int), .int .i64 a.a.kind, .int .i64 a.a.n, .string a.a.s, .int .u64 (a.a.label : Int), .int .i64 a.b.kind, .int .i64 a.b.n, .string a.b.s, .int .u64 (a.b.label : Int), .int .i64 a.c.kind, .int .i64 a.c.n, .string a.c.s, .int .u64 (a.c.label : Int), .int .i64 a.n, .slice a.cells.A a.cells.xs.length a.cells.cap, .int .i64 a.to.kind, .slice a.to.A a.to.ns.length a.to.c, .slice a.to.A2 a.to.xs.length a.to.c2]] w (ActTo w B N h r m s u) := by
 obtain ⟨d, e, hd, he, hdj⟩ := hp
 have HD := Lib.hid hd
 have HE := Lib.hid he
 have HDJ := Lib.hid hdj
 have HLD := Lib.hid (fun b (hb : b ∈ d.fp h s.F) => (hd.kinds hb).2)
 have HLE := Lib.hid (fun b (hb : b ∈ e.fp r u.F) => (he.kinds hb).2)
 have HOS := Lib.hid (And.intro oks (And.intro oku hm))
 have HFT := Lib.hid (And.intro hfit (And.intro hst hsp))
 have HNW := Lib.hid (Nat.le_trans hd.nB hd.wB)
 have HQ0 := Lib.hid e0
 have HQ1 := Lib.hid e1
 have HQ2 := Lib.hid e2
 have HQ3 := Lib.hid e3
 have HQ4 := Lib.hid e4
 have HQ5 := Lib.hid e5
 have HQ6 := Lib.hid e6
 have HQ7 := Lib.hid e7
 have HQ8 := Lib.hid e8
 have HQ9 := Lib.hid e9
 clear hd he hdj oks oku hm hfit hst hsp e0 e1 e2 e3 e4 e5 e6 e7 e8 e9
 obtain ⟨b0, hb0⟩ : ∃ b, b = w.heap.size := ⟨_, rfl⟩
 have HE_b0 := Lib.hid hb0
 clear hb0
 go_enter Tryz.func8, Tryz.ntmps8
 go_upto_region 1 with fail
 rw [← HE_b0.out]
 refine gen_wp fun W hW => ?_
 have HB_b0 := Lib.hid (show W.heap[b0]? = some (.cells (haEnc a).toArray 33 (0, 0)) by rw [← hW, HE_b0.out]; exact heap_new_at _ _ _ (by first | rfl | simp))
 have HW := Lib.hid (show Below w.heap.size w W by rw [← hW]; exact (Below.refl _ _).alloc (by simp <;> omega) _)
 clear hW
 have HDW := Lib.hid (HD.out.below HW.out)
 have HEW := Lib.hid (HE.out.below HW.out)
 have HNB := Lib.hid (show b0 ∉ d.fp h s.F ∧ b0 ∉ e.fp r u.F from ⟨fun hm => by have := HLD.out b0 hm; have := HE_b0.out; omega, fun hm => by have := HLE.out b0 hm; have := HE_b0.out; omega⟩)
 have q0 := HQ0.out
 have q1 := HQ1.out
 have q2 := HQ2.out
 have q3 := HQ3.out
 have q4 := HQ4.out
 have q5 := HQ5.out
 have q6 := HQ6.out
 have q7 := HQ7.out
 have q8 := HQ8.out
 have q9 := HQ9.out
 have p0 : W.cell? ⟨b0, 0, none⟩ = some (.int .i64 a.act) := cell_of_blk HB_b0.out rfl
 have pf0 := free_of_blk (i := 0) HB_b0.out
 have pl := blk_lt HB_b0.out
 go_wp2_with fail
 clear p0 pf0 pl
 have HDd := Lib.hid (HD.out.below HW.out.drew)
 have HEd := Lib.hid (HE.out.below HW.out.drew)
 refine wp_region_held_drew (S := fun w' => w'.heap[b0]? = some (.cells (actA a) 33 (0, 0))) (by kernel_rfl) (HB_b0.out) (fun hHeld => ?_)
 refine tk 0 310 (.pointer (some ⟨h, 0, none⟩)) hHeld ?_; simp only [Act.put, zq1, zq2, zq3]
 refine tk 1 311 (.pointer (some ⟨b0, 14, none⟩)) hHeld ?_; simp only [Act.put, zq1, zq2, zq3]
 refine tk 2 312 (.int .i64 a.n) hHeld ?_ (hy := Or.inl ⟨by rfl, fun w' hS => (by have p14 := cell_of_blk (i := 14) hS rfl; go_simp)⟩); simp only [Act.put, zq1, zq2, zq3]
 refine tk 4 314 (.pointer (some ⟨r, 0, none⟩)) hHeld ?_; simp only [Act.put, zq1, zq2, zq3]
 refine tk 5 315 (.pointer (some ⟨b0, 14, none⟩)) hHeld ?_; simp only [Act.put, zq1, zq2, zq3]
 refine tk 6 316 (.int .i64 a.n) hHeld ?_ (hy := Or.inl ⟨by rfl, fun w' hS => (by have p14 := cell_of_blk (i := 14) hS rfl; go_simp)⟩); simp only [Act.put, zq1, zq2, zq3]
 refine rd 3 fun K hK => ?_
 go_simp
 refine (charge_go HDd.out a.n HFT.out.1.n.2 m).mono ?_
 rintro e w1 ⟨b1, s', rfl, hle1, hto1⟩
 have D0 := Lib.hid (show w1.heap[b0]? = some (.cells (haEnc a).toArray 33 (0, 0)) by obtain ⟨_, _, f1, _⟩ := hto1; exact f1.blk HB_b0.out HNB.out.1)
 have HL1 := Lib.hid hle1
 have HT1 := Lib.hid hto1
 clear hle1 hto1
 have HEX := Lib.hid (pair_mid HDd.out HEd.out HDJ.out HT1.out (Below.refl _ _))
 refine hK.out _ _ (D0.out) (fun hHeld => ?_)
 clear hK K
 try simp only [Act.put, zq1, zq2, zq3]
 refine rd 7 fun K hK => ?_
 go_simp
 refine (rcharge_go HEX.out a.n HFT.out.1.n.2 m).mono ?_
 rintro e w2 ⟨b2, u', rfl, hle2, hto2⟩
 have F0 := Lib.hid (show w2.heap[b0]? = some (.cells (haEnc a).toArray 33 (0, 0)) by obtain ⟨_, _, f2, _⟩ := hto2; exact f2.blk D0.out HNB.out.2)
 have HL2 := Lib.hid hle2
 have HT2 := Lib.hid hto2
 clear hle2 hto2
 refine hK.out _ _ (F0.out) (fun hHeld => ?_)
 clear hK K
 try simp only [Act.put, zq1, zq2, zq3]
 refine tk 8 318 (.bool (b1 == b2)) hHeld ?_; simp only [Act.put, zq1, zq2, zq3]
 refine tk 9 6 (.bool (b1 == b2)) hHeld ?_; simp only [Act.put, zq1, zq2, zq3]
 refine wpAnyH_done (by kernel_rfl) ?_ _
 go_wp2
 go_returns
 obtain ⟨hpr, hbl⟩ := pair_fin HDd.out HEd.out HDJ.out HT1.out (Below.refl _ _) HT2.out (Below.refl _ _)
 exact ⟨(b1 == b2), s', u', rfl, HL1.out, HL2.out, hpr, ((HW.out.drew).mono HNW.out).trans hbl⟩

theorem wNameH_low : ∀ (ns : List ByteArray), (∀ s ∈ ns, s.size ≤ 140737488355328) → wName ns ≤ ns.length * 1500000000000
 | [], _ => by rw [wName]; omega
 | s :: l, h => by
  have h1 := h s (by simp)
  have h2 := wNameH_low l (fun x hx => h x (by simp [hx]))
  rw [wName, List.length_cons]
  omega
theorem lowH_step {a b n1 n2 len M : Nat} (k1 : a + M ≤ 2 * (M * n1)) (k2 : b + M * len ≤ 2 * (M * n2)) : a + b + M * (len + 1) ≤ 2 * (M * (n1 + n2)) := by
 rw [Nat.mul_add, Nat.mul_add]
 omega
theorem wtH_low (M : Nat) (hM : M = 1500000000000) : ∀ (t : LTy), ∀ (n : Nat) (w : World) (B : Nat), LIn w B t → Chk n (strip t) → wt (strip t) + M ≤ 2 * (M * nodes (strip t)) := fun t => lty_ind (P := fun t => ∀ (n : Nat) (w : World) (B : Nat), LIn w B t → Chk n (strip t) → wt (strip t) + M ≤ 2 * (M * nodes (strip t))) (fun t ih n w B hin hc => by
 rw [wt_eq, nodes_args, strip_names, strip_args]
 have h1 := wNameH_low t.ns hin.room
 rw [← hM] at h1
 have h2 : t.ns.length ≤ t.xs.length := by
  cases n with
  | zero => exact hc.elim
  | succ n =>
   have h3 := hc.1
   rw [strip_names, strip_len] at h3
   unfold HeadOk at h3
   omega
 have h4 : ∀ x ∈ t.xs, wt (strip x) + M ≤ 2 * (M * nodes (strip x)) := fun x hx => by
  obtain ⟨i, hi⟩ := List.getElem?_of_mem hx
  cases n with
  | zero => exact hc.elim
  | succ n => exact ih x hx n w B (hin.mem hx) (hc.2 i _ (strip_at hi)).2
 have h5 : ∀ l : List LTy, (∀ x ∈ l, wt (strip x) + M ≤ 2 * (M * nodes (strip x))) → wtL (l.map strip) + M * l.length ≤ 2 * (M * nodesL (l.map strip)) := fun l => by
  induction l with
  | nil => intro _; simp [wtL, nodesL]
  | cons x l ihl =>
   intro h
   have k1 := h x (by simp)
   have k2 := ihl fun y hy => h y (by simp [hy])
   rw [List.map_cons, wtL, nodesL, List.length_cons]
   exact lowH_step k1 k2
 have h6 := h5 t.xs h4
 have h7 : t.ns.length * M ≤ M * t.xs.length := by rw [Nat.mul_comm]; exact Nat.mul_le_mul_left _ h2
 rw [Nat.mul_add, Nat.mul_one]
 have h8 : 1 ≤ M := by rw [hM]; decide
 clear hM
 omega) t
theorem fewH_nodes {p : Prop} {t : LTy} {l : List LTy} {w : World} {B : Nat} (hp : p) (h : p → ∀ x ∈ l, wt (strip x) ≤ 1000000000000000000 → wt (strip x) ≤ 500) (hin : LIn w B t) (hm : May (strip t)) (hl : t ∈ l) : nodes (strip t) ≤ 500 := by
 have h1 := wtH_low 1500000000000 rfl t _ w B hin hm.1
 have h2 := hm.2
 have h3 := wt_nodes (strip t)
 have h4 := h hp t hl (by omega)
 omega
theorem stamps_few {t : LTy} {w : World} {B : Nat} (hin : LIn w B t) (h : wt (strip t) ≤ 1000000000000000000 → wt (strip t) ≤ 500) : (stampsL (strip t)).length ≤ 1000 := by
 by_cases hm : (strip t).kind = 8 ∧ May (strip t)
 ·have h1 := fewH_nodes (p := True) (l := [t]) trivial (fun _ x hx => by simp at hx; subst hx; exact h) hin hm.2 (by simp)
  have h8 : t.kind = 8 := by rw [← strip_kind]; exact hm.1
  rw [stampsL_len h8 hm.2, (shape_len h8 hm.2).1]
  have h2 := nodesL_len (strip t).args
  rw [nodes_args] at h1
  rw [strip_len] at h2
  omega
 ·rw [stampsL_no hm]
  simp
theorem act_any {w : World} {B N h r m : Nat} {s u : HpS} (hp : Pair w B N h r s u) (oks : HpOk m s) (oku : HpOk m u) (hm : m ≤ 500) (a : HAct) (hfit : HaFit w N a) (hst : (stampsL (strip a.to)).length ≤ 1000) (hsp : SpB N w) :
  Calls Tryz.prog 8 #[.pointer (some ⟨h, 0, none⟩), .pointer (some ⟨r, 0, none⟩), .agg (haEnc a).toArray] w (ActTo w B N h r m s u) := by
 cases e0 : (a.act == 0) with
 | true => exact act_table hp oks oku hm a hfit hst hsp e0
 | false =>
  cases e1 : (a.act == 1) with
  | true => exact act_put hp oks oku hm a hfit hst hsp e0 e1
  | false =>
   cases e2 : (a.act == 2) with
   | true => exact act_get hp oks oku hm a hfit hst hsp e0 e1 e2
   | false =>
    cases e3 : (a.act == 3) with
    | true => exact act_closure hp oks oku hm a hfit hst hsp e0 e1 e2 e3
    | false =>
     cases e4 : (a.act == 4) with
     | true => exact act_fn hp oks oku hm a hfit hst hsp e0 e1 e2 e3 e4
     | false =>
      cases e5 : (a.act == 5) with
      | true => exact act_equal hp oks oku hm a hfit hst hsp e0 e1 e2 e3 e4 e5
      | false =>
       cases e6 : (a.act == 6) with
       | true => exact act_cell hp oks oku hm a hfit hst hsp e0 e1 e2 e3 e4 e5 e6
       | false =>
        cases e7 : (a.act == 7) with
        | true => exact act_load hp oks oku hm a hfit hst hsp e0 e1 e2 e3 e4 e5 e6 e7
        | false =>
         cases e8 : (a.act == 8) with
         | true => exact act_store hp oks oku hm a hfit hst hsp e0 e1 e2 e3 e4 e5 e6 e7 e8
         | false =>
          cases e9 : (a.act == 9) with
          | true => exact act_cast hp oks oku hm a hfit hst hsp e0 e1 e2 e3 e4 e5 e6 e7 e8 e9
          | false =>
           exact act_charge hp oks oku hm a hfit hst hsp e0 e1 e2 e3 e4 e5 e6 e7 e8 e9
theorem heap_start {w : World} {B h : Nat} {L : Int} (hb : w.heap[h]? = some (.cells #[.int .i64 L, .int .i64 0, .slice none 0 0, .slice none 0 0, .slice none 0 0] 67 (0, 0))) (hB : B ≤ h) (h0 : 0 ≤ L) (h1 : L ≤ 9223372036854775807) : HpAt w B B h ⟨L, 0, [], [], []⟩ ⟨none, none, none, 0, 0, 0, [], []⟩ :=
 ⟨hb, World.ownsRow_nil _ _ _ _, World.ownsRow_nil _ _ _ _, World.ownsRow_nil _ _ _ _, rfl, rfl, fun i p T f h1 => by simp at h1, fun i j f g _ h1 => by simp at h1, fun f hf => by simp at hf, hB, Nat.le_of_lt (Nat.lt_of_le_of_lt hB (blk_lt hb)), Nat.le_refl _, Int.le_refl _, h0, h1⟩
theorem ref_start {w : World} {B h : Nat} {L : Int} (hb : w.heap[h]? = some (.cells #[.int .i64 L, .int .i64 0, .slice none 0 0, .slice none 0 0, .slice none 0 0] 45 (0, 0))) (hB : B ≤ h) (h0 : 0 ≤ L) (h1 : L ≤ 9223372036854775807) : RpAt w B B h ⟨L, 0, [], [], []⟩ ⟨none, none, none, 0, 0, 0, [], []⟩ :=
 ⟨hb, World.ownsRow_nil _ _ _ _, World.ownsRow_nil _ _ _ _, World.ownsRow_nil _ _ _ _, rfl, rfl, fun i p T f h1 => by simp at h1, fun i j f g _ h1 => by simp at h1, fun f hf => by simp at hf, hB, Nat.le_of_lt (Nat.lt_of_le_of_lt hB (blk_lt hb)), Nat.le_refl _, Int.le_refl _, h0, h1⟩
theorem fp_start (h : Nat) : (⟨none, none, none, 0, 0, 0, [], []⟩ : HpD).fp h [] = [h] := rfl
theorem pair_start {w : World} {B h r : Nat} {L : Int} (hb : w.heap[h]? = some (.cells #[.int .i64 L, .int .i64 0, .slice none 0 0, .slice none 0 0, .slice none 0 0] 67 (0, 0))) (rb : w.heap[r]? = some (.cells #[.int .i64 L, .int .i64 0, .slice none 0 0, .slice none 0 0, .slice none 0 0] 45 (0, 0))) (hB : B ≤ h) (rB : B ≤ r) (hn : h ≠ r) (h0 : 0 ≤ L) (h1 : L ≤ 9223372036854775807) : Pair w B B h r ⟨L, 0, [], [], []⟩ ⟨L, 0, [], [], []⟩ :=
 ⟨_, _, heap_start hb hB h0 h1, ref_start rb rB h0 h1, fun b hb => by
  rw [fp_start] at hb
  rw [fp_start]
  simp at hb ⊢
  rw [hb]
  exact hn⟩
theorem hpOk_start (L : Int) : HpOk 0 ⟨L, 0, [], [], []⟩ := ⟨by simp, by simp, by simp, by simp, fun i f h => by simp at h, by simp, by simp⟩
theorem few_len : ∀ xs : List HAct, 10 * xs.length ≤ fewN xs
 | [] => by simp [fewN]
 | x :: xs => by
  have := few_len xs
  unfold fewN at *
  simp
  omega
theorem has_fit {H : Type} {w : World} {s : Sl HAct} {d : DataW H} (h : SlIn w haEnc (HaOk w) s d) (hs : Sized Tryz.prog 22 d) : (∀ a ∈ s.xs, HaFit w w.heap.size a) ∧ s.xs.length ≤ 1000000000000 := by
 refine ⟨fun a ha => ?_, ?_⟩
 ·obtain ⟨d', h1, h2⟩ := h.mem ha
  obtain ⟨i, hi⟩ := List.getElem?_of_mem h1
  exact ha_fit h2 (sized_elem Tryz.underlying22 hs h.form hi)
 ·have hl := sized_sl Tryz.underlying22 h hs
  rw [show Tryz.prog.bytesOf 33 = 224 from by kernel_rfl] at hl
  unfold reachBytes at hl
  omega
theorem haFit_on {w w' : World} {x : HAct} (h : HaFit w w.heap.size x) (hb : Below w.heap.size w w') : HaFit w' w'.heap.size x :=
 ⟨h.act, h.ctx, h.va, h.vb, h.vc, h.n, readsOn h.reads hb, h.ints, h.len, h.le, h.nil_, h.to.on hb⟩
end Go.Proofs.YtilcofpceadpbaaGreatDoor
namespace Go.Proofs.YtilcofpceadpbaaGreatDoor
open Go.ChangeShapes Go.WideShapes Go.ChangeAt Go.RowKit

theorem table_first {w : World} {h : Nat} (hh : w.heap[h]? = some (.cells #[.int .i64 1, .int .i64 0, .slice none 0 0, .slice none 0 0, .slice none 0 0] 67 (0, 0))) : Calls Tryz.prog 12 #[.pointer (some ⟨h, 0, none⟩), .int .u64 0] w fun e w' => e = .returned (.tuple #[.agg #[.int .i64 4, .int .i64 0, .string ⟨#[]⟩, .int .u64 0], .bool true]) ∧ ∃ g cap tb, w'.heap[h]? = some (.cells #[.int .i64 1, .int .i64 1, .slice (some ⟨g, 0, none⟩) 1 cap, .slice none 0 0, .slice none 0 0] 67 (0, 0)) ∧ w'.ownsRow w.heap.size 56 1 (.slice (some ⟨g, 0, none⟩) 1 cap) 1 [.pointer (some ⟨tb, 0, none⟩)] ∧ Fr [h] w w' := by
 refine Calls.mono (show Calls Tryz.prog 12 #[.pointer (some ⟨h, 0, none⟩), .int .u64 0] w (TableOut w.heap.size h 1 0 (.slice none 0 0) (.slice none 0 0) none 0 0 [] 0 w) from htable_any 0 hh (World.ownsRow_nil _ _ _ _) rfl (by omega) (Nat.le_refl _) (by omega) (by omega) (by omega)) ?_
 rintro e w' (⟨hr, _⟩ | ⟨_, rfl, g, cap, tb, fp, h1, h2, h3, h4, h5, h6⟩)
 ·omega
 ·exact ⟨rfl, g, cap, tb, h1, h2, h4.more fun x hx => .inl (by simpa [Value.ownBlock] using hx)⟩
theorem table_second {w : World} {h g cap tb B : Nat} (hh : w.heap[h]? = some (.cells #[.int .i64 1, .int .i64 1, .slice (some ⟨g, 0, none⟩) 1 cap, .slice none 0 0, .slice none 0 0] 67 (0, 0))) (ho : w.ownsRow B 56 1 (.slice (some ⟨g, 0, none⟩) 1 cap) 1 [.pointer (some ⟨tb, 0, none⟩)]) (hB : B ≤ w.heap.size) : Calls Tryz.prog 12 #[.pointer (some ⟨h, 0, none⟩), .int .u64 0] w (RetB (.tuple #[.agg #[.int .i64 0, .int .i64 0, .string ⟨#[]⟩, .int .u64 0], .bool false]) w) := by
 refine Calls.mono (show Calls Tryz.prog 12 #[.pointer (some ⟨h, 0, none⟩), .int .u64 0] w (TableOut B h 1 1 (.slice none 0 0) (.slice none 0 0) (some ⟨g, 0, none⟩) 1 cap [.pointer (some ⟨tb, 0, none⟩)] 0 w) from htable_any 0 hh ho rfl (by omega) hB (by omega) (by omega) (by omega)) ?_
 rintro e w' (⟨_, rfl, hb⟩ | ⟨hr, _⟩)
 ·exact ⟨rfl, hb⟩
 ·omega
set_option maxRecDepth 100000 in
theorem awake21_any (w : World) : Calls Tryz.prog 4 #[] w (RetB (.bool true) w) := by
 have heq : ∀ w, (Op.equalIn 10000 26 (.agg #[.int .i64 4, .int .i64 0, .string ⟨#[]⟩, .int .u64 0]) (.agg #[.int .i64 4, .int .i64 0, .string ⟨#[]⟩, .int .u64 0])).run Tryz.prog w = .ok true w := fun w => by
  have := val_eq ⟨4, 0, ⟨#[]⟩, 0⟩ ⟨4, 0, ⟨#[]⟩, 0⟩ w
  simpa [vvCells, eqV] using this
 obtain ⟨h, hh⟩ : ∃ h, h = w.heap.size := ⟨_, rfl⟩
 have HE := Lib.hid hh
 clear hh
 go_enter Tryz.func4, Tryz.ntmps4
 go_wp2_with fail
 refine (hnew_any 1 _).mono ?_
 rintro e w1 ⟨rfl, hh1, hb1⟩
 rw [← HE.out] at hh1 ⊢
 have HH1 := Lib.hid (show w1.heap[h]? = some (.cells #[.int .i64 1, .int .i64 0, .slice none 0 0, .slice none 0 0, .slice none 0 0] 67 (0, 0)) from hh1)
 have HB1 := Lib.hid hb1
 clear hh1 hb1
 go_wp2_with fail
 refine (table_first HH1.out).mono ?_
 rintro e w2 ⟨rfl, g, cap, tb, hh2, ho2, hf2⟩
 have HF2 := Lib.hid (show Fr [h] w w2 from (Fr.of_below HB1.out [h]).trans hf2 fun x hx => .inl hx)
 have HS2 := Lib.hid hf2.size
 have HH2 := Lib.hid hh2
 have HO2 := Lib.hid ho2
 clear hh2 ho2 hf2
 go_upto_region 5 with fail
 obtain ⟨b, hb⟩ : ∃ b, b = w2.heap.size := ⟨_, rfl⟩
 have HBE := Lib.hid hb
 rw [← hb]
 refine gen_wp fun W hW => ?_
 clear hb
 have HR := Lib.hid (show W.heap[b]? = some (.cells #[.int .i64 4, .int .i64 0, .string ⟨#[]⟩, .int .u64 0] 26 (0, 0)) by rw [← hW, HBE.out]; exact heap_new_at _ _ _ (by first | rfl | simp))
 have HH := Lib.hid (show W.heap[h]? = some (.cells #[.int .i64 1, .int .i64 1, .slice (some ⟨g, 0, none⟩) 1 cap, .slice none 0 0, .slice none 0 0] 67 (0, 0)) by rw [← hW]; exact blk_alloc HH2.out _)
 have HO := Lib.hid (show W.ownsRow w1.heap.size 56 1 (.slice (some ⟨g, 0, none⟩) 1 cap) 1 [.pointer (some ⟨tb, 0, none⟩)] by rw [← hW]; exact HO2.out.alloc _)
 have HF := Lib.hid (show Fr [h] w W by rw [← hW]; exact HF2.out.alloc _)
 have HS := Lib.hid (show w1.heap.size ≤ W.heap.size by rw [← hW]; have := HS2.out; simp; omega)
 clear hW
 go_wp2_with fail
 refine (table_second HH.out HO.out HS.out).mono ?_
 rintro e w3 ⟨rfl, hb3⟩
 have HR3 := Lib.hid (below_blk hb3 HR.out)
 have HH3 := Lib.hid (below_blk hb3 HH.out)
 have HO3 := Lib.hid (below_own hb3 HO.out)
 have HF3 := Lib.hid (HF.out.trans (Fr.of_below hb3 [h]) fun x hx => .inl hx)
 have HS3 := Lib.hid (Nat.le_trans HS.out hb3.size)
 clear hb3
 go_upto_region 6 with fail
 refine gen_wp fun V hV => ?_
 have HR4 := Lib.hid (show V.heap[b]? = some (.cells #[.int .i64 4, .int .i64 0, .string ⟨#[]⟩, .int .u64 0] 26 (0, 0)) by rw [← hV]; exact blk_alloc HR3.out _)
 have HH4 := Lib.hid (show V.heap[h]? = some (.cells #[.int .i64 1, .int .i64 1, .slice (some ⟨g, 0, none⟩) 1 cap, .slice none 0 0, .slice none 0 0] 67 (0, 0)) by rw [← hV]; exact blk_alloc HH3.out _)
 have HO4 := Lib.hid (show V.ownsRow w1.heap.size 56 1 (.slice (some ⟨g, 0, none⟩) 1 cap) 1 [.pointer (some ⟨tb, 0, none⟩)] by rw [← hV]; exact HO3.out.alloc _)
 have HF4 := Lib.hid (show Fr [h] w V by rw [← hV]; exact HF3.out.alloc _)
 have HS4 := Lib.hid (show w1.heap.size ≤ V.heap.size by rw [← hV]; have := HS3.out; simp; omega)
 clear hV
 obtain ⟨r0, r1, r2, r3, rf0, rf1, rf2, rf3, rl⟩ := blk_4 HR4.out
 have HU := Lib.hid (hused_any HH4.out)
 go_wp2_with fail
 refine HU.out.mono ?_
 rintro e w5 ⟨rfl, hb5⟩
 have HR5 := Lib.hid (below_blk hb5 HR4.out)
 have HF5 := Lib.hid (HF4.out.trans (Fr.of_below hb5 [h]) fun x hx => .inl hx)
 have HOF := Lib.hid (show Calls Tryz.prog 14 #[.pointer (some ⟨h, 0, none⟩), .agg #[.int .i64 4, .int .i64 0, .string ⟨#[]⟩, .int .u64 0]] w5 (RetB (.pointer (some ⟨tb, 0, none⟩)) w5) from hof_any ⟨4, 0, ⟨#[]⟩, 0⟩ (below_blk hb5 HH4.out) (below_own hb5 HO4.out) rfl (by omega) (Nat.le_trans HS4.out hb5.size))
 clear hb5 r0 rf0 r1 rf1 r2 rf2 r3 rf3 rl
 obtain ⟨r0, r1, r2, r3, rf0, rf1, rf2, rf3, rl⟩ := blk_4 HR5.out
 go_wp2_with fail
 refine HOF.out.mono ?_
 rintro e w6 ⟨rfl, hb6⟩
 go_wp2
 go_ret
 exact ⟨rfl, (HF5.out.trans (Fr.of_below hb6 [h]) fun x hx => .inl hx).to_below (Nat.le_refl _) (by rw [HE.out]; simp)⟩

def kindS (k : Int) : ByteArray :=
 if k = 0 then ⟨#[110, 105, 108]⟩ else if k = 1 then ⟨#[98, 111, 111, 108]⟩ else if k = 2 then ⟨#[105, 110, 116]⟩ else if k = 3 then ⟨#[115, 116, 114, 105, 110, 103]⟩
 else if k = 4 then ⟨#[116, 97, 98, 108, 101]⟩ else if k = 5 then ⟨#[102, 117, 110, 99, 116, 105, 111, 110]⟩ else if k = 6 then ⟨#[116, 104, 114, 101, 97, 100]⟩ else ⟨#[63]⟩
theorem kinds9 (k : Int) : k < 0 ∨ k = 0 ∨ k = 1 ∨ k = 2 ∨ k = 3 ∨ k = 4 ∨ k = 5 ∨ k = 6 ∨ 6 < k := by omega
theorem kindS_low {k : Int} (h : k < 0) : kindS k = ⟨#[63]⟩ := by
 unfold kindS
 rw [if_neg (by omega), if_neg (by omega), if_neg (by omega), if_neg (by omega), if_neg (by omega), if_neg (by omega), if_neg (by omega)]
theorem kindS_high {k : Int} (h : 6 < k) : kindS k = ⟨#[63]⟩ := by
 unfold kindS
 rw [if_neg (by omega), if_neg (by omega), if_neg (by omega), if_neg (by omega), if_neg (by omega), if_neg (by omega), if_neg (by omega)]
theorem rkind_any (k : Int) (w : World) : Calls Tryz.prog 107 #[.int .i64 k] w (Ret (.string (kindS k)) w) := by
 obtain h | rfl | rfl | rfl | rfl | rfl | rfl | rfl | h := kinds9 k
 case inl =>
  rw [kindS_low h]
  go_enter Tryz.func107, Tryz.ntmps107
  go_wp2
  go_ret
  exact ⟨rfl, rfl⟩
 case inr.inr.inr.inr.inr.inr.inr.inr =>
  rw [kindS_high h]
  go_enter Tryz.func107, Tryz.ntmps107
  go_wp2
  go_ret
  exact ⟨rfl, rfl⟩
 all_goals
  go_enter Tryz.func107, Tryz.ntmps107
  go_wp2
  go_ret
  exact ⟨rfl, rfl⟩
end Go.Proofs.YtilcofpceadpbaaGreatDoor
