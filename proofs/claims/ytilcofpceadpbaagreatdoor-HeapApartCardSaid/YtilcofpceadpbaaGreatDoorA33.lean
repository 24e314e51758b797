/-
 HeapApart: part 33 of what the claim rests on.
-/
import Derived.Test.YtilcofpceadpbaaGreatDoorA29
import Derived.Test.YtilcofpceadpbaaGreatDoorA30
set_option linter.unusedVariables false
set_option linter.unusedSimpArgs false
set_option maxHeartbeats 64000000
namespace Go.Proofs.YtilcofpceadpbaaGreatDoor
open Go.ChangeShapes Go.WideShapes Go.ChangeAt Go.RowKit Go.Maps

def FnRes (w : World) (e : Ending) (w' : World) : Prop := ∃ (f : FnS) (cs : List Int) (b : Bool), e = .returned (.tuple #[.agg #[.int .i64 f.pr, .slice f.A f.n f.c, .int .i64 f.x.kind, .int .i64 f.x.n, .string f.x.s, .int .u64 (f.x.label : Int), .int .i64 f.ty.kind, .slice f.ty.A f.ty.ns.length f.ty.c, .slice f.ty.A2 f.ty.xs.length f.ty.c2, .int .i64 f.ca, .bool f.wr], .bool b]) ∧ cs.length = f.n ∧ Reads w' w'.heap.size f.A (cs.map (.int .i64 ·)) ∧ LIn w' w'.heap.size f.ty ∧ f.n ≤ 140737488351232 ∧ Below w.heap.size w w'
def zFn : FnS := ⟨0, none, 0, 0, ⟨0, 0, ⟨#[]⟩, 0⟩, zTy, 0, false⟩
theorem fn_go {w : World} {B N h : Nat} {s : HpS} {d : HpD} (H : HpAt w B N h s d) (v : VV) (hn : s.F.length ≤ 1000000) : Calls Tryz.prog 24 #[.pointer (some ⟨h, 0, none⟩), .agg #[.int .i64 v.kind, .int .i64 v.n, .string v.s, .int .u64 (v.label : Int)]] w (FnRes w) := by
 rcases hfi : fnI s v with _ | f
 ·refine (fn_none H v hn hfi).mono ?_
  rintro e w' ⟨rfl, hb⟩
  exact ⟨zFn, [], false, rfl, rfl, .inl rfl, zTy_in _ _, by simp [zFn], hb⟩
 ·refine (fn_got H v hn hfi).mono ?_
  rintro e w' ⟨hb, A', c', cs, rfl, hcs, hown⟩
  obtain ⟨A0, c0, e0, _, _, _, hR⟩ := own_reads hown
  have eA : A' = A0 := by injection e0
  subst eA
  obtain ⟨j, hj, _⟩ := fnI_some hfi
  have hf := H.fns f (List.mem_of_getElem? hj)
  have hl := hf.len
  have hNW := Nat.le_trans H.nB H.wB
  exact ⟨{ f with A := A', c := c' }, cs, true, rfl, hcs, hR, (hf.ty.stay (hb.mono hNW)).more (Nat.le_trans hNW hb.size), by show f.n ≤ _; omega, hb⟩
theorem rfn_go {w : World} {B N h : Nat} {s : HpS} {d : HpD} (H : RpAt w B N h s d) (v : VV) (hn : s.F.length ≤ 1000000) : Calls Tryz.prog 25 #[.pointer (some ⟨h, 0, none⟩), .agg #[.int .i64 v.kind, .int .i64 v.n, .string v.s, .int .u64 (v.label : Int)]] w (FnRes w) := by
 rcases hfi : fnI s v with _ | f
 ·refine (rfn_none H v hn hfi).mono ?_
  rintro e w' ⟨rfl, hb⟩
  exact ⟨zFn, [], false, rfl, rfl, .inl rfl, zTy_in _ _, by simp [zFn], hb⟩
 ·refine (rfn_got H v hn hfi).mono ?_
  rintro e w' ⟨hb, rfl⟩
  obtain ⟨j, hj, _⟩ := fnI_some hfi
  have hf := H.fns f (List.mem_of_getElem? hj)
  obtain ⟨cs, hcs, hown⟩ := hf.cells
  obtain ⟨A0, c0, e0, _, _, _, hR⟩ := own_reads (below_own hb hown)
  have eA : f.A = A0 := by injection e0
  subst eA
  have hl := hf.len
  have hNW := Nat.le_trans H.nB H.wB
  exact ⟨f, cs, true, rfl, hcs, hR, (hf.ty.stay (hb.mono hNW)).more (Nat.le_trans hNW hb.size), by omega, hb⟩
set_option maxRecDepth 100000 in
theorem act_fn {w : World} {B N h r m : Nat} {s u : HpS} (hp : Pair w B N h r s u) (oks : HpOk m s) (oku : HpOk m u) (hm : m ≤ 500) (a : HAct) (hfit : HaFit w N a) (hst : (stampsL (strip a.to)).length ≤ 1000) (hsp : SpB N w) (e0 : (a.act == 0) = false) (e1 : (a.act == 1) = false) (e2 : (a.act == 2) = false) (e3 : (a.act == 3) = false) (e4 : (a.act == 4) = true) :
  Calls Tryz.prog 8 #[.pointer (some ⟨h, 0, none⟩), .pointer (some ⟨r, 0, none⟩), .agg #[.int .i64 a.act, .int .u64 (a.ctx : Int), .int .i64 a.a.kind, .int .i64 a.a.n, .string a.a.s, .int .u64 (a.a.label : Int), .int .i64 a.b.kind, .int .i64 a.b.n, .string a.b.s, .int .u64 (a.b.label : Int), .int .i64 a.c.kind, .int .i64 a.c.n, .string a.c.s, .int .u64 (a.c.label : Int), .int .i64 a.n, .slice a.cells.A a.cells.xs.length a.cells.cap, .int .i64 a.to.kind, .slice a.to.A a.to.ns.length a.to.c, .slice a.to.A2 a.to.xs.length a.to.c2]] w (ActTo w B N h r m s u) := by
 obtain ⟨d, e, hd, he, hdj⟩ := hp
 have HD := Lib.hid hd
 have HE := Lib.hid he
 have HDJ := Lib.hid hdj
 have HLD := Lib.hid (fun b (hb : b ∈ d.fp h s.F) => (hd.kinds hb).2)
 have HLE := Lib.hid (fun b (hb : b ∈ e.fp r u.F) => (he.kinds hb).2)
 have HOS := Lib.hid (And.intro oks (And.intro oku hm))
 have HFT := Lib.hid (And.intro hfit (And.intro hst hsp))
 have HNW := Lib.hid (Nat.le_trans hd.nB hd.wB)
 have HQ0 := Lib.hid e0
 have HQ1 := Lib.hid e1
 have HQ2 := Lib.hid e2
 have HQ3 := Lib.hid e3
 have HQ4 := Lib.hid e4
 clear hd he hdj oks oku hm hfit hst hsp e0 e1 e2 e3 e4
 obtain ⟨b0, hb0⟩ : ∃ b, b = w.heap.size := ⟨_, rfl⟩
 have HE_b0 := Lib.hid hb0
 clear hb0
 go_enter Tryz.func8, Tryz.ntmps8
 go_upto_region 1 with fail
 rw [← HE_b0.out]
 refine gen_wp fun W hW => ?_
 have HB_b0 := Lib.hid (show W.heap[b0]? = some (.cells (haEnc a).toArray 33 (0, 0)) by rw [← hW, HE_b0.out]; exact heap_new_at _ _ _ (by first | rfl | simp))
 have HW := Lib.hid (show Below w.heap.size w W by rw [← hW]; exact (Below.refl _ _).alloc (by simp <;> omega) _)
 clear hW
 have HDW := Lib.hid (HD.out.below HW.out)
 have HEW := Lib.hid (HE.out.below HW.out)
 have HNB := Lib.hid (show b0 ∉ d.fp h s.F ∧ b0 ∉ e.fp r u.F from ⟨fun hm => by have := HLD.out b0 hm; have := HE_b0.out; omega, fun hm => by have := HLE.out b0 hm; have := HE_b0.out; omega⟩)
 have q0 := HQ0.out
 have q1 := HQ1.out
 have q2 := HQ2.out
 have q3 := HQ3.out
 have q4 := HQ4.out
 have p2 : W.cell? ⟨b0, 2, none⟩ = some (.int .i64 a.a.kind) := cell_of_blk HB_b0.out rfl
 have pf2 := free_of_blk (i := 2) HB_b0.out
 have p3 : W.cell? ⟨b0, 3, none⟩ = some (.int .i64 a.a.n) := cell_of_blk HB_b0.out rfl
 have pf3 := free_of_blk (i := 3) HB_b0.out
 have p4 : W.cell? ⟨b0, 4, none⟩ = some (.string a.a.s) := cell_of_blk HB_b0.out rfl
 have pf4 := free_of_blk (i := 4) HB_b0.out
 have p5 : W.cell? ⟨b0, 5, none⟩ = some (.int .u64 (a.a.label : Int)) := cell_of_blk HB_b0.out rfl
 have pf5 := free_of_blk (i := 5) HB_b0.out
 have p0 : W.cell? ⟨b0, 0, none⟩ = some (.int .i64 a.act) := cell_of_blk HB_b0.out rfl
 have pf0 := free_of_blk (i := 0) HB_b0.out
 have pl := blk_lt HB_b0.out
 have HC1 := Lib.hid (fn_go HDW.out a.a (by have := HOS.out.1.fl; have := HOS.out.2.2; omega))
 go_wp2_with fail
 clear p2 pf2 p3 pf3 p4 pf4 p5 pf5 p0 pf0 pl
 refine HC1.out.mono ?_
 rintro e w1 ⟨f, cf, b1, rfl, hf1, hf2, hf3, hf4, hb1⟩
 have W1 := Lib.hid (HW.out.trans (hb1.mono HW.out.size))
 have D0 := Lib.hid (below_blk hb1 HB_b0.out)
 go_upto_region 21 with fail
 refine gen_wp fun X hX => ?_
 obtain ⟨b7, hb7⟩ : ∃ b, b = w1.heap.size := ⟨_, rfl⟩
 rw [← hb7]
 have hbx : Below w1.heap.size w1 X := by rw [← hX]; exact (Below.refl _ _).alloc (Nat.le_refl _) _
 have E7 := Lib.hid (show X.heap[b7]? = some (.cells #[.int .i64 f.pr, .slice f.A f.n f.c, .int .i64 f.x.kind, .int .i64 f.x.n, .string f.x.s, .int .u64 (f.x.label : Int), .int .i64 f.ty.kind, .slice f.ty.A f.ty.ns.length f.ty.c, .slice f.ty.A2 f.ty.xs.length f.ty.c2, .int .i64 f.ca, .bool f.wr] 79 (0, 0)) by rw [← hX, hb7]; exact heap_new_at _ _ _ (by first | rfl | simp))
 have E0 := Lib.hid (below_blk hbx D0.out)
 have XW := Lib.hid (W1.out.trans (hbx.mono W1.out.size))
 have HF := Lib.hid (And.intro hf1 (And.intro (readsOn hf2 hbx) (And.intro (hf3.on hbx) hf4)))
 clear hX hb7 hf1 hf2 hf3 hf4 hb1 hbx
 have HC2 := Lib.hid (rfn_go (HE.out.below XW.out) a.a (by have := HOS.out.2.1.fl; have := HOS.out.2.2; omega))
 have p2 : X.cell? ⟨b0, 2, none⟩ = some (.int .i64 a.a.kind) := cell_of_blk E0.out rfl
 have pf2 := free_of_blk (i := 2) E0.out
 have p3 : X.cell? ⟨b0, 3, none⟩ = some (.int .i64 a.a.n) := cell_of_blk E0.out rfl
 have pf3 := free_of_blk (i := 3) E0.out
 have p4 : X.cell? ⟨b0, 4, none⟩ = some (.string a.a.s) := cell_of_blk E0.out rfl
 have pf4 := free_of_blk (i := 4) E0.out
 have p5 : X.cell? ⟨b0, 5, none⟩ = some (.int .u64 (a.a.label : Int)) := cell_of_blk E0.out rfl
 have pf5 := free_of_blk (i := 5) E0.out
 have pl := blk_lt E0.out
 go_wp2_with fail
 clear p2 pf2 p3 pf3 p4 pf4 p5 pf5 pl
 refine HC2.out.mono ?_
 rintro e w2 ⟨g, cg, b2, rfl, hg1, hg2, hg3, hg4, hb2⟩
 have F0 := Lib.hid (below_blk hb2 E0.out)
 have F7 := Lib.hid (below_blk hb2 E7.out)
 have W2 := Lib.hid (XW.out.trans (hb2.mono XW.out.size))
 have HF2 := Lib.hid (And.intro (readsOn HF.out.2.1 hb2) (HF.out.2.2.1.on hb2))
 go_upto_region 22 with fail
 refine gen_wp fun Y hY => ?_
 obtain ⟨b8, hb8⟩ : ∃ b, b = w2.heap.size := ⟨_, rfl⟩
 rw [← hb8]
 have hby : Below w2.heap.size w2 Y := by rw [← hY]; exact (Below.refl _ _).alloc (Nat.le_refl _) _
 have G8 := Lib.hid (show Y.heap[b8]? = some (.cells #[.int .i64 g.pr, .slice g.A g.n g.c, .int .i64 g.x.kind, .int .i64 g.x.n, .string g.x.s, .int .u64 (g.x.label : Int), .int .i64 g.ty.kind, .slice g.ty.A g.ty.ns.length g.ty.c, .slice g.ty.A2 g.ty.xs.length g.ty.c2, .int .i64 g.ca, .bool g.wr] 79 (0, 0)) by rw [← hY, hb8]; exact heap_new_at _ _ _ (by first | rfl | simp))
 have G7 := Lib.hid (below_blk hby F7.out)
 have G0 := Lib.hid (below_blk hby F0.out)
 have YW := Lib.hid (W2.out.trans (hby.mono W2.out.size))
 have hbyd : Below w2.heap.size w2 Y.drew := hby.drew
 have HSF := Lib.hid (samefn_any f.pr g.pr f.A g.A f.n f.c g.n g.c f.x g.x f.ty g.ty f.ca g.ca f.wr g.wr Y.drew cf cg HF.out.1 hg1 (readsOn HF2.out.1 hbyd) (readsOn hg2 hbyd) (HF2.out.2.on hbyd) (hg3.on hbyd) HF.out.2.2.2)
 clear hY hb8 hg1 hg2 hg3 hg4 hb2 hby hbyd
 have HCS := Lib.hid (And.intro HOS.out.1.fn HOS.out.2.1.fn)
 cases hbb : (b1 == b2) with
 | false =>
  have HBB := Lib.hid hbb
  clear hbb
  go_wp2_with fail
  refine wp_region_held_drew (S := fun w' => w'.heap[b0]? = some (.cells (actA a) 33 (0, 0)) ∧ w'.heap[b7]? = some (.cells #[.int .i64 f.pr, .slice f.A f.n f.c, .int .i64 f.x.kind, .int .i64 f.x.n, .string f.x.s, .int .u64 (f.x.label : Int), .int .i64 f.ty.kind, .slice f.ty.A f.ty.ns.length f.ty.c, .slice f.ty.A2 f.ty.xs.length f.ty.c2, .int .i64 f.ca, .bool f.wr] 79 (0, 0)) ∧ w'.heap[b8]? = some (.cells #[.int .i64 g.pr, .slice g.A g.n g.c, .int .i64 g.x.kind, .int .i64 g.x.n, .string g.x.s, .int .u64 (g.x.label : Int), .int .i64 g.ty.kind, .slice g.ty.A g.ty.ns.length g.ty.c, .slice g.ty.A2 g.ty.xs.length g.ty.c2, .int .i64 g.ca, .bool g.wr] 79 (0, 0))) (by kernel_rfl) (⟨G0.out, G7.out, G8.out⟩) (fun hHeld => ?_)
  refine tk 0 183 (.agg #[.int .i64 f.pr, .slice f.A f.n f.c, .int .i64 f.x.kind, .int .i64 f.x.n, .string f.x.s, .int .u64 (f.x.label : Int), .int .i64 f.ty.kind, .slice f.ty.A f.ty.ns.length f.ty.c, .slice f.ty.A2 f.ty.xs.length f.ty.c2, .int .i64 f.ca, .bool f.wr]) hHeld ?_ (hy := Or.inl ⟨by rfl, fun w' hS => (by have q0 := cell_of_blk (i := 0) hS.2.1 rfl; have q1 := cell_of_blk (i := 1) hS.2.1 rfl; have q2 := cell_of_blk (i := 2) hS.2.1 rfl; have q3 := cell_of_blk (i := 3) hS.2.1 rfl; have q4 := cell_of_blk (i := 4) hS.2.1 rfl; have q5 := cell_of_blk (i := 5) hS.2.1 rfl; have q6 := cell_of_blk (i := 6) hS.2.1 rfl; have q7 := cell_of_blk (i := 7) hS.2.1 rfl; have q8 := cell_of_blk (i := 8) hS.2.1 rfl; have q9 := cell_of_blk (i := 9) hS.2.1 rfl; have q10 := cell_of_blk (i := 10) hS.2.1 rfl; go_simp)⟩); simp only [Act.put, zq1, zq2, zq3]
  refine tk 1 184 (.agg #[.int .i64 g.pr, .slice g.A g.n g.c, .int .i64 g.x.kind, .int .i64 g.x.n, .string g.x.s, .int .u64 (g.x.label : Int), .int .i64 g.ty.kind, .slice g.ty.A g.ty.ns.length g.ty.c, .slice g.ty.A2 g.ty.xs.length g.ty.c2, .int .i64 g.ca, .bool g.wr]) hHeld ?_ (hy := Or.inl ⟨by rfl, fun w' hS => (by have q0 := cell_of_blk (i := 0) hS.2.2 rfl; have q1 := cell_of_blk (i := 1) hS.2.2 rfl; have q2 := cell_of_blk (i := 2) hS.2.2 rfl; have q3 := cell_of_blk (i := 3) hS.2.2 rfl; have q4 := cell_of_blk (i := 4) hS.2.2 rfl; have q5 := cell_of_blk (i := 5) hS.2.2 rfl; have q6 := cell_of_blk (i := 6) hS.2.2 rfl; have q7 := cell_of_blk (i := 7) hS.2.2 rfl; have q8 := cell_of_blk (i := 8) hS.2.2 rfl; have q9 := cell_of_blk (i := 9) hS.2.2 rfl; have q10 := cell_of_blk (i := 10) hS.2.2 rfl; go_simp)⟩); simp only [Act.put, zq1, zq2, zq3]
  refine rd 2 fun K hK => ?_
  go_simp
  refine HSF.out.mono ?_
  rintro e w4 ⟨hb4, qs, rfl⟩
  have W4 := Lib.hid (show Below Y.heap.size Y w4 from (Below.refl _ _).drew.trans hb4)
  clear hb4
  cases qs with
  | false =>
   refine hK.out _ _ (⟨below_blk W4.out G0.out, below_blk W4.out G7.out, below_blk W4.out G8.out⟩) (fun hHeld => ?_)
   clear hK K
   try simp only [Act.put, zq1, zq2, zq3]
   refine tk 3 186 (.bool false) hHeld ?_; simp only [Act.put, zq1, zq2, zq3]
   refine tu 4 187 hHeld ?_; simp only [Act.put, zq1, zq2, zq3]
   refine tu 5 188 hHeld ?_; simp only [Act.put, zq1, zq2, zq3]
   refine tu 6 189 hHeld ?_; simp only [Act.put, zq1, zq2, zq3]
   refine tk 7 190 (.bool false) hHeld ?_; simp only [Act.put, zq1, zq2, zq3]
   refine tk 8 191 (.bool false) hHeld ?_; simp only [Act.put, zq1, zq2, zq3]
   refine tu 9 192 hHeld ?_; simp only [Act.put, zq1, zq2, zq3]
   refine tu 10 193 hHeld ?_; simp only [Act.put, zq1, zq2, zq3]
   refine tu 11 194 hHeld ?_; simp only [Act.put, zq1, zq2, zq3]
   refine tu 12 195 hHeld ?_; simp only [Act.put, zq1, zq2, zq3]
   refine tu 13 196 hHeld ?_; simp only [Act.put, zq1, zq2, zq3]
   refine tu 14 197 hHeld ?_; simp only [Act.put, zq1, zq2, zq3]
   refine tu 15 198 hHeld ?_; simp only [Act.put, zq1, zq2, zq3]
   refine tu 16 199 hHeld ?_; simp only [Act.put, zq1, zq2, zq3]
   refine tu 17 200 hHeld ?_; simp only [Act.put, zq1, zq2, zq3]
   refine tk 18 201 (.bool false) hHeld ?_; simp only [Act.put, zq1, zq2, zq3]
   refine tk 19 6 (.bool false) hHeld ?_; simp only [Act.put, zq1, zq2, zq3]
   refine wpAnyH_done (by kernel_rfl) ?_ _
   go_wp2
   go_returns
   exact ⟨false, s, u, rfl, .refl _ _, .refl _ _, Pair.below ⟨d, e, HD.out, HE.out, HDJ.out⟩ (YW.out.trans (W4.out.mono YW.out.size)), Below.mono (YW.out.trans (W4.out.mono YW.out.size)) HNW.out⟩
  | true =>
   refine hK.out _ _ (⟨below_blk W4.out G0.out, below_blk W4.out G7.out, below_blk W4.out G8.out⟩) (fun hHeld => ?_)
   clear hK K
   try simp only [Act.put, zq1, zq2, zq3]
   refine tk 3 186 (.bool true) hHeld ?_; simp only [Act.put, zq1, zq2, zq3]
   refine tk 4 187 (.bool b1) hHeld ?_; simp only [Act.put, zq1, zq2, zq3]
   refine tk 5 188 (.bool b2) hHeld ?_; simp only [Act.put, zq1, zq2, zq3]
   refine tk 6 189 (.bool false) hHeld ?_ (hy := Or.inl ⟨by rfl, fun w' hS => (by have hbb := HBB.out; go_simp)⟩); simp only [Act.put, zq1, zq2, zq3]
   refine tk 7 190 (.bool false) hHeld ?_; simp only [Act.put, zq1, zq2, zq3]
   refine tk 8 191 (.bool false) hHeld ?_; simp only [Act.put, zq1, zq2, zq3]
   refine tu 9 192 hHeld ?_; simp only [Act.put, zq1, zq2, zq3]
   refine tu 10 193 hHeld ?_; simp only [Act.put, zq1, zq2, zq3]
   refine tu 11 194 hHeld ?_; simp only [Act.put, zq1, zq2, zq3]
   refine tu 12 195 hHeld ?_; simp only [Act.put, zq1, zq2, zq3]
   refine tu 13 196 hHeld ?_; simp only [Act.put, zq1, zq2, zq3]
   refine tu 14 197 hHeld ?_; simp only [Act.put, zq1, zq2, zq3]
   refine tu 15 198 hHeld ?_; simp only [Act.put, zq1, zq2, zq3]
   refine tu 16 199 hHeld ?_; simp only [Act.put, zq1, zq2, zq3]
   refine tu 17 200 hHeld ?_; simp only [Act.put, zq1, zq2, zq3]
   refine tk 18 201 (.bool false) hHeld ?_; simp only [Act.put, zq1, zq2, zq3]
   refine tk 19 6 (.bool false) hHeld ?_; simp only [Act.put, zq1, zq2, zq3]
   refine wpAnyH_done (by kernel_rfl) ?_ _
   go_wp2
   go_returns
   exact ⟨false, s, u, rfl, .refl _ _, .refl _ _, Pair.below ⟨d, e, HD.out, HE.out, HDJ.out⟩ (YW.out.trans (W4.out.mono YW.out.size)), Below.mono (YW.out.trans (W4.out.mono YW.out.size)) HNW.out⟩
 | true =>
  have HBB := Lib.hid hbb
  clear hbb
  go_wp2_with fail
  refine wp_region_held_drew (S := fun w' => w'.heap[b0]? = some (.cells (actA a) 33 (0, 0)) ∧ w'.heap[b7]? = some (.cells #[.int .i64 f.pr, .slice f.A f.n f.c, .int .i64 f.x.kind, .int .i64 f.x.n, .string f.x.s, .int .u64 (f.x.label : Int), .int .i64 f.ty.kind, .slice f.ty.A f.ty.ns.length f.ty.c, .slice f.ty.A2 f.ty.xs.length f.ty.c2, .int .i64 f.ca, .bool f.wr] 79 (0, 0)) ∧ w'.heap[b8]? = some (.cells #[.int .i64 g.pr, .slice g.A g.n g.c, .int .i64 g.x.kind, .int .i64 g.x.n, .string g.x.s, .int .u64 (g.x.label : Int), .int .i64 g.ty.kind, .slice g.ty.A g.ty.ns.length g.ty.c, .slice g.ty.A2 g.ty.xs.length g.ty.c2, .int .i64 g.ca, .bool g.wr] 79 (0, 0))) (by kernel_rfl) (⟨G0.out, G7.out, G8.out⟩) (fun hHeld => ?_)
  refine tk 0 183 (.agg #[.int .i64 f.pr, .slice f.A f.n f.c, .int .i64 f.x.kind, .int .i64 f.x.n, .string f.x.s, .int .u64 (f.x.label : Int), .int .i64 f.ty.kind, .slice f.ty.A f.ty.ns.length f.ty.c, .slice f.ty.A2 f.ty.xs.length f.ty.c2, .int .i64 f.ca, .bool f.wr]) hHeld ?_ (hy := Or.inl ⟨by rfl, fun w' hS => (by have q0 := cell_of_blk (i := 0) hS.2.1 rfl; have q1 := cell_of_blk (i := 1) hS.2.1 rfl; have q2 := cell_of_blk (i := 2) hS.2.1 rfl; have q3 := cell_of_blk (i := 3) hS.2.1 rfl; have q4 := cell_of_blk (i := 4) hS.2.1 rfl; have q5 := cell_of_blk (i := 5) hS.2.1 rfl; have q6 := cell_of_blk (i := 6) hS.2.1 rfl; have q7 := cell_of_blk (i := 7) hS.2.1 rfl; have q8 := cell_of_blk (i := 8) hS.2.1 rfl; have q9 := cell_of_blk (i := 9) hS.2.1 rfl; have q10 := cell_of_blk (i := 10) hS.2.1 rfl; go_simp)⟩); simp only [Act.put, zq1, zq2, zq3]
  refine tk 1 184 (.agg #[.int .i64 g.pr, .slice g.A g.n g.c, .int .i64 g.x.kind, .int .i64 g.x.n, .string g.x.s, .int .u64 (g.x.label : Int), .int .i64 g.ty.kind, .slice g.ty.A g.ty.ns.length g.ty.c, .slice g.ty.A2 g.ty.xs.length g.ty.c2, .int .i64 g.ca, .bool g.wr]) hHeld ?_ (hy := Or.inl ⟨by rfl, fun w' hS => (by have q0 := cell_of_blk (i := 0) hS.2.2 rfl; have q1 := cell_of_blk (i := 1) hS.2.2 rfl; have q2 := cell_of_blk (i := 2) hS.2.2 rfl; have q3 := cell_of_blk (i := 3) hS.2.2 rfl; have q4 := cell_of_blk (i := 4) hS.2.2 rfl; have q5 := cell_of_blk (i := 5) hS.2.2 rfl; have q6 := cell_of_blk (i := 6) hS.2.2 rfl; have q7 := cell_of_blk (i := 7) hS.2.2 rfl; have q8 := cell_of_blk (i := 8) hS.2.2 rfl; have q9 := cell_of_blk (i := 9) hS.2.2 rfl; have q10 := cell_of_blk (i := 10) hS.2.2 rfl; go_simp)⟩); simp only [Act.put, zq1, zq2, zq3]
  refine rd 2 fun K hK => ?_
  go_simp
  refine HSF.out.mono ?_
  rintro e w4 ⟨hb4, qs, rfl⟩
  have W4 := Lib.hid (show Below Y.heap.size Y w4 from (Below.refl _ _).drew.trans hb4)
  clear hb4
  cases qs with
  | false =>
   refine hK.out _ _ (⟨below_blk W4.out G0.out, below_blk W4.out G7.out, below_blk W4.out G8.out⟩) (fun hHeld => ?_)
   clear hK K
   try simp only [Act.put, zq1, zq2, zq3]
   refine tk 3 186 (.bool false) hHeld ?_; simp only [Act.put, zq1, zq2, zq3]
   refine tu 4 187 hHeld ?_; simp only [Act.put, zq1, zq2, zq3]
   refine tu 5 188 hHeld ?_; simp only [Act.put, zq1, zq2, zq3]
   refine tu 6 189 hHeld ?_; simp only [Act.put, zq1, zq2, zq3]
   refine tk 7 190 (.bool false) hHeld ?_; simp only [Act.put, zq1, zq2, zq3]
   refine tk 8 191 (.bool false) hHeld ?_; simp only [Act.put, zq1, zq2, zq3]
   refine tu 9 192 hHeld ?_; simp only [Act.put, zq1, zq2, zq3]
   refine tu 10 193 hHeld ?_; simp only [Act.put, zq1, zq2, zq3]
   refine tu 11 194 hHeld ?_; simp only [Act.put, zq1, zq2, zq3]
   refine tu 12 195 hHeld ?_; simp only [Act.put, zq1, zq2, zq3]
   refine tu 13 196 hHeld ?_; simp only [Act.put, zq1, zq2, zq3]
   refine tu 14 197 hHeld ?_; simp only [Act.put, zq1, zq2, zq3]
   refine tu 15 198 hHeld ?_; simp only [Act.put, zq1, zq2, zq3]
   refine tu 16 199 hHeld ?_; simp only [Act.put, zq1, zq2, zq3]
   refine tu 17 200 hHeld ?_; simp only [Act.put, zq1, zq2, zq3]
   refine tk 18 201 (.bool false) hHeld ?_; simp only [Act.put, zq1, zq2, zq3]
   refine tk 19 6 (.bool false) hHeld ?_; simp only [Act.put, zq1, zq2, zq3]
   refine wpAnyH_done (by kernel_rfl) ?_ _
   go_wp2
   go_returns
   exact ⟨false, s, u, rfl, .refl _ _, .refl _ _, Pair.below ⟨d, e, HD.out, HE.out, HDJ.out⟩ (YW.out.trans (W4.out.mono YW.out.size)), Below.mono (YW.out.trans (W4.out.mono YW.out.size)) HNW.out⟩
  | true =>
   refine hK.out _ _ (⟨below_blk W4.out G0.out, below_blk W4.out G7.out, below_blk W4.out G8.out⟩) (fun hHeld => ?_)
   clear hK K
   try simp only [Act.put, zq1, zq2, zq3]
   refine tk 3 186 (.bool true) hHeld ?_; simp only [Act.put, zq1, zq2, zq3]
   refine tk 4 187 (.bool b1) hHeld ?_; simp only [Act.put, zq1, zq2, zq3]
   refine tk 5 188 (.bool b2) hHeld ?_; simp only [Act.put, zq1, zq2, zq3]
   refine tk 6 189 (.bool true) hHeld ?_ (hy := Or.inl ⟨by rfl, fun w' hS => (by have hbb := HBB.out; go_simp)⟩); simp only [Act.put, zq1, zq2, zq3]
   refine tk 7 190 (.bool true) hHeld ?_; simp only [Act.put, zq1, zq2, zq3]
   refine tk 8 191 (.bool true) hHeld ?_; simp only [Act.put, zq1, zq2, zq3]
   refine tk 9 192 (.pointer (some ⟨h, 0, none⟩)) hHeld ?_; simp only [Act.put, zq1, zq2, zq3]
   refine tk 10 193 (.pointer (some ⟨b0, 2, none⟩)) hHeld ?_; simp only [Act.put, zq1, zq2, zq3]
   refine tk 11 194 (.agg #[.int .i64 a.a.kind, .int .i64 a.a.n, .string a.a.s, .int .u64 (a.a.label : Int)]) hHeld ?_ (hy := Or.inl ⟨by rfl, fun w' hS => (by have q2 := cell_of_blk (i := 2) hS.1 rfl; have q3 := cell_of_blk (i := 3) hS.1 rfl; have q4 := cell_of_blk (i := 4) hS.1 rfl; have q5 := cell_of_blk (i := 5) hS.1 rfl; go_simp)⟩); simp only [Act.put, zq1, zq2, zq3]
   refine tk 13 196 (.pointer (some ⟨r, 0, none⟩)) hHeld ?_; simp only [Act.put, zq1, zq2, zq3]
   refine tk 14 197 (.pointer (some ⟨b0, 2, none⟩)) hHeld ?_; simp only [Act.put, zq1, zq2, zq3]
   refine tk 15 198 (.agg #[.int .i64 a.a.kind, .int .i64 a.a.n, .string a.a.s, .int .u64 (a.a.label : Int)]) hHeld ?_ (hy := Or.inl ⟨by rfl, fun w' hS => (by have q2 := cell_of_blk (i := 2) hS.1 rfl; have q3 := cell_of_blk (i := 3) hS.1 rfl; have q4 := cell_of_blk (i := 4) hS.1 rfl; have q5 := cell_of_blk (i := 5) hS.1 rfl; go_simp)⟩); simp only [Act.put, zq1, zq2, zq3]
   refine rd 12 fun K hK => ?_
   go_simp
   refine (hbase_any (HD.out.below (YW.out.trans (W4.out.mono YW.out.size))) a.a (by have := HOS.out.1.fl; have := HOS.out.2.2; omega) HCS.out.1).mono ?_
   rintro e w5 ⟨hb5, x, rfl⟩
   have W5 := Lib.hid (show Below Y.heap.size Y w5 from W4.out.trans (hb5.mono W4.out.size))
   clear hb5
   refine hK.out _ _ (⟨below_blk W5.out G0.out, below_blk W5.out G7.out, below_blk W5.out G8.out⟩) (fun hHeld => ?_)
   clear hK K
   try simp only [Act.put, zq1, zq2, zq3]
   refine rd 16 fun K hK => ?_
   go_simp
   refine (rhbase_any (HE.out.below (YW.out.trans (W5.out.mono YW.out.size))) a.a (by have := HOS.out.2.1.fl; have := HOS.out.2.2; omega) HCS.out.2).mono ?_
   rintro e w6 ⟨hb6, y, rfl⟩
   have W6 := Lib.hid (show Below Y.heap.size Y w6 from W5.out.trans (hb6.mono W5.out.size))
   obtain ⟨q, hq⟩ := veq x y
   have HQV := Lib.hid hq
   clear hb6 hq
   refine hK.out _ _ (⟨below_blk W6.out G0.out, below_blk W6.out G7.out, below_blk W6.out G8.out⟩) (fun hHeld => ?_)
   clear hK K
   try simp only [Act.put, zq1, zq2, zq3]
   refine tk 17 200 (.bool q) hHeld ?_ (hy := Or.inl ⟨by rfl, fun w' hS => (by have hq := HQV.out; go_simp)⟩); simp only [Act.put, zq1, zq2, zq3]
   refine tk 18 201 (.bool q) hHeld ?_; simp only [Act.put, zq1, zq2, zq3]
   refine tk 19 6 (.bool q) hHeld ?_; simp only [Act.put, zq1, zq2, zq3]
   refine wpAnyH_done (by kernel_rfl) ?_ _
   go_wp2
   go_returns
   exact ⟨q, s, u, rfl, .refl _ _, .refl _ _, Pair.below ⟨d, e, HD.out, HE.out, HDJ.out⟩ (YW.out.trans (W6.out.mono YW.out.size)), Below.mono (YW.out.trans (W6.out.mono YW.out.size)) HNW.out⟩
end Go.Proofs.YtilcofpceadpbaaGreatDoor
