/-
 HeapApart: part 18 of what the claim rests on.
-/
import Derived.Test.YtilcofpceadpbaaGreatDoorA10
import Derived.Test.YtilcofpceadpbaaGreatDoorA11
import Derived.Test.YtilcofpceadpbaaGreatDoorA14
import Derived.Test.YtilcofpceadpbaaGreatDoorA17
set_option linter.unusedVariables false
set_option linter.unusedSimpArgs false
set_option maxHeartbeats 64000000
namespace Go.Proofs.YtilcofpceadpbaaGreatDoor
open Go.ChangeShapes Go.WideShapes Go.ChangeAt Go.RowKit Go.Maps

theorem el_set {W : World} {b : Nat} {cs : Array Value} {T : TypeId} (h : W.heap[b]? = some (.cells cs T (0, 0))) (hz : cs.size = 11) (v0 v1 v2 v3 v4 v5 v6 v7 v8 v9 v10 : Value) : (((((((((((W.setCell ⟨b, 0, none⟩ (v0)).setCell ⟨b, 1, none⟩ (v1)).setCell ⟨b, 2, none⟩ (v2)).setCell ⟨b, 3, none⟩ (v3)).setCell ⟨b, 4, none⟩ (v4)).setCell ⟨b, 5, none⟩ (v5)).setCell ⟨b, 6, none⟩ (v6)).setCell ⟨b, 7, none⟩ (v7)).setCell ⟨b, 8, none⟩ (v8)).setCell ⟨b, 9, none⟩ (v9)).setCell ⟨b, 10, none⟩ (v10)).heap[b]? = some (.cells #[v0, v1, v2, v3, v4, v5, v6, v7, v8, v9, v10] T (0, 0)) := by
 obtain ⟨l⟩ := cs
 match l, hz with
 | [a0, a1, a2, a3, a4, a5, a6, a7, a8, a9, a10], _ =>
  have h0 : (W.setCell ⟨b, 0, none⟩ (v0)).heap[b]? = some (.cells #[v0, a1, a2, a3, a4, a5, a6, a7, a8, a9, a10] T (0, 0)) := blk_set (i := 0) h v0
  have h1 : ((W.setCell ⟨b, 0, none⟩ (v0)).setCell ⟨b, 1, none⟩ (v1)).heap[b]? = some (.cells #[v0, v1, a2, a3, a4, a5, a6, a7, a8, a9, a10] T (0, 0)) := blk_set (i := 1) h0 v1
  have h2 : (((W.setCell ⟨b, 0, none⟩ (v0)).setCell ⟨b, 1, none⟩ (v1)).setCell ⟨b, 2, none⟩ (v2)).heap[b]? = some (.cells #[v0, v1, v2, a3, a4, a5, a6, a7, a8, a9, a10] T (0, 0)) := blk_set (i := 2) h1 v2
  have h3 : ((((W.setCell ⟨b, 0, none⟩ (v0)).setCell ⟨b, 1, none⟩ (v1)).setCell ⟨b, 2, none⟩ (v2)).setCell ⟨b, 3, none⟩ (v3)).heap[b]? = some (.cells #[v0, v1, v2, v3, a4, a5, a6, a7, a8, a9, a10] T (0, 0)) := blk_set (i := 3) h2 v3
  have h4 : (((((W.setCell ⟨b, 0, none⟩ (v0)).setCell ⟨b, 1, none⟩ (v1)).setCell ⟨b, 2, none⟩ (v2)).setCell ⟨b, 3, none⟩ (v3)).setCell ⟨b, 4, none⟩ (v4)).heap[b]? = some (.cells #[v0, v1, v2, v3, v4, a5, a6, a7, a8, a9, a10] T (0, 0)) := blk_set (i := 4) h3 v4
  have h5 : ((((((W.setCell ⟨b, 0, none⟩ (v0)).setCell ⟨b, 1, none⟩ (v1)).setCell ⟨b, 2, none⟩ (v2)).setCell ⟨b, 3, none⟩ (v3)).setCell ⟨b, 4, none⟩ (v4)).setCell ⟨b, 5, none⟩ (v5)).heap[b]? = some (.cells #[v0, v1, v2, v3, v4, v5, a6, a7, a8, a9, a10] T (0, 0)) := blk_set (i := 5) h4 v5
  have h6 : (((((((W.setCell ⟨b, 0, none⟩ (v0)).setCell ⟨b, 1, none⟩ (v1)).setCell ⟨b, 2, none⟩ (v2)).setCell ⟨b, 3, none⟩ (v3)).setCell ⟨b, 4, none⟩ (v4)).setCell ⟨b, 5, none⟩ (v5)).setCell ⟨b, 6, none⟩ (v6)).heap[b]? = some (.cells #[v0, v1, v2, v3, v4, v5, v6, a7, a8, a9, a10] T (0, 0)) := blk_set (i := 6) h5 v6
  have h7 : ((((((((W.setCell ⟨b, 0, none⟩ (v0)).setCell ⟨b, 1, none⟩ (v1)).setCell ⟨b, 2, none⟩ (v2)).setCell ⟨b, 3, none⟩ (v3)).setCell ⟨b, 4, none⟩ (v4)).setCell ⟨b, 5, none⟩ (v5)).setCell ⟨b, 6, none⟩ (v6)).setCell ⟨b, 7, none⟩ (v7)).heap[b]? = some (.cells #[v0, v1, v2, v3, v4, v5, v6, v7, a8, a9, a10] T (0, 0)) := blk_set (i := 7) h6 v7
  have h8 : (((((((((W.setCell ⟨b, 0, none⟩ (v0)).setCell ⟨b, 1, none⟩ (v1)).setCell ⟨b, 2, none⟩ (v2)).setCell ⟨b, 3, none⟩ (v3)).setCell ⟨b, 4, none⟩ (v4)).setCell ⟨b, 5, none⟩ (v5)).setCell ⟨b, 6, none⟩ (v6)).setCell ⟨b, 7, none⟩ (v7)).setCell ⟨b, 8, none⟩ (v8)).heap[b]? = some (.cells #[v0, v1, v2, v3, v4, v5, v6, v7, v8, a9, a10] T (0, 0)) := blk_set (i := 8) h7 v8
  have h9 : ((((((((((W.setCell ⟨b, 0, none⟩ (v0)).setCell ⟨b, 1, none⟩ (v1)).setCell ⟨b, 2, none⟩ (v2)).setCell ⟨b, 3, none⟩ (v3)).setCell ⟨b, 4, none⟩ (v4)).setCell ⟨b, 5, none⟩ (v5)).setCell ⟨b, 6, none⟩ (v6)).setCell ⟨b, 7, none⟩ (v7)).setCell ⟨b, 8, none⟩ (v8)).setCell ⟨b, 9, none⟩ (v9)).heap[b]? = some (.cells #[v0, v1, v2, v3, v4, v5, v6, v7, v8, v9, a10] T (0, 0)) := blk_set (i := 9) h8 v9
  have h10 : (((((((((((W.setCell ⟨b, 0, none⟩ (v0)).setCell ⟨b, 1, none⟩ (v1)).setCell ⟨b, 2, none⟩ (v2)).setCell ⟨b, 3, none⟩ (v3)).setCell ⟨b, 4, none⟩ (v4)).setCell ⟨b, 5, none⟩ (v5)).setCell ⟨b, 6, none⟩ (v6)).setCell ⟨b, 7, none⟩ (v7)).setCell ⟨b, 8, none⟩ (v8)).setCell ⟨b, 9, none⟩ (v9)).setCell ⟨b, 10, none⟩ (v10)).heap[b]? = some (.cells #[v0, v1, v2, v3, v4, v5, v6, v7, v8, v9, v10] T (0, 0)) := blk_set (i := 10) h9 v10
  exact h10
theorem el_far {W : World} {b x : Nat} {o : Obj} (h : W.heap[x]? = some o) (hne : x ≠ b) (v0 v1 v2 v3 v4 v5 v6 v7 v8 v9 v10 : Value) : (((((((((((W.setCell ⟨b, 0, none⟩ (v0)).setCell ⟨b, 1, none⟩ (v1)).setCell ⟨b, 2, none⟩ (v2)).setCell ⟨b, 3, none⟩ (v3)).setCell ⟨b, 4, none⟩ (v4)).setCell ⟨b, 5, none⟩ (v5)).setCell ⟨b, 6, none⟩ (v6)).setCell ⟨b, 7, none⟩ (v7)).setCell ⟨b, 8, none⟩ (v8)).setCell ⟨b, 9, none⟩ (v9)).setCell ⟨b, 10, none⟩ (v10)).heap[x]? = some o := by
 exact (blk_far (a := ⟨b, 10, none⟩) (blk_far (a := ⟨b, 9, none⟩) (blk_far (a := ⟨b, 8, none⟩) (blk_far (a := ⟨b, 7, none⟩) (blk_far (a := ⟨b, 6, none⟩) (blk_far (a := ⟨b, 5, none⟩) (blk_far (a := ⟨b, 4, none⟩) (blk_far (a := ⟨b, 3, none⟩) (blk_far (a := ⟨b, 2, none⟩) (blk_far (a := ⟨b, 1, none⟩) (blk_far (a := ⟨b, 0, none⟩) h hne v0) hne v1) hne v2) hne v3) hne v4) hne v5) hne v6) hne v7) hne v8) hne v9) hne v10)
theorem el_below {n : Nat} {w W : World} {b : Nat} (h : Below n w W) (hb : n ≤ b) (v0 v1 v2 v3 v4 v5 v6 v7 v8 v9 v10 : Value) : Below n w (((((((((((W.setCell ⟨b, 0, none⟩ (v0)).setCell ⟨b, 1, none⟩ (v1)).setCell ⟨b, 2, none⟩ (v2)).setCell ⟨b, 3, none⟩ (v3)).setCell ⟨b, 4, none⟩ (v4)).setCell ⟨b, 5, none⟩ (v5)).setCell ⟨b, 6, none⟩ (v6)).setCell ⟨b, 7, none⟩ (v7)).setCell ⟨b, 8, none⟩ (v8)).setCell ⟨b, 9, none⟩ (v9)).setCell ⟨b, 10, none⟩ (v10)) := by
 exact (Below.setCell (p := ⟨b, 10, none⟩) (Below.setCell (p := ⟨b, 9, none⟩) (Below.setCell (p := ⟨b, 8, none⟩) (Below.setCell (p := ⟨b, 7, none⟩) (Below.setCell (p := ⟨b, 6, none⟩) (Below.setCell (p := ⟨b, 5, none⟩) (Below.setCell (p := ⟨b, 4, none⟩) (Below.setCell (p := ⟨b, 3, none⟩) (Below.setCell (p := ⟨b, 2, none⟩) (Below.setCell (p := ⟨b, 1, none⟩) (Below.setCell (p := ⟨b, 0, none⟩) h hb v0) hb v1) hb v2) hb v3) hb v4) hb v5) hb v6) hb v7) hb v8) hb v9) hb v10)
def fnI (s : HpS) (v : VV) : Option FnS := if v.kind = 5 ∧ 0 ≤ v.n ∧ v.n < s.F.length then s.F[v.n.toNat]? else none
def FnGot (f : FnS) (w : World) (e : Ending) (w' : World) : Prop := Below w.heap.size w w' ∧ ∃ (A' : Option Addr) (c' : Nat) (cs : List Int), e = .returned (.tuple #[.agg #[.int .i64 f.pr, .slice A' f.n c', .int .i64 f.x.kind, .int .i64 f.x.n, .string f.x.s, .int .u64 (f.x.label : Int), .int .i64 f.ty.kind, .slice f.ty.A f.ty.ns.length f.ty.c, .slice f.ty.A2 f.ty.xs.length f.ty.c2, .int .i64 f.ca, .bool f.wr], .bool true]) ∧ cs.length = f.n ∧ w'.ownsRow w.heap.size 3 1 (.slice A' f.n c') f.n (cs.map (.int .i64 ·))
theorem clone_nil (w : World) : Calls Tryz.prog 63 #[.slice none 0 0] w (RetB (.slice none 0 0) w) := by
 have heq := fun W : World => Lib.run_eql_slice_nil (P := Tryz.prog) W 27 3 none 0 0 0 0 Tryz.underlying27
 go_enter Tryz.func63, Tryz.ntmps63
 go_wp2
 go_ret
 exact ⟨rfl, Below.refl _ _⟩
set_option maxRecDepth 100000 in
theorem fn_some {w : World} {B N h : Nat} {s : HpS} {d : HpD} (H : HpAt w B N h s d) (v : VV) (hn : s.F.length ≤ 1000000) {f : FnS} {j : Nat} (hj : s.F[j]? = some f) (hk : v.kind = 5) (hvn : v.n = (j : Int)) :
  Calls Tryz.prog 24 #[.pointer (some ⟨h, 0, none⟩), .agg #[.int .i64 v.kind, .int .i64 v.n, .string v.s, .int .u64 (v.label : Int)]] w (FnGot f w) := by
 obtain ⟨cs, hcl, hco⟩ := (H.fns f (List.mem_of_getElem? hj)).cells
 have HCO := Lib.hid (And.intro hcl (And.intro hco (H.fns f (List.mem_of_getElem? hj)).len))
 clear hcl hco
 obtain ⟨b0, hb0⟩ : ∃ b, b = w.heap.size := ⟨_, rfl⟩
 obtain ⟨b1, hb1⟩ : ∃ b, b = w.heap.size + 1 := ⟨_, rfl⟩
 have HE0 := Lib.hid hb0
 have HE1 := Lib.hid hb1
 have HH := Lib.hid H
 have HV := Lib.hid hvn
 have HK := Lib.hid hk
 clear hb0 hb1 H hk hvn
 go_enter Tryz.func24, Tryz.ntmps24
 go_upto_region 1 with fail
 rw [← HE1.out, ← HE0.out]
 refine gen_wp fun W hW => ?_
 have HB0 := Lib.hid (show W.heap[b0]? = some (.cells #[.int .i64 v.kind, .int .i64 v.n, .string v.s, .int .u64 (v.label : Int)] 26 (0, 0)) by rw [← hW, HE0.out]; exact blk_alloc (heap_new_at _ _ _ (by first | rfl | simp)) _)
 have HB1 := Lib.hid (show W.heap[b1]? = some (.cells #[.int .i64 0, .slice none 0 0, .int .i64 0, .int .i64 0, .string ⟨#[]⟩, .int .u64 0, .int .i64 0, .slice none 0 0, .slice none 0 0, .int .i64 0, .bool false] 79 (0, 0)) by rw [← hW, HE1.out]; exact heap_new_at _ _ _ (by first | rfl | simp))
 have HW := Lib.hid (show Below w.heap.size w W by rw [← hW]; exact ((Below.refl _ _).alloc (Nat.le_refl _) _).alloc (by simp) _)
 have HLW := Lib.hid (show W.heap.size = w.heap.size + 2 by rw [← hW]; simp)
 clear hW
 obtain ⟨p0, p1, p2, p3, pf0, pf1, pf2, pf3, pl⟩ := blk_4 HB0.out
 have hk := HK.out
 go_wp2_with fail
 clear hk
 clear p0 pf0 p1 pf1 p2 pf2 p3 pf3 pl
 refine wp_region_held_drew (S := fun w' => w'.heap[b0]? = some (.cells #[.int .i64 v.kind, .int .i64 v.n, .string v.s, .int .u64 (v.label : Int)] 26 (0, 0))) (by kernel_rfl) (HB0.out) (fun hHeld => ?_)
 refine tk 0 17 (.pointer (some ⟨h, 0, none⟩)) hHeld ?_; simp only [Act.put, zq1, zq2, zq3]
 refine tk 1 18 (.pointer (some ⟨h, 0, none⟩)) hHeld ?_; simp only [Act.put, zq1, zq2, zq3]
 refine tk 2 19 (.pointer (some ⟨h, 3, none⟩)) hHeld ?_; simp only [Act.put, zq1, zq2, zq3]
 refine tk 3 20 (.pointer (some ⟨b0, 1, none⟩)) hHeld ?_; simp only [Act.put, zq1, zq2, zq3]
 refine tk 4 21 (.int .i64 (j : Int)) hHeld ?_ (hy := Or.inl ⟨by rfl, fun w' hS => (by have q0 := cell_of_blk (i := 1) (v := .int .i64 v.n) hS rfl; rw [HV.out] at q0; go_simp)⟩); simp only [Act.put, zq1, zq2, zq3]
 refine wpAnyH_ready (rs := [5, 9]) (by kernel_rfl) (by simp) ?_
 refine AllReadyH.cons (o := _) rfl (fun K hK => ?_) (AllReadyH.cons (o := _) rfl (fun K hK => ?_) (AllReadyH.nil))
 ·go_simp
  have HB : Below w.heap.size w W.drew := HW.out.drew
  refine (at_fns_some (HH.out.below HB).blk (HH.out.below HB).o2 rfl hn hj).mono ?_
  rintro e w1 ⟨rfl, hb1⟩
  have HW1 := Lib.hid (show Below w.heap.size w w1 from HB.trans (hb1.mono HB.size))
  have D0 := Lib.hid (below_blk hb1 (blk_drew HB0.out))
  have D1 := Lib.hid (below_blk hb1 (blk_drew HB1.out))
  have HSZ := Lib.hid hb1.size
  clear hb1 HB
  refine hK.out _ _ (D0.out) (fun hHeld => ?_)
  clear hK K
  try simp only [Act.put, zq1, zq2, zq3]
  refine tk 6 16 (.tuple #[.agg #[.int .i64 f.pr, .slice f.A f.n f.c, .int .i64 f.x.kind, .int .i64 f.x.n, .string f.x.s, .int .u64 (f.x.label : Int), .int .i64 f.ty.kind, .slice f.ty.A f.ty.ns.length f.ty.c, .slice f.ty.A2 f.ty.xs.length f.ty.c2, .int .i64 f.ca, .bool f.wr], .bool true]) hHeld ?_; simp only [Act.put, zq1, zq2, zq3]
  refine tk 7 23 (.agg #[.int .i64 f.pr, .slice f.A f.n f.c, .int .i64 f.x.kind, .int .i64 f.x.n, .string f.x.s, .int .u64 (f.x.label : Int), .int .i64 f.ty.kind, .slice f.ty.A f.ty.ns.length f.ty.c, .slice f.ty.A2 f.ty.xs.length f.ty.c2, .int .i64 f.ca, .bool f.wr]) hHeld ?_; simp only [Act.put, zq1, zq2, zq3]
  refine tk 8 24 (.bool true) hHeld ?_; simp only [Act.put, zq1, zq2, zq3]
  refine rd 9 fun K hK => ?_
  go_simp
  refine hK.out _ _ (blk_alloc D0.out _) (fun hHeld => ?_)
  clear hK K
  try simp only [Act.put, zq1, zq2, zq3]
  refine rd 10 fun K hK => ?_
  go_simp
  refine hK.out _ _ (blk_alloc D0.out _) (fun hHeld => ?_)
  clear hK K
  try simp only [Act.put, zq1, zq2, zq3]
  refine tk 11 7 (.bool true) hHeld ?_; simp only [Act.put, zq1, zq2, zq3]
  refine wpAnyH_done (by kernel_rfl) ?_ _
  go_upto_region 4 with fail
  obtain ⟨b2, hb2⟩ : ∃ b, b = w1.heap.size := ⟨_, rfl⟩
  rw [← hb2]
  refine gen_wp fun U hU => ?_
  have HB2 := Lib.hid (show U.heap[b2]? = some (.cells #[.int .i64 f.pr, .slice f.A f.n f.c, .int .i64 f.x.kind, .int .i64 f.x.n, .string f.x.s, .int .u64 (f.x.label : Int), .int .i64 f.ty.kind, .slice f.ty.A f.ty.ns.length f.ty.c, .slice f.ty.A2 f.ty.xs.length f.ty.c2, .int .i64 f.ca, .bool f.wr] 79 (0, 0)) by rw [← hU, hb2]; exact heap_new_at _ _ _ (by first | rfl | simp))
  have HR := Lib.hid (show U.heap[b1]? = some (.cells #[.int .i64 0, .slice none 0 0, .int .i64 0, .int .i64 0, .string ⟨#[]⟩, .int .u64 0, .int .i64 0, .slice none 0 0, .slice none 0 0, .int .i64 0, .bool false] 79 (0, 0)) by rw [← hU]; exact blk_alloc D1.out _)
  have HU := Lib.hid (show Below w.heap.size w U by rw [← hU]; exact HW1.out.alloc HW1.out.size _)
  have HNE := Lib.hid (show b1 ≠ b2 ∧ w.heap.size ≤ b2 ∧ w.heap.size ≤ b1 by have := blk_lt D1.out; have := HW1.out.size; have := HE1.out; omega)
  clear hU hb2
  obtain ⟨r0, r1, r2, r3, r4, r5, r6, r7, r8, r9, r10, rf0, rf1, rf2, rf3, rf4, rf5, rf6, rf7, rf8, rf9, rf10, rl⟩ := blk_11 HB2.out
  obtain ⟨A0, c0, e0, _, _, hA0, hR0⟩ := own_reads (below_own HU.out HCO.out.2.1)
  have eA : f.A = A0 := by injection e0
  subst eA
  have HCL := Lib.hid (clone_is f.A f.n f.c (cs.map (.int .i64 ·)) U hR0 (by rw [List.length_map]; exact HCO.out.1) (by intro u hu; simp at hu; obtain ⟨_, _, rfl⟩ := hu; rfl) (by have e3 : f.c = c0 := (by injection e0); rw [e3]; exact hA0) HCO.out.2.2)
  clear e0 hA0 hR0
  go_wp2_with fail
  refine HCL.out.mono ?_
  rintro e w3 ⟨v3, rfl, hown3, hb3⟩
  obtain ⟨A', c', rfl, _, _, hfm⟩ := own_form hown3
  have HO3 := Lib.hid hown3
  have HU3 := Lib.hid (HU.out.trans (hb3.mono HU.out.size))
  have HB3 := Lib.hid (below_blk hb3 HB2.out)
  have HR3 := Lib.hid (below_blk hb3 HR.out)
  have HZ3 := Lib.hid (Nat.le_trans HU.out.size hb3.size)
  have HZ4 := Lib.hid HU.out.size
  clear hb3 hown3 hfm
  clear r0 rf0 r1 rf1 r2 rf2 r3 rf3 r4 rf4 r5 rf5 r6 rf6 r7 rf7 r8 rf8 r9 rf9 r10 rf10 rl
  obtain ⟨r0, r1, r2, r3, r4, r5, r6, r7, r8, r9, r10, rf0, rf1, rf2, rf3, rf4, rf5, rf6, rf7, rf8, rf9, rf10, rl⟩ := blk_11 HB3.out
  obtain ⟨z0, z1, z2, z3, z4, z5, z6, z7, z8, z9, z10, zf0, zf1, zf2, zf3, zf4, zf5, zf6, zf7, zf8, zf9, zf10, zl⟩ := blk_11 HR3.out
  have hne := HNE.out.1
  go_wp2
  have hx0 : (w3.setCell ⟨b2, 1, none⟩ (.slice A' f.n c')).heap[b1]? = some (.cells #[.int .i64 0, .slice none 0 0, .int .i64 0, .int .i64 0, .string ⟨#[]⟩, .int .u64 0, .int .i64 0, .slice none 0 0, .slice none 0 0, .int .i64 0, .bool false] 79 (0, 0)) := blk_far (a := ⟨b2, 1, none⟩) HR3.out hne _
  obtain ⟨j0, j1, j2, j3, j4, j5, j6, j7, j8, j9, j10⟩ := eleven hx0 rfl (.int .i64 f.pr) (.slice A' f.n c') (.int .i64 f.x.kind) (.int .i64 f.x.n) (.string f.x.s) (.int .u64 (f.x.label : Int)) (.int .i64 f.ty.kind) (.slice f.ty.A f.ty.ns.length f.ty.c) (.slice f.ty.A2 f.ty.xs.length f.ty.c2) (.int .i64 f.ca) (.bool f.wr)
  refine bodyPost_ret (v := .tuple #[.agg #[.int .i64 f.pr, .slice A' f.n c', .int .i64 f.x.kind, .int .i64 f.x.n, .string f.x.s, .int .u64 (f.x.label : Int), .int .i64 f.ty.kind, .slice f.ty.A f.ty.ns.length f.ty.c, .slice f.ty.A2 f.ty.xs.length f.ty.c2, .int .i64 f.ca, .bool f.wr], .bool true]) (by simp [results, Tryz.results24, go_sem, j0, j1, j2, j3, j4, j5, j6, j7, j8, j9, j10]) rfl ?_
  refine ⟨el_below (Below.setCell (p := ⟨b2, 1, none⟩) HU3.out HNE.out.2.1 _) HNE.out.2.2 (.int .i64 f.pr) (.slice A' f.n c') (.int .i64 f.x.kind) (.int .i64 f.x.n) (.string f.x.s) (.int .u64 (f.x.label : Int)) (.int .i64 f.ty.kind) (.slice f.ty.A f.ty.ns.length f.ty.c) (.slice f.ty.A2 f.ty.xs.length f.ty.c2) (.int .i64 f.ca) (.bool f.wr), A', c', cs, rfl, HCO.out.1, ?_⟩
  have hfr : Fr [b1, b2] w3 ((((((((((((w3.setCell ⟨b2, 1, none⟩ (.slice A' f.n c')).setCell ⟨b1, 0, none⟩ (.int .i64 f.pr)).setCell ⟨b1, 1, none⟩ (.slice A' f.n c')).setCell ⟨b1, 2, none⟩ (.int .i64 f.x.kind)).setCell ⟨b1, 3, none⟩ (.int .i64 f.x.n)).setCell ⟨b1, 4, none⟩ (.string f.x.s)).setCell ⟨b1, 5, none⟩ (.int .u64 (f.x.label : Int))).setCell ⟨b1, 6, none⟩ (.int .i64 f.ty.kind)).setCell ⟨b1, 7, none⟩ (.slice f.ty.A f.ty.ns.length f.ty.c)).setCell ⟨b1, 8, none⟩ (.slice f.ty.A2 f.ty.xs.length f.ty.c2)).setCell ⟨b1, 9, none⟩ (.int .i64 f.ca)).setCell ⟨b1, 10, none⟩ (.bool f.wr)) := by
   refine Fr.set (a := ⟨b1, 10, none⟩) (Fr.set (a := ⟨b1, 9, none⟩) (Fr.set (a := ⟨b1, 8, none⟩) (Fr.set (a := ⟨b1, 7, none⟩) (Fr.set (a := ⟨b1, 6, none⟩) (Fr.set (a := ⟨b1, 5, none⟩) (Fr.set (a := ⟨b1, 4, none⟩) (Fr.set (a := ⟨b1, 3, none⟩) (Fr.set (a := ⟨b1, 2, none⟩) (Fr.set (a := ⟨b1, 1, none⟩) (Fr.set (a := ⟨b1, 0, none⟩) (Fr.set (a := ⟨b2, 1, none⟩) (Fr.refl _ w3) _ (.inl (by simp))) _ (.inl (by simp))) _ (.inl (by simp))) _ (.inl (by simp))) _ (.inl (by simp))) _ (.inl (by simp))) _ (.inl (by simp))) _ (.inl (by simp))) _ (.inl (by simp))) _ (.inl (by simp))) _ (.inl (by simp))) _ (.inl (by simp))
  exact hp_own_mono (hfr.own HO3.out fun g hg hm => by
   have h1 := (hp_own_lt HO3.out hg).1
   have h2 := blk_lt HB2.out
   have h3 := blk_lt HR.out
   simp at hm
   omega) HZ4.out
 ·go_simp
  refine hK.out _ _ (blk_alloc (blk_drew HB0.out) _) (fun hHeld => ?_)
  clear hK K
  try simp only [Act.put, zq1, zq2, zq3]
  refine rd 5 fun K hK => ?_
  go_simp
  have HB : Below w.heap.size w (W.drew.alloc (.cells #[.int .i64 0, .slice none 0 0, .int .i64 0, .int .i64 0, .string ⟨#[]⟩, .int .u64 0, .int .i64 0, .slice none 0 0, .slice none 0 0, .int .i64 0, .bool false] 79)) := (HW.out.drew).alloc (by have := HLW.out; exact HW.out.size) _
  refine (at_fns_some (HH.out.below HB).blk (HH.out.below HB).o2 rfl hn hj).mono ?_
  rintro e w1 ⟨rfl, hb1⟩
  have HW1 := Lib.hid (show Below w.heap.size w w1 from HB.trans (hb1.mono HB.size))
  have D0 := Lib.hid (below_blk hb1 (blk_alloc (blk_drew HB0.out) _))
  have D1 := Lib.hid (below_blk hb1 (blk_alloc (blk_drew HB1.out) _))
  have D2 := Lib.hid (below_blk hb1 (show (W.drew.alloc (.cells #[.int .i64 0, .slice none 0 0, .int .i64 0, .int .i64 0, .string ⟨#[]⟩, .int .u64 0, .int .i64 0, .slice none 0 0, .slice none 0 0, .int .i64 0, .bool false] 79)).heap[W.heap.size]? = some (.cells #[.int .i64 0, .slice none 0 0, .int .i64 0, .int .i64 0, .string ⟨#[]⟩, .int .u64 0, .int .i64 0, .slice none 0 0, .slice none 0 0, .int .i64 0, .bool false] 79 (0, 0)) from heap_new_at _ _ _ (by first | rfl | simp)))
  obtain ⟨u0, u1, u2, u3, u4, u5, u6, u7, u8, u9, u10, uf0, uf1, uf2, uf3, uf4, uf5, uf6, uf7, uf8, uf9, uf10, ul⟩ := blk_11 D2.out
  have HSZ := Lib.hid hb1.size
  clear hb1 HB
  refine hK.out _ _ (D0.out) (fun hHeld => ?_)
  clear hK K
  try simp only [Act.put, zq1, zq2, zq3]
  refine tk 6 16 (.tuple #[.agg #[.int .i64 f.pr, .slice f.A f.n f.c, .int .i64 f.x.kind, .int .i64 f.x.n, .string f.x.s, .int .u64 (f.x.label : Int), .int .i64 f.ty.kind, .slice f.ty.A f.ty.ns.length f.ty.c, .slice f.ty.A2 f.ty.xs.length f.ty.c2, .int .i64 f.ca, .bool f.wr], .bool true]) hHeld ?_; simp only [Act.put, zq1, zq2, zq3]
  refine tk 7 23 (.agg #[.int .i64 f.pr, .slice f.A f.n f.c, .int .i64 f.x.kind, .int .i64 f.x.n, .string f.x.s, .int .u64 (f.x.label : Int), .int .i64 f.ty.kind, .slice f.ty.A f.ty.ns.length f.ty.c, .slice f.ty.A2 f.ty.xs.length f.ty.c2, .int .i64 f.ca, .bool f.wr]) hHeld ?_; simp only [Act.put, zq1, zq2, zq3]
  refine tk 8 24 (.bool true) hHeld ?_; simp only [Act.put, zq1, zq2, zq3]
  refine rd 10 fun K hK => ?_
  go_simp
  refine hK.out _ _ (el_far D0.out (by have := HLW.out; have := HE0.out; omega) (.int .i64 f.pr) (.slice f.A f.n f.c) (.int .i64 f.x.kind) (.int .i64 f.x.n) (.string f.x.s) (.int .u64 (f.x.label : Int)) (.int .i64 f.ty.kind) (.slice f.ty.A f.ty.ns.length f.ty.c) (.slice f.ty.A2 f.ty.xs.length f.ty.c2) (.int .i64 f.ca) (.bool f.wr)) (fun hHeld => ?_)
  clear hK K
  try simp only [Act.put, zq1, zq2, zq3]
  refine tk 11 7 (.bool true) hHeld ?_; simp only [Act.put, zq1, zq2, zq3]
  refine wpAnyH_done (by kernel_rfl) ?_ _
  go_upto_region 4 with fail
  obtain ⟨b2, hb2⟩ : ∃ b, b = W.heap.size := ⟨_, rfl⟩
  rw [← hb2]
  refine gen_wp fun U hU => ?_
  have HB2 := Lib.hid (show U.heap[b2]? = some (.cells #[.int .i64 f.pr, .slice f.A f.n f.c, .int .i64 f.x.kind, .int .i64 f.x.n, .string f.x.s, .int .u64 (f.x.label : Int), .int .i64 f.ty.kind, .slice f.ty.A f.ty.ns.length f.ty.c, .slice f.ty.A2 f.ty.xs.length f.ty.c2, .int .i64 f.ca, .bool f.wr] 79 (0, 0)) by rw [← hU, hb2]; exact el_set D2.out rfl (.int .i64 f.pr) (.slice f.A f.n f.c) (.int .i64 f.x.kind) (.int .i64 f.x.n) (.string f.x.s) (.int .u64 (f.x.label : Int)) (.int .i64 f.ty.kind) (.slice f.ty.A f.ty.ns.length f.ty.c) (.slice f.ty.A2 f.ty.xs.length f.ty.c2) (.int .i64 f.ca) (.bool f.wr))
  have HR := Lib.hid (show U.heap[b1]? = some (.cells #[.int .i64 0, .slice none 0 0, .int .i64 0, .int .i64 0, .string ⟨#[]⟩, .int .u64 0, .int .i64 0, .slice none 0 0, .slice none 0 0, .int .i64 0, .bool false] 79 (0, 0)) by rw [← hU]; exact el_far D1.out (by have := HLW.out; have := HE1.out; omega) (.int .i64 f.pr) (.slice f.A f.n f.c) (.int .i64 f.x.kind) (.int .i64 f.x.n) (.string f.x.s) (.int .u64 (f.x.label : Int)) (.int .i64 f.ty.kind) (.slice f.ty.A f.ty.ns.length f.ty.c) (.slice f.ty.A2 f.ty.xs.length f.ty.c2) (.int .i64 f.ca) (.bool f.wr))
  have HU := Lib.hid (show Below w.heap.size w U by rw [← hU]; exact el_below HW1.out (by have := HLW.out; omega) (.int .i64 f.pr) (.slice f.A f.n f.c) (.int .i64 f.x.kind) (.int .i64 f.x.n) (.string f.x.s) (.int .u64 (f.x.label : Int)) (.int .i64 f.ty.kind) (.slice f.ty.A f.ty.ns.length f.ty.c) (.slice f.ty.A2 f.ty.xs.length f.ty.c2) (.int .i64 f.ca) (.bool f.wr))
  have HNE := Lib.hid (show b1 ≠ b2 ∧ w.heap.size ≤ b2 ∧ w.heap.size ≤ b1 by have := HLW.out; have := HE1.out; omega)
  clear hU hb2
  clear u0 uf0 u1 uf1 u2 uf2 u3 uf3 u4 uf4 u5 uf5 u6 uf6 u7 uf7 u8 uf8 u9 uf9 u10 uf10 ul
  obtain ⟨r0, r1, r2, r3, r4, r5, r6, r7, r8, r9, r10, rf0, rf1, rf2, rf3, rf4, rf5, rf6, rf7, rf8, rf9, rf10, rl⟩ := blk_11 HB2.out
  obtain ⟨A0, c0, e0, _, _, hA0, hR0⟩ := own_reads (below_own HU.out HCO.out.2.1)
  have eA : f.A = A0 := by injection e0
  subst eA
  have HCL := Lib.hid (clone_is f.A f.n f.c (cs.map (.int .i64 ·)) U hR0 (by rw [List.length_map]; exact HCO.out.1) (by intro u hu; simp at hu; obtain ⟨_, _, rfl⟩ := hu; rfl) (by have e3 : f.c = c0 := (by injection e0); rw [e3]; exact hA0) HCO.out.2.2)
  clear e0 hA0 hR0
  go_wp2_with fail
  refine HCL.out.mono ?_
  rintro e w3 ⟨v3, rfl, hown3, hb3⟩
  obtain ⟨A', c', rfl, _, _, hfm⟩ := own_form hown3
  have HO3 := Lib.hid hown3
  have HU3 := Lib.hid (HU.out.trans (hb3.mono HU.out.size))
  have HB3 := Lib.hid (below_blk hb3 HB2.out)
  have HR3 := Lib.hid (below_blk hb3 HR.out)
  have HZ3 := Lib.hid (Nat.le_trans HU.out.size hb3.size)
  have HZ4 := Lib.hid HU.out.size
  clear hb3 hown3 hfm
  clear r0 rf0 r1 rf1 r2 rf2 r3 rf3 r4 rf4 r5 rf5 r6 rf6 r7 rf7 r8 rf8 r9 rf9 r10 rf10 rl
  obtain ⟨r0, r1, r2, r3, r4, r5, r6, r7, r8, r9, r10, rf0, rf1, rf2, rf3, rf4, rf5, rf6, rf7, rf8, rf9, rf10, rl⟩ := blk_11 HB3.out
  obtain ⟨z0, z1, z2, z3, z4, z5, z6, z7, z8, z9, z10, zf0, zf1, zf2, zf3, zf4, zf5, zf6, zf7, zf8, zf9, zf10, zl⟩ := blk_11 HR3.out
  have hne := HNE.out.1
  go_wp2
  have hx0 : (w3.setCell ⟨b2, 1, none⟩ (.slice A' f.n c')).heap[b1]? = some (.cells #[.int .i64 0, .slice none 0 0, .int .i64 0, .int .i64 0, .string ⟨#[]⟩, .int .u64 0, .int .i64 0, .slice none 0 0, .slice none 0 0, .int .i64 0, .bool false] 79 (0, 0)) := blk_far (a := ⟨b2, 1, none⟩) HR3.out hne _
  obtain ⟨j0, j1, j2, j3, j4, j5, j6, j7, j8, j9, j10⟩ := eleven hx0 rfl (.int .i64 f.pr) (.slice A' f.n c') (.int .i64 f.x.kind) (.int .i64 f.x.n) (.string f.x.s) (.int .u64 (f.x.label : Int)) (.int .i64 f.ty.kind) (.slice f.ty.A f.ty.ns.length f.ty.c) (.slice f.ty.A2 f.ty.xs.length f.ty.c2) (.int .i64 f.ca) (.bool f.wr)
  refine bodyPost_ret (v := .tuple #[.agg #[.int .i64 f.pr, .slice A' f.n c', .int .i64 f.x.kind, .int .i64 f.x.n, .string f.x.s, .int .u64 (f.x.label : Int), .int .i64 f.ty.kind, .slice f.ty.A f.ty.ns.length f.ty.c, .slice f.ty.A2 f.ty.xs.length f.ty.c2, .int .i64 f.ca, .bool f.wr], .bool true]) (by simp [results, Tryz.results24, go_sem, j0, j1, j2, j3, j4, j5, j6, j7, j8, j9, j10]) rfl ?_
  refine ⟨el_below (Below.setCell (p := ⟨b2, 1, none⟩) HU3.out HNE.out.2.1 _) HNE.out.2.2 (.int .i64 f.pr) (.slice A' f.n c') (.int .i64 f.x.kind) (.int .i64 f.x.n) (.string f.x.s) (.int .u64 (f.x.label : Int)) (.int .i64 f.ty.kind) (.slice f.ty.A f.ty.ns.length f.ty.c) (.slice f.ty.A2 f.ty.xs.length f.ty.c2) (.int .i64 f.ca) (.bool f.wr), A', c', cs, rfl, HCO.out.1, ?_⟩
  have hfr : Fr [b1, b2] w3 ((((((((((((w3.setCell ⟨b2, 1, none⟩ (.slice A' f.n c')).setCell ⟨b1, 0, none⟩ (.int .i64 f.pr)).setCell ⟨b1, 1, none⟩ (.slice A' f.n c')).setCell ⟨b1, 2, none⟩ (.int .i64 f.x.kind)).setCell ⟨b1, 3, none⟩ (.int .i64 f.x.n)).setCell ⟨b1, 4, none⟩ (.string f.x.s)).setCell ⟨b1, 5, none⟩ (.int .u64 (f.x.label : Int))).setCell ⟨b1, 6, none⟩ (.int .i64 f.ty.kind)).setCell ⟨b1, 7, none⟩ (.slice f.ty.A f.ty.ns.length f.ty.c)).setCell ⟨b1, 8, none⟩ (.slice f.ty.A2 f.ty.xs.length f.ty.c2)).setCell ⟨b1, 9, none⟩ (.int .i64 f.ca)).setCell ⟨b1, 10, none⟩ (.bool f.wr)) := by
   refine Fr.set (a := ⟨b1, 10, none⟩) (Fr.set (a := ⟨b1, 9, none⟩) (Fr.set (a := ⟨b1, 8, none⟩) (Fr.set (a := ⟨b1, 7, none⟩) (Fr.set (a := ⟨b1, 6, none⟩) (Fr.set (a := ⟨b1, 5, none⟩) (Fr.set (a := ⟨b1, 4, none⟩) (Fr.set (a := ⟨b1, 3, none⟩) (Fr.set (a := ⟨b1, 2, none⟩) (Fr.set (a := ⟨b1, 1, none⟩) (Fr.set (a := ⟨b1, 0, none⟩) (Fr.set (a := ⟨b2, 1, none⟩) (Fr.refl _ w3) _ (.inl (by simp))) _ (.inl (by simp))) _ (.inl (by simp))) _ (.inl (by simp))) _ (.inl (by simp))) _ (.inl (by simp))) _ (.inl (by simp))) _ (.inl (by simp))) _ (.inl (by simp))) _ (.inl (by simp))) _ (.inl (by simp))) _ (.inl (by simp))
  exact hp_own_mono (hfr.own HO3.out fun g hg hm => by
   have h1 := (hp_own_lt HO3.out hg).1
   have h2 := blk_lt HB2.out
   have h3 := blk_lt HR.out
   simp at hm
   omega) HZ4.out
set_option maxRecDepth 100000 in
theorem fn_beyond {w : World} {B N h : Nat} {s : HpS} {d : HpD} (H : HpAt w B N h s d) (v : VV) (hn : s.F.length ≤ 1000000) (hk : v.kind = 5) (hvn : v.n < 0 ∨ (s.F.length : Int) ≤ v.n) :
  Calls Tryz.prog 24 #[.pointer (some ⟨h, 0, none⟩), .agg #[.int .i64 v.kind, .int .i64 v.n, .string v.s, .int .u64 (v.label : Int)]] w (RetB (.tuple #[.agg #[.int .i64 0, .slice none 0 0, .int .i64 0, .int .i64 0, .string ⟨#[]⟩, .int .u64 0, .int .i64 0, .slice none 0 0, .slice none 0 0, .int .i64 0, .bool false], .bool false]) w) := by
 obtain ⟨b0, hb0⟩ : ∃ b, b = w.heap.size := ⟨_, rfl⟩
 obtain ⟨b1, hb1⟩ : ∃ b, b = w.heap.size + 1 := ⟨_, rfl⟩
 have HE0 := Lib.hid hb0
 have HE1 := Lib.hid hb1
 have HH := Lib.hid H
 have HV := Lib.hid hvn
 have HK := Lib.hid hk
 clear hb0 hb1 H hk hvn
 go_enter Tryz.func24, Tryz.ntmps24
 go_upto_region 1 with fail
 rw [← HE1.out, ← HE0.out]
 refine gen_wp fun W hW => ?_
 have HB0 := Lib.hid (show W.heap[b0]? = some (.cells #[.int .i64 v.kind, .int .i64 v.n, .string v.s, .int .u64 (v.label : Int)] 26 (0, 0)) by rw [← hW, HE0.out]; exact blk_alloc (heap_new_at _ _ _ (by first | rfl | simp)) _)
 have HB1 := Lib.hid (show W.heap[b1]? = some (.cells #[.int .i64 0, .slice none 0 0, .int .i64 0, .int .i64 0, .string ⟨#[]⟩, .int .u64 0, .int .i64 0, .slice none 0 0, .slice none 0 0, .int .i64 0, .bool false] 79 (0, 0)) by rw [← hW, HE1.out]; exact heap_new_at _ _ _ (by first | rfl | simp))
 have HW := Lib.hid (show Below w.heap.size w W by rw [← hW]; exact ((Below.refl _ _).alloc (Nat.le_refl _) _).alloc (by simp) _)
 have HLW := Lib.hid (show W.heap.size = w.heap.size + 2 by rw [← hW]; simp)
 clear hW
 obtain ⟨p0, p1, p2, p3, pf0, pf1, pf2, pf3, pl⟩ := blk_4 HB0.out
 have hk := HK.out
 go_wp2_with fail
 clear hk
 clear p0 pf0 p1 pf1 p2 pf2 p3 pf3 pl
 refine wp_region_held_drew (S := fun w' => w'.heap[b0]? = some (.cells #[.int .i64 v.kind, .int .i64 v.n, .string v.s, .int .u64 (v.label : Int)] 26 (0, 0))) (by kernel_rfl) (HB0.out) (fun hHeld => ?_)
 refine tk 0 17 (.pointer (some ⟨h, 0, none⟩)) hHeld ?_; simp only [Act.put, zq1, zq2, zq3]
 refine tk 1 18 (.pointer (some ⟨h, 0, none⟩)) hHeld ?_; simp only [Act.put, zq1, zq2, zq3]
 refine tk 2 19 (.pointer (some ⟨h, 3, none⟩)) hHeld ?_; simp only [Act.put, zq1, zq2, zq3]
 refine tk 3 20 (.pointer (some ⟨b0, 1, none⟩)) hHeld ?_; simp only [Act.put, zq1, zq2, zq3]
 refine tk 4 21 (.int .i64 v.n) hHeld ?_ (hy := Or.inl ⟨by rfl, fun w' hS => (by have q0 := cell_of_blk (i := 1) (v := .int .i64 v.n) hS rfl; go_simp)⟩); simp only [Act.put, zq1, zq2, zq3]
 refine wpAnyH_ready (rs := [5, 9]) (by kernel_rfl) (by simp) ?_
 refine AllReadyH.cons (o := _) rfl (fun K hK => ?_) (AllReadyH.cons (o := _) rfl (fun K hK => ?_) (AllReadyH.nil))
 ·go_simp
  have HB : Below w.heap.size w W.drew := HW.out.drew
  refine (at_fns_none (HH.out.below HB).blk (HH.out.below HB).o2 rfl hn v.n HV.out).mono ?_
  rintro e w1 ⟨rfl, hb1⟩
  have HW1 := Lib.hid (show Below w.heap.size w w1 from HB.trans (hb1.mono HB.size))
  have D0 := Lib.hid (below_blk hb1 (blk_drew HB0.out))
  have D1 := Lib.hid (below_blk hb1 (blk_drew HB1.out))
  have HSZ := Lib.hid hb1.size
  clear hb1 HB
  refine hK.out _ _ (D0.out) (fun hHeld => ?_)
  clear hK K
  try simp only [Act.put, zq1, zq2, zq3]
  refine tk 6 16 (.tuple #[.agg #[.int .i64 0, .slice none 0 0, .int .i64 0, .int .i64 0, .string ⟨#[]⟩, .int .u64 0, .int .i64 0, .slice none 0 0, .slice none 0 0, .int .i64 0, .bool false], .bool false]) hHeld ?_; simp only [Act.put, zq1, zq2, zq3]
  refine tk 7 23 (.agg #[.int .i64 0, .slice none 0 0, .int .i64 0, .int .i64 0, .string ⟨#[]⟩, .int .u64 0, .int .i64 0, .slice none 0 0, .slice none 0 0, .int .i64 0, .bool false]) hHeld ?_; simp only [Act.put, zq1, zq2, zq3]
  refine tk 8 24 (.bool false) hHeld ?_; simp only [Act.put, zq1, zq2, zq3]
  refine rd 9 fun K hK => ?_
  go_simp
  refine hK.out _ _ (blk_alloc D0.out _) (fun hHeld => ?_)
  clear hK K
  try simp only [Act.put, zq1, zq2, zq3]
  refine rd 10 fun K hK => ?_
  go_simp
  refine hK.out _ _ (blk_alloc D0.out _) (fun hHeld => ?_)
  clear hK K
  try simp only [Act.put, zq1, zq2, zq3]
  refine tk 11 7 (.bool false) hHeld ?_; simp only [Act.put, zq1, zq2, zq3]
  refine wpAnyH_done (by kernel_rfl) ?_ _
  go_upto_region 4 with fail
  obtain ⟨b2, hb2⟩ : ∃ b, b = w1.heap.size := ⟨_, rfl⟩
  rw [← hb2]
  refine gen_wp fun U hU => ?_
  have HB2 := Lib.hid (show U.heap[b2]? = some (.cells #[.int .i64 0, .slice none 0 0, .int .i64 0, .int .i64 0, .string ⟨#[]⟩, .int .u64 0, .int .i64 0, .slice none 0 0, .slice none 0 0, .int .i64 0, .bool false] 79 (0, 0)) by rw [← hU, hb2]; exact heap_new_at _ _ _ (by first | rfl | simp))
  have HR := Lib.hid (show U.heap[b1]? = some (.cells #[.int .i64 0, .slice none 0 0, .int .i64 0, .int .i64 0, .string ⟨#[]⟩, .int .u64 0, .int .i64 0, .slice none 0 0, .slice none 0 0, .int .i64 0, .bool false] 79 (0, 0)) by rw [← hU]; exact blk_alloc D1.out _)
  have HU := Lib.hid (show Below w.heap.size w U by rw [← hU]; exact HW1.out.alloc HW1.out.size _)
  have HNE := Lib.hid (show b1 ≠ b2 ∧ w.heap.size ≤ b2 ∧ w.heap.size ≤ b1 by have := blk_lt D1.out; have := HW1.out.size; have := HE1.out; omega)
  clear hU hb2
  obtain ⟨r0, r1, r2, r3, r4, r5, r6, r7, r8, r9, r10, rf0, rf1, rf2, rf3, rf4, rf5, rf6, rf7, rf8, rf9, rf10, rl⟩ := blk_11 HB2.out
  have HCL := Lib.hid (clone_nil U)
  go_wp2_with fail
  refine HCL.out.mono ?_
  rintro e w3 ⟨rfl, hb3⟩
  have HU3 := Lib.hid (HU.out.trans (hb3.mono HU.out.size))
  have HB3 := Lib.hid (below_blk hb3 HB2.out)
  have HR3 := Lib.hid (below_blk hb3 HR.out)
  have HZ3 := Lib.hid (Nat.le_trans HU.out.size hb3.size)
  have HZ4 := Lib.hid HU.out.size
  clear hb3
  clear r0 rf0 r1 rf1 r2 rf2 r3 rf3 r4 rf4 r5 rf5 r6 rf6 r7 rf7 r8 rf8 r9 rf9 r10 rf10 rl
  obtain ⟨r0, r1, r2, r3, r4, r5, r6, r7, r8, r9, r10, rf0, rf1, rf2, rf3, rf4, rf5, rf6, rf7, rf8, rf9, rf10, rl⟩ := blk_11 HB3.out
  obtain ⟨z0, z1, z2, z3, z4, z5, z6, z7, z8, z9, z10, zf0, zf1, zf2, zf3, zf4, zf5, zf6, zf7, zf8, zf9, zf10, zl⟩ := blk_11 HR3.out
  have hne := HNE.out.1
  go_wp2
  have hx0 : (w3.setCell ⟨b2, 1, none⟩ (.slice none 0 0)).heap[b1]? = some (.cells #[.int .i64 0, .slice none 0 0, .int .i64 0, .int .i64 0, .string ⟨#[]⟩, .int .u64 0, .int .i64 0, .slice none 0 0, .slice none 0 0, .int .i64 0, .bool false] 79 (0, 0)) := blk_far (a := ⟨b2, 1, none⟩) HR3.out hne _
  obtain ⟨j0, j1, j2, j3, j4, j5, j6, j7, j8, j9, j10⟩ := eleven hx0 rfl (.int .i64 0) (.slice none 0 0) (.int .i64 0) (.int .i64 0) (.string ⟨#[]⟩) (.int .u64 0) (.int .i64 0) (.slice none 0 0) (.slice none 0 0) (.int .i64 0) (.bool false)
  refine bodyPost_ret (v := .tuple #[.agg #[.int .i64 0, .slice none 0 0, .int .i64 0, .int .i64 0, .string ⟨#[]⟩, .int .u64 0, .int .i64 0, .slice none 0 0, .slice none 0 0, .int .i64 0, .bool false], .bool false]) (by simp [results, Tryz.results24, go_sem, j0, j1, j2, j3, j4, j5, j6, j7, j8, j9, j10]) rfl ?_
  exact ⟨rfl, el_below (Below.setCell (p := ⟨b2, 1, none⟩) HU3.out HNE.out.2.1 _) HNE.out.2.2 (.int .i64 0) (.slice none 0 0) (.int .i64 0) (.int .i64 0) (.string ⟨#[]⟩) (.int .u64 0) (.int .i64 0) (.slice none 0 0) (.slice none 0 0) (.int .i64 0) (.bool false)⟩
 ·go_simp
  refine hK.out _ _ (blk_alloc (blk_drew HB0.out) _) (fun hHeld => ?_)
  clear hK K
  try simp only [Act.put, zq1, zq2, zq3]
  refine rd 5 fun K hK => ?_
  go_simp
  have HB : Below w.heap.size w (W.drew.alloc (.cells #[.int .i64 0, .slice none 0 0, .int .i64 0, .int .i64 0, .string ⟨#[]⟩, .int .u64 0, .int .i64 0, .slice none 0 0, .slice none 0 0, .int .i64 0, .bool false] 79)) := (HW.out.drew).alloc (by have := HLW.out; exact HW.out.size) _
  refine (at_fns_none (HH.out.below HB).blk (HH.out.below HB).o2 rfl hn v.n HV.out).mono ?_
  rintro e w1 ⟨rfl, hb1⟩
  have HW1 := Lib.hid (show Below w.heap.size w w1 from HB.trans (hb1.mono HB.size))
  have D0 := Lib.hid (below_blk hb1 (blk_alloc (blk_drew HB0.out) _))
  have D1 := Lib.hid (below_blk hb1 (blk_alloc (blk_drew HB1.out) _))
  have D2 := Lib.hid (below_blk hb1 (show (W.drew.alloc (.cells #[.int .i64 0, .slice none 0 0, .int .i64 0, .int .i64 0, .string ⟨#[]⟩, .int .u64 0, .int .i64 0, .slice none 0 0, .slice none 0 0, .int .i64 0, .bool false] 79)).heap[W.heap.size]? = some (.cells #[.int .i64 0, .slice none 0 0, .int .i64 0, .int .i64 0, .string ⟨#[]⟩, .int .u64 0, .int .i64 0, .slice none 0 0, .slice none 0 0, .int .i64 0, .bool false] 79 (0, 0)) from heap_new_at _ _ _ (by first | rfl | simp)))
  obtain ⟨u0, u1, u2, u3, u4, u5, u6, u7, u8, u9, u10, uf0, uf1, uf2, uf3, uf4, uf5, uf6, uf7, uf8, uf9, uf10, ul⟩ := blk_11 D2.out
  have HSZ := Lib.hid hb1.size
  clear hb1 HB
  refine hK.out _ _ (D0.out) (fun hHeld => ?_)
  clear hK K
  try simp only [Act.put, zq1, zq2, zq3]
  refine tk 6 16 (.tuple #[.agg #[.int .i64 0, .slice none 0 0, .int .i64 0, .int .i64 0, .string ⟨#[]⟩, .int .u64 0, .int .i64 0, .slice none 0 0, .slice none 0 0, .int .i64 0, .bool false], .bool false]) hHeld ?_; simp only [Act.put, zq1, zq2, zq3]
  refine tk 7 23 (.agg #[.int .i64 0, .slice none 0 0, .int .i64 0, .int .i64 0, .string ⟨#[]⟩, .int .u64 0, .int .i64 0, .slice none 0 0, .slice none 0 0, .int .i64 0, .bool false]) hHeld ?_; simp only [Act.put, zq1, zq2, zq3]
  refine tk 8 24 (.bool false) hHeld ?_; simp only [Act.put, zq1, zq2, zq3]
  refine rd 10 fun K hK => ?_
  go_simp
  refine hK.out _ _ (el_far D0.out (by have := HLW.out; have := HE0.out; omega) (.int .i64 0) (.slice none 0 0) (.int .i64 0) (.int .i64 0) (.string ⟨#[]⟩) (.int .u64 0) (.int .i64 0) (.slice none 0 0) (.slice none 0 0) (.int .i64 0) (.bool false)) (fun hHeld => ?_)
  clear hK K
  try simp only [Act.put, zq1, zq2, zq3]
  refine tk 11 7 (.bool false) hHeld ?_; simp only [Act.put, zq1, zq2, zq3]
  refine wpAnyH_done (by kernel_rfl) ?_ _
  go_upto_region 4 with fail
  obtain ⟨b2, hb2⟩ : ∃ b, b = W.heap.size := ⟨_, rfl⟩
  rw [← hb2]
  refine gen_wp fun U hU => ?_
  have HB2 := Lib.hid (show U.heap[b2]? = some (.cells #[.int .i64 0, .slice none 0 0, .int .i64 0, .int .i64 0, .string ⟨#[]⟩, .int .u64 0, .int .i64 0, .slice none 0 0, .slice none 0 0, .int .i64 0, .bool false] 79 (0, 0)) by rw [← hU, hb2]; exact el_set D2.out rfl (.int .i64 0) (.slice none 0 0) (.int .i64 0) (.int .i64 0) (.string ⟨#[]⟩) (.int .u64 0) (.int .i64 0) (.slice none 0 0) (.slice none 0 0) (.int .i64 0) (.bool false))
  have HR := Lib.hid (show U.heap[b1]? = some (.cells #[.int .i64 0, .slice none 0 0, .int .i64 0, .int .i64 0, .string ⟨#[]⟩, .int .u64 0, .int .i64 0, .slice none 0 0, .slice none 0 0, .int .i64 0, .bool false] 79 (0, 0)) by rw [← hU]; exact el_far D1.out (by have := HLW.out; have := HE1.out; omega) (.int .i64 0) (.slice none 0 0) (.int .i64 0) (.int .i64 0) (.string ⟨#[]⟩) (.int .u64 0) (.int .i64 0) (.slice none 0 0) (.slice none 0 0) (.int .i64 0) (.bool false))
  have HU := Lib.hid (show Below w.heap.size w U by rw [← hU]; exact el_below HW1.out (by have := HLW.out; omega) (.int .i64 0) (.slice none 0 0) (.int .i64 0) (.int .i64 0) (.string ⟨#[]⟩) (.int .u64 0) (.int .i64 0) (.slice none 0 0) (.slice none 0 0) (.int .i64 0) (.bool false))
  have HNE := Lib.hid (show b1 ≠ b2 ∧ w.heap.size ≤ b2 ∧ w.heap.size ≤ b1 by have := HLW.out; have := HE1.out; omega)
  clear hU hb2
  clear u0 uf0 u1 uf1 u2 uf2 u3 uf3 u4 uf4 u5 uf5 u6 uf6 u7 uf7 u8 uf8 u9 uf9 u10 uf10 ul
  obtain ⟨r0, r1, r2, r3, r4, r5, r6, r7, r8, r9, r10, rf0, rf1, rf2, rf3, rf4, rf5, rf6, rf7, rf8, rf9, rf10, rl⟩ := blk_11 HB2.out
  have HCL := Lib.hid (clone_nil U)
  go_wp2_with fail
  refine HCL.out.mono ?_
  rintro e w3 ⟨rfl, hb3⟩
  have HU3 := Lib.hid (HU.out.trans (hb3.mono HU.out.size))
  have HB3 := Lib.hid (below_blk hb3 HB2.out)
  have HR3 := Lib.hid (below_blk hb3 HR.out)
  have HZ3 := Lib.hid (Nat.le_trans HU.out.size hb3.size)
  have HZ4 := Lib.hid HU.out.size
  clear hb3
  clear r0 rf0 r1 rf1 r2 rf2 r3 rf3 r4 rf4 r5 rf5 r6 rf6 r7 rf7 r8 rf8 r9 rf9 r10 rf10 rl
  obtain ⟨r0, r1, r2, r3, r4, r5, r6, r7, r8, r9, r10, rf0, rf1, rf2, rf3, rf4, rf5, rf6, rf7, rf8, rf9, rf10, rl⟩ := blk_11 HB3.out
  obtain ⟨z0, z1, z2, z3, z4, z5, z6, z7, z8, z9, z10, zf0, zf1, zf2, zf3, zf4, zf5, zf6, zf7, zf8, zf9, zf10, zl⟩ := blk_11 HR3.out
  have hne := HNE.out.1
  go_wp2
  have hx0 : (w3.setCell ⟨b2, 1, none⟩ (.slice none 0 0)).heap[b1]? = some (.cells #[.int .i64 0, .slice none 0 0, .int .i64 0, .int .i64 0, .string ⟨#[]⟩, .int .u64 0, .int .i64 0, .slice none 0 0, .slice none 0 0, .int .i64 0, .bool false] 79 (0, 0)) := blk_far (a := ⟨b2, 1, none⟩) HR3.out hne _
  obtain ⟨j0, j1, j2, j3, j4, j5, j6, j7, j8, j9, j10⟩ := eleven hx0 rfl (.int .i64 0) (.slice none 0 0) (.int .i64 0) (.int .i64 0) (.string ⟨#[]⟩) (.int .u64 0) (.int .i64 0) (.slice none 0 0) (.slice none 0 0) (.int .i64 0) (.bool false)
  refine bodyPost_ret (v := .tuple #[.agg #[.int .i64 0, .slice none 0 0, .int .i64 0, .int .i64 0, .string ⟨#[]⟩, .int .u64 0, .int .i64 0, .slice none 0 0, .slice none 0 0, .int .i64 0, .bool false], .bool false]) (by simp [results, Tryz.results24, go_sem, j0, j1, j2, j3, j4, j5, j6, j7, j8, j9, j10]) rfl ?_
  exact ⟨rfl, el_below (Below.setCell (p := ⟨b2, 1, none⟩) HU3.out HNE.out.2.1 _) HNE.out.2.2 (.int .i64 0) (.slice none 0 0) (.int .i64 0) (.int .i64 0) (.string ⟨#[]⟩) (.int .u64 0) (.int .i64 0) (.slice none 0 0) (.slice none 0 0) (.int .i64 0) (.bool false)⟩
set_option maxRecDepth 100000 in
theorem fn_other {h : Nat} (v : VV) (hk : v.kind ≠ 5) (w : World) : Calls Tryz.prog 24 #[.pointer (some ⟨h, 0, none⟩), .agg #[.int .i64 v.kind, .int .i64 v.n, .string v.s, .int .u64 (v.label : Int)]] w (RetB (.tuple #[.agg #[.int .i64 0, .slice none 0 0, .int .i64 0, .int .i64 0, .string ⟨#[]⟩, .int .u64 0, .int .i64 0, .slice none 0 0, .slice none 0 0, .int .i64 0, .bool false], .bool false]) w) := by
 obtain ⟨b, hb⟩ : ∃ b, b = w.heap.size + 1 := ⟨_, rfl⟩
 have HB := Lib.hid (show w.heap.size ≤ b by omega)
 have HBE := Lib.hid hb
 clear hb
 go_enter Tryz.func24, Tryz.ntmps24
 go_upto_region 1 with fail
 obtain ⟨b0, hb0⟩ : ∃ b, b = w.heap.size := ⟨_, rfl⟩
 rw [← HBE.out, ← hb0]
 refine gen_wp fun W hW => ?_
 have HQ := Lib.hid (show W.heap[b0]? = some (.cells #[.int .i64 v.kind, .int .i64 v.n, .string v.s, .int .u64 (v.label : Int)] 26 (0, 0)) by rw [← hW, hb0]; exact blk_alloc (heap_new_at _ _ _ (by first | rfl | simp)) _)
 have HR := Lib.hid (show W.heap[b]? = some (.cells #[.int .i64 0, .slice none 0 0, .int .i64 0, .int .i64 0, .string ⟨#[]⟩, .int .u64 0, .int .i64 0, .slice none 0 0, .slice none 0 0, .int .i64 0, .bool false] 79 (0, 0)) by rw [← hW, HBE.out]; exact heap_new_at _ _ _ (by first | rfl | simp))
 have HW := Lib.hid (show Below w.heap.size w W by rw [← hW]; exact ((Below.refl _ _).alloc (Nat.le_refl _) _).alloc (by simp) _)
 clear hW hb0
 obtain ⟨p0, p1, p2, p3, pf0, pf1, pf2, pf3, pl⟩ := blk_4 HQ.out
 obtain ⟨r0, r1, r2, r3, r4, r5, r6, r7, r8, r9, r10, rf0, rf1, rf2, rf3, rf4, rf5, rf6, rf7, rf8, rf9, rf10, rl⟩ := blk_11 HR.out
 go_wp2
 obtain ⟨j0, j1, j2, j3, j4, j5, j6, j7, j8, j9, j10⟩ := eleven HR.out rfl (.int .i64 0) (.slice none 0 0) (.int .i64 0) (.int .i64 0) (.string ⟨#[]⟩) (.int .u64 0) (.int .i64 0) (.slice none 0 0) (.slice none 0 0) (.int .i64 0) (.bool false)
 refine bodyPost_ret (v := .tuple #[.agg #[.int .i64 0, .slice none 0 0, .int .i64 0, .int .i64 0, .string ⟨#[]⟩, .int .u64 0, .int .i64 0, .slice none 0 0, .slice none 0 0, .int .i64 0, .bool false], .bool false]) (by simp [results, Tryz.results24, go_sem, j0, j1, j2, j3, j4, j5, j6, j7, j8, j9, j10]) rfl ?_
 exact ⟨rfl, (Below.setCell (p := ⟨b, 10, none⟩) (Below.setCell (p := ⟨b, 9, none⟩) (Below.setCell (p := ⟨b, 8, none⟩) (Below.setCell (p := ⟨b, 7, none⟩) (Below.setCell (p := ⟨b, 6, none⟩) (Below.setCell (p := ⟨b, 5, none⟩) (Below.setCell (p := ⟨b, 4, none⟩) (Below.setCell (p := ⟨b, 3, none⟩) (Below.setCell (p := ⟨b, 2, none⟩) (Below.setCell (p := ⟨b, 1, none⟩) (Below.setCell (p := ⟨b, 0, none⟩) HW.out HB.out (.int .i64 0)) HB.out (.slice none 0 0)) HB.out (.int .i64 0)) HB.out (.int .i64 0)) HB.out (.string ⟨#[]⟩)) HB.out (.int .u64 0)) HB.out (.int .i64 0)) HB.out (.slice none 0 0)) HB.out (.slice none 0 0)) HB.out (.int .i64 0)) HB.out (.bool false))⟩
theorem fnI_some {s : HpS} {v : VV} {f : FnS} (h : fnI s v = some f) : ∃ j : Nat, s.F[j]? = some f ∧ v.kind = 5 ∧ v.n = (j : Int) := by
 unfold fnI at h
 split at h
 ·rename_i hc
  exact ⟨v.n.toNat, h, hc.1, by omega⟩
 ·cases h
theorem fn_none {w : World} {B N h : Nat} {s : HpS} {d : HpD} (H : HpAt w B N h s d) (v : VV) (hn : s.F.length ≤ 1000000) (hf : fnI s v = none) :
  Calls Tryz.prog 24 #[.pointer (some ⟨h, 0, none⟩), .agg #[.int .i64 v.kind, .int .i64 v.n, .string v.s, .int .u64 (v.label : Int)]] w (RetB (.tuple #[.agg #[.int .i64 0, .slice none 0 0, .int .i64 0, .int .i64 0, .string ⟨#[]⟩, .int .u64 0, .int .i64 0, .slice none 0 0, .slice none 0 0, .int .i64 0, .bool false], .bool false]) w) := by
 by_cases hk : v.kind = 5
 ·refine fn_beyond H v hn hk ?_
  unfold fnI at hf
  split at hf
  ·rename_i hc
   rw [List.getElem?_eq_none_iff] at hf
   omega
  ·rename_i hc
   by_cases h0 : v.n < 0
   ·exact .inl h0
   ·refine .inr ?_
    rcases Int.lt_or_le v.n s.F.length with h1 | h1
    ·exact absurd ⟨hk, by omega, h1⟩ hc
    ·exact h1
 ·exact fn_other v hk w
theorem fn_got {w : World} {B N h : Nat} {s : HpS} {d : HpD} (H : HpAt w B N h s d) (v : VV) (hn : s.F.length ≤ 1000000) {f : FnS} (hf : fnI s v = some f) :
  Calls Tryz.prog 24 #[.pointer (some ⟨h, 0, none⟩), .agg #[.int .i64 v.kind, .int .i64 v.n, .string v.s, .int .u64 (v.label : Int)]] w (FnGot f w) := by
 obtain ⟨j, h1, h2, h3⟩ := fnI_some hf
 exact fn_some H v hn h1 h2 h3

def ChainF (F : List FnS) : Prop := ∀ (i : Nat) (f : FnS), F[i]? = some f → f.wr = true → 0 ≤ f.x.n ∧ f.x.n < (i : Int)
def RetV (w : World) (e : Ending) (w' : World) : Prop := Below w.heap.size w w' ∧ ∃ x : VV, e = .returned (.agg #[.int .i64 x.kind, .int .i64 x.n, .string x.s, .int .u64 (x.label : Int)])
set_option maxRecDepth 100000 in
theorem hbase_any {w : World} {B N h : Nat} {s : HpS} {d : HpD} (H : HpAt w B N h s d) (v : VV) (hn : s.F.length ≤ 1000000) (hc : ChainF s.F) :
  Calls Tryz.prog 27 #[.pointer (some ⟨h, 0, none⟩), .agg #[.int .i64 v.kind, .int .i64 v.n, .string v.s, .int .u64 (v.label : Int)]] w (RetV w) := by
 obtain ⟨b0, hb0⟩ : ∃ b, b = w.heap.size := ⟨_, rfl⟩
 obtain ⟨b1, hb1⟩ : ∃ b, b = w.heap.size + 1 := ⟨_, rfl⟩
 have HE0 := Lib.hid hb0
 have HE1 := Lib.hid hb1
 have HH := Lib.hid H
 have HC := Lib.hid hc
 have HN := Lib.hid hn
 clear hb0 hb1 H hc hn
 go_enter Tryz.func27, Tryz.ntmps27
 go_upto_region 1 with fail
 rw [← HE1.out, ← HE0.out]
 refine gen_wp fun W hW => ?_
 have HB0 := Lib.hid (show W.heap[b0]? = some (.cells #[.int .i64 v.kind, .int .i64 v.n, .string v.s, .int .u64 (v.label : Int)] 26 (0, 0)) by rw [← hW, HE0.out]; exact blk_alloc (heap_new_at _ _ _ (by first | rfl | simp)) _)
 have HB1 := Lib.hid (show W.heap[b1]? = some (.cells #[.int .i64 0, .int .i64 0, .string ⟨#[]⟩, .int .u64 0] 26 (0, 0)) by rw [← hW, HE1.out]; exact heap_new_at _ _ _ (by first | rfl | simp))
 have HW := Lib.hid (show Below w.heap.size w W by rw [← hW]; exact ((Below.refl _ _).alloc (Nat.le_refl _) _).alloc (by simp) _)
 clear hW
 go_wp2_with fail
 go_loopw [] (fun wr => ∃ x : VV, Hid (wr.heap[b0]? = some (.cells #[.int .i64 x.kind, .int .i64 x.n, .string x.s, .int .u64 (x.label : Int)] 26 (0, 0))) ∧ Hid (wr.heap[b1]? = some (.cells #[.int .i64 0, .int .i64 0, .string ⟨#[]⟩, .int .u64 0] 26 (0, 0))) ∧ Hid (Below w.heap.size w wr)) (fun wr => (intOf ((wr.cell? ⟨b0, 1, none⟩).getD (.int .i64 0))).toNat)
 case atStart => exact ⟨v, HB0, HB1, HW⟩
 case round =>
  obtain ⟨x, X0, X1, XW⟩ := hrel
  clear HB0 HB1 HW
  have hold : wr.cell? ⟨b0, 1, none⟩ = some (.int .i64 x.n) := cell_of_blk X0.out rfl
  have HOLD := Lib.hid hold
  clear hold
  obtain ⟨p0, p1, p2, p3, pf0, pf1, pf2, pf3, pl⟩ := blk_4 X0.out
  rcases hfi : fnI s x with _ | f
  ·have HCN := Lib.hid (fn_none (HH.out.below XW.out) x HN.out hfi)
   clear hfi
   go_wp2_with fail
   refine HCN.out.mono ?_
   rintro e w1 ⟨rfl, hb⟩
   have D0 := Lib.hid (below_blk hb X0.out)
   have D1 := Lib.hid (below_blk hb X1.out)
   have DW := Lib.hid (XW.out.trans (hb.mono XW.out.size))
   clear hb p0 pf0 p1 pf1 p2 pf2 p3 pf3 pl
   go_upto_region 2 with fail
   refine gen_wp fun U hU => ?_
   obtain ⟨b5, hb5⟩ : ∃ b, b = w1.heap.size := ⟨_, rfl⟩
   rw [← hb5]
   have U0 := Lib.hid (show U.heap[b0]? = some (.cells #[.int .i64 x.kind, .int .i64 x.n, .string x.s, .int .u64 (x.label : Int)] 26 (0, 0)) by rw [← hU]; exact blk_alloc D0.out _)
   have U1 := Lib.hid (show U.heap[b1]? = some (.cells #[.int .i64 0, .int .i64 0, .string ⟨#[]⟩, .int .u64 0] 26 (0, 0)) by rw [← hU]; exact blk_alloc D1.out _)
   have U5 := Lib.hid (show U.heap[b5]? = some (.cells #[.int .i64 0, .slice none 0 0, .int .i64 0, .int .i64 0, .string ⟨#[]⟩, .int .u64 0, .int .i64 0, .slice none 0 0, .slice none 0 0, .int .i64 0, .bool false] 79 (0, 0)) by rw [← hU, hb5]; exact heap_new_at _ _ _ (by first | rfl | simp))
   have UW := Lib.hid (show Below w.heap.size w U by rw [← hU]; exact DW.out.alloc DW.out.size _)
   clear hU hb5
   obtain ⟨p0, p1, p2, p3, pf0, pf1, pf2, pf3, pl⟩ := blk_4 U0.out
   obtain ⟨q0, q1, q2, q3, qf0, qf1, qf2, qf3, ql⟩ := blk_4 U1.out
   obtain ⟨r0, r1, r2, r3, r4, r5, r6, r7, r8, r9, r10, rf0, rf1, rf2, rf3, rf4, rf5, rf6, rf7, rf8, rf9, rf10, rl⟩ := blk_11 U5.out
   go_wp2
   obtain ⟨j0, j1, j2, j3⟩ := four U1.out rfl (.int .i64 x.kind) (.int .i64 x.n) (.string x.s) (.int .u64 (x.label : Int))
   refine bodyPost_ret (v := .agg #[.int .i64 x.kind, .int .i64 x.n, .string x.s, .int .u64 (x.label : Int)]) (by simp [results, Tryz.results27, go_sem, j0, j1, j2, j3]) rfl ?_
   exact ⟨(Below.setCell (p := ⟨b1, 3, none⟩) (Below.setCell (p := ⟨b1, 2, none⟩) (Below.setCell (p := ⟨b1, 1, none⟩) (Below.setCell (p := ⟨b1, 0, none⟩) UW.out (show w.heap.size ≤ b1 by have := HE1.out; omega) (.int .i64 x.kind)) (show w.heap.size ≤ b1 by have := HE1.out; omega) (.int .i64 x.n)) (show w.heap.size ≤ b1 by have := HE1.out; omega) (.string x.s)) (show w.heap.size ≤ b1 by have := HE1.out; omega) (.int .u64 (x.label : Int))), x, rfl⟩
  ·have HCN := Lib.hid (fn_got (HH.out.below XW.out) x HN.out hfi)
   have HFI := Lib.hid hfi
   clear hfi
   go_wp2_with fail
   refine HCN.out.mono ?_
   rintro e w1 ⟨hb, A', c', cs, rfl, _, _⟩
   have D0 := Lib.hid (below_blk hb X0.out)
   have D1 := Lib.hid (below_blk hb X1.out)
   have DW := Lib.hid (XW.out.trans (hb.mono XW.out.size))
   clear hb p0 pf0 p1 pf1 p2 pf2 p3 pf3 pl
   go_upto_region 2 with fail
   refine gen_wp fun U hU => ?_
   obtain ⟨b5, hb5⟩ : ∃ b, b = w1.heap.size := ⟨_, rfl⟩
   rw [← hb5]
   have U0 := Lib.hid (show U.heap[b0]? = some (.cells #[.int .i64 x.kind, .int .i64 x.n, .string x.s, .int .u64 (x.label : Int)] 26 (0, 0)) by rw [← hU]; exact blk_alloc D0.out _)
   have U1 := Lib.hid (show U.heap[b1]? = some (.cells #[.int .i64 0, .int .i64 0, .string ⟨#[]⟩, .int .u64 0] 26 (0, 0)) by rw [← hU]; exact blk_alloc D1.out _)
   have U5 := Lib.hid (show U.heap[b5]? = some (.cells #[.int .i64 f.pr, .slice A' f.n c', .int .i64 f.x.kind, .int .i64 f.x.n, .string f.x.s, .int .u64 (f.x.label : Int), .int .i64 f.ty.kind, .slice f.ty.A f.ty.ns.length f.ty.c, .slice f.ty.A2 f.ty.xs.length f.ty.c2, .int .i64 f.ca, .bool f.wr] 79 (0, 0)) by rw [← hU, hb5]; exact heap_new_at _ _ _ (by first | rfl | simp))
   have UW := Lib.hid (show Below w.heap.size w U by rw [← hU]; exact DW.out.alloc DW.out.size _)
   have HNE := Lib.hid (show b0 ≠ b1 by have := HE0.out; have := HE1.out; omega)
   clear hU hb5
   cases hwr : f.wr with
   | false =>
    obtain ⟨p0, p1, p2, p3, pf0, pf1, pf2, pf3, pl⟩ := blk_4 U0.out
    obtain ⟨q0, q1, q2, q3, qf0, qf1, qf2, qf3, ql⟩ := blk_4 U1.out
    obtain ⟨r0, r1, r2, r3, r4, r5, r6, r7, r8, r9, r10, rf0, rf1, rf2, rf3, rf4, rf5, rf6, rf7, rf8, rf9, rf10, rl⟩ := blk_11 U5.out
    go_wp2
    obtain ⟨j0, j1, j2, j3⟩ := four U1.out rfl (.int .i64 x.kind) (.int .i64 x.n) (.string x.s) (.int .u64 (x.label : Int))
    refine bodyPost_ret (v := .agg #[.int .i64 x.kind, .int .i64 x.n, .string x.s, .int .u64 (x.label : Int)]) (by simp [results, Tryz.results27, go_sem, j0, j1, j2, j3]) rfl ?_
    exact ⟨(Below.setCell (p := ⟨b1, 3, none⟩) (Below.setCell (p := ⟨b1, 2, none⟩) (Below.setCell (p := ⟨b1, 1, none⟩) (Below.setCell (p := ⟨b1, 0, none⟩) UW.out (show w.heap.size ≤ b1 by have := HE1.out; omega) (.int .i64 x.kind)) (show w.heap.size ≤ b1 by have := HE1.out; omega) (.int .i64 x.n)) (show w.heap.size ≤ b1 by have := HE1.out; omega) (.string x.s)) (show w.heap.size ≤ b1 by have := HE1.out; omega) (.int .u64 (x.label : Int))), x, rfl⟩
   | true =>
    have HCH := Lib.hid (show 0 ≤ f.x.n ∧ f.x.n < x.n by
     obtain ⟨j, h1, _, h3⟩ := fnI_some HFI.out
     have := HC.out j f h1 hwr
     omega)
    obtain ⟨p0, p1, p2, p3, pf0, pf1, pf2, pf3, pl⟩ := blk_4 U0.out
    obtain ⟨q0, q1, q2, q3, qf0, qf1, qf2, qf3, ql⟩ := blk_4 U1.out
    obtain ⟨r0, r1, r2, r3, r4, r5, r6, r7, r8, r9, r10, rf0, rf1, rf2, rf3, rf4, rf5, rf6, rf7, rf8, rf9, rf10, rl⟩ := blk_11 U5.out
    go_wp2_with fail
    go_roundw
    case rel => exact ⟨{ x with n := f.x.n }, Lib.hid (by have := blk_set (i := 1) U0.out (.int .i64 f.x.n); exact this), Lib.hid (blk_far (a := ⟨b0, 1, none⟩) U1.out HNE.out.symm _), Lib.hid (Below.setCell (p := ⟨b0, 1, none⟩) UW.out (show w.heap.size ≤ b0 by have := HE0.out; omega) _)⟩
    case measure =>
     have hnew : (U.setCell ⟨b0, 1, none⟩ (.int .i64 f.x.n)).cell? ⟨b0, 1, none⟩ = some (.int .i64 f.x.n) := cell_same_set U0.out (by simp) _
     rw [hnew, HOLD.out]
     have := HCH.out
     simp [intOf]
     omega
def RetBool (w : World) (e : Ending) (w' : World) : Prop := Below w.heap.size w w' ∧ ∃ b : Bool, e = .returned (.bool b)
set_option maxRecDepth 100000 in
theorem hequal_any {w : World} {B N h : Nat} {s : HpS} {d : HpD} (H : HpAt w B N h s d) (a b : VV) (hn : s.F.length ≤ 1000000) (hc : ChainF s.F) :
  Calls Tryz.prog 29 #[.pointer (some ⟨h, 0, none⟩), .agg #[.int .i64 a.kind, .int .i64 a.n, .string a.s, .int .u64 (a.label : Int)], .agg #[.int .i64 b.kind, .int .i64 b.n, .string b.s, .int .u64 (b.label : Int)]] w (RetBool w) := by
 obtain ⟨g, hg⟩ : ∃ g, g = w.heap.size := ⟨_, rfl⟩
 have HG := Lib.hid hg
 have HH := Lib.hid H
 have HC := Lib.hid hc
 have HN := Lib.hid hn
 clear hg H hc hn
 go_enter Tryz.func29, Tryz.ntmps29
 go_upto_region 1 with fail
 rw [← HG.out]
 refine gen_wp fun W hW => ?_
 have HA := Lib.hid (show W.heap[g]? = some (.cells #[.int .i64 a.kind, .int .i64 a.n, .string a.s, .int .u64 (a.label : Int)] 26 (0, 0)) by rw [← hW, HG.out]; exact blk_alloc (heap_new_at _ _ _ rfl) _)
 have HB := Lib.hid (show W.heap[g + 1]? = some (.cells #[.int .i64 b.kind, .int .i64 b.n, .string b.s, .int .u64 (b.label : Int)] 26 (0, 0)) by rw [← hW, HG.out]; exact heap_new_at _ _ _ (by simp))
 have HW := Lib.hid (show Below w.heap.size w W by rw [← hW]; exact ((Below.refl _ _).alloc (Nat.le_refl _) _).alloc (by simp) _)
 clear hW
 refine wp_region_held_drew (S := fun w' => w'.heap[g]? = some (.cells #[.int .i64 a.kind, .int .i64 a.n, .string a.s, .int .u64 (a.label : Int)] 26 (0, 0)) ∧ w'.heap[g + 1]? = some (.cells #[.int .i64 b.kind, .int .i64 b.n, .string b.s, .int .u64 (b.label : Int)] 26 (0, 0))) (by kernel_rfl) (⟨HA.out, HB.out⟩) (fun hHeld => ?_)
 refine tk 0 7 (.pointer (some ⟨h, 0, none⟩)) hHeld ?_; simp only [Act.put, zq1, zq2, zq3]
 refine tk 1 8 (.agg #[.int .i64 a.kind, .int .i64 a.n, .string a.s, .int .u64 (a.label : Int)]) hHeld ?_ (hy := Or.inl ⟨by rfl, fun w' hS => (by have q0 := cell_of_blk (i := 0) hS.1 rfl; have q1 := cell_of_blk (i := 1) hS.1 rfl; have q2 := cell_of_blk (i := 2) hS.1 rfl; have q3 := cell_of_blk (i := 3) hS.1 rfl; go_simp)⟩); simp only [Act.put, zq1, zq2, zq3]
 refine tk 3 10 (.pointer (some ⟨h, 0, none⟩)) hHeld ?_; simp only [Act.put, zq1, zq2, zq3]
 refine tk 4 11 (.agg #[.int .i64 b.kind, .int .i64 b.n, .string b.s, .int .u64 (b.label : Int)]) hHeld ?_ (hy := Or.inl ⟨by rfl, fun w' hS => (by have q0 := cell_of_blk (i := 0) hS.2 rfl; have q1 := cell_of_blk (i := 1) hS.2 rfl; have q2 := cell_of_blk (i := 2) hS.2 rfl; have q3 := cell_of_blk (i := 3) hS.2 rfl; go_simp)⟩); simp only [Act.put, zq1, zq2, zq3]
 refine rd 2 fun K hK => ?_
 go_simp
 refine (hbase_any (HH.out.below HW.out.drew) a HN.out HC.out).mono ?_
 rintro e w1 ⟨hb1, x1, rfl⟩
 have B1 := Lib.hid (show Below W.heap.size W w1 from (Below.refl _ _).drew.trans hb1)
 clear hb1
 refine hK.out _ _ (⟨below_blk B1.out HA.out, below_blk B1.out HB.out⟩) (fun hHeld => ?_)
 clear hK K
 try simp only [Act.put, zq1, zq2, zq3]
 refine rd 5 fun K hK => ?_
 go_simp
 refine (hbase_any (HH.out.below (HW.out.trans (B1.out.mono HW.out.size))) b HN.out HC.out).mono ?_
 rintro e w2 ⟨hb2, x2, rfl⟩
 have B2 := Lib.hid (show Below W.heap.size W w2 from B1.out.trans (hb2.mono B1.out.size))
 clear hb2
 refine hK.out _ _ (⟨below_blk B2.out HA.out, below_blk B2.out HB.out⟩) (fun hHeld => ?_)
 clear hK K
 try simp only [Act.put, zq1, zq2, zq3]
 refine rd 6 fun K hK => ?_
 go_simp
 refine (same_any x1 x2 _).mono ?_
 rintro e w3 ⟨rfl, hb3⟩
 have B3 := Lib.hid (show Below W.heap.size W w3 from B2.out.trans (hb3.mono B2.out.size))
 clear hb3
 refine hK.out _ _ (⟨below_blk B3.out HA.out, below_blk B3.out HB.out⟩) (fun hHeld => ?_)
 clear hK K
 try simp only [Act.put, zq1, zq2, zq3]
 refine tk 7 6 (.bool (sameV x1 x2)) hHeld ?_; simp only [Act.put, zq1, zq2, zq3]
 refine wpAnyH_done (by kernel_rfl) ?_ _
 go_wp2
 refine bodyPost_ret (v := .bool (sameV x1 x2)) (by simp [results, Tryz.results29, go_sem]) rfl ?_
 exact ⟨HW.out.trans (B3.out.mono HW.out.size), _, rfl⟩

theorem HVOk.vok {v : VV} (h : HVOk v) : VOk v := ⟨h.kind, h.n, Nat.le_trans h.s (by unfold maxLen; omega), h.label⟩
def StrT (T : TabS) : Prop := ∀ f ∈ T.F, f.1.s.size ≤ 140737488351232 ∧ f.2.s.size ≤ 140737488351232
structure HpOk (n : Nat) (s : HpS) : Prop where
 tl : s.T.length ≤ n
 fl : s.F.length ≤ n
 cl : s.C.length ≤ n
 tab : ∀ T ∈ s.T, TabOk T ∧ T.F.length ≤ n ∧ T.S.length ≤ 1000 * n
 fn : ChainF s.F
 cell : ∀ v ∈ s.C, VOk v
 str : ∀ T ∈ s.T, StrT T
theorem HpOk.mono {n m : Nat} {s : HpS} (h : HpOk n s) (hm : n ≤ m) : HpOk m s :=
 ⟨Nat.le_trans h.tl hm, Nat.le_trans h.fl hm, Nat.le_trans h.cl hm, fun T hT => ⟨(h.tab T hT).1, Nat.le_trans (h.tab T hT).2.1 hm, Nat.le_trans (h.tab T hT).2.2 (Nat.mul_le_mul_left _ hm)⟩, h.fn, h.cell, h.str⟩
structure HpLe (n : Nat) (s s' : HpS) : Prop where
 L : s'.L = s.L
 U : s.U ≤ s'.U
 ok : HpOk n s → HpOk (n + 1) s'
theorem HpLe.refl (n : Nat) (s : HpS) : HpLe n s s := ⟨rfl, Int.le_refl _, fun h => h.mono (by omega)⟩
section
variable {w : World} {B N h : Nat} {s : HpS} {d : HpD}
theorem charge_at (H : HpAt w B N h s d) (k : Int) (hk : k ≤ 9223372036854775807) : Calls Tryz.prog 38 #[.pointer (some ⟨h, 0, none⟩), .int .i64 k] w fun e w' =>
  (e = .returned (.bool false) ∧ Below w.heap.size w w') ∨ (e = .returned (.bool true) ∧ s.U + max k 0 ≤ s.L ∧ HpAt w' B N h { s with U := s.U + max k 0 } d ∧ Fr [h] w w') := by
 refine (hcharge_any k H.blk H.u0 H.u1 H.u2 hk).mono ?_
 rintro e w' (⟨_, rfl, hb⟩ | ⟨hr, rfl, hh, hf⟩)
 ·exact .inl ⟨rfl, hb⟩
 ·refine .inr ⟨rfl, by omega, H.charged hf hh (by have := H.u0; omega) (by omega), hf⟩
theorem HpTo.charged (H : HpAt w B N h s d) {w' : World} {U' : Int} (hh : HpAt w' B N h { s with U := U' } d) (hf : Fr [h] w w') : HpTo w B N h s d { s with U := U' } w' :=
 ⟨d, hh, hf.more fun x hx => .inl (by simp at hx; rw [hx]; exact fp_h _ _ _), fun b hb => .inl hb⟩
def GoV (w : World) (B N h : Nat) (s : HpS) (d : HpD) (n : Nat) (e : Ending) (w' : World) : Prop := ∃ (x : VV) (b : Bool) (s' : HpS), e = .returned (.tuple #[.agg #[.int .i64 x.kind, .int .i64 x.n, .string x.s, .int .u64 (x.label : Int)], .bool b]) ∧ HpLe n s s' ∧ HpTo w B N h s d s' w'
theorem tabOk_nil {l : Nat} (hl : l < 18446744073709551616) : TabOk ⟨l, [], []⟩ := ⟨hl, by simp, by simp, by simp, by simp, by simp, by simp, by simp, by simp⟩
theorem le_table {n : Nat} {l : Nat} (hl : l < 18446744073709551616) {U : Int} (hU : s.U ≤ U) : HpLe n s { s with U := U, T := s.T ++ [⟨l, [], []⟩] } :=
 ⟨rfl, hU, fun ok => ⟨by have := ok.tl; simp; omega, by have := ok.fl; exact Nat.le_trans this (by omega), by have := ok.cl; exact Nat.le_trans this (by omega), fun T hT => by
  rcases List.mem_append.1 hT with hT | hT
  ·exact ⟨(ok.tab T hT).1, by have := (ok.tab T hT).2.1; omega, by have := (ok.tab T hT).2.2; omega⟩
  ·simp at hT
   subst hT
   exact ⟨tabOk_nil hl, by simp, by simp⟩, ok.fn, ok.cell, fun T hT => by
  rcases List.mem_append.1 hT with hT | hT
  ·exact ok.str T hT
  ·simp at hT
   subst hT
   intro f hf
   simp at hf⟩⟩
theorem table_at (H : HpAt w B N h s d) (l : Nat) (hl : l < 18446744073709551616) (n : Nat) (hn : s.T.length ≤ 1000000) : Calls Tryz.prog 12 #[.pointer (some ⟨h, 0, none⟩), .int .u64 (l : Int)] w (GoV w B N h s d n) := by
 refine (htable_any l H.blk H.o1 (by simp [ptrs, H.lp]) hn H.wB H.u0 H.u1 H.u2).mono ?_
 rintro e w' (⟨_, rfl, hb⟩ | ⟨hr, rfl, hm⟩)
 ·exact ⟨⟨0, 0, ⟨#[]⟩, 0⟩, false, s, rfl, .refl _ _, .same H hb⟩
 ·exact ⟨⟨4, (s.T.length : Int), ⟨#[]⟩, 0⟩, true, _, rfl, le_table hl (by omega), H.madeT hm (by have := H.u0; omega) (by omega)⟩
def ofI (s : HpS) (t : VV) : Option Nat := if t.kind = 4 ∧ 0 ≤ t.n ∧ t.n < s.T.length then some t.n.toNat else none
theorem of_at (H : HpAt w B N h s d) (t : VV) (hn : s.T.length ≤ 1000000) : Calls Tryz.prog 14 #[.pointer (some ⟨h, 0, none⟩), .agg #[.int .i64 t.kind, .int .i64 t.n, .string t.s, .int .u64 (t.label : Int)]] w (RetB (ofV (ptrs d.ps) t) w) :=
 hof_any t H.blk H.o1 (by simp [ptrs, H.lp]) hn H.wB
theorem ofV_none (H : HpAt w B N h s d) {t : VV} (ht : ofI s t = none) : ofV (ptrs d.ps) t = .pointer none := by
 unfold ofI at ht
 unfold ofV
 split
 ·rename_i hk
  unfold atV
  split
  ·rename_i h0
   split at ht
   ·cases ht
   ·rename_i hc
    have : s.T.length ≤ t.n.toNat := by
     rcases Int.lt_or_le t.n s.T.length with h1 | h1
     ·exact absurd ⟨hk, h0, h1⟩ hc
     ·omega
    rw [List.getElem?_eq_none (by simp [ptrs, H.lp]; exact this)]
    rfl
  ·rfl
 ·rfl
theorem ofV_some (H : HpAt w B N h s d) {t : VV} {i : Nat} (ht : ofI s t = some i) : ∃ p f T, s.T[i]? = some T ∧ d.ps[i]? = some p ∧ d.fps[i]? = some f ∧ TabIn w B p T f ∧ ofV (ptrs d.ps) t = .pointer (some ⟨p, 0, none⟩) ∧ t.kind = 4 ∧ t.n = (i : Int) := by
 unfold ofI at ht
 split at ht
 ·rename_i hc
  injection ht with ht
  have hi : i < s.T.length := by omega
  obtain ⟨p, f, h1, h2, h3⟩ := H.tab (List.getElem?_eq_getElem hi)
  refine ⟨p, f, _, List.getElem?_eq_getElem hi, h1, h2, h3, ?_, hc.1, by omega⟩
  unfold ofV atV
  rw [if_pos hc.1, if_pos hc.2.1, ht]
  simp [ptrs, h1]
 ·cases ht
end
set_option maxRecDepth 100000 in
theorem get_at {w : World} {B N h : Nat} {s : HpS} {d : HpD} (H : HpAt w B N h s d) {m : Nat} (ok : HpOk m s) (hm : m ≤ 1000) (t k : VV) (kk : HVOk k) :
  Calls Tryz.prog 20 #[.pointer (some ⟨h, 0, none⟩), .agg #[.int .i64 t.kind, .int .i64 t.n, .string t.s, .int .u64 (t.label : Int)], .agg #[.int .i64 k.kind, .int .i64 k.n, .string k.s, .int .u64 (k.label : Int)]] w (RetV w) := by
 obtain ⟨b0, hb0⟩ : ∃ b, b = w.heap.size := ⟨_, rfl⟩
 obtain ⟨b1, hb1⟩ : ∃ b, b = w.heap.size + 1 := ⟨_, rfl⟩
 obtain ⟨b2, hb2⟩ : ∃ b, b = w.heap.size + 1 + 1 := ⟨_, rfl⟩
 have HE0 := Lib.hid hb0
 have HE1 := Lib.hid hb1
 have HE2 := Lib.hid hb2
 have HH := Lib.hid H
 have HOK := Lib.hid (And.intro ok (And.intro hm kk))
 clear hb0 hb1 hb2 H ok hm kk
 go_enter Tryz.func20, Tryz.ntmps20
 go_upto_region 1 with fail
 rw [← HE2.out, ← HE1.out, ← HE0.out]
 refine gen_wp fun W hW => ?_
 have HB0 := Lib.hid (show W.heap[b0]? = some (.cells #[.int .i64 t.kind, .int .i64 t.n, .string t.s, .int .u64 (t.label : Int)] 26 (0, 0)) by rw [← hW, HE0.out]; exact blk_alloc (blk_alloc (heap_new_at _ _ _ (by first | rfl | simp)) _) _)
 have HB1 := Lib.hid (show W.heap[b1]? = some (.cells #[.int .i64 k.kind, .int .i64 k.n, .string k.s, .int .u64 (k.label : Int)] 26 (0, 0)) by rw [← hW, HE1.out]; exact blk_alloc (heap_new_at _ _ _ (by first | rfl | simp)) _)
 have HB2 := Lib.hid (show W.heap[b2]? = some (.cells #[.int .i64 0, .int .i64 0, .string ⟨#[]⟩, .int .u64 0] 26 (0, 0)) by rw [← hW, HE2.out]; exact heap_new_at _ _ _ (by first | rfl | simp))
 have HW := Lib.hid (show Below w.heap.size w W by rw [← hW]; exact (((Below.refl _ _).alloc (Nat.le_refl _) _).alloc (by simp) _).alloc (by simp; omega) _)
 clear hW
 have HOF := Lib.hid (of_at (HH.out.below HW.out) t (by have := HOK.out.1.tl; have := HOK.out.2.1; omega))
 obtain ⟨p0, p1, p2, p3, pf0, pf1, pf2, pf3, pl⟩ := blk_4 HB0.out
 obtain ⟨q0, q1, q2, q3, qf0, qf1, qf2, qf3, ql⟩ := blk_4 HB2.out
 rcases hof : ofI s t with _ | i
 ·rw [ofV_none (HH.out.below HW.out) hof] at HOF
  clear hof
  go_wp2_with fail
  refine HOF.out.mono ?_
  rintro e w1 ⟨rfl, hb⟩
  have D2 := Lib.hid (below_blk hb HB2.out)
  have DW := Lib.hid (HW.out.trans (hb.mono HW.out.size))
  clear hb
  obtain ⟨r0, r1, r2, r3, rf0, rf1, rf2, rf3, rl⟩ := blk_4 D2.out
  go_wp2
  obtain ⟨j0, j1, j2, j3⟩ := four D2.out rfl (.int .i64 0) (.int .i64 0) (.string ⟨#[]⟩) (.int .u64 0)
  refine bodyPost_ret (v := .agg #[.int .i64 0, .int .i64 0, .string ⟨#[]⟩, .int .u64 0]) (by simp [results, Tryz.results20, go_sem, j0, j1, j2, j3]) rfl ?_
  exact ⟨(Below.setCell (p := ⟨b2, 3, none⟩) (Below.setCell (p := ⟨b2, 2, none⟩) (Below.setCell (p := ⟨b2, 1, none⟩) (Below.setCell (p := ⟨b2, 0, none⟩) DW.out (show w.heap.size ≤ b2 by have := HE2.out; omega) (.int .i64 0)) (show w.heap.size ≤ b2 by have := HE2.out; omega) (.int .i64 0)) (show w.heap.size ≤ b2 by have := HE2.out; omega) (.string ⟨#[]⟩)) (show w.heap.size ≤ b2 by have := HE2.out; omega) (.int .u64 0)), ⟨0, 0, ⟨#[]⟩, 0⟩, rfl⟩
 ·obtain ⟨p, f, T, h1, h2, h3, h4, h5, h6, h7⟩ := ofV_some (HH.out.below HW.out) hof
  rw [h5] at HOF
  have H4 := Lib.hid h4
  have HT := Lib.hid (HOK.out.1.tab T (List.mem_of_getElem? h1)).1
  clear hof h1 h2 h3 h4 h5 h6 h7
  go_wp2_with fail
  refine HOF.out.mono ?_
  rintro e w1 ⟨rfl, hb⟩
  have D1 := Lib.hid (below_blk hb HB1.out)
  have D2 := Lib.hid (below_blk hb HB2.out)
  have DW := Lib.hid (HW.out.trans (hb.mono HW.out.size))
  have HTG := Lib.hid (tget_is (H4.out.kept (Fr.of_below hb []) (by simp)) HT.out HOK.out.2.2.vok)
  obtain ⟨x, hx⟩ : ∃ x, x = withV (getV T.F k) (joinL [k.label, T.l]) := ⟨_, rfl⟩
  rw [← hx] at HTG
  unfold vvCells at HTG
  clear hb hx p0 pf0 p1 pf1 p2 pf2 p3 pf3 pl q0 qf0 q1 qf1 q2 qf2 q3 qf3 ql
  obtain ⟨r0, r1, r2, r3, rf0, rf1, rf2, rf3, rl⟩ := blk_4 D1.out
  go_wp2_with fail
  refine HTG.out.mono ?_
  rintro e w2 ⟨rfl, hb⟩
  have E2 := Lib.hid (below_blk hb D2.out)
  have EW := Lib.hid (DW.out.trans (hb.mono DW.out.size))
  clear hb r0 rf0 r1 rf1 r2 rf2 r3 rf3 rl
  obtain ⟨u0, u1, u2, u3, uf0, uf1, uf2, uf3, ul⟩ := blk_4 E2.out
  go_wp2
  obtain ⟨j0, j1, j2, j3⟩ := four E2.out rfl (.int .i64 x.kind) (.int .i64 x.n) (.string x.s) (.int .u64 (x.label : Int))
  refine bodyPost_ret (v := .agg #[.int .i64 x.kind, .int .i64 x.n, .string x.s, .int .u64 (x.label : Int)]) (by simp [results, Tryz.results20, go_sem, j0, j1, j2, j3]) rfl ?_
  exact ⟨(Below.setCell (p := ⟨b2, 3, none⟩) (Below.setCell (p := ⟨b2, 2, none⟩) (Below.setCell (p := ⟨b2, 1, none⟩) (Below.setCell (p := ⟨b2, 0, none⟩) EW.out (show w.heap.size ≤ b2 by have := HE2.out; omega) (.int .i64 x.kind)) (show w.heap.size ≤ b2 by have := HE2.out; omega) (.int .i64 x.n)) (show w.heap.size ≤ b2 by have := HE2.out; omega) (.string x.s)) (show w.heap.size ≤ b2 by have := HE2.out; omega) (.int .u64 (x.label : Int))), x, rfl⟩
def GoI (w : World) (B N h : Nat) (s : HpS) (d : HpD) (n : Nat) (e : Ending) (w' : World) : Prop := ∃ (k : Int) (b : Bool) (s' : HpS), e = .returned (.tuple #[.int .i64 k, .bool b]) ∧ HpLe n s s' ∧ HpTo w B N h s d s' w'
theorem le_cell {s : HpS} {n : Nat} {x : VV} (hx : VOk x) {U : Int} (hU : s.U ≤ U) : HpLe n s { s with U := U, C := s.C ++ [x] } :=
 ⟨rfl, hU, fun ok => ⟨by have := ok.tl; exact Nat.le_trans this (by omega), by have := ok.fl; exact Nat.le_trans this (by omega), by have := ok.cl; simp; omega, fun T hT => ⟨(ok.tab T hT).1, by have := (ok.tab T hT).2.1; omega, by have := (ok.tab T hT).2.2; omega⟩, ok.fn, fun v hv => by
  rcases List.mem_append.1 hv with hv | hv
  ·exact ok.cell v hv
  ·simp at hv
   subst hv
   exact hx, ok.str⟩⟩
theorem HpTo.trans2 {w w1 w2 : World} {B N h : Nat} {s s1 s2 : HpS} {d d1 d2 : HpD} (f1 : Fr (d.fp h s.F) w w1) (n1 : ∀ b ∈ d1.fp h s1.F, b ∈ d.fp h s.F ∨ w.heap.size ≤ b) (h2 : HpAt w2 B N h s2 d2) (f2 : Fr (d1.fp h s1.F) w1 w2) (n2 : ∀ b ∈ d2.fp h s2.F, b ∈ d1.fp h s1.F ∨ w1.heap.size ≤ b) : HpTo w B N h s d s2 w2 :=
 ⟨d2, h2, f1.trans f2 n1, fun b hb => (n2 b hb).elim (fun e => n1 b e) fun e => .inr (Nat.le_trans f1.size e)⟩
theorem HpTo.wrap {w w1 w2 w' : World} {B N h : Nat} {s s' : HpS} {d : HpD} {R : List Nat} (H : HpAt w1 B N h s d) (hb : Below w.heap.size w w1) (hl : ∀ b ∈ d.fp h s.F, b < w.heap.size) (h2 : HpTo w1 B N h s d s' w2) (hf : Fr R w2 w') (hR : ∀ x ∈ R, w.heap.size ≤ x ∧ x < w1.heap.size) : HpTo w B N h s d s' w' := by
 obtain ⟨d', h3, h4, h5⟩ := h2
 refine ⟨d', h3.kept hf (fun b hb hm => ?_) (fun b hm => ?_), ((Fr.of_below hb _).trans h4 fun x hx => .inl hx).trans hf fun x hx => .inr (hR x hx).1, fun b hb' => (h5 b hb').imp id fun e => Nat.le_trans hb.size e⟩
 ·have := hR b hm
  rcases h5 b hb with e | e
  ·have := hl b e; omega
  ·omega
 ·have := (hR b hm).1
  have h6 := (H.kinds (fp_h d h s.F)).1
  have h7 := hl h (fp_h d h s.F)
  have := H.nB
  omega
end Go.Proofs.YtilcofpceadpbaaGreatDoor
