/-
 HeapApart: part 15 of what the claim rests on.
-/
import Derived.Test.YtilcofpceadpbaaGreatDoorA14
import Derived.Deep.RegionHeld3
set_option linter.unusedVariables false
set_option linter.unusedSimpArgs false
set_option maxHeartbeats 64000000
namespace Go.Proofs.YtilcofpceadpbaaGreatDoor
open Go.ChangeShapes Go.WideShapes Go.ChangeAt Go.RowKit Go.Maps

set_option maxRecDepth 100000 in
theorem rput_bad {w : World} {B rb : Nat} {T : TabS} {fp : List Nat} (h : RTabIn w B rb T fp) (ok : TabOk T) {ctx : Nat} {k v : VV} (hc : ctx < 18446744073709551616) (kk : VOk k) (kv : VOk v) (hb : (T.F.length + T.S.length + 1) * 80 ≤ 140737488355328) (hik : isKey k = true)  (hst : (decide (k.kind = 3) && !allowsB T.S k.s v.kind) = true) :
  Calls Tryz.prog 60 #[.pointer (some ⟨rb, 0, none⟩), .int .u64 (ctx : Int), .agg (vvCells k), .agg (vvCells v)] w fun e w' => e = .returned (.int .i64 42) ∧ RTabTo w B rb T fp w' := by
 obtain ⟨hbF, hbS, har1, har2⟩ := room80 hb
 have AR1 := Lib.hid har1
 have AR2 := Lib.hid har2
 clear har1 har2 hb
 obtain ⟨⟨fv, sv, hfp, h1, h2, h3⟩, hbase⟩ := h
 have h0 : RTabIn w B rb T fp := ⟨⟨fv, sv, hfp, h1, h2, h3⟩, hbase⟩
 obtain ⟨AS, cs, rfl, hcs1, hcs2, hAS, hRS⟩ := own_reads h3
 have hkeys := fun W => rkey_any k W
 rw [hik] at hkeys
 have HK := Lib.hid hkeys
 have H0 := Lib.hid h0
 have H1 := Lib.hid h1
 have H2 := Lib.hid h2
 have H3 := Lib.hid h3
 have hal := fun (W : World) (hW : Below w.heap.size w W) => allows_any T.S AS cs k.s v.kind W ((hRS.below hW).mono' hW.size) hbS kv.kind
 have HOK := Lib.hid ok
 have hjl : ctx ||| k.label < 18446744073709551616 := Nat.or_lt_two_pow (n := 64) hc kk.label
 have hw := fun W => rwith_any v (ctx ||| k.label) W kv.label hjl
 have hj := fun W => rjoin_any ctx k.label W hc kk.label
 have hf := (fun (W : World) (hW : Below w.heap.size w W) => rfind_any (h0.kept (Fr.of_below hW []) (by simp)) k hbF)
 generalize hpi : findI T.F k = pi at hf
 have HF := Lib.hid hf
 have HB0 := Lib.hid ((((Below.refl w.heap.size w).alloc (Nat.le_refl _) (.cells (vvCells k) 26)).alloc (by simp) (.cells (vvCells v) 26)))
 generalize hR : withV v (ctx ||| k.label) = R at hw ⊢
 generalize hcj : ctx ||| k.label = cj at hj hw hjl
 have HW := Lib.hid hw
 have HJ := Lib.hid hj
 have HP := Lib.hid hfp
 have HBase := Lib.hid hbase
 have HAL := Lib.hid hal
 have htlt := blk_lt h1
 clear hkeys h0 h1 h2 h3 hRS ok hw hj hfp hbase hf hal
 unfold vvCells at *
 go_enter Tryz.func60, Tryz.ntmps60
 go_wp2_with fail
 refine (HK.out _).mono ?_
 rintro e w1 ⟨rfl, hb1⟩
 have HB1 := Lib.hid (HB0.out.trans (hb1.mono (by simp; omega)))
 have U0 := Lib.hid (below_blk hb1 (blk_alloc (heap_alloc_new w _) _))
 have U1 := Lib.hid (below_blk hb1 (heap_new_at _ _ (w.heap.size + 1) (by simp)))
 have U3 := Lib.hid (below_blk HB1.out H1.out)
 have k0 := cell_of_blk (i := 0) U0.out rfl
 have l0 := blk_lt U0.out
 clear hb1 HB0
 by_cases hk3 : k.kind = 3
 ·have hal := HAL.out
  rw [show allowsB T.S k.s v.kind = false from by simpa [hk3] using hst] at hal
  have HAl := Lib.hid hal
  clear hal
  rw [hk3] at k0
  go_wp2_with fail
  refine wp_region_noPanic ?_
  refine wp_region_held_drew (S := fun w' => w'.heap[w.heap.size]? = some (.cells #[.int .i64 k.kind, .int .i64 k.n, .string k.s, .int .u64 (k.label : Int)] 26 (0, 0)) ∧ w'.heap[w.heap.size + 1]? = some (.cells #[.int .i64 v.kind, .int .i64 v.n, .string v.s, .int .u64 (v.label : Int)] 26 (0, 0)) ∧ w'.heap[rb]? = some (.cells #[.int .u64 (T.l : Int), fv, .slice AS T.S.length cs] 75 (0, 0))) (by kernel_rfl) (⟨U0.out, U1.out, U3.out⟩) (fun hHeld => ?_)
  refine tk 0 14 (.pointer (some ⟨w.heap.size, 0, none⟩)) hHeld ?_; simp only [Act.put, zq1, zq2, zq3]
  refine tk 1 15 (.int .i64 3) hHeld ?_ (hy := Or.inl ⟨by rfl, fun w' hS => (by obtain ⟨s0, s1, s2⟩ := hS; have q0 := cell_of_blk (i := 0) s0 rfl; rw [hk3] at q0; go_simp)⟩); simp only [Act.put, zq1, zq2, zq3]
  refine tk 2 16 (.bool true) hHeld ?_; simp only [Act.put, zq1, zq2, zq3]
  refine tk 3 17 (.bool true) hHeld ?_; simp only [Act.put, zq1, zq2, zq3]
  refine tk 4 18 (.pointer (some ⟨rb, 0, none⟩)) hHeld ?_; simp only [Act.put, zq1, zq2, zq3]
  refine tk 5 19 (.pointer (some ⟨rb, 0, none⟩)) hHeld ?_; simp only [Act.put, zq1, zq2, zq3]
  refine tk 6 20 (.pointer (some ⟨rb, 2, none⟩)) hHeld ?_; simp only [Act.put, zq1, zq2, zq3]
  refine tk 7 21 (.slice AS T.S.length cs) hHeld ?_ (hy := Or.inl ⟨by rfl, fun w' hS => (by obtain ⟨s0, s1, s2⟩ := hS; have q0 := cell_of_blk (i := 2) s2 rfl; go_simp)⟩); simp only [Act.put, zq1, zq2, zq3]
  refine tk 8 22 (.pointer (some ⟨w.heap.size, 2, none⟩)) hHeld ?_; simp only [Act.put, zq1, zq2, zq3]
  refine tk 9 23 (.string k.s) hHeld ?_ (hy := Or.inl ⟨by rfl, fun w' hS => (by obtain ⟨s0, s1, s2⟩ := hS; have q0 := cell_of_blk (i := 2) s0 rfl; go_simp)⟩); simp only [Act.put, zq1, zq2, zq3]
  refine tk 10 24 (.pointer (some ⟨w.heap.size + 1, 0, none⟩)) hHeld ?_; simp only [Act.put, zq1, zq2, zq3]
  refine tk 11 25 (.int .i64 v.kind) hHeld ?_ (hy := Or.inl ⟨by rfl, fun w' hS => (by obtain ⟨s0, s1, s2⟩ := hS; have q0 := cell_of_blk (i := 0) s1 rfl; go_simp)⟩); simp only [Act.put, zq1, zq2, zq3]
  refine rd 12 fun K hK => ?_
  go_simp
  refine (HAl.out _ HB1.out.drew).mono ?_
  rintro e w2 ⟨rfl, hb2⟩
  have V0 := Lib.hid (below_blk hb2 (blk_drew U0.out))
  have V1 := Lib.hid (below_blk hb2 (blk_drew U1.out))
  have V3 := Lib.hid (below_blk hb2 (blk_drew U3.out))
  have HB2 := Lib.hid (HB1.out.drew.trans (hb2.mono HB1.out.size))
  clear hb2
  refine hK.out _ _ ⟨V0.out, V1.out, V3.out⟩ (fun hHeld => ?_)
  clear hK K
  try simp only [Act.put, zq1, zq2, zq3]
  refine tk 13 27 (.bool true) hHeld ?_; simp only [Act.put, zq1, zq2, zq3]
  refine tk 14 28 (.bool true) hHeld ?_; simp only [Act.put, zq1, zq2, zq3]
  refine wpAnyH_done (by kernel_rfl) ?_ _
  refine NoPanic.normal ?_
  go_wp2_with fail
  go_ret
  exact ⟨rfl, RTabTo.same H0.out HB2.out⟩
 ·simp [hk3] at hst
set_option maxRecDepth 100000 in
theorem rput_set {w : World} {B rb : Nat} {T : TabS} {fp : List Nat} (h : RTabIn w B rb T fp) (ok : TabOk T) {ctx : Nat} {k v : VV} (hc : ctx < 18446744073709551616) (kk : VOk k) (kv : VOk v) (hb : (T.F.length + T.S.length + 1) * 80 ≤ 140737488355328) (hik : isKey k = true) {i : Nat} {f : Fd} (hfi : T.F[i]? = some f) (hpi' : findI T.F k = (i : Int)) (hfl : flowsB (ctx ||| k.label) f.2.label = true) (hst : (decide (k.kind = 3) && !allowsB T.S k.s v.kind) = false) :
  Calls Tryz.prog 60 #[.pointer (some ⟨rb, 0, none⟩), .int .u64 (ctx : Int), .agg (vvCells k), .agg (vvCells v)] w fun e w' => e = .returned (.int .i64 0) ∧ RTabTo w B rb { T with F := T.F.set i (f.1, withV v (ctx ||| k.label)) } fp w' := by
 obtain ⟨hbF, hbS, har1, har2⟩ := room80 hb
 have AR1 := Lib.hid har1
 have AR2 := Lib.hid har2
 clear har1 har2 hb
 obtain ⟨⟨fv, sv, hfp, h1, h2, h3⟩, hbase⟩ := h
 have h0 : RTabIn w B rb T fp := ⟨⟨fv, sv, hfp, h1, h2, h3⟩, hbase⟩
 obtain ⟨ad, cf, ct1, hab, hfd, hfz, hto⟩ := rtab_elem h0 hfi
 obtain rfl : fv = .slice (some ad) T.F.length cf := by have := (cell_of_blk (i := 1) h1 rfl).symm.trans ct1; simpa using this
 have hil : (i : Int) < (T.F.length : Int) := by have := (List.getElem?_eq_some_iff.1 hfi).1; omega
 have hi0 : (0 : Int) ≤ i := by omega
 have hin : ¬ (i : Int) < 0 := by omega
 have hab' : (ad.add (i * 8)).block < w.heap.size := by rw [block_add']; exact hab
 have hfw := fun W => rflows_any (ctx ||| k.label) f.2.label W (Nat.or_lt_two_pow (n := 64) hc kk.label) (ok.vOk f (List.mem_of_getElem? hfi)).label
 rw [hfl] at hfw
 have HFl := Lib.hid hfw
 have HFd := Lib.hid hfd
 have HTo := Lib.hid hto
 have HFz := Lib.hid hfz
 clear hfw hfd hto ct1 hfz
 obtain ⟨AS, cs, rfl, hcs1, hcs2, hAS, hRS⟩ := own_reads h3
 have hkeys := fun W => rkey_any k W
 rw [hik] at hkeys
 have HK := Lib.hid hkeys
 have H0 := Lib.hid h0
 have H1 := Lib.hid h1
 have H2 := Lib.hid h2
 have H3 := Lib.hid h3
 have hal := fun (W : World) (hW : Below w.heap.size w W) => allows_any T.S AS cs k.s v.kind W ((hRS.below hW).mono' hW.size) hbS kv.kind
 have HOK := Lib.hid ok
 have hjl : ctx ||| k.label < 18446744073709551616 := Nat.or_lt_two_pow (n := 64) hc kk.label
 have hw := fun W => rwith_any v (ctx ||| k.label) W kv.label hjl
 have hj := fun W => rjoin_any ctx k.label W hc kk.label
 have hf := (fun (W : World) (hW : Below w.heap.size w W) => rfind_any (h0.kept (Fr.of_below hW []) (by simp)) k hbF)
 generalize hpi : findI T.F k = pi at hf
 have HF := Lib.hid hf
 have HB0 := Lib.hid ((((Below.refl w.heap.size w).alloc (Nat.le_refl _) (.cells (vvCells k) 26)).alloc (by simp) (.cells (vvCells v) 26)))
 generalize hR : withV v (ctx ||| k.label) = R at hw ⊢
 generalize hcj : ctx ||| k.label = cj at hj hw hjl
 have HW := Lib.hid hw
 have HJ := Lib.hid hj
 have HP := Lib.hid hfp
 have HBase := Lib.hid hbase
 have HAL := Lib.hid hal
 have htlt := blk_lt h1
 clear hkeys h0 h1 h2 h3 hRS ok hw hj hfp hbase hf hal
 unfold vvCells at *
 go_enter Tryz.func60, Tryz.ntmps60
 go_wp2_with fail
 refine (HK.out _).mono ?_
 rintro e w1 ⟨rfl, hb1⟩
 have HB1 := Lib.hid (HB0.out.trans (hb1.mono (by simp; omega)))
 have U0 := Lib.hid (below_blk hb1 (blk_alloc (heap_alloc_new w _) _))
 have U1 := Lib.hid (below_blk hb1 (heap_new_at _ _ (w.heap.size + 1) (by simp)))
 have U3 := Lib.hid (below_blk HB1.out H1.out)
 have k0 := cell_of_blk (i := 0) U0.out rfl
 have l0 := blk_lt U0.out
 clear hb1 HB0
 by_cases hk3 : k.kind = 3
 ·have hal := HAL.out
  rw [show allowsB T.S k.s v.kind = true from by simpa [hk3] using hst] at hal
  have HAl := Lib.hid hal
  clear hal
  rw [hk3] at k0
  go_wp2_with fail
  refine wp_region_noPanic ?_
  refine wp_region_held_drew (S := fun w' => w'.heap[w.heap.size]? = some (.cells #[.int .i64 k.kind, .int .i64 k.n, .string k.s, .int .u64 (k.label : Int)] 26 (0, 0)) ∧ w'.heap[w.heap.size + 1]? = some (.cells #[.int .i64 v.kind, .int .i64 v.n, .string v.s, .int .u64 (v.label : Int)] 26 (0, 0)) ∧ w'.heap[rb]? = some (.cells #[.int .u64 (T.l : Int), .slice (some ad) T.F.length cf, .slice AS T.S.length cs] 75 (0, 0))) (by kernel_rfl) (⟨U0.out, U1.out, U3.out⟩) (fun hHeld => ?_)
  refine tk 0 14 (.pointer (some ⟨w.heap.size, 0, none⟩)) hHeld ?_; simp only [Act.put, zq1, zq2, zq3]
  refine tk 1 15 (.int .i64 3) hHeld ?_ (hy := Or.inl ⟨by rfl, fun w' hS => (by obtain ⟨s0, s1, s2⟩ := hS; have q0 := cell_of_blk (i := 0) s0 rfl; rw [hk3] at q0; go_simp)⟩); simp only [Act.put, zq1, zq2, zq3]
  refine tk 2 16 (.bool true) hHeld ?_; simp only [Act.put, zq1, zq2, zq3]
  refine tk 3 17 (.bool true) hHeld ?_; simp only [Act.put, zq1, zq2, zq3]
  refine tk 4 18 (.pointer (some ⟨rb, 0, none⟩)) hHeld ?_; simp only [Act.put, zq1, zq2, zq3]
  refine tk 5 19 (.pointer (some ⟨rb, 0, none⟩)) hHeld ?_; simp only [Act.put, zq1, zq2, zq3]
  refine tk 6 20 (.pointer (some ⟨rb, 2, none⟩)) hHeld ?_; simp only [Act.put, zq1, zq2, zq3]
  refine tk 7 21 (.slice AS T.S.length cs) hHeld ?_ (hy := Or.inl ⟨by rfl, fun w' hS => (by obtain ⟨s0, s1, s2⟩ := hS; have q0 := cell_of_blk (i := 2) s2 rfl; go_simp)⟩); simp only [Act.put, zq1, zq2, zq3]
  refine tk 8 22 (.pointer (some ⟨w.heap.size, 2, none⟩)) hHeld ?_; simp only [Act.put, zq1, zq2, zq3]
  refine tk 9 23 (.string k.s) hHeld ?_ (hy := Or.inl ⟨by rfl, fun w' hS => (by obtain ⟨s0, s1, s2⟩ := hS; have q0 := cell_of_blk (i := 2) s0 rfl; go_simp)⟩); simp only [Act.put, zq1, zq2, zq3]
  refine tk 10 24 (.pointer (some ⟨w.heap.size + 1, 0, none⟩)) hHeld ?_; simp only [Act.put, zq1, zq2, zq3]
  refine tk 11 25 (.int .i64 v.kind) hHeld ?_ (hy := Or.inl ⟨by rfl, fun w' hS => (by obtain ⟨s0, s1, s2⟩ := hS; have q0 := cell_of_blk (i := 0) s1 rfl; go_simp)⟩); simp only [Act.put, zq1, zq2, zq3]
  refine rd 12 fun K hK => ?_
  go_simp
  refine (HAl.out _ HB1.out.drew).mono ?_
  rintro e w2 ⟨rfl, hb2⟩
  have V0 := Lib.hid (below_blk hb2 (blk_drew U0.out))
  have V1 := Lib.hid (below_blk hb2 (blk_drew U1.out))
  have V3 := Lib.hid (below_blk hb2 (blk_drew U3.out))
  have HB2 := Lib.hid (HB1.out.drew.trans (hb2.mono HB1.out.size))
  clear hb2
  refine hK.out _ _ ⟨V0.out, V1.out, V3.out⟩ (fun hHeld => ?_)
  clear hK K
  try simp only [Act.put, zq1, zq2, zq3]
  refine tk 13 27 (.bool false) hHeld ?_; simp only [Act.put, zq1, zq2, zq3]
  refine tk 14 28 (.bool false) hHeld ?_; simp only [Act.put, zq1, zq2, zq3]
  refine wpAnyH_done (by kernel_rfl) ?_ _
  refine NoPanic.normal ?_
  refine gen_then fun W5 hW5 => ?_
  have B5 := Lib.hid (show Below w.heap.size w W5 by rw [← hW5]; exact HB2.out)
  have A0 := Lib.hid (show W5.heap[w.heap.size]? = some (.cells #[.int .i64 k.kind, .int .i64 k.n, .string k.s, .int .u64 (k.label : Int)] 26 (0, 0)) by rw [← hW5]; exact V0.out)
  have A1 := Lib.hid (show W5.heap[w.heap.size + 1]? = some (.cells #[.int .i64 v.kind, .int .i64 v.n, .string v.s, .int .u64 (v.label : Int)] 26 (0, 0)) by rw [← hW5]; exact V1.out)
  clear hW5 k0 l0 U0 U1 U3 HB1 V0 V1 V3 HB2 hHeld hk3
  have k0 := cell_of_blk (i := 0) A0.out rfl
  have k1 := cell_of_blk (i := 1) A0.out rfl
  have k2 := cell_of_blk (i := 2) A0.out rfl
  have k3 := cell_of_blk (i := 3) A0.out rfl
  have v0 := cell_of_blk (i := 0) A1.out rfl
  have v1 := cell_of_blk (i := 1) A1.out rfl
  have v2 := cell_of_blk (i := 2) A1.out rfl
  have v3 := cell_of_blk (i := 3) A1.out rfl
  have l0 := blk_lt A0.out
  have l1 := blk_lt A1.out
  go_wp2_with fail
  refine (HJ.out _).mono ?_
  rintro e w6 ⟨rfl, rfl⟩
  go_wp2_with fail
  refine (HW.out _).mono ?_
  rintro e w6 ⟨rfl, hb6⟩
  have B6 := Lib.hid (B5.out.trans (hb6.mono B5.out.size))
  have C0 := Lib.hid (below_blk hb6 A0.out)
  have C1 := Lib.hid (below_blk hb6 A1.out)
  clear hb6 k0 k1 k2 k3 v0 v1 v2 v3 A0 A1 l0 l1
  have k0 := cell_of_blk (i := 0) C0.out rfl
  have k1 := cell_of_blk (i := 1) C0.out rfl
  have k2 := cell_of_blk (i := 2) C0.out rfl
  have k3 := cell_of_blk (i := 3) C0.out rfl
  have v0 := cell_of_blk (i := 0) C1.out rfl
  have v1 := cell_of_blk (i := 1) C1.out rfl
  have v2 := cell_of_blk (i := 2) C1.out rfl
  have v3 := cell_of_blk (i := 3) C1.out rfl
  have z0 := free_of_blk (i := 0) C1.out
  have z1 := free_of_blk (i := 1) C1.out
  have z2 := free_of_blk (i := 2) C1.out
  have z3 := free_of_blk (i := 3) C1.out
  have l0 := blk_lt C0.out
  have l1 := blk_lt C1.out
  have hb7 : Below w.heap.size w ((((w6.setCell ⟨w.heap.size + 1, 0, none⟩ (.int .i64 R.kind)).setCell ⟨w.heap.size + 1, 1, none⟩ (.int .i64 R.n)).setCell ⟨w.heap.size + 1, 2, none⟩ (.string R.s)).setCell ⟨w.heap.size + 1, 3, none⟩ (.int .u64 (R.label : Int))) := (((B6.out.setCell (by simp) _).setCell (by simp) _).setCell (by simp) _).setCell (by simp) _
  have F7 := Lib.hid (HF.out _ hb7)
  have B7 := Lib.hid hb7
  clear hb7
  go_wp2_with fail
  refine F7.out.mono ?_
  rintro e w7 ⟨rfl, hb8⟩
  have B8 := Lib.hid (B7.out.trans (hb8.mono B7.out.size))
  have ne0 : w.heap.size ≠ w.heap.size + 1 := by omega
  have G0 := Lib.hid (below_blk hb8 (blk_far (blk_far (blk_far (blk_far C0.out ne0 _) ne0 _) ne0 _) ne0 _))
  have G1 := Lib.hid (show w7.heap[w.heap.size + 1]? = some (.cells #[.int .i64 R.kind, .int .i64 R.n, .string R.s, .int .u64 (R.label : Int)] 26 (0, 0)) from below_blk hb8 (blk_set (i := 3) (blk_set (i := 2) (blk_set (i := 1) (blk_set (i := 0) C1.out _) _) _) _))
  have G3 := Lib.hid (below_blk B8.out H1.out)
  clear hb8 k0 k1 k2 k3 v0 v1 v2 v3 z0 z1 z2 z3 l0 l1 C0 C1 F7 B7 B6 B5 ne0
  obtain rfl : pi = (i : Int) := hpi.symm.trans hpi'
  obtain ⟨_, _, _, _, _, _, _, x7⟩ := HFd.out.below B8.out hab'
  have t1 := cell_of_blk (i := 1) G3.out rfl
  have l3 := blk_lt G3.out
  go_wp2_with fail
  have F9 := HFl.out w7
  rw [hcj] at F9
  refine F9.mono ?_
  rintro e w9 ⟨rfl, rfl⟩
  have v0 := cell_of_blk (i := 0) G1.out rfl
  have v1 := cell_of_blk (i := 1) G1.out rfl
  have v2 := cell_of_blk (i := 2) G1.out rfl
  have v3 := cell_of_blk (i := 3) G1.out rfl
  have z0 : w7.frozen? ⟨(ad.add (i * 8)).block, (ad.add (i * 8)).off + 4, none⟩ = false := (below_frozen B8.out (a := ⟨(ad.add (i * 8)).block, _, none⟩) hab').trans (HFz.out _)
  have z1 : w7.frozen? ⟨(ad.add (i * 8)).block, (ad.add (i * 8)).off + 5, none⟩ = false := (below_frozen B8.out (a := ⟨(ad.add (i * 8)).block, _, none⟩) hab').trans (HFz.out _)
  have z2 : w7.frozen? ⟨(ad.add (i * 8)).block, (ad.add (i * 8)).off + 6, none⟩ = false := (below_frozen B8.out (a := ⟨(ad.add (i * 8)).block, _, none⟩) hab').trans (HFz.out _)
  have z3 : w7.frozen? ⟨(ad.add (i * 8)).block, (ad.add (i * 8)).off + 7, none⟩ = false := (below_frozen B8.out (a := ⟨(ad.add (i * 8)).block, _, none⟩) hab').trans (HFz.out _)
  have l1 := blk_lt G1.out
  have l9 := Nat.lt_of_lt_of_le hab' B8.out.size
  go_wp2_with fail
  go_region
  go_wp2_with fail
  go_ret
  exact ⟨rfl, (HTo.out w7 R B8.out).drew⟩
 ·have hkb : (k.kind == 3) = false := by simpa using hk3
  go_wp2_with fail
  go_quiet (fail)
  refine gen_then fun W5 hW5 => ?_
  have B5 := Lib.hid (show Below w.heap.size w W5 by rw [← hW5]; exact below_drewN HB1.out _)
  have A0 := Lib.hid (show W5.heap[w.heap.size]? = some (.cells #[.int .i64 k.kind, .int .i64 k.n, .string k.s, .int .u64 (k.label : Int)] 26 (0, 0)) by rw [← hW5]; exact U0.out)
  have A1 := Lib.hid (show W5.heap[w.heap.size + 1]? = some (.cells #[.int .i64 v.kind, .int .i64 v.n, .string v.s, .int .u64 (v.label : Int)] 26 (0, 0)) by rw [← hW5]; exact U1.out)
  clear hW5 k0 l0 U0 U1 U3 HB1
  have k0 := cell_of_blk (i := 0) A0.out rfl
  have k1 := cell_of_blk (i := 1) A0.out rfl
  have k2 := cell_of_blk (i := 2) A0.out rfl
  have k3 := cell_of_blk (i := 3) A0.out rfl
  have v0 := cell_of_blk (i := 0) A1.out rfl
  have v1 := cell_of_blk (i := 1) A1.out rfl
  have v2 := cell_of_blk (i := 2) A1.out rfl
  have v3 := cell_of_blk (i := 3) A1.out rfl
  have l0 := blk_lt A0.out
  have l1 := blk_lt A1.out
  go_wp2_with fail
  refine (HJ.out _).mono ?_
  rintro e w6 ⟨rfl, rfl⟩
  go_wp2_with fail
  refine (HW.out _).mono ?_
  rintro e w6 ⟨rfl, hb6⟩
  have B6 := Lib.hid (B5.out.trans (hb6.mono B5.out.size))
  have C0 := Lib.hid (below_blk hb6 A0.out)
  have C1 := Lib.hid (below_blk hb6 A1.out)
  clear hb6 k0 k1 k2 k3 v0 v1 v2 v3 A0 A1 l0 l1
  have k0 := cell_of_blk (i := 0) C0.out rfl
  have k1 := cell_of_blk (i := 1) C0.out rfl
  have k2 := cell_of_blk (i := 2) C0.out rfl
  have k3 := cell_of_blk (i := 3) C0.out rfl
  have v0 := cell_of_blk (i := 0) C1.out rfl
  have v1 := cell_of_blk (i := 1) C1.out rfl
  have v2 := cell_of_blk (i := 2) C1.out rfl
  have v3 := cell_of_blk (i := 3) C1.out rfl
  have z0 := free_of_blk (i := 0) C1.out
  have z1 := free_of_blk (i := 1) C1.out
  have z2 := free_of_blk (i := 2) C1.out
  have z3 := free_of_blk (i := 3) C1.out
  have l0 := blk_lt C0.out
  have l1 := blk_lt C1.out
  have hb7 : Below w.heap.size w ((((w6.setCell ⟨w.heap.size + 1, 0, none⟩ (.int .i64 R.kind)).setCell ⟨w.heap.size + 1, 1, none⟩ (.int .i64 R.n)).setCell ⟨w.heap.size + 1, 2, none⟩ (.string R.s)).setCell ⟨w.heap.size + 1, 3, none⟩ (.int .u64 (R.label : Int))) := (((B6.out.setCell (by simp) _).setCell (by simp) _).setCell (by simp) _).setCell (by simp) _
  have F7 := Lib.hid (HF.out _ hb7)
  have B7 := Lib.hid hb7
  clear hb7
  go_wp2_with fail
  refine F7.out.mono ?_
  rintro e w7 ⟨rfl, hb8⟩
  have B8 := Lib.hid (B7.out.trans (hb8.mono B7.out.size))
  have ne0 : w.heap.size ≠ w.heap.size + 1 := by omega
  have G0 := Lib.hid (below_blk hb8 (blk_far (blk_far (blk_far (blk_far C0.out ne0 _) ne0 _) ne0 _) ne0 _))
  have G1 := Lib.hid (show w7.heap[w.heap.size + 1]? = some (.cells #[.int .i64 R.kind, .int .i64 R.n, .string R.s, .int .u64 (R.label : Int)] 26 (0, 0)) from below_blk hb8 (blk_set (i := 3) (blk_set (i := 2) (blk_set (i := 1) (blk_set (i := 0) C1.out _) _) _) _))
  have G3 := Lib.hid (below_blk B8.out H1.out)
  clear hb8 k0 k1 k2 k3 v0 v1 v2 v3 z0 z1 z2 z3 l0 l1 C0 C1 F7 B7 B6 B5 ne0
  obtain rfl : pi = (i : Int) := hpi.symm.trans hpi'
  obtain ⟨_, _, _, _, _, _, _, x7⟩ := HFd.out.below B8.out hab'
  have t1 := cell_of_blk (i := 1) G3.out rfl
  have l3 := blk_lt G3.out
  go_wp2_with fail
  have F9 := HFl.out w7
  rw [hcj] at F9
  refine F9.mono ?_
  rintro e w9 ⟨rfl, rfl⟩
  have v0 := cell_of_blk (i := 0) G1.out rfl
  have v1 := cell_of_blk (i := 1) G1.out rfl
  have v2 := cell_of_blk (i := 2) G1.out rfl
  have v3 := cell_of_blk (i := 3) G1.out rfl
  have z0 : w7.frozen? ⟨(ad.add (i * 8)).block, (ad.add (i * 8)).off + 4, none⟩ = false := (below_frozen B8.out (a := ⟨(ad.add (i * 8)).block, _, none⟩) hab').trans (HFz.out _)
  have z1 : w7.frozen? ⟨(ad.add (i * 8)).block, (ad.add (i * 8)).off + 5, none⟩ = false := (below_frozen B8.out (a := ⟨(ad.add (i * 8)).block, _, none⟩) hab').trans (HFz.out _)
  have z2 : w7.frozen? ⟨(ad.add (i * 8)).block, (ad.add (i * 8)).off + 6, none⟩ = false := (below_frozen B8.out (a := ⟨(ad.add (i * 8)).block, _, none⟩) hab').trans (HFz.out _)
  have z3 : w7.frozen? ⟨(ad.add (i * 8)).block, (ad.add (i * 8)).off + 7, none⟩ = false := (below_frozen B8.out (a := ⟨(ad.add (i * 8)).block, _, none⟩) hab').trans (HFz.out _)
  have l1 := blk_lt G1.out
  have l9 := Nat.lt_of_lt_of_le hab' B8.out.size
  go_wp2_with fail
  go_region
  go_wp2_with fail
  go_ret
  exact ⟨rfl, (HTo.out w7 R B8.out).drew⟩

set_option maxRecDepth 100000 in
theorem rput_no {w : World} {B rb : Nat} {T : TabS} {fp : List Nat} (h : RTabIn w B rb T fp) (ok : TabOk T) {ctx : Nat} {k v : VV} (hc : ctx < 18446744073709551616) (kk : VOk k) (kv : VOk v) (hb : (T.F.length + T.S.length + 1) * 80 ≤ 140737488355328) (hik : isKey k = true) {i : Nat} {f : Fd} (hfi : T.F[i]? = some f) (hpi' : findI T.F k = (i : Int)) (hfl : flowsB (ctx ||| k.label) f.2.label = false) (hst : (decide (k.kind = 3) && !allowsB T.S k.s v.kind) = false) :
  Calls Tryz.prog 60 #[.pointer (some ⟨rb, 0, none⟩), .int .u64 (ctx : Int), .agg (vvCells k), .agg (vvCells v)] w fun e w' => e = .returned (.int .i64 40) ∧ RTabTo w B rb T fp w' := by
 obtain ⟨hbF, hbS, har1, har2⟩ := room80 hb
 have AR1 := Lib.hid har1
 have AR2 := Lib.hid har2
 clear har1 har2 hb
 obtain ⟨⟨fv, sv, hfp, h1, h2, h3⟩, hbase⟩ := h
 have h0 : RTabIn w B rb T fp := ⟨⟨fv, sv, hfp, h1, h2, h3⟩, hbase⟩
 obtain ⟨ad, cf, ct1, hab, hfd, hfz, hto⟩ := rtab_elem h0 hfi
 obtain rfl : fv = .slice (some ad) T.F.length cf := by have := (cell_of_blk (i := 1) h1 rfl).symm.trans ct1; simpa using this
 have hil : (i : Int) < (T.F.length : Int) := by have := (List.getElem?_eq_some_iff.1 hfi).1; omega
 have hi0 : (0 : Int) ≤ i := by omega
 have hin : ¬ (i : Int) < 0 := by omega
 have hab' : (ad.add (i * 8)).block < w.heap.size := by rw [block_add']; exact hab
 have hfw := fun W => rflows_any (ctx ||| k.label) f.2.label W (Nat.or_lt_two_pow (n := 64) hc kk.label) (ok.vOk f (List.mem_of_getElem? hfi)).label
 rw [hfl] at hfw
 have HFl := Lib.hid hfw
 have HFd := Lib.hid hfd
 have HTo := Lib.hid hto
 have HFz := Lib.hid hfz
 clear hfw hfd hto ct1 hfz
 obtain ⟨AS, cs, rfl, hcs1, hcs2, hAS, hRS⟩ := own_reads h3
 have hkeys := fun W => rkey_any k W
 rw [hik] at hkeys
 have HK := Lib.hid hkeys
 have H0 := Lib.hid h0
 have H1 := Lib.hid h1
 have H2 := Lib.hid h2
 have H3 := Lib.hid h3
 have hal := fun (W : World) (hW : Below w.heap.size w W) => allows_any T.S AS cs k.s v.kind W ((hRS.below hW).mono' hW.size) hbS kv.kind
 have HOK := Lib.hid ok
 have hjl : ctx ||| k.label < 18446744073709551616 := Nat.or_lt_two_pow (n := 64) hc kk.label
 have hw := fun W => rwith_any v (ctx ||| k.label) W kv.label hjl
 have hj := fun W => rjoin_any ctx k.label W hc kk.label
 have hf := (fun (W : World) (hW : Below w.heap.size w W) => rfind_any (h0.kept (Fr.of_below hW []) (by simp)) k hbF)
 generalize hpi : findI T.F k = pi at hf
 have HF := Lib.hid hf
 have HB0 := Lib.hid ((((Below.refl w.heap.size w).alloc (Nat.le_refl _) (.cells (vvCells k) 26)).alloc (by simp) (.cells (vvCells v) 26)))
 generalize hR : withV v (ctx ||| k.label) = R at hw ⊢
 generalize hcj : ctx ||| k.label = cj at hj hw hjl
 have HW := Lib.hid hw
 have HJ := Lib.hid hj
 have HP := Lib.hid hfp
 have HBase := Lib.hid hbase
 have HAL := Lib.hid hal
 have htlt := blk_lt h1
 clear hkeys h0 h1 h2 h3 hRS ok hw hj hfp hbase hf hal
 unfold vvCells at *
 go_enter Tryz.func60, Tryz.ntmps60
 go_wp2_with fail
 refine (HK.out _).mono ?_
 rintro e w1 ⟨rfl, hb1⟩
 have HB1 := Lib.hid (HB0.out.trans (hb1.mono (by simp; omega)))
 have U0 := Lib.hid (below_blk hb1 (blk_alloc (heap_alloc_new w _) _))
 have U1 := Lib.hid (below_blk hb1 (heap_new_at _ _ (w.heap.size + 1) (by simp)))
 have U3 := Lib.hid (below_blk HB1.out H1.out)
 have k0 := cell_of_blk (i := 0) U0.out rfl
 have l0 := blk_lt U0.out
 clear hb1 HB0
 by_cases hk3 : k.kind = 3
 ·have hal := HAL.out
  rw [show allowsB T.S k.s v.kind = true from by simpa [hk3] using hst] at hal
  have HAl := Lib.hid hal
  clear hal
  rw [hk3] at k0
  go_wp2_with fail
  refine wp_region_noPanic ?_
  refine wp_region_held_drew (S := fun w' => w'.heap[w.heap.size]? = some (.cells #[.int .i64 k.kind, .int .i64 k.n, .string k.s, .int .u64 (k.label : Int)] 26 (0, 0)) ∧ w'.heap[w.heap.size + 1]? = some (.cells #[.int .i64 v.kind, .int .i64 v.n, .string v.s, .int .u64 (v.label : Int)] 26 (0, 0)) ∧ w'.heap[rb]? = some (.cells #[.int .u64 (T.l : Int), .slice (some ad) T.F.length cf, .slice AS T.S.length cs] 75 (0, 0))) (by kernel_rfl) (⟨U0.out, U1.out, U3.out⟩) (fun hHeld => ?_)
  refine tk 0 14 (.pointer (some ⟨w.heap.size, 0, none⟩)) hHeld ?_; simp only [Act.put, zq1, zq2, zq3]
  refine tk 1 15 (.int .i64 3) hHeld ?_ (hy := Or.inl ⟨by rfl, fun w' hS => (by obtain ⟨s0, s1, s2⟩ := hS; have q0 := cell_of_blk (i := 0) s0 rfl; rw [hk3] at q0; go_simp)⟩); simp only [Act.put, zq1, zq2, zq3]
  refine tk 2 16 (.bool true) hHeld ?_; simp only [Act.put, zq1, zq2, zq3]
  refine tk 3 17 (.bool true) hHeld ?_; simp only [Act.put, zq1, zq2, zq3]
  refine tk 4 18 (.pointer (some ⟨rb, 0, none⟩)) hHeld ?_; simp only [Act.put, zq1, zq2, zq3]
  refine tk 5 19 (.pointer (some ⟨rb, 0, none⟩)) hHeld ?_; simp only [Act.put, zq1, zq2, zq3]
  refine tk 6 20 (.pointer (some ⟨rb, 2, none⟩)) hHeld ?_; simp only [Act.put, zq1, zq2, zq3]
  refine tk 7 21 (.slice AS T.S.length cs) hHeld ?_ (hy := Or.inl ⟨by rfl, fun w' hS => (by obtain ⟨s0, s1, s2⟩ := hS; have q0 := cell_of_blk (i := 2) s2 rfl; go_simp)⟩); simp only [Act.put, zq1, zq2, zq3]
  refine tk 8 22 (.pointer (some ⟨w.heap.size, 2, none⟩)) hHeld ?_; simp only [Act.put, zq1, zq2, zq3]
  refine tk 9 23 (.string k.s) hHeld ?_ (hy := Or.inl ⟨by rfl, fun w' hS => (by obtain ⟨s0, s1, s2⟩ := hS; have q0 := cell_of_blk (i := 2) s0 rfl; go_simp)⟩); simp only [Act.put, zq1, zq2, zq3]
  refine tk 10 24 (.pointer (some ⟨w.heap.size + 1, 0, none⟩)) hHeld ?_; simp only [Act.put, zq1, zq2, zq3]
  refine tk 11 25 (.int .i64 v.kind) hHeld ?_ (hy := Or.inl ⟨by rfl, fun w' hS => (by obtain ⟨s0, s1, s2⟩ := hS; have q0 := cell_of_blk (i := 0) s1 rfl; go_simp)⟩); simp only [Act.put, zq1, zq2, zq3]
  refine rd 12 fun K hK => ?_
  go_simp
  refine (HAl.out _ HB1.out.drew).mono ?_
  rintro e w2 ⟨rfl, hb2⟩
  have V0 := Lib.hid (below_blk hb2 (blk_drew U0.out))
  have V1 := Lib.hid (below_blk hb2 (blk_drew U1.out))
  have V3 := Lib.hid (below_blk hb2 (blk_drew U3.out))
  have HB2 := Lib.hid (HB1.out.drew.trans (hb2.mono HB1.out.size))
  clear hb2
  refine hK.out _ _ ⟨V0.out, V1.out, V3.out⟩ (fun hHeld => ?_)
  clear hK K
  try simp only [Act.put, zq1, zq2, zq3]
  refine tk 13 27 (.bool false) hHeld ?_; simp only [Act.put, zq1, zq2, zq3]
  refine tk 14 28 (.bool false) hHeld ?_; simp only [Act.put, zq1, zq2, zq3]
  refine wpAnyH_done (by kernel_rfl) ?_ _
  refine NoPanic.normal ?_
  refine gen_then fun W5 hW5 => ?_
  have B5 := Lib.hid (show Below w.heap.size w W5 by rw [← hW5]; exact HB2.out)
  have A0 := Lib.hid (show W5.heap[w.heap.size]? = some (.cells #[.int .i64 k.kind, .int .i64 k.n, .string k.s, .int .u64 (k.label : Int)] 26 (0, 0)) by rw [← hW5]; exact V0.out)
  have A1 := Lib.hid (show W5.heap[w.heap.size + 1]? = some (.cells #[.int .i64 v.kind, .int .i64 v.n, .string v.s, .int .u64 (v.label : Int)] 26 (0, 0)) by rw [← hW5]; exact V1.out)
  clear hW5 k0 l0 U0 U1 U3 HB1 V0 V1 V3 HB2 hHeld hk3
  have k0 := cell_of_blk (i := 0) A0.out rfl
  have k1 := cell_of_blk (i := 1) A0.out rfl
  have k2 := cell_of_blk (i := 2) A0.out rfl
  have k3 := cell_of_blk (i := 3) A0.out rfl
  have v0 := cell_of_blk (i := 0) A1.out rfl
  have v1 := cell_of_blk (i := 1) A1.out rfl
  have v2 := cell_of_blk (i := 2) A1.out rfl
  have v3 := cell_of_blk (i := 3) A1.out rfl
  have l0 := blk_lt A0.out
  have l1 := blk_lt A1.out
  go_wp2_with fail
  refine (HJ.out _).mono ?_
  rintro e w6 ⟨rfl, rfl⟩
  go_wp2_with fail
  refine (HW.out _).mono ?_
  rintro e w6 ⟨rfl, hb6⟩
  have B6 := Lib.hid (B5.out.trans (hb6.mono B5.out.size))
  have C0 := Lib.hid (below_blk hb6 A0.out)
  have C1 := Lib.hid (below_blk hb6 A1.out)
  clear hb6 k0 k1 k2 k3 v0 v1 v2 v3 A0 A1 l0 l1
  have k0 := cell_of_blk (i := 0) C0.out rfl
  have k1 := cell_of_blk (i := 1) C0.out rfl
  have k2 := cell_of_blk (i := 2) C0.out rfl
  have k3 := cell_of_blk (i := 3) C0.out rfl
  have v0 := cell_of_blk (i := 0) C1.out rfl
  have v1 := cell_of_blk (i := 1) C1.out rfl
  have v2 := cell_of_blk (i := 2) C1.out rfl
  have v3 := cell_of_blk (i := 3) C1.out rfl
  have z0 := free_of_blk (i := 0) C1.out
  have z1 := free_of_blk (i := 1) C1.out
  have z2 := free_of_blk (i := 2) C1.out
  have z3 := free_of_blk (i := 3) C1.out
  have l0 := blk_lt C0.out
  have l1 := blk_lt C1.out
  have hb7 : Below w.heap.size w ((((w6.setCell ⟨w.heap.size + 1, 0, none⟩ (.int .i64 R.kind)).setCell ⟨w.heap.size + 1, 1, none⟩ (.int .i64 R.n)).setCell ⟨w.heap.size + 1, 2, none⟩ (.string R.s)).setCell ⟨w.heap.size + 1, 3, none⟩ (.int .u64 (R.label : Int))) := (((B6.out.setCell (by simp) _).setCell (by simp) _).setCell (by simp) _).setCell (by simp) _
  have F7 := Lib.hid (HF.out _ hb7)
  have B7 := Lib.hid hb7
  clear hb7
  go_wp2_with fail
  refine F7.out.mono ?_
  rintro e w7 ⟨rfl, hb8⟩
  have B8 := Lib.hid (B7.out.trans (hb8.mono B7.out.size))
  have ne0 : w.heap.size ≠ w.heap.size + 1 := by omega
  have G0 := Lib.hid (below_blk hb8 (blk_far (blk_far (blk_far (blk_far C0.out ne0 _) ne0 _) ne0 _) ne0 _))
  have G1 := Lib.hid (show w7.heap[w.heap.size + 1]? = some (.cells #[.int .i64 R.kind, .int .i64 R.n, .string R.s, .int .u64 (R.label : Int)] 26 (0, 0)) from below_blk hb8 (blk_set (i := 3) (blk_set (i := 2) (blk_set (i := 1) (blk_set (i := 0) C1.out _) _) _) _))
  have G3 := Lib.hid (below_blk B8.out H1.out)
  clear hb8 k0 k1 k2 k3 v0 v1 v2 v3 z0 z1 z2 z3 l0 l1 C0 C1 F7 B7 B6 B5 ne0
  obtain rfl : pi = (i : Int) := hpi.symm.trans hpi'
  obtain ⟨_, _, _, _, _, _, _, x7⟩ := HFd.out.below B8.out hab'
  have t1 := cell_of_blk (i := 1) G3.out rfl
  have l3 := blk_lt G3.out
  go_wp2_with fail
  have F9 := HFl.out w7
  rw [hcj] at F9
  refine F9.mono ?_
  rintro e w9 ⟨rfl, rfl⟩
  go_wp2_with fail
  go_ret
  exact ⟨rfl, RTabTo.same H0.out B8.out⟩
 ·have hkb : (k.kind == 3) = false := by simpa using hk3
  go_wp2_with fail
  go_quiet (fail)
  refine gen_then fun W5 hW5 => ?_
  have B5 := Lib.hid (show Below w.heap.size w W5 by rw [← hW5]; exact below_drewN HB1.out _)
  have A0 := Lib.hid (show W5.heap[w.heap.size]? = some (.cells #[.int .i64 k.kind, .int .i64 k.n, .string k.s, .int .u64 (k.label : Int)] 26 (0, 0)) by rw [← hW5]; exact U0.out)
  have A1 := Lib.hid (show W5.heap[w.heap.size + 1]? = some (.cells #[.int .i64 v.kind, .int .i64 v.n, .string v.s, .int .u64 (v.label : Int)] 26 (0, 0)) by rw [← hW5]; exact U1.out)
  clear hW5 k0 l0 U0 U1 U3 HB1
  have k0 := cell_of_blk (i := 0) A0.out rfl
  have k1 := cell_of_blk (i := 1) A0.out rfl
  have k2 := cell_of_blk (i := 2) A0.out rfl
  have k3 := cell_of_blk (i := 3) A0.out rfl
  have v0 := cell_of_blk (i := 0) A1.out rfl
  have v1 := cell_of_blk (i := 1) A1.out rfl
  have v2 := cell_of_blk (i := 2) A1.out rfl
  have v3 := cell_of_blk (i := 3) A1.out rfl
  have l0 := blk_lt A0.out
  have l1 := blk_lt A1.out
  go_wp2_with fail
  refine (HJ.out _).mono ?_
  rintro e w6 ⟨rfl, rfl⟩
  go_wp2_with fail
  refine (HW.out _).mono ?_
  rintro e w6 ⟨rfl, hb6⟩
  have B6 := Lib.hid (B5.out.trans (hb6.mono B5.out.size))
  have C0 := Lib.hid (below_blk hb6 A0.out)
  have C1 := Lib.hid (below_blk hb6 A1.out)
  clear hb6 k0 k1 k2 k3 v0 v1 v2 v3 A0 A1 l0 l1
  have k0 := cell_of_blk (i := 0) C0.out rfl
  have k1 := cell_of_blk (i := 1) C0.out rfl
  have k2 := cell_of_blk (i := 2) C0.out rfl
  have k3 := cell_of_blk (i := 3) C0.out rfl
  have v0 := cell_of_blk (i := 0) C1.out rfl
  have v1 := cell_of_blk (i := 1) C1.out rfl
  have v2 := cell_of_blk (i := 2) C1.out rfl
  have v3 := cell_of_blk (i := 3) C1.out rfl
  have z0 := free_of_blk (i := 0) C1.out
  have z1 := free_of_blk (i := 1) C1.out
  have z2 := free_of_blk (i := 2) C1.out
  have z3 := free_of_blk (i := 3) C1.out
  have l0 := blk_lt C0.out
  have l1 := blk_lt C1.out
  have hb7 : Below w.heap.size w ((((w6.setCell ⟨w.heap.size + 1, 0, none⟩ (.int .i64 R.kind)).setCell ⟨w.heap.size + 1, 1, none⟩ (.int .i64 R.n)).setCell ⟨w.heap.size + 1, 2, none⟩ (.string R.s)).setCell ⟨w.heap.size + 1, 3, none⟩ (.int .u64 (R.label : Int))) := (((B6.out.setCell (by simp) _).setCell (by simp) _).setCell (by simp) _).setCell (by simp) _
  have F7 := Lib.hid (HF.out _ hb7)
  have B7 := Lib.hid hb7
  clear hb7
  go_wp2_with fail
  refine F7.out.mono ?_
  rintro e w7 ⟨rfl, hb8⟩
  have B8 := Lib.hid (B7.out.trans (hb8.mono B7.out.size))
  have ne0 : w.heap.size ≠ w.heap.size + 1 := by omega
  have G0 := Lib.hid (below_blk hb8 (blk_far (blk_far (blk_far (blk_far C0.out ne0 _) ne0 _) ne0 _) ne0 _))
  have G1 := Lib.hid (show w7.heap[w.heap.size + 1]? = some (.cells #[.int .i64 R.kind, .int .i64 R.n, .string R.s, .int .u64 (R.label : Int)] 26 (0, 0)) from below_blk hb8 (blk_set (i := 3) (blk_set (i := 2) (blk_set (i := 1) (blk_set (i := 0) C1.out _) _) _) _))
  have G3 := Lib.hid (below_blk B8.out H1.out)
  clear hb8 k0 k1 k2 k3 v0 v1 v2 v3 z0 z1 z2 z3 l0 l1 C0 C1 F7 B7 B6 B5 ne0
  obtain rfl : pi = (i : Int) := hpi.symm.trans hpi'
  obtain ⟨_, _, _, _, _, _, _, x7⟩ := HFd.out.below B8.out hab'
  have t1 := cell_of_blk (i := 1) G3.out rfl
  have l3 := blk_lt G3.out
  go_wp2_with fail
  have F9 := HFl.out w7
  rw [hcj] at F9
  refine F9.mono ?_
  rintro e w9 ⟨rfl, rfl⟩
  go_wp2_with fail
  go_ret
  exact ⟨rfl, RTabTo.same H0.out B8.out⟩
set_option maxRecDepth 100000 in
theorem rput_appno {w : World} {B rb : Nat} {T : TabS} {fp : List Nat} (h : RTabIn w B rb T fp) (ok : TabOk T) {ctx : Nat} {k v : VV} (hc : ctx < 18446744073709551616) (kk : VOk k) (kv : VOk v) (hb : (T.F.length + T.S.length + 1) * 80 ≤ 140737488355328) (hik : isKey k = true) (hpi' : findI T.F k = -1) (hfl : flowsB (ctx ||| k.label) T.l = false) (hst : (decide (k.kind = 3) && !allowsB T.S k.s v.kind) = false) :
  Calls Tryz.prog 60 #[.pointer (some ⟨rb, 0, none⟩), .int .u64 (ctx : Int), .agg (vvCells k), .agg (vvCells v)] w fun e w' => e = .returned (.int .i64 40) ∧ RTabTo w B rb T fp w' := by
 obtain ⟨hbF, hbS, har1, har2⟩ := room80 hb
 have AR1 := Lib.hid har1
 have AR2 := Lib.hid har2
 clear har1 har2 hb
 obtain ⟨⟨fv, sv, hfp, h1, h2, h3⟩, hbase⟩ := h
 have h0 : RTabIn w B rb T fp := ⟨⟨fv, sv, hfp, h1, h2, h3⟩, hbase⟩
 have hfw := fun W => rflows_any (ctx ||| k.label) T.l W (Nat.or_lt_two_pow (n := 64) hc kk.label) ok.l
 rw [hfl] at hfw
 have HFl := Lib.hid hfw
 clear hfw
 obtain ⟨AS, cs, rfl, hcs1, hcs2, hAS, hRS⟩ := own_reads h3
 have hkeys := fun W => rkey_any k W
 rw [hik] at hkeys
 have HK := Lib.hid hkeys
 have H0 := Lib.hid h0
 have H1 := Lib.hid h1
 have H2 := Lib.hid h2
 have H3 := Lib.hid h3
 have hal := fun (W : World) (hW : Below w.heap.size w W) => allows_any T.S AS cs k.s v.kind W ((hRS.below hW).mono' hW.size) hbS kv.kind
 have HOK := Lib.hid ok
 have hjl : ctx ||| k.label < 18446744073709551616 := Nat.or_lt_two_pow (n := 64) hc kk.label
 have hw := fun W => rwith_any v (ctx ||| k.label) W kv.label hjl
 have hj := fun W => rjoin_any ctx k.label W hc kk.label
 have hf := (fun (W : World) (hW : Below w.heap.size w W) => rfind_any (h0.kept (Fr.of_below hW []) (by simp)) k hbF)
 generalize hpi : findI T.F k = pi at hf
 have HF := Lib.hid hf
 have HB0 := Lib.hid ((((Below.refl w.heap.size w).alloc (Nat.le_refl _) (.cells (vvCells k) 26)).alloc (by simp) (.cells (vvCells v) 26)))
 generalize hR : withV v (ctx ||| k.label) = R at hw ⊢
 generalize hcj : ctx ||| k.label = cj at hj hw hjl
 have HW := Lib.hid hw
 have HJ := Lib.hid hj
 have HP := Lib.hid hfp
 have HBase := Lib.hid hbase
 have HAL := Lib.hid hal
 have htlt := blk_lt h1
 clear hkeys h0 h1 h2 h3 hRS ok hw hj hfp hbase hf hal
 unfold vvCells at *
 go_enter Tryz.func60, Tryz.ntmps60
 go_wp2_with fail
 refine (HK.out _).mono ?_
 rintro e w1 ⟨rfl, hb1⟩
 have HB1 := Lib.hid (HB0.out.trans (hb1.mono (by simp; omega)))
 have U0 := Lib.hid (below_blk hb1 (blk_alloc (heap_alloc_new w _) _))
 have U1 := Lib.hid (below_blk hb1 (heap_new_at _ _ (w.heap.size + 1) (by simp)))
 have U3 := Lib.hid (below_blk HB1.out H1.out)
 have k0 := cell_of_blk (i := 0) U0.out rfl
 have l0 := blk_lt U0.out
 clear hb1 HB0
 by_cases hk3 : k.kind = 3
 ·have hal := HAL.out
  rw [show allowsB T.S k.s v.kind = true from by simpa [hk3] using hst] at hal
  have HAl := Lib.hid hal
  clear hal
  rw [hk3] at k0
  go_wp2_with fail
  refine wp_region_noPanic ?_
  refine wp_region_held_drew (S := fun w' => w'.heap[w.heap.size]? = some (.cells #[.int .i64 k.kind, .int .i64 k.n, .string k.s, .int .u64 (k.label : Int)] 26 (0, 0)) ∧ w'.heap[w.heap.size + 1]? = some (.cells #[.int .i64 v.kind, .int .i64 v.n, .string v.s, .int .u64 (v.label : Int)] 26 (0, 0)) ∧ w'.heap[rb]? = some (.cells #[.int .u64 (T.l : Int), fv, .slice AS T.S.length cs] 75 (0, 0))) (by kernel_rfl) (⟨U0.out, U1.out, U3.out⟩) (fun hHeld => ?_)
  refine tk 0 14 (.pointer (some ⟨w.heap.size, 0, none⟩)) hHeld ?_; simp only [Act.put, zq1, zq2, zq3]
  refine tk 1 15 (.int .i64 3) hHeld ?_ (hy := Or.inl ⟨by rfl, fun w' hS => (by obtain ⟨s0, s1, s2⟩ := hS; have q0 := cell_of_blk (i := 0) s0 rfl; rw [hk3] at q0; go_simp)⟩); simp only [Act.put, zq1, zq2, zq3]
  refine tk 2 16 (.bool true) hHeld ?_; simp only [Act.put, zq1, zq2, zq3]
  refine tk 3 17 (.bool true) hHeld ?_; simp only [Act.put, zq1, zq2, zq3]
  refine tk 4 18 (.pointer (some ⟨rb, 0, none⟩)) hHeld ?_; simp only [Act.put, zq1, zq2, zq3]
  refine tk 5 19 (.pointer (some ⟨rb, 0, none⟩)) hHeld ?_; simp only [Act.put, zq1, zq2, zq3]
  refine tk 6 20 (.pointer (some ⟨rb, 2, none⟩)) hHeld ?_; simp only [Act.put, zq1, zq2, zq3]
  refine tk 7 21 (.slice AS T.S.length cs) hHeld ?_ (hy := Or.inl ⟨by rfl, fun w' hS => (by obtain ⟨s0, s1, s2⟩ := hS; have q0 := cell_of_blk (i := 2) s2 rfl; go_simp)⟩); simp only [Act.put, zq1, zq2, zq3]
  refine tk 8 22 (.pointer (some ⟨w.heap.size, 2, none⟩)) hHeld ?_; simp only [Act.put, zq1, zq2, zq3]
  refine tk 9 23 (.string k.s) hHeld ?_ (hy := Or.inl ⟨by rfl, fun w' hS => (by obtain ⟨s0, s1, s2⟩ := hS; have q0 := cell_of_blk (i := 2) s0 rfl; go_simp)⟩); simp only [Act.put, zq1, zq2, zq3]
  refine tk 10 24 (.pointer (some ⟨w.heap.size + 1, 0, none⟩)) hHeld ?_; simp only [Act.put, zq1, zq2, zq3]
  refine tk 11 25 (.int .i64 v.kind) hHeld ?_ (hy := Or.inl ⟨by rfl, fun w' hS => (by obtain ⟨s0, s1, s2⟩ := hS; have q0 := cell_of_blk (i := 0) s1 rfl; go_simp)⟩); simp only [Act.put, zq1, zq2, zq3]
  refine rd 12 fun K hK => ?_
  go_simp
  refine (HAl.out _ HB1.out.drew).mono ?_
  rintro e w2 ⟨rfl, hb2⟩
  have V0 := Lib.hid (below_blk hb2 (blk_drew U0.out))
  have V1 := Lib.hid (below_blk hb2 (blk_drew U1.out))
  have V3 := Lib.hid (below_blk hb2 (blk_drew U3.out))
  have HB2 := Lib.hid (HB1.out.drew.trans (hb2.mono HB1.out.size))
  clear hb2
  refine hK.out _ _ ⟨V0.out, V1.out, V3.out⟩ (fun hHeld => ?_)
  clear hK K
  try simp only [Act.put, zq1, zq2, zq3]
  refine tk 13 27 (.bool false) hHeld ?_; simp only [Act.put, zq1, zq2, zq3]
  refine tk 14 28 (.bool false) hHeld ?_; simp only [Act.put, zq1, zq2, zq3]
  refine wpAnyH_done (by kernel_rfl) ?_ _
  refine NoPanic.normal ?_
  refine gen_then fun W5 hW5 => ?_
  have B5 := Lib.hid (show Below w.heap.size w W5 by rw [← hW5]; exact HB2.out)
  have A0 := Lib.hid (show W5.heap[w.heap.size]? = some (.cells #[.int .i64 k.kind, .int .i64 k.n, .string k.s, .int .u64 (k.label : Int)] 26 (0, 0)) by rw [← hW5]; exact V0.out)
  have A1 := Lib.hid (show W5.heap[w.heap.size + 1]? = some (.cells #[.int .i64 v.kind, .int .i64 v.n, .string v.s, .int .u64 (v.label : Int)] 26 (0, 0)) by rw [← hW5]; exact V1.out)
  clear hW5 k0 l0 U0 U1 U3 HB1 V0 V1 V3 HB2 hHeld hk3
  have k0 := cell_of_blk (i := 0) A0.out rfl
  have k1 := cell_of_blk (i := 1) A0.out rfl
  have k2 := cell_of_blk (i := 2) A0.out rfl
  have k3 := cell_of_blk (i := 3) A0.out rfl
  have v0 := cell_of_blk (i := 0) A1.out rfl
  have v1 := cell_of_blk (i := 1) A1.out rfl
  have v2 := cell_of_blk (i := 2) A1.out rfl
  have v3 := cell_of_blk (i := 3) A1.out rfl
  have l0 := blk_lt A0.out
  have l1 := blk_lt A1.out
  go_wp2_with fail
  refine (HJ.out _).mono ?_
  rintro e w6 ⟨rfl, rfl⟩
  go_wp2_with fail
  refine (HW.out _).mono ?_
  rintro e w6 ⟨rfl, hb6⟩
  have B6 := Lib.hid (B5.out.trans (hb6.mono B5.out.size))
  have C0 := Lib.hid (below_blk hb6 A0.out)
  have C1 := Lib.hid (below_blk hb6 A1.out)
  clear hb6 k0 k1 k2 k3 v0 v1 v2 v3 A0 A1 l0 l1
  have k0 := cell_of_blk (i := 0) C0.out rfl
  have k1 := cell_of_blk (i := 1) C0.out rfl
  have k2 := cell_of_blk (i := 2) C0.out rfl
  have k3 := cell_of_blk (i := 3) C0.out rfl
  have v0 := cell_of_blk (i := 0) C1.out rfl
  have v1 := cell_of_blk (i := 1) C1.out rfl
  have v2 := cell_of_blk (i := 2) C1.out rfl
  have v3 := cell_of_blk (i := 3) C1.out rfl
  have z0 := free_of_blk (i := 0) C1.out
  have z1 := free_of_blk (i := 1) C1.out
  have z2 := free_of_blk (i := 2) C1.out
  have z3 := free_of_blk (i := 3) C1.out
  have l0 := blk_lt C0.out
  have l1 := blk_lt C1.out
  have hb7 : Below w.heap.size w ((((w6.setCell ⟨w.heap.size + 1, 0, none⟩ (.int .i64 R.kind)).setCell ⟨w.heap.size + 1, 1, none⟩ (.int .i64 R.n)).setCell ⟨w.heap.size + 1, 2, none⟩ (.string R.s)).setCell ⟨w.heap.size + 1, 3, none⟩ (.int .u64 (R.label : Int))) := (((B6.out.setCell (by simp) _).setCell (by simp) _).setCell (by simp) _).setCell (by simp) _
  have F7 := Lib.hid (HF.out _ hb7)
  have B7 := Lib.hid hb7
  clear hb7
  go_wp2_with fail
  refine F7.out.mono ?_
  rintro e w7 ⟨rfl, hb8⟩
  have B8 := Lib.hid (B7.out.trans (hb8.mono B7.out.size))
  have ne0 : w.heap.size ≠ w.heap.size + 1 := by omega
  have G0 := Lib.hid (below_blk hb8 (blk_far (blk_far (blk_far (blk_far C0.out ne0 _) ne0 _) ne0 _) ne0 _))
  have G1 := Lib.hid (show w7.heap[w.heap.size + 1]? = some (.cells #[.int .i64 R.kind, .int .i64 R.n, .string R.s, .int .u64 (R.label : Int)] 26 (0, 0)) from below_blk hb8 (blk_set (i := 3) (blk_set (i := 2) (blk_set (i := 1) (blk_set (i := 0) C1.out _) _) _) _))
  have G3 := Lib.hid (below_blk B8.out H1.out)
  clear hb8 k0 k1 k2 k3 v0 v1 v2 v3 z0 z1 z2 z3 l0 l1 C0 C1 F7 B7 B6 B5 ne0
  obtain rfl : pi = -1 := hpi.symm.trans hpi'
  have t0 := cell_of_blk (i := 0) G3.out rfl
  have l3 := blk_lt G3.out
  go_wp2_with fail
  have F9 := HFl.out w7
  rw [hcj] at F9
  refine F9.mono ?_
  rintro e w9 ⟨rfl, rfl⟩
  go_wp2_with fail
  go_ret
  exact ⟨rfl, RTabTo.same H0.out B8.out⟩
 ·have hkb : (k.kind == 3) = false := by simpa using hk3
  go_wp2_with fail
  go_quiet (fail)
  refine gen_then fun W5 hW5 => ?_
  have B5 := Lib.hid (show Below w.heap.size w W5 by rw [← hW5]; exact below_drewN HB1.out _)
  have A0 := Lib.hid (show W5.heap[w.heap.size]? = some (.cells #[.int .i64 k.kind, .int .i64 k.n, .string k.s, .int .u64 (k.label : Int)] 26 (0, 0)) by rw [← hW5]; exact U0.out)
  have A1 := Lib.hid (show W5.heap[w.heap.size + 1]? = some (.cells #[.int .i64 v.kind, .int .i64 v.n, .string v.s, .int .u64 (v.label : Int)] 26 (0, 0)) by rw [← hW5]; exact U1.out)
  clear hW5 k0 l0 U0 U1 U3 HB1
  have k0 := cell_of_blk (i := 0) A0.out rfl
  have k1 := cell_of_blk (i := 1) A0.out rfl
  have k2 := cell_of_blk (i := 2) A0.out rfl
  have k3 := cell_of_blk (i := 3) A0.out rfl
  have v0 := cell_of_blk (i := 0) A1.out rfl
  have v1 := cell_of_blk (i := 1) A1.out rfl
  have v2 := cell_of_blk (i := 2) A1.out rfl
  have v3 := cell_of_blk (i := 3) A1.out rfl
  have l0 := blk_lt A0.out
  have l1 := blk_lt A1.out
  go_wp2_with fail
  refine (HJ.out _).mono ?_
  rintro e w6 ⟨rfl, rfl⟩
  go_wp2_with fail
  refine (HW.out _).mono ?_
  rintro e w6 ⟨rfl, hb6⟩
  have B6 := Lib.hid (B5.out.trans (hb6.mono B5.out.size))
  have C0 := Lib.hid (below_blk hb6 A0.out)
  have C1 := Lib.hid (below_blk hb6 A1.out)
  clear hb6 k0 k1 k2 k3 v0 v1 v2 v3 A0 A1 l0 l1
  have k0 := cell_of_blk (i := 0) C0.out rfl
  have k1 := cell_of_blk (i := 1) C0.out rfl
  have k2 := cell_of_blk (i := 2) C0.out rfl
  have k3 := cell_of_blk (i := 3) C0.out rfl
  have v0 := cell_of_blk (i := 0) C1.out rfl
  have v1 := cell_of_blk (i := 1) C1.out rfl
  have v2 := cell_of_blk (i := 2) C1.out rfl
  have v3 := cell_of_blk (i := 3) C1.out rfl
  have z0 := free_of_blk (i := 0) C1.out
  have z1 := free_of_blk (i := 1) C1.out
  have z2 := free_of_blk (i := 2) C1.out
  have z3 := free_of_blk (i := 3) C1.out
  have l0 := blk_lt C0.out
  have l1 := blk_lt C1.out
  have hb7 : Below w.heap.size w ((((w6.setCell ⟨w.heap.size + 1, 0, none⟩ (.int .i64 R.kind)).setCell ⟨w.heap.size + 1, 1, none⟩ (.int .i64 R.n)).setCell ⟨w.heap.size + 1, 2, none⟩ (.string R.s)).setCell ⟨w.heap.size + 1, 3, none⟩ (.int .u64 (R.label : Int))) := (((B6.out.setCell (by simp) _).setCell (by simp) _).setCell (by simp) _).setCell (by simp) _
  have F7 := Lib.hid (HF.out _ hb7)
  have B7 := Lib.hid hb7
  clear hb7
  go_wp2_with fail
  refine F7.out.mono ?_
  rintro e w7 ⟨rfl, hb8⟩
  have B8 := Lib.hid (B7.out.trans (hb8.mono B7.out.size))
  have ne0 : w.heap.size ≠ w.heap.size + 1 := by omega
  have G0 := Lib.hid (below_blk hb8 (blk_far (blk_far (blk_far (blk_far C0.out ne0 _) ne0 _) ne0 _) ne0 _))
  have G1 := Lib.hid (show w7.heap[w.heap.size + 1]? = some (.cells #[.int .i64 R.kind, .int .i64 R.n, .string R.s, .int .u64 (R.label : Int)] 26 (0, 0)) from below_blk hb8 (blk_set (i := 3) (blk_set (i := 2) (blk_set (i := 1) (blk_set (i := 0) C1.out _) _) _) _))
  have G3 := Lib.hid (below_blk B8.out H1.out)
  clear hb8 k0 k1 k2 k3 v0 v1 v2 v3 z0 z1 z2 z3 l0 l1 C0 C1 F7 B7 B6 B5 ne0
  obtain rfl : pi = -1 := hpi.symm.trans hpi'
  have t0 := cell_of_blk (i := 0) G3.out rfl
  have l3 := blk_lt G3.out
  go_wp2_with fail
  have F9 := HFl.out w7
  rw [hcj] at F9
  refine F9.mono ?_
  rintro e w9 ⟨rfl, rfl⟩
  go_wp2_with fail
  go_ret
  exact ⟨rfl, RTabTo.same H0.out B8.out⟩
end Go.Proofs.YtilcofpceadpbaaGreatDoor
