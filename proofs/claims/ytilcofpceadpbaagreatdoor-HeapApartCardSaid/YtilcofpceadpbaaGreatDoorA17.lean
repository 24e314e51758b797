/-
 HeapApart: part 17 of what the claim rests on.
-/
import Derived.Test.YtilcofpceadpbaaGreatDoorA10
import Derived.Test.YtilcofpceadpbaaGreatDoorA15
import Derived.Test.YtilcofpceadpbaaGreatDoorA16
set_option linter.unusedVariables false
set_option linter.unusedSimpArgs false
set_option maxHeartbeats 64000000
namespace Go.Proofs.YtilcofpceadpbaaGreatDoor
open Go.ChangeShapes Go.WideShapes Go.ChangeAt Go.RowKit Go.Maps

theorem rput_nokey {w : World} {B rb : Nat} {T : TabS} {fp : List Nat} (h : RTabIn w B rb T fp) {ctx : Nat} {k v : VV} (hik : isKey k = false) :
  Calls Tryz.prog 60 #[.pointer (some ⟨rb, 0, none⟩), .int .u64 (ctx : Int), .agg (vvCells k), .agg (vvCells v)] w fun e w' => e = .returned (.int .i64 41) ∧ RTabTo w B rb T fp w' := by
 have hk := fun W => rkey_any k W
 rw [hik] at hk
 have H := Lib.hid h
 have HB0 := Lib.hid ((((Below.refl w.heap.size w).alloc (Nat.le_refl _) (.cells (vvCells k) 26)).alloc (by simp) (.cells (vvCells v) 26)))
 unfold vvCells at hk HB0 ⊢
 have HK := Lib.hid hk
 clear hk h
 go_enter Tryz.func60, Tryz.ntmps60
 go_wp2_with fail
 refine (HK.out _).mono ?_
 rintro e w1 ⟨rfl, hb1⟩
 have HB := Lib.hid (HB0.out.trans (hb1.mono (by simp; omega)))
 clear hb1
 go_wp2
 go_ret
 exact ⟨rfl, RTabTo.same H.out HB.out⟩
theorem rput_any {w : World} {B rb : Nat} {T : TabS} {fp : List Nat} (h : RTabIn w B rb T fp) (ok : TabOk T) {ctx : Nat} {k v : VV} (hc : ctx < 18446744073709551616) (kk : VOk k) (kv : VOk v) (hb : (T.F.length + T.S.length + 1) * 80 ≤ 140737488355328) :
  Calls Tryz.prog 60 #[.pointer (some ⟨rb, 0, none⟩), .int .u64 (ctx : Int), .agg (vvCells k), .agg (vvCells v)] w fun e w' => e = .returned (.int .i64 (doPut T ctx k v).1) ∧ RTabTo w B rb (doPut T ctx k v).2 fp w' := by
 unfold doPut
 cases hik : isKey k
 ·simpa using rput_nokey h hik
 ·cases hst : (decide (k.kind = 3) && !allowsB T.S k.s v.kind)
  ·simp only [Bool.true_eq_false, Bool.false_eq_true, if_false]
   cases hf : findF T.F k with
   | some i =>
    obtain ⟨_, f, hfi, _⟩ := findF_some hf
    simp only [hfi]
    cases hfl : flowsB (ctx ||| k.label) f.2.label
    ·simpa using rput_no h ok hc kk kv hb hik hfi (findI_some hf) hfl hst
    ·simpa using rput_set h ok hc kk kv hb hik hfi (findI_some hf) hfl hst
   | none =>
    simp only
    cases hfl : flowsB (ctx ||| k.label) T.l
    ·simpa using rput_appno h ok hc kk kv hb hik (findI_none hf) hfl hst
    ·simpa using rput_app h ok hc kk kv hb hik (findI_none hf) hfl hst
  ·simpa using rput_bad h ok hc kk kv hb hik hst
set_option maxRecDepth 100000 in
theorem rget_any {w : World} {B rb : Nat} {T : TabS} {fp : List Nat} (h : RTabIn w B rb T fp) (ok : TabOk T) {k : VV} (kk : VOk k) (hnF : T.F.length ≤ 9223372036854775807) :
  Calls Tryz.prog 62 #[.pointer (some ⟨rb, 0, none⟩), .agg (vvCells k)] w (RetB (.agg (vvCells (withV (getV T.F k) (k.label ||| T.l)))) w) := by
 have hb3 := (((Below.refl w.heap.size w).alloc (Nat.le_refl _) (.cells (vvCells k) 26)).alloc (by simp) (.cells (vvCells noneV) 26)).alloc (by simp; omega) (.cells (vvCells noneV) 26)
 have h' := h.kept (Fr.of_below hb3 []) (by simp)
 have hf := rfind_any h' k hnF
 have HB3 := Lib.hid hb3
 have hjl : k.label ||| T.l < 18446744073709551616 := Nat.or_lt_two_pow (n := 64) kk.label ok.l
 have HJ := Lib.hid (fun W => rjoin_any k.label T.l W kk.label ok.l)
 obtain ⟨⟨fv, sv, _, h1, h2, _⟩, _⟩ := id h
 have H1 := Lib.hid h1
 cases hF : findF T.F k with
 | some i =>
  obtain ⟨_, f, hfi, _⟩ := findF_some hF
  rw [findI_some hF] at hf
  have hg : getV T.F k = f.2 := by unfold getV; rw [hF]; simp only [hfi]
  rw [hg]
  have hw := fun W => rwith_any f.2 (k.label ||| T.l) W (ok.vOk f (List.mem_of_getElem? hfi)).label hjl
  generalize withV f.2 (k.label ||| T.l) = R at hw ⊢
  obtain ⟨ad, c, ct1, hal, hfd, _, _⟩ := rtab_elem h hfi
  obtain rfl : fv = .slice (some ad) T.F.length c := by have := (cell_of_blk (i := 1) h1 rfl).symm.trans ct1; simpa using this
  have hil : (i : Int) < (T.F.length : Int) := by have := (List.getElem?_eq_some_iff.1 hfi).1; omega
  have hi0 : (0 : Int) ≤ i := by omega
  have hll : (ad.add (i * 8)).block < w.heap.size := by rw [block_add']; exact hal
  have HF := Lib.hid hf
  have HW := Lib.hid hw
  have HFD := Lib.hid hfd
  clear hf hw h1 h2 h' hb3 hfi hfd ct1 h ok
  unfold vvCells noneV at *
  go_enter Tryz.func62, Tryz.ntmps62
  go_wp2_with fail
  refine HF.out.mono ?_
  rintro e w1 ⟨rfl, hb1⟩
  have HB0 := Lib.hid (HB3.out.trans (hb1.mono (by simp; omega)))
  have u0 := below_blk hb1 (blk_alloc (blk_alloc (heap_alloc_new w _) _) _)
  have u1 := below_blk hb1 (blk_alloc (heap_new_at _ _ (w.heap.size + 1) (by simp)) _)
  have u2 := below_blk hb1 (heap_new_at _ _ (w.heap.size + 1 + 1) (by simp))
  have u3 := below_blk HB0.out H1.out
  have t1 := cell_of_blk (i := 1) u3 rfl
  have z0 := free_of_blk (i := 0) u2
  have z1 := free_of_blk (i := 1) u2
  have z2 := free_of_blk (i := 2) u2
  have z3 := free_of_blk (i := 3) u2
  have y0 := cell_of_blk (i := 0) u2 rfl
  have y1 := cell_of_blk (i := 1) u2 rfl
  have y2 := cell_of_blk (i := 2) u2 rfl
  have y3 := cell_of_blk (i := 3) u2 rfl
  obtain ⟨_, _, _, _, e0, e1, e2, e3⟩ := HFD.out.below HB0.out hll
  have l3 := blk_lt u3
  have l2 := blk_lt u2
  have P0 := Lib.hid u0
  have P1 := Lib.hid u1
  have P2 := Lib.hid u2
  have P3 := Lib.hid u3
  have htw : rb < w.heap.size := blk_lt H1.out
  clear u0 u1 u2 u3 hb1
  go_wp2_with fail
  refine gen_wp fun W hW => ?_
  have ne0 : w.heap.size ≠ w.heap.size + 1 + 1 := by omega
  have ne2 : w.heap.size + 1 ≠ w.heap.size + 1 + 1 := by omega
  have ne3 : rb ≠ w.heap.size + 1 + 1 := by omega
  have U0 := Lib.hid (show W.heap[w.heap.size]? = some (.cells #[.int .i64 k.kind, .int .i64 k.n, .string k.s, .int .u64 (k.label : Int)] 26 (0, 0)) by rw [← hW]; exact blk_far (blk_far (blk_far (blk_far P0.out ne0 _) ne0 _) ne0 _) ne0 _)
  have U1 := Lib.hid (show W.heap[w.heap.size + 1]? = some (.cells #[.int .i64 0, .int .i64 0, .string ⟨#[]⟩, .int .u64 0] 26 (0, 0)) by rw [← hW]; exact blk_far (blk_far (blk_far (blk_far P1.out ne2 _) ne2 _) ne2 _) ne2 _)
  have U2 := Lib.hid (show W.heap[w.heap.size + 1 + 1]? = some (.cells #[.int .i64 f.2.kind, .int .i64 f.2.n, .string f.2.s, .int .u64 (f.2.label : Int)] 26 (0, 0)) by rw [← hW]; exact blk_set (i := 3) (blk_set (i := 2) (blk_set (i := 1) (blk_set (i := 0) P2.out _) _) _) _)
  have U3 := Lib.hid (show W.heap[rb]? = some (.cells #[.int .u64 (T.l : Int), .slice (some ad) T.F.length c, sv] 75 (0, 0)) by rw [← hW]; exact blk_far (blk_far (blk_far (blk_far P3.out ne3 _) ne3 _) ne3 _) ne3 _)
  have HB := Lib.hid (show Below w.heap.size w W by rw [← hW]; (repeat' (first | exact HB0.out | refine Below.setCell ?_ ?_ _ | (simp; done) | (simp; omega))))
  have l3 := blk_lt U3.out
  have l2 := blk_lt U2.out
  clear hW z0 z1 z2 z3 y0 y1 y2 y3 e0 e1 e2 e3 t1 P0 P1 P2 P3 HB0 ne0 ne2 ne3
  refine wp_region_noPanic ?_
  refine wp_region_held_drew (S := fun w' => w'.heap[w.heap.size]? = some (.cells #[.int .i64 k.kind, .int .i64 k.n, .string k.s, .int .u64 (k.label : Int)] 26 (0, 0)) ∧ w'.heap[w.heap.size + 1 + 1]? = some (.cells #[.int .i64 f.2.kind, .int .i64 f.2.n, .string f.2.s, .int .u64 (f.2.label : Int)] 26 (0, 0)) ∧ w'.heap[rb]? = some (.cells #[.int .u64 (T.l : Int), .slice (some ad) T.F.length c, sv] 75 (0, 0))) (by kernel_rfl) (⟨U0.out, U2.out, U3.out⟩) (fun hHeld => ?_)
  refine tk 0 21 (.agg #[.int .i64 f.2.kind, .int .i64 f.2.n, .string f.2.s, .int .u64 (f.2.label : Int)]) hHeld ?_ (hy := Or.inl ⟨by rfl, fun w' hS => (by obtain ⟨s0, s2, s3⟩ := hS; have q0 := cell_of_blk (i := 0) s2 rfl; have q1 := cell_of_blk (i := 1) s2 rfl; have q2 := cell_of_blk (i := 2) s2 rfl; have q3 := cell_of_blk (i := 3) s2 rfl; go_simp)⟩); simp only [Act.put, zq1, zq2, zq3]
  refine tk 1 22 (.pointer (some ⟨w.heap.size, 3, none⟩)) hHeld ?_; simp only [Act.put, zq1, zq2, zq3]
  refine tk 2 23 (.int .u64 (k.label : Int)) hHeld ?_ (hy := Or.inl ⟨by rfl, fun w' hS => (by obtain ⟨s0, s2, s3⟩ := hS; have q := cell_of_blk (i := 3) s0 rfl; go_simp)⟩); simp only [Act.put, zq1, zq2, zq3]
  refine tk 3 24 (.pointer (some ⟨rb, 0, none⟩)) hHeld ?_; simp only [Act.put, zq1, zq2, zq3]
  refine tk 4 25 (.pointer (some ⟨rb, 0, none⟩)) hHeld ?_; simp only [Act.put, zq1, zq2, zq3]
  refine tk 5 26 (.pointer (some ⟨rb, 0, none⟩)) hHeld ?_; simp only [Act.put, zq1, zq2, zq3]
  refine tk 6 27 (.int .u64 (T.l : Int)) hHeld ?_ (hy := Or.inl ⟨by rfl, fun w' hS => (by obtain ⟨s0, s2, s3⟩ := hS; have q := cell_of_blk (i := 0) s3 rfl; go_simp)⟩); simp only [Act.put, zq1, zq2, zq3]
  refine rd 7 fun K hK => ?_
  go_simp
  refine (HJ.out _).mono ?_
  rintro e w9 ⟨rfl, rfl⟩
  refine hK.out _ _ ⟨blk_drew U0.out, blk_drew U2.out, blk_drew U3.out⟩ (fun hHeld => ?_)
  clear hK K
  try simp only [Act.put, zq1, zq2, zq3]
  refine rd 8 fun K hK => ?_
  go_simp
  refine (HW.out _).mono ?_
  rintro e w2 ⟨rfl, hb2⟩
  have V0 := Lib.hid (below_blk hb2 (blk_drew (blk_drew U0.out)))
  have V1 := Lib.hid (below_blk hb2 (blk_drew (blk_drew U1.out)))
  have V2 := Lib.hid (below_blk hb2 (blk_drew (blk_drew U2.out)))
  have V3 := Lib.hid (below_blk hb2 (blk_drew (blk_drew U3.out)))
  have HB2 := Lib.hid (HB.out.drew.trans (hb2.mono HB.out.size))
  clear hb2
  refine hK.out _ _ ⟨V0.out, V2.out, V3.out⟩ (fun hHeld => ?_)
  clear hK K
  try simp only [Act.put, zq1, zq2, zq3]
  have v1 := V1.out
  have y0 := cell_of_blk (i := 0) v1 rfl
  have z0 := free_of_blk (i := 0) v1
  have y1 := cell_of_blk (i := 1) v1 rfl
  have z1 := free_of_blk (i := 1) v1
  have y2 := cell_of_blk (i := 2) v1 rfl
  have z2 := free_of_blk (i := 2) v1
  have y3 := cell_of_blk (i := 3) v1 rfl
  have z3 := free_of_blk (i := 3) v1
  clear v1
  have ne0 : w.heap.size ≠ w.heap.size + 1 := by omega
  have ne2 : w.heap.size + 1 + 1 ≠ w.heap.size + 1 := by omega
  have ne3 : rb ≠ w.heap.size + 1 := by omega
  refine rd 9 fun K hK => ?_
  go_simp
  refine hK.out _ _ ⟨blk_far (blk_far (blk_far (blk_far V0.out ne0 _) ne0 _) ne0 _) ne0 _, blk_far (blk_far (blk_far (blk_far V2.out ne2 _) ne2 _) ne2 _) ne2 _, blk_far (blk_far (blk_far (blk_far V3.out ne3 _) ne3 _) ne3 _) ne3 _⟩ (fun hHeld => ?_)
  clear hK K
  try simp only [Act.put, zq1, zq2, zq3]
  refine wpAnyH_done (by kernel_rfl) ?_ _
  refine NoPanic.normal ?_
  go_wp2
  exact bodyPost_ret (v := .agg #[.int .i64 R.kind, .int .i64 R.n, .string R.s, .int .u64 (R.label : Int)]) (by simp [results, Tryz.results62, go_sem, Lib.cell_of_heap (blk_set (blk_set (blk_set (blk_set V1.out _) _) _) _)]) rfl ⟨by first | rfl | simp, (by repeat' (first | exact HB2.out | refine Below.drew ?_ | refine Below.setCell ?_ ?_ _ | (simp; done) | (simp; omega)))⟩
 | none =>
  have hg : getV T.F k = noneV := by unfold getV; rw [hF]
  rw [hg]
  rw [findI_none hF] at hf
  have hw := fun W => rwith_any noneV (k.label ||| T.l) W (by decide) hjl
  generalize withV noneV (k.label ||| T.l) = R at hw ⊢
  have HF := Lib.hid hf
  have HW := Lib.hid hw
  clear hf hw h1 h2 h' hb3 h ok
  unfold vvCells noneV at *
  go_enter Tryz.func62, Tryz.ntmps62
  go_wp2_with fail
  refine HF.out.mono ?_
  rintro e w1 ⟨rfl, hb1⟩
  have HB := Lib.hid (HB3.out.trans (hb1.mono (by simp; omega)))
  have U0 := Lib.hid (below_blk hb1 (blk_alloc (blk_alloc (heap_alloc_new w _) _) _))
  have U1 := Lib.hid (below_blk hb1 (blk_alloc (heap_new_at _ _ (w.heap.size + 1) (by simp)) _))
  have U2 := Lib.hid (below_blk hb1 (heap_new_at _ _ (w.heap.size + 1 + 1) (by simp)))
  have U3 := Lib.hid (below_blk HB.out H1.out)
  have l3 := blk_lt U3.out
  have l2 := blk_lt U2.out
  have htw : rb < w.heap.size := blk_lt H1.out
  clear hb1
  go_wp2_with fail
  refine wp_region_noPanic ?_
  refine wp_region_held_drew (S := fun w' => w'.heap[w.heap.size]? = some (.cells #[.int .i64 k.kind, .int .i64 k.n, .string k.s, .int .u64 (k.label : Int)] 26 (0, 0)) ∧ w'.heap[w.heap.size + 1 + 1]? = some (.cells #[.int .i64 0, .int .i64 0, .string ⟨#[]⟩, .int .u64 0] 26 (0, 0)) ∧ w'.heap[rb]? = some (.cells #[.int .u64 (T.l : Int), fv, sv] 75 (0, 0))) (by kernel_rfl) (⟨U0.out, U2.out, U3.out⟩) (fun hHeld => ?_)
  refine tk 0 21 (.agg #[.int .i64 0, .int .i64 0, .string ⟨#[]⟩, .int .u64 0]) hHeld ?_ (hy := Or.inl ⟨by rfl, fun w' hS => (by obtain ⟨s0, s2, s3⟩ := hS; have q0 := cell_of_blk (i := 0) s2 rfl; have q1 := cell_of_blk (i := 1) s2 rfl; have q2 := cell_of_blk (i := 2) s2 rfl; have q3 := cell_of_blk (i := 3) s2 rfl; go_simp)⟩); simp only [Act.put, zq1, zq2, zq3]
  refine tk 1 22 (.pointer (some ⟨w.heap.size, 3, none⟩)) hHeld ?_; simp only [Act.put, zq1, zq2, zq3]
  refine tk 2 23 (.int .u64 (k.label : Int)) hHeld ?_ (hy := Or.inl ⟨by rfl, fun w' hS => (by obtain ⟨s0, s2, s3⟩ := hS; have q := cell_of_blk (i := 3) s0 rfl; go_simp)⟩); simp only [Act.put, zq1, zq2, zq3]
  refine tk 3 24 (.pointer (some ⟨rb, 0, none⟩)) hHeld ?_; simp only [Act.put, zq1, zq2, zq3]
  refine tk 4 25 (.pointer (some ⟨rb, 0, none⟩)) hHeld ?_; simp only [Act.put, zq1, zq2, zq3]
  refine tk 5 26 (.pointer (some ⟨rb, 0, none⟩)) hHeld ?_; simp only [Act.put, zq1, zq2, zq3]
  refine tk 6 27 (.int .u64 (T.l : Int)) hHeld ?_ (hy := Or.inl ⟨by rfl, fun w' hS => (by obtain ⟨s0, s2, s3⟩ := hS; have q := cell_of_blk (i := 0) s3 rfl; go_simp)⟩); simp only [Act.put, zq1, zq2, zq3]
  refine rd 7 fun K hK => ?_
  go_simp
  refine (HJ.out _).mono ?_
  rintro e w9 ⟨rfl, rfl⟩
  refine hK.out _ _ ⟨blk_drew U0.out, blk_drew U2.out, blk_drew U3.out⟩ (fun hHeld => ?_)
  clear hK K
  try simp only [Act.put, zq1, zq2, zq3]
  refine rd 8 fun K hK => ?_
  go_simp
  refine (HW.out _).mono ?_
  rintro e w2 ⟨rfl, hb2⟩
  have V0 := Lib.hid (below_blk hb2 (blk_drew (blk_drew U0.out)))
  have V1 := Lib.hid (below_blk hb2 (blk_drew (blk_drew U1.out)))
  have V2 := Lib.hid (below_blk hb2 (blk_drew (blk_drew U2.out)))
  have V3 := Lib.hid (below_blk hb2 (blk_drew (blk_drew U3.out)))
  have HB2 := Lib.hid (HB.out.drew.trans (hb2.mono HB.out.size))
  clear hb2
  refine hK.out _ _ ⟨V0.out, V2.out, V3.out⟩ (fun hHeld => ?_)
  clear hK K
  try simp only [Act.put, zq1, zq2, zq3]
  have v1 := V1.out
  have y0 := cell_of_blk (i := 0) v1 rfl
  have z0 := free_of_blk (i := 0) v1
  have y1 := cell_of_blk (i := 1) v1 rfl
  have z1 := free_of_blk (i := 1) v1
  have y2 := cell_of_blk (i := 2) v1 rfl
  have z2 := free_of_blk (i := 2) v1
  have y3 := cell_of_blk (i := 3) v1 rfl
  have z3 := free_of_blk (i := 3) v1
  clear v1
  have ne0 : w.heap.size ≠ w.heap.size + 1 := by omega
  have ne2 : w.heap.size + 1 + 1 ≠ w.heap.size + 1 := by omega
  have ne3 : rb ≠ w.heap.size + 1 := by omega
  refine rd 9 fun K hK => ?_
  go_simp
  refine hK.out _ _ ⟨blk_far (blk_far (blk_far (blk_far V0.out ne0 _) ne0 _) ne0 _) ne0 _, blk_far (blk_far (blk_far (blk_far V2.out ne2 _) ne2 _) ne2 _) ne2 _, blk_far (blk_far (blk_far (blk_far V3.out ne3 _) ne3 _) ne3 _) ne3 _⟩ (fun hHeld => ?_)
  clear hK K
  try simp only [Act.put, zq1, zq2, zq3]
  refine wpAnyH_done (by kernel_rfl) ?_ _
  refine NoPanic.normal ?_
  go_wp2
  exact bodyPost_ret (v := .agg #[.int .i64 R.kind, .int .i64 R.n, .string R.s, .int .u64 (R.label : Int)]) (by simp [results, Tryz.results62, go_sem, Lib.cell_of_heap (blk_set (blk_set (blk_set (blk_set V1.out _) _) _) _)]) rfl ⟨by first | rfl | simp, (by repeat' (first | exact HB2.out | refine Below.drew ?_ | refine Below.setCell ?_ ?_ _ | (simp; done) | (simp; omega)))⟩
theorem rtab_new (w : World) (l : Nat) : RTabIn (w.alloc (.cells #[.int .u64 (l : Int), .slice none 0 0, .slice none 0 0] 75)) w.heap.size w.heap.size ⟨l, [], []⟩ [w.heap.size] :=
 ⟨⟨.slice none 0 0, .slice none 0 0, rfl, heap_alloc_new _ _, World.ownsRow_nil _ _ _ _, World.ownsRow_nil _ _ _ _⟩, fun b hb => by rw [List.mem_singleton.1 hb]; simp⟩

theorem step_append_row {ops : Array Oper} {o : Oper} {a : Act} {w : World} {K : Act → World → Prop} {Q : Exit → Act → World → Prop} {E : Prop} (hgd : o.guard = none) (s x : Operand) (t e : TypeId) (i : TypeInfo) (z : Value) (size bytes : Nat)
  (ho : o.op = .call { callee := .builtin .append, args := #[s, x], argTypes := #[t, t] }) (ht : Tryz.prog.underlying t = some (.slice e)) (hi : Tryz.prog.info? e = some i) (hz0 : i.zero = some z) (hz1 : i.size = size) (hz2 : i.bytes = bytes) (hzs : z.cells.size = size) (hsz : 0 < size)
  (base : Nat) (v : Value) (n : Nat) (xs : List Value) (hs : a.eval s = v) (hown : w.ownsRow base e size v n xs)
  (A : Option Addr) (c m : Nat) (news : List Value) (hA : A = none → m = 0 ∧ c = 0) (hx : a.eval x = .slice A m c) (hl : news.length = m * size) (hr : Reads w w.heap.size A news) (h1 : ∀ u ∈ news, u.oneCell' = true)
  (hm : n + m ≤ maxLen) (hb : (n + m) * bytes ≤ 140737488355328) (hbase : base ≤ w.heap.size)
  (h : ∀ v' w', w'.ownsRow base e size v' (n + m) (xs ++ news) → w.grownBy w' v.ownBlock → K (a.put o.dst v') w') : if Region.wanted o (yielded ops a.tmps) = true then Oper.wp Tryz.prog o a w K Q else E := by
 have hw : Region.wanted o (yielded ops a.tmps) = true := by simp [Region.wanted, hgd]
 rw [if_pos hw]
 cases A with
 | none =>
  obtain ⟨rfl, rfl⟩ := hA rfl
  obtain rfl : news = [] := List.eq_nil_of_length_eq_zero (by simpa using hl)
  have hrun := run_append_owned_none (P := Tryz.prog) (w := w) base t o.type e i size ht hi v n xs hown
  unfold Oper.wp
  simp [execOp, ho, resolve, invoke, builtin, hs, hx, hrun, Result.andThen]
  exact h v w (by simpa using hown) ⟨rfl, rfl, rfl, Nat.le_refl _, fun _ _ _ => rfl⟩
 | some ad =>
  refine wp_append_own w s x t ho base e i z size bytes ht hi hz0 hz1 hz2 hzs hsz v n xs hs hown ad m c news hx hl ?_ h1 hm hb hbase ?_
  ·rcases hr with hr | ⟨ad', e, _, h3⟩
   ·intro j u hu
    rw [hr] at hu
    simp at hu
   ·obtain rfl : ad = ad' := Option.some.inj e
    exact h3
  ·intro v' w' h2 h3 _
   exact h v' w' h2 h3
theorem rtwin_in {w w2 : World} {T : TabS} {vF vS : Value} (hF : w2.ownsRow w.heap.size 92 8 vF T.F.length (T.F.flatMap fdEnc)) (hS : w2.ownsRow w.heap.size 135 2 vS T.S.length (T.S.flatMap stEnc)) (hb : Below w.heap.size w w2) :
  RTabIn (w2.alloc (.cells #[.int .u64 (T.l : Int), vF, vS] 75)) w.heap.size w2.heap.size T (w2.heap.size :: (vF.ownBlock.toList ++ vS.ownBlock.toList)) := by
 refine ⟨⟨vF, vS, rfl, heap_alloc_new _ _, hF.alloc _, hS.alloc _⟩, fun b hm => ?_⟩
 have hlt : ∀ {e : TypeId} {K n : Nat} {v : Value} {xs : List Value}, w2.ownsRow w.heap.size e K v n xs → v.ownBlock = some b → w.heap.size ≤ b ∧ b < w2.heap.size := by
  intro e K n v xs ho hg
  rcases ho.2 with ⟨rfl, _⟩ | ⟨g', cap, cur, rfl, hgb, hh, _⟩
  ·simp [Value.ownBlock] at hg
  ·obtain rfl : g' = b := by simpa [Value.ownBlock] using hg
   exact ⟨hgb, blk_lt hh⟩
 have hsz := hb.size
 have hs1 : (w2.alloc (.cells #[.int .u64 (T.l : Int), vF, vS] 75)).heap.size = w2.heap.size + 1 := by simp
 rw [hs1]
 simp at hm
 rcases hm with rfl | h | h
 ·omega
 ·have := hlt hF h; omega
 ·have := hlt hS h; omega
set_option maxRecDepth 100000 in
theorem rtwin_any {w : World} {B rb : Nat} {T : TabS} {fp : List Nat} (h : RTabIn w B rb T fp) (hb : (T.F.length + T.S.length + 1) * 80 ≤ 140737488355328) :
  Calls Tryz.prog 59 #[.pointer (some ⟨rb, 0, none⟩)] w fun e w' => ∃ rb' fp', e = .returned (.pointer (some ⟨rb', 0, none⟩)) ∧ RTabIn w' w.heap.size rb' T fp' ∧ Below w.heap.size w w' := by
 obtain ⟨i1, i2, i3, i4⟩ := room80 hb
 have hb' : (T.S.length + T.F.length + 1) * 80 ≤ 140737488355328 := by rw [Nat.add_comm T.S.length]; exact hb
 obtain ⟨j1, j2, j3, j4⟩ := room80 hb'
 have HR1 := Lib.hid (Nat.le_of_succ_le i3)
 have HR2 := Lib.hid (Nat.le_trans (Nat.mul_le_mul_right 80 (Nat.le_succ _)) i4)
 have HR3 := Lib.hid (Nat.le_of_succ_le j3)
 have HR4 := Lib.hid (Nat.le_trans (Nat.mul_le_mul_left _ (by decide : 24 ≤ 80)) (Nat.le_trans (Nat.mul_le_mul_right 80 (Nat.le_succ T.S.length)) j4))
 clear i1 i2 i3 i4 j1 j2 j3 j4 hb hb'
 obtain ⟨iF, hiF, hF0, hF1, hF2⟩ := info_parts infoFd
 obtain ⟨iS, hiS, hS0, hS1, hS2⟩ := info_parts infoSt
 obtain ⟨⟨fv, sv, hfp, h1, h2, h3⟩, hbase⟩ := h
 obtain ⟨AF, cf, rfl, hcf1, hcf2, hAF, hRF⟩ := own_reads h2
 obtain ⟨AS, cs, rfl, hcs1, hcs2, hAS, hRS⟩ := own_reads h3
 have H1 := Lib.hid h1
 have HRF := Lib.hid hRF
 have HRS := Lib.hid hRS
 have hrl := blk_lt h1
 clear h1 h2 h3 hRF hRS hbase hfp
 go_enter Tryz.func59, Tryz.ntmps59
 go_wp2_with fail
 refine wp_region_noPanic ?_
 refine wp_region_held_drew (S := fun w' => w'.heap[rb]? = some (.cells #[.int .u64 (T.l : Int), .slice AF T.F.length cf, .slice AS T.S.length cs] 75 (0, 0))) (by kernel_rfl) (H1.out) (fun hHeld => ?_)
 refine tk 0 3 (.pointer (some ⟨rb, 0, none⟩)) hHeld ?_; simp only [Act.put, zq1, zq2, zq3]
 refine tk 1 4 (.pointer (some ⟨rb, 0, none⟩)) hHeld ?_; simp only [Act.put, zq1, zq2, zq3]
 refine tk 2 5 (.pointer (some ⟨rb, 0, none⟩)) hHeld ?_; simp only [Act.put, zq1, zq2, zq3]
 refine tk 3 6 (.int .u64 (T.l : Int)) hHeld ?_ (hy := Or.inl ⟨by rfl, fun w' hS => (by have q := cell_of_blk (i := 0) hS rfl; go_simp)⟩); simp only [Act.put, zq1, zq2, zq3]
 refine tk 4 7 (.pointer (some ⟨rb, 0, none⟩)) hHeld ?_; simp only [Act.put, zq1, zq2, zq3]
 refine tk 5 8 (.pointer (some ⟨rb, 0, none⟩)) hHeld ?_; simp only [Act.put, zq1, zq2, zq3]
 refine tk 6 9 (.pointer (some ⟨rb, 1, none⟩)) hHeld ?_; simp only [Act.put, zq1, zq2, zq3]
 refine tk 7 10 (.slice AF T.F.length cf) hHeld ?_ (hy := Or.inl ⟨by rfl, fun w' hS => (by have q := cell_of_blk (i := 1) hS rfl; go_simp)⟩); simp only [Act.put, zq1, zq2, zq3]
 refine tk 9 12 (.pointer (some ⟨rb, 0, none⟩)) hHeld ?_; simp only [Act.put, zq1, zq2, zq3]
 refine tk 10 13 (.pointer (some ⟨rb, 0, none⟩)) hHeld ?_; simp only [Act.put, zq1, zq2, zq3]
 refine tk 11 14 (.pointer (some ⟨rb, 2, none⟩)) hHeld ?_; simp only [Act.put, zq1, zq2, zq3]
 refine tk 12 15 (.slice AS T.S.length cs) hHeld ?_ (hy := Or.inl ⟨by rfl, fun w' hS => (by have q := cell_of_blk (i := 2) hS rfl; go_simp)⟩); simp only [Act.put, zq1, zq2, zq3]
 refine rd 8 fun K hK => ?_
 refine step_append_row rfl _ _ 72 92 iF _ 8 80 rfl Tryz.underlying72 hiF hF0 hF1 hF2 rfl (by decide) w.heap.size (.slice none 0 0) 0 [] rfl (World.ownsRow_nil _ _ _ _) AF cf T.F.length (T.F.flatMap fdEnc) hAF rfl (fdEnc_lenAll _) (by first | exact HRF.out | exact (HRF.out.below (Below.refl _ _).drew).mono' (Nat.le_refl _)) (fdEnc_one _) (by simpa using HR1.out) (by simpa using HR2.out) (Nat.le_refl _) ?_
 intro vF w1 hoF hg1
 rw [List.nil_append, Nat.zero_add] at hoF
 have hb1 : Below w.heap.size w w1 := by first | exact (Below.refl w.heap.size w).grown hg1 (Nat.le_refl _) (fun g hg => by simp [Value.ownBlock] at hg) | exact ((Below.refl w.heap.size w).drew).grown hg1 (Nat.le_refl _) (fun g hg => by simp [Value.ownBlock] at hg)
 refine hK.out _ _ (below_blk hb1 H1.out) (fun hHeld => ?_)
 clear hK K
 try simp only [Act.put, zq1, zq2, zq3]
 refine rd 13 fun K hK => ?_
 refine step_append_row rfl _ _ 73 135 iS _ 2 24 rfl Tryz.underlying73 hiS hS0 hS1 hS2 rfl (by decide) w.heap.size (.slice none 0 0) 0 [] rfl (World.ownsRow_nil _ _ _ _) AS cs T.S.length (T.S.flatMap stEnc) hAS rfl (stEnc_lenAll _) (by first | exact (HRS.out.below hb1).mono' hb1.size | exact ((HRS.out.below hb1).below (Below.refl _ _).drew).mono' hb1.size) (stEnc_one _) (by simpa using HR3.out) (by simpa using HR4.out) (hb1.size) ?_
 intro vS w2 hoS hg2
 rw [List.nil_append, Nat.zero_add] at hoS
 have hb2 : Below w1.heap.size w1 w2 := by first | exact (Below.refl w1.heap.size w1).grown hg2 (Nat.le_refl _) (fun g hg => by simp [Value.ownBlock] at hg) | exact ((Below.refl w1.heap.size w1).drew).grown hg2 (Nat.le_refl _) (fun g hg => by simp [Value.ownBlock] at hg)
 replace hoF := below_own hb2 hoF
 have hbb := hb1.trans (hb2.mono hb1.size)
 refine hK.out _ _ (below_blk hbb H1.out) (fun hHeld => ?_)
 clear hK K
 try simp only [Act.put, zq1, zq2, zq3]
 obtain ⟨A1, c1, rfl, _, _, _⟩ := own_form hoF
 obtain ⟨A2, c2, rfl, _, _, _⟩ := own_form hoS
 have HOF := Lib.hid hoF
 have HOS := Lib.hid hoS
 have HBB := Lib.hid hbb
 clear hoF hoS hbb hb1 hb2 hg1 hg2
 refine tk 14 17 (.agg #[.int .u64 (T.l : Int), .slice A1 T.F.length c1, .slice A2 T.S.length c2]) hHeld ?_; simp only [Act.put, zq1, zq2, zq3]
 refine rd 15 fun K hK => ?_
 go_simp
 refine hK.out _ _ (by first | exact blk_alloc (below_blk HBB.out H1.out) _ | exact blk_drew (blk_alloc (below_blk HBB.out H1.out) _)) (fun hHeld => ?_)
 clear hK K
 try simp only [Act.put, zq1, zq2, zq3]
 refine tk 16 2 (.pointer (some ⟨w2.heap.size, 0, none⟩)) hHeld ?_; simp only [Act.put, zq1, zq2, zq3]
 refine wpAnyH_done (by kernel_rfl) ?_ _
 refine NoPanic.normal ?_
 go_wp2_with fail
 go_ret
 exact ⟨_, _, rfl, rtwin_in HOF.out HOS.out HBB.out, HBB.out.alloc HBB.out.size _⟩

structure RpAt (w : World) (B N h : Nat) (s : HpS) (d : HpD) : Prop where
 blk : w.heap[h]? = some (.cells #[.int .i64 s.L, .int .i64 s.U, .slice d.A1 s.T.length d.c1, .slice d.A2 s.F.length d.c2, .slice d.A3 s.C.length d.c3] 45 (0, 0))
 o1 : w.ownsRow B 70 1 (.slice d.A1 s.T.length d.c1) s.T.length (ptrs d.ps)
 o2 : w.ownsRow B 79 11 (.slice d.A2 s.F.length d.c2) s.F.length (s.F.flatMap fnEnc)
 o3 : w.ownsRow B 26 4 (.slice d.A3 s.C.length d.c3) s.C.length (s.C.flatMap vvE)
 lp : d.ps.length = s.T.length
 lf : d.fps.length = s.T.length
 tabs : ∀ (i p : Nat) (T : TabS) (f : List Nat), d.ps[i]? = some p → s.T[i]? = some T → d.fps[i]? = some f → RTabIn w B p T f
 disj : ∀ (i j : Nat) (f g : List Nat), i ≠ j → d.fps[i]? = some f → d.fps[j]? = some g → ∀ x ∈ f, x ∉ g
 fns : ∀ f ∈ s.F, FnIn w B N f
 hB : B ≤ h
 wB : B ≤ w.heap.size
 nB : N ≤ B
 u0 : 0 ≤ s.U
 u1 : s.U ≤ s.L
 u2 : s.L ≤ 9223372036854775807
def RpTo (w : World) (B N h : Nat) (s : HpS) (d : HpD) (s' : HpS) (w' : World) : Prop := ∃ d', RpAt w' B N h s' d' ∧ Fr (d.fp h s.F) w w' ∧ ∀ b ∈ d'.fp h s'.F, b ∈ d.fp h s.F ∨ w.heap.size ≤ b
section
variable {w w' : World} {B N h : Nat} {s s' : HpS} {d d' : HpD}
theorem rtab_fp_kind {tb : Nat} {T : TabS} {fp : List Nat} (ht : RTabIn w B tb T fp) {b : Nat} (hb : b ∈ fp) :
  ∃ cs t fr, w.heap[b]? = some (.cells cs t fr) ∧ (t = 75 ∨ t = 92 ∨ t = 135) := by
 obtain ⟨⟨fv, sv, rfl, h1, h2, h3⟩, _⟩ := ht
 simp only [List.mem_cons, List.mem_append, Option.mem_toList] at hb
 rcases hb with rfl | hb | hb
 ·exact ⟨_, _, _, h1, .inl rfl⟩
 ·rcases h2.2 with ⟨rfl, _⟩ | ⟨g', cap, cur, rfl, _, hh, _⟩
  ·simp [Value.ownBlock] at hb
  ·obtain rfl : g' = b := by simpa [Value.ownBlock] using hb
   exact ⟨_, _, _, hh, .inr (.inl rfl)⟩
 ·rcases h3.2 with ⟨rfl, _⟩ | ⟨g', cap, cur, rfl, _, hh, _⟩
  ·simp [Value.ownBlock] at hb
  ·obtain rfl : g' = b := by simpa [Value.ownBlock] using hb
   exact ⟨_, _, _, hh, .inr (.inr rfl)⟩
theorem rtab_fp_not {tb : Nat} {T : TabS} {fp : List Nat} (ht : RTabIn w B tb T fp) {b : Nat} {cs : Array Value} {t : TypeId} {fr : Nat × Nat} (hb : w.heap[b]? = some (.cells cs t fr)) (hn : t ≠ 75 ∧ t ≠ 92 ∧ t ≠ 135) : b ∉ fp := fun hm => by
 obtain ⟨cs', t', fr', h1, h2⟩ := rtab_fp_kind ht hm
 rw [h1] at hb
 injection hb with hb
 injection hb with _ e _
 subst e
 rcases h2 with e | e | e
 ·exact hn.1 e
 ·exact hn.2.1 e
 ·exact hn.2.2 e
theorem RpAt.kinds (H : RpAt w B N h s d) {b : Nat} (hb : b ∈ d.fp h s.F) : B ≤ b ∧ b < w.heap.size := by
 simp only [HpD.fp, fpF, List.mem_cons, List.mem_append, List.mem_flatten, List.mem_flatMap] at hb
 rcases hb with rfl | hb | hb | hb | ⟨f, hf, hb⟩ | ⟨f, hf, hb⟩
 ·exact ⟨H.hB, blk_lt H.blk⟩
 ·exact hp_own_lt H.o1 (aB_own hb)
 ·exact hp_own_lt H.o2 (aB_own hb)
 ·exact hp_own_lt H.o3 (aB_own hb)
 ·obtain ⟨i, hi⟩ := List.getElem?_of_mem hf
  have hl : i < s.T.length := by rw [← H.lf]; exact (List.getElem?_eq_some_iff.1 hi).1
  exact (H.tabs i (d.ps[i]'(by rw [H.lp]; exact hl)) (s.T[i]) f (List.getElem?_eq_getElem _) (List.getElem?_eq_getElem _) hi).base b hb
 ·obtain ⟨cs, _, ho⟩ := (H.fns f hf).cells
  exact hp_own_lt ho (aB_own hb)
theorem RpAt.fpB (H : RpAt w B N h s d) : ∀ b ∈ d.fp h s.F, B ≤ b := fun b hb => (H.kinds hb).1
theorem RpAt.tab (H : RpAt w B N h s d) {i : Nat} {T : TabS} (hi : s.T[i]? = some T) : ∃ p f, d.ps[i]? = some p ∧ d.fps[i]? = some f ∧ RTabIn w B p T f := by
 have hl : i < s.T.length := (List.getElem?_eq_some_iff.1 hi).1
 exact ⟨d.ps[i]'(by rw [H.lp]; exact hl), d.fps[i]'(by rw [H.lf]; exact hl), List.getElem?_eq_getElem _, List.getElem?_eq_getElem _, H.tabs i _ T _ (List.getElem?_eq_getElem _) hi (List.getElem?_eq_getElem _)⟩
theorem RpAt.kept (H : RpAt w B N h s d) {S : List Nat} (hf : Fr S w w') (hd : ∀ b ∈ d.fp h s.F, b ∉ S) (hN : ∀ b ∈ S, N ≤ b) : RpAt w' B N h s d := by
 have hm : ∀ b, b ∈ d.fp h s.F → b ∉ S := hd
 simp only [HpD.fp, fpF, List.mem_cons, List.mem_append, List.mem_flatten, List.mem_flatMap] at hm
 refine ⟨hf.blk H.blk (hm _ (.inl rfl)), hf.own H.o1 (fun g hg => hm _ (.inr (.inl (mem_aB hg)))), hf.own H.o2 (fun g hg => hm _ (.inr (.inr (.inl (mem_aB hg))))), hf.own H.o3 (fun g hg => hm _ (.inr (.inr (.inr (.inl (mem_aB hg)))))), H.lp, H.lf,
  fun i p T f h1 h2 h3 => (H.tabs i p T f h1 h2 h3).kept hf fun b hb => hm _ (.inr (.inr (.inr (.inr (.inl ⟨f, List.mem_of_getElem? h3, hb⟩))))), H.disj, fun f hf' => ?_, H.hB, Nat.le_trans H.wB hf.size, H.nB, H.u0, H.u1, H.u2⟩
 obtain ⟨cs, hc, ho⟩ := (H.fns f hf').cells
 exact ⟨⟨cs, hc, hf.own ho fun g hg => hm _ (.inr (.inr (.inr (.inr (.inr ⟨f, hf', mem_aB hg⟩)))))⟩, (H.fns f hf').ty.stay (hf.to_below (Nat.le_trans H.nB H.wB) hN), (H.fns f hf').len⟩
theorem RpAt.below (H : RpAt w B N h s d) (hb : Below w.heap.size w w') : RpAt w' B N h s d := H.kept (Fr.of_below hb []) (by simp) (by simp)
theorem RpTo.same (H : RpAt w B N h s d) (hb : Below w.heap.size w w') : RpTo w B N h s d s w' := ⟨d, H.below hb, Fr.of_below hb _, fun b hb => .inl hb⟩
end
theorem rtabIn_low {w : World} {B B' tb : Nat} {T : TabS} {fp : List Nat} (h : RTabIn w B tb T fp) (hB : B' ≤ B) : RTabIn w B' tb T fp := by
 obtain ⟨⟨fv, sv, h0, h1, h2, h3⟩, hb⟩ := h
 exact ⟨⟨fv, sv, h0, h1, hp_own_mono h2 hB, hp_own_mono h3 hB⟩, fun b hm => ⟨Nat.le_trans hB (hb b hm).1, (hb b hm).2⟩⟩
def RTabMade (B h : Nat) (L U : Int) (fv cv : Value) (A : Option Addr) (n c : Nat) (xs : List Value) (l : Nat) (w w' : World) : Prop :=
 ∃ g cap tb fp, w'.heap[h]? = some (.cells #[.int .i64 L, .int .i64 U, .slice (some ⟨g, 0, none⟩) (n + 1) cap, fv, cv] 45 (0, 0)) ∧ w'.ownsRow B 70 1 (.slice (some ⟨g, 0, none⟩) (n + 1) cap) (n + 1) (xs ++ [.pointer (some ⟨tb, 0, none⟩)]) ∧ RTabIn w' w.heap.size tb ⟨l, [], []⟩ fp ∧ Fr (h :: (Value.slice A n c).ownBlock.toList) w w' ∧ ((Value.slice A n c).ownBlock = some g ∨ w.heap.size ≤ g) ∧ g ∉ fp

section
variable {w w' : World} {B N h : Nat} {s s' : HpS} {d d' : HpD}
theorem RpAt.rest (H : RpAt w B N h s d) {A : Option Addr} {e : TypeId} (hA : ∀ g ∈ aB A, B ≤ g ∧ ∃ cs fr, w.heap[g]? = some (.cells cs e fr)) (hf : Fr (h :: aB A) w w') (he : e ≠ 75 ∧ e ≠ 92 ∧ e ≠ 135 ∧ e ≠ 3) :
  (∀ (i p : Nat) (T : TabS) (f : List Nat), d.ps[i]? = some p → s.T[i]? = some T → d.fps[i]? = some f → RTabIn w' B p T f) ∧ (∀ f ∈ s.F, FnIn w' B N f) ∧
  (e ≠ 70 → w'.ownsRow B 70 1 (.slice d.A1 s.T.length d.c1) s.T.length (ptrs d.ps)) ∧ (e ≠ 79 → w'.ownsRow B 79 11 (.slice d.A2 s.F.length d.c2) s.F.length (s.F.flatMap fnEnc)) ∧
  (e ≠ 26 → w'.ownsRow B 26 4 (.slice d.A3 s.C.length d.c3) s.C.length (s.C.flatMap vvE)) := by
 have row : ∀ {t : TypeId} {K n : Nat} {v : Value} {xs : List Value}, w.ownsRow B t K v n xs → t ≠ 45 → e ≠ t → w'.ownsRow B t K v n xs := fun ho h1 h2 => hf.own ho fun g hg hm => by
  obtain ⟨cs, fr, hk⟩ := own_kind ho hg
  rcases List.mem_cons.1 hm with rfl | hm
  ·exact kind_ne hk H.blk h1 rfl
  ·obtain ⟨_, cs', fr', hk'⟩ := hA g hm
   exact kind_ne hk' hk h2 rfl
 refine ⟨fun i p T f h1 h2 h3 => ?_, fun f hm => ?_, row H.o1 (by decide), row H.o2 (by decide), row H.o3 (by decide)⟩
 ·have ht := H.tabs i p T f h1 h2 h3
  refine ht.kept hf fun b hb hm => ?_
  rcases List.mem_cons.1 hm with rfl | hm
  ·exact rtab_fp_not ht H.blk ⟨by decide, by decide, by decide⟩ hb
  ·obtain ⟨_, cs', fr', hk'⟩ := hA b hm
   exact rtab_fp_not ht hk' ⟨he.1, he.2.1, he.2.2.1⟩ hb
 ·obtain ⟨cs, hc, ho⟩ := (H.fns f hm).cells
  exact ⟨⟨cs, hc, row ho (by decide) he.2.2.2⟩, (H.fns f hm).ty.stay (hf.to_below (Nat.le_trans H.nB H.wB) fun b hb => by
   rcases List.mem_cons.1 hb with rfl | hb
   ·exact Nat.le_trans H.nB H.hB
   ·exact Nat.le_trans H.nB (hA b hb).1), (H.fns f hm).len⟩
theorem RpAt.k1 (H : RpAt w B N h s d) : ∀ g ∈ aB d.A1, B ≤ g ∧ ∃ cs fr, w.heap[g]? = some (.cells cs 70 fr) := fun g hg => ⟨(hp_own_lt H.o1 (aB_own hg)).1, own_kind H.o1 (aB_own hg)⟩
theorem RpAt.k2 (H : RpAt w B N h s d) : ∀ g ∈ aB d.A2, B ≤ g ∧ ∃ cs fr, w.heap[g]? = some (.cells cs 79 fr) := fun g hg => ⟨(hp_own_lt H.o2 (aB_own hg)).1, own_kind H.o2 (aB_own hg)⟩
theorem RpAt.k3 (H : RpAt w B N h s d) : ∀ g ∈ aB d.A3, B ≤ g ∧ ∃ cs fr, w.heap[g]? = some (.cells cs 26 fr) := fun g hg => ⟨(hp_own_lt H.o3 (aB_own hg)).1, own_kind H.o3 (aB_own hg)⟩
theorem RpAt.charged (H : RpAt w B N h s d) {U' : Int} (hf : Fr [h] w w') (hb : w'.heap[h]? = some (.cells #[.int .i64 s.L, .int .i64 U', .slice d.A1 s.T.length d.c1, .slice d.A2 s.F.length d.c2, .slice d.A3 s.C.length d.c3] 45 (0, 0))) (h0 : 0 ≤ U') (h1 : U' ≤ s.L) :
  RpAt w' B N h { s with U := U' } d := by
 obtain ⟨r1, r2, r3, r4, r5⟩ := H.rest (A := none) (e := 45) (fun g hg => by cases hg) (hf.more fun x hx => .inl hx) ⟨by decide, by decide, by decide, by decide⟩
 exact ⟨hb, r3 (by decide), r4 (by decide), r5 (by decide), H.lp, H.lf, r1, H.disj, r2, H.hB, Nat.le_trans H.wB hf.size, H.nB, h0, h1, H.u2⟩
theorem RpAt.madeT (H : RpAt w B N h s d) {U' : Int} {l : Nat} (hm : RTabMade B h s.L U' (.slice d.A2 s.F.length d.c2) (.slice d.A3 s.C.length d.c3) d.A1 s.T.length d.c1 (ptrs d.ps) l w w') (h0 : 0 ≤ U') (h1 : U' ≤ s.L) :
  RpTo w B N h s d { s with U := U', T := s.T ++ [⟨l, [], []⟩] } w' := by
 obtain ⟨g, cap, tb, fp, m1, m2, m3, m4, m5, m6⟩ := hm
 rw [ownB] at m4
 have hg : g ∈ aB d.A1 ∨ w.heap.size ≤ g := m5.imp (fun e => mem_aB e) id
 obtain ⟨r1, r2, r3, r4, r5⟩ := H.rest (A := d.A1) H.k1 m4 ⟨by decide, by decide, by decide, by decide⟩
 have hfl : ∀ (i : Nat) (f : List Nat), d.fps[i]? = some f → ∀ x ∈ f, x < w.heap.size := fun i f hi x hx => by
  have hl : i < s.T.length := by rw [← H.lf]; exact (List.getElem?_eq_some_iff.1 hi).1
  exact ((H.tabs i (d.ps[i]'(by rw [H.lp]; exact hl)) (s.T[i]) f (List.getElem?_eq_getElem _) (List.getElem?_eq_getElem _) hi).base x hx).2
 refine ⟨{ d with A1 := some ⟨g, 0, none⟩, c1 := cap, ps := d.ps ++ [tb], fps := d.fps ++ [fp] }, ⟨?_, ?_, r4 (by decide), r5 (by decide), by simp [H.lp], by simp [H.lf], ?_, ?_, r2, H.hB, Nat.le_trans H.wB m4.size, H.nB, h0, h1, H.u2⟩, m4.more fun x hx => .inl ?_, ?_⟩
 ·rw [m1]; simp
 ·have : ptrs (d.ps ++ [tb]) = ptrs d.ps ++ [.pointer (some ⟨tb, 0, none⟩)] := by simp [ptrs]
  rw [this]
  simpa using m2
 ·intro i p T f e1 e2 e3
  rcases Nat.lt_or_ge i s.T.length with hi | hi
  ·rw [List.getElem?_append_left (by rw [H.lp]; exact hi)] at e1
   rw [List.getElem?_append_left hi] at e2
   rw [List.getElem?_append_left (by rw [H.lf]; exact hi)] at e3
   exact r1 i p T f e1 e2 e3
  ·have hi2 := (List.getElem?_eq_some_iff.1 e2).1
   obtain rfl : i = s.T.length := by simp at hi2; omega
   rw [List.getElem?_append_right (by rw [H.lp]; exact Nat.le_refl _), H.lp] at e1
   rw [List.getElem?_append_right (Nat.le_refl _)] at e2
   rw [List.getElem?_append_right (by rw [H.lf]; exact Nat.le_refl _), H.lf] at e3
   simp at e1 e2 e3
   subst e1 e2 e3
   exact rtabIn_low m3 H.wB
 ·intro i j f f' hij e1 e2 x hx hx'
  rcases Nat.lt_or_ge i s.T.length with hi | hi
  ·rw [List.getElem?_append_left (by rw [H.lf]; exact hi)] at e1
   rcases Nat.lt_or_ge j s.T.length with hj | hj
   ·rw [List.getElem?_append_left (by rw [H.lf]; exact hj)] at e2
    exact H.disj i j f f' hij e1 e2 x hx hx'
   ·have := List.mem_of_getElem? e2
    rw [List.getElem?_append_right (by rw [H.lf]; exact hj)] at e2
    have e3 := List.mem_of_getElem? e2
    simp at e3
    subst e3
    have h2 := hfl i f e1 x hx
    have h3 := (m3.base x hx').1
    omega
  ·rw [List.getElem?_append_right (by rw [H.lf]; exact hi)] at e1
   have e3 := List.mem_of_getElem? e1
   simp at e3
   subst e3
   rcases Nat.lt_or_ge j s.T.length with hj | hj
   ·rw [List.getElem?_append_left (by rw [H.lf]; exact hj)] at e2
    have h2 := hfl j f' e2 x hx'
    have h3 := (m3.base x hx).1
    omega
   ·have h4 := (List.getElem?_eq_some_iff.1 e1).1
    rw [List.getElem?_append_right (by rw [H.lf]; exact hj)] at e2
    have h5 := (List.getElem?_eq_some_iff.1 e2).1
    simp [H.lf] at h4 h5
    omega
 ·rcases List.mem_cons.1 hx with rfl | hx
  ·exact fp_h _ _ _
  ·exact fp_1 hx
 ·intro b hb
  rcases fp_cases hb with rfl | hy | hy | hy | ⟨f, hf, hy⟩ | ⟨f, hf, hy⟩
  ·exact .inl (fp_h _ _ _)
  ·obtain rfl : b = g := by simpa [aB] using hy
   exact hg.imp fp_1 id
  ·exact .inl (fp_2 hy)
  ·exact .inl (fp_3 hy)
  ·rcases List.mem_append.1 hf with hf | hf
   ·exact .inl (fp_t hf hy)
   ·simp at hf
    subst hf
    exact .inr (m3.base b hy).1
  ·exact .inl (fp_f hf hy)
theorem RpAt.madeF (H : RpAt w B N h s d) {U' : Int} {f : FnS} {g cap : Nat} (hb : w'.heap[h]? = some (.cells #[.int .i64 s.L, .int .i64 U', .slice d.A1 s.T.length d.c1, .slice (some ⟨g, 0, none⟩) (s.F.length + 1) cap, .slice d.A3 s.C.length d.c3] 45 (0, 0)))
  (ho : w'.ownsRow B 79 11 (.slice (some ⟨g, 0, none⟩) (s.F.length + 1) cap) (s.F.length + 1) (s.F.flatMap fnEnc ++ fnEnc f)) (hf : Fr (h :: aB d.A2) w w') (hg : g ∈ aB d.A2 ∨ w.heap.size ≤ g) (hfn : FnIn w' B N f) (h0 : 0 ≤ U') (h1 : U' ≤ s.L) :
  ∃ d', RpAt w' B N h { s with U := U', F := s.F ++ [f] } d' ∧ Fr (d.fp h s.F) w w' ∧ ∀ b ∈ d'.fp h (s.F ++ [f]), b ∈ d.fp h s.F ∨ b ∈ aB f.A ∨ w.heap.size ≤ b := by
 obtain ⟨r1, r2, r3, r4, r5⟩ := H.rest (A := d.A2) H.k2 hf ⟨by decide, by decide, by decide, by decide⟩
 refine ⟨{ d with A2 := some ⟨g, 0, none⟩, c2 := cap }, ⟨?_, r3 (by decide), ?_, r5 (by decide), H.lp, H.lf, r1, H.disj, ?_, H.hB, Nat.le_trans H.wB hf.size, H.nB, h0, h1, H.u2⟩, hf.more fun x hx => .inl ?_, ?_⟩
 ·rw [hb]; simp
 ·simpa using ho
 ·intro x hx
  rcases List.mem_append.1 hx with hx | hx
  ·exact r2 x hx
  ·simp at hx
   subst hx
   exact hfn
 ·rcases List.mem_cons.1 hx with rfl | hx
  ·exact fp_h _ _ _
  ·exact fp_2 hx
 ·intro b hb
  rcases fp_cases hb with rfl | hy | hy | hy | ⟨f, hf, hy⟩ | ⟨f', hf, hy⟩
  ·exact .inl (fp_h _ _ _)
  ·exact .inl (fp_1 hy)
  ·obtain rfl : b = g := by simpa [aB] using hy
   exact hg.elim (fun e => .inl (fp_2 e)) (fun e => .inr (.inr e))
  ·exact .inl (fp_3 hy)
  ·exact .inl (fp_t hf hy)
  ·rcases List.mem_append.1 hf with hf | hf
   ·exact .inl (fp_f hf hy)
   ·simp at hf
    subst hf
    exact .inr (.inl hy)
theorem RpAt.madeC (H : RpAt w B N h s d) {U' : Int} {x : VV} {g cap : Nat} (hb : w'.heap[h]? = some (.cells #[.int .i64 s.L, .int .i64 U', .slice d.A1 s.T.length d.c1, .slice d.A2 s.F.length d.c2, .slice (some ⟨g, 0, none⟩) (s.C.length + 1) cap] 45 (0, 0)))
  (ho : w'.ownsRow B 26 4 (.slice (some ⟨g, 0, none⟩) (s.C.length + 1) cap) (s.C.length + 1) (s.C.flatMap vvE ++ vvE x)) (hf : Fr (h :: aB d.A3) w w') (hg : g ∈ aB d.A3 ∨ w.heap.size ≤ g) (h0 : 0 ≤ U') (h1 : U' ≤ s.L) :
  RpTo w B N h s d { s with U := U', C := s.C ++ [x] } w' := by
 obtain ⟨r1, r2, r3, r4, r5⟩ := H.rest (A := d.A3) H.k3 hf ⟨by decide, by decide, by decide, by decide⟩
 refine ⟨{ d with A3 := some ⟨g, 0, none⟩, c3 := cap }, ⟨?_, r3 (by decide), r4 (by decide), ?_, H.lp, H.lf, r1, H.disj, r2, H.hB, Nat.le_trans H.wB hf.size, H.nB, h0, h1, H.u2⟩, hf.more fun x hx => .inl ?_, ?_⟩
 ·rw [hb]; simp
 ·simpa using ho
 ·rcases List.mem_cons.1 hx with rfl | hx
  ·exact fp_h _ _ _
  ·exact fp_3 hx
 ·intro b hb
  rcases fp_cases hb with rfl | hy | hy | hy | ⟨f, hf, hy⟩ | ⟨f', hf, hy⟩
  ·exact .inl (fp_h _ _ _)
  ·exact .inl (fp_1 hy)
  ·exact .inl (fp_2 hy)
  ·obtain rfl : b = g := by simpa [aB] using hy
   exact hg.imp fp_3 id
  ·exact .inl (fp_t hf hy)
  ·exact .inl (fp_f hf hy)
theorem RpAt.setC (H : RpAt w B N h s d) {C' : List VV} (hl : C'.length = s.C.length) (ho : w'.ownsRow B 26 4 (.slice d.A3 s.C.length d.c3) s.C.length (C'.flatMap vvE)) (hf : Fr (aB d.A3) w w') :
  RpTo w B N h s d { s with C := C' } w' := by
 have hf' : Fr (h :: aB d.A3) w w' := hf.more fun x hx => .inl (List.mem_cons_of_mem _ hx)
 obtain ⟨r1, r2, r3, r4, r5⟩ := H.rest (A := d.A3) H.k3 hf' ⟨by decide, by decide, by decide, by decide⟩
 refine ⟨d, ⟨?_, r3 (by decide), r4 (by decide), ?_, H.lp, H.lf, r1, H.disj, r2, H.hB, Nat.le_trans H.wB hf.size, H.nB, H.u0, H.u1, H.u2⟩, hf.more fun x hx => .inl (fp_3 hx), fun b hb => .inl hb⟩
 ·have := hf.blk H.blk (fun hm => by obtain ⟨_, cs, fr, hk⟩ := H.k3 h hm; exact kind_ne hk H.blk (by decide) rfl)
  rw [this, hl]
 ·rw [hl]; exact ho
theorem RpAt.turnT (H : RpAt w B N h s d) {i p : Nat} {f f' : List Nat} {T' : TabS} (hi : i < s.T.length) (hp : d.ps[i]? = some p) (hff : d.fps[i]? = some f) (ht : RTabIn w' B p T' f') (hf : Fr f w w') (hn : ∀ b ∈ f', b ∈ f ∨ w.heap.size ≤ b) :
  RpTo w B N h s d { s with T := s.T.set i T' } w' := by
 have hT := H.tabs i p (s.T[i]) f hp (List.getElem?_eq_getElem _) hff
 have hfB : ∀ b ∈ f, N ≤ b := fun b hb => Nat.le_trans H.nB (hT.base b hb).1
 have row : ∀ {t : TypeId} {K n : Nat} {v : Value} {xs : List Value}, w.ownsRow B t K v n xs → (t ≠ 75 ∧ t ≠ 92 ∧ t ≠ 135) → w'.ownsRow B t K v n xs := fun ho h1 => hf.own ho fun g hg hm => by
  obtain ⟨cs, fr, hk⟩ := own_kind ho hg
  exact rtab_fp_not hT hk h1 hm
 have hfl : ∀ (j : Nat) (g : List Nat), d.fps[j]? = some g → ∀ x ∈ g, x < w.heap.size := fun j g hj x hx => (H.kinds (fp_t (F := s.F) (List.mem_of_getElem? hj) hx)).2
 refine ⟨{ d with fps := d.fps.set i f' }, ⟨?_, ?_, row H.o2 ⟨by decide, by decide, by decide⟩, row H.o3 ⟨by decide, by decide, by decide⟩, by simp [H.lp], by simp [H.lf], ?_, ?_, ?_, H.hB, Nat.le_trans H.wB hf.size, H.nB, H.u0, H.u1, H.u2⟩, hf.more fun x hx => .inl (fp_t (List.mem_of_getElem? hff) hx), ?_⟩
 ·have := hf.blk H.blk (fun hm => rtab_fp_not hT H.blk ⟨by decide, by decide, by decide⟩ hm)
  simpa using this
 ·simpa using row H.o1 ⟨by decide, by decide, by decide⟩
 ·intro j q T g e1 e2 e3
  rw [List.getElem?_set] at e2 e3
  by_cases hij : i = j
  ·subst hij
   rw [if_pos rfl, if_pos hi] at e2
   rw [if_pos rfl, if_pos (by rw [H.lf]; exact hi)] at e3
   injection e2 with e2
   injection e3 with e3
   subst e2 e3
   rw [hp] at e1
   injection e1 with e1
   subst e1
   exact ht
  ·rw [if_neg hij] at e2 e3
   exact (H.tabs j q T g e1 e2 e3).kept hf fun b hb => H.disj j i g f (fun e => hij e.symm) e3 hff b hb
 ·intro j k g g' hjk e1 e2 x hx hx'
  rw [List.getElem?_set] at e1 e2
  by_cases hj : i = j
  ·rw [if_pos hj, if_pos (by rw [H.lf]; exact hi)] at e1
   rw [if_neg (fun e => hjk (hj.symm.trans e))] at e2
   injection e1 with e1
   subst e1
   rcases hn x hx with h2 | h2
   ·exact H.disj i k f g' (fun e => hjk (hj.symm.trans e)) hff e2 x h2 hx'
   ·have := hfl k g' e2 x hx'
    omega
  ·rw [if_neg hj] at e1
   by_cases hk : i = k
   ·rw [if_pos hk, if_pos (by rw [H.lf]; exact hi)] at e2
    injection e2 with e2
    subst e2
    rcases hn x hx' with h2 | h2
    ·exact H.disj j i g f (fun e => hj e.symm) e1 hff x hx h2
    ·have := hfl j g e1 x hx
     omega
   ·rw [if_neg hk] at e2
    exact H.disj j k g g' hjk e1 e2 x hx hx'
 ·intro g hg
  obtain ⟨cs, hc, ho⟩ := (H.fns g hg).cells
  exact ⟨⟨cs, hc, row ho ⟨by decide, by decide, by decide⟩⟩, (H.fns g hg).ty.stay (hf.to_below (Nat.le_trans H.nB H.wB) hfB), (H.fns g hg).len⟩
 ·intro b hb
  rcases fp_cases hb with rfl | hy | hy | hy | ⟨g, hg, hy⟩ | ⟨g, hg, hy⟩
  ·exact .inl (fp_h _ _ _)
  ·exact .inl (fp_1 hy)
  ·exact .inl (fp_2 hy)
  ·exact .inl (fp_3 hy)
  ·rcases List.mem_or_eq_of_mem_set hg with hg | rfl
   ·exact .inl (fp_t hg hy)
   ·exact (hn b hy).imp (fun e => fp_t (List.mem_of_getElem? hff) e) id
  ·exact .inl (fp_f hg hy)
end
end Go.Proofs.YtilcofpceadpbaaGreatDoor
namespace Go.Proofs.YtilcofpceadpbaaGreatDoor
open Go.ChangeShapes Go.WideShapes Go.ChangeAt Go.RowKit

def FnMade (B h : Nat) (L U : Int) (tv cv : Value) (A : Option Addr) (n c : Nat) (xs : List Value) (f : FnS) (w w' : World) : Prop :=
 ∃ g cap, w'.heap[h]? = some (.cells #[.int .i64 L, .int .i64 U, tv, .slice (some ⟨g, 0, none⟩) (n + 1) cap, cv] 67 (0, 0)) ∧ w'.ownsRow B 79 11 (.slice (some ⟨g, 0, none⟩) (n + 1) cap) (n + 1) (xs ++ fnEnc f) ∧ Fr (h :: (Value.slice A n c).ownBlock.toList) w w' ∧ ((Value.slice A n c).ownBlock = some g ∨ w.heap.size ≤ g)
def newFnV (n : Nat) : Value := .agg #[.int .i64 5, .int .i64 (n : Int), .string ⟨#[]⟩, .int .u64 0]
theorem fnMade_wrap {B h : Nat} {L U : Int} {tv cv : Value} {A : Option Addr} {n c : Nat} {xs : List Value} {f : FnS} {w w1 w2 w' : World} {R : List Nat} (hm : FnMade B h L U tv cv A n c xs f w1 w2) (hF : Fr [h] w w1) (hF2 : Fr R w2 w')
  (hR : ∀ x ∈ R, w.heap.size ≤ x ∧ x < w1.heap.size) (hh : h < w.heap.size) (ho : ∀ g, (Value.slice A n c).ownBlock = some g → g < w.heap.size) : FnMade B h L U tv cv A n c xs f w w' := by
 obtain ⟨g, cap, h1, h2, h4, h5⟩ := hm
 have hg : g ∉ R := fun hm => by
  have hr := hR g hm
  rcases h5 with e | e
  ·have := ho g e; omega
  ·omega
 refine ⟨g, cap, hF2.blk h1 (fun hm => ?_), hF2.own h2 (fun x hx => ?_), ?_, ?_⟩
 ·have := (hR h hm).1; omega
 ·obtain rfl : g = x := by simpa [Value.ownBlock] using hx
  exact hg
 ·exact (((hF.more (S' := h :: (Value.slice A n c).ownBlock.toList) (fun x hx => .inl (by simp at hx; simp [hx]))).trans h4 (fun x hx => .inl hx))).trans hF2 fun x hx => .inr (hR x hx).1
 ·exact h5.imp id fun e => Nat.le_trans hF.size e
set_option maxRecDepth 100000 in
theorem fn1_any {w : World} {B h : Nat} {L U : Int} {tv cv : Value} {A : Option Addr} {n c : Nat} {xs : List Value} (hh : w.heap[h]? = some (.cells #[.int .i64 L, .int .i64 U, tv, .slice A n c, cv] 67 (0, 0))) (ho : w.ownsRow B 79 11 (.slice A n c) n xs) (hn : n ≤ 1000000) (hB : B ≤ w.heap.size) (f : FnS) {b0 b1 : Nat} (k0 : w.heap[b0]? = some (.cells #[.pointer (some ⟨h, 0, none⟩)] 36 (0, 0))) (k1 : w.heap[b1]? = some (.cells #[.int .i64 f.pr, .slice f.A f.n f.c, .int .i64 f.x.kind, .int .i64 f.x.n, .string f.x.s, .int .u64 (f.x.label : Int), .int .i64 f.ty.kind, .slice f.ty.A f.ty.ns.length f.ty.c, .slice f.ty.A2 f.ty.xs.length f.ty.c2, .int .i64 f.ca, .bool f.wr] 79 (0, 0))) (hb1 : w.heap[b1]? = w.heap[b1]? ∧ some b1 ≠ (Value.slice A n c).ownBlock) :
  Calls Tryz.prog 94 #[.pointer (some ⟨b0, 0, none⟩), .pointer (some ⟨b1, 0, none⟩)] w fun e w' => e = .returned (newFnV n) ∧ FnMade B h L U tv cv A n c xs f w w' := by
 obtain ⟨b, hb⟩ : ∃ b, b = w.heap.size := ⟨_, rfl⟩
 have HBE := Lib.hid hb
 have HX := Lib.hid (And.intro hn hB)
 have N0 := Lib.hid (And.intro (blk_ne k0 hh (by decide)) (And.intro (blk_ne k1 hh (by decide)) (And.intro (own_blk_ne ho k0 (by decide)) hb1.2)))
 have HL := Lib.hid (And.intro (blk_lt hh) (And.intro (blk_lt k0) (blk_lt k1)))
 have H0 := Lib.hid hh
 have O0 := Lib.hid ho
 have K0 := Lib.hid k0
 have K1 := Lib.hid k1
 have GL := Lib.hid (fun g (hg : (Value.slice A n c).ownBlock = some g) => (hp_own_lt ho hg).2)
 clear hb hh ho hn hB k0 k1 hb1
 go_enter Tryz.func94, Tryz.ntmps94
 go_upto_region 1 with fail
 rw [← HBE.out]
 refine gen_wp fun W hW => ?_
 have HR := Lib.hid (show W.heap[b]? = some (.cells #[.int .i64 0, .int .i64 0, .string ⟨#[]⟩, .int .u64 0] 26 (0, 0)) by rw [← hW, HBE.out]; exact heap_new_at _ _ _ (by first | rfl | simp))
 have HH := Lib.hid (show W.heap[h]? = some (.cells #[.int .i64 L, .int .i64 U, tv, .slice A n c, cv] 67 (0, 0)) by rw [← hW]; exact blk_alloc H0.out _)
 have HO := Lib.hid (show W.ownsRow B 79 11 (.slice A n c) n xs by rw [← hW]; exact O0.out.alloc _)
 have KW0 := Lib.hid (show W.heap[b0]? = some (.cells #[.pointer (some ⟨h, 0, none⟩)] 36 (0, 0)) by rw [← hW]; exact blk_alloc K0.out _)
 have KW1 := Lib.hid (show W.heap[b1]? = some (.cells #[.int .i64 f.pr, .slice f.A f.n f.c, .int .i64 f.x.kind, .int .i64 f.x.n, .string f.x.s, .int .u64 (f.x.label : Int), .int .i64 f.ty.kind, .slice f.ty.A f.ty.ns.length f.ty.c, .slice f.ty.A2 f.ty.xs.length f.ty.c2, .int .i64 f.ca, .bool f.wr] 79 (0, 0)) by rw [← hW]; exact blk_alloc K1.out _)
 have HW := Lib.hid (show Below w.heap.size w W by rw [← hW]; exact (Below.refl _ _).alloc (Nat.le_refl _) _)
 clear hW
 go_wp2_with fail
 refine wp_region_held_drew (S := fun w' => w'.heap[b0]? = some (.cells #[.pointer (some ⟨h, 0, none⟩)] 36 (0, 0)) ∧ w'.heap[b1]? = some (.cells #[.int .i64 f.pr, .slice f.A f.n f.c, .int .i64 f.x.kind, .int .i64 f.x.n, .string f.x.s, .int .u64 (f.x.label : Int), .int .i64 f.ty.kind, .slice f.ty.A f.ty.ns.length f.ty.c, .slice f.ty.A2 f.ty.xs.length f.ty.c2, .int .i64 f.ca, .bool f.wr] 79 (0, 0))) (by kernel_rfl) (⟨KW0.out, KW1.out⟩) (fun hHeld => ?_)
 refine tk 0 3 (.pointer (some ⟨h, 0, none⟩)) hHeld ?_ (hy := Or.inl ⟨by rfl, fun w' hS => (by have q0 := cell_of_blk (i := 0) hS.1 rfl; go_simp)⟩); simp only [Act.put, zq1, zq2, zq3]
 refine tk 1 4 (.pointer (some ⟨h, 0, none⟩)) hHeld ?_; simp only [Act.put, zq1, zq2, zq3]
 refine tk 2 5 (.pointer (some ⟨h, 3, none⟩)) hHeld ?_; simp only [Act.put, zq1, zq2, zq3]
 refine tk 3 6 (.agg #[.int .i64 f.pr, .slice f.A f.n f.c, .int .i64 f.x.kind, .int .i64 f.x.n, .string f.x.s, .int .u64 (f.x.label : Int), .int .i64 f.ty.kind, .slice f.ty.A f.ty.ns.length f.ty.c, .slice f.ty.A2 f.ty.xs.length f.ty.c2, .int .i64 f.ca, .bool f.wr]) hHeld ?_ (hy := Or.inl ⟨by rfl, fun w' hS => (by have q0 := cell_of_blk (i := 0) hS.2 rfl; have q1 := cell_of_blk (i := 1) hS.2 rfl; have q2 := cell_of_blk (i := 2) hS.2 rfl; have q3 := cell_of_blk (i := 3) hS.2 rfl; have q4 := cell_of_blk (i := 4) hS.2 rfl; have q5 := cell_of_blk (i := 5) hS.2 rfl; have q6 := cell_of_blk (i := 6) hS.2 rfl; have q7 := cell_of_blk (i := 7) hS.2 rfl; have q8 := cell_of_blk (i := 8) hS.2 rfl; have q9 := cell_of_blk (i := 9) hS.2 rfl; have q10 := cell_of_blk (i := 10) hS.2 rfl; go_simp)⟩); simp only [Act.put, zq1, zq2, zq3]
 refine rd 4 fun K hK => ?_
 go_simp
 refine (add_fns (below_blk (Below.refl _ _).drew HH.out) (below_own (Below.refl _ _).drew HO.out) HX.out.1 (Nat.le_trans HX.out.2 (Nat.le_trans HW.out.size (Nat.le_refl _))) f).mono ?_
 rintro e w2 ⟨g, cap, rfl, hh2, ho2, hf2, hg2⟩
 have hf2' : Fr (h :: (Value.slice A n c).ownBlock.toList) W w2 := ((Fr.refl _ W).drew).trans hf2 fun x hx => .inl hx
 have NB := Lib.hid (show ∀ x ∈ h :: (Value.slice A n c).ownBlock.toList, x < b from fun x hx => by
   rw [HBE.out]
   rcases List.mem_cons.1 hx with rfl | hx
   ·exact HL.out.1
   ·exact GL.out x (by simpa using hx))
 have S2 := Lib.hid (And.intro (hf2'.blk KW0.out (by have h1 := N0.out.1; have h2 := N0.out.2.2.1; simp only [List.mem_cons, Option.mem_toList]; rintro (e | e); exact h1 e; exact h2 e.symm)) (And.intro (hf2'.blk KW1.out (by have h1 := N0.out.2.1; have h2 := N0.out.2.2.2; simp only [List.mem_cons, Option.mem_toList]; rintro (e | e); exact h1 e; exact h2 e.symm)) (hf2'.blk HR.out (fun hm => Nat.lt_irrefl _ (NB.out _ hm)))))
 have HH2 := Lib.hid hh2
 have HO2 := Lib.hid ho2
 have HF2 := Lib.hid hf2'
 have HG2 := Lib.hid (show (Value.slice A n c).ownBlock = some g ∨ W.heap.size ≤ g from hg2)
 clear hh2 ho2 hf2 hf2' hg2
 have hb20 := S2.out.2.2
 obtain ⟨r0, r1, r2, r3, rf0, rf1, rf2, rf3, rl⟩ := blk_4 hb20
 clear hb20
 refine hK.out _ _ (⟨S2.out.1, S2.out.2.1⟩) (fun hHeld => ?_)
 clear hK K
 try simp only [Act.put, zq1, zq2, zq3]
 refine tk 5 8 (.agg #[.int .i64 5, .int .i64 (n : Int), .string ⟨#[]⟩, .int .u64 0]) hHeld ?_; simp only [Act.put, zq1, zq2, zq3]
 refine rd 6 fun K hK => ?_
 go_simp
 refine hK.out _ _ (⟨four_far _ _ _ _ S2.out.1 (by rw [HBE.out]; exact Nat.ne_of_lt HL.out.2.1), four_far _ _ _ _ S2.out.2.1 (by rw [HBE.out]; exact Nat.ne_of_lt HL.out.2.2)⟩) (fun hHeld => ?_)
 clear hK K
 try simp only [Act.put, zq1, zq2, zq3]
 refine wpAnyH_done (by kernel_rfl) ?_ _
 go_wp2
 obtain ⟨j0, j1, j2, j3⟩ := four S2.out.2.2 rfl (.int .i64 5) (.int .i64 (n : Int)) (.string ⟨#[]⟩) (.int .u64 0)
 have hnb : ∀ x, x < w.heap.size → x ≠ b := fun x hx => by rw [HBE.out]; exact Nat.ne_of_lt hx
 have hbl : ∀ x ∈ h :: (Value.slice A n c).ownBlock.toList, x < w.heap.size := fun x hx => by rw [← HBE.out]; exact NB.out x hx
 have hgn : g ≠ b := by
  rcases HG2.out with e | e
  ·exact hnb g (hbl g (by rw [e]; simp))
  ·have hb1 := blk_lt HR.out
   omega
 have hF4 := fr_sets (w := w2) (b := b) (.int .i64 5) (.int .i64 (n : Int)) (.string ⟨#[]⟩) (.int .u64 0)
 refine bodyPost_ret (v := newFnV n) (by unfold newFnV; simp [results, Tryz.results94, go_sem, j0, j1, j2, j3]) rfl ?_
 refine ⟨rfl, g, cap, hF4.blk HH2.out (by simpa using hnb h HL.out.1), hF4.own HO2.out (fun x hx => ?_), ?_, ?_⟩
 ·obtain rfl : g = x := by simpa [Value.ownBlock] using hx
  simpa using hgn
 ·refine ((Fr.of_below HW.out (h :: (Value.slice A n c).ownBlock.toList)).trans HF2.out (fun x hx => .inl hx)).trans hF4 fun x hx => .inr ?_
  simp at hx
  rw [hx]
  exact Nat.le_of_eq HBE.out.symm
 ·exact HG2.out.imp id fun e => Nat.le_trans HW.out.size e
set_option maxRecDepth 100000 in
theorem hpaid_fn {w : World} {h b0 b1 : Nat} {L U : Int} {tv fv cv : Value} (n : Int) (K N : Int) (hh : w.heap[h]? = some (.cells #[.int .i64 L, .int .i64 U, tv, fv, cv] 67 (0, 0))) (h0 : 0 ≤ U) (h1 : U ≤ L) (h2 : L ≤ 9223372036854775807) (hn : n ≤ 9223372036854775807) (Q : World → World → Prop) (S : List Nat) (hS : ∀ x ∈ S, x < w.heap.size)
  (HC : ∀ w1, w1.heap[h]? = some (.cells #[.int .i64 L, .int .i64 (U + max n 0), tv, fv, cv] 67 (0, 0)) → Fr [h] w w1 → Calls Tryz.prog 94 #[.pointer (some ⟨b0, 0, none⟩), .pointer (some ⟨b1, 0, none⟩)] w1 fun e w' => e = .returned (.agg #[.int .i64 K, .int .i64 N, .string ⟨#[]⟩, .int .u64 0]) ∧ Q w1 w' ∧ Fr S w1 w') :
  Calls Tryz.prog 53 #[.pointer (some ⟨h, 0, none⟩), .int .i64 n, .func (.func 94) #[] #[.pointer (some ⟨b0, 0, none⟩), .pointer (some ⟨b1, 0, none⟩)]] w (PaidOut h L U n tv fv cv #[.int .i64 K, .int .i64 N, .string ⟨#[]⟩, .int .u64 0] Q w) := by
 obtain ⟨b, hb⟩ : ∃ b, b = w.heap.size := ⟨_, rfl⟩
 have HBE := Lib.hid hb
 have HX := Lib.hid (And.intro h0 (And.intro h1 (And.intro h2 hn)))
 have H0 := Lib.hid hh
 have HS := Lib.hid hS
 have HCL := Lib.hid HC
 have HL := Lib.hid (blk_lt hh)
 clear hb hh h0 h1 h2 hn hS HC
 go_enter Tryz.func53, Tryz.ntmps53
 go_upto_region 1 with fail
 rw [← HBE.out]
 refine gen_wp fun W hW => ?_
 have HR := Lib.hid (show W.heap[b]? = some (.cells #[.int .i64 0, .int .i64 0, .string ⟨#[]⟩, .int .u64 0] 26 (0, 0)) by rw [← hW, HBE.out]; exact heap_new_at _ _ _ (by first | rfl | simp))
 have HH := Lib.hid (show W.heap[h]? = some (.cells #[.int .i64 L, .int .i64 U, tv, fv, cv] 67 (0, 0)) by rw [← hW]; exact blk_alloc H0.out _)
 have HW := Lib.hid (show Below w.heap.size w W by rw [← hW]; exact (Below.refl _ _).alloc (Nat.le_refl _) _)
 clear hW
 go_wp2_with fail
 refine (hcharge_any n HH.out HX.out.1 HX.out.2.1 HX.out.2.2.1 HX.out.2.2.2).mono ?_
 rintro e w1 (⟨hr, rfl, hb1⟩ | ⟨hr, rfl, hh1, hf1⟩)
 ·have HR1 := Lib.hid (below_blk hb1 HR.out)
  have HW1 := Lib.hid (HW.out.trans (hb1.mono HW.out.size))
  have HRR := Lib.hid hr
  clear hb1 hr
  obtain ⟨r0, r1, r2, r3, rf0, rf1, rf2, rf3, rl⟩ := blk_4 HR1.out
  go_wp2
  obtain ⟨j0, j1, j2, j3⟩ := four HR1.out rfl (.int .i64 0) (.int .i64 0) (.string ⟨#[]⟩) (.int .u64 0)
  refine bodyPost_ret (v := .tuple #[.agg #[.int .i64 0, .int .i64 0, .string ⟨#[]⟩, .int .u64 0], .bool false]) (by simp [results, Tryz.results53, go_sem, j0, j1, j2, j3]) rfl ?_
  exact .inl ⟨HRR.out, rfl, (Below.setCell (p := ⟨b, 3, none⟩) (Below.setCell (p := ⟨b, 2, none⟩) (Below.setCell (p := ⟨b, 1, none⟩) (Below.setCell (p := ⟨b, 0, none⟩) HW1.out (Nat.le_of_eq HBE.out.symm) (.int .i64 0)) (Nat.le_of_eq HBE.out.symm) (.int .i64 0)) (Nat.le_of_eq HBE.out.symm) (.string ⟨#[]⟩)) (Nat.le_of_eq HBE.out.symm) (.int .u64 0))⟩
 ·have hF1 : Fr [h] w w1 := (Fr.of_below HW.out [h]).trans hf1 fun x hx => .inl hx
  have hne : b ≠ h := by have := HL.out; have := HBE.out; omega
  have HR1 := Lib.hid (hf1.blk HR.out (by simpa using hne))
  have HH1 := Lib.hid hh1
  have HF1 := Lib.hid hF1
  have HRR := Lib.hid hr
  clear hF1 hf1 hr hh1 hne
  go_wp2_with fail
  refine (HCL.out w1 HH1.out HF1.out).mono ?_
  rintro e w2 ⟨rfl, hq, hf2⟩
  have HR2 := Lib.hid (hf2.blk HR1.out (fun hm => by have := HS.out _ hm; have := HBE.out; omega))
  have HQ := Lib.hid hq
  clear hf2 hq
  obtain ⟨r0, r1, r2, r3, rf0, rf1, rf2, rf3, rl⟩ := blk_4 HR2.out
  go_wp2
  obtain ⟨j0, j1, j2, j3⟩ := four HR2.out rfl (.int .i64 K) (.int .i64 N) (.string ⟨#[]⟩) (.int .u64 0)
  refine bodyPost_ret (v := .tuple #[.agg #[.int .i64 K, .int .i64 N, .string ⟨#[]⟩, .int .u64 0], .bool true]) (by simp [results, Tryz.results53, go_sem, j0, j1, j2, j3]) rfl ?_
  exact .inr ⟨HRR.out, rfl, b, w1, w2, Nat.le_of_eq HBE.out.symm, blk_lt HR1.out, HF1.out, HH1.out, HQ.out, fr_sets _ _ _ _⟩
def FnOut (B h : Nat) (L U k : Int) (tv cv : Value) (A : Option Addr) (n c : Nat) (xs : List Value) (f : FnS) (w : World) (e : Ending) (w' : World) : Prop :=
 (max k 0 > L - U ∧ e = .returned (.tuple #[.agg #[.int .i64 0, .int .i64 0, .string ⟨#[]⟩, .int .u64 0], .bool false]) ∧ Below w.heap.size w w') ∨ (max k 0 ≤ L - U ∧ e = .returned (.tuple #[newFnV n, .bool true]) ∧ FnMade B h L (U + max k 0) tv cv A n c xs f w w')
set_option maxRecDepth 100000 in
theorem hfn_any {w : World} {B h : Nat} {L U : Int} {tv cv : Value} {A : Option Addr} {n c : Nat} {xs : List Value} (hh : w.heap[h]? = some (.cells #[.int .i64 L, .int .i64 U, tv, .slice A n c, cv] 67 (0, 0))) (ho : w.ownsRow B 79 11 (.slice A n c) n xs) (hn : n ≤ 1000000) (hB : B ≤ w.heap.size) (f : FnS) (k : Int) (h0 : 0 ≤ U) (h1 : U ≤ L) (h2 : L ≤ 9223372036854775807) (hk : k ≤ 9223372036854775807) :
  Calls Tryz.prog 52 #[.pointer (some ⟨h, 0, none⟩), .agg #[.int .i64 f.pr, .slice f.A f.n f.c, .int .i64 f.x.kind, .int .i64 f.x.n, .string f.x.s, .int .u64 (f.x.label : Int), .int .i64 f.ty.kind, .slice f.ty.A f.ty.ns.length f.ty.c, .slice f.ty.A2 f.ty.xs.length f.ty.c2, .int .i64 f.ca, .bool f.wr], .int .i64 k] w (FnOut B h L U k tv cv A n c xs f w) := by
 have hmf := hmf_
 obtain ⟨b0, hb0⟩ : ∃ b, b = w.heap.size := ⟨_, rfl⟩
 obtain ⟨b1, hb1⟩ : ∃ b, b = w.heap.size + 1 := ⟨_, rfl⟩
 obtain ⟨b2, hb2⟩ : ∃ b, b = w.heap.size + 1 + 1 := ⟨_, rfl⟩
 have HE0 := Lib.hid hb0
 have HE1 := Lib.hid hb1
 have HE2 := Lib.hid hb2
 have HX := Lib.hid (And.intro h0 (And.intro h1 (And.intro h2 hk)))
 have HY := Lib.hid (And.intro hn hB)
 have HL := Lib.hid (blk_lt hh)
 have GL := Lib.hid (fun g (hg : (Value.slice A n c).ownBlock = some g) => (hp_own_lt ho hg).2)
 have H0 := Lib.hid hh
 have O0 := Lib.hid ho
 clear hb0 hb1 hb2 hh ho hn hB h0 h1 h2 hk
 go_enter Tryz.func52, Tryz.ntmps52
 go_upto_region 1 with fail
 rw [← HE2.out, ← HE1.out, ← HE0.out]
 refine gen_wp fun W hW => ?_
 have HK0 := Lib.hid (show W.heap[b0]? = some (.cells #[.pointer (some ⟨h, 0, none⟩)] 36 (0, 0)) by rw [← hW, HE0.out]; exact blk_alloc (blk_alloc (heap_new_at _ _ _ (by first | rfl | simp)) _) _)
 have HK1 := Lib.hid (show W.heap[b1]? = some (.cells #[.int .i64 f.pr, .slice f.A f.n f.c, .int .i64 f.x.kind, .int .i64 f.x.n, .string f.x.s, .int .u64 (f.x.label : Int), .int .i64 f.ty.kind, .slice f.ty.A f.ty.ns.length f.ty.c, .slice f.ty.A2 f.ty.xs.length f.ty.c2, .int .i64 f.ca, .bool f.wr] 79 (0, 0)) by rw [← hW, HE1.out]; exact blk_alloc (heap_new_at _ _ _ (by first | rfl | simp)) _)
 have HR := Lib.hid (show W.heap[b2]? = some (.cells #[.int .i64 0, .int .i64 0, .string ⟨#[]⟩, .int .u64 0] 26 (0, 0)) by rw [← hW, HE2.out]; exact heap_new_at _ _ _ (by first | rfl | simp))
 have HH := Lib.hid (show W.heap[h]? = some (.cells #[.int .i64 L, .int .i64 U, tv, .slice A n c, cv] 67 (0, 0)) by rw [← hW]; exact blk_alloc (blk_alloc (blk_alloc H0.out _) _) _)
 have HO := Lib.hid (show W.ownsRow B 79 11 (.slice A n c) n xs by rw [← hW]; exact ((O0.out.alloc _).alloc _).alloc _)
 have HW := Lib.hid (show Below w.heap.size w W by rw [← hW]; exact (((Below.refl _ _).alloc (Nat.le_refl _) _).alloc (by simp) _).alloc (by simp; omega) _)
 have HLW := Lib.hid (show W.heap.size = w.heap.size + 3 by rw [← hW]; simp)
 clear hW
 have s0 : W.cell? ⟨b0, 0, none⟩ = some (.pointer (some ⟨h, 0, none⟩)) := cell_of_blk HK0.out rfl
 have sf0 := free_of_blk (i := 0) HK0.out
 have sl := blk_lt HK0.out
 obtain ⟨r0, r1, r2, r3, rf0, rf1, rf2, rf3, rl⟩ := blk_4 HR.out
 have GLW := Lib.hid (show ∀ x ∈ h :: (Value.slice A n c).ownBlock.toList, x < W.heap.size from fun x hx => by
  have := HW.out.size
  rcases List.mem_cons.1 hx with rfl | hx
  ·have := HL.out; omega
  ·have := GL.out x (by simpa using hx); omega)
 have HC := Lib.hid (hpaid_fn (b0 := b0) (b1 := b1) k 5 (n : Int) HH.out HX.out.1 HX.out.2.1 HX.out.2.2.1 HX.out.2.2.2 (fun w1 w2 => FnMade B h L (U + max k 0) tv cv A n c xs f w1 w2) (h :: (Value.slice A n c).ownBlock.toList) GLW.out fun w1 hh1 hf1 => by
  have hne0 : b0 ∉ [h] := by have := HL.out; have := HE0.out; simp; omega
  have hne1 : b1 ∉ [h] := by have := HL.out; have := HE1.out; simp; omega
  have ho1 := hf1.own HO.out fun g hg => by simpa using (Ne.symm (fun e => own_blk_ne HO.out HH.out (by decide) (by rw [hg, e])) : g ≠ h)
  refine (fn1_any hh1 ho1 HY.out.1 (Nat.le_trans HY.out.2 (Nat.le_trans HW.out.size hf1.size)) f (hf1.blk HK0.out hne0) (hf1.blk HK1.out hne1) ⟨rfl, fun e => by have := GL.out b1 e.symm; have := HE1.out; omega⟩).mono ?_
  rintro e w2 ⟨he, hm⟩
  refine ⟨he, hm, ?_⟩
  obtain ⟨_, _, _, _, hfr, _⟩ := hm
  exact hfr)
 go_wp2_with fail
 refine HC.out.mono ?_
 rintro e w1 (⟨hr, rfl, hb1⟩ | ⟨hr, rfl, b, v1, v2, hb1, hb2, hf1, hh1, hq, hf2⟩)
 ·have HR1 := Lib.hid (below_blk hb1 HR.out)
  have HW1 := Lib.hid (HW.out.trans (hb1.mono HW.out.size))
  have HRR := Lib.hid hr
  clear hb1 hr
  obtain ⟨r0, r1, r2, r3, rf0, rf1, rf2, rf3, rl⟩ := blk_4 HR1.out
  go_wp2
  obtain ⟨j0, j1, j2, j3⟩ := four HR1.out rfl (.int .i64 0) (.int .i64 0) (.string ⟨#[]⟩) (.int .u64 0)
  refine bodyPost_ret (v := .tuple #[.agg #[.int .i64 0, .int .i64 0, .string ⟨#[]⟩, .int .u64 0], .bool false]) (by simp [results, Tryz.results52, go_sem, j0, j1, j2, j3]) rfl ?_
  exact .inl ⟨HRR.out, rfl, (Below.setCell (p := ⟨b2, 3, none⟩) (Below.setCell (p := ⟨b2, 2, none⟩) (Below.setCell (p := ⟨b2, 1, none⟩) (Below.setCell (p := ⟨b2, 0, none⟩) HW1.out (show w.heap.size ≤ b2 by have := HE2.out; omega) (.int .i64 0)) (show w.heap.size ≤ b2 by have := HE2.out; omega) (.int .i64 0)) (show w.heap.size ≤ b2 by have := HE2.out; omega) (.string ⟨#[]⟩)) (show w.heap.size ≤ b2 by have := HE2.out; omega) (.int .u64 0))⟩
 ·have hbn : b2 < b := by have := HE2.out; have := HLW.out; omega
  obtain ⟨g, cap, _, _, hfr, _⟩ := id hq
  have HR1 := Lib.hid (hf2.blk (hfr.blk (hf1.blk HR.out (by have := HL.out; have := HE2.out; simp; omega)) (fun hm => by
   have h3 : b2 < w.heap.size := by
    rcases List.mem_cons.1 hm with rfl | hm
    ·exact HL.out
    ·exact GL.out b2 (by simpa using hm)
   have := HE2.out
   omega)) (by simp; omega))
  have HB := Lib.hid (And.intro hb1 hb2)
  have HQ := Lib.hid hq
  have HF1 := Lib.hid hf1
  have HF2 := Lib.hid hf2
  have HRR := Lib.hid hr
  clear hb1 hb2 hq hf1 hf2 hr hh1 hfr hbn
  obtain ⟨r0, r1, r2, r3, rf0, rf1, rf2, rf3, rl⟩ := blk_4 HR1.out
  go_wp2
  obtain ⟨j0, j1, j2, j3⟩ := four HR1.out rfl (.int .i64 5) (.int .i64 (n : Int)) (.string ⟨#[]⟩) (.int .u64 0)
  refine bodyPost_ret (v := .tuple #[newFnV n, .bool true]) (by unfold newFnV; simp [results, Tryz.results52, go_sem, j0, j1, j2, j3]) rfl ?_
  refine .inr ⟨HRR.out, rfl, ?_⟩
  refine fnMade_wrap (R := [b, b2]) HQ.out ((Fr.of_below HW.out [h]).trans HF1.out fun x hx => .inl hx) (((HF2.out.more (S' := [b, b2]) (fun x hx => .inl (by simp at hx; simp [hx])))).trans (fr_sets _ _ _ _) fun x hx => .inl (by simp at hx; simp [hx])) ?_ HL.out GL.out
  intro x hx
  have h4 := HF1.out.size
  have h5 := HLW.out
  have h6 := HE2.out
  have h7 := HB.out
  simp at hx
  rcases hx with rfl | rfl
  ·exact ⟨by omega, h7.2⟩
  ·exact ⟨by omega, by omega⟩
end Go.Proofs.YtilcofpceadpbaaGreatDoor
