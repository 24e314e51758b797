/-
  Chapter 04: the document's Put, whole; its Get, Key, Twin.
-/
import Derived.Test.YthhphjfbdoffhaaTabRPut2
import Derived.Test.YthhphjfbdoffhaaTabRPut3
import Derived.Test.YthhphjfbdoffhaaTabRStamp
set_option linter.unusedVariables false
set_option linter.unusedSimpArgs false
namespace Go.Proofs.Ythhphjfbdoffhaa
open Go.ChangeShapes Go.WideShapes Go.ChangeAt Go.RowKit Go.Maps

theorem rput_nokey {w : World} {B rb : Nat} {T : TabS} {fp : List Nat} (h : RTabIn w B rb T fp) {ctx : Nat} {k v : VV} (hik : isKey k = false) :
    Calls Try.prog 53 #[.pointer (some ⟨rb, 0, none⟩), .int .u64 (ctx : Int), .agg (vvCells k), .agg (vvCells v)] w fun e w' => e = .returned (.int .i64 41) ∧ RTabTo w B rb T fp w' := by
  have hk := fun W => rkey_any k W
  rw [hik] at hk
  have H := Lib.hid h
  have HB0 := Lib.hid ((((Below.refl w.heap.size w).alloc (Nat.le_refl _) (.cells (vvCells k) 25)).alloc (by simp) (.cells (vvCells v) 25)))
  unfold vvCells at hk HB0 ⊢
  have HK := Lib.hid hk
  clear hk h
  go_enter Try.func53, Try.ntmps53
  go_wp2_with fail
  refine (HK.out _).mono ?_
  rintro e w1 ⟨rfl, hb1⟩
  have HB := Lib.hid (HB0.out.trans (hb1.mono (by simp; omega)))
  clear hb1
  go_wp2
  go_ret
  exact ⟨rfl, RTabTo.same H.out HB.out⟩
theorem rput_any {w : World} {B rb : Nat} {T : TabS} {fp : List Nat} (h : RTabIn w B rb T fp) (ok : TabOk T) {ctx : Nat} {k v : VV} (hc : ctx < 18446744073709551616) (kk : VOk k) (kv : VOk v) (hb : (T.F.length + T.S.length + 1) * 80 ≤ 140737488355328) :
    Calls Try.prog 53 #[.pointer (some ⟨rb, 0, none⟩), .int .u64 (ctx : Int), .agg (vvCells k), .agg (vvCells v)] w fun e w' => e = .returned (.int .i64 (doPut T ctx k v).1) ∧ RTabTo w B rb (doPut T ctx k v).2 fp w' := by
  unfold doPut
  cases hik : isKey k
  · simpa using rput_nokey h hik
  · cases hst : (decide (k.kind = 3) && !allowsB T.S k.s v.kind)
    · simp only [Bool.true_eq_false, Bool.false_eq_true, if_false]
      cases hf : findF T.F k with
      | some i =>
        obtain ⟨_, f, hfi, _⟩ := findF_some hf
        simp only [hfi]
        cases hfl : flowsB (ctx ||| k.label) f.2.label
        · simpa using rput_no h ok hc kk kv hb hik hfi (findI_some hf) hfl hst
        · simpa using rput_set h ok hc kk kv hb hik hfi (findI_some hf) hfl hst
      | none =>
        simp only
        cases hfl : flowsB (ctx ||| k.label) T.l
        · simpa using rput_appno h ok hc kk kv hb hik (findI_none hf) hfl hst
        · simpa using rput_app h ok hc kk kv hb hik (findI_none hf) hfl hst
    · simpa using rput_bad h ok hc kk kv hb hik hst
set_option maxRecDepth 100000 in
set_option maxHeartbeats 4000000 in
theorem rget_any {w : World} {B rb : Nat} {T : TabS} {fp : List Nat} (h : RTabIn w B rb T fp) (ok : TabOk T) {k : VV} (kk : VOk k) (hnF : T.F.length ≤ 9223372036854775807) :
    Calls Try.prog 54 #[.pointer (some ⟨rb, 0, none⟩), .agg (vvCells k)] w (RetB (.agg (vvCells (withV (getV T.F k) (k.label ||| T.l)))) w) := by
  have hb3 := (((Below.refl w.heap.size w).alloc (Nat.le_refl _) (.cells (vvCells k) 25)).alloc (by simp) (.cells (vvCells noneV) 25)).alloc (by simp; omega) (.cells (vvCells noneV) 25)
  have h' := h.kept (Fr.of_below hb3 []) (by simp)
  have hf := rfind_any h' k hnF
  have HB3 := Lib.hid hb3
  have hjl : k.label ||| T.l < 18446744073709551616 := Nat.or_lt_two_pow (n := 64) kk.label ok.l
  have HJ := Lib.hid (fun W => rjoin_any k.label T.l W kk.label ok.l)
  obtain ⟨⟨fv, sv, _, h1, h2, _⟩, _⟩ := id h
  have H1 := Lib.hid h1
  cases hF : findF T.F k with
  | some i =>
    obtain ⟨_, f, hfi, _⟩ := findF_some hF
    rw [findI_some hF] at hf
    have hg : getV T.F k = f.2 := by unfold getV; rw [hF]; simp only [hfi]
    rw [hg]
    have hw := fun W => rwith_any f.2 (k.label ||| T.l) W (ok.vOk f (List.mem_of_getElem? hfi)).label hjl
    generalize withV f.2 (k.label ||| T.l) = R at hw ⊢
    obtain ⟨ad, c, ct1, hal, hfd, _, _⟩ := rtab_elem h hfi
    obtain rfl : fv = .slice (some ad) T.F.length c := by have := (cell_of_blk (i := 1) h1 rfl).symm.trans ct1; simpa using this
    have hil : (i : Int) < (T.F.length : Int) := by have := (List.getElem?_eq_some_iff.1 hfi).1; omega
    have hi0 : (0 : Int) ≤ i := by omega
    have hll : (ad.add (i * 8)).block < w.heap.size := by rw [block_add']; exact hal
    have HF := Lib.hid hf
    have HW := Lib.hid hw
    have HFD := Lib.hid hfd
    clear hf hw h1 h2 h' hb3 hfi hfd ct1 h ok
    unfold vvCells noneV at *
    go_enter Try.func54, Try.ntmps54
    go_wp2_with fail
    refine HF.out.mono ?_
    rintro e w1 ⟨rfl, hb1⟩
    have HB0 := Lib.hid (HB3.out.trans (hb1.mono (by simp; omega)))
    have u0 := below_blk hb1 (blk_alloc (blk_alloc (heap_alloc_new w _) _) _)
    have u1 := below_blk hb1 (blk_alloc (heap_new_at _ _ (w.heap.size + 1) (by simp)) _)
    have u2 := below_blk hb1 (heap_new_at _ _ (w.heap.size + 1 + 1) (by simp))
    have u3 := below_blk HB0.out H1.out
    have t1 := cell_of_blk (i := 1) u3 rfl
    have z0 := free_of_blk (i := 0) u2
    have z1 := free_of_blk (i := 1) u2
    have z2 := free_of_blk (i := 2) u2
    have z3 := free_of_blk (i := 3) u2
    have y0 := cell_of_blk (i := 0) u2 rfl
    have y1 := cell_of_blk (i := 1) u2 rfl
    have y2 := cell_of_blk (i := 2) u2 rfl
    have y3 := cell_of_blk (i := 3) u2 rfl
    obtain ⟨_, _, _, _, e0, e1, e2, e3⟩ := HFD.out.below HB0.out hll
    have l3 := blk_lt u3
    have l2 := blk_lt u2
    have P0 := Lib.hid u0
    have P1 := Lib.hid u1
    have P2 := Lib.hid u2
    have P3 := Lib.hid u3
    have htw : rb < w.heap.size := blk_lt H1.out
    clear u0 u1 u2 u3 hb1
    go_wp2_with fail
    refine gen_wp fun W hW => ?_
    have ne0 : w.heap.size ≠ w.heap.size + 1 + 1 := by omega
    have ne2 : w.heap.size + 1 ≠ w.heap.size + 1 + 1 := by omega
    have ne3 : rb ≠ w.heap.size + 1 + 1 := by omega
    have U0 := Lib.hid (show W.heap[w.heap.size]? = some (.cells #[.int .i64 k.kind, .int .i64 k.n, .string k.s, .int .u64 (k.label : Int)] 25 (0, 0)) by rw [← hW]; exact blk_far (blk_far (blk_far (blk_far P0.out ne0 _) ne0 _) ne0 _) ne0 _)
    have U1 := Lib.hid (show W.heap[w.heap.size + 1]? = some (.cells #[.int .i64 0, .int .i64 0, .string ⟨#[]⟩, .int .u64 0] 25 (0, 0)) by rw [← hW]; exact blk_far (blk_far (blk_far (blk_far P1.out ne2 _) ne2 _) ne2 _) ne2 _)
    have U2 := Lib.hid (show W.heap[w.heap.size + 1 + 1]? = some (.cells #[.int .i64 f.2.kind, .int .i64 f.2.n, .string f.2.s, .int .u64 (f.2.label : Int)] 25 (0, 0)) by rw [← hW]; exact blk_set (i := 3) (blk_set (i := 2) (blk_set (i := 1) (blk_set (i := 0) P2.out _) _) _) _)
    have U3 := Lib.hid (show W.heap[rb]? = some (.cells #[.int .u64 (T.l : Int), .slice (some ad) T.F.length c, sv] 50 (0, 0)) by rw [← hW]; exact blk_far (blk_far (blk_far (blk_far P3.out ne3 _) ne3 _) ne3 _) ne3 _)
    have HB := Lib.hid (show Below w.heap.size w W by rw [← hW]; (repeat' (first | exact HB0.out | refine Below.setCell ?_ ?_ _ | (simp; done) | (simp; omega))))
    have l3 := blk_lt U3.out
    have l2 := blk_lt U2.out
    clear hW z0 z1 z2 z3 y0 y1 y2 y3 e0 e1 e2 e3 t1 P0 P1 P2 P3 HB0 ne0 ne2 ne3
    refine wp_region_noPanic ?_
    refine wp_region_held_drew (S := fun w' => w'.heap[w.heap.size]? = some (.cells #[.int .i64 k.kind, .int .i64 k.n, .string k.s, .int .u64 (k.label : Int)] 25 (0, 0)) ∧ w'.heap[w.heap.size + 1 + 1]? = some (.cells #[.int .i64 f.2.kind, .int .i64 f.2.n, .string f.2.s, .int .u64 (f.2.label : Int)] 25 (0, 0)) ∧ w'.heap[rb]? = some (.cells #[.int .u64 (T.l : Int), .slice (some ad) T.F.length c, sv] 50 (0, 0))) (by kernel_rfl) (⟨U0.out, U2.out, U3.out⟩) (fun hHeld => ?_)
    refine wpAnyH_take (i := 0) (oi := _) (v := .agg #[.int .i64 f.2.kind, .int .i64 f.2.n, .string f.2.s, .int .u64 (f.2.label : Int)]) rfl (by kernel_rfl) (by kernel_rfl) (by kernel_rfl) (fun _ _ _ h => h) (Or.inl ⟨by rfl, fun w' hS => (by obtain ⟨s0, s2, s3⟩ := hS; have q0 := cell_of_blk (i := 0) s2 rfl; have q1 := cell_of_blk (i := 1) s2 rfl; have q2 := cell_of_blk (i := 2) s2 rfl; have q3 := cell_of_blk (i := 3) s2 rfl; go_simp)⟩) hHeld ?_
    change wpAnyH _ _ _ _ _ _ _ (Act.put _ (some 21) _) _
    try simp only [Act.put, List.setIfInBounds_toArray, List.set_cons_zero, List.set_cons_succ]
    refine wpAnyH_take (i := 1) (oi := _) (v := .pointer (some ⟨w.heap.size, 3, none⟩)) rfl (by kernel_rfl) (by kernel_rfl) (by kernel_rfl) (fun _ _ _ h => h) (Or.inl ⟨by rfl, fun w' hS => (by go_simp)⟩) hHeld ?_
    change wpAnyH _ _ _ _ _ _ _ (Act.put _ (some 22) _) _
    try simp only [Act.put, List.setIfInBounds_toArray, List.set_cons_zero, List.set_cons_succ]
    refine wpAnyH_take (i := 2) (oi := _) (v := .int .u64 (k.label : Int)) rfl (by kernel_rfl) (by kernel_rfl) (by kernel_rfl) (fun _ _ _ h => h) (Or.inl ⟨by rfl, fun w' hS => (by obtain ⟨s0, s2, s3⟩ := hS; have q := cell_of_blk (i := 3) s0 rfl; go_simp)⟩) hHeld ?_
    change wpAnyH _ _ _ _ _ _ _ (Act.put _ (some 23) _) _
    try simp only [Act.put, List.setIfInBounds_toArray, List.set_cons_zero, List.set_cons_succ]
    refine wpAnyH_take (i := 3) (oi := _) (v := .pointer (some ⟨rb, 0, none⟩)) rfl (by kernel_rfl) (by kernel_rfl) (by kernel_rfl) (fun _ _ _ h => h) (Or.inl ⟨by rfl, fun w' hS => (by go_simp)⟩) hHeld ?_
    change wpAnyH _ _ _ _ _ _ _ (Act.put _ (some 24) _) _
    try simp only [Act.put, List.setIfInBounds_toArray, List.set_cons_zero, List.set_cons_succ]
    refine wpAnyH_take (i := 4) (oi := _) (v := .pointer (some ⟨rb, 0, none⟩)) rfl (by kernel_rfl) (by kernel_rfl) (by kernel_rfl) (fun _ _ _ h => h) (Or.inl ⟨by rfl, fun w' hS => (by go_simp)⟩) hHeld ?_
    change wpAnyH _ _ _ _ _ _ _ (Act.put _ (some 25) _) _
    try simp only [Act.put, List.setIfInBounds_toArray, List.set_cons_zero, List.set_cons_succ]
    refine wpAnyH_take (i := 5) (oi := _) (v := .pointer (some ⟨rb, 0, none⟩)) rfl (by kernel_rfl) (by kernel_rfl) (by kernel_rfl) (fun _ _ _ h => h) (Or.inl ⟨by rfl, fun w' hS => (by go_simp)⟩) hHeld ?_
    change wpAnyH _ _ _ _ _ _ _ (Act.put _ (some 26) _) _
    try simp only [Act.put, List.setIfInBounds_toArray, List.set_cons_zero, List.set_cons_succ]
    refine wpAnyH_take (i := 6) (oi := _) (v := .int .u64 (T.l : Int)) rfl (by kernel_rfl) (by kernel_rfl) (by kernel_rfl) (fun _ _ _ h => h) (Or.inl ⟨by rfl, fun w' hS => (by obtain ⟨s0, s2, s3⟩ := hS; have q := cell_of_blk (i := 0) s3 rfl; go_simp)⟩) hHeld ?_
    change wpAnyH _ _ _ _ _ _ _ (Act.put _ (some 27) _) _
    try simp only [Act.put, List.setIfInBounds_toArray, List.set_cons_zero, List.set_cons_succ]
    refine wpAnyH_ready (rs := [7]) (by kernel_rfl) (by simp) ?_
    refine AllReadyH.cons (o := _) rfl (fun K hK => ?_) AllReadyH.nil
    go_simp
    refine (HJ.out _).mono ?_
    rintro e w9 ⟨rfl, rfl⟩
    refine hK.out _ _ ⟨blk_drew U0.out, blk_drew U2.out, blk_drew U3.out⟩ (fun hHeld => ?_)
    clear hK K
    try simp only [Act.put, List.setIfInBounds_toArray, List.set_cons_zero, List.set_cons_succ]
    refine wpAnyH_ready (rs := [8]) (by kernel_rfl) (by simp) ?_
    refine AllReadyH.cons (o := _) rfl (fun K hK => ?_) AllReadyH.nil
    go_simp
    refine (HW.out _).mono ?_
    rintro e w2 ⟨rfl, hb2⟩
    have V0 := Lib.hid (below_blk hb2 (blk_drew (blk_drew U0.out)))
    have V1 := Lib.hid (below_blk hb2 (blk_drew (blk_drew U1.out)))
    have V2 := Lib.hid (below_blk hb2 (blk_drew (blk_drew U2.out)))
    have V3 := Lib.hid (below_blk hb2 (blk_drew (blk_drew U3.out)))
    have HB2 := Lib.hid (HB.out.drew.trans (hb2.mono HB.out.size))
    clear hb2
    refine hK.out _ _ ⟨V0.out, V2.out, V3.out⟩ (fun hHeld => ?_)
    clear hK K
    try simp only [Act.put, List.setIfInBounds_toArray, List.set_cons_zero, List.set_cons_succ]
    have v1 := V1.out
    have y0 := cell_of_blk (i := 0) v1 rfl
    have z0 := free_of_blk (i := 0) v1
    have y1 := cell_of_blk (i := 1) v1 rfl
    have z1 := free_of_blk (i := 1) v1
    have y2 := cell_of_blk (i := 2) v1 rfl
    have z2 := free_of_blk (i := 2) v1
    have y3 := cell_of_blk (i := 3) v1 rfl
    have z3 := free_of_blk (i := 3) v1
    clear v1
    have ne0 : w.heap.size ≠ w.heap.size + 1 := by omega
    have ne2 : w.heap.size + 1 + 1 ≠ w.heap.size + 1 := by omega
    have ne3 : rb ≠ w.heap.size + 1 := by omega
    refine wpAnyH_ready (rs := [9]) (by kernel_rfl) (by simp) ?_
    refine AllReadyH.cons (o := _) rfl (fun K hK => ?_) AllReadyH.nil
    go_simp
    refine hK.out _ _ ⟨blk_far (blk_far (blk_far (blk_far V0.out ne0 _) ne0 _) ne0 _) ne0 _, blk_far (blk_far (blk_far (blk_far V2.out ne2 _) ne2 _) ne2 _) ne2 _, blk_far (blk_far (blk_far (blk_far V3.out ne3 _) ne3 _) ne3 _) ne3 _⟩ (fun hHeld => ?_)
    clear hK K
    try simp only [Act.put, List.setIfInBounds_toArray, List.set_cons_zero, List.set_cons_succ]
    refine wpAnyH_done (by kernel_rfl) ?_ _
    refine NoPanic.normal ?_
    go_wp2
    exact bodyPost_ret (v := .agg #[.int .i64 R.kind, .int .i64 R.n, .string R.s, .int .u64 (R.label : Int)]) (by simp [results, Try.results54, go_sem, Lib.cell_of_heap (blk_set (blk_set (blk_set (blk_set V1.out _) _) _) _)]) rfl ⟨by first | rfl | simp, (by repeat' (first | exact HB2.out | refine Below.drew ?_ | refine Below.setCell ?_ ?_ _ | (simp; done) | (simp; omega)))⟩
  | none =>
    have hg : getV T.F k = noneV := by unfold getV; rw [hF]
    rw [hg]
    rw [findI_none hF] at hf
    have hw := fun W => rwith_any noneV (k.label ||| T.l) W (by decide) hjl
    generalize withV noneV (k.label ||| T.l) = R at hw ⊢
    have HF := Lib.hid hf
    have HW := Lib.hid hw
    clear hf hw h1 h2 h' hb3 h ok
    unfold vvCells noneV at *
    go_enter Try.func54, Try.ntmps54
    go_wp2_with fail
    refine HF.out.mono ?_
    rintro e w1 ⟨rfl, hb1⟩
    have HB := Lib.hid (HB3.out.trans (hb1.mono (by simp; omega)))
    have U0 := Lib.hid (below_blk hb1 (blk_alloc (blk_alloc (heap_alloc_new w _) _) _))
    have U1 := Lib.hid (below_blk hb1 (blk_alloc (heap_new_at _ _ (w.heap.size + 1) (by simp)) _))
    have U2 := Lib.hid (below_blk hb1 (heap_new_at _ _ (w.heap.size + 1 + 1) (by simp)))
    have U3 := Lib.hid (below_blk HB.out H1.out)
    have l3 := blk_lt U3.out
    have l2 := blk_lt U2.out
    have htw : rb < w.heap.size := blk_lt H1.out
    clear hb1
    go_wp2_with fail
    refine wp_region_noPanic ?_
    refine wp_region_held_drew (S := fun w' => w'.heap[w.heap.size]? = some (.cells #[.int .i64 k.kind, .int .i64 k.n, .string k.s, .int .u64 (k.label : Int)] 25 (0, 0)) ∧ w'.heap[w.heap.size + 1 + 1]? = some (.cells #[.int .i64 0, .int .i64 0, .string ⟨#[]⟩, .int .u64 0] 25 (0, 0)) ∧ w'.heap[rb]? = some (.cells #[.int .u64 (T.l : Int), fv, sv] 50 (0, 0))) (by kernel_rfl) (⟨U0.out, U2.out, U3.out⟩) (fun hHeld => ?_)
    refine wpAnyH_take (i := 0) (oi := _) (v := .agg #[.int .i64 0, .int .i64 0, .string ⟨#[]⟩, .int .u64 0]) rfl (by kernel_rfl) (by kernel_rfl) (by kernel_rfl) (fun _ _ _ h => h) (Or.inl ⟨by rfl, fun w' hS => (by obtain ⟨s0, s2, s3⟩ := hS; have q0 := cell_of_blk (i := 0) s2 rfl; have q1 := cell_of_blk (i := 1) s2 rfl; have q2 := cell_of_blk (i := 2) s2 rfl; have q3 := cell_of_blk (i := 3) s2 rfl; go_simp)⟩) hHeld ?_
    change wpAnyH _ _ _ _ _ _ _ (Act.put _ (some 21) _) _
    try simp only [Act.put, List.setIfInBounds_toArray, List.set_cons_zero, List.set_cons_succ]
    refine wpAnyH_take (i := 1) (oi := _) (v := .pointer (some ⟨w.heap.size, 3, none⟩)) rfl (by kernel_rfl) (by kernel_rfl) (by kernel_rfl) (fun _ _ _ h => h) (Or.inl ⟨by rfl, fun w' hS => (by go_simp)⟩) hHeld ?_
    change wpAnyH _ _ _ _ _ _ _ (Act.put _ (some 22) _) _
    try simp only [Act.put, List.setIfInBounds_toArray, List.set_cons_zero, List.set_cons_succ]
    refine wpAnyH_take (i := 2) (oi := _) (v := .int .u64 (k.label : Int)) rfl (by kernel_rfl) (by kernel_rfl) (by kernel_rfl) (fun _ _ _ h => h) (Or.inl ⟨by rfl, fun w' hS => (by obtain ⟨s0, s2, s3⟩ := hS; have q := cell_of_blk (i := 3) s0 rfl; go_simp)⟩) hHeld ?_
    change wpAnyH _ _ _ _ _ _ _ (Act.put _ (some 23) _) _
    try simp only [Act.put, List.setIfInBounds_toArray, List.set_cons_zero, List.set_cons_succ]
    refine wpAnyH_take (i := 3) (oi := _) (v := .pointer (some ⟨rb, 0, none⟩)) rfl (by kernel_rfl) (by kernel_rfl) (by kernel_rfl) (fun _ _ _ h => h) (Or.inl ⟨by rfl, fun w' hS => (by go_simp)⟩) hHeld ?_
    change wpAnyH _ _ _ _ _ _ _ (Act.put _ (some 24) _) _
    try simp only [Act.put, List.setIfInBounds_toArray, List.set_cons_zero, List.set_cons_succ]
    refine wpAnyH_take (i := 4) (oi := _) (v := .pointer (some ⟨rb, 0, none⟩)) rfl (by kernel_rfl) (by kernel_rfl) (by kernel_rfl) (fun _ _ _ h => h) (Or.inl ⟨by rfl, fun w' hS => (by go_simp)⟩) hHeld ?_
    change wpAnyH _ _ _ _ _ _ _ (Act.put _ (some 25) _) _
    try simp only [Act.put, List.setIfInBounds_toArray, List.set_cons_zero, List.set_cons_succ]
    refine wpAnyH_take (i := 5) (oi := _) (v := .pointer (some ⟨rb, 0, none⟩)) rfl (by kernel_rfl) (by kernel_rfl) (by kernel_rfl) (fun _ _ _ h => h) (Or.inl ⟨by rfl, fun w' hS => (by go_simp)⟩) hHeld ?_
    change wpAnyH _ _ _ _ _ _ _ (Act.put _ (some 26) _) _
    try simp only [Act.put, List.setIfInBounds_toArray, List.set_cons_zero, List.set_cons_succ]
    refine wpAnyH_take (i := 6) (oi := _) (v := .int .u64 (T.l : Int)) rfl (by kernel_rfl) (by kernel_rfl) (by kernel_rfl) (fun _ _ _ h => h) (Or.inl ⟨by rfl, fun w' hS => (by obtain ⟨s0, s2, s3⟩ := hS; have q := cell_of_blk (i := 0) s3 rfl; go_simp)⟩) hHeld ?_
    change wpAnyH _ _ _ _ _ _ _ (Act.put _ (some 27) _) _
    try simp only [Act.put, List.setIfInBounds_toArray, List.set_cons_zero, List.set_cons_succ]
    refine wpAnyH_ready (rs := [7]) (by kernel_rfl) (by simp) ?_
    refine AllReadyH.cons (o := _) rfl (fun K hK => ?_) AllReadyH.nil
    go_simp
    refine (HJ.out _).mono ?_
    rintro e w9 ⟨rfl, rfl⟩
    refine hK.out _ _ ⟨blk_drew U0.out, blk_drew U2.out, blk_drew U3.out⟩ (fun hHeld => ?_)
    clear hK K
    try simp only [Act.put, List.setIfInBounds_toArray, List.set_cons_zero, List.set_cons_succ]
    refine wpAnyH_ready (rs := [8]) (by kernel_rfl) (by simp) ?_
    refine AllReadyH.cons (o := _) rfl (fun K hK => ?_) AllReadyH.nil
    go_simp
    refine (HW.out _).mono ?_
    rintro e w2 ⟨rfl, hb2⟩
    have V0 := Lib.hid (below_blk hb2 (blk_drew (blk_drew U0.out)))
    have V1 := Lib.hid (below_blk hb2 (blk_drew (blk_drew U1.out)))
    have V2 := Lib.hid (below_blk hb2 (blk_drew (blk_drew U2.out)))
    have V3 := Lib.hid (below_blk hb2 (blk_drew (blk_drew U3.out)))
    have HB2 := Lib.hid (HB.out.drew.trans (hb2.mono HB.out.size))
    clear hb2
    refine hK.out _ _ ⟨V0.out, V2.out, V3.out⟩ (fun hHeld => ?_)
    clear hK K
    try simp only [Act.put, List.setIfInBounds_toArray, List.set_cons_zero, List.set_cons_succ]
    have v1 := V1.out
    have y0 := cell_of_blk (i := 0) v1 rfl
    have z0 := free_of_blk (i := 0) v1
    have y1 := cell_of_blk (i := 1) v1 rfl
    have z1 := free_of_blk (i := 1) v1
    have y2 := cell_of_blk (i := 2) v1 rfl
    have z2 := free_of_blk (i := 2) v1
    have y3 := cell_of_blk (i := 3) v1 rfl
    have z3 := free_of_blk (i := 3) v1
    clear v1
    have ne0 : w.heap.size ≠ w.heap.size + 1 := by omega
    have ne2 : w.heap.size + 1 + 1 ≠ w.heap.size + 1 := by omega
    have ne3 : rb ≠ w.heap.size + 1 := by omega
    refine wpAnyH_ready (rs := [9]) (by kernel_rfl) (by simp) ?_
    refine AllReadyH.cons (o := _) rfl (fun K hK => ?_) AllReadyH.nil
    go_simp
    refine hK.out _ _ ⟨blk_far (blk_far (blk_far (blk_far V0.out ne0 _) ne0 _) ne0 _) ne0 _, blk_far (blk_far (blk_far (blk_far V2.out ne2 _) ne2 _) ne2 _) ne2 _, blk_far (blk_far (blk_far (blk_far V3.out ne3 _) ne3 _) ne3 _) ne3 _⟩ (fun hHeld => ?_)
    clear hK K
    try simp only [Act.put, List.setIfInBounds_toArray, List.set_cons_zero, List.set_cons_succ]
    refine wpAnyH_done (by kernel_rfl) ?_ _
    refine NoPanic.normal ?_
    go_wp2
    exact bodyPost_ret (v := .agg #[.int .i64 R.kind, .int .i64 R.n, .string R.s, .int .u64 (R.label : Int)]) (by simp [results, Try.results54, go_sem, Lib.cell_of_heap (blk_set (blk_set (blk_set (blk_set V1.out _) _) _) _)]) rfl ⟨by first | rfl | simp, (by repeat' (first | exact HB2.out | refine Below.drew ?_ | refine Below.setCell ?_ ?_ _ | (simp; done) | (simp; omega)))⟩
set_option maxRecDepth 100000 in
set_option maxHeartbeats 1000000 in
theorem rkeyn_any {w : World} {B rb : Nat} {T : TabS} {fp : List Nat} (h : RTabIn w B rb T fp) (n : Int) (hn : -9223372036854775808 ≤ n ∧ n ≤ 9223372036854775807) : Calls Try.prog 55 #[.pointer (some ⟨rb, 0, none⟩), .int .i64 n] w fun e w' => (∃ k b, e = .returned (.tuple #[.agg (vvCells k), .bool b])) ∧ Below w.heap.size w w' := by
  obtain ⟨⟨fv, sv, _, t1, t2, _⟩, _⟩ := h
  obtain ⟨A, c, rfl, _, _, hA, hr⟩ := own_reads t2
  have c1 : w.cell? ⟨rb, 1, none⟩ = some (.slice A T.F.length c) := cell_of_blk t1 rfl
  have htl := blk_lt t1
  by_cases h1 : n < 1
  · clear t1 t2 hr
    go_enter Try.func55, Try.ntmps55
    go_wp2
    exact bodyPost_ret (v := .tuple #[.agg (vvCells ⟨0, 0, ⟨#[]⟩, 0⟩), .bool false]) (by simp [results, Try.results55, go_sem, vvCells]) rfl ⟨(by first | exact ⟨_, _, rfl⟩ | exact ⟨_, .inl rfl⟩ | exact ⟨_, .inr rfl⟩), (Below.refl _ _).alloc (Nat.le_refl _) _⟩
  by_cases h2 : (T.F.length : Int) < n
  · clear t1 t2 hr
    go_enter Try.func55, Try.ntmps55
    go_wp2
    exact bodyPost_ret (v := .tuple #[.agg (vvCells ⟨0, 0, ⟨#[]⟩, 0⟩), .bool false]) (by simp [results, Try.results55, go_sem, vvCells]) rfl ⟨(by first | exact ⟨_, _, rfl⟩ | exact ⟨_, .inl rfl⟩ | exact ⟨_, .inr rfl⟩), (Below.refl _ _).alloc (Nat.le_refl _) _⟩
  · obtain ⟨k, rfl⟩ : ∃ k : Nat, n = (k : Int) + 1 := ⟨(n - 1).toNat, by omega⟩
    have hk : k < T.F.length := by omega
    obtain ⟨x, hx⟩ : ∃ x, T.F[k]? = some x := ⟨_, List.getElem?_eq_getElem hk⟩
    obtain ⟨ad, rfl, hadb, hcell⟩ := hr.at (flatMap_ne (K := 8) (fun a => rfl) (by omega) hx)
    obtain ⟨e0, e1, e2, e3, _, _, _, _⟩ := fd_at hcell hx
    have hadb' : (ad.add (k * 8)).block < w.heap.size := by rw [block_add']; exact hadb
    have e5 : (k : Int) + 1 - 1 = k := by omega
    have hk' : (k : Int) < (T.F.length : Int) := by omega
    have h2' : ¬ (T.F.length : Int) < (k : Int) + 1 := by omega
    clear t1 t2 hcell hr
    go_enter Try.func55, Try.ntmps55
    go_wp2
    exact bodyPost_ret (v := .tuple #[.agg (vvCells x.1), .bool true]) (by simp [results, Try.results55, go_sem, vvCells]) rfl ⟨(by first | exact ⟨_, _, rfl⟩ | exact ⟨_, .inl rfl⟩ | exact ⟨_, .inr rfl⟩), (by repeat' (first | exact Below.refl _ _ | refine Below.setCell ?_ ?_ _ | refine Below.alloc ?_ ?_ _ | (simp; done) | (simp; omega)))⟩
theorem rtab_new (w : World) (l : Nat) : RTabIn (w.alloc (.cells #[.int .u64 (l : Int), .slice none 0 0, .slice none 0 0] 50)) w.heap.size w.heap.size ⟨l, [], []⟩ [w.heap.size] :=
  ⟨⟨.slice none 0 0, .slice none 0 0, rfl, heap_alloc_new _ _, World.ownsRow_nil _ _ _ _, World.ownsRow_nil _ _ _ _⟩, fun b hb => by rw [List.mem_singleton.1 hb]; simp⟩
end Go.Proofs.Ythhphjfbdoffhaa
