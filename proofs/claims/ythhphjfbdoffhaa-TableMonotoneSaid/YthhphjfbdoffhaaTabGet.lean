/-
  Chapter 04: what is read at a key.
-/
import Derived.Test.YthhphjfbdoffhaaTabFind
import Derived.Test.YthhphjfbdoffhaaValWith
import Derived.Deep.RegionHeld3
set_option linter.unusedVariables false
set_option linter.unusedSimpArgs false
namespace Go.Proofs.Ythhphjfbdoffhaa
open Go.ChangeShapes Go.WideShapes Go.ChangeAt Go.RowKit Go.Maps

def noneV : VV := ⟨0, 0, ⟨#[]⟩, 0⟩
/-- What stands at a key. -/
def AtKey (F : List Fd) (k out : VV) : Prop := (isKey k = true ∧ ∃ (i : Nat) (f : Fd), F[i]? = some f ∧ keyLV f.1 = keyLV k ∧ out = f.2) ∨ ((isKey k = false ∨ ∀ f ∈ F, keyLV f.1 ≠ keyLV k) ∧ out = noneV)
theorem fdEnc_len (f : Fd) : (fdEnc f).length = 8 := rfl
theorem stEnc_len (s : St) : (stEnc s).length = 2 := rfl
theorem own_elem {w : World} {base : Nat} {e : TypeId} {K : Nat} {v : Value} {α : Type} {f : α → List Value} {xs : List α} (ho : w.ownsRow base e K v xs.length (xs.flatMap f)) (hK : ∀ a, (f a).length = K) (hK0 : 0 < K) {i : Nat} {x : α} (hx : xs[i]? = some x) :
    ∃ ad c, v = .slice (some ad) xs.length c ∧ base ≤ ad.block ∧ ad.block < w.heap.size ∧ ∀ j u, (xs.flatMap f)[j]? = some u → w.cell? (ad.add j) = some u := by
  obtain ⟨A, c, rfl, _, _, h⟩ := own_form ho
  obtain ⟨gb, rfl, h1, h2, _, h3⟩ := h (by have := (List.getElem?_eq_some_iff.1 hx).1; omega)
  refine ⟨_, c, rfl, h1, h2, fun j u hu => ?_⟩
  have e : (⟨gb, 0, none⟩ : Addr).add j = ⟨gb, j, none⟩ := by
    unfold Addr.add
    split
    · rename_i h0
      rw [h0]
    · simp
  rw [e]
  exact h3 j u hu
theorem with2_any (v : VV) (a b n c : Nat) (t : TypeId) (w : World) (hv : v.label < 18446744073709551616) (ha : a < 18446744073709551616) (hb : b < 18446744073709551616) (h : w.heap[n]? = some (.cells #[.int .u64 (a : Int), .int .u64 (b : Int)] t (0, 0))) :
    Calls Try.prog 18 #[.agg (vvCells v), .slice (some ⟨n, 0, none⟩) 2 c] w (RetB (.agg (vvCells (withV v (joinL [a, b])))) w) :=
  with_any v [a, b] (some ⟨n, 0, none⟩) c w hv (by simp [ha, hb]) (by simp) (.inr ⟨_, rfl, blk_lt h, World.news_of_block h⟩)
set_option maxRecDepth 100000 in
set_option maxHeartbeats 1000000 in
theorem tget_any {w : World} {B tb : Nat} {T : TabS} {fp : List Nat} (h : TabIn w B tb T fp) (k : VV) (hn : -9223372036854775808 ≤ k.n ∧ k.n ≤ 9223372036854775807) (hs : k.s.size ≤ maxLen) (hkl : k.label < 18446744073709551616) (hTl : T.l < 18446744073709551616) (hF : ∀ f ∈ T.F, f.2.label < 18446744073709551616) :
    ∃ out, AtKey T.F k out ∧ Calls Try.prog 35 #[.pointer (some ⟨tb, 0, none⟩), .agg (vvCells k)] w (RetB (.agg (vvCells (withV out (joinL [k.label, T.l])))) w) := by
  have hb3 := (((Below.refl w.heap.size w).alloc (Nat.le_refl _) (.cells (vvCells k) 25)).alloc (by simp) (.cells (vvCells noneV) 25)).alloc (by simp; omega) (.cells (vvCells noneV) 25)
  have h' := h.kept (Fr.of_below hb3 []) (by simp)
  obtain ⟨p, hp, hf⟩ := find_any h' k hn hs
  have HB3 := Lib.hid hb3
  have hT : T.l < 18446744073709551616 := hTl
  obtain ⟨⟨fv, sv, mb, nb, n, m, D, E, _, h1, h2, _⟩, _⟩ := h
  have H1 := Lib.hid h1
  have H2 := Lib.hid h2
  rcases hp with ⟨hik, i, f, hfi, hke, rfl⟩ | ⟨hno, rfl⟩
  · refine ⟨f.2, .inl ⟨hik, i, f, hfi, hke, rfl⟩, ?_⟩
    have hil : i < T.F.length := (List.getElem?_eq_some_iff.1 hfi).1
    have hil' : (i : Int) < (T.F.length : Int) := by omega
    have hi0 : (0 : Int) ≤ i := by omega
    obtain ⟨ad, c, rfl, _, hal, hcell⟩ := own_elem h2 fdEnc_len (by omega) hfi
    have e0 := elem_at fdEnc_len hcell hfi 4 (by omega) (by omega) (v := .int .i64 f.2.kind) rfl
    have e1 := elem_at fdEnc_len hcell hfi 5 (by omega) (by omega) (v := .int .i64 f.2.n) rfl
    have e2 := elem_at fdEnc_len hcell hfi 6 (by omega) (by omega) (v := .string f.2.s) rfl
    have e3 := elem_at fdEnc_len hcell hfi 7 (by omega) (by omega) (v := .int .u64 (f.2.label : Int)) rfl
    have hll : (ad.add (i * 8)).block < w.heap.size := by rw [block_add']; exact hal
    have hw := fun n c t W h => with2_any f.2 k.label T.l n c t W (hF f (List.mem_of_getElem? hfi)) hkl hT h
    generalize withV f.2 (joinL [k.label, T.l]) = R at hw ⊢
    have HF := Lib.hid hf
    have HW := Lib.hid hw
    have E := Lib.hid (And.intro e0 (And.intro e1 (And.intro e2 e3)))
    clear hf hw h1 h2 h' hb3 hF hTl hcell e0 e1 e2 e3 hfi
    unfold vvCells noneV at *
    go_enter Try.func35, Try.ntmps35
    go_wp2_with fail
    refine HF.out.mono ?_
    rintro e w1 ⟨rfl, hb1⟩
    have HB0 := Lib.hid (HB3.out.trans (hb1.mono (by simp; omega)))
    have u0 := below_blk hb1 (blk_alloc (blk_alloc (heap_alloc_new w _) _) _)
    have u1 := below_blk hb1 (blk_alloc (heap_new_at _ _ (w.heap.size + 1) (by simp)) _)
    have u2 := below_blk hb1 (heap_new_at _ _ (w.heap.size + 1 + 1) (by simp))
    have u3 := below_blk HB0.out H1.out
    have t1 := cell_of_blk (i := 1) u3 rfl
    have z0 := free_of_blk (i := 0) u2
    have z1 := free_of_blk (i := 1) u2
    have z2 := free_of_blk (i := 2) u2
    have z3 := free_of_blk (i := 3) u2
    have y0 := cell_of_blk (i := 0) u2 rfl
    have y1 := cell_of_blk (i := 1) u2 rfl
    have y2 := cell_of_blk (i := 2) u2 rfl
    have y3 := cell_of_blk (i := 3) u2 rfl
    have e0 := (HB0.out.cell (by show (ad.add (i * 8)).block < _; exact hll)).trans E.out.1
    have e1 := (HB0.out.cell (by show (ad.add (i * 8)).block < _; exact hll)).trans E.out.2.1
    have e2 := (HB0.out.cell (by show (ad.add (i * 8)).block < _; exact hll)).trans E.out.2.2.1
    have e3 := (HB0.out.cell (by show (ad.add (i * 8)).block < _; exact hll)).trans E.out.2.2.2
    have l3 := blk_lt u3
    have l2 := blk_lt u2
    have P0 := Lib.hid u0
    have P1 := Lib.hid u1
    have P2 := Lib.hid u2
    have P3 := Lib.hid u3
    have htw : tb < w.heap.size := blk_lt H1.out
    clear u0 u1 u2 u3 hb1
    go_wp2_with fail
    refine gen_wp fun W hW => ?_
    have ne0 : w.heap.size ≠ w.heap.size + 1 + 1 := by omega
    have ne2 : w.heap.size + 1 ≠ w.heap.size + 1 + 1 := by omega
    have ne3 : tb ≠ w.heap.size + 1 + 1 := by omega
    have U0 := Lib.hid (show W.heap[w.heap.size]? = some (.cells #[.int .i64 k.kind, .int .i64 k.n, .string k.s, .int .u64 (k.label : Int)] 25 (0, 0)) by rw [← hW]; exact blk_far (blk_far (blk_far (blk_far P0.out ne0 _) ne0 _) ne0 _) ne0 _)
    have U1 := Lib.hid (show W.heap[w.heap.size + 1]? = some (.cells #[.int .i64 0, .int .i64 0, .string ⟨#[]⟩, .int .u64 0] 25 (0, 0)) by rw [← hW]; exact blk_far (blk_far (blk_far (blk_far P1.out ne2 _) ne2 _) ne2 _) ne2 _)
    have U2 := Lib.hid (show W.heap[w.heap.size + 1 + 1]? = some (.cells #[.int .i64 f.2.kind, .int .i64 f.2.n, .string f.2.s, .int .u64 (f.2.label : Int)] 25 (0, 0)) by rw [← hW]; exact blk_set (i := 3) (blk_set (i := 2) (blk_set (i := 1) (blk_set (i := 0) P2.out _) _) _) _)
    have U3 := Lib.hid (show W.heap[tb]? = some (.cells #[.int .u64 (T.l : Int), .slice (some ad) T.F.length c, .map (some mb), sv, .map (some nb)] 84 (0, 0)) by rw [← hW]; exact blk_far (blk_far (blk_far (blk_far P3.out ne3 _) ne3 _) ne3 _) ne3 _)
    have HB := Lib.hid (show Below w.heap.size w W by rw [← hW]; (repeat' (first | exact HB0.out | refine Below.setCell ?_ ?_ _ | (simp; done) | (simp; omega))))
    have l3 := blk_lt U3.out
    have l2 := blk_lt U2.out
    clear hW z0 z1 z2 z3 y0 y1 y2 y3 e0 e1 e2 e3 t1 P0 P1 P2 P3 HB0 E ne0 ne2 ne3
    refine wp_region_noPanic ?_
    refine wp_region_held_drew (S := fun w' => w'.heap[w.heap.size]? = some (.cells #[.int .i64 k.kind, .int .i64 k.n, .string k.s, .int .u64 (k.label : Int)] 25 (0, 0)) ∧ w'.heap[w.heap.size + 1 + 1]? = some (.cells #[.int .i64 f.2.kind, .int .i64 f.2.n, .string f.2.s, .int .u64 (f.2.label : Int)] 25 (0, 0)) ∧ w'.heap[tb]? = some (.cells #[.int .u64 (T.l : Int), .slice (some ad) T.F.length c, .map (some mb), sv, .map (some nb)] 84 (0, 0))) (by kernel_rfl) (⟨U0.out, U2.out, U3.out⟩) (fun hHeld => ?_)
    refine wpAnyH_take (i := 0) (oi := _) (v := .agg #[.int .i64 f.2.kind, .int .i64 f.2.n, .string f.2.s, .int .u64 (f.2.label : Int)]) rfl (by kernel_rfl) (by kernel_rfl) (by kernel_rfl) (fun _ _ _ h => h) (Or.inl ⟨by rfl, fun w' hS => (by obtain ⟨s0, s2, s3⟩ := hS; have q0 := cell_of_blk (i := 0) s2 rfl; have q1 := cell_of_blk (i := 1) s2 rfl; have q2 := cell_of_blk (i := 2) s2 rfl; have q3 := cell_of_blk (i := 3) s2 rfl; go_simp)⟩) hHeld ?_
    change wpAnyH _ _ _ _ _ _ _ (Act.put _ (some 26) _) _
    try simp only [Act.put, List.setIfInBounds_toArray, List.set_cons_zero, List.set_cons_succ]
    refine wpAnyH_take (i := 1) (oi := _) (v := .pointer (some ⟨w.heap.size, 3, none⟩)) rfl (by kernel_rfl) (by kernel_rfl) (by kernel_rfl) (fun _ _ _ h => h) (Or.inl ⟨by rfl, fun w' hS => (by go_simp)⟩) hHeld ?_
    change wpAnyH _ _ _ _ _ _ _ (Act.put _ (some 27) _) _
    try simp only [Act.put, List.setIfInBounds_toArray, List.set_cons_zero, List.set_cons_succ]
    refine wpAnyH_take (i := 2) (oi := _) (v := .int .u64 (k.label : Int)) rfl (by kernel_rfl) (by kernel_rfl) (by kernel_rfl) (fun _ _ _ h => h) (Or.inl ⟨by rfl, fun w' hS => (by obtain ⟨s0, s2, s3⟩ := hS; have q := cell_of_blk (i := 3) s0 rfl; go_simp)⟩) hHeld ?_
    change wpAnyH _ _ _ _ _ _ _ (Act.put _ (some 28) _) _
    try simp only [Act.put, List.setIfInBounds_toArray, List.set_cons_zero, List.set_cons_succ]
    refine wpAnyH_take (i := 3) (oi := _) (v := .pointer (some ⟨tb, 0, none⟩)) rfl (by kernel_rfl) (by kernel_rfl) (by kernel_rfl) (fun _ _ _ h => h) (Or.inl ⟨by rfl, fun w' hS => (by go_simp)⟩) hHeld ?_
    change wpAnyH _ _ _ _ _ _ _ (Act.put _ (some 29) _) _
    try simp only [Act.put, List.setIfInBounds_toArray, List.set_cons_zero, List.set_cons_succ]
    refine wpAnyH_take (i := 4) (oi := _) (v := .pointer (some ⟨tb, 0, none⟩)) rfl (by kernel_rfl) (by kernel_rfl) (by kernel_rfl) (fun _ _ _ h => h) (Or.inl ⟨by rfl, fun w' hS => (by go_simp)⟩) hHeld ?_
    change wpAnyH _ _ _ _ _ _ _ (Act.put _ (some 30) _) _
    try simp only [Act.put, List.setIfInBounds_toArray, List.set_cons_zero, List.set_cons_succ]
    refine wpAnyH_take (i := 5) (oi := _) (v := .pointer (some ⟨tb, 0, none⟩)) rfl (by kernel_rfl) (by kernel_rfl) (by kernel_rfl) (fun _ _ _ h => h) (Or.inl ⟨by rfl, fun w' hS => (by go_simp)⟩) hHeld ?_
    change wpAnyH _ _ _ _ _ _ _ (Act.put _ (some 31) _) _
    try simp only [Act.put, List.setIfInBounds_toArray, List.set_cons_zero, List.set_cons_succ]
    refine wpAnyH_take (i := 6) (oi := _) (v := .int .u64 (T.l : Int)) rfl (by kernel_rfl) (by kernel_rfl) (by kernel_rfl) (fun _ _ _ h => h) (Or.inl ⟨by rfl, fun w' hS => (by obtain ⟨s0, s2, s3⟩ := hS; have q := cell_of_blk (i := 0) s3 rfl; go_simp)⟩) hHeld ?_
    change wpAnyH _ _ _ _ _ _ _ (Act.put _ (some 32) _) _
    try simp only [Act.put, List.setIfInBounds_toArray, List.set_cons_zero, List.set_cons_succ]
    refine wpAnyH_ready (rs := [7]) (by kernel_rfl) (by simp) ?_
    refine AllReadyH.cons (o := _) rfl (fun K hK => ?_) AllReadyH.nil
    go_simp
    refine hK.out _ _ (⟨(blk_drew (blk_alloc U0.out _)), (blk_drew (blk_alloc U2.out _)), (blk_drew (blk_alloc U3.out _))⟩) (fun hHeld => ?_)
    clear hK K
    try simp only [Act.put, List.setIfInBounds_toArray, List.set_cons_zero, List.set_cons_succ]
    refine wpAnyH_ready (rs := [8]) (by kernel_rfl) (by simp) ?_
    refine AllReadyH.cons (o := _) rfl (fun K hK => ?_) AllReadyH.nil
    go_simp
    refine (HW.out _ _ _ _ (blk_drew (heap_alloc_new _ _))).mono ?_
    rintro e w2 ⟨rfl, hb2⟩
    have V0 := Lib.hid (below_blk hb2 (blk_drew (blk_alloc U0.out _)))
    have V1 := Lib.hid (below_blk hb2 (blk_drew (blk_alloc U1.out _)))
    have V2 := Lib.hid (below_blk hb2 (blk_drew (blk_alloc U2.out _)))
    have V3 := Lib.hid (below_blk hb2 (blk_drew (blk_alloc U3.out _)))
    have HB2 := Lib.hid (HB.out.trans ((((Below.refl _ _).alloc (Nat.le_refl _) _).drew.trans (hb2.mono (by simp))).mono HB.out.size))
    clear hb2
    refine hK.out _ _ (⟨V0.out, V2.out, V3.out⟩) (fun hHeld => ?_)
    clear hK K
    try simp only [Act.put, List.setIfInBounds_toArray, List.set_cons_zero, List.set_cons_succ]
    have v1 := V1.out
    have y0 := cell_of_blk (i := 0) v1 rfl
    have z0 := free_of_blk (i := 0) v1
    have y1 := cell_of_blk (i := 1) v1 rfl
    have z1 := free_of_blk (i := 1) v1
    have y2 := cell_of_blk (i := 2) v1 rfl
    have z2 := free_of_blk (i := 2) v1
    have y3 := cell_of_blk (i := 3) v1 rfl
    have z3 := free_of_blk (i := 3) v1
    clear v1
    have ne0 : w.heap.size ≠ w.heap.size + 1 := by omega
    have ne2 : w.heap.size + 1 + 1 ≠ w.heap.size + 1 := by omega
    have ne3 : tb ≠ w.heap.size + 1 := by omega
    refine wpAnyH_ready (rs := [9]) (by kernel_rfl) (by simp) ?_
    refine AllReadyH.cons (o := _) rfl (fun K hK => ?_) AllReadyH.nil
    go_simp
    refine hK.out _ _ (⟨blk_far (blk_far (blk_far (blk_far V0.out ne0 _) ne0 _) ne0 _) ne0 _, blk_far (blk_far (blk_far (blk_far V2.out ne2 _) ne2 _) ne2 _) ne2 _, blk_far (blk_far (blk_far (blk_far V3.out ne3 _) ne3 _) ne3 _) ne3 _⟩) (fun hHeld => ?_)
    clear hK K
    try simp only [Act.put, List.setIfInBounds_toArray, List.set_cons_zero, List.set_cons_succ]
    refine wpAnyH_done (by kernel_rfl) ?_ _
    refine NoPanic.normal ?_
    go_wp2
    exact bodyPost_ret (v := .agg #[.int .i64 R.kind, .int .i64 R.n, .string R.s, .int .u64 (R.label : Int)]) (by simp [results, Try.results35, go_sem, Lib.cell_of_heap (blk_set (blk_set (blk_set (blk_set V1.out _) _) _) _)]) rfl ⟨by first | rfl | simp, (by repeat' (first | exact HB2.out | refine Below.setCell ?_ ?_ _ | (simp; done) | (simp; omega)))⟩
  · refine ⟨noneV, .inr ⟨hno, rfl⟩, ?_⟩
    have hw := fun n c t W h => with2_any noneV k.label T.l n c t W (by decide) hkl hT h
    generalize withV noneV (joinL [k.label, T.l]) = R at hw ⊢
    have HF := Lib.hid hf
    have HW := Lib.hid hw
    clear hf hw hno h1 h2 h' hb3 hF hTl
    unfold vvCells noneV at *
    go_enter Try.func35, Try.ntmps35
    go_wp2_with fail
    refine HF.out.mono ?_
    rintro e w1 ⟨rfl, hb1⟩
    have HB := Lib.hid (HB3.out.trans (hb1.mono (by simp; omega)))
    have u0 := below_blk hb1 (blk_alloc (blk_alloc (heap_alloc_new w _) _) _)
    have u1 := below_blk hb1 (blk_alloc (heap_new_at _ _ (w.heap.size + 1) (by simp)) _)
    have u2 := below_blk hb1 (heap_new_at _ _ (w.heap.size + 1 + 1) (by simp))
    have u3 := below_blk HB.out H1.out
    have f3 := cell_of_blk (i := 3) u0 rfl
    have g0 := cell_of_blk (i := 0) u2 rfl
    have g1 := cell_of_blk (i := 1) u2 rfl
    have g2 := cell_of_blk (i := 2) u2 rfl
    have g3 := cell_of_blk (i := 3) u2 rfl
    have t0 := cell_of_blk (i := 0) u3 rfl
    have l3 := blk_lt u3
    have l2 := blk_lt u2
    have U0 := Lib.hid u0
    have U1 := Lib.hid u1
    have U2 := Lib.hid u2
    have U3 := Lib.hid u3
    have htw : tb < w.heap.size := blk_lt H1.out
    clear u0 u1 u2 u3 hb1 f3 g0 g1 g2 g3 t0
    go_wp2_with fail
    refine wp_region_noPanic ?_
    refine wp_region_held_drew (S := fun w' => w'.heap[w.heap.size]? = some (.cells #[.int .i64 k.kind, .int .i64 k.n, .string k.s, .int .u64 (k.label : Int)] 25 (0, 0)) ∧ w'.heap[w.heap.size + 1 + 1]? = some (.cells #[.int .i64 0, .int .i64 0, .string ⟨#[]⟩, .int .u64 0] 25 (0, 0)) ∧ w'.heap[tb]? = some (.cells #[.int .u64 (T.l : Int), fv, .map (some mb), sv, .map (some nb)] 84 (0, 0))) (by kernel_rfl) (⟨U0.out, U2.out, U3.out⟩) (fun hHeld => ?_)
    refine wpAnyH_take (i := 0) (oi := _) (v := .agg #[.int .i64 0, .int .i64 0, .string ⟨#[]⟩, .int .u64 0]) rfl (by kernel_rfl) (by kernel_rfl) (by kernel_rfl) (fun _ _ _ h => h) (Or.inl ⟨by rfl, fun w' hS => (by obtain ⟨s0, s2, s3⟩ := hS; have q0 := cell_of_blk (i := 0) s2 rfl; have q1 := cell_of_blk (i := 1) s2 rfl; have q2 := cell_of_blk (i := 2) s2 rfl; have q3 := cell_of_blk (i := 3) s2 rfl; go_simp)⟩) hHeld ?_
    change wpAnyH _ _ _ _ _ _ _ (Act.put _ (some 26) _) _
    try simp only [Act.put, List.setIfInBounds_toArray, List.set_cons_zero, List.set_cons_succ]
    refine wpAnyH_take (i := 1) (oi := _) (v := .pointer (some ⟨w.heap.size, 3, none⟩)) rfl (by kernel_rfl) (by kernel_rfl) (by kernel_rfl) (fun _ _ _ h => h) (Or.inl ⟨by rfl, fun w' hS => (by go_simp)⟩) hHeld ?_
    change wpAnyH _ _ _ _ _ _ _ (Act.put _ (some 27) _) _
    try simp only [Act.put, List.setIfInBounds_toArray, List.set_cons_zero, List.set_cons_succ]
    refine wpAnyH_take (i := 2) (oi := _) (v := .int .u64 (k.label : Int)) rfl (by kernel_rfl) (by kernel_rfl) (by kernel_rfl) (fun _ _ _ h => h) (Or.inl ⟨by rfl, fun w' hS => (by obtain ⟨s0, s2, s3⟩ := hS; have q := cell_of_blk (i := 3) s0 rfl; go_simp)⟩) hHeld ?_
    change wpAnyH _ _ _ _ _ _ _ (Act.put _ (some 28) _) _
    try simp only [Act.put, List.setIfInBounds_toArray, List.set_cons_zero, List.set_cons_succ]
    refine wpAnyH_take (i := 3) (oi := _) (v := .pointer (some ⟨tb, 0, none⟩)) rfl (by kernel_rfl) (by kernel_rfl) (by kernel_rfl) (fun _ _ _ h => h) (Or.inl ⟨by rfl, fun w' hS => (by go_simp)⟩) hHeld ?_
    change wpAnyH _ _ _ _ _ _ _ (Act.put _ (some 29) _) _
    try simp only [Act.put, List.setIfInBounds_toArray, List.set_cons_zero, List.set_cons_succ]
    refine wpAnyH_take (i := 4) (oi := _) (v := .pointer (some ⟨tb, 0, none⟩)) rfl (by kernel_rfl) (by kernel_rfl) (by kernel_rfl) (fun _ _ _ h => h) (Or.inl ⟨by rfl, fun w' hS => (by go_simp)⟩) hHeld ?_
    change wpAnyH _ _ _ _ _ _ _ (Act.put _ (some 30) _) _
    try simp only [Act.put, List.setIfInBounds_toArray, List.set_cons_zero, List.set_cons_succ]
    refine wpAnyH_take (i := 5) (oi := _) (v := .pointer (some ⟨tb, 0, none⟩)) rfl (by kernel_rfl) (by kernel_rfl) (by kernel_rfl) (fun _ _ _ h => h) (Or.inl ⟨by rfl, fun w' hS => (by go_simp)⟩) hHeld ?_
    change wpAnyH _ _ _ _ _ _ _ (Act.put _ (some 31) _) _
    try simp only [Act.put, List.setIfInBounds_toArray, List.set_cons_zero, List.set_cons_succ]
    refine wpAnyH_take (i := 6) (oi := _) (v := .int .u64 (T.l : Int)) rfl (by kernel_rfl) (by kernel_rfl) (by kernel_rfl) (fun _ _ _ h => h) (Or.inl ⟨by rfl, fun w' hS => (by obtain ⟨s0, s2, s3⟩ := hS; have q := cell_of_blk (i := 0) s3 rfl; go_simp)⟩) hHeld ?_
    change wpAnyH _ _ _ _ _ _ _ (Act.put _ (some 32) _) _
    try simp only [Act.put, List.setIfInBounds_toArray, List.set_cons_zero, List.set_cons_succ]
    refine wpAnyH_ready (rs := [7]) (by kernel_rfl) (by simp) ?_
    refine AllReadyH.cons (o := _) rfl (fun K hK => ?_) AllReadyH.nil
    go_simp
    refine hK.out _ _ (⟨(blk_drew (blk_alloc U0.out _)), (blk_drew (blk_alloc U2.out _)), (blk_drew (blk_alloc U3.out _))⟩) (fun hHeld => ?_)
    clear hK K
    try simp only [Act.put, List.setIfInBounds_toArray, List.set_cons_zero, List.set_cons_succ]
    refine wpAnyH_ready (rs := [8]) (by kernel_rfl) (by simp) ?_
    refine AllReadyH.cons (o := _) rfl (fun K hK => ?_) AllReadyH.nil
    go_simp
    refine (HW.out _ _ _ _ (blk_drew (heap_alloc_new _ _))).mono ?_
    rintro e w2 ⟨rfl, hb2⟩
    have V0 := Lib.hid (below_blk hb2 (blk_drew (blk_alloc U0.out _)))
    have V1 := Lib.hid (below_blk hb2 (blk_drew (blk_alloc U1.out _)))
    have V2 := Lib.hid (below_blk hb2 (blk_drew (blk_alloc U2.out _)))
    have V3 := Lib.hid (below_blk hb2 (blk_drew (blk_alloc U3.out _)))
    have HB2 := Lib.hid (HB.out.trans ((((Below.refl _ _).alloc (Nat.le_refl _) _).drew.trans (hb2.mono (by simp))).mono HB.out.size))
    clear hb2
    refine hK.out _ _ (⟨V0.out, V2.out, V3.out⟩) (fun hHeld => ?_)
    clear hK K
    try simp only [Act.put, List.setIfInBounds_toArray, List.set_cons_zero, List.set_cons_succ]
    have v1 := V1.out
    have y0 := cell_of_blk (i := 0) v1 rfl
    have z0 := free_of_blk (i := 0) v1
    have y1 := cell_of_blk (i := 1) v1 rfl
    have z1 := free_of_blk (i := 1) v1
    have y2 := cell_of_blk (i := 2) v1 rfl
    have z2 := free_of_blk (i := 2) v1
    have y3 := cell_of_blk (i := 3) v1 rfl
    have z3 := free_of_blk (i := 3) v1
    clear v1
    have ne0 : w.heap.size ≠ w.heap.size + 1 := by omega
    have ne2 : w.heap.size + 1 + 1 ≠ w.heap.size + 1 := by omega
    have ne3 : tb ≠ w.heap.size + 1 := by omega
    refine wpAnyH_ready (rs := [9]) (by kernel_rfl) (by simp) ?_
    refine AllReadyH.cons (o := _) rfl (fun K hK => ?_) AllReadyH.nil
    go_simp
    refine hK.out _ _ (⟨blk_far (blk_far (blk_far (blk_far V0.out ne0 _) ne0 _) ne0 _) ne0 _, blk_far (blk_far (blk_far (blk_far V2.out ne2 _) ne2 _) ne2 _) ne2 _, blk_far (blk_far (blk_far (blk_far V3.out ne3 _) ne3 _) ne3 _) ne3 _⟩) (fun hHeld => ?_)
    clear hK K
    try simp only [Act.put, List.setIfInBounds_toArray, List.set_cons_zero, List.set_cons_succ]
    refine wpAnyH_done (by kernel_rfl) ?_ _
    refine NoPanic.normal ?_
    go_wp2
    exact bodyPost_ret (v := .agg #[.int .i64 R.kind, .int .i64 R.n, .string R.s, .int .u64 (R.label : Int)]) (by simp [results, Try.results35, go_sem, Lib.cell_of_heap (blk_set (blk_set (blk_set (blk_set V1.out _) _) _) _)]) rfl ⟨by first | rfl | simp, (by repeat' (first | exact HB2.out | refine Below.setCell ?_ ?_ _ | (simp; done) | (simp; omega)))⟩
end Go.Proofs.Ythhphjfbdoffhaa
