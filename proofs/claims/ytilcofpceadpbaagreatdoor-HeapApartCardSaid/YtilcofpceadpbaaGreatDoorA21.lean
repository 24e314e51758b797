/-
 HeapApart: part 21 of what the claim rests on.
-/
import Derived.Test.YtilcofpceadpbaaGreatDoorA19
import Derived.Test.YtilcofpceadpbaaGreatDoorA20
set_option linter.unusedVariables false
set_option linter.unusedSimpArgs false
set_option maxHeartbeats 64000000
namespace Go.Proofs.YtilcofpceadpbaaGreatDoor
open Go.ChangeShapes Go.WideShapes Go.ChangeAt Go.RowKit Go.Maps

def GoE (w : World) (B N h : Nat) (s : HpS) (d : HpD) (n : Nat) (e : Ending) (w' : World) : Prop := ∃ (k : Int) (s' : HpS), e = .returned (.int .i64 k) ∧ HpLe n s s' ∧ HpTo w B N h s d s' w'
theorem le_store {s : HpS} {n j : Nat} {y : VV} (hy : VOk y) : HpLe n s { s with C := s.C.set j y } :=
 ⟨rfl, Int.le_refl _, fun ok => ⟨by have := ok.tl; exact Nat.le_trans this (by omega), by have := ok.fl; exact Nat.le_trans this (by omega), by have := ok.cl; simp; omega, fun T hT => ⟨(ok.tab T hT).1, by have := (ok.tab T hT).2.1; omega, by have := (ok.tab T hT).2.2; omega⟩, ok.fn, fun v hv => by
  rcases List.mem_or_eq_of_mem_set hv with hv | rfl
  ·exact ok.cell v hv
  ·exact hy, ok.str⟩⟩
set_option maxRecDepth 100000 in
theorem store_none {w : World} {B N h : Nat} {s : HpS} {d : HpD} (H : HpAt w B N h s d) (hn : s.C.length ≤ 1000000) (ctx : Nat) (v : VV) (hc : ctx < 18446744073709551616) (hv : VOk v) (k : Int) (hk : k < 0 ∨ (s.C.length : Int) ≤ k) :
  Calls Tryz.prog 35 #[.pointer (some ⟨h, 0, none⟩), .int .u64 (ctx : Int), .int .i64 k, .agg #[.int .i64 v.kind, .int .i64 v.n, .string v.s, .int .u64 (v.label : Int)]] w (RetB (.int .i64 3) w) := by
 obtain ⟨b0, hb0⟩ : ∃ b, b = w.heap.size := ⟨_, rfl⟩
 have HE0 := Lib.hid hb0
 have HH := Lib.hid H
 have HN := Lib.hid hn
 have HLT := Lib.hid (fun b (hb : b ∈ d.fp h s.F) => (H.kinds hb).2)
 have HV := Lib.hid hk
 have HC := Lib.hid (And.intro hc hv)
 clear hb0 H hn hc hv hk
 go_enter Tryz.func35, Tryz.ntmps35
 go_upto_region 1 with fail
 rw [← HE0.out]
 refine gen_wp fun W hW => ?_
 have HB0 := Lib.hid (show W.heap[b0]? = some (.cells #[.int .i64 v.kind, .int .i64 v.n, .string v.s, .int .u64 (v.label : Int)] 26 (0, 0)) by rw [← hW, HE0.out]; exact heap_new_at _ _ _ (by first | rfl | simp))
 have HW := Lib.hid (show Below w.heap.size w W by rw [← hW]; exact (Below.refl _ _).alloc (Nat.le_refl _) _)
 clear hW
 go_wp2_with fail
 have HB : Below w.heap.size w W := HW.out
 refine (at_cel_none (HH.out.below HB).blk (HH.out.below HB).o3 rfl HN.out k HV.out).mono ?_
 rintro e w1 ⟨rfl, hb1⟩
 have HW1 := Lib.hid (show Below w.heap.size w w1 from HB.trans (hb1.mono HB.size))
 have D0 := Lib.hid (below_blk hb1 (HB0.out))
 clear hb1 HB
 go_upto_region 4 with fail
 obtain ⟨b2, hb2⟩ : ∃ b, b = w1.heap.size := ⟨_, rfl⟩
 rw [← hb2]
 refine gen_wp fun U hU => ?_
 have KN := Lib.hid (show U.heap[b2]? = some (.cells #[.int .i64 0, .int .i64 0, .string ⟨#[]⟩, .int .u64 0] 26 (0, 0)) by rw [← hU, hb2]; exact heap_new_at _ _ _ (by first | rfl | simp))
 have K0 := Lib.hid (show U.heap[b0]? = some (.cells #[.int .i64 v.kind, .int .i64 v.n, .string v.s, .int .u64 (v.label : Int)] 26 (0, 0)) by rw [← hU]; exact blk_alloc D0.out _)
 have UW := Lib.hid (show Below w.heap.size w U by rw [← hU]; exact HW1.out.alloc HW1.out.size _)
 have NE0 := Lib.hid (show b0 ≠ b2 by have := blk_lt D0.out; omega)
 have NB := Lib.hid (show w.heap.size ≤ b2 by rw [hb2]; exact HW1.out.size)
 clear hU hb2
 go_wp2
 go_returns
 exact ⟨rfl, UW.out⟩
set_option maxRecDepth 100000 in
theorem store_some {w : World} {B N h : Nat} {s : HpS} {d : HpD} (H : HpAt w B N h s d) (hn : s.C.length ≤ 1000000) (ctx : Nat) (v : VV) (hc : ctx < 18446744073709551616) (hv : VOk v) (m : Nat) {x : VV} {j : Nat} (hj : s.C[j]? = some x) (hx : VOk x) :
  Calls Tryz.prog 35 #[.pointer (some ⟨h, 0, none⟩), .int .u64 (ctx : Int), .int .i64 (j : Int), .agg #[.int .i64 v.kind, .int .i64 v.n, .string v.s, .int .u64 (v.label : Int)]] w (GoE w B N h s d m) := by
 obtain ⟨b0, hb0⟩ : ∃ b, b = w.heap.size := ⟨_, rfl⟩
 have HE0 := Lib.hid hb0
 have HH := Lib.hid H
 have HN := Lib.hid hn
 have HLT := Lib.hid (fun b (hb : b ∈ d.fp h s.F) => (H.kinds hb).2)
 have HJ := Lib.hid hj
 have HC := Lib.hid (And.intro hc hv)
 clear hb0 H hn hc hv hj
 go_enter Tryz.func35, Tryz.ntmps35
 go_upto_region 1 with fail
 rw [← HE0.out]
 refine gen_wp fun W hW => ?_
 have HB0 := Lib.hid (show W.heap[b0]? = some (.cells #[.int .i64 v.kind, .int .i64 v.n, .string v.s, .int .u64 (v.label : Int)] 26 (0, 0)) by rw [← hW, HE0.out]; exact heap_new_at _ _ _ (by first | rfl | simp))
 have HW := Lib.hid (show Below w.heap.size w W by rw [← hW]; exact (Below.refl _ _).alloc (Nat.le_refl _) _)
 clear hW
 go_wp2_with fail
 have HB : Below w.heap.size w W := HW.out
 refine (at_cel_some (HH.out.below HB).blk (HH.out.below HB).o3 rfl HN.out HJ.out).mono ?_
 rintro e w1 ⟨rfl, hb1⟩
 have HW1 := Lib.hid (show Below w.heap.size w w1 from HB.trans (hb1.mono HB.size))
 have D0 := Lib.hid (below_blk hb1 (HB0.out))
 clear hb1 HB
 go_upto_region 4 with fail
 obtain ⟨b2, hb2⟩ : ∃ b, b = w1.heap.size := ⟨_, rfl⟩
 rw [← hb2]
 refine gen_wp fun U hU => ?_
 have KN := Lib.hid (show U.heap[b2]? = some (.cells #[.int .i64 x.kind, .int .i64 x.n, .string x.s, .int .u64 (x.label : Int)] 26 (0, 0)) by rw [← hU, hb2]; exact heap_new_at _ _ _ (by first | rfl | simp))
 have K0 := Lib.hid (show U.heap[b0]? = some (.cells #[.int .i64 v.kind, .int .i64 v.n, .string v.s, .int .u64 (v.label : Int)] 26 (0, 0)) by rw [← hU]; exact blk_alloc D0.out _)
 have UW := Lib.hid (show Below w.heap.size w U by rw [← hU]; exact HW1.out.alloc HW1.out.size _)
 have NE0 := Lib.hid (show b0 ≠ b2 by have := blk_lt D0.out; omega)
 have NB := Lib.hid (show w.heap.size ≤ b2 by rw [hb2]; exact HW1.out.size)
 clear hU hb2
 have HXL := Lib.hid hx
 clear hx
 obtain ⟨r0, r1, r2, r3, rf0, rf1, rf2, rf3, rl⟩ := blk_4 KN.out
 have HFL := Lib.hid (flows_any ctx x.label U HC.out.1 HXL.out.label)
 go_wp2_with fail
 refine HFL.out.mono ?_
 rintro e w2 ⟨rfl, rfl⟩
 cases hfl : flowsB ctx x.label with
 | false =>
  go_wp2
  go_returns
  exact ⟨40, s, rfl, .refl _ _, .same HH.out UW.out⟩
 | true =>
  clear hfl
  have HU := Lib.hid (HH.out.below UW.out)
  have hjl := (List.getElem?_eq_some_iff.1 HJ.out).1
  obtain ⟨A', c', eA, _, _, hfm⟩ := own_form HU.out.o3
  obtain ⟨gb, e2, _, hgb, ⟨cur, hcur⟩, hcell⟩ := hfm (by omega)
  have hA3 : d.A3 = some ⟨gb, 0, none⟩ := by injection eA with e3 _ _; rw [e3, e2]
  have HBH := Lib.hid (show U.heap[h]? = some (.cells #[.int .i64 s.L, .int .i64 s.U, .slice d.A1 s.T.length d.c1, .slice d.A2 s.F.length d.c2, .slice (some ⟨gb, 0, none⟩) s.C.length d.c3] 67 (0, 0)) by have := HU.out.blk; rw [hA3] at this; exact this)
  have HOW := Lib.hid (show U.ownsRow B 26 4 (.slice (some ⟨gb, 0, none⟩) s.C.length d.c3) s.C.length (s.C.flatMap vvE) by have := HU.out.o3; rw [hA3] at this; exact this)
  have HA3 := Lib.hid hA3
  have HGB := Lib.hid (show gb ≠ h ∧ gb ≠ b0 by
   refine ⟨kind_ne hcur HBH.out (by decide), ?_⟩
   have := HLT.out gb (fp_3 (by rw [hA3]; simp [aB]))
   have := HE0.out
   omega)
  have hcs := elem_cells (w := U) (ad := ⟨gb, 0, none⟩) (K := 4) vv_len (fun i u hu => by rw [Addr.add_mid, Nat.zero_add]; exact hcell i u hu) HJ.out
  have HCS := Lib.hid (show ∀ i u, (vvE x)[i]? = some u → U.cell? ⟨gb, j * 4 + i, none⟩ = some u from fun i u hu => by have := hcs i u hu; rwa [Addr.add_mid, Addr.add_mid, Nat.zero_add] at this)
  obtain ⟨y, hy⟩ : ∃ y, y = withV v (joinL [ctx]) := ⟨_, rfl⟩
  have HYO := Lib.hid (show VOk y by rw [hy]; exact withV_ok HC.out.2 (by simpa [joinL] using HC.out.1))
  have HWI := Lib.hid (show ∀ w0, w0 = U.drew.alloc (.cells #[.int .u64 (ctx : Int)] 24) → Calls Tryz.prog 71 #[.agg #[.int .i64 v.kind, .int .i64 v.n, .string v.s, .int .u64 (v.label : Int)], .slice (some ⟨U.heap.size, 0, none⟩) 1 1] w0 (RetB (.agg #[.int .i64 y.kind, .int .i64 y.n, .string y.s, .int .u64 (y.label : Int)]) w0) from fun w0 e0 => by
   have hnb : w0.heap[U.heap.size]? = some (.cells #[.int .u64 (ctx : Int)] 24 (0, 0)) := by rw [e0]; exact heap_new_at _ _ _ rfl
   have := with_any v [ctx] (some ⟨U.heap.size, 0, none⟩) 1 w0 HC.out.2.label (by intro q hq; simp at hq; rw [hq]; exact HC.out.1) (by simp) (.inr ⟨⟨U.heap.size, 0, none⟩, rfl, blk_lt hnb, fun i u hu => by
    rw [Addr.add_mid, Nat.zero_add]
    exact cell_of_blk hnb (by simpa using hu)⟩)
   rw [← hy] at this
   exact this)
  have hj2 : (j : Int) < (s.C.length : Int) := by omega
  have hj3 : (0 : Int) ≤ (j : Int) := by omega
  clear eA hfm e2 hgb hcur hcell hA3 hcs hy hjl r0 r1 r2 r3 rf0 rf1 rf2 rf3 rl
  go_wp2_with fail

  refine wp_region_held_drew (S := fun w' => w'.heap[h]? = some (.cells #[.int .i64 s.L, .int .i64 s.U, .slice d.A1 s.T.length d.c1, .slice d.A2 s.F.length d.c2, .slice (some ⟨gb, 0, none⟩) s.C.length d.c3] 67 (0, 0)) ∧ w'.heap[b0]? = some (.cells #[.int .i64 v.kind, .int .i64 v.n, .string v.s, .int .u64 (v.label : Int)] 26 (0, 0))) (by kernel_rfl) (⟨HBH.out, K0.out⟩) (fun hHeld => ?_)
  refine tk 0 30 (.pointer (some ⟨h, 0, none⟩)) hHeld ?_; simp only [Act.put, zq1, zq2, zq3]
  refine tk 1 31 (.pointer (some ⟨h, 0, none⟩)) hHeld ?_; simp only [Act.put, zq1, zq2, zq3]
  refine tk 2 32 (.pointer (some ⟨h, 4, none⟩)) hHeld ?_; simp only [Act.put, zq1, zq2, zq3]
  refine tk 3 33 (.pointer (some ⟨h, 4, none⟩)) hHeld ?_; simp only [Act.put, zq1, zq2, zq3]
  refine tk 4 34 (.slice (some ⟨gb, 0, none⟩) s.C.length d.c3) hHeld ?_ (hy := Or.inl ⟨by rfl, fun w' hS => (by have q0 := cell_of_blk (i := 4) hS.1 rfl; go_simp)⟩); simp only [Act.put, zq1, zq2, zq3]
  refine tk 5 35 (.int .i64 (j : Int)) hHeld ?_; simp only [Act.put, zq1, zq2, zq3]
  refine tk 6 36 (.agg #[.int .i64 v.kind, .int .i64 v.n, .string v.s, .int .u64 (v.label : Int)]) hHeld ?_ (hy := Or.inl ⟨by rfl, fun w' hS => (by have q0 := cell_of_blk (i := 0) hS.2 rfl; have q1 := cell_of_blk (i := 1) hS.2 rfl; have q2 := cell_of_blk (i := 2) hS.2 rfl; have q3 := cell_of_blk (i := 3) hS.2 rfl; go_simp)⟩); simp only [Act.put, zq1, zq2, zq3]
  refine tk 7 37 (.int .u64 (ctx : Int)) hHeld ?_; simp only [Act.put, zq1, zq2, zq3]
  refine rd 8 fun K hK => ?_
  go_simp
  refine hK.out _ _ (⟨blk_alloc (blk_drew HBH.out) _, blk_alloc (blk_drew K0.out) _⟩) (fun hHeld => ?_)
  clear hK K
  try simp only [Act.put, zq1, zq2, zq3]
  refine rd 9 fun K hK => ?_
  go_simp
  refine (HWI.out _ rfl).mono ?_
  rintro e w2 ⟨rfl, hb2⟩
  have HB2 := Lib.hid (show Below U.heap.size U w2 from (((Below.refl _ _).drew).alloc (Nat.le_refl _) _).trans (hb2.mono (by simp)))
  clear hb2
  have z0 : w2.cell? ⟨gb, j * 4, none⟩ = some (.int .i64 x.kind) := (HB2.out.cell (p := ⟨gb, j * 4, none⟩) (by have := cell_lt (HCS.out 0 _ rfl); exact this)).trans (HCS.out 0 _ rfl)
  have z1 : w2.cell? ⟨gb, j * 4 + 1, none⟩ = some (.int .i64 x.n) := (HB2.out.cell (p := ⟨gb, j * 4 + 1, none⟩) (by have := cell_lt (HCS.out 1 _ rfl); exact this)).trans (HCS.out 1 _ rfl)
  have z2 : w2.cell? ⟨gb, j * 4 + 2, none⟩ = some (.string x.s) := (HB2.out.cell (p := ⟨gb, j * 4 + 2, none⟩) (by have := cell_lt (HCS.out 2 _ rfl); exact this)).trans (HCS.out 2 _ rfl)
  have z3 : w2.cell? ⟨gb, j * 4 + 3, none⟩ = some (.int .u64 (x.label : Int)) := (HB2.out.cell (p := ⟨gb, j * 4 + 3, none⟩) (by have := cell_lt (HCS.out 3 _ rfl); exact this)).trans (HCS.out 3 _ rfl)
  have HO2 := Lib.hid (below_own HB2.out HOW.out)
  obtain ⟨cs2, fr2, hk2⟩ := own_kind HO2.out (g := gb) rfl
  have zz : ∀ i, w2.frozen? ⟨gb, i, none⟩ = false := fun i => by
   obtain ⟨_, h2⟩ := HO2.out
   rcases h2 with ⟨e, _⟩ | ⟨g', cap', cur', e, _, hh', _⟩
   ·cases e
   ·cases e
    exact free_of_blk hh'
  have zf0 := zz (j * 4)
  have zf1 := zz (j * 4 + 1)
  have zf2 := zz (j * 4 + 2)
  have zf3 := zz (j * 4 + 3)
  have zl := blk_lt hk2
  clear zz hk2
  refine hK.out _ _ (⟨below_blk HB2.out HBH.out, below_blk HB2.out K0.out⟩) (fun hHeld => ?_)
  clear hK K
  try simp only [Act.put, zq1, zq2, zq3]
  refine tk 10 40 (.pointer (some ⟨gb, j * 4, none⟩)) hHeld ?_; simp only [Act.put, zq1, zq2, zq3]
  refine rd 11 fun K hK => ?_
  go_simp
  refine hK.out _ _ (⟨(blk_far (a := ⟨gb, j * 4 + 3, none⟩) (blk_far (a := ⟨gb, j * 4 + 2, none⟩) (blk_far (a := ⟨gb, j * 4 + 1, none⟩) (blk_far (a := ⟨gb, j * 4, none⟩) (below_blk HB2.out HBH.out) HGB.out.1.symm _) HGB.out.1.symm _) HGB.out.1.symm _) HGB.out.1.symm _), (blk_far (a := ⟨gb, j * 4 + 3, none⟩) (blk_far (a := ⟨gb, j * 4 + 2, none⟩) (blk_far (a := ⟨gb, j * 4 + 1, none⟩) (blk_far (a := ⟨gb, j * 4, none⟩) (below_blk HB2.out K0.out) HGB.out.2.symm _) HGB.out.2.symm _) HGB.out.2.symm _) HGB.out.2.symm _)⟩) (fun hHeld => ?_)
  clear hK K
  try simp only [Act.put, zq1, zq2, zq3]
  refine wpAnyH_done (by kernel_rfl) ?_ _
  go_wp2
  go_returns
  refine ⟨0, _, rfl, le_store (j := j) HYO.out, ?_⟩
  have hU2 := HU.out.below HB2.out
  refine HpTo.wrap (R := []) hU2 (UW.out.trans (HB2.out.mono UW.out.size)) HLT.out (hU2.setC (C' := s.C.set j y) (by simp) ?_ ?_) (Fr.refl _ _) (by simp)
  ·rw [HA3.out]
   exact own_put4 HO2.out y (List.getElem?_eq_some_iff.1 HJ.out).1
  ·rw [HA3.out]
   exact ((((Fr.refl _ _).set _ (.inl (by simp [aB]))).set _ (.inl (by simp [aB]))).set _ (.inl (by simp [aB]))).set _ (.inl (by simp [aB]))
theorem store_at {w : World} {B N h : Nat} {s : HpS} {d : HpD} (H : HpAt w B N h s d) {m : Nat} (ok : HpOk m s) (hm : m ≤ 1000) (ctx : Nat) (v : VV) (hc : ctx < 18446744073709551616) (hv : VOk v) (k : Int) :
  Calls Tryz.prog 35 #[.pointer (some ⟨h, 0, none⟩), .int .u64 (ctx : Int), .int .i64 k, .agg #[.int .i64 v.kind, .int .i64 v.n, .string v.s, .int .u64 (v.label : Int)]] w (GoE w B N h s d m) := by
 have hn : s.C.length ≤ 1000000 := by have := ok.cl; omega
 by_cases hk : k < 0 ∨ (s.C.length : Int) ≤ k
 ·exact (store_none H hn ctx v hc hv k hk).mono fun e w' ⟨he, hb⟩ => ⟨3, s, he, .refl _ _, .same H hb⟩
 ·obtain ⟨j, rfl⟩ : ∃ j : Nat, k = (j : Int) := ⟨k.toNat, by omega⟩
  have hj : j < s.C.length := by omega
  exact store_some H hn ctx v hc hv m (List.getElem?_eq_getElem hj) (ok.cell _ (List.getElem_mem _))

set_option maxRecDepth 100000 in
theorem rload_none {w : World} {B N h : Nat} {s : HpS} {d : HpD} (H : RpAt w B N h s d) (k : Int) (hk : k < 0 ∨ (s.C.length : Int) ≤ k) :
  Calls Tryz.prog 34 #[.pointer (some ⟨h, 0, none⟩), .int .i64 k] w (RetV w) := by
 have HH := Lib.hid H
 clear H
 obtain ⟨b0, hb0⟩ : ∃ b, b = w.heap.size := ⟨_, rfl⟩
 have HE_b0 := Lib.hid hb0
 clear hb0
 go_enter Tryz.func34, Tryz.ntmps34
 go_upto_region 1 with fail
 rw [← HE_b0.out]
 refine gen_wp fun W hW => ?_
 have HB_b0 := Lib.hid (show W.heap[b0]? = some (.cells #[.int .i64 0, .int .i64 0, .string ⟨#[]⟩, .int .u64 0] 26 (0, 0)) by rw [← hW, HE_b0.out]; exact heap_new_at _ _ _ (by first | rfl | simp))
 have HW := Lib.hid (show Below w.heap.size w W by rw [← hW]; exact (Below.refl _ _).alloc (by simp <;> omega) _)
 clear hW
 obtain ⟨_, _, _, _, c4, cf, cl⟩ := rp_cells (HH.out.below HW.out)
 have cf4 := cf 4
 clear cf
 obtain ⟨q0, q1, q2, q3, qf0, qf1, qf2, qf3, ql⟩ := blk_4 HB_b0.out
 by_cases h0 : k < 0
 ·go_wp2
  obtain ⟨j0, j1, j2, j3⟩ := four HB_b0.out rfl (.int .i64 0) (.int .i64 0) (.string ⟨#[]⟩) (.int .u64 0)
  refine bodyPost_ret (v := .agg #[.int .i64 0, .int .i64 0, .string ⟨#[]⟩, .int .u64 0]) (by simp [results, Tryz.results34, go_sem, j0, j1, j2, j3]) rfl ?_
  exact ⟨(Below.setCell (p := ⟨b0, 3, none⟩) (Below.setCell (p := ⟨b0, 2, none⟩) (Below.setCell (p := ⟨b0, 1, none⟩) (Below.setCell (p := ⟨b0, 0, none⟩) HW.out (show w.heap.size ≤ b0 by have := HE_b0.out; omega) (.int .i64 0)) (show w.heap.size ≤ b0 by have := HE_b0.out; omega) (.int .i64 0)) (show w.heap.size ≤ b0 by have := HE_b0.out; omega) (.string ⟨#[]⟩)) (show w.heap.size ≤ b0 by have := HE_b0.out; omega) (.int .u64 0)), ⟨0, 0, ⟨#[]⟩, 0⟩, rfl⟩
 ·have hge : k ≥ (s.C.length : Int) := by omega
  go_wp2
  obtain ⟨j0, j1, j2, j3⟩ := four HB_b0.out rfl (.int .i64 0) (.int .i64 0) (.string ⟨#[]⟩) (.int .u64 0)
  refine bodyPost_ret (v := .agg #[.int .i64 0, .int .i64 0, .string ⟨#[]⟩, .int .u64 0]) (by simp [results, Tryz.results34, go_sem, j0, j1, j2, j3]) rfl ?_
  exact ⟨(Below.setCell (p := ⟨b0, 3, none⟩) (Below.setCell (p := ⟨b0, 2, none⟩) (Below.setCell (p := ⟨b0, 1, none⟩) (Below.setCell (p := ⟨b0, 0, none⟩) HW.out (show w.heap.size ≤ b0 by have := HE_b0.out; omega) (.int .i64 0)) (show w.heap.size ≤ b0 by have := HE_b0.out; omega) (.int .i64 0)) (show w.heap.size ≤ b0 by have := HE_b0.out; omega) (.string ⟨#[]⟩)) (show w.heap.size ≤ b0 by have := HE_b0.out; omega) (.int .u64 0)), ⟨0, 0, ⟨#[]⟩, 0⟩, rfl⟩
set_option maxRecDepth 100000 in
theorem rload_some {w : World} {B N h : Nat} {s : HpS} {d : HpD} (H : RpAt w B N h s d) {x : VV} {j : Nat} (hj : s.C[j]? = some x) :
  Calls Tryz.prog 34 #[.pointer (some ⟨h, 0, none⟩), .int .i64 (j : Int)] w (RetV w) := by
 obtain ⟨A', c', e, _, _, hfm⟩ := own_form H.o3
 injection e with e1 e2 e3
 have hjl := (List.getElem?_eq_some_iff.1 hj).1
 obtain ⟨gb, e4, _, hlt, _, hc⟩ := hfm (by omega)
 have hA3 : d.A3 = some ⟨gb, 0, none⟩ := by rw [e1, e4]
 have hcs := elem_cells (w := w) (ad := ⟨gb, 0, none⟩) (K := 4) vv_len (fun i u hu => by rw [Addr.add_mid, Nat.zero_add]; exact hc i u hu) hj
 have HQ := Lib.hid (show ∀ W', Below w.heap.size w W' → W'.cell? ⟨h, 4, none⟩ = some (.slice (some ⟨gb, 0, none⟩) s.C.length d.c3) ∧ ∀ i u, (vvE x)[i]? = some u → W'.cell? ⟨gb, j * 4 + i, none⟩ = some u from fun W' hb => by
  refine ⟨?_, fun i u hu => ?_⟩
  ·have := (rp_cells (H.below hb)).2.2.2.2.1
   rw [hA3] at this
   exact this
  ·have h1 := hcs i u hu
   rw [Addr.add_mid, Addr.add_mid, Nat.zero_add] at h1
   rw [hb.cell (by exact hlt)]
   exact h1)
 have HL := Lib.hid (show h < w.heap.size ∧ gb < w.heap.size from ⟨blk_lt H.blk, hlt⟩)
 have HA3 := Lib.hid hA3
 have HJ := Lib.hid hj
 have hj0 : ¬ ((j : Int) < 0) := by omega
 have hj0' : (0 : Int) ≤ j := by omega
 have hge : ¬ ((j : Int) ≥ (s.C.length : Int)) := by omega
 have hj1' : (j : Int) < (s.C.length : Int) := by omega
 have HJK := Lib.hid (And.intro hj0 (And.intro hge (And.intro hj0' hj1')))
 clear hfm hc hcs e1 e2 e3 e4 hA3 hj hlt hjl hj0 hj0' hge hj1'
 clear H
 obtain ⟨b0, hb0⟩ : ∃ b, b = w.heap.size := ⟨_, rfl⟩
 have HE_b0 := Lib.hid hb0
 clear hb0
 go_enter Tryz.func34, Tryz.ntmps34
 go_upto_region 1 with fail
 rw [← HE_b0.out]
 refine gen_wp fun W hW => ?_
 have HB_b0 := Lib.hid (show W.heap[b0]? = some (.cells #[.int .i64 0, .int .i64 0, .string ⟨#[]⟩, .int .u64 0] 26 (0, 0)) by rw [← hW, HE_b0.out]; exact heap_new_at _ _ _ (by first | rfl | simp))
 have HW := Lib.hid (show Below w.heap.size w W by rw [← hW]; exact (Below.refl _ _).alloc (by simp <;> omega) _)
 clear hW
 have c4 := (HQ.out W HW.out).1
 have cl : h < W.heap.size := Nat.lt_of_lt_of_le HL.out.1 HW.out.size
 have z0 : W.cell? ⟨gb, j * 4, none⟩ = some (.int .i64 x.kind) := (HQ.out W HW.out).2 0 _ rfl
 have z1 : W.cell? ⟨gb, j * 4 + 1, none⟩ = some (.int .i64 x.n) := (HQ.out W HW.out).2 1 _ rfl
 have z2 : W.cell? ⟨gb, j * 4 + 2, none⟩ = some (.string x.s) := (HQ.out W HW.out).2 2 _ rfl
 have z3 : W.cell? ⟨gb, j * 4 + 3, none⟩ = some (.int .u64 (x.label : Int)) := (HQ.out W HW.out).2 3 _ rfl
 have hj0 := HJK.out.1
 have hge := HJK.out.2.1
 have hj0' := HJK.out.2.2.1
 have hj1' := HJK.out.2.2.2
 obtain ⟨q0, q1, q2, q3, qf0, qf1, qf2, qf3, ql⟩ := blk_4 HB_b0.out
 go_wp2
 obtain ⟨j0, j1, j2, j3⟩ := four HB_b0.out rfl (.int .i64 x.kind) (.int .i64 x.n) (.string x.s) (.int .u64 (x.label : Int))
 refine bodyPost_ret (v := .agg #[.int .i64 x.kind, .int .i64 x.n, .string x.s, .int .u64 (x.label : Int)]) (by simp [results, Tryz.results34, go_sem, j0, j1, j2, j3]) rfl ?_
 exact ⟨(Below.setCell (p := ⟨b0, 3, none⟩) (Below.setCell (p := ⟨b0, 2, none⟩) (Below.setCell (p := ⟨b0, 1, none⟩) (Below.setCell (p := ⟨b0, 0, none⟩) HW.out (show w.heap.size ≤ b0 by have := HE_b0.out; omega) (.int .i64 x.kind)) (show w.heap.size ≤ b0 by have := HE_b0.out; omega) (.int .i64 x.n)) (show w.heap.size ≤ b0 by have := HE_b0.out; omega) (.string x.s)) (show w.heap.size ≤ b0 by have := HE_b0.out; omega) (.int .u64 (x.label : Int))), x, rfl⟩
theorem rload_at {w : World} {B N h : Nat} {s : HpS} {d : HpD} (H : RpAt w B N h s d) (k : Int) : Calls Tryz.prog 34 #[.pointer (some ⟨h, 0, none⟩), .int .i64 k] w (RetV w) := by
 by_cases hk : k < 0 ∨ (s.C.length : Int) ≤ k
 ·exact rload_none H k hk
 ·obtain ⟨j, rfl⟩ : ∃ j : Nat, k = (j : Int) := ⟨k.toNat, by omega⟩
  exact rload_some H (List.getElem?_eq_getElem (show j < s.C.length by omega))
set_option maxRecDepth 100000 in
theorem rcell_at {w : World} {B N h : Nat} {s : HpS} {d : HpD} (H : RpAt w B N h s d) (x : VV) (hx : HVOk x) (n : Nat) (hn : s.C.length ≤ 1000000) :
  Calls Tryz.prog 32 #[.pointer (some ⟨h, 0, none⟩), .agg #[.int .i64 x.kind, .int .i64 x.n, .string x.s, .int .u64 (x.label : Int)]] w (RGoI w B N h s d n) := by
 obtain ⟨i0, hi, hz0, hz1, hz2⟩ := info_parts info_cel
 have HH := Lib.hid H
 have HN := Lib.hid (And.intro hn hx)
 have HLT := Lib.hid (fun b (hb : b ∈ d.fp h s.F) => (H.kinds hb).2)
 clear H hx
 obtain ⟨b0, hb0⟩ : ∃ b, b = w.heap.size := ⟨_, rfl⟩
 have HE_b0 := Lib.hid hb0
 clear hb0
 go_enter Tryz.func32, Tryz.ntmps32
 go_upto_region 1 with fail
 rw [← HE_b0.out]
 refine gen_wp fun W hW => ?_
 have HB_b0 := Lib.hid (show W.heap[b0]? = some (.cells #[.int .i64 x.kind, .int .i64 x.n, .string x.s, .int .u64 (x.label : Int)] 26 (0, 0)) by rw [← hW, HE_b0.out]; exact heap_new_at _ _ _ (by first | rfl | simp))
 have HW := Lib.hid (show Below w.heap.size w W by rw [← hW]; exact (Below.refl _ _).alloc (by simp <;> omega) _)
 clear hW
 have HC := Lib.hid (rcharge_at (HH.out.below HW.out) 1 (by omega))
 go_wp2_with fail
 refine HC.out.mono ?_
 rintro e w1 (⟨rfl, hb⟩ | ⟨rfl, hr, hh, hf⟩)
 ·have W1 := Lib.hid (HW.out.trans (hb.mono HW.out.size))
  clear hb
  go_wp2
  go_returns
  exact ⟨0, false, s, rfl, .refl _ _, .same HH.out W1.out⟩
 ·have HF1 := Lib.hid hf
  have H1 := Lib.hid hh
  have HR := Lib.hid hr
  obtain ⟨U1, hU1⟩ : ∃ U1, U1 = s.U + max 1 0 := ⟨_, rfl⟩
  have HU := Lib.hid hU1
  rw [← hU1] at H1 HR
  have hne0 : b0 ∉ [h] := by have := HLT.out h (fp_h d h s.F); have := HE_b0.out; simp; omega
  have D0 := Lib.hid (hf.blk HB_b0.out hne0)
  have hblk : w1.heap[h]? = some (.cells #[.int .i64 s.L, .int .i64 U1, .slice d.A1 s.T.length d.c1, .slice d.A2 s.F.length d.c2, .slice d.A3 s.C.length d.c3] 45 (0, 0)) := H1.out.blk
  have hown : w1.ownsRow B 26 4 (.slice d.A3 s.C.length d.c3) s.C.length (s.C.flatMap vvE) := H1.out.o3
  have hBW : B ≤ w1.heap.size := H1.out.wB
  have HN1 := hn
  clear hf hh hr hU1 hne0
  obtain ⟨r0, r1, r2, r3, rf0, rf1, rf2, rf3, rl⟩ := blk_4 D0.out
  have hne := own_blk_ne hown hblk (by decide)
  obtain ⟨p0, p1, p2, p3, p4, pf0, pf1, pf2, pf3, pf4, pl⟩ := blk_5 hblk
  go_wp2_with fail
  go_region_law ((refine step_append_lies _ (by rfl) _ _ _ (by rfl) B 26 i0 (.agg #[.int .i64 0, .int .i64 0, .string ByteArray.empty, .int .u64 0]) 4 40 Tryz.underlying43 hi hz0 hz1 hz2 rfl (by omega) (.slice d.A3 s.C.length d.c3) s.C.length (s.C.flatMap vvE) (by rfl) (by exact hown.alloc _) ⟨w1.heap.size, 0, none⟩ 1 1 (vvE x) (by rfl) (by rfl) (by exact news_drew _ #[.int .i64 x.kind, .int .i64 x.n, .string x.s, .int .u64 (x.label : Int)] _ _ (by simp)) (by simp [fnEnc, vvE, Value.oneCell']) (by omega) (by unfold maxLen; omega) (by omega) (by simp; omega) (w1.heap.size + 1) (by simp) ?_; intro g cap w2 hown2 hgrow hat hlt2; have hbk2 : w2.heap[h]? = some (.cells #[.int .i64 s.L, .int .i64 U1, .slice d.A1 s.T.length d.c1, .slice d.A2 s.F.length d.c2, .slice d.A3 s.C.length d.c3] 45 (0, 0)) := (by exact blk_grown (blk_drew (blk_alloc hblk _)) hgrow (Ne.symm hne)); have he0 := cell_of_blk (i := 4) hbk2 rfl; have hef := free_of_blk (i := 4) hbk2; have hel := blk_lt hbk2))
  all_goals
   have hw1 : IntKind.wrap .i64 (((s.C.length + 1 : Nat) : Int) - 1) = (s.C.length : Int) := by rw [IntKind.wrap_i64]; omega
   have hgg : (w2.setCell ⟨h, 4, none⟩ (.slice (some ⟨g, 0, none⟩) (s.C.length + 1) cap)).heap[h]? = some (.cells #[.int .i64 s.L, .int .i64 U1, .slice d.A1 s.T.length d.c1, .slice d.A2 s.F.length d.c2, .slice (some ⟨g, 0, none⟩) (s.C.length + 1) cap] 45 (0, 0)) := blk_set hbk2 _
   have hq5 := cell_of_blk (i := 4) hgg rfl
   have HT2 := Lib.hid (H1.out.madeC (x := x) (U' := U1) hgg (own_set hown2 hbk2 (by decide) _) (by rw [← ownB d.A3 s.C.length d.c3]; exact ((((Fr.refl (h :: (.slice d.A3 s.C.length d.c3 : Value).ownBlock.toList) w1).alloc _).drew).grown hgrow fun k hk => .inl (by rw [hk]; simp)).set _ (.inl (by simp))) (hat.imp (fun e => mem_aB e) fun e => by omega) (by have := HH.out.u0; have := HU.out; omega) (by have := HR.out; exact this))
   go_wp2
   go_returns
   refine ⟨(s.C.length : Int), true, _, rfl, le_cell HN.out.2.vok (U := U1) (by rw [HU.out]; omega), ?_⟩
   exact RpTo.wrap (R := []) (HH.out.below HW.out) HW.out HLT.out (RpTo.of_charged HF1.out HT2.out) (Fr.refl _ _) (by simp)
set_option maxRecDepth 100000 in
theorem rstore_none {w : World} {B N h : Nat} {s : HpS} {d : HpD} (H : RpAt w B N h s d) (ctx : Nat) (v : VV) (k : Int) (hk : k < 0 ∨ (s.C.length : Int) ≤ k) :
  Calls Tryz.prog 36 #[.pointer (some ⟨h, 0, none⟩), .int .u64 (ctx : Int), .int .i64 k, .agg #[.int .i64 v.kind, .int .i64 v.n, .string v.s, .int .u64 (v.label : Int)]] w (RetB (.int .i64 3) w) := by
 have HH := Lib.hid H
 clear H
 obtain ⟨b0, hb0⟩ : ∃ b, b = w.heap.size := ⟨_, rfl⟩
 have HE_b0 := Lib.hid hb0
 clear hb0
 go_enter Tryz.func36, Tryz.ntmps36
 go_upto_region 1 with fail
 rw [← HE_b0.out]
 refine gen_wp fun W hW => ?_
 have HB_b0 := Lib.hid (show W.heap[b0]? = some (.cells #[.int .i64 v.kind, .int .i64 v.n, .string v.s, .int .u64 (v.label : Int)] 26 (0, 0)) by rw [← hW, HE_b0.out]; exact heap_new_at _ _ _ (by first | rfl | simp))
 have HW := Lib.hid (show Below w.heap.size w W by rw [← hW]; exact (Below.refl _ _).alloc (by simp <;> omega) _)
 clear hW
 obtain ⟨_, _, _, _, c4, cf, cl⟩ := rp_cells (HH.out.below HW.out)
 have cf4 := cf 4
 clear cf
 by_cases h0 : k < 0
 ·go_wp2
  go_returns
  exact ⟨rfl, HW.out⟩
 ·have hge : k ≥ (s.C.length : Int) := by omega
  go_wp2
  go_returns
  exact ⟨rfl, HW.out⟩
set_option maxRecDepth 100000 in
theorem rstore_some {w : World} {B N h : Nat} {s : HpS} {d : HpD} (H : RpAt w B N h s d) (ctx : Nat) (v : VV) (hc : ctx < 18446744073709551616) (hv : VOk v) (m : Nat) {x : VV} {j : Nat} (hj : s.C[j]? = some x) (hx : VOk x) :
  Calls Tryz.prog 36 #[.pointer (some ⟨h, 0, none⟩), .int .u64 (ctx : Int), .int .i64 (j : Int), .agg #[.int .i64 v.kind, .int .i64 v.n, .string v.s, .int .u64 (v.label : Int)]] w (RGoE w B N h s d m) := by
 have HH := Lib.hid H
 have HLT := Lib.hid (fun b (hb : b ∈ d.fp h s.F) => (H.kinds hb).2)
 obtain ⟨A', c', e, _, _, hfm⟩ := own_form H.o3
 injection e with e1 e2 e3
 have hjl := (List.getElem?_eq_some_iff.1 hj).1
 obtain ⟨gb, e4, _, hlt, _, hc⟩ := hfm (by omega)
 have hA3 : d.A3 = some ⟨gb, 0, none⟩ := by rw [e1, e4]
 have hcs := elem_cells (w := w) (ad := ⟨gb, 0, none⟩) (K := 4) vv_len (fun i u hu => by rw [Addr.add_mid, Nat.zero_add]; exact hc i u hu) hj
 have HQ := Lib.hid (show ∀ W', Below w.heap.size w W' → W'.cell? ⟨h, 4, none⟩ = some (.slice (some ⟨gb, 0, none⟩) s.C.length d.c3) ∧ ∀ i u, (vvE x)[i]? = some u → W'.cell? ⟨gb, j * 4 + i, none⟩ = some u from fun W' hb => by
  refine ⟨?_, fun i u hu => ?_⟩
  ·have := (rp_cells (H.below hb)).2.2.2.2.1
   rw [hA3] at this
   exact this
  ·have h1 := hcs i u hu
   rw [Addr.add_mid, Addr.add_mid, Nat.zero_add] at h1
   rw [hb.cell (by exact hlt)]
   exact h1)
 have HL := Lib.hid (show h < w.heap.size ∧ gb < w.heap.size from ⟨blk_lt H.blk, hlt⟩)
 have HA3 := Lib.hid hA3
 have HJ := Lib.hid hj
 have hj0 : ¬ ((j : Int) < 0) := by omega
 have hj0' : (0 : Int) ≤ j := by omega
 have hge : ¬ ((j : Int) ≥ (s.C.length : Int)) := by omega
 have hj1' : (j : Int) < (s.C.length : Int) := by omega
 have HJK := Lib.hid (And.intro hj0 (And.intro hge (And.intro hj0' hj1')))
 clear hfm hc hcs e1 e2 e3 e4 hA3 hj hlt hjl hj0 hj0' hge hj1'
 have HC := Lib.hid (And.intro hc (And.intro hv hx))
 clear H hc hv hx
 obtain ⟨b0, hb0⟩ : ∃ b, b = w.heap.size := ⟨_, rfl⟩
 have HE_b0 := Lib.hid hb0
 clear hb0
 go_enter Tryz.func36, Tryz.ntmps36
 go_upto_region 1 with fail
 rw [← HE_b0.out]
 refine gen_wp fun W hW => ?_
 have HB_b0 := Lib.hid (show W.heap[b0]? = some (.cells #[.int .i64 v.kind, .int .i64 v.n, .string v.s, .int .u64 (v.label : Int)] 26 (0, 0)) by rw [← hW, HE_b0.out]; exact heap_new_at _ _ _ (by first | rfl | simp))
 have HW := Lib.hid (show Below w.heap.size w W by rw [← hW]; exact (Below.refl _ _).alloc (by simp <;> omega) _)
 clear hW
 have HFL := Lib.hid (fun W' => rflows_any ctx x.label W' HC.out.1 HC.out.2.2.label)
 have c4 := (HQ.out W HW.out).1
 have cl : h < W.heap.size := Nat.lt_of_lt_of_le HL.out.1 HW.out.size
 have z0 : W.cell? ⟨gb, j * 4, none⟩ = some (.int .i64 x.kind) := (HQ.out W HW.out).2 0 _ rfl
 have z1 : W.cell? ⟨gb, j * 4 + 1, none⟩ = some (.int .i64 x.n) := (HQ.out W HW.out).2 1 _ rfl
 have z2 : W.cell? ⟨gb, j * 4 + 2, none⟩ = some (.string x.s) := (HQ.out W HW.out).2 2 _ rfl
 have z3 : W.cell? ⟨gb, j * 4 + 3, none⟩ = some (.int .u64 (x.label : Int)) := (HQ.out W HW.out).2 3 _ rfl
 have hj0 := HJK.out.1
 have hge := HJK.out.2.1
 have hj0' := HJK.out.2.2.1
 have hj1' := HJK.out.2.2.2
 go_wp2_with fail
 refine (HFL.out _).mono ?_
 rintro e w2 ⟨rfl, rfl⟩
 cases hfl : flowsB ctx x.label with
 | false =>
  go_wp2
  go_returns
  exact ⟨40, s, rfl, .refl _ _, .same HH.out HW.out⟩
 | true =>
  clear hfl c4 cl z0 z1 z2 z3
  obtain ⟨y, hy⟩ : ∃ y, y = withV v ctx := ⟨_, rfl⟩
  have HYO := Lib.hid (show VOk y by rw [hy]; exact withV_ok HC.out.2.1 HC.out.1)
  have HWI := Lib.hid (show ∀ W', Calls Tryz.prog 73 #[.agg #[.int .i64 v.kind, .int .i64 v.n, .string v.s, .int .u64 (v.label : Int)], .int .u64 (ctx : Int)] W' (RetB (.agg #[.int .i64 y.kind, .int .i64 y.n, .string y.s, .int .u64 (y.label : Int)]) W') from fun W' => by
   have := rwith_any v ctx W' HC.out.2.1.label HC.out.1
   rw [← hy] at this
   exact this)
  have HGB := Lib.hid (show gb ≠ b0 by have := HL.out.2; have := HE_b0.out; omega)
  clear hy
  go_wp2_with fail
  refine wp_region_held_drew (S := fun w' => w'.cell? ⟨h, 4, none⟩ = some (.slice (some ⟨gb, 0, none⟩) s.C.length d.c3) ∧ w'.heap[b0]? = some (.cells #[.int .i64 v.kind, .int .i64 v.n, .string v.s, .int .u64 (v.label : Int)] 26 (0, 0))) (by kernel_rfl) (⟨(HQ.out _ HW.out.drew).1, HB_b0.out⟩) (fun hHeld => ?_)
  refine tk 0 31 (.pointer (some ⟨h, 0, none⟩)) hHeld ?_; simp only [Act.put, zq1, zq2, zq3]
  refine tk 1 32 (.pointer (some ⟨h, 0, none⟩)) hHeld ?_; simp only [Act.put, zq1, zq2, zq3]
  refine tk 2 33 (.pointer (some ⟨h, 4, none⟩)) hHeld ?_; simp only [Act.put, zq1, zq2, zq3]
  refine tk 3 34 (.slice (some ⟨gb, 0, none⟩) s.C.length d.c3) hHeld ?_ (hy := Or.inl ⟨by rfl, fun w' hS => (by have q0 := hS.1; go_simp)⟩); simp only [Act.put, zq1, zq2, zq3]
  refine tk 4 35 (.int .i64 (j : Int)) hHeld ?_; simp only [Act.put, zq1, zq2, zq3]
  refine tk 5 36 (.agg #[.int .i64 v.kind, .int .i64 v.n, .string v.s, .int .u64 (v.label : Int)]) hHeld ?_ (hy := Or.inl ⟨by rfl, fun w' hS => (by have q0 := cell_of_blk (i := 0) hS.2 rfl; have q1 := cell_of_blk (i := 1) hS.2 rfl; have q2 := cell_of_blk (i := 2) hS.2 rfl; have q3 := cell_of_blk (i := 3) hS.2 rfl; go_simp)⟩); simp only [Act.put, zq1, zq2, zq3]
  refine tk 6 37 (.int .u64 (ctx : Int)) hHeld ?_; simp only [Act.put, zq1, zq2, zq3]
  refine rd 7 fun K hK => ?_
  go_simp
  refine (HWI.out _).mono ?_
  rintro e w2 ⟨rfl, hb2⟩
  have HB2 := Lib.hid (show Below W.heap.size W w2 from (((Below.refl _ _).drew)).trans (hb2.mono (by exact Nat.le_refl _)))
  clear hb2
  have W2 := Lib.hid (show Below w.heap.size w w2 from HW.out.trans (HB2.out.mono HW.out.size))
  have z0 : w2.cell? ⟨gb, j * 4, none⟩ = some (.int .i64 x.kind) := (HQ.out w2 W2.out).2 0 _ rfl
  have z1 : w2.cell? ⟨gb, j * 4 + 1, none⟩ = some (.int .i64 x.n) := (HQ.out w2 W2.out).2 1 _ rfl
  have z2 : w2.cell? ⟨gb, j * 4 + 2, none⟩ = some (.string x.s) := (HQ.out w2 W2.out).2 2 _ rfl
  have z3 : w2.cell? ⟨gb, j * 4 + 3, none⟩ = some (.int .u64 (x.label : Int)) := (HQ.out w2 W2.out).2 3 _ rfl
  have HO2 := Lib.hid (show w2.ownsRow B 26 4 (.slice (some ⟨gb, 0, none⟩) s.C.length d.c3) s.C.length (s.C.flatMap vvE) by have := (HH.out.below W2.out).o3; rw [HA3.out] at this; exact this)
  obtain ⟨cs2, fr2, hk2⟩ := own_kind HO2.out (g := gb) rfl
  have zz : ∀ i, w2.frozen? ⟨gb, i, none⟩ = false := fun i => by
   obtain ⟨_, h2⟩ := HO2.out
   rcases h2 with ⟨e, _⟩ | ⟨g', cap', cur', e, _, hh', _⟩
   ·cases e
   ·cases e
    exact free_of_blk hh'
  have hgh : gb ≠ h := by
   obtain ⟨cs, fr, hk⟩ := own_kind HO2.out (g := gb) rfl
   exact kind_ne hk (HH.out.below W2.out).blk (by decide)
  have HGH := Lib.hid hgh
  clear hgh
  have zf0 := zz (j * 4)
  have zf1 := zz (j * 4 + 1)
  have zf2 := zz (j * 4 + 2)
  have zf3 := zz (j * 4 + 3)
  have zl := blk_lt hk2
  clear zz hk2
  refine hK.out _ _ (⟨(HQ.out _ W2.out).1, below_blk HB2.out HB_b0.out⟩) (fun hHeld => ?_)
  clear hK K
  try simp only [Act.put, zq1, zq2, zq3]
  refine tk 8 39 (.pointer (some ⟨gb, j * 4, none⟩)) hHeld ?_; simp only [Act.put, zq1, zq2, zq3]
  refine rd 9 fun K hK => ?_
  go_simp
  refine hK.out _ _ (⟨by have := cell_of_blk (i := 4) (blk_far (a := ⟨gb, j * 4 + 3, none⟩) (blk_far (a := ⟨gb, j * 4 + 2, none⟩) (blk_far (a := ⟨gb, j * 4 + 1, none⟩) (blk_far (a := ⟨gb, j * 4, none⟩) ((HH.out.below W2.out).blk) HGH.out.symm (.int .i64 y.kind)) HGH.out.symm (.int .i64 y.n)) HGH.out.symm (.string y.s)) HGH.out.symm (.int .u64 (y.label : Int))) rfl; rw [HA3.out] at this; exact this, (blk_far (a := ⟨gb, j * 4 + 3, none⟩) (blk_far (a := ⟨gb, j * 4 + 2, none⟩) (blk_far (a := ⟨gb, j * 4 + 1, none⟩) (blk_far (a := ⟨gb, j * 4, none⟩) (below_blk HB2.out HB_b0.out) HGB.out.symm _) HGB.out.symm _) HGB.out.symm _) HGB.out.symm _)⟩) (fun hHeld => ?_)
  clear hK K
  try simp only [Act.put, zq1, zq2, zq3]
  refine wpAnyH_done (by kernel_rfl) ?_ _
  go_wp2
  go_returns
  refine ⟨0, _, rfl, le_store (j := j) HYO.out, ?_⟩
  have hU2 := HH.out.below W2.out
  refine RpTo.wrap (R := []) hU2 W2.out HLT.out (hU2.setC (C' := s.C.set j y) (by simp) ?_ ?_) (Fr.refl _ _) (by simp)
  ·rw [HA3.out]
   exact own_put4 HO2.out y (List.getElem?_eq_some_iff.1 HJ.out).1
  ·rw [HA3.out]
   exact ((((Fr.refl _ _).set _ (.inl (by simp [aB]))).set _ (.inl (by simp [aB]))).set _ (.inl (by simp [aB]))).set _ (.inl (by simp [aB]))
theorem rstore_at {w : World} {B N h : Nat} {s : HpS} {d : HpD} (H : RpAt w B N h s d) {m : Nat} (ok : HpOk m s) (ctx : Nat) (v : VV) (hc : ctx < 18446744073709551616) (hv : VOk v) (k : Int) :
  Calls Tryz.prog 36 #[.pointer (some ⟨h, 0, none⟩), .int .u64 (ctx : Int), .int .i64 k, .agg #[.int .i64 v.kind, .int .i64 v.n, .string v.s, .int .u64 (v.label : Int)]] w (RGoE w B N h s d m) := by
 by_cases hk : k < 0 ∨ (s.C.length : Int) ≤ k
 ·exact (rstore_none H ctx v k hk).mono fun e w' ⟨he, hb⟩ => ⟨3, s, he, .refl _ _, .same H hb⟩
 ·obtain ⟨j, rfl⟩ : ∃ j : Nat, k = (j : Int) := ⟨k.toNat, by omega⟩
  have hj : j < s.C.length := by omega
  exact rstore_some H ctx v hc hv m (List.getElem?_eq_getElem hj) (ok.cell _ (List.getElem_mem _))

def FnAt (w : World) (B N h : Nat) (s : HpS) (d : HpD) (f : FnS) (k : Int) (e : Ending) (w' : World) : Prop :=
 (e = .returned (.tuple #[.agg #[.int .i64 0, .int .i64 0, .string ⟨#[]⟩, .int .u64 0], .bool false]) ∧ Below w.heap.size w w') ∨ (e = .returned (.tuple #[newFnV s.F.length, .bool true]) ∧ s.U + max k 0 ≤ s.L ∧
  ∃ d', HpAt w' B N h { s with U := s.U + max k 0, F := s.F ++ [f] } d' ∧ Fr (d.fp h s.F) w w' ∧ ∀ b ∈ d'.fp h (s.F ++ [f]), b ∈ d.fp h s.F ∨ b ∈ aB f.A ∨ w.heap.size ≤ b)
theorem fn_at {w : World} {B N h : Nat} {s : HpS} {d : HpD} (H : HpAt w B N h s d) (f : FnS) (hfn : FnIn w B N f) (k : Int) (hk : k ≤ 9223372036854775807) (hn : s.F.length ≤ 1000000) :
  Calls Tryz.prog 52 #[.pointer (some ⟨h, 0, none⟩), .agg #[.int .i64 f.pr, .slice f.A f.n f.c, .int .i64 f.x.kind, .int .i64 f.x.n, .string f.x.s, .int .u64 (f.x.label : Int), .int .i64 f.ty.kind, .slice f.ty.A f.ty.ns.length f.ty.c, .slice f.ty.A2 f.ty.xs.length f.ty.c2, .int .i64 f.ca, .bool f.wr], .int .i64 k] w (FnAt w B N h s d f k) := by
 refine (hfn_any H.blk H.o2 hn H.wB f k H.u0 H.u1 H.u2 hk).mono ?_
 rintro e w' (⟨_, rfl, hb⟩ | ⟨hr, rfl, g, cap, m1, m2, m3, m4⟩)
 ·exact .inl ⟨rfl, hb⟩
 ·rw [ownB] at m3
  refine .inr ⟨rfl, by omega, H.madeF (f := f) m1 m2 m3 (m4.imp (fun e => mem_aB e) id) ?_ (by have := H.u0; omega) (by omega)⟩
  obtain ⟨cs, hc, ho⟩ := hfn.cells
  refine ⟨⟨cs, hc, m3.own ho fun x hx hm => ?_⟩, hfn.ty.stay (m3.to_below (Nat.le_trans H.nB H.wB) fun b hb => ?_), hfn.len⟩
  ·obtain ⟨cs1, fr1, hk1⟩ := own_kind ho hx
   rcases List.mem_cons.1 hm with rfl | hm
   ·exact kind_ne hk1 H.blk (by decide) rfl
   ·obtain ⟨_, cs2, fr2, hk2⟩ := H.k2 x hm
    exact kind_ne hk1 hk2 (by decide) rfl
  ·rcases List.mem_cons.1 hb with rfl | hb
   ·exact Nat.le_trans H.nB H.hB
   ·exact Nat.le_trans H.nB (H.k2 b hb).1
theorem le_fn {s : HpS} {n : Nat} {f : FnS} (hf : f.wr = true → 0 ≤ f.x.n ∧ f.x.n < (s.F.length : Int)) {U : Int} (hU : s.U ≤ U) : HpLe n s { s with U := U, F := s.F ++ [f] } :=
 ⟨rfl, hU, fun ok => ⟨by have := ok.tl; exact Nat.le_trans this (by omega), by have := ok.fl; simp; omega, by have := ok.cl; exact Nat.le_trans this (by omega), fun T hT => ⟨(ok.tab T hT).1, by have := (ok.tab T hT).2.1; omega, by have := (ok.tab T hT).2.2; omega⟩, fun i g hg hw => by
  rcases Nat.lt_or_ge i s.F.length with hi | hi
  ·rw [List.getElem?_append_left hi] at hg
   exact ok.fn i g hg hw
  ·have h2 := (List.getElem?_eq_some_iff.1 hg).1
   simp at h2
   obtain rfl : i = s.F.length := by omega
   rw [List.getElem?_append_right (Nat.le_refl _)] at hg
   simp at hg
   subst hg
   exact hf hw, ok.cell, ok.str⟩⟩
def zTy : LTy := .mk 0 none 0 [] none 0 []
theorem zTy_in (w : World) (B : Nat) : LIn w B zTy := .mk (.inl rfl) (.inl rfl) (Nat.le_refl _) (by simp [zTy, LTy.ns]) (Nat.le_refl _) (by simp [zTy, LTy.xs]) (by simp [zTy, LTy.ns]) (fun _ => rfl) (by simp [zTy, LTy.xs])
def cloF (pr : Int) (A : Option Addr) (n c : Nat) : FnS := ⟨pr, A, n, c, ⟨0, 0, ⟨#[]⟩, 0⟩, zTy, 0, false⟩
set_option maxRecDepth 100000 in
theorem closure_at {w : World} {B N h : Nat} {s : HpS} {d : HpD} (H : HpAt w B N h s d) (pr : Int) (sl : Sl Int) (hr : Reads w w.heap.size sl.A (sl.xs.map (.int .i64 ·))) (hl : sl.xs.length * 8 ≤ 140737488351232) (hz : sl.A = none → sl.xs.length = 0 ∧ sl.cap = 0) (n : Nat) (hn : s.F.length ≤ 1000000) :
  Calls Tryz.prog 22 #[.pointer (some ⟨h, 0, none⟩), .int .i64 pr, .slice sl.A sl.xs.length sl.cap] w (GoV w B N h s d n) := by
 obtain ⟨b0, hb0⟩ : ∃ b, b = w.heap.size := ⟨_, rfl⟩
 have HE0 := Lib.hid hb0
 have HH := Lib.hid H
 have HLT := Lib.hid (fun b (hb : b ∈ d.fp h s.F) => (H.kinds hb).2)
 obtain ⟨k, hk⟩ : ∃ k, k = sl.xs.length := ⟨_, rfl⟩
 have HX := Lib.hid (And.intro hr (And.intro hl (And.intro hz (And.intro hn hk))))
 rw [← hk]
 have hw1 : IntKind.wrap .i64 (1 + (k : Int)) = 1 + (k : Int) := by rw [IntKind.wrap_i64]; omega
 have HW1 := Lib.hid hw1
 have HK := Lib.hid (show (1 + (k : Int)) ≤ 9223372036854775807 by omega)
 clear hb0 H hr hl hz hn hk hw1
 go_enter Tryz.func22, Tryz.ntmps22
 go_upto_region 1 with fail
 rw [← HE0.out]
 refine gen_wp fun W hW => ?_
 have HB0 := Lib.hid (show W.heap[b0]? = some (.cells #[.int .i64 0, .int .i64 0, .string ⟨#[]⟩, .int .u64 0] 26 (0, 0)) by rw [← hW, HE0.out]; exact heap_new_at _ _ _ (by first | rfl | simp))
 have HW := Lib.hid (show Below w.heap.size w W by rw [← hW]; exact (Below.refl _ _).alloc (Nat.le_refl _) _)
 clear hW
 have HCL := Lib.hid (clone_is sl.A k sl.cap (sl.xs.map (.int .i64 ·)) W (readsOn HX.out.1 HW.out) (by rw [List.length_map]; exact HX.out.2.2.2.2.symm) (by intro u hu; simp at hu; obtain ⟨_, _, rfl⟩ := hu; rfl) (by rw [HX.out.2.2.2.2]; exact HX.out.2.2.1) (by rw [HX.out.2.2.2.2]; exact HX.out.2.1))
 go_wp2_with fail
 refine HCL.out.mono ?_
 rintro e w1 ⟨v1, rfl, hown1, hb1⟩
 obtain ⟨A', c', rfl, _, _, hfm⟩ := own_form hown1
 have HW2 := Lib.hid (HW.out.trans (hb1.mono HW.out.size))
 have HO1 := Lib.hid hown1
 have D0 := Lib.hid (below_blk hb1 HB0.out)
 clear hfm hown1 hb1
 have HH1 := Lib.hid (HH.out.below HW2.out)
 have HFN := Lib.hid (show FnIn w1 B N (cloF pr A' k c') from ⟨⟨sl.xs, HX.out.2.2.2.2.symm, hp_own_mono HO1.out (Nat.le_trans HH.out.wB HW.out.size)⟩, zTy_in _ _, by have := HX.out.2.1; have := HX.out.2.2.2.2; show k * 8 ≤ _; omega⟩)
 have HFC := Lib.hid (show Calls Tryz.prog 52 #[.pointer (some ⟨h, 0, none⟩), .agg #[.int .i64 pr, .slice A' k c', .int .i64 0, .int .i64 0, .string ⟨#[]⟩, .int .u64 0, .int .i64 0, .slice none 0 0, .slice none 0 0, .int .i64 0, .bool false], .int .i64 (1 + (k : Int))] w1 (FnAt w1 B N h s d (cloF pr A' k c') (1 + (k : Int))) from fn_at HH1.out (cloF pr A' k c') HFN.out (1 + (k : Int)) HK.out HX.out.2.2.2.1)
 have hw1 := HW1.out
 go_wp2_with fail
 clear hw1
 refine HFC.out.mono ?_
 rintro e w2 (⟨rfl, hb⟩ | ⟨rfl, hr, d', ha, hf, hn'⟩)
 ·have D2 := Lib.hid (below_blk hb D0.out)
  have HW3 := Lib.hid (HW2.out.trans (hb.mono HW2.out.size))
  clear hb
  obtain ⟨r0, r1, r2, r3, rf0, rf1, rf2, rf3, rl⟩ := blk_4 D2.out
  go_wp2
  obtain ⟨j0, j1, j2, j3⟩ := four D2.out rfl (.int .i64 0) (.int .i64 0) (.string ⟨#[]⟩) (.int .u64 0)
  refine bodyPost_ret (v := .tuple #[.agg #[.int .i64 0, .int .i64 0, .string ⟨#[]⟩, .int .u64 0], .bool false]) (by simp [results, Tryz.results22, go_sem, j0, j1, j2, j3]) rfl ?_
  exact ⟨⟨0, 0, ⟨#[]⟩, 0⟩, false, s, rfl, .refl _ _, .same HH.out ((Below.setCell (p := ⟨b0, 3, none⟩) (Below.setCell (p := ⟨b0, 2, none⟩) (Below.setCell (p := ⟨b0, 1, none⟩) (Below.setCell (p := ⟨b0, 0, none⟩) HW3.out (show w.heap.size ≤ b0 by have := HE0.out; omega) (.int .i64 0)) (show w.heap.size ≤ b0 by have := HE0.out; omega) (.int .i64 0)) (show w.heap.size ≤ b0 by have := HE0.out; omega) (.string ⟨#[]⟩)) (show w.heap.size ≤ b0 by have := HE0.out; omega) (.int .u64 0)))⟩
 ·have hne : b0 ∉ d.fp h s.F := fun hm => by have := HLT.out b0 hm; have := HE0.out; omega
  have D2 := Lib.hid (hf.blk D0.out hne)
  have HR := Lib.hid hr
  have HA := Lib.hid ha
  have HF := Lib.hid hf
  have HN' := Lib.hid hn'
  clear hr ha hf hn' hne
  unfold newFnV
  obtain ⟨r0, r1, r2, r3, rf0, rf1, rf2, rf3, rl⟩ := blk_4 D2.out
  go_wp2
  obtain ⟨j0, j1, j2, j3⟩ := four D2.out rfl (.int .i64 5) (.int .i64 (s.F.length : Int)) (.string ⟨#[]⟩) (.int .u64 0)
  refine bodyPost_ret (v := .tuple #[newFnV s.F.length, .bool true]) (by unfold newFnV; simp [results, Tryz.results22, go_sem, j0, j1, j2, j3]) rfl ?_
  refine ⟨⟨5, (s.F.length : Int), ⟨#[]⟩, 0⟩, true, _, rfl, le_fn (f := cloF pr A' k c') (fun e => by cases e) (show s.U ≤ s.U + max (1 + (k : Int)) 0 by omega), ?_⟩
  have hfs := fr_sets (w := w2) (b := b0) (.int .i64 5) (.int .i64 (s.F.length : Int)) (.string ⟨#[]⟩) (.int .u64 0)
  have hb0w : w.heap.size ≤ b0 := by have := HE0.out; omega
  refine ⟨d', HA.out.kept hfs (fun b hb hm => ?_) (fun b hm => ?_), ((Fr.of_below HW2.out _).trans HF.out fun x hx => .inl hx).trans hfs fun x hx => .inr (by simp at hx; rw [hx]; exact hb0w), fun b hb => ?_⟩
  ·simp at hm
   subst hm
   rcases HN'.out b hb with e | e | e
   ·have := HLT.out b e; omega
   ·have h1 := (hp_own_lt HO1.out (aB_own e)).1
    have h2 := blk_lt HB0.out
    omega
   ·have h2 := blk_lt D0.out
    omega
  ·simp at hm
   subst hm
   have := HH.out.nB
   have := HH.out.wB
   omega
  ·rcases HN'.out b hb with e | e | e
   ·exact .inl e
   ·exact .inr (Nat.le_trans HW.out.size (hp_own_lt HO1.out (aB_own e)).1)
   ·exact .inr (Nat.le_trans HW2.out.size e)
end Go.Proofs.YtilcofpceadpbaaGreatDoor
