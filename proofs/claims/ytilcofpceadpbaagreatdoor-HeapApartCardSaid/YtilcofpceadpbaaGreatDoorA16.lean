/-
 HeapApart: part 16 of what the claim rests on.
-/
import Derived.Test.YtilcofpceadpbaaGreatDoorA14
import Derived.Test.YtilcofpceadpbaaGreatDoorA15
import Derived.Deep.RegionHeld3
set_option linter.unusedVariables false
set_option linter.unusedSimpArgs false
set_option maxHeartbeats 64000000
namespace Go.Proofs.YtilcofpceadpbaaGreatDoor
open Go.ChangeShapes Go.WideShapes Go.ChangeAt Go.RowKit Go.Maps

set_option maxRecDepth 100000 in
theorem rput_app {w : World} {B rb : Nat} {T : TabS} {fp : List Nat} (h : RTabIn w B rb T fp) (ok : TabOk T) {ctx : Nat} {k v : VV} (hc : ctx < 18446744073709551616) (kk : VOk k) (kv : VOk v) (hb : (T.F.length + T.S.length + 1) * 80 ≤ 140737488355328) (hik : isKey k = true) (hpi' : findI T.F k = -1) (hfl : flowsB (ctx ||| k.label) T.l = true) (hst : (decide (k.kind = 3) && !allowsB T.S k.s v.kind) = false) :
  Calls Tryz.prog 60 #[.pointer (some ⟨rb, 0, none⟩), .int .u64 (ctx : Int), .agg (vvCells k), .agg (vvCells v)] w fun e w' => e = .returned (.int .i64 0) ∧ RTabTo w B rb { T with F := T.F ++ [(bareV k, withV v (ctx ||| k.label))] } fp w' := by
 obtain ⟨hbF, hbS, har1, har2⟩ := room80 hb
 have AR1 := Lib.hid har1
 have AR2 := Lib.hid har2
 clear har1 har2 hb
 obtain ⟨⟨fv, sv, hfp, h1, h2, h3⟩, hbase⟩ := h
 have h0 : RTabIn w B rb T fp := ⟨⟨fv, sv, hfp, h1, h2, h3⟩, hbase⟩
 have hfw := fun W => rflows_any (ctx ||| k.label) T.l W (Nat.or_lt_two_pow (n := 64) hc kk.label) ok.l
 rw [hfl] at hfw
 have HFl := Lib.hid hfw
 clear hfw
 obtain ⟨Af, cf, rfl, hnf1, hnf2, _, _⟩ := own_reads h2
 obtain ⟨AS, cs, rfl, hcs1, hcs2, hAS, hRS⟩ := own_reads h3
 have hkeys := fun W => rkey_any k W
 rw [hik] at hkeys
 have HK := Lib.hid hkeys
 have H0 := Lib.hid h0
 have H1 := Lib.hid h1
 have H2 := Lib.hid h2
 have H3 := Lib.hid h3
 have hal := fun (W : World) (hW : Below w.heap.size w W) => allows_any T.S AS cs k.s v.kind W ((hRS.below hW).mono' hW.size) hbS kv.kind
 have HOK := Lib.hid ok
 have hjl : ctx ||| k.label < 18446744073709551616 := Nat.or_lt_two_pow (n := 64) hc kk.label
 have hw := fun W => rwith_any v (ctx ||| k.label) W kv.label hjl
 have hj := fun W => rjoin_any ctx k.label W hc kk.label
 have hf := (fun (W : World) (hW : Below w.heap.size w W) => rfind_any (h0.kept (Fr.of_below hW []) (by simp)) k hbF)
 generalize hpi : findI T.F k = pi at hf
 have HF := Lib.hid hf
 have HB0 := Lib.hid ((((Below.refl w.heap.size w).alloc (Nat.le_refl _) (.cells (vvCells k) 26)).alloc (by simp) (.cells (vvCells v) 26)))
 generalize hR : withV v (ctx ||| k.label) = R at hw ⊢
 generalize hcj : ctx ||| k.label = cj at hj hw hjl
 have HW := Lib.hid hw
 have HJ := Lib.hid hj
 have HP := Lib.hid hfp
 have HBase := Lib.hid hbase
 have HAL := Lib.hid hal
 have htlt := blk_lt h1
 clear hkeys h0 h1 h2 h3 hRS ok hw hj hfp hbase hf hal
 unfold vvCells at *
 go_enter Tryz.func60, Tryz.ntmps60
 go_wp2_with fail
 refine (HK.out _).mono ?_
 rintro e w1 ⟨rfl, hb1⟩
 have HB1 := Lib.hid (HB0.out.trans (hb1.mono (by simp; omega)))
 have U0 := Lib.hid (below_blk hb1 (blk_alloc (heap_alloc_new w _) _))
 have U1 := Lib.hid (below_blk hb1 (heap_new_at _ _ (w.heap.size + 1) (by simp)))
 have U3 := Lib.hid (below_blk HB1.out H1.out)
 have k0 := cell_of_blk (i := 0) U0.out rfl
 have l0 := blk_lt U0.out
 clear hb1 HB0
 by_cases hk3 : k.kind = 3
 ·have hal := HAL.out
  rw [show allowsB T.S k.s v.kind = true from by simpa [hk3] using hst] at hal
  have HAl := Lib.hid hal
  clear hal
  rw [hk3] at k0
  go_wp2_with fail
  refine wp_region_noPanic ?_
  refine wp_region_held_drew (S := fun w' => w'.heap[w.heap.size]? = some (.cells #[.int .i64 k.kind, .int .i64 k.n, .string k.s, .int .u64 (k.label : Int)] 26 (0, 0)) ∧ w'.heap[w.heap.size + 1]? = some (.cells #[.int .i64 v.kind, .int .i64 v.n, .string v.s, .int .u64 (v.label : Int)] 26 (0, 0)) ∧ w'.heap[rb]? = some (.cells #[.int .u64 (T.l : Int), .slice Af T.F.length cf, .slice AS T.S.length cs] 75 (0, 0))) (by kernel_rfl) (⟨U0.out, U1.out, U3.out⟩) (fun hHeld => ?_)
  refine tk 0 14 (.pointer (some ⟨w.heap.size, 0, none⟩)) hHeld ?_; simp only [Act.put, zq1, zq2, zq3]
  refine tk 1 15 (.int .i64 3) hHeld ?_ (hy := Or.inl ⟨by rfl, fun w' hS => (by obtain ⟨s0, s1, s2⟩ := hS; have q0 := cell_of_blk (i := 0) s0 rfl; rw [hk3] at q0; go_simp)⟩); simp only [Act.put, zq1, zq2, zq3]
  refine tk 2 16 (.bool true) hHeld ?_; simp only [Act.put, zq1, zq2, zq3]
  refine tk 3 17 (.bool true) hHeld ?_; simp only [Act.put, zq1, zq2, zq3]
  refine tk 4 18 (.pointer (some ⟨rb, 0, none⟩)) hHeld ?_; simp only [Act.put, zq1, zq2, zq3]
  refine tk 5 19 (.pointer (some ⟨rb, 0, none⟩)) hHeld ?_; simp only [Act.put, zq1, zq2, zq3]
  refine tk 6 20 (.pointer (some ⟨rb, 2, none⟩)) hHeld ?_; simp only [Act.put, zq1, zq2, zq3]
  refine tk 7 21 (.slice AS T.S.length cs) hHeld ?_ (hy := Or.inl ⟨by rfl, fun w' hS => (by obtain ⟨s0, s1, s2⟩ := hS; have q0 := cell_of_blk (i := 2) s2 rfl; go_simp)⟩); simp only [Act.put, zq1, zq2, zq3]
  refine tk 8 22 (.pointer (some ⟨w.heap.size, 2, none⟩)) hHeld ?_; simp only [Act.put, zq1, zq2, zq3]
  refine tk 9 23 (.string k.s) hHeld ?_ (hy := Or.inl ⟨by rfl, fun w' hS => (by obtain ⟨s0, s1, s2⟩ := hS; have q0 := cell_of_blk (i := 2) s0 rfl; go_simp)⟩); simp only [Act.put, zq1, zq2, zq3]
  refine tk 10 24 (.pointer (some ⟨w.heap.size + 1, 0, none⟩)) hHeld ?_; simp only [Act.put, zq1, zq2, zq3]
  refine tk 11 25 (.int .i64 v.kind) hHeld ?_ (hy := Or.inl ⟨by rfl, fun w' hS => (by obtain ⟨s0, s1, s2⟩ := hS; have q0 := cell_of_blk (i := 0) s1 rfl; go_simp)⟩); simp only [Act.put, zq1, zq2, zq3]
  refine rd 12 fun K hK => ?_
  go_simp
  refine (HAl.out _ HB1.out.drew).mono ?_
  rintro e w2 ⟨rfl, hb2⟩
  have V0 := Lib.hid (below_blk hb2 (blk_drew U0.out))
  have V1 := Lib.hid (below_blk hb2 (blk_drew U1.out))
  have V3 := Lib.hid (below_blk hb2 (blk_drew U3.out))
  have HB2 := Lib.hid (HB1.out.drew.trans (hb2.mono HB1.out.size))
  clear hb2
  refine hK.out _ _ ⟨V0.out, V1.out, V3.out⟩ (fun hHeld => ?_)
  clear hK K
  try simp only [Act.put, zq1, zq2, zq3]
  refine tk 13 27 (.bool false) hHeld ?_; simp only [Act.put, zq1, zq2, zq3]
  refine tk 14 28 (.bool false) hHeld ?_; simp only [Act.put, zq1, zq2, zq3]
  refine wpAnyH_done (by kernel_rfl) ?_ _
  refine NoPanic.normal ?_
  refine gen_then fun W5 hW5 => ?_
  have B5 := Lib.hid (show Below w.heap.size w W5 by rw [← hW5]; exact HB2.out)
  have A0 := Lib.hid (show W5.heap[w.heap.size]? = some (.cells #[.int .i64 k.kind, .int .i64 k.n, .string k.s, .int .u64 (k.label : Int)] 26 (0, 0)) by rw [← hW5]; exact V0.out)
  have A1 := Lib.hid (show W5.heap[w.heap.size + 1]? = some (.cells #[.int .i64 v.kind, .int .i64 v.n, .string v.s, .int .u64 (v.label : Int)] 26 (0, 0)) by rw [← hW5]; exact V1.out)
  clear hW5 k0 l0 U0 U1 U3 HB1 V0 V1 V3 HB2 hHeld hk3
  have k0 := cell_of_blk (i := 0) A0.out rfl
  have k1 := cell_of_blk (i := 1) A0.out rfl
  have k2 := cell_of_blk (i := 2) A0.out rfl
  have k3 := cell_of_blk (i := 3) A0.out rfl
  have v0 := cell_of_blk (i := 0) A1.out rfl
  have v1 := cell_of_blk (i := 1) A1.out rfl
  have v2 := cell_of_blk (i := 2) A1.out rfl
  have v3 := cell_of_blk (i := 3) A1.out rfl
  have l0 := blk_lt A0.out
  have l1 := blk_lt A1.out
  go_wp2_with fail
  refine (HJ.out _).mono ?_
  rintro e w6 ⟨rfl, rfl⟩
  go_wp2_with fail
  refine (HW.out _).mono ?_
  rintro e w6 ⟨rfl, hb6⟩
  have B6 := Lib.hid (B5.out.trans (hb6.mono B5.out.size))
  have C0 := Lib.hid (below_blk hb6 A0.out)
  have C1 := Lib.hid (below_blk hb6 A1.out)
  clear hb6 k0 k1 k2 k3 v0 v1 v2 v3 A0 A1 l0 l1
  have k0 := cell_of_blk (i := 0) C0.out rfl
  have k1 := cell_of_blk (i := 1) C0.out rfl
  have k2 := cell_of_blk (i := 2) C0.out rfl
  have k3 := cell_of_blk (i := 3) C0.out rfl
  have v0 := cell_of_blk (i := 0) C1.out rfl
  have v1 := cell_of_blk (i := 1) C1.out rfl
  have v2 := cell_of_blk (i := 2) C1.out rfl
  have v3 := cell_of_blk (i := 3) C1.out rfl
  have z0 := free_of_blk (i := 0) C1.out
  have z1 := free_of_blk (i := 1) C1.out
  have z2 := free_of_blk (i := 2) C1.out
  have z3 := free_of_blk (i := 3) C1.out
  have l0 := blk_lt C0.out
  have l1 := blk_lt C1.out
  have hb7 : Below w.heap.size w ((((w6.setCell ⟨w.heap.size + 1, 0, none⟩ (.int .i64 R.kind)).setCell ⟨w.heap.size + 1, 1, none⟩ (.int .i64 R.n)).setCell ⟨w.heap.size + 1, 2, none⟩ (.string R.s)).setCell ⟨w.heap.size + 1, 3, none⟩ (.int .u64 (R.label : Int))) := (((B6.out.setCell (by simp) _).setCell (by simp) _).setCell (by simp) _).setCell (by simp) _
  have F7 := Lib.hid (HF.out _ hb7)
  have B7 := Lib.hid hb7
  clear hb7
  go_wp2_with fail
  refine F7.out.mono ?_
  rintro e w7 ⟨rfl, hb8⟩
  have B8 := Lib.hid (B7.out.trans (hb8.mono B7.out.size))
  have ne0 : w.heap.size ≠ w.heap.size + 1 := by omega
  have G0 := Lib.hid (below_blk hb8 (blk_far (blk_far (blk_far (blk_far C0.out ne0 _) ne0 _) ne0 _) ne0 _))
  have G1 := Lib.hid (show w7.heap[w.heap.size + 1]? = some (.cells #[.int .i64 R.kind, .int .i64 R.n, .string R.s, .int .u64 (R.label : Int)] 26 (0, 0)) from below_blk hb8 (blk_set (i := 3) (blk_set (i := 2) (blk_set (i := 1) (blk_set (i := 0) C1.out _) _) _) _))
  have G3 := Lib.hid (below_blk B8.out H1.out)
  clear hb8 k0 k1 k2 k3 v0 v1 v2 v3 z0 z1 z2 z3 l0 l1 C0 C1 F7 B7 B6 B5 ne0
  obtain rfl : pi = -1 := hpi.symm.trans hpi'
  have t0 := cell_of_blk (i := 0) G3.out rfl
  have l3 := blk_lt G3.out
  go_wp2_with fail
  have F9 := HFl.out w7
  rw [hcj] at F9
  refine F9.mono ?_
  rintro e w9 ⟨rfl, rfl⟩
  have k0 := cell_of_blk (i := 0) G0.out rfl
  have k1 := cell_of_blk (i := 1) G0.out rfl
  have k2 := cell_of_blk (i := 2) G0.out rfl
  have k3 := cell_of_blk (i := 3) G0.out rfl
  have z3 := free_of_blk (i := 3) G0.out
  have l0 := blk_lt G0.out
  go_wp2_with fail
  refine gen_wp fun W hW => ?_
  have hkw : w.heap.size ≠ rb := by omega
  have BW := Lib.hid (show Below w.heap.size w W by rw [← hW]; exact B8.out.setCell (Nat.le_refl _) _)
  have E0 := Lib.hid (show W.heap[w.heap.size]? = some (.cells #[.int .i64 k.kind, .int .i64 k.n, .string k.s, .int .u64 0] 26 (0, 0)) by rw [← hW]; exact blk_set (i := 3) G0.out _)
  have E1 := Lib.hid (show W.heap[w.heap.size + 1]? = some (.cells #[.int .i64 R.kind, .int .i64 R.n, .string R.s, .int .u64 (R.label : Int)] 26 (0, 0)) by rw [← hW]; exact blk_far G1.out (by simp) _)
  have E3 := Lib.hid (below_blk BW.out H1.out)
  have HO := Lib.hid (below_own BW.out H2.out)
  have lW : w.heap.size + 1 < W.heap.size := blk_lt E1.out
  have hbW : B ≤ W.heap.size := Nat.le_trans (HBase.out rb (by rw [HP.out]; simp)).1 (by omega)
  clear hW k0 k1 k2 k3 z3 l0 G0 G1 G3 t0 l3
  obtain ⟨i0, hi, hz0, hz1, hz2⟩ := info_parts infoFd
  have t1 := cell_of_blk (i := 1) E3.out rfl
  have l3 := blk_lt E3.out
  have l0 := blk_lt E0.out
  refine wp_region_noPanic ?_
  refine wp_region_held_drew (S := fun w' => w'.heap[w.heap.size]? = some (.cells #[.int .i64 k.kind, .int .i64 k.n, .string k.s, .int .u64 0] 26 (0, 0)) ∧ w'.heap[w.heap.size + 1]? = some (.cells #[.int .i64 R.kind, .int .i64 R.n, .string R.s, .int .u64 (R.label : Int)] 26 (0, 0))) (by kernel_rfl) (⟨E0.out, E1.out⟩) (fun hHeld => ?_)
  refine tk 0 49 (.pointer (some ⟨rb, 0, none⟩)) hHeld ?_; simp only [Act.put, zq1, zq2, zq3]
  refine tk 1 50 (.pointer (some ⟨rb, 0, none⟩)) hHeld ?_; simp only [Act.put, zq1, zq2, zq3]
  refine tk 2 51 (.pointer (some ⟨rb, 0, none⟩)) hHeld ?_; simp only [Act.put, zq1, zq2, zq3]
  refine tk 3 52 (.pointer (some ⟨rb, 1, none⟩)) hHeld ?_; simp only [Act.put, zq1, zq2, zq3]
  refine tk 5 54 (.agg #[.int .i64 k.kind, .int .i64 k.n, .string k.s, .int .u64 0]) hHeld ?_ (hy := Or.inl ⟨by rfl, fun w' hS => (by obtain ⟨s0, s1⟩ := hS; have q0 := cell_of_blk (i := 0) s0 rfl; have q1 := cell_of_blk (i := 1) s0 rfl; have q2 := cell_of_blk (i := 2) s0 rfl; have q3 := cell_of_blk (i := 3) s0 rfl; go_simp)⟩); simp only [Act.put, zq1, zq2, zq3]
  refine tk 6 55 (.agg #[.int .i64 R.kind, .int .i64 R.n, .string R.s, .int .u64 (R.label : Int)]) hHeld ?_ (hy := Or.inl ⟨by rfl, fun w' hS => (by obtain ⟨s0, s1⟩ := hS; have q0 := cell_of_blk (i := 0) s1 rfl; have q1 := cell_of_blk (i := 1) s1 rfl; have q2 := cell_of_blk (i := 2) s1 rfl; have q3 := cell_of_blk (i := 3) s1 rfl; go_simp)⟩); simp only [Act.put, zq1, zq2, zq3]
  refine tk 7 56 (.agg #[.int .i64 k.kind, .int .i64 k.n, .string k.s, .int .u64 0, .int .i64 R.kind, .int .i64 R.n, .string R.s, .int .u64 (R.label : Int)]) hHeld ?_; simp only [Act.put, zq1, zq2, zq3]
  refine wpAnyH_ready (rs := [4, 8]) (by kernel_rfl) (by simp) ?_
  refine AllReadyH.cons (o := _) rfl (fun K hK => ?gathree) (AllReadyH.cons (o := _) rfl (fun K hK => ?gbthree) AllReadyH.nil)
  case' gathree =>
   go_simp
   refine hK.out _ _ (⟨blk_drew E0.out, blk_drew E1.out⟩) (fun hHeld => ?_)
   clear hK K
   try simp only [Act.put, zq1, zq2, zq3]
   refine rd 8 fun K hK => ?_
   go_simp
   refine hK.out _ _ (⟨blk_drew (blk_drew (blk_alloc E0.out _)), blk_drew (blk_drew (blk_alloc E1.out _))⟩) (fun hHeld => ?_)
   clear hK K
   try simp only [Act.put, zq1, zq2, zq3]
  case' gbthree =>
   go_simp
   refine hK.out _ _ (⟨blk_drew (blk_alloc E0.out _), blk_drew (blk_alloc E1.out _)⟩) (fun hHeld => ?_)
   clear hK K
   try simp only [Act.put, zq1, zq2, zq3]
   refine rd 4 fun K hK => ?_
   go_simp
   refine hK.out _ _ (⟨blk_drew (blk_drew (blk_alloc E0.out _)), blk_drew (blk_drew (blk_alloc E1.out _))⟩) (fun hHeld => ?_)
   clear hK K
   try simp only [Act.put, zq1, zq2, zq3]
  all_goals
   refine rd 9 fun K hK => ?_
   refine step_append_lies _ (by rfl) _ _ _ (by rfl) B 92 i0 _ 8 80 Tryz.underlying72 hi hz0 hz1 hz2 rfl (by omega) (.slice Af T.F.length cf) T.F.length (T.F.flatMap fdEnc) (by rfl) (by exact HO.out.alloc _) ⟨W.heap.size, 0, none⟩ 1 1 (fdEnc (bareV k, R)) (by rfl) (by rfl) (by exact news_drew _ #[.int .i64 k.kind, .int .i64 k.n, .string k.s, .int .u64 0, .int .i64 R.kind, .int .i64 R.n, .string R.s, .int .u64 (R.label : Int)] _ _ (by simp)) (by simp [fdEnc, vvCells, bareV, Value.oneCell']) (by omega) AR1.out AR2.out (by simp; omega) (W.heap.size + 1) (by simp) ?_
   intro gb cap w12 hown12 hg12 hat12 hl12
   have X0 := blk_grown (blk_drew (blk_alloc E0.out _)) hg12 (Ne.symm (own_blk_ne HO.out E0.out (by decide)))
   have X1 := blk_grown (blk_drew (blk_alloc E1.out _)) hg12 (Ne.symm (own_blk_ne HO.out E1.out (by decide)))
   have X3 := blk_grown (blk_drew (blk_alloc E3.out _)) hg12 (Ne.symm (own_blk_ne HO.out E3.out (by decide)))
   refine hK.out _ _ ⟨X0, X1⟩ (fun hHeld => ?_)
   clear hK K
   try simp only [Act.put, zq1, zq2, zq3]
  all_goals
   refine tk 10 59 (.pointer (some ⟨rb, 0, none⟩)) hHeld ?_; simp only [Act.put, zq1, zq2, zq3]
   refine tk 11 60 (.pointer (some ⟨rb, 1, none⟩)) hHeld ?_; simp only [Act.put, zq1, zq2, zq3]
   have q1 := cell_of_blk (i := 1) X3 rfl
   have z1 := free_of_blk (i := 1) X3
   have l12 := blk_lt X3
   refine rd 12 fun K hK => ?_
   go_simp
   refine hK.out _ _ ⟨blk_far X0 (by simpa using hkw) _, blk_far X1 (by simp; omega) _⟩ (fun hHeld => ?_)
   clear hK K
   try simp only [Act.put, zq1, zq2, zq3]
   refine wpAnyH_done (by kernel_rfl) ?_ _
   refine NoPanic.normal ?_
   go_wp2_with fail
   go_ret
   have hF12 : Fr (Value.slice Af T.F.length cf).ownBlock.toList w w12 := (((Fr.of_below BW.out _).alloc _).drew).grown hg12 (fun g hg => .inl (by simp [hg]))
   exact ⟨rfl, rtab_app HP.out H1.out H2.out H3.out HBase.out hF12 hown12 rfl (by rcases hat12 with h | h; exact .inl h; exact .inr (by omega))⟩
 ·have hkb : (k.kind == 3) = false := by simpa using hk3
  go_wp2_with fail
  go_quiet (fail)
  refine gen_then fun W5 hW5 => ?_
  have B5 := Lib.hid (show Below w.heap.size w W5 by rw [← hW5]; exact below_drewN HB1.out _)
  have A0 := Lib.hid (show W5.heap[w.heap.size]? = some (.cells #[.int .i64 k.kind, .int .i64 k.n, .string k.s, .int .u64 (k.label : Int)] 26 (0, 0)) by rw [← hW5]; exact U0.out)
  have A1 := Lib.hid (show W5.heap[w.heap.size + 1]? = some (.cells #[.int .i64 v.kind, .int .i64 v.n, .string v.s, .int .u64 (v.label : Int)] 26 (0, 0)) by rw [← hW5]; exact U1.out)
  clear hW5 k0 l0 U0 U1 U3 HB1
  have k0 := cell_of_blk (i := 0) A0.out rfl
  have k1 := cell_of_blk (i := 1) A0.out rfl
  have k2 := cell_of_blk (i := 2) A0.out rfl
  have k3 := cell_of_blk (i := 3) A0.out rfl
  have v0 := cell_of_blk (i := 0) A1.out rfl
  have v1 := cell_of_blk (i := 1) A1.out rfl
  have v2 := cell_of_blk (i := 2) A1.out rfl
  have v3 := cell_of_blk (i := 3) A1.out rfl
  have l0 := blk_lt A0.out
  have l1 := blk_lt A1.out
  go_wp2_with fail
  refine (HJ.out _).mono ?_
  rintro e w6 ⟨rfl, rfl⟩
  go_wp2_with fail
  refine (HW.out _).mono ?_
  rintro e w6 ⟨rfl, hb6⟩
  have B6 := Lib.hid (B5.out.trans (hb6.mono B5.out.size))
  have C0 := Lib.hid (below_blk hb6 A0.out)
  have C1 := Lib.hid (below_blk hb6 A1.out)
  clear hb6 k0 k1 k2 k3 v0 v1 v2 v3 A0 A1 l0 l1
  have k0 := cell_of_blk (i := 0) C0.out rfl
  have k1 := cell_of_blk (i := 1) C0.out rfl
  have k2 := cell_of_blk (i := 2) C0.out rfl
  have k3 := cell_of_blk (i := 3) C0.out rfl
  have v0 := cell_of_blk (i := 0) C1.out rfl
  have v1 := cell_of_blk (i := 1) C1.out rfl
  have v2 := cell_of_blk (i := 2) C1.out rfl
  have v3 := cell_of_blk (i := 3) C1.out rfl
  have z0 := free_of_blk (i := 0) C1.out
  have z1 := free_of_blk (i := 1) C1.out
  have z2 := free_of_blk (i := 2) C1.out
  have z3 := free_of_blk (i := 3) C1.out
  have l0 := blk_lt C0.out
  have l1 := blk_lt C1.out
  have hb7 : Below w.heap.size w ((((w6.setCell ⟨w.heap.size + 1, 0, none⟩ (.int .i64 R.kind)).setCell ⟨w.heap.size + 1, 1, none⟩ (.int .i64 R.n)).setCell ⟨w.heap.size + 1, 2, none⟩ (.string R.s)).setCell ⟨w.heap.size + 1, 3, none⟩ (.int .u64 (R.label : Int))) := (((B6.out.setCell (by simp) _).setCell (by simp) _).setCell (by simp) _).setCell (by simp) _
  have F7 := Lib.hid (HF.out _ hb7)
  have B7 := Lib.hid hb7
  clear hb7
  go_wp2_with fail
  refine F7.out.mono ?_
  rintro e w7 ⟨rfl, hb8⟩
  have B8 := Lib.hid (B7.out.trans (hb8.mono B7.out.size))
  have ne0 : w.heap.size ≠ w.heap.size + 1 := by omega
  have G0 := Lib.hid (below_blk hb8 (blk_far (blk_far (blk_far (blk_far C0.out ne0 _) ne0 _) ne0 _) ne0 _))
  have G1 := Lib.hid (show w7.heap[w.heap.size + 1]? = some (.cells #[.int .i64 R.kind, .int .i64 R.n, .string R.s, .int .u64 (R.label : Int)] 26 (0, 0)) from below_blk hb8 (blk_set (i := 3) (blk_set (i := 2) (blk_set (i := 1) (blk_set (i := 0) C1.out _) _) _) _))
  have G3 := Lib.hid (below_blk B8.out H1.out)
  clear hb8 k0 k1 k2 k3 v0 v1 v2 v3 z0 z1 z2 z3 l0 l1 C0 C1 F7 B7 B6 B5 ne0
  obtain rfl : pi = -1 := hpi.symm.trans hpi'
  have t0 := cell_of_blk (i := 0) G3.out rfl
  have l3 := blk_lt G3.out
  go_wp2_with fail
  have F9 := HFl.out w7
  rw [hcj] at F9
  refine F9.mono ?_
  rintro e w9 ⟨rfl, rfl⟩
  have k0 := cell_of_blk (i := 0) G0.out rfl
  have k1 := cell_of_blk (i := 1) G0.out rfl
  have k2 := cell_of_blk (i := 2) G0.out rfl
  have k3 := cell_of_blk (i := 3) G0.out rfl
  have z3 := free_of_blk (i := 3) G0.out
  have l0 := blk_lt G0.out
  go_wp2_with fail
  refine gen_wp fun W hW => ?_
  have hkw : w.heap.size ≠ rb := by omega
  have BW := Lib.hid (show Below w.heap.size w W by rw [← hW]; exact B8.out.setCell (Nat.le_refl _) _)
  have E0 := Lib.hid (show W.heap[w.heap.size]? = some (.cells #[.int .i64 k.kind, .int .i64 k.n, .string k.s, .int .u64 0] 26 (0, 0)) by rw [← hW]; exact blk_set (i := 3) G0.out _)
  have E1 := Lib.hid (show W.heap[w.heap.size + 1]? = some (.cells #[.int .i64 R.kind, .int .i64 R.n, .string R.s, .int .u64 (R.label : Int)] 26 (0, 0)) by rw [← hW]; exact blk_far G1.out (by simp) _)
  have E3 := Lib.hid (below_blk BW.out H1.out)
  have HO := Lib.hid (below_own BW.out H2.out)
  have lW : w.heap.size + 1 < W.heap.size := blk_lt E1.out
  have hbW : B ≤ W.heap.size := Nat.le_trans (HBase.out rb (by rw [HP.out]; simp)).1 (by omega)
  clear hW k0 k1 k2 k3 z3 l0 G0 G1 G3 t0 l3
  obtain ⟨i0, hi, hz0, hz1, hz2⟩ := info_parts infoFd
  have t1 := cell_of_blk (i := 1) E3.out rfl
  have l3 := blk_lt E3.out
  have l0 := blk_lt E0.out
  refine wp_region_noPanic ?_
  refine wp_region_held_drew (S := fun w' => w'.heap[w.heap.size]? = some (.cells #[.int .i64 k.kind, .int .i64 k.n, .string k.s, .int .u64 0] 26 (0, 0)) ∧ w'.heap[w.heap.size + 1]? = some (.cells #[.int .i64 R.kind, .int .i64 R.n, .string R.s, .int .u64 (R.label : Int)] 26 (0, 0))) (by kernel_rfl) (⟨E0.out, E1.out⟩) (fun hHeld => ?_)
  refine tk 0 49 (.pointer (some ⟨rb, 0, none⟩)) hHeld ?_; simp only [Act.put, zq1, zq2, zq3]
  refine tk 1 50 (.pointer (some ⟨rb, 0, none⟩)) hHeld ?_; simp only [Act.put, zq1, zq2, zq3]
  refine tk 2 51 (.pointer (some ⟨rb, 0, none⟩)) hHeld ?_; simp only [Act.put, zq1, zq2, zq3]
  refine tk 3 52 (.pointer (some ⟨rb, 1, none⟩)) hHeld ?_; simp only [Act.put, zq1, zq2, zq3]
  refine tk 5 54 (.agg #[.int .i64 k.kind, .int .i64 k.n, .string k.s, .int .u64 0]) hHeld ?_ (hy := Or.inl ⟨by rfl, fun w' hS => (by obtain ⟨s0, s1⟩ := hS; have q0 := cell_of_blk (i := 0) s0 rfl; have q1 := cell_of_blk (i := 1) s0 rfl; have q2 := cell_of_blk (i := 2) s0 rfl; have q3 := cell_of_blk (i := 3) s0 rfl; go_simp)⟩); simp only [Act.put, zq1, zq2, zq3]
  refine tk 6 55 (.agg #[.int .i64 R.kind, .int .i64 R.n, .string R.s, .int .u64 (R.label : Int)]) hHeld ?_ (hy := Or.inl ⟨by rfl, fun w' hS => (by obtain ⟨s0, s1⟩ := hS; have q0 := cell_of_blk (i := 0) s1 rfl; have q1 := cell_of_blk (i := 1) s1 rfl; have q2 := cell_of_blk (i := 2) s1 rfl; have q3 := cell_of_blk (i := 3) s1 rfl; go_simp)⟩); simp only [Act.put, zq1, zq2, zq3]
  refine tk 7 56 (.agg #[.int .i64 k.kind, .int .i64 k.n, .string k.s, .int .u64 0, .int .i64 R.kind, .int .i64 R.n, .string R.s, .int .u64 (R.label : Int)]) hHeld ?_; simp only [Act.put, zq1, zq2, zq3]
  refine wpAnyH_ready (rs := [4, 8]) (by kernel_rfl) (by simp) ?_
  refine AllReadyH.cons (o := _) rfl (fun K hK => ?gaother) (AllReadyH.cons (o := _) rfl (fun K hK => ?gbother) AllReadyH.nil)
  case' gaother =>
   go_simp
   refine hK.out _ _ (⟨blk_drew E0.out, blk_drew E1.out⟩) (fun hHeld => ?_)
   clear hK K
   try simp only [Act.put, zq1, zq2, zq3]
   refine rd 8 fun K hK => ?_
   go_simp
   refine hK.out _ _ (⟨blk_drew (blk_drew (blk_alloc E0.out _)), blk_drew (blk_drew (blk_alloc E1.out _))⟩) (fun hHeld => ?_)
   clear hK K
   try simp only [Act.put, zq1, zq2, zq3]
  case' gbother =>
   go_simp
   refine hK.out _ _ (⟨blk_drew (blk_alloc E0.out _), blk_drew (blk_alloc E1.out _)⟩) (fun hHeld => ?_)
   clear hK K
   try simp only [Act.put, zq1, zq2, zq3]
   refine rd 4 fun K hK => ?_
   go_simp
   refine hK.out _ _ (⟨blk_drew (blk_drew (blk_alloc E0.out _)), blk_drew (blk_drew (blk_alloc E1.out _))⟩) (fun hHeld => ?_)
   clear hK K
   try simp only [Act.put, zq1, zq2, zq3]
  all_goals
   refine rd 9 fun K hK => ?_
   refine step_append_lies _ (by rfl) _ _ _ (by rfl) B 92 i0 _ 8 80 Tryz.underlying72 hi hz0 hz1 hz2 rfl (by omega) (.slice Af T.F.length cf) T.F.length (T.F.flatMap fdEnc) (by rfl) (by exact HO.out.alloc _) ⟨W.heap.size, 0, none⟩ 1 1 (fdEnc (bareV k, R)) (by rfl) (by rfl) (by exact news_drew _ #[.int .i64 k.kind, .int .i64 k.n, .string k.s, .int .u64 0, .int .i64 R.kind, .int .i64 R.n, .string R.s, .int .u64 (R.label : Int)] _ _ (by simp)) (by simp [fdEnc, vvCells, bareV, Value.oneCell']) (by omega) AR1.out AR2.out (by simp; omega) (W.heap.size + 1) (by simp) ?_
   intro gb cap w12 hown12 hg12 hat12 hl12
   have X0 := blk_grown (blk_drew (blk_alloc E0.out _)) hg12 (Ne.symm (own_blk_ne HO.out E0.out (by decide)))
   have X1 := blk_grown (blk_drew (blk_alloc E1.out _)) hg12 (Ne.symm (own_blk_ne HO.out E1.out (by decide)))
   have X3 := blk_grown (blk_drew (blk_alloc E3.out _)) hg12 (Ne.symm (own_blk_ne HO.out E3.out (by decide)))
   refine hK.out _ _ ⟨X0, X1⟩ (fun hHeld => ?_)
   clear hK K
   try simp only [Act.put, zq1, zq2, zq3]
  all_goals
   refine tk 10 59 (.pointer (some ⟨rb, 0, none⟩)) hHeld ?_; simp only [Act.put, zq1, zq2, zq3]
   refine tk 11 60 (.pointer (some ⟨rb, 1, none⟩)) hHeld ?_; simp only [Act.put, zq1, zq2, zq3]
   have q1 := cell_of_blk (i := 1) X3 rfl
   have z1 := free_of_blk (i := 1) X3
   have l12 := blk_lt X3
   refine rd 12 fun K hK => ?_
   go_simp
   refine hK.out _ _ ⟨blk_far X0 (by simpa using hkw) _, blk_far X1 (by simp; omega) _⟩ (fun hHeld => ?_)
   clear hK K
   try simp only [Act.put, zq1, zq2, zq3]
   refine wpAnyH_done (by kernel_rfl) ?_ _
   refine NoPanic.normal ?_
   go_wp2_with fail
   go_ret
   have hF12 : Fr (Value.slice Af T.F.length cf).ownBlock.toList w w12 := (((Fr.of_below BW.out _).alloc _).drew).grown hg12 (fun g hg => .inl (by simp [hg]))
   exact ⟨rfl, rtab_app HP.out H1.out H2.out H3.out HBase.out hF12 hown12 rfl (by rcases hat12 with h | h; exact .inl h; exact .inr (by omega))⟩

theorem append_sts {ops : Array Oper} {rest : List Oper} {o : Oper} {a : Act} {w : World} {Q : Exit → Act → World → Prop} (hw : Region.wanted o (yielded ops a.tmps) = true) (s x : Operand)
  (ho : o.op = .call { callee := .builtin .append, args := #[s, x], argTypes := #[73, 73] })
  (base : Nat) (v : Value) (l : List St) (hs : a.eval s = v) (hown : w.ownsRow base 135 2 v l.length (l.flatMap stEnc))
  (A : Option Addr) (c : Nat) (r : List St) (hA : A = none → r.length = 0 ∧ c = 0) (hx : a.eval x = .slice A r.length c) (hr : Reads w w.heap.size A (r.flatMap stEnc))
  (hb : (l.length + r.length) * 24 ≤ 140737488355328) (hm : l.length + r.length ≤ maxLen) (hbase : base ≤ w.heap.size)
  (h : ∀ v' w', w'.ownsRow base 135 2 v' (l ++ r).length ((l ++ r).flatMap stEnc) → Below base w w' → wpList Tryz.prog ops Q rest (a.put o.dst v') w') : wpList Tryz.prog ops Q (o :: rest) a w := by
 obtain ⟨i0, hi, hz0, hz1, hz2⟩ := info_parts infoSt
 refine BigFrame.wpList_want hw fun K hK => ?_
 cases A with
 | none =>
  obtain ⟨hr0, rfl⟩ := hA rfl
  obtain rfl : r = [] := List.eq_nil_of_length_eq_zero hr0
  have hrun := run_append_owned_none (P := Tryz.prog) (w := w) base 73 o.type 135 i0 2 Tryz.underlying73 hi v l.length (l.flatMap stEnc) hown
  have hx' : a.eval x = .slice none 0 0 := hx
  unfold Oper.wp
  simp [execOp, ho, resolve, invoke, builtin, hs, hx', hrun, Result.andThen]
  exact hK _ _ (h v w (by simpa using hown) (Below.refl _ _))
 | some ad =>
  refine wp_append_own w s x 73 ho base 135 i0 _ 2 24 Tryz.underlying73 hi hz0 hz1 hz2 rfl (by decide) v l.length (l.flatMap stEnc) hs hown ad r.length c (r.flatMap stEnc) hx (stEnc_lenAll r) ?_ (stEnc_one r) hm hb hbase ?_
  ·rcases hr with hr | ⟨ad', e, _, h3⟩
   ·intro j u hu
    rw [hr] at hu
    simp at hu
   ·obtain rfl : ad = ad' := Option.some.inj e
    exact h3
  ·intro v' w' h2 h3 _
   refine hK _ _ (h v' w' ?_ ((Below.refl base w).grown h3 hbase fun g hg => own_base hown hg))
   rw [List.length_append, List.flatMap_append]
   exact h2
set_option maxRecDepth 100000 in
theorem rwithS_any (S : List St) (s : St) (A : Option Addr) (c : Nat) (w : World) (hd : Dist S) (hr : Reads w w.heap.size A (S.flatMap stEnc)) (hA : A = none → S.length = 0 ∧ c = 0) (h1 : S.length + 1 ≤ maxLen) (h2 : (S.length + 1) * 24 ≤ 140737488355328) (h3 : S.length ≤ maxLen) (h4 : S.length * 24 ≤ 140737488355328) :
  Calls Tryz.prog 104 #[.slice A S.length c, .agg #[.string s.1, .int .i64 s.2]] w fun e w' => ∃ v, e = .returned v ∧ w'.ownsRow w.heap.size 135 2 v (withS S s).length ((withS S s).flatMap stEnc) ∧ Below w.heap.size w w' := by
 obtain ⟨i0, hi, hz0, hz1, hz2⟩ := info_parts infoSt
 have HH := Lib.hid (And.intro h1 (And.intro h2 (And.intro h3 h4)))
 have hr1 := hr.below ((Below.refl _ _).alloc (Nat.le_refl _) (.cells #[.string s.1, .int .i64 s.2] 135))
 have HD := Lib.hid hd
 have hb0 := (Below.refl w.heap.size w).alloc (Nat.le_refl _) (.cells #[.string s.1, .int .i64 s.2] 135)
 have hu := heap_alloc_new w (.cells #[.string s.1, .int .i64 s.2] 135)
 have HB0 := Lib.hid hb0
 have HU := Lib.hid hu
 have hmx : S.length ≤ 9223372036854775807 := h3
 clear hr hd h1 h2 h3 h4 hb0 hu
 go_enter Tryz.func104, Tryz.ntmps104
 go_wp2_with (at_builtin; refine append_sts rfl _ _ rfl (w.heap.size + 1) (.slice none 0 0) [] rfl (World.ownsRow_nil _ _ _ _) A c S hA rfl (hr1.mono' (by simp)) (by simpa using HH.out.2.2.2) (by simpa using HH.out.2.2.1) (by simp) ?_; intro v1 w1 hown1 hb1; refine unhid ?_)
 refine Lib.hid ?_
 rw [List.nil_append] at hown1
 have hu1 := (hb1.block _ (Nat.lt_succ_self _)).trans HU.out
 have HB1 := Lib.hid (HB0.out.trans ((hb1.mono (Nat.le_succ _)).mono (Nat.le_refl _)))
 obtain ⟨A1, c1, rfl, _, _, _⟩ := own_form hown1
 have HO := Lib.hid hown1
 have HU1 := Lib.hid hu1
 have y0 := cell_of_blk (i := 0) hu1 rfl
 have y1 := cell_of_blk (i := 1) hu1 rfl
 have lu := blk_lt hu1
 clear hown1 hb1 hu1 hr1
 go_wp2_with fail
 go_loopw [11] (fun i wr => ∃ k : Nat, k ≤ S.length ∧ i = .int .i64 k ∧ (∃ n, wr = w1.drewN n) ∧ Hid (∀ a ∈ S.take k, a.1.toList ≠ s.1.toList)) (fun i wr => S.length - (intOf i).toNat)
 case atStart => exact ⟨0, by omega, rfl, ⟨0, rfl⟩, Lib.hid (by simp)⟩
 case round =>
  obtain ⟨k, hk, rfl, ⟨n, rfl⟩, HN⟩ := hrel
  by_cases hlt : k < S.length
  ·obtain ⟨x, hx⟩ : ∃ x, S[k]? = some x := ⟨_, List.getElem?_eq_getElem hlt⟩
   obtain ⟨ad, c', hv, hba, hal, hst, _, hset⟩ := st_elem HO.out hx
   obtain ⟨rfl, rfl⟩ : A1 = some ad ∧ c1 = c' := by simpa using hv
   obtain ⟨r0, r1⟩ := hst
   have hk' : (k : Int) < (S.length : Int) := by omega
   have hk0 : (0 : Int) ≤ k := by omega
   have hll : (ad.add (k * 2)).block < w1.heap.size := by rw [block_add']; exact hal
   have HX := Lib.hid hx
   by_cases hs : x.1.toList = s.1.toList
   ·obtain ⟨hfz, hsto⟩ := hset w1 HO.out
    have HS := Lib.hid (hsto (bits .and .i64 x.2 s.2))
    have HW := Lib.hid (withS_has HD.out hx hs)
    have HBA := Lib.hid (show w.heap.size ≤ (ad.add (k * 2)).block by rw [block_add']; omega)
    have hsb : (x.1.toList == s.1.toList) = true := by simpa using hs
    clear hset hsto hx hv
    go_wp2_with fail
    go_quiet (fail)
    try simp only [hsb]
    go_wp2_with fail
    go_region
    go_wp2_with fail
    go_ret
    refine ⟨_, rfl, ?_, ?_⟩
    ·rw [HW.out]
     exact own_mono HS.out (Nat.le_succ _)
    ·repeat' (first | exact HB1.out | exact HBA.out | refine Below.drew ?_ | refine below_drewN ?_ _ | refine Below.setCell ?_ ?_ _)
   ·have HT := Lib.hid (show S.take (k + 1) = S.take k ++ [x] by rw [List.take_add_one, hx]; rfl)
    have hsb : (x.1.toList == s.1.toList) = false := by simpa using hs
    clear hset hx hv
    go_wp2_with fail
    go_quiet (fail)
    try simp only [hsb]
    go_wp2_with fail
    go_roundw
    case rel => exact ⟨k + 1, by omega, by go_num, ⟨_, rfl⟩, Lib.hid (fun a ha => by
     rw [HT.out] at ha
     rcases List.mem_append.1 ha with h | h
     ·exact HN.out a h
     ·rw [List.mem_singleton.1 h]; exact hs)⟩
    case measure => simp [intOf]; omega
  ·obtain rfl : k = S.length := by omega
   have HW := Lib.hid (withS_no (S := S) (s := s) (by have := HN.out; rwa [List.take_length] at this))
   have HO2 := Lib.hid (show (w1.drewN n).ownsRow (w.heap.size + 1) 135 2 (.slice A1 S.length c1) S.length (S.flatMap stEnc) from HO.out)
   have HB2 := Lib.hid (below_drewN HB1.out n)
   go_wp2_with (at_builtin; refine wpList_append_own _ rfl _ _ 73 rfl (w.heap.size + 1) 135 i0 _ 2 24 Tryz.underlying73 hi hz0 hz1 hz2 rfl (by decide) _ _ _ rfl (HO2.out.alloc _) ⟨w1.heap.size, 0, none⟩ 1 1 [.string s.1, .int .i64 s.2] rfl rfl (World.news_of_block (heap_alloc_new _ _)) (by simp [Value.oneCell']) HH.out.1 HH.out.2.1 (Nat.le_trans (Nat.succ_le_of_lt lu) (by simp)) ?_; intro v' w4 hown4 hg4 _; obtain ⟨A4, c4, rfl, _, _, _⟩ := own_form hown4)
   go_ret
   refine ⟨_, rfl, ?_, ?_⟩
   ·rw [HW.out]
    exact own_mono (by simpa [stEnc] using hown4) (Nat.le_succ _)
   ·exact (HB2.out.alloc HB2.out.size _).grown hg4 (Nat.le_trans HB2.out.size (by simp)) (fun g hg => Nat.le_trans (Nat.le_succ _) (own_base HO2.out hg))

theorem rtab_stamp {w w5 : World} {B rb : Nat} {T : TabS} {N : List St} {fp : List Nat} (h : RTabIn w B rb T fp) (hb : Below w.heap.size w w5) {v : Value} (hown : w5.ownsRow B 135 2 v N.length (N.flatMap stEnc))
  (hvb : ∀ g, v.ownBlock = some g → g ∈ fp ∨ w.heap.size ≤ g) : RTabTo w B rb { T with S := N } fp (w5.setCell ⟨rb, 2, none⟩ v) := by
 obtain ⟨⟨fv, sv, hfp, h1, h2, h3⟩, hbase⟩ := h
 have hF : Fr [rb] w (w5.setCell ⟨rb, 2, none⟩ v) := (Fr.of_below hb _).set _ (.inl (by simp))
 have hT := below_blk hb h1
 have htf : rb ∈ fp := by rw [hfp]; simp
 have hfv : ∀ g, fv.ownBlock = some g → g ∉ [rb] := by
  intro g hg hm
  exact own_blk_ne h2 h1 (by decide) (by rw [hg, List.mem_singleton.1 hm])
 have hlt : ∀ g, v.ownBlock = some g → B ≤ g ∧ g < w5.heap.size := by
  intro g hg
  rcases hown.2 with ⟨rfl, _⟩ | ⟨g', cap, cur, rfl, hgb, hh, _⟩
  ·simp [Value.ownBlock] at hg
  ·obtain rfl : g' = g := by simpa [Value.ownBlock] using hg
   exact ⟨hgb, blk_lt hh⟩
 refine ⟨rb :: (fv.ownBlock.toList ++ v.ownBlock.toList), ⟨⟨fv, v, rfl, blk_set (i := 2) hT v, hF.own h2 hfv, own_set_far hown hT (by decide) _⟩, ?_⟩, hF.more (by simpa using .inl htf), ?_⟩
 ·intro b hbm
  simp [World.setCell]
  simp at hbm
  have hs := hb.size
  rcases hbm with rfl | h | h
  ·have := hbase b htf; omega
  ·have := hbase b (by rw [hfp]; simp [h]); omega
  ·exact hlt b h
 ·intro b hbm
  simp at hbm
  rcases hbm with rfl | h | h
  ·exact .inl htf
  ·exact .inl (by rw [hfp]; simp [h])
  ·exact hvb b h
def RStampOut (w : World) (B rb : Nat) (T : TabS) (L : List St) (fp : List Nat) (e : Ending) (w' : World) : Prop := e = .returned (.bool (doStamp T L).1) ∧ RTabTo w B rb (doStamp T L).2 fp w'
theorem rstamp_no {w w' : World} {B rb : Nat} {T : TabS} {L : List St} {fp : List Nat} (h : RTabIn w B rb T fp) (hb : Below w.heap.size w w') (hno : stampOk T.F (stamped T.S L) L = false) : RStampOut w B rb T L fp (.returned (.bool false)) w' := by
 unfold RStampOut doStamp
 rw [hno]
 exact ⟨rfl, RTabTo.same h hb⟩
theorem room_wi {n a k L : Nat} (h1 : n ≤ a + k) (h2 : k < L) (h3 : (a + L + 1) * 24 ≤ 140737488351232) : n + 1 ≤ maxLen ∧ (n + 1) * 24 ≤ 140737488355328 ∧ n ≤ maxLen ∧ n * 24 ≤ 140737488355328 := by
 obtain ⟨r1, r2, r3, _⟩ := room_ar h1 h2 h3
 exact ⟨r1, r2, Nat.le_of_lt r3, Nat.le_trans (Nat.mul_le_mul_right 24 (Nat.le_succ n)) r2⟩
theorem room_64 {n a L : Nat} (h1 : n ≤ a + L) (h3 : (a + L + 1) * 24 ≤ 140737488351232) : n ≤ 9223372036854775807 ∧ L ≤ 9223372036854775807 := by
 have h4 : ∀ m, m ≤ a + L + 1 → m ≤ 9223372036854775807 := fun m hm => Nat.le_trans (Nat.le_mul_of_pos_right _ (by decide)) (Nat.le_trans (Nat.mul_le_mul_right 24 hm) (Nat.le_trans h3 (by decide)))
 exact ⟨h4 n (by omega), h4 L (by omega)⟩
set_option maxRecDepth 100000 in
theorem rstamp_any {w : World} {B rb : Nat} {T : TabS} {fp : List Nat} (h : RTabIn w B rb T fp) (ok : TabOk T) (L : List St) (A : Option Addr) (c : Nat) (hr : Reads w w.heap.size A (L.flatMap stEnc)) (hL : ∀ s ∈ L, s.1.size ≤ maxLen ∧ I64 s.2) (hn : (T.S.length + L.length + 1) * 24 ≤ 140737488351232) (hnF : T.F.length ≤ 9223372036854775807) :
  Calls Tryz.prog 75 #[.pointer (some ⟨rb, 0, none⟩), .slice A L.length c] w (RStampOut w B rb T L fp) := by
 obtain ⟨hNl, hLl⟩ := room_64 (stamped_len T.S L).2 hn
 have H0 := Lib.hid h
 obtain ⟨⟨fv, sv, hfp, h1, h2, h3⟩, hbase⟩ := h
 have HSF := Lib.hid (show ∀ g, sv.ownBlock = some g → g ∈ fp from fun g hg => by rw [hfp]; simp [hg])
 have hBw : B ≤ w.heap.size := by have := hbase rb (by rw [hfp]; simp); omega
 have t2 : w.cell? ⟨rb, 2, none⟩ = some sv := cell_of_blk h1 rfl
 obtain ⟨AS, cs, hsv, hcs1, hcs2, hAS, hRS⟩ := own_reads h3
 rw [hsv] at t2
 have H1 := Lib.hid h1
 have H2 := Lib.hid h2
 have H3 := Lib.hid h3
 have HSV := Lib.hid hsv
 have HOK := Lib.hid ok
 have HR := Lib.hid hr
 have HL := Lib.hid hL
 have HNN := Lib.hid hn
 have htlt := blk_lt h1
 have HF := Lib.hid (fun (W : World) (hW : Below w.heap.size w W) (k : VV) => rfind_any (H0.out.kept (Fr.of_below hW []) (by simp)) k hnF)
 clear h1 h2 h3 hRS hbase hfp ok hr hL hn hsv
 go_enter Tryz.func75, Tryz.ntmps75
 go_wp2_with fail
 go_loopw [5, 17] (fun v i wr => ∃ (k : Nat) (A2 : Option Addr) (c2 : Nat), k ≤ L.length ∧ i = .int .i64 k ∧ v = .slice A2 (stamped T.S (L.take k)).length c2 ∧ Below w.heap.size w wr ∧ wr.ownsRow B 135 2 (.slice A2 (stamped T.S (L.take k)).length c2) (stamped T.S (L.take k)).length ((stamped T.S (L.take k)).flatMap stEnc) ∧ (∀ g, (Value.slice A2 (stamped T.S (L.take k)).length c2).ownBlock = some g → g ∈ fp ∨ w.heap.size ≤ g)) (fun _ i wr => L.length - (intOf i).toNat)
 case atStart => exact ⟨0, AS, cs, by omega, rfl, rfl, Below.refl _ _, by have := H3.out; rw [HSV.out] at this; exact this, fun g hg => .inl (HSF.out g (by rw [HSV.out]; exact hg))⟩
 case round =>
  obtain ⟨k, A2, c2, hk, rfl, rfl, hB, hO, hV⟩ := hrel
  by_cases hlt : k < L.length
  ·obtain ⟨x, hx⟩ : ∃ x, L[k]? = some x := ⟨_, List.getElem?_eq_getElem hlt⟩
   obtain ⟨ad, rfl, hadb, hcell⟩ := (HR.out.below hB).at (flatMap_ne (K := 2) (fun a => rfl) (by omega) hx)
   obtain ⟨x0, x1⟩ := st_at hcell hx
   have hd := stamped_dist HOK.out.dS (L.take k)
   have hlen := (stamped_len T.S (L.take k)).2
   have hlk : (L.take k).length = k := by rw [List.length_take]; omega
   rw [hlk] at hlen
   have hnx := stamped_snoc (S := T.S) hx
   have hsz := hB.size
   have hk' : (k : Int) < (L.length : Int) := by omega
   have hk0 : (0 : Int) ≤ k := by omega
   obtain ⟨nm, kd⟩ := x
   have hll : (ad.add (k * 2)).block < wr.heap.size := by rw [block_add']; omega
   dsimp only at x0 x1
   generalize stamped T.S (L.take k) = N at *
   obtain ⟨r1, r2, r3, r4⟩ := room_wi hlen hlt HNN.out
   obtain ⟨A', c', hv, _, _, hA, hR⟩ := own_reads hO
   obtain ⟨rfl, rfl⟩ : A2 = A' ∧ c2 = c' := by simpa using hv
   have hB' := hB.alloc hsz (.cells #[.string nm, .int .i64 kd] 135)
   have hcall := rwithS_any N (nm, kd) A2 c2 (wr.alloc (.cells #[.string nm, .int .i64 kd] 135)) hd ((hR.below ((Below.refl _ _).alloc (Nat.le_refl _) _)).mono' (by simp)) hA r1 r2 r3 r4
   have HC := Lib.hid hcall
   have HBB := Lib.hid hB'
   have HNX := Lib.hid hnx
   clear hx hcell hlk hd hO hR hv hA hcall hB' hnx hB hlen r1 r2 r3 r4 hV
   go_wp2_with fail
   refine HC.out.mono ?_
   rintro e w8 ⟨v8, rfl, ho8, hb8⟩
   obtain ⟨A8, c8, rfl, _, _, _⟩ := own_form ho8
   have O8 := Lib.hid ho8
   have B8 := Lib.hid (HBB.out.trans (hb8.mono HBB.out.size))
   clear ho8 hb8
   go_wp2_with fail
   go_roundw
   case rel =>
    refine ⟨k + 1, A8, c8, by omega, by go_num, ?_, B8.out, ?_, ?_⟩
    ·rw [HNX.out]
    ·rw [HNX.out]; exact own_mono O8.out (Nat.le_trans hBw HBB.out.size)
    ·intro g hg
     rw [HNX.out] at hg
     exact .inr (Nat.le_trans HBB.out.size (own_base O8.out hg))
   case measure => simp [intOf]; omega
  ·obtain rfl : k = L.length := by omega
   have hdN := stamped_dist HOK.out.dS L
   have hmN := (stamped_mem (S := T.S) (L := L)).1
   simp only [List.take_length] at hO hV ⊢
   have HNo := Lib.hid (fun (w' : World) (hb : Below w.heap.size w w') (hno : stampOk T.F (stamped T.S L) L = false) => rstamp_no H0.out hb hno)
   have HYes := Lib.hid (fun (hyes : stampOk T.F (stamped T.S L) L = true) => show doStamp T L = (true, { T with S := stamped T.S L }) by unfold doStamp; rw [if_pos hyes])
   generalize hNN : stamped T.S L = N at *
   have HB := Lib.hid hB
   have HO := Lib.hid hO
   have HV := Lib.hid hV
   have hsz := hB.size
   clear hB hO hdN hmN hV
   go_wp2_with fail
   go_loopw [27] (fun i wr => ∃ (k : Nat), k ≤ L.length ∧ i = .int .i64 k ∧ Below w.heap.size w wr ∧ wr.ownsRow B 135 2 (.slice A2 N.length c2) N.length (N.flatMap stEnc) ∧ Hid (stampOk T.F N (L.take k) = true)) (fun i wr => L.length - (intOf i).toNat)
   case atStart => exact ⟨0, by omega, rfl, HB.out, HO.out, Lib.hid rfl⟩
   case round =>
    obtain ⟨k, hk, rfl, hB, hO, HA⟩ := hrel
    by_cases hlt : k < L.length
    ·obtain ⟨x, hx⟩ : ∃ x, L[k]? = some x := ⟨_, List.getElem?_eq_getElem hlt⟩
     have hxm := List.mem_of_getElem? hx
     obtain ⟨ad, rfl, hadb, hcell⟩ := (HR.out.below hB).at (flatMap_ne (K := 2) (fun a => rfl) (by omega) hx)
     obtain ⟨x0, x1⟩ := st_at hcell hx
     have hsz := hB.size
     have hk' : (k : Int) < (L.length : Int) := by omega
     have hk0 : (0 : Int) ≤ k := by omega
     have hll : (ad.add (k * 2)).block < wr.heap.size := by rw [block_add']; omega
     have HT := Lib.hid (show L.take (k + 1) = L.take k ++ [x] by rw [List.take_add_one, hx]; rfl)
     have hno : (∀ i f, findF T.F ⟨3, 0, x.1, 0⟩ = some i → T.F[i]? = some f → allowsB N x.1 f.2.kind = false) → stampOk T.F N L = false := fun h => by
      unfold stampOk
      rw [List.all_eq_false]
      refine ⟨x, hxm, ?_⟩
      cases hf : findF T.F ⟨3, 0, x.1, 0⟩ with
      | none => simp
      | some i =>
       obtain ⟨_, f, hfi, _⟩ := findF_some hf
       simp only [hfi]
       rw [h i f hf hfi]
       simp
     have hyes : (∀ i f, findF T.F ⟨3, 0, x.1, 0⟩ = some i → T.F[i]? = some f → allowsB N x.1 f.2.kind = true) → findF T.F ⟨3, 0, x.1, 0⟩ ≠ none → stampOk T.F N (L.take (k + 1)) = true := fun h hn => by
      rw [HT.out]
      have h1 := HA.out
      unfold stampOk at h1 ⊢
      rw [List.all_append, h1]
      cases hf : findF T.F ⟨3, 0, x.1, 0⟩ with
      | none => exact absurd hf hn
      | some i =>
       obtain ⟨_, f, hfi, _⟩ := findF_some hf
       simp [hf, hfi, h i f hf hfi]
     have HNO := Lib.hid hno
     have HYE := Lib.hid hyes
     obtain ⟨nm, kd⟩ := x
     dsimp only at x0 x1 HNO HYE
     have hB' := hB.alloc hsz (.cells #[.string nm, .int .i64 kd] 135)
     have hf0 := HF.out _ hB' ⟨3, 0, nm, 0⟩
     have hO' := hO.alloc (.cells #[.string nm, .int .i64 kd] 135)
     clear hx hxm hcell hno hyes HT
     unfold vvCells at hf0
     cases hfF : findF T.F ⟨3, 0, nm, 0⟩ with
     | none =>
      have e1 : findI T.F ⟨3, 0, nm, 0⟩ = -1 := by unfold findI; rw [hfF]
      rw [e1] at hf0
      have HF0 := Lib.hid hf0
      have HBB := Lib.hid hB'
      have HNNo := Lib.hid (HNO.out fun i f h => by rw [hfF] at h; cases h)
      clear hf0 hB hO hB' hO'
      go_wp2_with fail
      refine HF0.out.mono ?_
      rintro e w8 ⟨rfl, hb8⟩
      have B8 := Lib.hid (HBB.out.trans (hb8.mono HBB.out.size))
      have bx := below_blk hb8 (heap_alloc_new wr (.cells #[.string nm, .int .i64 kd] 135))
      have y0 := cell_of_blk (i := 0) bx rfl
      have lb := blk_lt bx
      clear bx hb8
      go_wp2_with fail
      go_quiet (fail)
      go_wp2_with fail
      go_ret
      exact HNo.out _ (below_drewN B8.out _) HNNo.out
     | some i =>
      obtain ⟨_, f, hfi, _⟩ := findF_some hfF
      have e1 := findI_some hfF
      rw [e1] at hf0
      obtain ⟨adf, cf, ct1, hab, hfd, _, _⟩ := rtab_elem H0.out hfi
      have hfv : fv = .slice (some adf) T.F.length cf := by have := (cell_of_blk (i := 1) H1.out rfl).symm.trans ct1; simpa using this
      have hil : (i : Int) < (T.F.length : Int) := by have := (List.getElem?_eq_some_iff.1 hfi).1; omega
      have hi0 : (0 : Int) ≤ i := by omega
      have hin : ¬ (i : Int) < 0 := by omega
      have hab' : (adf.add (i * 8)).block < w.heap.size := by rw [block_add']; exact hab
      have hfk := (HOK.out.vOk f (List.mem_of_getElem? hfi)).kind
      have hal : ∀ W : World, W.ownsRow B 135 2 (.slice A2 N.length c2) N.length (N.flatMap stEnc) → Calls Tryz.prog 97 #[.slice A2 N.length c2, .string nm, .int .i64 f.2.kind] W (RetB (.bool (allowsB N nm f.2.kind)) W) := fun W hO => by
       obtain ⟨A', c', hv, _, _, _, hR⟩ := own_reads hO
       obtain ⟨rfl, rfl⟩ : A2 = A' ∧ c2 = c' := by simpa using hv
       exact allows_any N A2 c2 nm f.2.kind W hR hNl hfk
      have HF0 := Lib.hid hf0
      have HBB := Lib.hid hB'
      have HO' := Lib.hid hO'
      have HFD := Lib.hid hfd
      have HFV := Lib.hid hfv
      have HN1 := Lib.hid (fun h : allowsB N nm f.2.kind = false => HNO.out fun i' f' h1 h2 => by
       rw [hfF] at h1
       cases h1
       rw [hfi] at h2
       cases h2
       exact h)
      have HY1 := Lib.hid (fun h : allowsB N nm f.2.kind = true => HYE.out (fun i' f' h1 h2 => by
       rw [hfF] at h1
       cases h1
       rw [hfi] at h2
       cases h2
       exact h) (by rw [hfF]; exact fun e => by cases e))
      clear hf0 hB hO hB' hO' hfd ct1 hfi hfv
      cases hβ : allowsB N nm f.2.kind
      ·rw [hβ] at hal
       have HAl := Lib.hid hal
       clear hal
       go_wp2_with fail
       refine HF0.out.mono ?_
       rintro e w8 ⟨rfl, hb8⟩
       have B8 := Lib.hid (HBB.out.trans (hb8.mono HBB.out.size))
       have BX := Lib.hid (below_blk hb8 (heap_alloc_new wr (.cells #[.string nm, .int .i64 kd] 135)))
       have O8 := Lib.hid (below_own hb8 HO'.out)
       have f4 := (B8.out.cell (p := ⟨(adf.add (i * 8)).block, _, none⟩) hab').trans HFD.out.c4
       have hT8 := below_blk B8.out H1.out
       rw [HFV.out] at hT8
       have T8 := Lib.hid hT8
       have l8 := Nat.lt_of_lt_of_le htlt B8.out.size
       have lf := Nat.lt_of_lt_of_le hab' B8.out.size
       have lb := blk_lt BX.out
       clear hb8 hT8
       go_wp2_with fail
       refine wp_region_noPanic ?_
       refine wp_region_held_drew (S := fun w' => w'.heap[wr.heap.size]? = some (.cells #[.string nm, .int .i64 kd] 135 (0, 0)) ∧ w'.heap[rb]? = some (.cells #[.int .u64 (T.l : Int), .slice (some adf) T.F.length cf, sv] 75 (0, 0)) ∧ w'.cell? ⟨(adf.add (i * 8)).block, (adf.add (i * 8)).off + 4, none⟩ = some (.int .i64 f.2.kind)) (by kernel_rfl) (⟨BX.out, T8.out, f4⟩) (fun hHeld => ?_)
       refine tk 0 36 (.int .i64 (i : Int)) hHeld ?_; simp only [Act.put, zq1, zq2, zq3]
       refine tk 1 37 (.bool false) hHeld ?_; simp only [Act.put, zq1, zq2, zq3]
       refine tk 2 38 (.bool false) hHeld ?_; simp only [Act.put, zq1, zq2, zq3]
       refine tk 3 39 (.slice A2 N.length c2) hHeld ?_; simp only [Act.put, zq1, zq2, zq3]
       refine tk 4 40 (.pointer (some ⟨wr.heap.size, 0, none⟩)) hHeld ?_; simp only [Act.put, zq1, zq2, zq3]
       refine tk 5 41 (.string nm) hHeld ?_ (hy := Or.inl ⟨by rfl, fun w' hS => (by obtain ⟨s0, s1, s2⟩ := hS; have q0 := cell_of_blk (i := 0) s0 rfl; go_simp)⟩); simp only [Act.put, zq1, zq2, zq3]
       refine tk 6 42 (.pointer (some ⟨rb, 0, none⟩)) hHeld ?_; simp only [Act.put, zq1, zq2, zq3]
       refine tk 7 43 (.pointer (some ⟨rb, 0, none⟩)) hHeld ?_; simp only [Act.put, zq1, zq2, zq3]
       refine tk 8 44 (.pointer (some ⟨rb, 1, none⟩)) hHeld ?_; simp only [Act.put, zq1, zq2, zq3]
       refine tk 9 45 (.slice (some adf) T.F.length cf) hHeld ?_ (hy := Or.inl ⟨by rfl, fun w' hS => (by obtain ⟨s0, s1, s2⟩ := hS; have q0 := cell_of_blk (i := 1) s1 rfl; go_simp)⟩); simp only [Act.put, zq1, zq2, zq3]
       refine tk 10 46 (.int .i64 (i : Int)) hHeld ?_; simp only [Act.put, zq1, zq2, zq3]
       refine tk 11 47 (.pointer (some (adf.add (i * 8)))) hHeld ?_; simp only [Act.put, zq1, zq2, zq3]
       refine tk 12 48 (.pointer (some ⟨(adf.add (i * 8)).block, (adf.add (i * 8)).off + 4, none⟩)) hHeld ?_; simp only [Act.put, zq1, zq2, zq3]
       refine tk 13 49 (.pointer (some ⟨(adf.add (i * 8)).block, (adf.add (i * 8)).off + 4, none⟩)) hHeld ?_; simp only [Act.put, zq1, zq2, zq3]
       refine tk 14 50 (.int .i64 f.2.kind) hHeld ?_ (hy := Or.inl ⟨by rfl, fun w' hS => (by obtain ⟨s0, s1, s2⟩ := hS; go_simp)⟩); simp only [Act.put, zq1, zq2, zq3]
       refine rd 15 fun K hK => ?_
       go_simp
       refine (HAl.out _ (by exact O8.out)).mono ?_
       rintro e w9 ⟨rfl, hb9⟩
       have B9 := Lib.hid (B8.out.drew.trans (hb9.mono B8.out.size))
       have O9 := Lib.hid (below_own hb9 (own_drew O8.out))
       refine hK.out _ _ ⟨below_blk hb9 (blk_drew BX.out), below_blk hb9 (blk_drew T8.out), (hb9.cell (p := ⟨(adf.add (i * 8)).block, _, none⟩) lf).trans f4⟩ (fun hHeld => ?_)
       clear hK K hb9
       try simp only [Act.put, zq1, zq2, zq3]
       refine tk 16 52 (.bool true) hHeld ?_; simp only [Act.put, zq1, zq2, zq3]
       refine tk 17 53 (.bool true) hHeld ?_; simp only [Act.put, zq1, zq2, zq3]
       refine wpAnyH_done (by kernel_rfl) ?_ _
       refine NoPanic.normal ?_
       go_wp2_with fail
       go_ret
       exact HNo.out _ B9.out (HN1.out hβ)
      ·rw [hβ] at hal
       have HAl := Lib.hid hal
       clear hal
       go_wp2_with fail
       refine HF0.out.mono ?_
       rintro e w8 ⟨rfl, hb8⟩
       have B8 := Lib.hid (HBB.out.trans (hb8.mono HBB.out.size))
       have BX := Lib.hid (below_blk hb8 (heap_alloc_new wr (.cells #[.string nm, .int .i64 kd] 135)))
       have O8 := Lib.hid (below_own hb8 HO'.out)
       have f4 := (B8.out.cell (p := ⟨(adf.add (i * 8)).block, _, none⟩) hab').trans HFD.out.c4
       have hT8 := below_blk B8.out H1.out
       rw [HFV.out] at hT8
       have T8 := Lib.hid hT8
       have l8 := Nat.lt_of_lt_of_le htlt B8.out.size
       have lf := Nat.lt_of_lt_of_le hab' B8.out.size
       have lb := blk_lt BX.out
       clear hb8 hT8
       go_wp2_with fail
       refine wp_region_noPanic ?_
       refine wp_region_held_drew (S := fun w' => w'.heap[wr.heap.size]? = some (.cells #[.string nm, .int .i64 kd] 135 (0, 0)) ∧ w'.heap[rb]? = some (.cells #[.int .u64 (T.l : Int), .slice (some adf) T.F.length cf, sv] 75 (0, 0)) ∧ w'.cell? ⟨(adf.add (i * 8)).block, (adf.add (i * 8)).off + 4, none⟩ = some (.int .i64 f.2.kind)) (by kernel_rfl) (⟨BX.out, T8.out, f4⟩) (fun hHeld => ?_)
       refine tk 0 36 (.int .i64 (i : Int)) hHeld ?_; simp only [Act.put, zq1, zq2, zq3]
       refine tk 1 37 (.bool false) hHeld ?_; simp only [Act.put, zq1, zq2, zq3]
       refine tk 2 38 (.bool false) hHeld ?_; simp only [Act.put, zq1, zq2, zq3]
       refine tk 3 39 (.slice A2 N.length c2) hHeld ?_; simp only [Act.put, zq1, zq2, zq3]
       refine tk 4 40 (.pointer (some ⟨wr.heap.size, 0, none⟩)) hHeld ?_; simp only [Act.put, zq1, zq2, zq3]
       refine tk 5 41 (.string nm) hHeld ?_ (hy := Or.inl ⟨by rfl, fun w' hS => (by obtain ⟨s0, s1, s2⟩ := hS; have q0 := cell_of_blk (i := 0) s0 rfl; go_simp)⟩); simp only [Act.put, zq1, zq2, zq3]
       refine tk 6 42 (.pointer (some ⟨rb, 0, none⟩)) hHeld ?_; simp only [Act.put, zq1, zq2, zq3]
       refine tk 7 43 (.pointer (some ⟨rb, 0, none⟩)) hHeld ?_; simp only [Act.put, zq1, zq2, zq3]
       refine tk 8 44 (.pointer (some ⟨rb, 1, none⟩)) hHeld ?_; simp only [Act.put, zq1, zq2, zq3]
       refine tk 9 45 (.slice (some adf) T.F.length cf) hHeld ?_ (hy := Or.inl ⟨by rfl, fun w' hS => (by obtain ⟨s0, s1, s2⟩ := hS; have q0 := cell_of_blk (i := 1) s1 rfl; go_simp)⟩); simp only [Act.put, zq1, zq2, zq3]
       refine tk 10 46 (.int .i64 (i : Int)) hHeld ?_; simp only [Act.put, zq1, zq2, zq3]
       refine tk 11 47 (.pointer (some (adf.add (i * 8)))) hHeld ?_; simp only [Act.put, zq1, zq2, zq3]
       refine tk 12 48 (.pointer (some ⟨(adf.add (i * 8)).block, (adf.add (i * 8)).off + 4, none⟩)) hHeld ?_; simp only [Act.put, zq1, zq2, zq3]
       refine tk 13 49 (.pointer (some ⟨(adf.add (i * 8)).block, (adf.add (i * 8)).off + 4, none⟩)) hHeld ?_; simp only [Act.put, zq1, zq2, zq3]
       refine tk 14 50 (.int .i64 f.2.kind) hHeld ?_ (hy := Or.inl ⟨by rfl, fun w' hS => (by obtain ⟨s0, s1, s2⟩ := hS; go_simp)⟩); simp only [Act.put, zq1, zq2, zq3]
       refine rd 15 fun K hK => ?_
       go_simp
       refine (HAl.out _ (by exact O8.out)).mono ?_
       rintro e w9 ⟨rfl, hb9⟩
       have B9 := Lib.hid (B8.out.drew.trans (hb9.mono B8.out.size))
       have O9 := Lib.hid (below_own hb9 (own_drew O8.out))
       refine hK.out _ _ ⟨below_blk hb9 (blk_drew BX.out), below_blk hb9 (blk_drew T8.out), (hb9.cell (p := ⟨(adf.add (i * 8)).block, _, none⟩) lf).trans f4⟩ (fun hHeld => ?_)
       clear hK K hb9
       try simp only [Act.put, zq1, zq2, zq3]
       refine tk 16 52 (.bool false) hHeld ?_; simp only [Act.put, zq1, zq2, zq3]
       refine tk 17 53 (.bool false) hHeld ?_; simp only [Act.put, zq1, zq2, zq3]
       refine wpAnyH_done (by kernel_rfl) ?_ _
       refine NoPanic.normal ?_
       go_wp2_with fail
       go_roundw
       case rel => exact ⟨k + 1, by omega, by go_num, B9.out, O9.out, Lib.hid (HY1.out hβ)⟩
       case measure => simp [intOf]; omega
    ·obtain rfl : k = L.length := by omega
     have hA := HA.out
     rw [List.take_length] at hA
     have HB8 := Lib.hid hB
     have HO8 := Lib.hid hO
     have ht := below_blk hB H1.out
     have t3 := cell_of_blk (i := 2) ht rfl
     have z3 := free_of_blk (i := 2) ht
     have lt := blk_lt ht
     have HD := Lib.hid (HYes.out hA)
     clear hB hO ht hA
     go_wp2_with fail
     go_ret
     unfold RStampOut
     rw [HD.out]
     exact ⟨rfl, rtab_stamp H0.out HB8.out HO8.out HV.out⟩
end Go.Proofs.YtilcofpceadpbaaGreatDoor
