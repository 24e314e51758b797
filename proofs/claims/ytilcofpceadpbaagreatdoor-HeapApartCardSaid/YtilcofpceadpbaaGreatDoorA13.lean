/-
 HeapApart: part 13 of what the claim rests on.
-/
import Derived.Test.YtilcofpceadpbaaGreatDoorA12
import Derived.StillTailTactics
import Derived.Deep.RegionHeld3
set_option linter.unusedVariables false
set_option linter.unusedSimpArgs false
set_option maxHeartbeats 64000000
namespace Go.Proofs.YtilcofpceadpbaaGreatDoor
open Go.ChangeShapes Go.WideShapes Go.ChangeAt Go.RowKit Go.Maps

set_option maxRecDepth 100000 in
theorem put_no {w : World} {B tb : Nat} {T : TabS} {fp : List Nat} (h : TabIn w B tb T fp) (ok : TabOk T) {ctx : Nat} {k v : VV} (hc : ctx < 18446744073709551616) (kk : VOk k) (kv : VOk v) (hik : isKey k = true) {i : Nat} {f : Fd} (hfi : T.F[i]? = some f) (hpi' : findI T.F k = (i : Int)) (hfl : flowsB (ctx ||| k.label) f.2.label = false) (hst : (decide (k.kind = 3) && !allowsB T.S k.s v.kind) = false) :
  Calls Tryz.prog 47 #[.pointer (some ⟨tb, 0, none⟩), .int .u64 (ctx : Int), .agg (vvCells k), .agg (vvCells v)] w fun e w' => e = .returned (.int .i64 40) ∧ TabTo w B tb T fp w' := by
 obtain ⟨⟨fv, sv, mb, nb, n, m, D, E, hfp, h1, h2, h3, h4, h5, hne, hnl, hml, hI, hN⟩, hbase⟩ := h
 have h0 : TabIn w B tb T fp := ⟨⟨fv, sv, mb, nb, n, m, D, E, hfp, h1, h2, h3, h4, h5, hne, hnl, hml, hI, hN⟩, hbase⟩
 obtain ⟨ad, cf, ct1, hab, hfd, hfz, hto⟩ := tab_elem h0 hfi
 obtain rfl : fv = .slice (some ad) T.F.length cf := by have := (cell_of_blk (i := 1) h1 rfl).symm.trans ct1; simpa using this
 have hil : (i : Int) < (T.F.length : Int) := by have := (List.getElem?_eq_some_iff.1 hfi).1; omega
 have hi0 : (0 : Int) ≤ i := by omega
 have hab' : (ad.add (i * 8)).block < w.heap.size := by rw [block_add']; exact hab
 have hfw := fun W => flows_any (ctx ||| k.label) f.2.label W (Nat.or_lt_two_pow (n := 64) hc kk.label) (ok.vOk f (List.mem_of_getElem? hfi)).label
 rw [hfl] at hfw
 have HFl := Lib.hid hfw
 have HFd := Lib.hid hfd
 have HTo := Lib.hid hto
 have HFz := Lib.hid hfz
 clear hfw hfd hto ct1 hfz
 obtain ⟨AS, cs, rfl, hcs1, hcs2, hAS, hRS⟩ := own_reads h3
 obtain ⟨cn, β, hlk, hβ⟩ := look_name h5 hN ok.dS k.s kk.s
 have hnlt := h5.lt
 have hkeys := fun W => keyof_any k W
 rw [hik, if_pos rfl] at hkeys
 unfold keyV at hkeys
 have hb3 : decide (k.kind = 3) = decide (k.kind = 3) := rfl
 generalize hb3' : decide (k.kind = 3) = b3 at hkeys hb3
 have HK := Lib.hid hkeys
 have HL := Lib.hid hlk
 have H0 := Lib.hid h0
 have H1 := Lib.hid h1
 have H2 := Lib.hid h2
 have H3 := Lib.hid h3
 have H4 := Lib.hid h4
 have HN := Lib.hid hN
 have H5 := Lib.hid h5
 have HRS := Lib.hid hRS
 have HI := Lib.hid hI
 have HOK := Lib.hid ok
 have hjl : ctx ||| k.label < 18446744073709551616 := Nat.or_lt_two_pow (n := 64) hc kk.label
 have hw := fun n c t W h => with1_any v (ctx ||| k.label) n c t W kv.label hjl h
 have hj := fun n c t W h => join2_any ctx k.label n c t W hc kk.label h
 have hf := (fun (W : World) (hW : Below w.heap.size w W) => find_is (h0.kept (Fr.of_below hW []) (by simp)) ok kk)
 generalize hpi : findI T.F k = pi at hf
 have HF := Lib.hid hf
 have HB0 := Lib.hid ((((Below.refl w.heap.size w).alloc (Nat.le_refl _) (.cells (vvCells k) 26)).alloc (by simp) (.cells (vvCells v) 26)))
 generalize hR : withV v (ctx ||| k.label) = R at hw ⊢
 generalize hcj : ctx ||| k.label = cj at hj hw hjl
 have HW := Lib.hid hw
 have HJ := Lib.hid hj
 have HP := Lib.hid hfp
 have HBase := Lib.hid hbase
 have htlt := blk_lt h1
 clear hkeys hlk h0 h1 h2 h3 h4 h5 hRS hI hN ok hw hj hfp hbase hb3 hf
 have heqm := fun W : World => run_eql_map_nil (P := Tryz.prog) W 114 _ _ (some mb) Tryz.underlying114
 unfold vvCells at *
 go_enter Tryz.func47, Tryz.ntmps47
 go_wp2_with fail
 refine (HK.out _).mono ?_
 rintro e w1 ⟨rfl, hb1⟩
 have HB1 := Lib.hid (HB0.out.trans (hb1.mono (by simp; omega)))
 have U0 := Lib.hid (below_blk hb1 (blk_alloc (heap_alloc_new w _) _))
 have U1 := Lib.hid (below_blk hb1 (heap_new_at _ _ (w.heap.size + 1) (by simp)))
 have U3 := Lib.hid (below_blk HB1.out H1.out)
 clear hb1 HB0
 rcases hβ with ⟨rfl, hal⟩ | ⟨rfl, i', s', rfl, hi', hnm, hal⟩
 ·have t2 := cell_of_blk (i := 2) U3.out rfl
  have t4 := cell_of_blk (i := 4) U3.out rfl
  have t3 := cell_of_blk (i := 3) U3.out rfl
  have k2 := cell_of_blk (i := 2) U0.out rfl
  have v0 := cell_of_blk (i := 0) U1.out rfl
  have l3 := blk_lt U3.out
  have l1 := blk_lt U1.out
  have l0 := blk_lt U0.out
  have hlook : ∀ q, (Instr.lookup 115 (.map (some nb)) (.string k.s) true).run Tryz.prog ((w1.alloc (.cells #[.int .i64 k.n, .string k.s, .bool b3] 139)).drewN q) = .ok _ _ := fun q => HL.out _ (blk_same HB1.out hnlt _)
  go_wp2_with fail
  go_quiet (fail)
  go_wp2_with fail
  go_quiet (fail)
  refine gen_then fun W5 hW5 => ?_
  have B5 := Lib.hid (show Below w.heap.size w W5 by rw [← hW5]; exact below_drewN (below_drewN (HB1.out.alloc HB1.out.size _) _) _)
  have A0 := Lib.hid (show W5.heap[w.heap.size]? = some (.cells #[.int .i64 k.kind, .int .i64 k.n, .string k.s, .int .u64 (k.label : Int)] 26 (0, 0)) by rw [← hW5]; exact blk_alloc U0.out _)
  have A1 := Lib.hid (show W5.heap[w.heap.size + 1]? = some (.cells #[.int .i64 v.kind, .int .i64 v.n, .string v.s, .int .u64 (v.label : Int)] 26 (0, 0)) by rw [← hW5]; exact blk_alloc U1.out _)
  have A2 := Lib.hid (show W5.heap[w1.heap.size]? = some (.cells #[.int .i64 k.n, .string k.s, .bool b3] 139 (0, 0)) by rw [← hW5]; exact heap_alloc_new _ _)
  have A3 := Lib.hid (below_blk B5.out H1.out)
  have hw1 : w.heap.size + 1 < w1.heap.size := blk_lt U1.out
  clear hW5 hlook t2 t3 t4 k2 v0 l3 l1 l0 U0 U1 U3 HB1
  have k0 := cell_of_blk (i := 0) A0.out rfl
  have k1 := cell_of_blk (i := 1) A0.out rfl
  have k2 := cell_of_blk (i := 2) A0.out rfl
  have k3 := cell_of_blk (i := 3) A0.out rfl
  have v0 := cell_of_blk (i := 0) A1.out rfl
  have v1 := cell_of_blk (i := 1) A1.out rfl
  have v2 := cell_of_blk (i := 2) A1.out rfl
  have v3 := cell_of_blk (i := 3) A1.out rfl
  have l0 := blk_lt A0.out
  have l1 := blk_lt A1.out
  go_wp2_with fail
  refine (HJ.out _ _ _ _ (heap_alloc_new _ _)).mono ?_
  rintro e w6 ⟨rfl, rfl⟩
  go_wp2_with fail
  refine (HW.out _ _ _ _ (heap_new_at _ _ _ (by simp))).mono ?_
  rintro e w6 ⟨rfl, hb6⟩
  have B6 := Lib.hid (B5.out.trans ((((Below.refl _ _).alloc (Nat.le_refl _) _).alloc (by simp) _).trans (hb6.mono (by simp; omega)) |>.mono B5.out.size))
  have C0 := Lib.hid (below_blk hb6 (blk_alloc (blk_alloc A0.out _) _))
  have C1 := Lib.hid (below_blk hb6 (blk_alloc (blk_alloc A1.out _) _))
  have C2 := Lib.hid (below_blk hb6 (blk_alloc (blk_alloc A2.out _) _))
  have C3 := Lib.hid (below_blk hb6 (blk_alloc (blk_alloc A3.out _) _))
  clear hb6 k0 k1 k2 k3 v0 v1 v2 v3 A0 A1 A2 A3 l0 l1
  have k0 := cell_of_blk (i := 0) C0.out rfl
  have k1 := cell_of_blk (i := 1) C0.out rfl
  have k2 := cell_of_blk (i := 2) C0.out rfl
  have k3 := cell_of_blk (i := 3) C0.out rfl
  have v0 := cell_of_blk (i := 0) C1.out rfl
  have v1 := cell_of_blk (i := 1) C1.out rfl
  have v2 := cell_of_blk (i := 2) C1.out rfl
  have v3 := cell_of_blk (i := 3) C1.out rfl
  have z0 := free_of_blk (i := 0) C1.out
  have z1 := free_of_blk (i := 1) C1.out
  have z2 := free_of_blk (i := 2) C1.out
  have z3 := free_of_blk (i := 3) C1.out
  have l0 := blk_lt C0.out
  have l1 := blk_lt C1.out
  have hb7 : Below w.heap.size w ((((w6.setCell ⟨w.heap.size + 1, 0, none⟩ (.int .i64 R.kind)).setCell ⟨w.heap.size + 1, 1, none⟩ (.int .i64 R.n)).setCell ⟨w.heap.size + 1, 2, none⟩ (.string R.s)).setCell ⟨w.heap.size + 1, 3, none⟩ (.int .u64 (R.label : Int))) := (((B6.out.setCell (by simp) _).setCell (by simp) _).setCell (by simp) _).setCell (by simp) _
  have F7 := Lib.hid (HF.out _ hb7)
  have B7 := Lib.hid hb7
  clear hb7
  go_wp2_with fail
  refine F7.out.mono ?_
  rintro e w7 ⟨rfl, hb8⟩
  have B8 := Lib.hid (B7.out.trans (hb8.mono B7.out.size))
  have ne0 : w.heap.size ≠ w.heap.size + 1 := by omega
  have ne2 : w1.heap.size ≠ w.heap.size + 1 := by omega
  have G0 := Lib.hid (below_blk hb8 (blk_far (blk_far (blk_far (blk_far C0.out ne0 _) ne0 _) ne0 _) ne0 _))
  have G1 := Lib.hid (show w7.heap[w.heap.size + 1]? = some (.cells #[.int .i64 R.kind, .int .i64 R.n, .string R.s, .int .u64 (R.label : Int)] 26 (0, 0)) from below_blk hb8 (blk_set (i := 3) (blk_set (i := 2) (blk_set (i := 1) (blk_set (i := 0) C1.out _) _) _) _))
  have G2 := Lib.hid (below_blk hb8 (blk_far (blk_far (blk_far (blk_far C2.out ne2 _) ne2 _) ne2 _) ne2 _))
  have G3 := Lib.hid (below_blk B8.out H1.out)
  clear hb8 k0 k1 k2 k3 v0 v1 v2 v3 z0 z1 z2 z3 l0 l1 C0 C1 C2 C3 F7 B7 B6 B5 ne0 ne2
  obtain rfl : pi = (i : Int) := hpi.symm.trans hpi'
  obtain ⟨_, _, _, _, _, _, _, x7⟩ := HFd.out.below B8.out hab'
  have t1 := cell_of_blk (i := 1) G3.out rfl
  have l3 := blk_lt G3.out
  go_wp2_with fail
  have F9 := HFl.out w7
  rw [hcj] at F9
  refine F9.mono ?_
  rintro e w9 ⟨rfl, rfl⟩
  go_wp2_with fail
  go_ret
  exact ⟨rfl, TabTo.same H0.out B8.out⟩
 ·cases b3
  ·have t2 := cell_of_blk (i := 2) U3.out rfl
   have t4 := cell_of_blk (i := 4) U3.out rfl
   have t3 := cell_of_blk (i := 3) U3.out rfl
   have k2 := cell_of_blk (i := 2) U0.out rfl
   have v0 := cell_of_blk (i := 0) U1.out rfl
   have l3 := blk_lt U3.out
   have l1 := blk_lt U1.out
   have l0 := blk_lt U0.out
   have hlook : ∀ q, (Instr.lookup 115 (.map (some nb)) (.string k.s) true).run Tryz.prog ((w1.alloc (.cells #[.int .i64 k.n, .string k.s, .bool false] 139)).drewN q) = .ok _ _ := fun q => HL.out _ (blk_same HB1.out hnlt _)
   go_wp2_with fail
   go_quiet (fail)
   go_wp2_with fail
   go_quiet (fail)
   refine gen_then fun W5 hW5 => ?_
   have B5 := Lib.hid (show Below w.heap.size w W5 by rw [← hW5]; exact below_drewN (below_drewN (HB1.out.alloc HB1.out.size _) _) _)
   have A0 := Lib.hid (show W5.heap[w.heap.size]? = some (.cells #[.int .i64 k.kind, .int .i64 k.n, .string k.s, .int .u64 (k.label : Int)] 26 (0, 0)) by rw [← hW5]; exact blk_alloc U0.out _)
   have A1 := Lib.hid (show W5.heap[w.heap.size + 1]? = some (.cells #[.int .i64 v.kind, .int .i64 v.n, .string v.s, .int .u64 (v.label : Int)] 26 (0, 0)) by rw [← hW5]; exact blk_alloc U1.out _)
   have A2 := Lib.hid (show W5.heap[w1.heap.size]? = some (.cells #[.int .i64 k.n, .string k.s, .bool false] 139 (0, 0)) by rw [← hW5]; exact heap_alloc_new _ _)
   have A3 := Lib.hid (below_blk B5.out H1.out)
   have hw1 : w.heap.size + 1 < w1.heap.size := blk_lt U1.out
   clear hW5 hlook t2 t3 t4 k2 v0 l3 l1 l0 U0 U1 U3 HB1
   have k0 := cell_of_blk (i := 0) A0.out rfl
   have k1 := cell_of_blk (i := 1) A0.out rfl
   have k2 := cell_of_blk (i := 2) A0.out rfl
   have k3 := cell_of_blk (i := 3) A0.out rfl
   have v0 := cell_of_blk (i := 0) A1.out rfl
   have v1 := cell_of_blk (i := 1) A1.out rfl
   have v2 := cell_of_blk (i := 2) A1.out rfl
   have v3 := cell_of_blk (i := 3) A1.out rfl
   have l0 := blk_lt A0.out
   have l1 := blk_lt A1.out
   go_wp2_with fail
   refine (HJ.out _ _ _ _ (heap_alloc_new _ _)).mono ?_
   rintro e w6 ⟨rfl, rfl⟩
   go_wp2_with fail
   refine (HW.out _ _ _ _ (heap_new_at _ _ _ (by simp))).mono ?_
   rintro e w6 ⟨rfl, hb6⟩
   have B6 := Lib.hid (B5.out.trans ((((Below.refl _ _).alloc (Nat.le_refl _) _).alloc (by simp) _).trans (hb6.mono (by simp; omega)) |>.mono B5.out.size))
   have C0 := Lib.hid (below_blk hb6 (blk_alloc (blk_alloc A0.out _) _))
   have C1 := Lib.hid (below_blk hb6 (blk_alloc (blk_alloc A1.out _) _))
   have C2 := Lib.hid (below_blk hb6 (blk_alloc (blk_alloc A2.out _) _))
   have C3 := Lib.hid (below_blk hb6 (blk_alloc (blk_alloc A3.out _) _))
   clear hb6 k0 k1 k2 k3 v0 v1 v2 v3 A0 A1 A2 A3 l0 l1
   have k0 := cell_of_blk (i := 0) C0.out rfl
   have k1 := cell_of_blk (i := 1) C0.out rfl
   have k2 := cell_of_blk (i := 2) C0.out rfl
   have k3 := cell_of_blk (i := 3) C0.out rfl
   have v0 := cell_of_blk (i := 0) C1.out rfl
   have v1 := cell_of_blk (i := 1) C1.out rfl
   have v2 := cell_of_blk (i := 2) C1.out rfl
   have v3 := cell_of_blk (i := 3) C1.out rfl
   have z0 := free_of_blk (i := 0) C1.out
   have z1 := free_of_blk (i := 1) C1.out
   have z2 := free_of_blk (i := 2) C1.out
   have z3 := free_of_blk (i := 3) C1.out
   have l0 := blk_lt C0.out
   have l1 := blk_lt C1.out
   have hb7 : Below w.heap.size w ((((w6.setCell ⟨w.heap.size + 1, 0, none⟩ (.int .i64 R.kind)).setCell ⟨w.heap.size + 1, 1, none⟩ (.int .i64 R.n)).setCell ⟨w.heap.size + 1, 2, none⟩ (.string R.s)).setCell ⟨w.heap.size + 1, 3, none⟩ (.int .u64 (R.label : Int))) := (((B6.out.setCell (by simp) _).setCell (by simp) _).setCell (by simp) _).setCell (by simp) _
   have F7 := Lib.hid (HF.out _ hb7)
   have B7 := Lib.hid hb7
   clear hb7
   go_wp2_with fail
   refine F7.out.mono ?_
   rintro e w7 ⟨rfl, hb8⟩
   have B8 := Lib.hid (B7.out.trans (hb8.mono B7.out.size))
   have ne0 : w.heap.size ≠ w.heap.size + 1 := by omega
   have ne2 : w1.heap.size ≠ w.heap.size + 1 := by omega
   have G0 := Lib.hid (below_blk hb8 (blk_far (blk_far (blk_far (blk_far C0.out ne0 _) ne0 _) ne0 _) ne0 _))
   have G1 := Lib.hid (show w7.heap[w.heap.size + 1]? = some (.cells #[.int .i64 R.kind, .int .i64 R.n, .string R.s, .int .u64 (R.label : Int)] 26 (0, 0)) from below_blk hb8 (blk_set (i := 3) (blk_set (i := 2) (blk_set (i := 1) (blk_set (i := 0) C1.out _) _) _) _))
   have G2 := Lib.hid (below_blk hb8 (blk_far (blk_far (blk_far (blk_far C2.out ne2 _) ne2 _) ne2 _) ne2 _))
   have G3 := Lib.hid (below_blk B8.out H1.out)
   clear hb8 k0 k1 k2 k3 v0 v1 v2 v3 z0 z1 z2 z3 l0 l1 C0 C1 C2 C3 F7 B7 B6 B5 ne0 ne2
   obtain rfl : pi = (i : Int) := hpi.symm.trans hpi'
   obtain ⟨_, _, _, _, _, _, _, x7⟩ := HFd.out.below B8.out hab'
   have t1 := cell_of_blk (i := 1) G3.out rfl
   have l3 := blk_lt G3.out
   go_wp2_with fail
   have F9 := HFl.out w7
   rw [hcj] at F9
   refine F9.mono ?_
   rintro e w9 ⟨rfl, rfl⟩
   go_wp2_with fail
   go_ret
   exact ⟨rfl, TabTo.same H0.out B8.out⟩
  ·obtain ⟨ads, rfl, hadsb, hcells⟩ := HRS.out.at (flatMap_ne (K := 2) (fun a => rfl) (by omega) hi')
   have hil' : (i' : Int) < (T.S.length : Int) := by have := (List.getElem?_eq_some_iff.1 hi').1; omega
   have hi0' : (0 : Int) ≤ i' := by omega
   have hadsb' : (ads.add (i' * 2)).block < w.heap.size := by rw [block_add']; exact hadsb
   have s1 := (HB1.out.cell (p := ⟨(ads.add (i' * 2)).block, _, none⟩) hadsb').trans (st_at hcells hi').c1
   have ls1 : (ads.add (i' * 2)).block < w1.heap.size := Nat.lt_of_lt_of_le hadsb' HB1.out.size
   have hfit := fun W => fits_any s'.2 v.kind W
   rw [show fitsB s'.2 v.kind = true from by rw [← hal]; simpa [hb3'] using hst] at hfit
   have HFit := Lib.hid hfit
   clear hfit hcells hi' hnm hal
   have t2 := cell_of_blk (i := 2) U3.out rfl
   have t4 := cell_of_blk (i := 4) U3.out rfl
   have t3 := cell_of_blk (i := 3) U3.out rfl
   have k2 := cell_of_blk (i := 2) U0.out rfl
   have v0 := cell_of_blk (i := 0) U1.out rfl
   have l3 := blk_lt U3.out
   have l1 := blk_lt U1.out
   have l0 := blk_lt U0.out
   have hlook : ∀ q, (Instr.lookup 115 (.map (some nb)) (.string k.s) true).run Tryz.prog ((w1.alloc (.cells #[.int .i64 k.n, .string k.s, .bool true] 139)).drewN q) = .ok _ _ := fun q => HL.out _ (blk_same HB1.out hnlt _)
   go_wp2_with fail
   go_quiet (fail)
   go_wp2_with fail
   go_quiet ((go_at_call 88; first | exact quiet_ret (HFit.out _) | exact quiet_ret_add (HFit.out _)))
   refine gen_then fun W5 hW5 => ?_
   have B5 := Lib.hid (show Below w.heap.size w W5 by rw [← hW5]; exact below_drewN (below_drewN (HB1.out.alloc HB1.out.size _) _) _)
   have A0 := Lib.hid (show W5.heap[w.heap.size]? = some (.cells #[.int .i64 k.kind, .int .i64 k.n, .string k.s, .int .u64 (k.label : Int)] 26 (0, 0)) by rw [← hW5]; exact blk_alloc U0.out _)
   have A1 := Lib.hid (show W5.heap[w.heap.size + 1]? = some (.cells #[.int .i64 v.kind, .int .i64 v.n, .string v.s, .int .u64 (v.label : Int)] 26 (0, 0)) by rw [← hW5]; exact blk_alloc U1.out _)
   have A2 := Lib.hid (show W5.heap[w1.heap.size]? = some (.cells #[.int .i64 k.n, .string k.s, .bool true] 139 (0, 0)) by rw [← hW5]; exact heap_alloc_new _ _)
   have A3 := Lib.hid (below_blk B5.out H1.out)
   have hw1 : w.heap.size + 1 < w1.heap.size := blk_lt U1.out
   clear hW5 hlook t2 t3 t4 k2 v0 l3 l1 l0 U0 U1 U3 HB1
   have k0 := cell_of_blk (i := 0) A0.out rfl
   have k1 := cell_of_blk (i := 1) A0.out rfl
   have k2 := cell_of_blk (i := 2) A0.out rfl
   have k3 := cell_of_blk (i := 3) A0.out rfl
   have v0 := cell_of_blk (i := 0) A1.out rfl
   have v1 := cell_of_blk (i := 1) A1.out rfl
   have v2 := cell_of_blk (i := 2) A1.out rfl
   have v3 := cell_of_blk (i := 3) A1.out rfl
   have l0 := blk_lt A0.out
   have l1 := blk_lt A1.out
   go_wp2_with fail
   refine (HJ.out _ _ _ _ (heap_alloc_new _ _)).mono ?_
   rintro e w6 ⟨rfl, rfl⟩
   go_wp2_with fail
   refine (HW.out _ _ _ _ (heap_new_at _ _ _ (by simp))).mono ?_
   rintro e w6 ⟨rfl, hb6⟩
   have B6 := Lib.hid (B5.out.trans ((((Below.refl _ _).alloc (Nat.le_refl _) _).alloc (by simp) _).trans (hb6.mono (by simp; omega)) |>.mono B5.out.size))
   have C0 := Lib.hid (below_blk hb6 (blk_alloc (blk_alloc A0.out _) _))
   have C1 := Lib.hid (below_blk hb6 (blk_alloc (blk_alloc A1.out _) _))
   have C2 := Lib.hid (below_blk hb6 (blk_alloc (blk_alloc A2.out _) _))
   have C3 := Lib.hid (below_blk hb6 (blk_alloc (blk_alloc A3.out _) _))
   clear hb6 k0 k1 k2 k3 v0 v1 v2 v3 A0 A1 A2 A3 l0 l1
   have k0 := cell_of_blk (i := 0) C0.out rfl
   have k1 := cell_of_blk (i := 1) C0.out rfl
   have k2 := cell_of_blk (i := 2) C0.out rfl
   have k3 := cell_of_blk (i := 3) C0.out rfl
   have v0 := cell_of_blk (i := 0) C1.out rfl
   have v1 := cell_of_blk (i := 1) C1.out rfl
   have v2 := cell_of_blk (i := 2) C1.out rfl
   have v3 := cell_of_blk (i := 3) C1.out rfl
   have z0 := free_of_blk (i := 0) C1.out
   have z1 := free_of_blk (i := 1) C1.out
   have z2 := free_of_blk (i := 2) C1.out
   have z3 := free_of_blk (i := 3) C1.out
   have l0 := blk_lt C0.out
   have l1 := blk_lt C1.out
   have hb7 : Below w.heap.size w ((((w6.setCell ⟨w.heap.size + 1, 0, none⟩ (.int .i64 R.kind)).setCell ⟨w.heap.size + 1, 1, none⟩ (.int .i64 R.n)).setCell ⟨w.heap.size + 1, 2, none⟩ (.string R.s)).setCell ⟨w.heap.size + 1, 3, none⟩ (.int .u64 (R.label : Int))) := (((B6.out.setCell (by simp) _).setCell (by simp) _).setCell (by simp) _).setCell (by simp) _
   have F7 := Lib.hid (HF.out _ hb7)
   have B7 := Lib.hid hb7
   clear hb7
   go_wp2_with fail
   refine F7.out.mono ?_
   rintro e w7 ⟨rfl, hb8⟩
   have B8 := Lib.hid (B7.out.trans (hb8.mono B7.out.size))
   have ne0 : w.heap.size ≠ w.heap.size + 1 := by omega
   have ne2 : w1.heap.size ≠ w.heap.size + 1 := by omega
   have G0 := Lib.hid (below_blk hb8 (blk_far (blk_far (blk_far (blk_far C0.out ne0 _) ne0 _) ne0 _) ne0 _))
   have G1 := Lib.hid (show w7.heap[w.heap.size + 1]? = some (.cells #[.int .i64 R.kind, .int .i64 R.n, .string R.s, .int .u64 (R.label : Int)] 26 (0, 0)) from below_blk hb8 (blk_set (i := 3) (blk_set (i := 2) (blk_set (i := 1) (blk_set (i := 0) C1.out _) _) _) _))
   have G2 := Lib.hid (below_blk hb8 (blk_far (blk_far (blk_far (blk_far C2.out ne2 _) ne2 _) ne2 _) ne2 _))
   have G3 := Lib.hid (below_blk B8.out H1.out)
   clear hb8 k0 k1 k2 k3 v0 v1 v2 v3 z0 z1 z2 z3 l0 l1 C0 C1 C2 C3 F7 B7 B6 B5 ne0 ne2
   obtain rfl : pi = (i : Int) := hpi.symm.trans hpi'
   obtain ⟨_, _, _, _, _, _, _, x7⟩ := HFd.out.below B8.out hab'
   have t1 := cell_of_blk (i := 1) G3.out rfl
   have l3 := blk_lt G3.out
   go_wp2_with fail
   have F9 := HFl.out w7
   rw [hcj] at F9
   refine F9.mono ?_
   rintro e w9 ⟨rfl, rfl⟩
   go_wp2_with fail
   go_ret
   exact ⟨rfl, TabTo.same H0.out B8.out⟩
set_option maxRecDepth 100000 in
theorem put_appno {w : World} {B tb : Nat} {T : TabS} {fp : List Nat} (h : TabIn w B tb T fp) (ok : TabOk T) {ctx : Nat} {k v : VV} (hc : ctx < 18446744073709551616) (kk : VOk k) (kv : VOk v) (hik : isKey k = true) (hpi' : findI T.F k = -1) (hfl : flowsB (ctx ||| k.label) T.l = false) (hb : (T.F.length + 1) * 80 ≤ 140737488355328) (hst : (decide (k.kind = 3) && !allowsB T.S k.s v.kind) = false) :
  Calls Tryz.prog 47 #[.pointer (some ⟨tb, 0, none⟩), .int .u64 (ctx : Int), .agg (vvCells k), .agg (vvCells v)] w fun e w' => e = .returned (.int .i64 40) ∧ TabTo w B tb T fp w' := by
 obtain ⟨⟨fv, sv, mb, nb, n, m, D, E, hfp, h1, h2, h3, h4, h5, hne, hnl, hml, hI, hN⟩, hbase⟩ := h
 have h0 : TabIn w B tb T fp := ⟨⟨fv, sv, mb, nb, n, m, D, E, hfp, h1, h2, h3, h4, h5, hne, hnl, hml, hI, hN⟩, hbase⟩
 have hfw := fun W => flows_any (ctx ||| k.label) T.l W (Nat.or_lt_two_pow (n := 64) hc kk.label) ok.l
 rw [hfl] at hfw
 have HFl := Lib.hid hfw
 clear hfw
 obtain ⟨AS, cs, rfl, hcs1, hcs2, hAS, hRS⟩ := own_reads h3
 obtain ⟨cn, β, hlk, hβ⟩ := look_name h5 hN ok.dS k.s kk.s
 have hnlt := h5.lt
 have hkeys := fun W => keyof_any k W
 rw [hik, if_pos rfl] at hkeys
 unfold keyV at hkeys
 have hb3 : decide (k.kind = 3) = decide (k.kind = 3) := rfl
 generalize hb3' : decide (k.kind = 3) = b3 at hkeys hb3
 have HK := Lib.hid hkeys
 have HL := Lib.hid hlk
 have H0 := Lib.hid h0
 have H1 := Lib.hid h1
 have H2 := Lib.hid h2
 have H3 := Lib.hid h3
 have H4 := Lib.hid h4
 have HN := Lib.hid hN
 have H5 := Lib.hid h5
 have HRS := Lib.hid hRS
 have HI := Lib.hid hI
 have HOK := Lib.hid ok
 have hjl : ctx ||| k.label < 18446744073709551616 := Nat.or_lt_two_pow (n := 64) hc kk.label
 have hw := fun n c t W h => with1_any v (ctx ||| k.label) n c t W kv.label hjl h
 have hj := fun n c t W h => join2_any ctx k.label n c t W hc kk.label h
 have hf := (fun (W : World) (hW : Below w.heap.size w W) => find_is (h0.kept (Fr.of_below hW []) (by simp)) ok kk)
 generalize hpi : findI T.F k = pi at hf
 have HF := Lib.hid hf
 have HB0 := Lib.hid ((((Below.refl w.heap.size w).alloc (Nat.le_refl _) (.cells (vvCells k) 26)).alloc (by simp) (.cells (vvCells v) 26)))
 generalize hR : withV v (ctx ||| k.label) = R at hw ⊢
 generalize hcj : ctx ||| k.label = cj at hj hw hjl
 have HW := Lib.hid hw
 have HJ := Lib.hid hj
 have HP := Lib.hid hfp
 have HBase := Lib.hid hbase
 have htlt := blk_lt h1
 clear hkeys hlk h0 h1 h2 h3 h4 h5 hRS hI hN ok hw hj hfp hbase hb3 hf
 have heqm := fun W : World => run_eql_map_nil (P := Tryz.prog) W 114 _ _ (some mb) Tryz.underlying114
 unfold vvCells at *
 go_enter Tryz.func47, Tryz.ntmps47
 go_wp2_with fail
 refine (HK.out _).mono ?_
 rintro e w1 ⟨rfl, hb1⟩
 have HB1 := Lib.hid (HB0.out.trans (hb1.mono (by simp; omega)))
 have U0 := Lib.hid (below_blk hb1 (blk_alloc (heap_alloc_new w _) _))
 have U1 := Lib.hid (below_blk hb1 (heap_new_at _ _ (w.heap.size + 1) (by simp)))
 have U3 := Lib.hid (below_blk HB1.out H1.out)
 clear hb1 HB0
 rcases hβ with ⟨rfl, hal⟩ | ⟨rfl, i', s', rfl, hi', hnm, hal⟩
 ·have t2 := cell_of_blk (i := 2) U3.out rfl
  have t4 := cell_of_blk (i := 4) U3.out rfl
  have t3 := cell_of_blk (i := 3) U3.out rfl
  have k2 := cell_of_blk (i := 2) U0.out rfl
  have v0 := cell_of_blk (i := 0) U1.out rfl
  have l3 := blk_lt U3.out
  have l1 := blk_lt U1.out
  have l0 := blk_lt U0.out
  have hlook : ∀ q, (Instr.lookup 115 (.map (some nb)) (.string k.s) true).run Tryz.prog ((w1.alloc (.cells #[.int .i64 k.n, .string k.s, .bool b3] 139)).drewN q) = .ok _ _ := fun q => HL.out _ (blk_same HB1.out hnlt _)
  go_wp2_with fail
  go_quiet (fail)
  go_wp2_with fail
  go_quiet (fail)
  refine gen_then fun W5 hW5 => ?_
  have B5 := Lib.hid (show Below w.heap.size w W5 by rw [← hW5]; exact below_drewN (below_drewN (HB1.out.alloc HB1.out.size _) _) _)
  have A0 := Lib.hid (show W5.heap[w.heap.size]? = some (.cells #[.int .i64 k.kind, .int .i64 k.n, .string k.s, .int .u64 (k.label : Int)] 26 (0, 0)) by rw [← hW5]; exact blk_alloc U0.out _)
  have A1 := Lib.hid (show W5.heap[w.heap.size + 1]? = some (.cells #[.int .i64 v.kind, .int .i64 v.n, .string v.s, .int .u64 (v.label : Int)] 26 (0, 0)) by rw [← hW5]; exact blk_alloc U1.out _)
  have A2 := Lib.hid (show W5.heap[w1.heap.size]? = some (.cells #[.int .i64 k.n, .string k.s, .bool b3] 139 (0, 0)) by rw [← hW5]; exact heap_alloc_new _ _)
  have A3 := Lib.hid (below_blk B5.out H1.out)
  have hw1 : w.heap.size + 1 < w1.heap.size := blk_lt U1.out
  clear hW5 hlook t2 t3 t4 k2 v0 l3 l1 l0 U0 U1 U3 HB1
  have k0 := cell_of_blk (i := 0) A0.out rfl
  have k1 := cell_of_blk (i := 1) A0.out rfl
  have k2 := cell_of_blk (i := 2) A0.out rfl
  have k3 := cell_of_blk (i := 3) A0.out rfl
  have v0 := cell_of_blk (i := 0) A1.out rfl
  have v1 := cell_of_blk (i := 1) A1.out rfl
  have v2 := cell_of_blk (i := 2) A1.out rfl
  have v3 := cell_of_blk (i := 3) A1.out rfl
  have l0 := blk_lt A0.out
  have l1 := blk_lt A1.out
  go_wp2_with fail
  refine (HJ.out _ _ _ _ (heap_alloc_new _ _)).mono ?_
  rintro e w6 ⟨rfl, rfl⟩
  go_wp2_with fail
  refine (HW.out _ _ _ _ (heap_new_at _ _ _ (by simp))).mono ?_
  rintro e w6 ⟨rfl, hb6⟩
  have B6 := Lib.hid (B5.out.trans ((((Below.refl _ _).alloc (Nat.le_refl _) _).alloc (by simp) _).trans (hb6.mono (by simp; omega)) |>.mono B5.out.size))
  have C0 := Lib.hid (below_blk hb6 (blk_alloc (blk_alloc A0.out _) _))
  have C1 := Lib.hid (below_blk hb6 (blk_alloc (blk_alloc A1.out _) _))
  have C2 := Lib.hid (below_blk hb6 (blk_alloc (blk_alloc A2.out _) _))
  have C3 := Lib.hid (below_blk hb6 (blk_alloc (blk_alloc A3.out _) _))
  clear hb6 k0 k1 k2 k3 v0 v1 v2 v3 A0 A1 A2 A3 l0 l1
  have k0 := cell_of_blk (i := 0) C0.out rfl
  have k1 := cell_of_blk (i := 1) C0.out rfl
  have k2 := cell_of_blk (i := 2) C0.out rfl
  have k3 := cell_of_blk (i := 3) C0.out rfl
  have v0 := cell_of_blk (i := 0) C1.out rfl
  have v1 := cell_of_blk (i := 1) C1.out rfl
  have v2 := cell_of_blk (i := 2) C1.out rfl
  have v3 := cell_of_blk (i := 3) C1.out rfl
  have z0 := free_of_blk (i := 0) C1.out
  have z1 := free_of_blk (i := 1) C1.out
  have z2 := free_of_blk (i := 2) C1.out
  have z3 := free_of_blk (i := 3) C1.out
  have l0 := blk_lt C0.out
  have l1 := blk_lt C1.out
  have hb7 : Below w.heap.size w ((((w6.setCell ⟨w.heap.size + 1, 0, none⟩ (.int .i64 R.kind)).setCell ⟨w.heap.size + 1, 1, none⟩ (.int .i64 R.n)).setCell ⟨w.heap.size + 1, 2, none⟩ (.string R.s)).setCell ⟨w.heap.size + 1, 3, none⟩ (.int .u64 (R.label : Int))) := (((B6.out.setCell (by simp) _).setCell (by simp) _).setCell (by simp) _).setCell (by simp) _
  have F7 := Lib.hid (HF.out _ hb7)
  have B7 := Lib.hid hb7
  clear hb7
  go_wp2_with fail
  refine F7.out.mono ?_
  rintro e w7 ⟨rfl, hb8⟩
  have B8 := Lib.hid (B7.out.trans (hb8.mono B7.out.size))
  have ne0 : w.heap.size ≠ w.heap.size + 1 := by omega
  have ne2 : w1.heap.size ≠ w.heap.size + 1 := by omega
  have G0 := Lib.hid (below_blk hb8 (blk_far (blk_far (blk_far (blk_far C0.out ne0 _) ne0 _) ne0 _) ne0 _))
  have G1 := Lib.hid (show w7.heap[w.heap.size + 1]? = some (.cells #[.int .i64 R.kind, .int .i64 R.n, .string R.s, .int .u64 (R.label : Int)] 26 (0, 0)) from below_blk hb8 (blk_set (i := 3) (blk_set (i := 2) (blk_set (i := 1) (blk_set (i := 0) C1.out _) _) _) _))
  have G2 := Lib.hid (below_blk hb8 (blk_far (blk_far (blk_far (blk_far C2.out ne2 _) ne2 _) ne2 _) ne2 _))
  have G3 := Lib.hid (below_blk B8.out H1.out)
  clear hb8 k0 k1 k2 k3 v0 v1 v2 v3 z0 z1 z2 z3 l0 l1 C0 C1 C2 C3 F7 B7 B6 B5 ne0 ne2
  obtain rfl : pi = -1 := hpi.symm.trans hpi'
  have t0 := cell_of_blk (i := 0) G3.out rfl
  have l3 := blk_lt G3.out
  go_wp2_with fail
  have F9 := HFl.out w7
  rw [hcj] at F9
  refine F9.mono ?_
  rintro e w9 ⟨rfl, rfl⟩
  go_wp2_with fail
  go_ret
  exact ⟨rfl, TabTo.same H0.out B8.out⟩
 ·cases b3
  ·have t2 := cell_of_blk (i := 2) U3.out rfl
   have t4 := cell_of_blk (i := 4) U3.out rfl
   have t3 := cell_of_blk (i := 3) U3.out rfl
   have k2 := cell_of_blk (i := 2) U0.out rfl
   have v0 := cell_of_blk (i := 0) U1.out rfl
   have l3 := blk_lt U3.out
   have l1 := blk_lt U1.out
   have l0 := blk_lt U0.out
   have hlook : ∀ q, (Instr.lookup 115 (.map (some nb)) (.string k.s) true).run Tryz.prog ((w1.alloc (.cells #[.int .i64 k.n, .string k.s, .bool false] 139)).drewN q) = .ok _ _ := fun q => HL.out _ (blk_same HB1.out hnlt _)
   go_wp2_with fail
   go_quiet (fail)
   go_wp2_with fail
   go_quiet (fail)
   refine gen_then fun W5 hW5 => ?_
   have B5 := Lib.hid (show Below w.heap.size w W5 by rw [← hW5]; exact below_drewN (below_drewN (HB1.out.alloc HB1.out.size _) _) _)
   have A0 := Lib.hid (show W5.heap[w.heap.size]? = some (.cells #[.int .i64 k.kind, .int .i64 k.n, .string k.s, .int .u64 (k.label : Int)] 26 (0, 0)) by rw [← hW5]; exact blk_alloc U0.out _)
   have A1 := Lib.hid (show W5.heap[w.heap.size + 1]? = some (.cells #[.int .i64 v.kind, .int .i64 v.n, .string v.s, .int .u64 (v.label : Int)] 26 (0, 0)) by rw [← hW5]; exact blk_alloc U1.out _)
   have A2 := Lib.hid (show W5.heap[w1.heap.size]? = some (.cells #[.int .i64 k.n, .string k.s, .bool false] 139 (0, 0)) by rw [← hW5]; exact heap_alloc_new _ _)
   have A3 := Lib.hid (below_blk B5.out H1.out)
   have hw1 : w.heap.size + 1 < w1.heap.size := blk_lt U1.out
   clear hW5 hlook t2 t3 t4 k2 v0 l3 l1 l0 U0 U1 U3 HB1
   have k0 := cell_of_blk (i := 0) A0.out rfl
   have k1 := cell_of_blk (i := 1) A0.out rfl
   have k2 := cell_of_blk (i := 2) A0.out rfl
   have k3 := cell_of_blk (i := 3) A0.out rfl
   have v0 := cell_of_blk (i := 0) A1.out rfl
   have v1 := cell_of_blk (i := 1) A1.out rfl
   have v2 := cell_of_blk (i := 2) A1.out rfl
   have v3 := cell_of_blk (i := 3) A1.out rfl
   have l0 := blk_lt A0.out
   have l1 := blk_lt A1.out
   go_wp2_with fail
   refine (HJ.out _ _ _ _ (heap_alloc_new _ _)).mono ?_
   rintro e w6 ⟨rfl, rfl⟩
   go_wp2_with fail
   refine (HW.out _ _ _ _ (heap_new_at _ _ _ (by simp))).mono ?_
   rintro e w6 ⟨rfl, hb6⟩
   have B6 := Lib.hid (B5.out.trans ((((Below.refl _ _).alloc (Nat.le_refl _) _).alloc (by simp) _).trans (hb6.mono (by simp; omega)) |>.mono B5.out.size))
   have C0 := Lib.hid (below_blk hb6 (blk_alloc (blk_alloc A0.out _) _))
   have C1 := Lib.hid (below_blk hb6 (blk_alloc (blk_alloc A1.out _) _))
   have C2 := Lib.hid (below_blk hb6 (blk_alloc (blk_alloc A2.out _) _))
   have C3 := Lib.hid (below_blk hb6 (blk_alloc (blk_alloc A3.out _) _))
   clear hb6 k0 k1 k2 k3 v0 v1 v2 v3 A0 A1 A2 A3 l0 l1
   have k0 := cell_of_blk (i := 0) C0.out rfl
   have k1 := cell_of_blk (i := 1) C0.out rfl
   have k2 := cell_of_blk (i := 2) C0.out rfl
   have k3 := cell_of_blk (i := 3) C0.out rfl
   have v0 := cell_of_blk (i := 0) C1.out rfl
   have v1 := cell_of_blk (i := 1) C1.out rfl
   have v2 := cell_of_blk (i := 2) C1.out rfl
   have v3 := cell_of_blk (i := 3) C1.out rfl
   have z0 := free_of_blk (i := 0) C1.out
   have z1 := free_of_blk (i := 1) C1.out
   have z2 := free_of_blk (i := 2) C1.out
   have z3 := free_of_blk (i := 3) C1.out
   have l0 := blk_lt C0.out
   have l1 := blk_lt C1.out
   have hb7 : Below w.heap.size w ((((w6.setCell ⟨w.heap.size + 1, 0, none⟩ (.int .i64 R.kind)).setCell ⟨w.heap.size + 1, 1, none⟩ (.int .i64 R.n)).setCell ⟨w.heap.size + 1, 2, none⟩ (.string R.s)).setCell ⟨w.heap.size + 1, 3, none⟩ (.int .u64 (R.label : Int))) := (((B6.out.setCell (by simp) _).setCell (by simp) _).setCell (by simp) _).setCell (by simp) _
   have F7 := Lib.hid (HF.out _ hb7)
   have B7 := Lib.hid hb7
   clear hb7
   go_wp2_with fail
   refine F7.out.mono ?_
   rintro e w7 ⟨rfl, hb8⟩
   have B8 := Lib.hid (B7.out.trans (hb8.mono B7.out.size))
   have ne0 : w.heap.size ≠ w.heap.size + 1 := by omega
   have ne2 : w1.heap.size ≠ w.heap.size + 1 := by omega
   have G0 := Lib.hid (below_blk hb8 (blk_far (blk_far (blk_far (blk_far C0.out ne0 _) ne0 _) ne0 _) ne0 _))
   have G1 := Lib.hid (show w7.heap[w.heap.size + 1]? = some (.cells #[.int .i64 R.kind, .int .i64 R.n, .string R.s, .int .u64 (R.label : Int)] 26 (0, 0)) from below_blk hb8 (blk_set (i := 3) (blk_set (i := 2) (blk_set (i := 1) (blk_set (i := 0) C1.out _) _) _) _))
   have G2 := Lib.hid (below_blk hb8 (blk_far (blk_far (blk_far (blk_far C2.out ne2 _) ne2 _) ne2 _) ne2 _))
   have G3 := Lib.hid (below_blk B8.out H1.out)
   clear hb8 k0 k1 k2 k3 v0 v1 v2 v3 z0 z1 z2 z3 l0 l1 C0 C1 C2 C3 F7 B7 B6 B5 ne0 ne2
   obtain rfl : pi = -1 := hpi.symm.trans hpi'
   have t0 := cell_of_blk (i := 0) G3.out rfl
   have l3 := blk_lt G3.out
   go_wp2_with fail
   have F9 := HFl.out w7
   rw [hcj] at F9
   refine F9.mono ?_
   rintro e w9 ⟨rfl, rfl⟩
   go_wp2_with fail
   go_ret
   exact ⟨rfl, TabTo.same H0.out B8.out⟩
  ·obtain ⟨ads, rfl, hadsb, hcells⟩ := HRS.out.at (flatMap_ne (K := 2) (fun a => rfl) (by omega) hi')
   have hil' : (i' : Int) < (T.S.length : Int) := by have := (List.getElem?_eq_some_iff.1 hi').1; omega
   have hi0' : (0 : Int) ≤ i' := by omega
   have hadsb' : (ads.add (i' * 2)).block < w.heap.size := by rw [block_add']; exact hadsb
   have s1 := (HB1.out.cell (p := ⟨(ads.add (i' * 2)).block, _, none⟩) hadsb').trans (st_at hcells hi').c1
   have ls1 : (ads.add (i' * 2)).block < w1.heap.size := Nat.lt_of_lt_of_le hadsb' HB1.out.size
   have hfit := fun W => fits_any s'.2 v.kind W
   rw [show fitsB s'.2 v.kind = true from by rw [← hal]; simpa [hb3'] using hst] at hfit
   have HFit := Lib.hid hfit
   clear hfit hcells hi' hnm hal
   have t2 := cell_of_blk (i := 2) U3.out rfl
   have t4 := cell_of_blk (i := 4) U3.out rfl
   have t3 := cell_of_blk (i := 3) U3.out rfl
   have k2 := cell_of_blk (i := 2) U0.out rfl
   have v0 := cell_of_blk (i := 0) U1.out rfl
   have l3 := blk_lt U3.out
   have l1 := blk_lt U1.out
   have l0 := blk_lt U0.out
   have hlook : ∀ q, (Instr.lookup 115 (.map (some nb)) (.string k.s) true).run Tryz.prog ((w1.alloc (.cells #[.int .i64 k.n, .string k.s, .bool true] 139)).drewN q) = .ok _ _ := fun q => HL.out _ (blk_same HB1.out hnlt _)
   go_wp2_with fail
   go_quiet (fail)
   go_wp2_with fail
   go_quiet ((go_at_call 88; first | exact quiet_ret (HFit.out _) | exact quiet_ret_add (HFit.out _)))
   refine gen_then fun W5 hW5 => ?_
   have B5 := Lib.hid (show Below w.heap.size w W5 by rw [← hW5]; exact below_drewN (below_drewN (HB1.out.alloc HB1.out.size _) _) _)
   have A0 := Lib.hid (show W5.heap[w.heap.size]? = some (.cells #[.int .i64 k.kind, .int .i64 k.n, .string k.s, .int .u64 (k.label : Int)] 26 (0, 0)) by rw [← hW5]; exact blk_alloc U0.out _)
   have A1 := Lib.hid (show W5.heap[w.heap.size + 1]? = some (.cells #[.int .i64 v.kind, .int .i64 v.n, .string v.s, .int .u64 (v.label : Int)] 26 (0, 0)) by rw [← hW5]; exact blk_alloc U1.out _)
   have A2 := Lib.hid (show W5.heap[w1.heap.size]? = some (.cells #[.int .i64 k.n, .string k.s, .bool true] 139 (0, 0)) by rw [← hW5]; exact heap_alloc_new _ _)
   have A3 := Lib.hid (below_blk B5.out H1.out)
   have hw1 : w.heap.size + 1 < w1.heap.size := blk_lt U1.out
   clear hW5 hlook t2 t3 t4 k2 v0 l3 l1 l0 U0 U1 U3 HB1
   have k0 := cell_of_blk (i := 0) A0.out rfl
   have k1 := cell_of_blk (i := 1) A0.out rfl
   have k2 := cell_of_blk (i := 2) A0.out rfl
   have k3 := cell_of_blk (i := 3) A0.out rfl
   have v0 := cell_of_blk (i := 0) A1.out rfl
   have v1 := cell_of_blk (i := 1) A1.out rfl
   have v2 := cell_of_blk (i := 2) A1.out rfl
   have v3 := cell_of_blk (i := 3) A1.out rfl
   have l0 := blk_lt A0.out
   have l1 := blk_lt A1.out
   go_wp2_with fail
   refine (HJ.out _ _ _ _ (heap_alloc_new _ _)).mono ?_
   rintro e w6 ⟨rfl, rfl⟩
   go_wp2_with fail
   refine (HW.out _ _ _ _ (heap_new_at _ _ _ (by simp))).mono ?_
   rintro e w6 ⟨rfl, hb6⟩
   have B6 := Lib.hid (B5.out.trans ((((Below.refl _ _).alloc (Nat.le_refl _) _).alloc (by simp) _).trans (hb6.mono (by simp; omega)) |>.mono B5.out.size))
   have C0 := Lib.hid (below_blk hb6 (blk_alloc (blk_alloc A0.out _) _))
   have C1 := Lib.hid (below_blk hb6 (blk_alloc (blk_alloc A1.out _) _))
   have C2 := Lib.hid (below_blk hb6 (blk_alloc (blk_alloc A2.out _) _))
   have C3 := Lib.hid (below_blk hb6 (blk_alloc (blk_alloc A3.out _) _))
   clear hb6 k0 k1 k2 k3 v0 v1 v2 v3 A0 A1 A2 A3 l0 l1
   have k0 := cell_of_blk (i := 0) C0.out rfl
   have k1 := cell_of_blk (i := 1) C0.out rfl
   have k2 := cell_of_blk (i := 2) C0.out rfl
   have k3 := cell_of_blk (i := 3) C0.out rfl
   have v0 := cell_of_blk (i := 0) C1.out rfl
   have v1 := cell_of_blk (i := 1) C1.out rfl
   have v2 := cell_of_blk (i := 2) C1.out rfl
   have v3 := cell_of_blk (i := 3) C1.out rfl
   have z0 := free_of_blk (i := 0) C1.out
   have z1 := free_of_blk (i := 1) C1.out
   have z2 := free_of_blk (i := 2) C1.out
   have z3 := free_of_blk (i := 3) C1.out
   have l0 := blk_lt C0.out
   have l1 := blk_lt C1.out
   have hb7 : Below w.heap.size w ((((w6.setCell ⟨w.heap.size + 1, 0, none⟩ (.int .i64 R.kind)).setCell ⟨w.heap.size + 1, 1, none⟩ (.int .i64 R.n)).setCell ⟨w.heap.size + 1, 2, none⟩ (.string R.s)).setCell ⟨w.heap.size + 1, 3, none⟩ (.int .u64 (R.label : Int))) := (((B6.out.setCell (by simp) _).setCell (by simp) _).setCell (by simp) _).setCell (by simp) _
   have F7 := Lib.hid (HF.out _ hb7)
   have B7 := Lib.hid hb7
   clear hb7
   go_wp2_with fail
   refine F7.out.mono ?_
   rintro e w7 ⟨rfl, hb8⟩
   have B8 := Lib.hid (B7.out.trans (hb8.mono B7.out.size))
   have ne0 : w.heap.size ≠ w.heap.size + 1 := by omega
   have ne2 : w1.heap.size ≠ w.heap.size + 1 := by omega
   have G0 := Lib.hid (below_blk hb8 (blk_far (blk_far (blk_far (blk_far C0.out ne0 _) ne0 _) ne0 _) ne0 _))
   have G1 := Lib.hid (show w7.heap[w.heap.size + 1]? = some (.cells #[.int .i64 R.kind, .int .i64 R.n, .string R.s, .int .u64 (R.label : Int)] 26 (0, 0)) from below_blk hb8 (blk_set (i := 3) (blk_set (i := 2) (blk_set (i := 1) (blk_set (i := 0) C1.out _) _) _) _))
   have G2 := Lib.hid (below_blk hb8 (blk_far (blk_far (blk_far (blk_far C2.out ne2 _) ne2 _) ne2 _) ne2 _))
   have G3 := Lib.hid (below_blk B8.out H1.out)
   clear hb8 k0 k1 k2 k3 v0 v1 v2 v3 z0 z1 z2 z3 l0 l1 C0 C1 C2 C3 F7 B7 B6 B5 ne0 ne2
   obtain rfl : pi = -1 := hpi.symm.trans hpi'
   have t0 := cell_of_blk (i := 0) G3.out rfl
   have l3 := blk_lt G3.out
   go_wp2_with fail
   have F9 := HFl.out w7
   rw [hcj] at F9
   refine F9.mono ?_
   rintro e w9 ⟨rfl, rfl⟩
   go_wp2_with fail
   go_ret
   exact ⟨rfl, TabTo.same H0.out B8.out⟩

theorem no_key {T : TabS} (ok : TabOk T) {k : VV} (kk : VOk k) (hik : isKey k = true) (h : findI T.F k = -1) : ∀ f ∈ T.F, keyLV f.1 ≠ keyLV k := by
 intro f hf e
 have hn : findF T.F k = none := by
  unfold findI at h
  cases hF : findF T.F k with
  | none => rfl
  | some i =>
   rw [hF] at h
   simp at h
 have := findF_none hn hik f hf
 rw [(keyLV_iff (ok.key f hf) hik (ok.kOk f hf) kk).1 e] at this
 cases this
theorem map_grown {k : TypeId} {R : Value → Option (DataW Unit × List MemPlace)} {w w' : World} {b n : Nat} {D : DataW Unit} {row : Option Nat} (h : w.ownsMap Tryz.prog k R b n D) (hg : w.grownBy w' row) (hr : row ≠ some b) : w'.ownsMap Tryz.prog k R b n D := by
 obtain ⟨es, clock, hb, r⟩ := h
 exact ⟨es, clock, blk_grown hb hg hr, r⟩
set_option maxRecDepth 100000 in
theorem put_app {w : World} {B tb : Nat} {T : TabS} {fp : List Nat} (h : TabIn w B tb T fp) (ok : TabOk T) {ctx : Nat} {k v : VV} (hc : ctx < 18446744073709551616) (kk : VOk k) (kv : VOk v) (hik : isKey k = true) (hpi' : findI T.F k = -1) (hfl : flowsB (ctx ||| k.label) T.l = true) (hb : (T.F.length + 1) * 80 ≤ 140737488355328) (hst : (decide (k.kind = 3) && !allowsB T.S k.s v.kind) = false) :
  Calls Tryz.prog 47 #[.pointer (some ⟨tb, 0, none⟩), .int .u64 (ctx : Int), .agg (vvCells k), .agg (vvCells v)] w fun e w' => e = .returned (.int .i64 0) ∧ TabTo w B tb { T with F := T.F ++ [(bareV k, withV v (ctx ||| k.label))] } fp w' := by
 obtain ⟨⟨fv, sv, mb, nb, n, m, D, E, hfp, h1, h2, h3, h4, h5, hne, hnl, hml, hI, hN⟩, hbase⟩ := h
 have h0 : TabIn w B tb T fp := ⟨⟨fv, sv, mb, nb, n, m, D, E, hfp, h1, h2, h3, h4, h5, hne, hnl, hml, hI, hN⟩, hbase⟩
 have hfw := fun W => flows_any (ctx ||| k.label) T.l W (Nat.or_lt_two_pow (n := 64) hc kk.label) ok.l
 rw [hfl] at hfw
 have HFl := Lib.hid hfw
 clear hfw
 obtain ⟨Af, cf, rfl, hnf1, hnf2, _, _⟩ := own_reads h2
 obtain ⟨AS, cs, rfl, hcs1, hcs2, hAS, hRS⟩ := own_reads h3
 obtain ⟨cn, β, hlk, hβ⟩ := look_name h5 hN ok.dS k.s kk.s
 have hnlt := h5.lt
 have hkeys := fun W => keyof_any k W
 rw [hik, if_pos rfl] at hkeys
 unfold keyV at hkeys
 have hb3 : decide (k.kind = 3) = decide (k.kind = 3) := rfl
 generalize hb3' : decide (k.kind = 3) = b3 at hkeys hb3
 have HK := Lib.hid hkeys
 have HL := Lib.hid hlk
 have H0 := Lib.hid h0
 have H1 := Lib.hid h1
 have H2 := Lib.hid h2
 have H3 := Lib.hid h3
 have H4 := Lib.hid h4
 have HN := Lib.hid hN
 have H5 := Lib.hid h5
 have HRS := Lib.hid hRS
 have HI := Lib.hid hI
 have HOK := Lib.hid ok
 have hjl : ctx ||| k.label < 18446744073709551616 := Nat.or_lt_two_pow (n := 64) hc kk.label
 have hw := fun n c t W h => with1_any v (ctx ||| k.label) n c t W kv.label hjl h
 have hj := fun n c t W h => join2_any ctx k.label n c t W hc kk.label h
 have hf := (fun (W : World) (hW : Below w.heap.size w W) => find_is (h0.kept (Fr.of_below hW []) (by simp)) ok kk)
 generalize hpi : findI T.F k = pi at hf
 have HF := Lib.hid hf
 have HB0 := Lib.hid ((((Below.refl w.heap.size w).alloc (Nat.le_refl _) (.cells (vvCells k) 26)).alloc (by simp) (.cells (vvCells v) 26)))
 generalize hR : withV v (ctx ||| k.label) = R at hw ⊢
 generalize hcj : ctx ||| k.label = cj at hj hw hjl
 have HW := Lib.hid hw
 have HJ := Lib.hid hj
 have HP := Lib.hid hfp
 have HBase := Lib.hid hbase
 have htlt := blk_lt h1
 clear hkeys hlk h0 h1 h2 h3 h4 h5 hRS hI hN ok hw hj hfp hbase hb3 hf
 have heqm := fun W : World => run_eql_map_nil (P := Tryz.prog) W 114 _ _ (some mb) Tryz.underlying114
 unfold vvCells at *
 go_enter Tryz.func47, Tryz.ntmps47
 go_wp2_with fail
 refine (HK.out _).mono ?_
 rintro e w1 ⟨rfl, hb1⟩
 have HB1 := Lib.hid (HB0.out.trans (hb1.mono (by simp; omega)))
 have U0 := Lib.hid (below_blk hb1 (blk_alloc (heap_alloc_new w _) _))
 have U1 := Lib.hid (below_blk hb1 (heap_new_at _ _ (w.heap.size + 1) (by simp)))
 have U3 := Lib.hid (below_blk HB1.out H1.out)
 clear hb1 HB0
 rcases hβ with ⟨rfl, hal⟩ | ⟨rfl, i', s', rfl, hi', hnm, hal⟩
 ·have t2 := cell_of_blk (i := 2) U3.out rfl
  have t4 := cell_of_blk (i := 4) U3.out rfl
  have t3 := cell_of_blk (i := 3) U3.out rfl
  have k2 := cell_of_blk (i := 2) U0.out rfl
  have v0 := cell_of_blk (i := 0) U1.out rfl
  have l3 := blk_lt U3.out
  have l1 := blk_lt U1.out
  have l0 := blk_lt U0.out
  have hlook : ∀ q, (Instr.lookup 115 (.map (some nb)) (.string k.s) true).run Tryz.prog ((w1.alloc (.cells #[.int .i64 k.n, .string k.s, .bool b3] 139)).drewN q) = .ok _ _ := fun q => HL.out _ (blk_same HB1.out hnlt _)
  go_wp2_with fail
  go_quiet (fail)
  go_wp2_with fail
  go_quiet (fail)
  refine gen_then fun W5 hW5 => ?_
  have B5 := Lib.hid (show Below w.heap.size w W5 by rw [← hW5]; exact below_drewN (below_drewN (HB1.out.alloc HB1.out.size _) _) _)
  have A0 := Lib.hid (show W5.heap[w.heap.size]? = some (.cells #[.int .i64 k.kind, .int .i64 k.n, .string k.s, .int .u64 (k.label : Int)] 26 (0, 0)) by rw [← hW5]; exact blk_alloc U0.out _)
  have A1 := Lib.hid (show W5.heap[w.heap.size + 1]? = some (.cells #[.int .i64 v.kind, .int .i64 v.n, .string v.s, .int .u64 (v.label : Int)] 26 (0, 0)) by rw [← hW5]; exact blk_alloc U1.out _)
  have A2 := Lib.hid (show W5.heap[w1.heap.size]? = some (.cells #[.int .i64 k.n, .string k.s, .bool b3] 139 (0, 0)) by rw [← hW5]; exact heap_alloc_new _ _)
  have A3 := Lib.hid (below_blk B5.out H1.out)
  have hw1 : w.heap.size + 1 < w1.heap.size := blk_lt U1.out
  clear hW5 hlook t2 t3 t4 k2 v0 l3 l1 l0 U0 U1 U3 HB1
  have k0 := cell_of_blk (i := 0) A0.out rfl
  have k1 := cell_of_blk (i := 1) A0.out rfl
  have k2 := cell_of_blk (i := 2) A0.out rfl
  have k3 := cell_of_blk (i := 3) A0.out rfl
  have v0 := cell_of_blk (i := 0) A1.out rfl
  have v1 := cell_of_blk (i := 1) A1.out rfl
  have v2 := cell_of_blk (i := 2) A1.out rfl
  have v3 := cell_of_blk (i := 3) A1.out rfl
  have l0 := blk_lt A0.out
  have l1 := blk_lt A1.out
  go_wp2_with fail
  refine (HJ.out _ _ _ _ (heap_alloc_new _ _)).mono ?_
  rintro e w6 ⟨rfl, rfl⟩
  go_wp2_with fail
  refine (HW.out _ _ _ _ (heap_new_at _ _ _ (by simp))).mono ?_
  rintro e w6 ⟨rfl, hb6⟩
  have B6 := Lib.hid (B5.out.trans ((((Below.refl _ _).alloc (Nat.le_refl _) _).alloc (by simp) _).trans (hb6.mono (by simp; omega)) |>.mono B5.out.size))
  have C0 := Lib.hid (below_blk hb6 (blk_alloc (blk_alloc A0.out _) _))
  have C1 := Lib.hid (below_blk hb6 (blk_alloc (blk_alloc A1.out _) _))
  have C2 := Lib.hid (below_blk hb6 (blk_alloc (blk_alloc A2.out _) _))
  have C3 := Lib.hid (below_blk hb6 (blk_alloc (blk_alloc A3.out _) _))
  clear hb6 k0 k1 k2 k3 v0 v1 v2 v3 A0 A1 A2 A3 l0 l1
  have k0 := cell_of_blk (i := 0) C0.out rfl
  have k1 := cell_of_blk (i := 1) C0.out rfl
  have k2 := cell_of_blk (i := 2) C0.out rfl
  have k3 := cell_of_blk (i := 3) C0.out rfl
  have v0 := cell_of_blk (i := 0) C1.out rfl
  have v1 := cell_of_blk (i := 1) C1.out rfl
  have v2 := cell_of_blk (i := 2) C1.out rfl
  have v3 := cell_of_blk (i := 3) C1.out rfl
  have z0 := free_of_blk (i := 0) C1.out
  have z1 := free_of_blk (i := 1) C1.out
  have z2 := free_of_blk (i := 2) C1.out
  have z3 := free_of_blk (i := 3) C1.out
  have l0 := blk_lt C0.out
  have l1 := blk_lt C1.out
  have hb7 : Below w.heap.size w ((((w6.setCell ⟨w.heap.size + 1, 0, none⟩ (.int .i64 R.kind)).setCell ⟨w.heap.size + 1, 1, none⟩ (.int .i64 R.n)).setCell ⟨w.heap.size + 1, 2, none⟩ (.string R.s)).setCell ⟨w.heap.size + 1, 3, none⟩ (.int .u64 (R.label : Int))) := (((B6.out.setCell (by simp) _).setCell (by simp) _).setCell (by simp) _).setCell (by simp) _
  have F7 := Lib.hid (HF.out _ hb7)
  have B7 := Lib.hid hb7
  clear hb7
  go_wp2_with fail
  refine F7.out.mono ?_
  rintro e w7 ⟨rfl, hb8⟩
  have B8 := Lib.hid (B7.out.trans (hb8.mono B7.out.size))
  have ne0 : w.heap.size ≠ w.heap.size + 1 := by omega
  have ne2 : w1.heap.size ≠ w.heap.size + 1 := by omega
  have G0 := Lib.hid (below_blk hb8 (blk_far (blk_far (blk_far (blk_far C0.out ne0 _) ne0 _) ne0 _) ne0 _))
  have G1 := Lib.hid (show w7.heap[w.heap.size + 1]? = some (.cells #[.int .i64 R.kind, .int .i64 R.n, .string R.s, .int .u64 (R.label : Int)] 26 (0, 0)) from below_blk hb8 (blk_set (i := 3) (blk_set (i := 2) (blk_set (i := 1) (blk_set (i := 0) C1.out _) _) _) _))
  have G2 := Lib.hid (below_blk hb8 (blk_far (blk_far (blk_far (blk_far C2.out ne2 _) ne2 _) ne2 _) ne2 _))
  have G3 := Lib.hid (below_blk B8.out H1.out)
  clear hb8 k0 k1 k2 k3 v0 v1 v2 v3 z0 z1 z2 z3 l0 l1 C0 C1 C2 C3 F7 B7 B6 B5 ne0 ne2
  obtain rfl : pi = -1 := hpi.symm.trans hpi'
  have t0 := cell_of_blk (i := 0) G3.out rfl
  have l3 := blk_lt G3.out
  go_wp2_with fail
  have F9 := HFl.out w7
  rw [hcj] at F9
  refine F9.mono ?_
  rintro e w9 ⟨rfl, rfl⟩
  have t1 := cell_of_blk (i := 1) G3.out rfl
  have t2 := cell_of_blk (i := 2) G3.out rfl
  have n0 := cell_of_blk (i := 0) G2.out rfl
  have n1 := cell_of_blk (i := 1) G2.out rfl
  have n2 := cell_of_blk (i := 2) G2.out rfl
  have l2 := blk_lt G2.out
  have hm7 := (Fr.of_below B8.out []).map H4.out (by simp)
  go_wp2_with fail
  go_still_tail 10, (by kernel_rfl)
  change wpList _ _ _ _ _ w7.drew
  go_wp2_with (at_mapUpdate; refine wpList_mapUpdate_own _ rfl _ _ _ 114 rfl 139 3 lawK Tryz.underlying114 _ mb n D rfl hm7 (by unfold maxLen; omega) _ _ _ rfl rfl (key_of k.n k.s b3 kk.n kk.s) _ [] (plainElem_int Tryz.underlying3 (WalkArith.wf_i64 (by omega))) ?_; intro w10 hm10 hg10; have K0 := Lib.hid (blk_grown (blk_drew G0.out) hg10 (fun e => map_ne hm7 G0.out (Option.some.inj e))); have k0 := cell_of_blk (i := 0) K0.out rfl; have k1 := cell_of_blk (i := 1) K0.out rfl; have k2 := cell_of_blk (i := 2) K0.out rfl; have k3 := cell_of_blk (i := 3) K0.out rfl; have z3 := free_of_blk (i := 3) K0.out; have lk := blk_lt K0.out)
  refine gen_wp fun W hW => ?_
  have hkw : w.heap.size ≠ tb := by omega
  have lk7 := blk_lt G0.out
  have FrW := Lib.hid (show Fr [mb] w W by rw [← hW]; exact (((Fr.of_below B8.out _).drew).grown hg10 (fun g hg => .inl (by rw [← Option.some.inj hg]; simp))).set _ (.inr (Nat.le_refl _)))
  have E0 := Lib.hid (show W.heap[w.heap.size]? = some (.cells #[.int .i64 k.kind, .int .i64 k.n, .string k.s, .int .u64 0] 26 (0, 0)) by rw [← hW]; exact blk_set (i := 3) K0.out _)
  have E1 := Lib.hid (show W.heap[w.heap.size + 1]? = some (.cells #[.int .i64 R.kind, .int .i64 R.n, .string R.s, .int .u64 (R.label : Int)] 26 (0, 0)) by rw [← hW]; exact blk_far (blk_grown (blk_drew G1.out) hg10 (fun e => map_ne hm7 G1.out (Option.some.inj e))) (by simp) _)
  have E3 := Lib.hid (FrW.out.blk H1.out (by simpa using (map_ne H4.out H1.out).symm))
  have HM := Lib.hid (show W.ownsMap Tryz.prog 139 (plainElem Tryz.prog 3) mb (n + 1) (D.put (keyLV k) (.lit (.int .i64 T.F.length))) by rw [← hW]; unfold keyLV; rw [hb3']; exact hm10.setCell (map_ne hm10 K0.out) _)
  have HO := Lib.hid (FrW.out.own H2.out (fun g hg hm => own_map_ne H2.out H4.out (by rw [hg, List.mem_singleton.1 hm])))
  have lW : w.heap.size + 1 < W.heap.size := blk_lt E1.out
  have hbW : B ≤ W.heap.size := Nat.le_trans (HBase.out tb (by rw [HP.out]; simp)).1 (by omega)
  clear hW hm10 hg10 hm7 k0 k1 k2 k3 z3 lk K0 G0 G1 G2 G3 n0 n1 n2 l2 t0 t1 t2 l3 lk7
  obtain ⟨i0, hi, hz0, hz1, hz2⟩ := info_parts infoFd
  have t1 := cell_of_blk (i := 1) E3.out rfl
  have l3 := blk_lt E3.out
  have l0 := blk_lt E0.out
  refine wp_region_noPanic ?_
  refine wp_region_held_drew (S := fun w' => w'.heap[w.heap.size]? = some (.cells #[.int .i64 k.kind, .int .i64 k.n, .string k.s, .int .u64 0] 26 (0, 0)) ∧ w'.heap[w.heap.size + 1]? = some (.cells #[.int .i64 R.kind, .int .i64 R.n, .string R.s, .int .u64 (R.label : Int)] 26 (0, 0))) (by kernel_rfl) (⟨E0.out, E1.out⟩) (fun hHeld => ?_)
  refine tk 0 84 (.pointer (some ⟨tb, 0, none⟩)) hHeld ?_; simp only [Act.put, zq1, zq2, zq3]
  refine tk 1 85 (.pointer (some ⟨tb, 0, none⟩)) hHeld ?_; simp only [Act.put, zq1, zq2, zq3]
  refine tk 2 86 (.pointer (some ⟨tb, 0, none⟩)) hHeld ?_; simp only [Act.put, zq1, zq2, zq3]
  refine tk 3 87 (.pointer (some ⟨tb, 1, none⟩)) hHeld ?_; simp only [Act.put, zq1, zq2, zq3]
  refine tk 5 89 (.agg #[.int .i64 k.kind, .int .i64 k.n, .string k.s, .int .u64 0]) hHeld ?_ (hy := Or.inl ⟨by rfl, fun w' hS => (by obtain ⟨s0, s1⟩ := hS; have q0 := cell_of_blk (i := 0) s0 rfl; have q1 := cell_of_blk (i := 1) s0 rfl; have q2 := cell_of_blk (i := 2) s0 rfl; have q3 := cell_of_blk (i := 3) s0 rfl; go_simp)⟩); simp only [Act.put, zq1, zq2, zq3]
  refine tk 6 90 (.agg #[.int .i64 R.kind, .int .i64 R.n, .string R.s, .int .u64 (R.label : Int)]) hHeld ?_ (hy := Or.inl ⟨by rfl, fun w' hS => (by obtain ⟨s0, s1⟩ := hS; have q0 := cell_of_blk (i := 0) s1 rfl; have q1 := cell_of_blk (i := 1) s1 rfl; have q2 := cell_of_blk (i := 2) s1 rfl; have q3 := cell_of_blk (i := 3) s1 rfl; go_simp)⟩); simp only [Act.put, zq1, zq2, zq3]
  refine tk 7 91 (.agg #[.int .i64 k.kind, .int .i64 k.n, .string k.s, .int .u64 0, .int .i64 R.kind, .int .i64 R.n, .string R.s, .int .u64 (R.label : Int)]) hHeld ?_; simp only [Act.put, zq1, zq2, zq3]
  refine wpAnyH_ready (rs := [4, 8]) (by kernel_rfl) (by simp) ?_
  refine AllReadyH.cons (o := _) rfl (fun K hK => ?gab3) (AllReadyH.cons (o := _) rfl (fun K hK => ?gbb3) AllReadyH.nil)
  case' gab3 =>
   go_simp
   refine hK.out _ _ (⟨blk_drew E0.out, blk_drew E1.out⟩) (fun hHeld => ?_)
   clear hK K
   try simp only [Act.put, zq1, zq2, zq3]
   refine rd 8 fun K hK => ?_
   go_simp
   refine hK.out _ _ (⟨blk_drew (blk_drew (blk_alloc E0.out _)), blk_drew (blk_drew (blk_alloc E1.out _))⟩) (fun hHeld => ?_)
   clear hK K
   try simp only [Act.put, zq1, zq2, zq3]
  case' gbb3 =>
   go_simp
   refine hK.out _ _ (⟨blk_drew (blk_alloc E0.out _), blk_drew (blk_alloc E1.out _)⟩) (fun hHeld => ?_)
   clear hK K
   try simp only [Act.put, zq1, zq2, zq3]
   refine rd 4 fun K hK => ?_
   go_simp
   refine hK.out _ _ (⟨blk_drew (blk_drew (blk_alloc E0.out _)), blk_drew (blk_drew (blk_alloc E1.out _))⟩) (fun hHeld => ?_)
   clear hK K
   try simp only [Act.put, zq1, zq2, zq3]
  all_goals
   refine rd 9 fun K hK => ?_
   refine step_append_lies _ (by rfl) _ _ _ (by rfl) B 92 i0 _ 8 80 Tryz.underlying72 hi hz0 hz1 hz2 rfl (by omega) (.slice Af T.F.length cf) T.F.length (T.F.flatMap fdEnc) (by rfl) (by exact HO.out.alloc _) ⟨W.heap.size, 0, none⟩ 1 1 (fdEnc (bareV k, R)) (by rfl) (by rfl) (by exact news_drew _ #[.int .i64 k.kind, .int .i64 k.n, .string k.s, .int .u64 0, .int .i64 R.kind, .int .i64 R.n, .string R.s, .int .u64 (R.label : Int)] _ _ (by simp)) (by simp [fdEnc, vvCells, bareV, Value.oneCell']) (by omega) (by unfold maxLen; omega) (by omega) (by simp; omega) (W.heap.size + 1) (by simp) ?_
   intro gb cap w12 hown12 hg12 hat12 hl12
   have X0 := blk_grown (blk_drew (blk_alloc E0.out _)) hg12 (Ne.symm (own_blk_ne HO.out E0.out (by decide)))
   have X1 := blk_grown (blk_drew (blk_alloc E1.out _)) hg12 (Ne.symm (own_blk_ne HO.out E1.out (by decide)))
   have X3 := blk_grown (blk_drew (blk_alloc E3.out _)) hg12 (Ne.symm (own_blk_ne HO.out E3.out (by decide)))
   refine hK.out _ _ ⟨X0, X1⟩ (fun hHeld => ?_)
   clear hK K
   try simp only [Act.put, zq1, zq2, zq3]
  all_goals
   refine tk 10 94 (.pointer (some ⟨tb, 0, none⟩)) hHeld ?_; simp only [Act.put, zq1, zq2, zq3]
   refine tk 11 95 (.pointer (some ⟨tb, 1, none⟩)) hHeld ?_; simp only [Act.put, zq1, zq2, zq3]
   have q1 := cell_of_blk (i := 1) X3 rfl
   have z1 := free_of_blk (i := 1) X3
   have l12 := blk_lt X3
   refine rd 12 fun K hK => ?_
   go_simp
   refine hK.out _ _ ⟨blk_far X0 (by simpa using hkw) _, blk_far X1 (by simp; omega) _⟩ (fun hHeld => ?_)
   clear hK K
   try simp only [Act.put, zq1, zq2, zq3]
   refine wpAnyH_done (by kernel_rfl) ?_ _
   refine NoPanic.normal ?_
   go_wp2_with fail
   go_ret
   have hF12 : Fr (mb :: (Value.slice Af T.F.length cf).ownBlock.toList) w w12 := (((FrW.out.more (by simp)).alloc _).drew).grown hg12 (fun g hg => .inl (by simp [hg]))
   have hm12 := map_grown (w := (W.alloc (.cells #[.int .i64 k.kind, .int .i64 k.n, .string k.s, .int .u64 0, .int .i64 R.kind, .int .i64 R.n, .string R.s, .int .u64 (R.label : Int)] 92)).drew) (HM.out.alloc _) hg12 (own_map_ne HO.out HM.out)
   exact ⟨rfl, tab_app HP.out H1.out H2.out H3.out H4.out H5.out hne hnl hml HI.out HN.out HBase.out hF12 hm12 hown12 rfl (by rcases hat12 with h | h; exact .inl h; exact .inr (by omega)) trivial (no_key HOK.out kk hik hpi')⟩
 ·cases b3
  ·have t2 := cell_of_blk (i := 2) U3.out rfl
   have t4 := cell_of_blk (i := 4) U3.out rfl
   have t3 := cell_of_blk (i := 3) U3.out rfl
   have k2 := cell_of_blk (i := 2) U0.out rfl
   have v0 := cell_of_blk (i := 0) U1.out rfl
   have l3 := blk_lt U3.out
   have l1 := blk_lt U1.out
   have l0 := blk_lt U0.out
   have hlook : ∀ q, (Instr.lookup 115 (.map (some nb)) (.string k.s) true).run Tryz.prog ((w1.alloc (.cells #[.int .i64 k.n, .string k.s, .bool false] 139)).drewN q) = .ok _ _ := fun q => HL.out _ (blk_same HB1.out hnlt _)
   go_wp2_with fail
   go_quiet (fail)
   go_wp2_with fail
   go_quiet (fail)
   refine gen_then fun W5 hW5 => ?_
   have B5 := Lib.hid (show Below w.heap.size w W5 by rw [← hW5]; exact below_drewN (below_drewN (HB1.out.alloc HB1.out.size _) _) _)
   have A0 := Lib.hid (show W5.heap[w.heap.size]? = some (.cells #[.int .i64 k.kind, .int .i64 k.n, .string k.s, .int .u64 (k.label : Int)] 26 (0, 0)) by rw [← hW5]; exact blk_alloc U0.out _)
   have A1 := Lib.hid (show W5.heap[w.heap.size + 1]? = some (.cells #[.int .i64 v.kind, .int .i64 v.n, .string v.s, .int .u64 (v.label : Int)] 26 (0, 0)) by rw [← hW5]; exact blk_alloc U1.out _)
   have A2 := Lib.hid (show W5.heap[w1.heap.size]? = some (.cells #[.int .i64 k.n, .string k.s, .bool false] 139 (0, 0)) by rw [← hW5]; exact heap_alloc_new _ _)
   have A3 := Lib.hid (below_blk B5.out H1.out)
   have hw1 : w.heap.size + 1 < w1.heap.size := blk_lt U1.out
   clear hW5 hlook t2 t3 t4 k2 v0 l3 l1 l0 U0 U1 U3 HB1
   have k0 := cell_of_blk (i := 0) A0.out rfl
   have k1 := cell_of_blk (i := 1) A0.out rfl
   have k2 := cell_of_blk (i := 2) A0.out rfl
   have k3 := cell_of_blk (i := 3) A0.out rfl
   have v0 := cell_of_blk (i := 0) A1.out rfl
   have v1 := cell_of_blk (i := 1) A1.out rfl
   have v2 := cell_of_blk (i := 2) A1.out rfl
   have v3 := cell_of_blk (i := 3) A1.out rfl
   have l0 := blk_lt A0.out
   have l1 := blk_lt A1.out
   go_wp2_with fail
   refine (HJ.out _ _ _ _ (heap_alloc_new _ _)).mono ?_
   rintro e w6 ⟨rfl, rfl⟩
   go_wp2_with fail
   refine (HW.out _ _ _ _ (heap_new_at _ _ _ (by simp))).mono ?_
   rintro e w6 ⟨rfl, hb6⟩
   have B6 := Lib.hid (B5.out.trans ((((Below.refl _ _).alloc (Nat.le_refl _) _).alloc (by simp) _).trans (hb6.mono (by simp; omega)) |>.mono B5.out.size))
   have C0 := Lib.hid (below_blk hb6 (blk_alloc (blk_alloc A0.out _) _))
   have C1 := Lib.hid (below_blk hb6 (blk_alloc (blk_alloc A1.out _) _))
   have C2 := Lib.hid (below_blk hb6 (blk_alloc (blk_alloc A2.out _) _))
   have C3 := Lib.hid (below_blk hb6 (blk_alloc (blk_alloc A3.out _) _))
   clear hb6 k0 k1 k2 k3 v0 v1 v2 v3 A0 A1 A2 A3 l0 l1
   have k0 := cell_of_blk (i := 0) C0.out rfl
   have k1 := cell_of_blk (i := 1) C0.out rfl
   have k2 := cell_of_blk (i := 2) C0.out rfl
   have k3 := cell_of_blk (i := 3) C0.out rfl
   have v0 := cell_of_blk (i := 0) C1.out rfl
   have v1 := cell_of_blk (i := 1) C1.out rfl
   have v2 := cell_of_blk (i := 2) C1.out rfl
   have v3 := cell_of_blk (i := 3) C1.out rfl
   have z0 := free_of_blk (i := 0) C1.out
   have z1 := free_of_blk (i := 1) C1.out
   have z2 := free_of_blk (i := 2) C1.out
   have z3 := free_of_blk (i := 3) C1.out
   have l0 := blk_lt C0.out
   have l1 := blk_lt C1.out
   have hb7 : Below w.heap.size w ((((w6.setCell ⟨w.heap.size + 1, 0, none⟩ (.int .i64 R.kind)).setCell ⟨w.heap.size + 1, 1, none⟩ (.int .i64 R.n)).setCell ⟨w.heap.size + 1, 2, none⟩ (.string R.s)).setCell ⟨w.heap.size + 1, 3, none⟩ (.int .u64 (R.label : Int))) := (((B6.out.setCell (by simp) _).setCell (by simp) _).setCell (by simp) _).setCell (by simp) _
   have F7 := Lib.hid (HF.out _ hb7)
   have B7 := Lib.hid hb7
   clear hb7
   go_wp2_with fail
   refine F7.out.mono ?_
   rintro e w7 ⟨rfl, hb8⟩
   have B8 := Lib.hid (B7.out.trans (hb8.mono B7.out.size))
   have ne0 : w.heap.size ≠ w.heap.size + 1 := by omega
   have ne2 : w1.heap.size ≠ w.heap.size + 1 := by omega
   have G0 := Lib.hid (below_blk hb8 (blk_far (blk_far (blk_far (blk_far C0.out ne0 _) ne0 _) ne0 _) ne0 _))
   have G1 := Lib.hid (show w7.heap[w.heap.size + 1]? = some (.cells #[.int .i64 R.kind, .int .i64 R.n, .string R.s, .int .u64 (R.label : Int)] 26 (0, 0)) from below_blk hb8 (blk_set (i := 3) (blk_set (i := 2) (blk_set (i := 1) (blk_set (i := 0) C1.out _) _) _) _))
   have G2 := Lib.hid (below_blk hb8 (blk_far (blk_far (blk_far (blk_far C2.out ne2 _) ne2 _) ne2 _) ne2 _))
   have G3 := Lib.hid (below_blk B8.out H1.out)
   clear hb8 k0 k1 k2 k3 v0 v1 v2 v3 z0 z1 z2 z3 l0 l1 C0 C1 C2 C3 F7 B7 B6 B5 ne0 ne2
   obtain rfl : pi = -1 := hpi.symm.trans hpi'
   have t0 := cell_of_blk (i := 0) G3.out rfl
   have l3 := blk_lt G3.out
   go_wp2_with fail
   have F9 := HFl.out w7
   rw [hcj] at F9
   refine F9.mono ?_
   rintro e w9 ⟨rfl, rfl⟩
   have t1 := cell_of_blk (i := 1) G3.out rfl
   have t2 := cell_of_blk (i := 2) G3.out rfl
   have n0 := cell_of_blk (i := 0) G2.out rfl
   have n1 := cell_of_blk (i := 1) G2.out rfl
   have n2 := cell_of_blk (i := 2) G2.out rfl
   have l2 := blk_lt G2.out
   have hm7 := (Fr.of_below B8.out []).map H4.out (by simp)
   go_wp2_with fail
   go_still_tail 10, (by kernel_rfl)
   change wpList _ _ _ _ _ w7.drew
   go_wp2_with (at_mapUpdate; refine wpList_mapUpdate_own _ rfl _ _ _ 114 rfl 139 3 lawK Tryz.underlying114 _ mb n D rfl hm7 (by unfold maxLen; omega) _ _ _ rfl rfl (key_of k.n k.s false kk.n kk.s) _ [] (plainElem_int Tryz.underlying3 (WalkArith.wf_i64 (by omega))) ?_; intro w10 hm10 hg10; have K0 := Lib.hid (blk_grown (blk_drew G0.out) hg10 (fun e => map_ne hm7 G0.out (Option.some.inj e))); have k0 := cell_of_blk (i := 0) K0.out rfl; have k1 := cell_of_blk (i := 1) K0.out rfl; have k2 := cell_of_blk (i := 2) K0.out rfl; have k3 := cell_of_blk (i := 3) K0.out rfl; have z3 := free_of_blk (i := 3) K0.out; have lk := blk_lt K0.out)
   refine gen_wp fun W hW => ?_
   have hkw : w.heap.size ≠ tb := by omega
   have lk7 := blk_lt G0.out
   have FrW := Lib.hid (show Fr [mb] w W by rw [← hW]; exact (((Fr.of_below B8.out _).drew).grown hg10 (fun g hg => .inl (by rw [← Option.some.inj hg]; simp))).set _ (.inr (Nat.le_refl _)))
   have E0 := Lib.hid (show W.heap[w.heap.size]? = some (.cells #[.int .i64 k.kind, .int .i64 k.n, .string k.s, .int .u64 0] 26 (0, 0)) by rw [← hW]; exact blk_set (i := 3) K0.out _)
   have E1 := Lib.hid (show W.heap[w.heap.size + 1]? = some (.cells #[.int .i64 R.kind, .int .i64 R.n, .string R.s, .int .u64 (R.label : Int)] 26 (0, 0)) by rw [← hW]; exact blk_far (blk_grown (blk_drew G1.out) hg10 (fun e => map_ne hm7 G1.out (Option.some.inj e))) (by simp) _)
   have E3 := Lib.hid (FrW.out.blk H1.out (by simpa using (map_ne H4.out H1.out).symm))
   have HM := Lib.hid (show W.ownsMap Tryz.prog 139 (plainElem Tryz.prog 3) mb (n + 1) (D.put (keyLV k) (.lit (.int .i64 T.F.length))) by rw [← hW]; unfold keyLV; rw [hb3']; exact hm10.setCell (map_ne hm10 K0.out) _)
   have HO := Lib.hid (FrW.out.own H2.out (fun g hg hm => own_map_ne H2.out H4.out (by rw [hg, List.mem_singleton.1 hm])))
   have lW : w.heap.size + 1 < W.heap.size := blk_lt E1.out
   have hbW : B ≤ W.heap.size := Nat.le_trans (HBase.out tb (by rw [HP.out]; simp)).1 (by omega)
   clear hW hm10 hg10 hm7 k0 k1 k2 k3 z3 lk K0 G0 G1 G2 G3 n0 n1 n2 l2 t0 t1 t2 l3 lk7
   obtain ⟨i0, hi, hz0, hz1, hz2⟩ := info_parts infoFd
   have t1 := cell_of_blk (i := 1) E3.out rfl
   have l3 := blk_lt E3.out
   have l0 := blk_lt E0.out
   refine wp_region_noPanic ?_
   refine wp_region_held_drew (S := fun w' => w'.heap[w.heap.size]? = some (.cells #[.int .i64 k.kind, .int .i64 k.n, .string k.s, .int .u64 0] 26 (0, 0)) ∧ w'.heap[w.heap.size + 1]? = some (.cells #[.int .i64 R.kind, .int .i64 R.n, .string R.s, .int .u64 (R.label : Int)] 26 (0, 0))) (by kernel_rfl) (⟨E0.out, E1.out⟩) (fun hHeld => ?_)
   refine tk 0 84 (.pointer (some ⟨tb, 0, none⟩)) hHeld ?_; simp only [Act.put, zq1, zq2, zq3]
   refine tk 1 85 (.pointer (some ⟨tb, 0, none⟩)) hHeld ?_; simp only [Act.put, zq1, zq2, zq3]
   refine tk 2 86 (.pointer (some ⟨tb, 0, none⟩)) hHeld ?_; simp only [Act.put, zq1, zq2, zq3]
   refine tk 3 87 (.pointer (some ⟨tb, 1, none⟩)) hHeld ?_; simp only [Act.put, zq1, zq2, zq3]
   refine tk 5 89 (.agg #[.int .i64 k.kind, .int .i64 k.n, .string k.s, .int .u64 0]) hHeld ?_ (hy := Or.inl ⟨by rfl, fun w' hS => (by obtain ⟨s0, s1⟩ := hS; have q0 := cell_of_blk (i := 0) s0 rfl; have q1 := cell_of_blk (i := 1) s0 rfl; have q2 := cell_of_blk (i := 2) s0 rfl; have q3 := cell_of_blk (i := 3) s0 rfl; go_simp)⟩); simp only [Act.put, zq1, zq2, zq3]
   refine tk 6 90 (.agg #[.int .i64 R.kind, .int .i64 R.n, .string R.s, .int .u64 (R.label : Int)]) hHeld ?_ (hy := Or.inl ⟨by rfl, fun w' hS => (by obtain ⟨s0, s1⟩ := hS; have q0 := cell_of_blk (i := 0) s1 rfl; have q1 := cell_of_blk (i := 1) s1 rfl; have q2 := cell_of_blk (i := 2) s1 rfl; have q3 := cell_of_blk (i := 3) s1 rfl; go_simp)⟩); simp only [Act.put, zq1, zq2, zq3]
   refine tk 7 91 (.agg #[.int .i64 k.kind, .int .i64 k.n, .string k.s, .int .u64 0, .int .i64 R.kind, .int .i64 R.n, .string R.s, .int .u64 (R.label : Int)]) hHeld ?_; simp only [Act.put, zq1, zq2, zq3]
   refine wpAnyH_ready (rs := [4, 8]) (by kernel_rfl) (by simp) ?_
   refine AllReadyH.cons (o := _) rfl (fun K hK => ?gafalse) (AllReadyH.cons (o := _) rfl (fun K hK => ?gbfalse) AllReadyH.nil)
   case' gafalse =>
    go_simp
    refine hK.out _ _ (⟨blk_drew E0.out, blk_drew E1.out⟩) (fun hHeld => ?_)
    clear hK K
    try simp only [Act.put, zq1, zq2, zq3]
    refine rd 8 fun K hK => ?_
    go_simp
    refine hK.out _ _ (⟨blk_drew (blk_drew (blk_alloc E0.out _)), blk_drew (blk_drew (blk_alloc E1.out _))⟩) (fun hHeld => ?_)
    clear hK K
    try simp only [Act.put, zq1, zq2, zq3]
   case' gbfalse =>
    go_simp
    refine hK.out _ _ (⟨blk_drew (blk_alloc E0.out _), blk_drew (blk_alloc E1.out _)⟩) (fun hHeld => ?_)
    clear hK K
    try simp only [Act.put, zq1, zq2, zq3]
    refine rd 4 fun K hK => ?_
    go_simp
    refine hK.out _ _ (⟨blk_drew (blk_drew (blk_alloc E0.out _)), blk_drew (blk_drew (blk_alloc E1.out _))⟩) (fun hHeld => ?_)
    clear hK K
    try simp only [Act.put, zq1, zq2, zq3]
   all_goals
    refine rd 9 fun K hK => ?_
    refine step_append_lies _ (by rfl) _ _ _ (by rfl) B 92 i0 _ 8 80 Tryz.underlying72 hi hz0 hz1 hz2 rfl (by omega) (.slice Af T.F.length cf) T.F.length (T.F.flatMap fdEnc) (by rfl) (by exact HO.out.alloc _) ⟨W.heap.size, 0, none⟩ 1 1 (fdEnc (bareV k, R)) (by rfl) (by rfl) (by exact news_drew _ #[.int .i64 k.kind, .int .i64 k.n, .string k.s, .int .u64 0, .int .i64 R.kind, .int .i64 R.n, .string R.s, .int .u64 (R.label : Int)] _ _ (by simp)) (by simp [fdEnc, vvCells, bareV, Value.oneCell']) (by omega) (by unfold maxLen; omega) (by omega) (by simp; omega) (W.heap.size + 1) (by simp) ?_
    intro gb cap w12 hown12 hg12 hat12 hl12
    have X0 := blk_grown (blk_drew (blk_alloc E0.out _)) hg12 (Ne.symm (own_blk_ne HO.out E0.out (by decide)))
    have X1 := blk_grown (blk_drew (blk_alloc E1.out _)) hg12 (Ne.symm (own_blk_ne HO.out E1.out (by decide)))
    have X3 := blk_grown (blk_drew (blk_alloc E3.out _)) hg12 (Ne.symm (own_blk_ne HO.out E3.out (by decide)))
    refine hK.out _ _ ⟨X0, X1⟩ (fun hHeld => ?_)
    clear hK K
    try simp only [Act.put, zq1, zq2, zq3]
   all_goals
    refine tk 10 94 (.pointer (some ⟨tb, 0, none⟩)) hHeld ?_; simp only [Act.put, zq1, zq2, zq3]
    refine tk 11 95 (.pointer (some ⟨tb, 1, none⟩)) hHeld ?_; simp only [Act.put, zq1, zq2, zq3]
    have q1 := cell_of_blk (i := 1) X3 rfl
    have z1 := free_of_blk (i := 1) X3
    have l12 := blk_lt X3
    refine rd 12 fun K hK => ?_
    go_simp
    refine hK.out _ _ ⟨blk_far X0 (by simpa using hkw) _, blk_far X1 (by simp; omega) _⟩ (fun hHeld => ?_)
    clear hK K
    try simp only [Act.put, zq1, zq2, zq3]
    refine wpAnyH_done (by kernel_rfl) ?_ _
    refine NoPanic.normal ?_
    go_wp2_with fail
    go_ret
    have hF12 : Fr (mb :: (Value.slice Af T.F.length cf).ownBlock.toList) w w12 := (((FrW.out.more (by simp)).alloc _).drew).grown hg12 (fun g hg => .inl (by simp [hg]))
    have hm12 := map_grown (w := (W.alloc (.cells #[.int .i64 k.kind, .int .i64 k.n, .string k.s, .int .u64 0, .int .i64 R.kind, .int .i64 R.n, .string R.s, .int .u64 (R.label : Int)] 92)).drew) (HM.out.alloc _) hg12 (own_map_ne HO.out HM.out)
    exact ⟨rfl, tab_app HP.out H1.out H2.out H3.out H4.out H5.out hne hnl hml HI.out HN.out HBase.out hF12 hm12 hown12 rfl (by rcases hat12 with h | h; exact .inl h; exact .inr (by omega)) trivial (no_key HOK.out kk hik hpi')⟩
  ·obtain ⟨ads, rfl, hadsb, hcells⟩ := HRS.out.at (flatMap_ne (K := 2) (fun a => rfl) (by omega) hi')
   have hil' : (i' : Int) < (T.S.length : Int) := by have := (List.getElem?_eq_some_iff.1 hi').1; omega
   have hi0' : (0 : Int) ≤ i' := by omega
   have hadsb' : (ads.add (i' * 2)).block < w.heap.size := by rw [block_add']; exact hadsb
   have s1 := (HB1.out.cell (p := ⟨(ads.add (i' * 2)).block, _, none⟩) hadsb').trans (st_at hcells hi').c1
   have ls1 : (ads.add (i' * 2)).block < w1.heap.size := Nat.lt_of_lt_of_le hadsb' HB1.out.size
   have hfit := fun W => fits_any s'.2 v.kind W
   rw [show fitsB s'.2 v.kind = true from by rw [← hal]; simpa [hb3'] using hst] at hfit
   have HFit := Lib.hid hfit
   clear hfit hcells hi' hnm hal
   have t2 := cell_of_blk (i := 2) U3.out rfl
   have t4 := cell_of_blk (i := 4) U3.out rfl
   have t3 := cell_of_blk (i := 3) U3.out rfl
   have k2 := cell_of_blk (i := 2) U0.out rfl
   have v0 := cell_of_blk (i := 0) U1.out rfl
   have l3 := blk_lt U3.out
   have l1 := blk_lt U1.out
   have l0 := blk_lt U0.out
   have hlook : ∀ q, (Instr.lookup 115 (.map (some nb)) (.string k.s) true).run Tryz.prog ((w1.alloc (.cells #[.int .i64 k.n, .string k.s, .bool true] 139)).drewN q) = .ok _ _ := fun q => HL.out _ (blk_same HB1.out hnlt _)
   go_wp2_with fail
   go_quiet (fail)
   go_wp2_with fail
   go_quiet ((go_at_call 88; first | exact quiet_ret (HFit.out _) | exact quiet_ret_add (HFit.out _)))
   refine gen_then fun W5 hW5 => ?_
   have B5 := Lib.hid (show Below w.heap.size w W5 by rw [← hW5]; exact below_drewN (below_drewN (HB1.out.alloc HB1.out.size _) _) _)
   have A0 := Lib.hid (show W5.heap[w.heap.size]? = some (.cells #[.int .i64 k.kind, .int .i64 k.n, .string k.s, .int .u64 (k.label : Int)] 26 (0, 0)) by rw [← hW5]; exact blk_alloc U0.out _)
   have A1 := Lib.hid (show W5.heap[w.heap.size + 1]? = some (.cells #[.int .i64 v.kind, .int .i64 v.n, .string v.s, .int .u64 (v.label : Int)] 26 (0, 0)) by rw [← hW5]; exact blk_alloc U1.out _)
   have A2 := Lib.hid (show W5.heap[w1.heap.size]? = some (.cells #[.int .i64 k.n, .string k.s, .bool true] 139 (0, 0)) by rw [← hW5]; exact heap_alloc_new _ _)
   have A3 := Lib.hid (below_blk B5.out H1.out)
   have hw1 : w.heap.size + 1 < w1.heap.size := blk_lt U1.out
   clear hW5 hlook t2 t3 t4 k2 v0 l3 l1 l0 U0 U1 U3 HB1
   have k0 := cell_of_blk (i := 0) A0.out rfl
   have k1 := cell_of_blk (i := 1) A0.out rfl
   have k2 := cell_of_blk (i := 2) A0.out rfl
   have k3 := cell_of_blk (i := 3) A0.out rfl
   have v0 := cell_of_blk (i := 0) A1.out rfl
   have v1 := cell_of_blk (i := 1) A1.out rfl
   have v2 := cell_of_blk (i := 2) A1.out rfl
   have v3 := cell_of_blk (i := 3) A1.out rfl
   have l0 := blk_lt A0.out
   have l1 := blk_lt A1.out
   go_wp2_with fail
   refine (HJ.out _ _ _ _ (heap_alloc_new _ _)).mono ?_
   rintro e w6 ⟨rfl, rfl⟩
   go_wp2_with fail
   refine (HW.out _ _ _ _ (heap_new_at _ _ _ (by simp))).mono ?_
   rintro e w6 ⟨rfl, hb6⟩
   have B6 := Lib.hid (B5.out.trans ((((Below.refl _ _).alloc (Nat.le_refl _) _).alloc (by simp) _).trans (hb6.mono (by simp; omega)) |>.mono B5.out.size))
   have C0 := Lib.hid (below_blk hb6 (blk_alloc (blk_alloc A0.out _) _))
   have C1 := Lib.hid (below_blk hb6 (blk_alloc (blk_alloc A1.out _) _))
   have C2 := Lib.hid (below_blk hb6 (blk_alloc (blk_alloc A2.out _) _))
   have C3 := Lib.hid (below_blk hb6 (blk_alloc (blk_alloc A3.out _) _))
   clear hb6 k0 k1 k2 k3 v0 v1 v2 v3 A0 A1 A2 A3 l0 l1
   have k0 := cell_of_blk (i := 0) C0.out rfl
   have k1 := cell_of_blk (i := 1) C0.out rfl
   have k2 := cell_of_blk (i := 2) C0.out rfl
   have k3 := cell_of_blk (i := 3) C0.out rfl
   have v0 := cell_of_blk (i := 0) C1.out rfl
   have v1 := cell_of_blk (i := 1) C1.out rfl
   have v2 := cell_of_blk (i := 2) C1.out rfl
   have v3 := cell_of_blk (i := 3) C1.out rfl
   have z0 := free_of_blk (i := 0) C1.out
   have z1 := free_of_blk (i := 1) C1.out
   have z2 := free_of_blk (i := 2) C1.out
   have z3 := free_of_blk (i := 3) C1.out
   have l0 := blk_lt C0.out
   have l1 := blk_lt C1.out
   have hb7 : Below w.heap.size w ((((w6.setCell ⟨w.heap.size + 1, 0, none⟩ (.int .i64 R.kind)).setCell ⟨w.heap.size + 1, 1, none⟩ (.int .i64 R.n)).setCell ⟨w.heap.size + 1, 2, none⟩ (.string R.s)).setCell ⟨w.heap.size + 1, 3, none⟩ (.int .u64 (R.label : Int))) := (((B6.out.setCell (by simp) _).setCell (by simp) _).setCell (by simp) _).setCell (by simp) _
   have F7 := Lib.hid (HF.out _ hb7)
   have B7 := Lib.hid hb7
   clear hb7
   go_wp2_with fail
   refine F7.out.mono ?_
   rintro e w7 ⟨rfl, hb8⟩
   have B8 := Lib.hid (B7.out.trans (hb8.mono B7.out.size))
   have ne0 : w.heap.size ≠ w.heap.size + 1 := by omega
   have ne2 : w1.heap.size ≠ w.heap.size + 1 := by omega
   have G0 := Lib.hid (below_blk hb8 (blk_far (blk_far (blk_far (blk_far C0.out ne0 _) ne0 _) ne0 _) ne0 _))
   have G1 := Lib.hid (show w7.heap[w.heap.size + 1]? = some (.cells #[.int .i64 R.kind, .int .i64 R.n, .string R.s, .int .u64 (R.label : Int)] 26 (0, 0)) from below_blk hb8 (blk_set (i := 3) (blk_set (i := 2) (blk_set (i := 1) (blk_set (i := 0) C1.out _) _) _) _))
   have G2 := Lib.hid (below_blk hb8 (blk_far (blk_far (blk_far (blk_far C2.out ne2 _) ne2 _) ne2 _) ne2 _))
   have G3 := Lib.hid (below_blk B8.out H1.out)
   clear hb8 k0 k1 k2 k3 v0 v1 v2 v3 z0 z1 z2 z3 l0 l1 C0 C1 C2 C3 F7 B7 B6 B5 ne0 ne2
   obtain rfl : pi = -1 := hpi.symm.trans hpi'
   have t0 := cell_of_blk (i := 0) G3.out rfl
   have l3 := blk_lt G3.out
   go_wp2_with fail
   have F9 := HFl.out w7
   rw [hcj] at F9
   refine F9.mono ?_
   rintro e w9 ⟨rfl, rfl⟩
   have t1 := cell_of_blk (i := 1) G3.out rfl
   have t2 := cell_of_blk (i := 2) G3.out rfl
   have n0 := cell_of_blk (i := 0) G2.out rfl
   have n1 := cell_of_blk (i := 1) G2.out rfl
   have n2 := cell_of_blk (i := 2) G2.out rfl
   have l2 := blk_lt G2.out
   have hm7 := (Fr.of_below B8.out []).map H4.out (by simp)
   go_wp2_with fail
   go_still_tail 10, (by kernel_rfl)
   change wpList _ _ _ _ _ w7.drew
   go_wp2_with (at_mapUpdate; refine wpList_mapUpdate_own _ rfl _ _ _ 114 rfl 139 3 lawK Tryz.underlying114 _ mb n D rfl hm7 (by unfold maxLen; omega) _ _ _ rfl rfl (key_of k.n k.s true kk.n kk.s) _ [] (plainElem_int Tryz.underlying3 (WalkArith.wf_i64 (by omega))) ?_; intro w10 hm10 hg10; have K0 := Lib.hid (blk_grown (blk_drew G0.out) hg10 (fun e => map_ne hm7 G0.out (Option.some.inj e))); have k0 := cell_of_blk (i := 0) K0.out rfl; have k1 := cell_of_blk (i := 1) K0.out rfl; have k2 := cell_of_blk (i := 2) K0.out rfl; have k3 := cell_of_blk (i := 3) K0.out rfl; have z3 := free_of_blk (i := 3) K0.out; have lk := blk_lt K0.out)
   refine gen_wp fun W hW => ?_
   have hkw : w.heap.size ≠ tb := by omega
   have lk7 := blk_lt G0.out
   have FrW := Lib.hid (show Fr [mb] w W by rw [← hW]; exact (((Fr.of_below B8.out _).drew).grown hg10 (fun g hg => .inl (by rw [← Option.some.inj hg]; simp))).set _ (.inr (Nat.le_refl _)))
   have E0 := Lib.hid (show W.heap[w.heap.size]? = some (.cells #[.int .i64 k.kind, .int .i64 k.n, .string k.s, .int .u64 0] 26 (0, 0)) by rw [← hW]; exact blk_set (i := 3) K0.out _)
   have E1 := Lib.hid (show W.heap[w.heap.size + 1]? = some (.cells #[.int .i64 R.kind, .int .i64 R.n, .string R.s, .int .u64 (R.label : Int)] 26 (0, 0)) by rw [← hW]; exact blk_far (blk_grown (blk_drew G1.out) hg10 (fun e => map_ne hm7 G1.out (Option.some.inj e))) (by simp) _)
   have E3 := Lib.hid (FrW.out.blk H1.out (by simpa using (map_ne H4.out H1.out).symm))
   have HM := Lib.hid (show W.ownsMap Tryz.prog 139 (plainElem Tryz.prog 3) mb (n + 1) (D.put (keyLV k) (.lit (.int .i64 T.F.length))) by rw [← hW]; unfold keyLV; rw [hb3']; exact hm10.setCell (map_ne hm10 K0.out) _)
   have HO := Lib.hid (FrW.out.own H2.out (fun g hg hm => own_map_ne H2.out H4.out (by rw [hg, List.mem_singleton.1 hm])))
   have lW : w.heap.size + 1 < W.heap.size := blk_lt E1.out
   have hbW : B ≤ W.heap.size := Nat.le_trans (HBase.out tb (by rw [HP.out]; simp)).1 (by omega)
   clear hW hm10 hg10 hm7 k0 k1 k2 k3 z3 lk K0 G0 G1 G2 G3 n0 n1 n2 l2 t0 t1 t2 l3 lk7
   obtain ⟨i0, hi, hz0, hz1, hz2⟩ := info_parts infoFd
   have t1 := cell_of_blk (i := 1) E3.out rfl
   have l3 := blk_lt E3.out
   have l0 := blk_lt E0.out
   refine wp_region_noPanic ?_
   refine wp_region_held_drew (S := fun w' => w'.heap[w.heap.size]? = some (.cells #[.int .i64 k.kind, .int .i64 k.n, .string k.s, .int .u64 0] 26 (0, 0)) ∧ w'.heap[w.heap.size + 1]? = some (.cells #[.int .i64 R.kind, .int .i64 R.n, .string R.s, .int .u64 (R.label : Int)] 26 (0, 0))) (by kernel_rfl) (⟨E0.out, E1.out⟩) (fun hHeld => ?_)
   refine tk 0 84 (.pointer (some ⟨tb, 0, none⟩)) hHeld ?_; simp only [Act.put, zq1, zq2, zq3]
   refine tk 1 85 (.pointer (some ⟨tb, 0, none⟩)) hHeld ?_; simp only [Act.put, zq1, zq2, zq3]
   refine tk 2 86 (.pointer (some ⟨tb, 0, none⟩)) hHeld ?_; simp only [Act.put, zq1, zq2, zq3]
   refine tk 3 87 (.pointer (some ⟨tb, 1, none⟩)) hHeld ?_; simp only [Act.put, zq1, zq2, zq3]
   refine tk 5 89 (.agg #[.int .i64 k.kind, .int .i64 k.n, .string k.s, .int .u64 0]) hHeld ?_ (hy := Or.inl ⟨by rfl, fun w' hS => (by obtain ⟨s0, s1⟩ := hS; have q0 := cell_of_blk (i := 0) s0 rfl; have q1 := cell_of_blk (i := 1) s0 rfl; have q2 := cell_of_blk (i := 2) s0 rfl; have q3 := cell_of_blk (i := 3) s0 rfl; go_simp)⟩); simp only [Act.put, zq1, zq2, zq3]
   refine tk 6 90 (.agg #[.int .i64 R.kind, .int .i64 R.n, .string R.s, .int .u64 (R.label : Int)]) hHeld ?_ (hy := Or.inl ⟨by rfl, fun w' hS => (by obtain ⟨s0, s1⟩ := hS; have q0 := cell_of_blk (i := 0) s1 rfl; have q1 := cell_of_blk (i := 1) s1 rfl; have q2 := cell_of_blk (i := 2) s1 rfl; have q3 := cell_of_blk (i := 3) s1 rfl; go_simp)⟩); simp only [Act.put, zq1, zq2, zq3]
   refine tk 7 91 (.agg #[.int .i64 k.kind, .int .i64 k.n, .string k.s, .int .u64 0, .int .i64 R.kind, .int .i64 R.n, .string R.s, .int .u64 (R.label : Int)]) hHeld ?_; simp only [Act.put, zq1, zq2, zq3]
   refine wpAnyH_ready (rs := [4, 8]) (by kernel_rfl) (by simp) ?_
   refine AllReadyH.cons (o := _) rfl (fun K hK => ?gatrue) (AllReadyH.cons (o := _) rfl (fun K hK => ?gbtrue) AllReadyH.nil)
   case' gatrue =>
    go_simp
    refine hK.out _ _ (⟨blk_drew E0.out, blk_drew E1.out⟩) (fun hHeld => ?_)
    clear hK K
    try simp only [Act.put, zq1, zq2, zq3]
    refine rd 8 fun K hK => ?_
    go_simp
    refine hK.out _ _ (⟨blk_drew (blk_drew (blk_alloc E0.out _)), blk_drew (blk_drew (blk_alloc E1.out _))⟩) (fun hHeld => ?_)
    clear hK K
    try simp only [Act.put, zq1, zq2, zq3]
   case' gbtrue =>
    go_simp
    refine hK.out _ _ (⟨blk_drew (blk_alloc E0.out _), blk_drew (blk_alloc E1.out _)⟩) (fun hHeld => ?_)
    clear hK K
    try simp only [Act.put, zq1, zq2, zq3]
    refine rd 4 fun K hK => ?_
    go_simp
    refine hK.out _ _ (⟨blk_drew (blk_drew (blk_alloc E0.out _)), blk_drew (blk_drew (blk_alloc E1.out _))⟩) (fun hHeld => ?_)
    clear hK K
    try simp only [Act.put, zq1, zq2, zq3]
   all_goals
    refine rd 9 fun K hK => ?_
    refine step_append_lies _ (by rfl) _ _ _ (by rfl) B 92 i0 _ 8 80 Tryz.underlying72 hi hz0 hz1 hz2 rfl (by omega) (.slice Af T.F.length cf) T.F.length (T.F.flatMap fdEnc) (by rfl) (by exact HO.out.alloc _) ⟨W.heap.size, 0, none⟩ 1 1 (fdEnc (bareV k, R)) (by rfl) (by rfl) (by exact news_drew _ #[.int .i64 k.kind, .int .i64 k.n, .string k.s, .int .u64 0, .int .i64 R.kind, .int .i64 R.n, .string R.s, .int .u64 (R.label : Int)] _ _ (by simp)) (by simp [fdEnc, vvCells, bareV, Value.oneCell']) (by omega) (by unfold maxLen; omega) (by omega) (by simp; omega) (W.heap.size + 1) (by simp) ?_
    intro gb cap w12 hown12 hg12 hat12 hl12
    have X0 := blk_grown (blk_drew (blk_alloc E0.out _)) hg12 (Ne.symm (own_blk_ne HO.out E0.out (by decide)))
    have X1 := blk_grown (blk_drew (blk_alloc E1.out _)) hg12 (Ne.symm (own_blk_ne HO.out E1.out (by decide)))
    have X3 := blk_grown (blk_drew (blk_alloc E3.out _)) hg12 (Ne.symm (own_blk_ne HO.out E3.out (by decide)))
    refine hK.out _ _ ⟨X0, X1⟩ (fun hHeld => ?_)
    clear hK K
    try simp only [Act.put, zq1, zq2, zq3]
   all_goals
    refine tk 10 94 (.pointer (some ⟨tb, 0, none⟩)) hHeld ?_; simp only [Act.put, zq1, zq2, zq3]
    refine tk 11 95 (.pointer (some ⟨tb, 1, none⟩)) hHeld ?_; simp only [Act.put, zq1, zq2, zq3]
    have q1 := cell_of_blk (i := 1) X3 rfl
    have z1 := free_of_blk (i := 1) X3
    have l12 := blk_lt X3
    refine rd 12 fun K hK => ?_
    go_simp
    refine hK.out _ _ ⟨blk_far X0 (by simpa using hkw) _, blk_far X1 (by simp; omega) _⟩ (fun hHeld => ?_)
    clear hK K
    try simp only [Act.put, zq1, zq2, zq3]
    refine wpAnyH_done (by kernel_rfl) ?_ _
    refine NoPanic.normal ?_
    go_wp2_with fail
    go_ret
    have hF12 : Fr (mb :: (Value.slice Af T.F.length cf).ownBlock.toList) w w12 := (((FrW.out.more (by simp)).alloc _).drew).grown hg12 (fun g hg => .inl (by simp [hg]))
    have hm12 := map_grown (w := (W.alloc (.cells #[.int .i64 k.kind, .int .i64 k.n, .string k.s, .int .u64 0, .int .i64 R.kind, .int .i64 R.n, .string R.s, .int .u64 (R.label : Int)] 92)).drew) (HM.out.alloc _) hg12 (own_map_ne HO.out HM.out)
    exact ⟨rfl, tab_app HP.out H1.out H2.out H3.out H4.out H5.out hne hnl hml HI.out HN.out HBase.out hF12 hm12 hown12 rfl (by rcases hat12 with h | h; exact .inl h; exact .inr (by omega)) trivial (no_key HOK.out kk hik hpi')⟩
end Go.Proofs.YtilcofpceadpbaaGreatDoor
