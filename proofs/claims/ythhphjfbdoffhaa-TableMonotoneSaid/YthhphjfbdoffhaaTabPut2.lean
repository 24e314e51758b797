/-
  Chapter 04: Put.
-/
import Derived.Test.YthhphjfbdoffhaaTabPut
import Derived.StillTailTactics
import Derived.Deep.RegionHeld3
set_option linter.unusedVariables false
set_option linter.unusedSimpArgs false
namespace Go.Proofs.Ythhphjfbdoffhaa
open Go.ChangeShapes Go.WideShapes Go.ChangeAt Go.RowKit Go.Maps

set_option maxRecDepth 100000 in
set_option maxHeartbeats 8000000 in
theorem put_no {w : World} {B tb : Nat} {T : TabS} {fp : List Nat} (h : TabIn w B tb T fp) (ok : TabOk T) {ctx : Nat} {k v : VV} (hc : ctx < 18446744073709551616) (kk : VOk k) (kv : VOk v) (hik : isKey k = true) {i : Nat} {f : Fd} (hfi : T.F[i]? = some f) (hpi' : findI T.F k = (i : Int)) (hfl : flowsB (ctx ||| k.label) f.2.label = false) (hst : (decide (k.kind = 3) && !allowsB T.S k.s v.kind) = false) :
    Calls Try.prog 34 #[.pointer (some ⟨tb, 0, none⟩), .int .u64 (ctx : Int), .agg (vvCells k), .agg (vvCells v)] w fun e w' => e = .returned (.int .i64 40) ∧ TabTo w B tb T fp w' := by
  obtain ⟨⟨fv, sv, mb, nb, n, m, D, E, hfp, h1, h2, h3, h4, h5, hne, hnl, hml, hI, hN⟩, hbase⟩ := h
  have h0 : TabIn w B tb T fp := ⟨⟨fv, sv, mb, nb, n, m, D, E, hfp, h1, h2, h3, h4, h5, hne, hnl, hml, hI, hN⟩, hbase⟩
  obtain ⟨ad, cf, ct1, hab, hfd, hfz, hto⟩ := tab_elem h0 hfi
  obtain rfl : fv = .slice (some ad) T.F.length cf := by have := (cell_of_blk (i := 1) h1 rfl).symm.trans ct1; simpa using this
  have hil : (i : Int) < (T.F.length : Int) := by have := (List.getElem?_eq_some_iff.1 hfi).1; omega
  have hi0 : (0 : Int) ≤ i := by omega
  have hab' : (ad.add (i * 8)).block < w.heap.size := by rw [block_add']; exact hab
  have hfw := fun W => flows_any (ctx ||| k.label) f.2.label W (Nat.or_lt_two_pow (n := 64) hc kk.label) (ok.vOk f (List.mem_of_getElem? hfi)).label
  rw [hfl] at hfw
  have HFl := Lib.hid hfw
  have HFd := Lib.hid hfd
  have HTo := Lib.hid hto
  have HFz := Lib.hid hfz
  clear hfw hfd hto ct1 hfz
  obtain ⟨AS, cs, rfl, hcs1, hcs2, hAS, hRS⟩ := own_reads h3
  obtain ⟨cn, β, hlk, hβ⟩ := look_name h5 hN ok.dS k.s kk.s
  have hnlt := h5.lt
  have hkeys := fun W => keyof_any k W
  rw [hik, if_pos rfl] at hkeys
  unfold keyV at hkeys
  have hb3 : decide (k.kind = 3) = decide (k.kind = 3) := rfl
  generalize hb3' : decide (k.kind = 3) = b3 at hkeys hb3
  have HK := Lib.hid hkeys
  have HL := Lib.hid hlk
  have H0 := Lib.hid h0
  have H1 := Lib.hid h1
  have H2 := Lib.hid h2
  have H3 := Lib.hid h3
  have H4 := Lib.hid h4
  have HN := Lib.hid hN
  have H5 := Lib.hid h5
  have HRS := Lib.hid hRS
  have HI := Lib.hid hI
  have HOK := Lib.hid ok
  have hjl : ctx ||| k.label < 18446744073709551616 := Nat.or_lt_two_pow (n := 64) hc kk.label
  have hw := fun n c t W h => with1_any v (ctx ||| k.label) n c t W kv.label hjl h
  have hj := fun n c t W h => join2_any ctx k.label n c t W hc kk.label h
  have hf := (fun (W : World) (hW : Below w.heap.size w W) => find_is (h0.kept (Fr.of_below hW []) (by simp)) ok kk)
  generalize hpi : findI T.F k = pi at hf
  have HF := Lib.hid hf
  have HB0 := Lib.hid ((((Below.refl w.heap.size w).alloc (Nat.le_refl _) (.cells (vvCells k) 25)).alloc (by simp) (.cells (vvCells v) 25)))
  generalize hR : withV v (ctx ||| k.label) = R at hw ⊢
  generalize hcj : ctx ||| k.label = cj at hj hw hjl
  have HW := Lib.hid hw
  have HJ := Lib.hid hj
  have HP := Lib.hid hfp
  have HBase := Lib.hid hbase
  have htlt := blk_lt h1
  clear hkeys hlk h0 h1 h2 h3 h4 h5 hRS hI hN ok hw hj hfp hbase hb3 hf
  have heqm := fun W : World => run_eql_map_nil (P := Try.prog) W 81 _ _ (some mb) Try.underlying81
  unfold vvCells at *
  go_enter Try.func34, Try.ntmps34
  go_wp2_with fail
  refine (HK.out _).mono ?_
  rintro e w1 ⟨rfl, hb1⟩
  have HB1 := Lib.hid (HB0.out.trans (hb1.mono (by simp; omega)))
  have U0 := Lib.hid (below_blk hb1 (blk_alloc (heap_alloc_new w _) _))
  have U1 := Lib.hid (below_blk hb1 (heap_new_at _ _ (w.heap.size + 1) (by simp)))
  have U3 := Lib.hid (below_blk HB1.out H1.out)
  clear hb1 HB0
  rcases hβ with ⟨rfl, hal⟩ | ⟨rfl, i', s', rfl, hi', hnm, hal⟩
  · have t2 := cell_of_blk (i := 2) U3.out rfl
    have t4 := cell_of_blk (i := 4) U3.out rfl
    have t3 := cell_of_blk (i := 3) U3.out rfl
    have k2 := cell_of_blk (i := 2) U0.out rfl
    have v0 := cell_of_blk (i := 0) U1.out rfl
    have l3 := blk_lt U3.out
    have l1 := blk_lt U1.out
    have l0 := blk_lt U0.out
    have hlook : ∀ q, (Instr.lookup 82 (.map (some nb)) (.string k.s) true).run Try.prog ((w1.alloc (.cells #[.int .i64 k.n, .string k.s, .bool b3] 87)).drewN q) = .ok _ _ := fun q => HL.out _ (blk_same HB1.out hnlt _)
    go_wp2_with fail
    go_quiet (fail)
    go_wp2_with fail
    go_quiet (fail)
    refine gen_then fun W5 hW5 => ?_
    have B5 := Lib.hid (show Below w.heap.size w W5 by rw [← hW5]; exact below_drewN (below_drewN (HB1.out.alloc HB1.out.size _) _) _)
    have A0 := Lib.hid (show W5.heap[w.heap.size]? = some (.cells #[.int .i64 k.kind, .int .i64 k.n, .string k.s, .int .u64 (k.label : Int)] 25 (0, 0)) by rw [← hW5]; exact blk_alloc U0.out _)
    have A1 := Lib.hid (show W5.heap[w.heap.size + 1]? = some (.cells #[.int .i64 v.kind, .int .i64 v.n, .string v.s, .int .u64 (v.label : Int)] 25 (0, 0)) by rw [← hW5]; exact blk_alloc U1.out _)
    have A2 := Lib.hid (show W5.heap[w1.heap.size]? = some (.cells #[.int .i64 k.n, .string k.s, .bool b3] 87 (0, 0)) by rw [← hW5]; exact heap_alloc_new _ _)
    have A3 := Lib.hid (below_blk B5.out H1.out)
    have hw1 : w.heap.size + 1 < w1.heap.size := blk_lt U1.out
    clear hW5 hlook t2 t3 t4 k2 v0 l3 l1 l0 U0 U1 U3 HB1
    have k0 := cell_of_blk (i := 0) A0.out rfl
    have k1 := cell_of_blk (i := 1) A0.out rfl
    have k2 := cell_of_blk (i := 2) A0.out rfl
    have k3 := cell_of_blk (i := 3) A0.out rfl
    have v0 := cell_of_blk (i := 0) A1.out rfl
    have v1 := cell_of_blk (i := 1) A1.out rfl
    have v2 := cell_of_blk (i := 2) A1.out rfl
    have v3 := cell_of_blk (i := 3) A1.out rfl
    have l0 := blk_lt A0.out
    have l1 := blk_lt A1.out
    go_wp2_with fail
    refine (HJ.out _ _ _ _ (heap_alloc_new _ _)).mono ?_
    rintro e w6 ⟨rfl, rfl⟩
    go_wp2_with fail
    refine (HW.out _ _ _ _ (heap_new_at _ _ _ (by simp))).mono ?_
    rintro e w6 ⟨rfl, hb6⟩
    have B6 := Lib.hid (B5.out.trans ((((Below.refl _ _).alloc (Nat.le_refl _) _).alloc (by simp) _).trans (hb6.mono (by simp; omega)) |>.mono B5.out.size))
    have C0 := Lib.hid (below_blk hb6 (blk_alloc (blk_alloc A0.out _) _))
    have C1 := Lib.hid (below_blk hb6 (blk_alloc (blk_alloc A1.out _) _))
    have C2 := Lib.hid (below_blk hb6 (blk_alloc (blk_alloc A2.out _) _))
    have C3 := Lib.hid (below_blk hb6 (blk_alloc (blk_alloc A3.out _) _))
    clear hb6 k0 k1 k2 k3 v0 v1 v2 v3 A0 A1 A2 A3 l0 l1
    have k0 := cell_of_blk (i := 0) C0.out rfl
    have k1 := cell_of_blk (i := 1) C0.out rfl
    have k2 := cell_of_blk (i := 2) C0.out rfl
    have k3 := cell_of_blk (i := 3) C0.out rfl
    have v0 := cell_of_blk (i := 0) C1.out rfl
    have v1 := cell_of_blk (i := 1) C1.out rfl
    have v2 := cell_of_blk (i := 2) C1.out rfl
    have v3 := cell_of_blk (i := 3) C1.out rfl
    have z0 := free_of_blk (i := 0) C1.out
    have z1 := free_of_blk (i := 1) C1.out
    have z2 := free_of_blk (i := 2) C1.out
    have z3 := free_of_blk (i := 3) C1.out
    have l0 := blk_lt C0.out
    have l1 := blk_lt C1.out
    have hb7 : Below w.heap.size w ((((w6.setCell ⟨w.heap.size + 1, 0, none⟩ (.int .i64 R.kind)).setCell ⟨w.heap.size + 1, 1, none⟩ (.int .i64 R.n)).setCell ⟨w.heap.size + 1, 2, none⟩ (.string R.s)).setCell ⟨w.heap.size + 1, 3, none⟩ (.int .u64 (R.label : Int))) := (((B6.out.setCell (by simp) _).setCell (by simp) _).setCell (by simp) _).setCell (by simp) _
    have F7 := Lib.hid (HF.out _ hb7)
    have B7 := Lib.hid hb7
    clear hb7
    go_wp2_with fail
    refine F7.out.mono ?_
    rintro e w7 ⟨rfl, hb8⟩
    have B8 := Lib.hid (B7.out.trans (hb8.mono B7.out.size))
    have ne0 : w.heap.size ≠ w.heap.size + 1 := by omega
    have ne2 : w1.heap.size ≠ w.heap.size + 1 := by omega
    have G0 := Lib.hid (below_blk hb8 (blk_far (blk_far (blk_far (blk_far C0.out ne0 _) ne0 _) ne0 _) ne0 _))
    have G1 := Lib.hid (show w7.heap[w.heap.size + 1]? = some (.cells #[.int .i64 R.kind, .int .i64 R.n, .string R.s, .int .u64 (R.label : Int)] 25 (0, 0)) from below_blk hb8 (blk_set (i := 3) (blk_set (i := 2) (blk_set (i := 1) (blk_set (i := 0) C1.out _) _) _) _))
    have G2 := Lib.hid (below_blk hb8 (blk_far (blk_far (blk_far (blk_far C2.out ne2 _) ne2 _) ne2 _) ne2 _))
    have G3 := Lib.hid (below_blk B8.out H1.out)
    clear hb8 k0 k1 k2 k3 v0 v1 v2 v3 z0 z1 z2 z3 l0 l1 C0 C1 C2 C3 F7 B7 B6 B5 ne0 ne2
    obtain rfl : pi = (i : Int) := hpi.symm.trans hpi'
    obtain ⟨_, _, _, _, _, _, _, x7⟩ := HFd.out.below B8.out hab'
    have t1 := cell_of_blk (i := 1) G3.out rfl
    have l3 := blk_lt G3.out
    go_wp2_with fail
    have F9 := HFl.out w7
    rw [hcj] at F9
    refine F9.mono ?_
    rintro e w9 ⟨rfl, rfl⟩
    go_wp2_with fail
    go_ret
    exact ⟨rfl, TabTo.same H0.out B8.out⟩
  · cases b3
    · have t2 := cell_of_blk (i := 2) U3.out rfl
      have t4 := cell_of_blk (i := 4) U3.out rfl
      have t3 := cell_of_blk (i := 3) U3.out rfl
      have k2 := cell_of_blk (i := 2) U0.out rfl
      have v0 := cell_of_blk (i := 0) U1.out rfl
      have l3 := blk_lt U3.out
      have l1 := blk_lt U1.out
      have l0 := blk_lt U0.out
      have hlook : ∀ q, (Instr.lookup 82 (.map (some nb)) (.string k.s) true).run Try.prog ((w1.alloc (.cells #[.int .i64 k.n, .string k.s, .bool false] 87)).drewN q) = .ok _ _ := fun q => HL.out _ (blk_same HB1.out hnlt _)
      go_wp2_with fail
      go_quiet (fail)
      go_wp2_with fail
      go_quiet (fail)
      refine gen_then fun W5 hW5 => ?_
      have B5 := Lib.hid (show Below w.heap.size w W5 by rw [← hW5]; exact below_drewN (below_drewN (HB1.out.alloc HB1.out.size _) _) _)
      have A0 := Lib.hid (show W5.heap[w.heap.size]? = some (.cells #[.int .i64 k.kind, .int .i64 k.n, .string k.s, .int .u64 (k.label : Int)] 25 (0, 0)) by rw [← hW5]; exact blk_alloc U0.out _)
      have A1 := Lib.hid (show W5.heap[w.heap.size + 1]? = some (.cells #[.int .i64 v.kind, .int .i64 v.n, .string v.s, .int .u64 (v.label : Int)] 25 (0, 0)) by rw [← hW5]; exact blk_alloc U1.out _)
      have A2 := Lib.hid (show W5.heap[w1.heap.size]? = some (.cells #[.int .i64 k.n, .string k.s, .bool false] 87 (0, 0)) by rw [← hW5]; exact heap_alloc_new _ _)
      have A3 := Lib.hid (below_blk B5.out H1.out)
      have hw1 : w.heap.size + 1 < w1.heap.size := blk_lt U1.out
      clear hW5 hlook t2 t3 t4 k2 v0 l3 l1 l0 U0 U1 U3 HB1
      have k0 := cell_of_blk (i := 0) A0.out rfl
      have k1 := cell_of_blk (i := 1) A0.out rfl
      have k2 := cell_of_blk (i := 2) A0.out rfl
      have k3 := cell_of_blk (i := 3) A0.out rfl
      have v0 := cell_of_blk (i := 0) A1.out rfl
      have v1 := cell_of_blk (i := 1) A1.out rfl
      have v2 := cell_of_blk (i := 2) A1.out rfl
      have v3 := cell_of_blk (i := 3) A1.out rfl
      have l0 := blk_lt A0.out
      have l1 := blk_lt A1.out
      go_wp2_with fail
      refine (HJ.out _ _ _ _ (heap_alloc_new _ _)).mono ?_
      rintro e w6 ⟨rfl, rfl⟩
      go_wp2_with fail
      refine (HW.out _ _ _ _ (heap_new_at _ _ _ (by simp))).mono ?_
      rintro e w6 ⟨rfl, hb6⟩
      have B6 := Lib.hid (B5.out.trans ((((Below.refl _ _).alloc (Nat.le_refl _) _).alloc (by simp) _).trans (hb6.mono (by simp; omega)) |>.mono B5.out.size))
      have C0 := Lib.hid (below_blk hb6 (blk_alloc (blk_alloc A0.out _) _))
      have C1 := Lib.hid (below_blk hb6 (blk_alloc (blk_alloc A1.out _) _))
      have C2 := Lib.hid (below_blk hb6 (blk_alloc (blk_alloc A2.out _) _))
      have C3 := Lib.hid (below_blk hb6 (blk_alloc (blk_alloc A3.out _) _))
      clear hb6 k0 k1 k2 k3 v0 v1 v2 v3 A0 A1 A2 A3 l0 l1
      have k0 := cell_of_blk (i := 0) C0.out rfl
      have k1 := cell_of_blk (i := 1) C0.out rfl
      have k2 := cell_of_blk (i := 2) C0.out rfl
      have k3 := cell_of_blk (i := 3) C0.out rfl
      have v0 := cell_of_blk (i := 0) C1.out rfl
      have v1 := cell_of_blk (i := 1) C1.out rfl
      have v2 := cell_of_blk (i := 2) C1.out rfl
      have v3 := cell_of_blk (i := 3) C1.out rfl
      have z0 := free_of_blk (i := 0) C1.out
      have z1 := free_of_blk (i := 1) C1.out
      have z2 := free_of_blk (i := 2) C1.out
      have z3 := free_of_blk (i := 3) C1.out
      have l0 := blk_lt C0.out
      have l1 := blk_lt C1.out
      have hb7 : Below w.heap.size w ((((w6.setCell ⟨w.heap.size + 1, 0, none⟩ (.int .i64 R.kind)).setCell ⟨w.heap.size + 1, 1, none⟩ (.int .i64 R.n)).setCell ⟨w.heap.size + 1, 2, none⟩ (.string R.s)).setCell ⟨w.heap.size + 1, 3, none⟩ (.int .u64 (R.label : Int))) := (((B6.out.setCell (by simp) _).setCell (by simp) _).setCell (by simp) _).setCell (by simp) _
      have F7 := Lib.hid (HF.out _ hb7)
      have B7 := Lib.hid hb7
      clear hb7
      go_wp2_with fail
      refine F7.out.mono ?_
      rintro e w7 ⟨rfl, hb8⟩
      have B8 := Lib.hid (B7.out.trans (hb8.mono B7.out.size))
      have ne0 : w.heap.size ≠ w.heap.size + 1 := by omega
      have ne2 : w1.heap.size ≠ w.heap.size + 1 := by omega
      have G0 := Lib.hid (below_blk hb8 (blk_far (blk_far (blk_far (blk_far C0.out ne0 _) ne0 _) ne0 _) ne0 _))
      have G1 := Lib.hid (show w7.heap[w.heap.size + 1]? = some (.cells #[.int .i64 R.kind, .int .i64 R.n, .string R.s, .int .u64 (R.label : Int)] 25 (0, 0)) from below_blk hb8 (blk_set (i := 3) (blk_set (i := 2) (blk_set (i := 1) (blk_set (i := 0) C1.out _) _) _) _))
      have G2 := Lib.hid (below_blk hb8 (blk_far (blk_far (blk_far (blk_far C2.out ne2 _) ne2 _) ne2 _) ne2 _))
      have G3 := Lib.hid (below_blk B8.out H1.out)
      clear hb8 k0 k1 k2 k3 v0 v1 v2 v3 z0 z1 z2 z3 l0 l1 C0 C1 C2 C3 F7 B7 B6 B5 ne0 ne2
      obtain rfl : pi = (i : Int) := hpi.symm.trans hpi'
      obtain ⟨_, _, _, _, _, _, _, x7⟩ := HFd.out.below B8.out hab'
      have t1 := cell_of_blk (i := 1) G3.out rfl
      have l3 := blk_lt G3.out
      go_wp2_with fail
      have F9 := HFl.out w7
      rw [hcj] at F9
      refine F9.mono ?_
      rintro e w9 ⟨rfl, rfl⟩
      go_wp2_with fail
      go_ret
      exact ⟨rfl, TabTo.same H0.out B8.out⟩
    · obtain ⟨ads, rfl, hadsb, hcells⟩ := HRS.out.at (flatMap_ne (K := 2) (fun a => rfl) (by omega) hi')
      have hil' : (i' : Int) < (T.S.length : Int) := by have := (List.getElem?_eq_some_iff.1 hi').1; omega
      have hi0' : (0 : Int) ≤ i' := by omega
      have hadsb' : (ads.add (i' * 2)).block < w.heap.size := by rw [block_add']; exact hadsb
      have s1 := (HB1.out.cell (p := ⟨(ads.add (i' * 2)).block, _, none⟩) hadsb').trans (st_at hcells hi').c1
      have ls1 : (ads.add (i' * 2)).block < w1.heap.size := Nat.lt_of_lt_of_le hadsb' HB1.out.size
      have hfit := fun W => fits_any s'.2 v.kind W
      rw [show fitsB s'.2 v.kind = true from by rw [← hal]; simpa [hb3'] using hst] at hfit
      have HFit := Lib.hid hfit
      clear hfit hcells hi' hnm hal
      have t2 := cell_of_blk (i := 2) U3.out rfl
      have t4 := cell_of_blk (i := 4) U3.out rfl
      have t3 := cell_of_blk (i := 3) U3.out rfl
      have k2 := cell_of_blk (i := 2) U0.out rfl
      have v0 := cell_of_blk (i := 0) U1.out rfl
      have l3 := blk_lt U3.out
      have l1 := blk_lt U1.out
      have l0 := blk_lt U0.out
      have hlook : ∀ q, (Instr.lookup 82 (.map (some nb)) (.string k.s) true).run Try.prog ((w1.alloc (.cells #[.int .i64 k.n, .string k.s, .bool true] 87)).drewN q) = .ok _ _ := fun q => HL.out _ (blk_same HB1.out hnlt _)
      go_wp2_with fail
      go_quiet (fail)
      go_wp2_with fail
      go_quiet ((go_at_call 58; first | exact quiet_ret (HFit.out _) | exact quiet_ret_add (HFit.out _)))
      refine gen_then fun W5 hW5 => ?_
      have B5 := Lib.hid (show Below w.heap.size w W5 by rw [← hW5]; exact below_drewN (below_drewN (HB1.out.alloc HB1.out.size _) _) _)
      have A0 := Lib.hid (show W5.heap[w.heap.size]? = some (.cells #[.int .i64 k.kind, .int .i64 k.n, .string k.s, .int .u64 (k.label : Int)] 25 (0, 0)) by rw [← hW5]; exact blk_alloc U0.out _)
      have A1 := Lib.hid (show W5.heap[w.heap.size + 1]? = some (.cells #[.int .i64 v.kind, .int .i64 v.n, .string v.s, .int .u64 (v.label : Int)] 25 (0, 0)) by rw [← hW5]; exact blk_alloc U1.out _)
      have A2 := Lib.hid (show W5.heap[w1.heap.size]? = some (.cells #[.int .i64 k.n, .string k.s, .bool true] 87 (0, 0)) by rw [← hW5]; exact heap_alloc_new _ _)
      have A3 := Lib.hid (below_blk B5.out H1.out)
      have hw1 : w.heap.size + 1 < w1.heap.size := blk_lt U1.out
      clear hW5 hlook t2 t3 t4 k2 v0 l3 l1 l0 U0 U1 U3 HB1
      have k0 := cell_of_blk (i := 0) A0.out rfl
      have k1 := cell_of_blk (i := 1) A0.out rfl
      have k2 := cell_of_blk (i := 2) A0.out rfl
      have k3 := cell_of_blk (i := 3) A0.out rfl
      have v0 := cell_of_blk (i := 0) A1.out rfl
      have v1 := cell_of_blk (i := 1) A1.out rfl
      have v2 := cell_of_blk (i := 2) A1.out rfl
      have v3 := cell_of_blk (i := 3) A1.out rfl
      have l0 := blk_lt A0.out
      have l1 := blk_lt A1.out
      go_wp2_with fail
      refine (HJ.out _ _ _ _ (heap_alloc_new _ _)).mono ?_
      rintro e w6 ⟨rfl, rfl⟩
      go_wp2_with fail
      refine (HW.out _ _ _ _ (heap_new_at _ _ _ (by simp))).mono ?_
      rintro e w6 ⟨rfl, hb6⟩
      have B6 := Lib.hid (B5.out.trans ((((Below.refl _ _).alloc (Nat.le_refl _) _).alloc (by simp) _).trans (hb6.mono (by simp; omega)) |>.mono B5.out.size))
      have C0 := Lib.hid (below_blk hb6 (blk_alloc (blk_alloc A0.out _) _))
      have C1 := Lib.hid (below_blk hb6 (blk_alloc (blk_alloc A1.out _) _))
      have C2 := Lib.hid (below_blk hb6 (blk_alloc (blk_alloc A2.out _) _))
      have C3 := Lib.hid (below_blk hb6 (blk_alloc (blk_alloc A3.out _) _))
      clear hb6 k0 k1 k2 k3 v0 v1 v2 v3 A0 A1 A2 A3 l0 l1
      have k0 := cell_of_blk (i := 0) C0.out rfl
      have k1 := cell_of_blk (i := 1) C0.out rfl
      have k2 := cell_of_blk (i := 2) C0.out rfl
      have k3 := cell_of_blk (i := 3) C0.out rfl
      have v0 := cell_of_blk (i := 0) C1.out rfl
      have v1 := cell_of_blk (i := 1) C1.out rfl
      have v2 := cell_of_blk (i := 2) C1.out rfl
      have v3 := cell_of_blk (i := 3) C1.out rfl
      have z0 := free_of_blk (i := 0) C1.out
      have z1 := free_of_blk (i := 1) C1.out
      have z2 := free_of_blk (i := 2) C1.out
      have z3 := free_of_blk (i := 3) C1.out
      have l0 := blk_lt C0.out
      have l1 := blk_lt C1.out
      have hb7 : Below w.heap.size w ((((w6.setCell ⟨w.heap.size + 1, 0, none⟩ (.int .i64 R.kind)).setCell ⟨w.heap.size + 1, 1, none⟩ (.int .i64 R.n)).setCell ⟨w.heap.size + 1, 2, none⟩ (.string R.s)).setCell ⟨w.heap.size + 1, 3, none⟩ (.int .u64 (R.label : Int))) := (((B6.out.setCell (by simp) _).setCell (by simp) _).setCell (by simp) _).setCell (by simp) _
      have F7 := Lib.hid (HF.out _ hb7)
      have B7 := Lib.hid hb7
      clear hb7
      go_wp2_with fail
      refine F7.out.mono ?_
      rintro e w7 ⟨rfl, hb8⟩
      have B8 := Lib.hid (B7.out.trans (hb8.mono B7.out.size))
      have ne0 : w.heap.size ≠ w.heap.size + 1 := by omega
      have ne2 : w1.heap.size ≠ w.heap.size + 1 := by omega
      have G0 := Lib.hid (below_blk hb8 (blk_far (blk_far (blk_far (blk_far C0.out ne0 _) ne0 _) ne0 _) ne0 _))
      have G1 := Lib.hid (show w7.heap[w.heap.size + 1]? = some (.cells #[.int .i64 R.kind, .int .i64 R.n, .string R.s, .int .u64 (R.label : Int)] 25 (0, 0)) from below_blk hb8 (blk_set (i := 3) (blk_set (i := 2) (blk_set (i := 1) (blk_set (i := 0) C1.out _) _) _) _))
      have G2 := Lib.hid (below_blk hb8 (blk_far (blk_far (blk_far (blk_far C2.out ne2 _) ne2 _) ne2 _) ne2 _))
      have G3 := Lib.hid (below_blk B8.out H1.out)
      clear hb8 k0 k1 k2 k3 v0 v1 v2 v3 z0 z1 z2 z3 l0 l1 C0 C1 C2 C3 F7 B7 B6 B5 ne0 ne2
      obtain rfl : pi = (i : Int) := hpi.symm.trans hpi'
      obtain ⟨_, _, _, _, _, _, _, x7⟩ := HFd.out.below B8.out hab'
      have t1 := cell_of_blk (i := 1) G3.out rfl
      have l3 := blk_lt G3.out
      go_wp2_with fail
      have F9 := HFl.out w7
      rw [hcj] at F9
      refine F9.mono ?_
      rintro e w9 ⟨rfl, rfl⟩
      go_wp2_with fail
      go_ret
      exact ⟨rfl, TabTo.same H0.out B8.out⟩
set_option maxRecDepth 100000 in
set_option maxHeartbeats 8000000 in
theorem put_appno {w : World} {B tb : Nat} {T : TabS} {fp : List Nat} (h : TabIn w B tb T fp) (ok : TabOk T) {ctx : Nat} {k v : VV} (hc : ctx < 18446744073709551616) (kk : VOk k) (kv : VOk v) (hik : isKey k = true) (hpi' : findI T.F k = -1) (hfl : flowsB (ctx ||| k.label) T.l = false) (hb : (T.F.length + 1) * 80 ≤ 140737488355328) (hst : (decide (k.kind = 3) && !allowsB T.S k.s v.kind) = false) :
    Calls Try.prog 34 #[.pointer (some ⟨tb, 0, none⟩), .int .u64 (ctx : Int), .agg (vvCells k), .agg (vvCells v)] w fun e w' => e = .returned (.int .i64 40) ∧ TabTo w B tb T fp w' := by
  obtain ⟨⟨fv, sv, mb, nb, n, m, D, E, hfp, h1, h2, h3, h4, h5, hne, hnl, hml, hI, hN⟩, hbase⟩ := h
  have h0 : TabIn w B tb T fp := ⟨⟨fv, sv, mb, nb, n, m, D, E, hfp, h1, h2, h3, h4, h5, hne, hnl, hml, hI, hN⟩, hbase⟩
  have hfw := fun W => flows_any (ctx ||| k.label) T.l W (Nat.or_lt_two_pow (n := 64) hc kk.label) ok.l
  rw [hfl] at hfw
  have HFl := Lib.hid hfw
  clear hfw
  obtain ⟨AS, cs, rfl, hcs1, hcs2, hAS, hRS⟩ := own_reads h3
  obtain ⟨cn, β, hlk, hβ⟩ := look_name h5 hN ok.dS k.s kk.s
  have hnlt := h5.lt
  have hkeys := fun W => keyof_any k W
  rw [hik, if_pos rfl] at hkeys
  unfold keyV at hkeys
  have hb3 : decide (k.kind = 3) = decide (k.kind = 3) := rfl
  generalize hb3' : decide (k.kind = 3) = b3 at hkeys hb3
  have HK := Lib.hid hkeys
  have HL := Lib.hid hlk
  have H0 := Lib.hid h0
  have H1 := Lib.hid h1
  have H2 := Lib.hid h2
  have H3 := Lib.hid h3
  have H4 := Lib.hid h4
  have HN := Lib.hid hN
  have H5 := Lib.hid h5
  have HRS := Lib.hid hRS
  have HI := Lib.hid hI
  have HOK := Lib.hid ok
  have hjl : ctx ||| k.label < 18446744073709551616 := Nat.or_lt_two_pow (n := 64) hc kk.label
  have hw := fun n c t W h => with1_any v (ctx ||| k.label) n c t W kv.label hjl h
  have hj := fun n c t W h => join2_any ctx k.label n c t W hc kk.label h
  have hf := (fun (W : World) (hW : Below w.heap.size w W) => find_is (h0.kept (Fr.of_below hW []) (by simp)) ok kk)
  generalize hpi : findI T.F k = pi at hf
  have HF := Lib.hid hf
  have HB0 := Lib.hid ((((Below.refl w.heap.size w).alloc (Nat.le_refl _) (.cells (vvCells k) 25)).alloc (by simp) (.cells (vvCells v) 25)))
  generalize hR : withV v (ctx ||| k.label) = R at hw ⊢
  generalize hcj : ctx ||| k.label = cj at hj hw hjl
  have HW := Lib.hid hw
  have HJ := Lib.hid hj
  have HP := Lib.hid hfp
  have HBase := Lib.hid hbase
  have htlt := blk_lt h1
  clear hkeys hlk h0 h1 h2 h3 h4 h5 hRS hI hN ok hw hj hfp hbase hb3 hf
  have heqm := fun W : World => run_eql_map_nil (P := Try.prog) W 81 _ _ (some mb) Try.underlying81
  unfold vvCells at *
  go_enter Try.func34, Try.ntmps34
  go_wp2_with fail
  refine (HK.out _).mono ?_
  rintro e w1 ⟨rfl, hb1⟩
  have HB1 := Lib.hid (HB0.out.trans (hb1.mono (by simp; omega)))
  have U0 := Lib.hid (below_blk hb1 (blk_alloc (heap_alloc_new w _) _))
  have U1 := Lib.hid (below_blk hb1 (heap_new_at _ _ (w.heap.size + 1) (by simp)))
  have U3 := Lib.hid (below_blk HB1.out H1.out)
  clear hb1 HB0
  rcases hβ with ⟨rfl, hal⟩ | ⟨rfl, i', s', rfl, hi', hnm, hal⟩
  · have t2 := cell_of_blk (i := 2) U3.out rfl
    have t4 := cell_of_blk (i := 4) U3.out rfl
    have t3 := cell_of_blk (i := 3) U3.out rfl
    have k2 := cell_of_blk (i := 2) U0.out rfl
    have v0 := cell_of_blk (i := 0) U1.out rfl
    have l3 := blk_lt U3.out
    have l1 := blk_lt U1.out
    have l0 := blk_lt U0.out
    have hlook : ∀ q, (Instr.lookup 82 (.map (some nb)) (.string k.s) true).run Try.prog ((w1.alloc (.cells #[.int .i64 k.n, .string k.s, .bool b3] 87)).drewN q) = .ok _ _ := fun q => HL.out _ (blk_same HB1.out hnlt _)
    go_wp2_with fail
    go_quiet (fail)
    go_wp2_with fail
    go_quiet (fail)
    refine gen_then fun W5 hW5 => ?_
    have B5 := Lib.hid (show Below w.heap.size w W5 by rw [← hW5]; exact below_drewN (below_drewN (HB1.out.alloc HB1.out.size _) _) _)
    have A0 := Lib.hid (show W5.heap[w.heap.size]? = some (.cells #[.int .i64 k.kind, .int .i64 k.n, .string k.s, .int .u64 (k.label : Int)] 25 (0, 0)) by rw [← hW5]; exact blk_alloc U0.out _)
    have A1 := Lib.hid (show W5.heap[w.heap.size + 1]? = some (.cells #[.int .i64 v.kind, .int .i64 v.n, .string v.s, .int .u64 (v.label : Int)] 25 (0, 0)) by rw [← hW5]; exact blk_alloc U1.out _)
    have A2 := Lib.hid (show W5.heap[w1.heap.size]? = some (.cells #[.int .i64 k.n, .string k.s, .bool b3] 87 (0, 0)) by rw [← hW5]; exact heap_alloc_new _ _)
    have A3 := Lib.hid (below_blk B5.out H1.out)
    have hw1 : w.heap.size + 1 < w1.heap.size := blk_lt U1.out
    clear hW5 hlook t2 t3 t4 k2 v0 l3 l1 l0 U0 U1 U3 HB1
    have k0 := cell_of_blk (i := 0) A0.out rfl
    have k1 := cell_of_blk (i := 1) A0.out rfl
    have k2 := cell_of_blk (i := 2) A0.out rfl
    have k3 := cell_of_blk (i := 3) A0.out rfl
    have v0 := cell_of_blk (i := 0) A1.out rfl
    have v1 := cell_of_blk (i := 1) A1.out rfl
    have v2 := cell_of_blk (i := 2) A1.out rfl
    have v3 := cell_of_blk (i := 3) A1.out rfl
    have l0 := blk_lt A0.out
    have l1 := blk_lt A1.out
    go_wp2_with fail
    refine (HJ.out _ _ _ _ (heap_alloc_new _ _)).mono ?_
    rintro e w6 ⟨rfl, rfl⟩
    go_wp2_with fail
    refine (HW.out _ _ _ _ (heap_new_at _ _ _ (by simp))).mono ?_
    rintro e w6 ⟨rfl, hb6⟩
    have B6 := Lib.hid (B5.out.trans ((((Below.refl _ _).alloc (Nat.le_refl _) _).alloc (by simp) _).trans (hb6.mono (by simp; omega)) |>.mono B5.out.size))
    have C0 := Lib.hid (below_blk hb6 (blk_alloc (blk_alloc A0.out _) _))
    have C1 := Lib.hid (below_blk hb6 (blk_alloc (blk_alloc A1.out _) _))
    have C2 := Lib.hid (below_blk hb6 (blk_alloc (blk_alloc A2.out _) _))
    have C3 := Lib.hid (below_blk hb6 (blk_alloc (blk_alloc A3.out _) _))
    clear hb6 k0 k1 k2 k3 v0 v1 v2 v3 A0 A1 A2 A3 l0 l1
    have k0 := cell_of_blk (i := 0) C0.out rfl
    have k1 := cell_of_blk (i := 1) C0.out rfl
    have k2 := cell_of_blk (i := 2) C0.out rfl
    have k3 := cell_of_blk (i := 3) C0.out rfl
    have v0 := cell_of_blk (i := 0) C1.out rfl
    have v1 := cell_of_blk (i := 1) C1.out rfl
    have v2 := cell_of_blk (i := 2) C1.out rfl
    have v3 := cell_of_blk (i := 3) C1.out rfl
    have z0 := free_of_blk (i := 0) C1.out
    have z1 := free_of_blk (i := 1) C1.out
    have z2 := free_of_blk (i := 2) C1.out
    have z3 := free_of_blk (i := 3) C1.out
    have l0 := blk_lt C0.out
    have l1 := blk_lt C1.out
    have hb7 : Below w.heap.size w ((((w6.setCell ⟨w.heap.size + 1, 0, none⟩ (.int .i64 R.kind)).setCell ⟨w.heap.size + 1, 1, none⟩ (.int .i64 R.n)).setCell ⟨w.heap.size + 1, 2, none⟩ (.string R.s)).setCell ⟨w.heap.size + 1, 3, none⟩ (.int .u64 (R.label : Int))) := (((B6.out.setCell (by simp) _).setCell (by simp) _).setCell (by simp) _).setCell (by simp) _
    have F7 := Lib.hid (HF.out _ hb7)
    have B7 := Lib.hid hb7
    clear hb7
    go_wp2_with fail
    refine F7.out.mono ?_
    rintro e w7 ⟨rfl, hb8⟩
    have B8 := Lib.hid (B7.out.trans (hb8.mono B7.out.size))
    have ne0 : w.heap.size ≠ w.heap.size + 1 := by omega
    have ne2 : w1.heap.size ≠ w.heap.size + 1 := by omega
    have G0 := Lib.hid (below_blk hb8 (blk_far (blk_far (blk_far (blk_far C0.out ne0 _) ne0 _) ne0 _) ne0 _))
    have G1 := Lib.hid (show w7.heap[w.heap.size + 1]? = some (.cells #[.int .i64 R.kind, .int .i64 R.n, .string R.s, .int .u64 (R.label : Int)] 25 (0, 0)) from below_blk hb8 (blk_set (i := 3) (blk_set (i := 2) (blk_set (i := 1) (blk_set (i := 0) C1.out _) _) _) _))
    have G2 := Lib.hid (below_blk hb8 (blk_far (blk_far (blk_far (blk_far C2.out ne2 _) ne2 _) ne2 _) ne2 _))
    have G3 := Lib.hid (below_blk B8.out H1.out)
    clear hb8 k0 k1 k2 k3 v0 v1 v2 v3 z0 z1 z2 z3 l0 l1 C0 C1 C2 C3 F7 B7 B6 B5 ne0 ne2
    obtain rfl : pi = -1 := hpi.symm.trans hpi'
    have t0 := cell_of_blk (i := 0) G3.out rfl
    have l3 := blk_lt G3.out
    go_wp2_with fail
    have F9 := HFl.out w7
    rw [hcj] at F9
    refine F9.mono ?_
    rintro e w9 ⟨rfl, rfl⟩
    go_wp2_with fail
    go_ret
    exact ⟨rfl, TabTo.same H0.out B8.out⟩
  · cases b3
    · have t2 := cell_of_blk (i := 2) U3.out rfl
      have t4 := cell_of_blk (i := 4) U3.out rfl
      have t3 := cell_of_blk (i := 3) U3.out rfl
      have k2 := cell_of_blk (i := 2) U0.out rfl
      have v0 := cell_of_blk (i := 0) U1.out rfl
      have l3 := blk_lt U3.out
      have l1 := blk_lt U1.out
      have l0 := blk_lt U0.out
      have hlook : ∀ q, (Instr.lookup 82 (.map (some nb)) (.string k.s) true).run Try.prog ((w1.alloc (.cells #[.int .i64 k.n, .string k.s, .bool false] 87)).drewN q) = .ok _ _ := fun q => HL.out _ (blk_same HB1.out hnlt _)
      go_wp2_with fail
      go_quiet (fail)
      go_wp2_with fail
      go_quiet (fail)
      refine gen_then fun W5 hW5 => ?_
      have B5 := Lib.hid (show Below w.heap.size w W5 by rw [← hW5]; exact below_drewN (below_drewN (HB1.out.alloc HB1.out.size _) _) _)
      have A0 := Lib.hid (show W5.heap[w.heap.size]? = some (.cells #[.int .i64 k.kind, .int .i64 k.n, .string k.s, .int .u64 (k.label : Int)] 25 (0, 0)) by rw [← hW5]; exact blk_alloc U0.out _)
      have A1 := Lib.hid (show W5.heap[w.heap.size + 1]? = some (.cells #[.int .i64 v.kind, .int .i64 v.n, .string v.s, .int .u64 (v.label : Int)] 25 (0, 0)) by rw [← hW5]; exact blk_alloc U1.out _)
      have A2 := Lib.hid (show W5.heap[w1.heap.size]? = some (.cells #[.int .i64 k.n, .string k.s, .bool false] 87 (0, 0)) by rw [← hW5]; exact heap_alloc_new _ _)
      have A3 := Lib.hid (below_blk B5.out H1.out)
      have hw1 : w.heap.size + 1 < w1.heap.size := blk_lt U1.out
      clear hW5 hlook t2 t3 t4 k2 v0 l3 l1 l0 U0 U1 U3 HB1
      have k0 := cell_of_blk (i := 0) A0.out rfl
      have k1 := cell_of_blk (i := 1) A0.out rfl
      have k2 := cell_of_blk (i := 2) A0.out rfl
      have k3 := cell_of_blk (i := 3) A0.out rfl
      have v0 := cell_of_blk (i := 0) A1.out rfl
      have v1 := cell_of_blk (i := 1) A1.out rfl
      have v2 := cell_of_blk (i := 2) A1.out rfl
      have v3 := cell_of_blk (i := 3) A1.out rfl
      have l0 := blk_lt A0.out
      have l1 := blk_lt A1.out
      go_wp2_with fail
      refine (HJ.out _ _ _ _ (heap_alloc_new _ _)).mono ?_
      rintro e w6 ⟨rfl, rfl⟩
      go_wp2_with fail
      refine (HW.out _ _ _ _ (heap_new_at _ _ _ (by simp))).mono ?_
      rintro e w6 ⟨rfl, hb6⟩
      have B6 := Lib.hid (B5.out.trans ((((Below.refl _ _).alloc (Nat.le_refl _) _).alloc (by simp) _).trans (hb6.mono (by simp; omega)) |>.mono B5.out.size))
      have C0 := Lib.hid (below_blk hb6 (blk_alloc (blk_alloc A0.out _) _))
      have C1 := Lib.hid (below_blk hb6 (blk_alloc (blk_alloc A1.out _) _))
      have C2 := Lib.hid (below_blk hb6 (blk_alloc (blk_alloc A2.out _) _))
      have C3 := Lib.hid (below_blk hb6 (blk_alloc (blk_alloc A3.out _) _))
      clear hb6 k0 k1 k2 k3 v0 v1 v2 v3 A0 A1 A2 A3 l0 l1
      have k0 := cell_of_blk (i := 0) C0.out rfl
      have k1 := cell_of_blk (i := 1) C0.out rfl
      have k2 := cell_of_blk (i := 2) C0.out rfl
      have k3 := cell_of_blk (i := 3) C0.out rfl
      have v0 := cell_of_blk (i := 0) C1.out rfl
      have v1 := cell_of_blk (i := 1) C1.out rfl
      have v2 := cell_of_blk (i := 2) C1.out rfl
      have v3 := cell_of_blk (i := 3) C1.out rfl
      have z0 := free_of_blk (i := 0) C1.out
      have z1 := free_of_blk (i := 1) C1.out
      have z2 := free_of_blk (i := 2) C1.out
      have z3 := free_of_blk (i := 3) C1.out
      have l0 := blk_lt C0.out
      have l1 := blk_lt C1.out
      have hb7 : Below w.heap.size w ((((w6.setCell ⟨w.heap.size + 1, 0, none⟩ (.int .i64 R.kind)).setCell ⟨w.heap.size + 1, 1, none⟩ (.int .i64 R.n)).setCell ⟨w.heap.size + 1, 2, none⟩ (.string R.s)).setCell ⟨w.heap.size + 1, 3, none⟩ (.int .u64 (R.label : Int))) := (((B6.out.setCell (by simp) _).setCell (by simp) _).setCell (by simp) _).setCell (by simp) _
      have F7 := Lib.hid (HF.out _ hb7)
      have B7 := Lib.hid hb7
      clear hb7
      go_wp2_with fail
      refine F7.out.mono ?_
      rintro e w7 ⟨rfl, hb8⟩
      have B8 := Lib.hid (B7.out.trans (hb8.mono B7.out.size))
      have ne0 : w.heap.size ≠ w.heap.size + 1 := by omega
      have ne2 : w1.heap.size ≠ w.heap.size + 1 := by omega
      have G0 := Lib.hid (below_blk hb8 (blk_far (blk_far (blk_far (blk_far C0.out ne0 _) ne0 _) ne0 _) ne0 _))
      have G1 := Lib.hid (show w7.heap[w.heap.size + 1]? = some (.cells #[.int .i64 R.kind, .int .i64 R.n, .string R.s, .int .u64 (R.label : Int)] 25 (0, 0)) from below_blk hb8 (blk_set (i := 3) (blk_set (i := 2) (blk_set (i := 1) (blk_set (i := 0) C1.out _) _) _) _))
      have G2 := Lib.hid (below_blk hb8 (blk_far (blk_far (blk_far (blk_far C2.out ne2 _) ne2 _) ne2 _) ne2 _))
      have G3 := Lib.hid (below_blk B8.out H1.out)
      clear hb8 k0 k1 k2 k3 v0 v1 v2 v3 z0 z1 z2 z3 l0 l1 C0 C1 C2 C3 F7 B7 B6 B5 ne0 ne2
      obtain rfl : pi = -1 := hpi.symm.trans hpi'
      have t0 := cell_of_blk (i := 0) G3.out rfl
      have l3 := blk_lt G3.out
      go_wp2_with fail
      have F9 := HFl.out w7
      rw [hcj] at F9
      refine F9.mono ?_
      rintro e w9 ⟨rfl, rfl⟩
      go_wp2_with fail
      go_ret
      exact ⟨rfl, TabTo.same H0.out B8.out⟩
    · obtain ⟨ads, rfl, hadsb, hcells⟩ := HRS.out.at (flatMap_ne (K := 2) (fun a => rfl) (by omega) hi')
      have hil' : (i' : Int) < (T.S.length : Int) := by have := (List.getElem?_eq_some_iff.1 hi').1; omega
      have hi0' : (0 : Int) ≤ i' := by omega
      have hadsb' : (ads.add (i' * 2)).block < w.heap.size := by rw [block_add']; exact hadsb
      have s1 := (HB1.out.cell (p := ⟨(ads.add (i' * 2)).block, _, none⟩) hadsb').trans (st_at hcells hi').c1
      have ls1 : (ads.add (i' * 2)).block < w1.heap.size := Nat.lt_of_lt_of_le hadsb' HB1.out.size
      have hfit := fun W => fits_any s'.2 v.kind W
      rw [show fitsB s'.2 v.kind = true from by rw [← hal]; simpa [hb3'] using hst] at hfit
      have HFit := Lib.hid hfit
      clear hfit hcells hi' hnm hal
      have t2 := cell_of_blk (i := 2) U3.out rfl
      have t4 := cell_of_blk (i := 4) U3.out rfl
      have t3 := cell_of_blk (i := 3) U3.out rfl
      have k2 := cell_of_blk (i := 2) U0.out rfl
      have v0 := cell_of_blk (i := 0) U1.out rfl
      have l3 := blk_lt U3.out
      have l1 := blk_lt U1.out
      have l0 := blk_lt U0.out
      have hlook : ∀ q, (Instr.lookup 82 (.map (some nb)) (.string k.s) true).run Try.prog ((w1.alloc (.cells #[.int .i64 k.n, .string k.s, .bool true] 87)).drewN q) = .ok _ _ := fun q => HL.out _ (blk_same HB1.out hnlt _)
      go_wp2_with fail
      go_quiet (fail)
      go_wp2_with fail
      go_quiet ((go_at_call 58; first | exact quiet_ret (HFit.out _) | exact quiet_ret_add (HFit.out _)))
      refine gen_then fun W5 hW5 => ?_
      have B5 := Lib.hid (show Below w.heap.size w W5 by rw [← hW5]; exact below_drewN (below_drewN (HB1.out.alloc HB1.out.size _) _) _)
      have A0 := Lib.hid (show W5.heap[w.heap.size]? = some (.cells #[.int .i64 k.kind, .int .i64 k.n, .string k.s, .int .u64 (k.label : Int)] 25 (0, 0)) by rw [← hW5]; exact blk_alloc U0.out _)
      have A1 := Lib.hid (show W5.heap[w.heap.size + 1]? = some (.cells #[.int .i64 v.kind, .int .i64 v.n, .string v.s, .int .u64 (v.label : Int)] 25 (0, 0)) by rw [← hW5]; exact blk_alloc U1.out _)
      have A2 := Lib.hid (show W5.heap[w1.heap.size]? = some (.cells #[.int .i64 k.n, .string k.s, .bool true] 87 (0, 0)) by rw [← hW5]; exact heap_alloc_new _ _)
      have A3 := Lib.hid (below_blk B5.out H1.out)
      have hw1 : w.heap.size + 1 < w1.heap.size := blk_lt U1.out
      clear hW5 hlook t2 t3 t4 k2 v0 l3 l1 l0 U0 U1 U3 HB1
      have k0 := cell_of_blk (i := 0) A0.out rfl
      have k1 := cell_of_blk (i := 1) A0.out rfl
      have k2 := cell_of_blk (i := 2) A0.out rfl
      have k3 := cell_of_blk (i := 3) A0.out rfl
      have v0 := cell_of_blk (i := 0) A1.out rfl
      have v1 := cell_of_blk (i := 1) A1.out rfl
      have v2 := cell_of_blk (i := 2) A1.out rfl
      have v3 := cell_of_blk (i := 3) A1.out rfl
      have l0 := blk_lt A0.out
      have l1 := blk_lt A1.out
      go_wp2_with fail
      refine (HJ.out _ _ _ _ (heap_alloc_new _ _)).mono ?_
      rintro e w6 ⟨rfl, rfl⟩
      go_wp2_with fail
      refine (HW.out _ _ _ _ (heap_new_at _ _ _ (by simp))).mono ?_
      rintro e w6 ⟨rfl, hb6⟩
      have B6 := Lib.hid (B5.out.trans ((((Below.refl _ _).alloc (Nat.le_refl _) _).alloc (by simp) _).trans (hb6.mono (by simp; omega)) |>.mono B5.out.size))
      have C0 := Lib.hid (below_blk hb6 (blk_alloc (blk_alloc A0.out _) _))
      have C1 := Lib.hid (below_blk hb6 (blk_alloc (blk_alloc A1.out _) _))
      have C2 := Lib.hid (below_blk hb6 (blk_alloc (blk_alloc A2.out _) _))
      have C3 := Lib.hid (below_blk hb6 (blk_alloc (blk_alloc A3.out _) _))
      clear hb6 k0 k1 k2 k3 v0 v1 v2 v3 A0 A1 A2 A3 l0 l1
      have k0 := cell_of_blk (i := 0) C0.out rfl
      have k1 := cell_of_blk (i := 1) C0.out rfl
      have k2 := cell_of_blk (i := 2) C0.out rfl
      have k3 := cell_of_blk (i := 3) C0.out rfl
      have v0 := cell_of_blk (i := 0) C1.out rfl
      have v1 := cell_of_blk (i := 1) C1.out rfl
      have v2 := cell_of_blk (i := 2) C1.out rfl
      have v3 := cell_of_blk (i := 3) C1.out rfl
      have z0 := free_of_blk (i := 0) C1.out
      have z1 := free_of_blk (i := 1) C1.out
      have z2 := free_of_blk (i := 2) C1.out
      have z3 := free_of_blk (i := 3) C1.out
      have l0 := blk_lt C0.out
      have l1 := blk_lt C1.out
      have hb7 : Below w.heap.size w ((((w6.setCell ⟨w.heap.size + 1, 0, none⟩ (.int .i64 R.kind)).setCell ⟨w.heap.size + 1, 1, none⟩ (.int .i64 R.n)).setCell ⟨w.heap.size + 1, 2, none⟩ (.string R.s)).setCell ⟨w.heap.size + 1, 3, none⟩ (.int .u64 (R.label : Int))) := (((B6.out.setCell (by simp) _).setCell (by simp) _).setCell (by simp) _).setCell (by simp) _
      have F7 := Lib.hid (HF.out _ hb7)
      have B7 := Lib.hid hb7
      clear hb7
      go_wp2_with fail
      refine F7.out.mono ?_
      rintro e w7 ⟨rfl, hb8⟩
      have B8 := Lib.hid (B7.out.trans (hb8.mono B7.out.size))
      have ne0 : w.heap.size ≠ w.heap.size + 1 := by omega
      have ne2 : w1.heap.size ≠ w.heap.size + 1 := by omega
      have G0 := Lib.hid (below_blk hb8 (blk_far (blk_far (blk_far (blk_far C0.out ne0 _) ne0 _) ne0 _) ne0 _))
      have G1 := Lib.hid (show w7.heap[w.heap.size + 1]? = some (.cells #[.int .i64 R.kind, .int .i64 R.n, .string R.s, .int .u64 (R.label : Int)] 25 (0, 0)) from below_blk hb8 (blk_set (i := 3) (blk_set (i := 2) (blk_set (i := 1) (blk_set (i := 0) C1.out _) _) _) _))
      have G2 := Lib.hid (below_blk hb8 (blk_far (blk_far (blk_far (blk_far C2.out ne2 _) ne2 _) ne2 _) ne2 _))
      have G3 := Lib.hid (below_blk B8.out H1.out)
      clear hb8 k0 k1 k2 k3 v0 v1 v2 v3 z0 z1 z2 z3 l0 l1 C0 C1 C2 C3 F7 B7 B6 B5 ne0 ne2
      obtain rfl : pi = -1 := hpi.symm.trans hpi'
      have t0 := cell_of_blk (i := 0) G3.out rfl
      have l3 := blk_lt G3.out
      go_wp2_with fail
      have F9 := HFl.out w7
      rw [hcj] at F9
      refine F9.mono ?_
      rintro e w9 ⟨rfl, rfl⟩
      go_wp2_with fail
      go_ret
      exact ⟨rfl, TabTo.same H0.out B8.out⟩
end Go.Proofs.Ythhphjfbdoffhaa
