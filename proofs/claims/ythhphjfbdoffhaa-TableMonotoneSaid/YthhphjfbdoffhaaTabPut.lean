/-
  Chapter 04: Put.
-/
import Derived.Test.YthhphjfbdoffhaaTabMem
import Derived.Deep.RegionHeld3
set_option linter.unusedVariables false
set_option linter.unusedSimpArgs false
namespace Go.Proofs.Ythhphjfbdoffhaa
open Go.ChangeShapes Go.WideShapes Go.ChangeAt Go.RowKit Go.Maps

theorem gen_then {K : Act → World → Prop} {Q : Exit → Act → World → Prop} {e : Exit} {a : Act} {w : World} (h : ∀ W, w = W → Exit.then K Q e a W) : Exit.then K Q e a w := h w rfl
theorem with1_any (v : VV) (a n c : Nat) (t : TypeId) (w : World) (hv : v.label < 18446744073709551616) (ha : a < 18446744073709551616) (h : w.heap[n]? = some (.cells #[.int .u64 (a : Int)] t (0, 0))) :
    Calls Try.prog 18 #[.agg (vvCells v), .slice (some ⟨n, 0, none⟩) 1 c] w (RetB (.agg (vvCells (withV v a))) w) := by
  have e : joinL [a] = a := by simp [joinL]
  have := with_any v [a] (some ⟨n, 0, none⟩) c w hv (by simp [ha]) (by simp) (.inr ⟨_, rfl, blk_lt h, World.news_of_block h⟩)
  rw [e] at this
  exact this
/-- What the map of names answers, and what the document says of a kind under the name. -/
theorem look_name {w : World} {nb m : Nat} {E : DataW Unit} {S : List St} (h : w.ownsMap Try.prog 9 (plainElem Try.prog 3) nb m E) (hN : NamIs E S) (hd : S.Pairwise fun a b => a.1.toList ≠ b.1.toList) (nm : ByteArray) (hs : nm.size ≤ maxLen) :
    ∃ (c : Int) (β : Bool), (∀ W : World, W.heap[nb]? = w.heap[nb]? → (Instr.lookup 82 (.map (some nb)) (.string nm) true).run Try.prog W = .ok (.tuple #[.int .i64 c, .bool β]) W) ∧
      ((β = false ∧ ∀ kd, allowsB S nm kd = true) ∨ (β = true ∧ ∃ (i : Nat) (s : St), c = i ∧ S[i]? = some s ∧ s.1 = nm ∧ ∀ kd, allowsB S nm kd = fitsB s.2 kd)) := by
  have hk : keyOf Try.prog 9 (.string nm) = some (.string nm.data.toList) := by
    rw [keyOf_string Try.underlying9]
    simp [mapKey, Try.underlying9, hs]
  obtain ⟨c, hc, hl⟩ := look_int h lawS Try.underlying82 hk
  refine ⟨c, _, hl, ?_⟩
  by_cases hex : ∃ s ∈ S, s.1 = nm
  · obtain ⟨s, hsm, rfl⟩ := hex
    obtain ⟨i, hi⟩ := List.getElem?_of_mem hsm
    obtain ⟨h1, h2⟩ := hN.at_ i s hi
    refine .inr ⟨h1, i, s, by simpa using hc.symm.trans h2, hi, rfl, fun kd => ?_⟩
    rw [Bool.eq_iff_iff]
    unfold allowsB
    rw [List.all_eq_true]
    constructor
    · intro h
      simpa using h s hsm
    · intro h x hx
      by_cases e : x.1.toList = s.1.toList
      · obtain ⟨j, hj⟩ := List.getElem?_of_mem hx
        have hji : j = i := by
          rcases Nat.lt_trichotomy j i with hlt | hlt | hlt
          · exact absurd e (by
              rw [List.pairwise_iff_getElem] at hd
              obtain ⟨l1, e1⟩ := List.getElem?_eq_some_iff.1 hj
              obtain ⟨l2, e2⟩ := List.getElem?_eq_some_iff.1 hi
              have := hd j i l1 l2 hlt
              rw [e1, e2] at this
              exact this)
          · exact hlt
          · exact absurd e.symm (by
              rw [List.pairwise_iff_getElem] at hd
              obtain ⟨l1, e1⟩ := List.getElem?_eq_some_iff.1 hj
              obtain ⟨l2, e2⟩ := List.getElem?_eq_some_iff.1 hi
              have := hd i j l2 l1 hlt
              rw [e1, e2] at this
              exact this)
        subst hji
        rw [hj] at hi
        cases hi
        simp [h]
      · simp [e]
  · have hno := hN.no_ (.string nm.data.toList) fun s hsm he => hex ⟨s, hsm, by
      have : s.1.data.toList = nm.data.toList := by simpa using he
      exact bytes_eq (by rw [ByteArray.toList_eq, ByteArray.toList_eq, this])⟩
    refine .inl ⟨hno, fun kd => ?_⟩
    unfold allowsB
    rw [List.all_eq_true]
    intro x hx
    have : ¬ x.1.toList = nm.toList := fun e => hex ⟨x, hx, bytes_eq e⟩
    simp [this]
set_option maxRecDepth 100000 in
set_option maxHeartbeats 8000000 in
theorem put_bad {w : World} {B tb : Nat} {T : TabS} {fp : List Nat} (h : TabIn w B tb T fp) (ok : TabOk T) {ctx : Nat} {k v : VV} (hc : ctx < 18446744073709551616) (kk : VOk k) (kv : VOk v) (hik : isKey k = true)  (hst : (decide (k.kind = 3) && !allowsB T.S k.s v.kind) = true) :
    Calls Try.prog 34 #[.pointer (some ⟨tb, 0, none⟩), .int .u64 (ctx : Int), .agg (vvCells k), .agg (vvCells v)] w fun e w' => e = .returned (.int .i64 42) ∧ TabTo w B tb T fp w' := by
  obtain ⟨⟨fv, sv, mb, nb, n, m, D, E, hfp, h1, h2, h3, h4, h5, hne, hnl, hml, hI, hN⟩, hbase⟩ := h
  have h0 : TabIn w B tb T fp := ⟨⟨fv, sv, mb, nb, n, m, D, E, hfp, h1, h2, h3, h4, h5, hne, hnl, hml, hI, hN⟩, hbase⟩
  obtain ⟨AS, cs, rfl, hcs1, hcs2, hAS, hRS⟩ := own_reads h3
  obtain ⟨cn, β, hlk, hβ⟩ := look_name h5 hN ok.dS k.s kk.s
  have hnlt := h5.lt
  have hkeys := fun W => keyof_any k W
  rw [hik, if_pos rfl] at hkeys
  unfold keyV at hkeys
  have hb3 : decide (k.kind = 3) = decide (k.kind = 3) := rfl
  generalize hb3' : decide (k.kind = 3) = b3 at hkeys hb3
  have HK := Lib.hid hkeys
  have HL := Lib.hid hlk
  have H0 := Lib.hid h0
  have H1 := Lib.hid h1
  have H2 := Lib.hid h2
  have H3 := Lib.hid h3
  have H4 := Lib.hid h4
  have HN := Lib.hid hN
  have H5 := Lib.hid h5
  have HRS := Lib.hid hRS
  have HI := Lib.hid hI
  have HOK := Lib.hid ok
  have hjl : ctx ||| k.label < 18446744073709551616 := Nat.or_lt_two_pow (n := 64) hc kk.label
  have hw := fun n c t W h => with1_any v (ctx ||| k.label) n c t W kv.label hjl h
  have hj := fun n c t W h => join2_any ctx k.label n c t W hc kk.label h
  have hf := (fun (W : World) (hW : Below w.heap.size w W) => find_is (h0.kept (Fr.of_below hW []) (by simp)) ok kk)
  generalize hpi : findI T.F k = pi at hf
  have HF := Lib.hid hf
  have HB0 := Lib.hid ((((Below.refl w.heap.size w).alloc (Nat.le_refl _) (.cells (vvCells k) 25)).alloc (by simp) (.cells (vvCells v) 25)))
  generalize hR : withV v (ctx ||| k.label) = R at hw ⊢
  generalize hcj : ctx ||| k.label = cj at hj hw hjl
  have HW := Lib.hid hw
  have HJ := Lib.hid hj
  have HP := Lib.hid hfp
  have HBase := Lib.hid hbase
  have htlt := blk_lt h1
  clear hkeys hlk h0 h1 h2 h3 h4 h5 hRS hI hN ok hw hj hfp hbase hb3 hf
  have heqm := fun W : World => run_eql_map_nil (P := Try.prog) W 81 _ _ (some mb) Try.underlying81
  unfold vvCells at *
  go_enter Try.func34, Try.ntmps34
  go_wp2_with fail
  refine (HK.out _).mono ?_
  rintro e w1 ⟨rfl, hb1⟩
  have HB1 := Lib.hid (HB0.out.trans (hb1.mono (by simp; omega)))
  have U0 := Lib.hid (below_blk hb1 (blk_alloc (heap_alloc_new w _) _))
  have U1 := Lib.hid (below_blk hb1 (heap_new_at _ _ (w.heap.size + 1) (by simp)))
  have U3 := Lib.hid (below_blk HB1.out H1.out)
  clear hb1 HB0
  rcases hβ with ⟨rfl, hal⟩ | ⟨rfl, i', s', rfl, hi', hnm, hal⟩
  · rw [hal] at hst
    simp at hst
  · cases b3
    · rw [hb3'] at hst
      simp at hst
    · obtain ⟨ads, rfl, hadsb, hcells⟩ := HRS.out.at (flatMap_ne (K := 2) (fun a => rfl) (by omega) hi')
      have hil' : (i' : Int) < (T.S.length : Int) := by have := (List.getElem?_eq_some_iff.1 hi').1; omega
      have hi0' : (0 : Int) ≤ i' := by omega
      have hadsb' : (ads.add (i' * 2)).block < w.heap.size := by rw [block_add']; exact hadsb
      have s1 := (HB1.out.cell (p := ⟨(ads.add (i' * 2)).block, _, none⟩) hadsb').trans (st_at hcells hi').c1
      have ls1 : (ads.add (i' * 2)).block < w1.heap.size := Nat.lt_of_lt_of_le hadsb' HB1.out.size
      have hfit := fun W => fits_any s'.2 v.kind W
      rw [show fitsB s'.2 v.kind = false from by rw [← hal]; simpa [hb3'] using hst] at hfit
      have HFit := Lib.hid hfit
      clear hfit hcells hi' hnm hal
      have t2 := cell_of_blk (i := 2) U3.out rfl
      have t4 := cell_of_blk (i := 4) U3.out rfl
      have t3 := cell_of_blk (i := 3) U3.out rfl
      have k2 := cell_of_blk (i := 2) U0.out rfl
      have v0 := cell_of_blk (i := 0) U1.out rfl
      have l3 := blk_lt U3.out
      have l1 := blk_lt U1.out
      have l0 := blk_lt U0.out
      have hlook : ∀ q, (Instr.lookup 82 (.map (some nb)) (.string k.s) true).run Try.prog ((w1.alloc (.cells #[.int .i64 k.n, .string k.s, .bool true] 87)).drewN q) = .ok _ _ := fun q => HL.out _ (blk_same HB1.out hnlt _)
      go_wp2_with fail
      go_quiet (fail)
      go_wp2_with fail
      go_quiet ((go_at_call 58; first | exact quiet_ret (HFit.out _) | exact quiet_ret_add (HFit.out _)))
      refine gen_then fun W5 hW5 => ?_
      have B5 := Lib.hid (show Below w.heap.size w W5 by rw [← hW5]; exact below_drewN (below_drewN (HB1.out.alloc HB1.out.size _) _) _)
      go_wp2_with fail
      go_ret
      exact ⟨rfl, TabTo.same H0.out B5.out⟩
set_option maxRecDepth 100000 in
set_option maxHeartbeats 8000000 in
theorem put_set {w : World} {B tb : Nat} {T : TabS} {fp : List Nat} (h : TabIn w B tb T fp) (ok : TabOk T) {ctx : Nat} {k v : VV} (hc : ctx < 18446744073709551616) (kk : VOk k) (kv : VOk v) (hik : isKey k = true) {i : Nat} {f : Fd} (hfi : T.F[i]? = some f) (hpi' : findI T.F k = (i : Int)) (hfl : flowsB (ctx ||| k.label) f.2.label = true) (hst : (decide (k.kind = 3) && !allowsB T.S k.s v.kind) = false) :
    Calls Try.prog 34 #[.pointer (some ⟨tb, 0, none⟩), .int .u64 (ctx : Int), .agg (vvCells k), .agg (vvCells v)] w fun e w' => e = .returned (.int .i64 0) ∧ TabTo w B tb { T with F := T.F.set i (f.1, withV v (ctx ||| k.label)) } fp w' := by
  obtain ⟨⟨fv, sv, mb, nb, n, m, D, E, hfp, h1, h2, h3, h4, h5, hne, hnl, hml, hI, hN⟩, hbase⟩ := h
  have h0 : TabIn w B tb T fp := ⟨⟨fv, sv, mb, nb, n, m, D, E, hfp, h1, h2, h3, h4, h5, hne, hnl, hml, hI, hN⟩, hbase⟩
  obtain ⟨ad, cf, ct1, hab, hfd, hfz, hto⟩ := tab_elem h0 hfi
  obtain rfl : fv = .slice (some ad) T.F.length cf := by have := (cell_of_blk (i := 1) h1 rfl).symm.trans ct1; simpa using this
  have hil : (i : Int) < (T.F.length : Int) := by have := (List.getElem?_eq_some_iff.1 hfi).1; omega
  have hi0 : (0 : Int) ≤ i := by omega
  have hab' : (ad.add (i * 8)).block < w.heap.size := by rw [block_add']; exact hab
  have hfw := fun W => flows_any (ctx ||| k.label) f.2.label W (Nat.or_lt_two_pow (n := 64) hc kk.label) (ok.vOk f (List.mem_of_getElem? hfi)).label
  rw [hfl] at hfw
  have HFl := Lib.hid hfw
  have HFd := Lib.hid hfd
  have HTo := Lib.hid hto
  have HFz := Lib.hid hfz
  clear hfw hfd hto ct1 hfz
  obtain ⟨AS, cs, rfl, hcs1, hcs2, hAS, hRS⟩ := own_reads h3
  obtain ⟨cn, β, hlk, hβ⟩ := look_name h5 hN ok.dS k.s kk.s
  have hnlt := h5.lt
  have hkeys := fun W => keyof_any k W
  rw [hik, if_pos rfl] at hkeys
  unfold keyV at hkeys
  have hb3 : decide (k.kind = 3) = decide (k.kind = 3) := rfl
  generalize hb3' : decide (k.kind = 3) = b3 at hkeys hb3
  have HK := Lib.hid hkeys
  have HL := Lib.hid hlk
  have H0 := Lib.hid h0
  have H1 := Lib.hid h1
  have H2 := Lib.hid h2
  have H3 := Lib.hid h3
  have H4 := Lib.hid h4
  have HN := Lib.hid hN
  have H5 := Lib.hid h5
  have HRS := Lib.hid hRS
  have HI := Lib.hid hI
  have HOK := Lib.hid ok
  have hjl : ctx ||| k.label < 18446744073709551616 := Nat.or_lt_two_pow (n := 64) hc kk.label
  have hw := fun n c t W h => with1_any v (ctx ||| k.label) n c t W kv.label hjl h
  have hj := fun n c t W h => join2_any ctx k.label n c t W hc kk.label h
  have hf := (fun (W : World) (hW : Below w.heap.size w W) => find_is (h0.kept (Fr.of_below hW []) (by simp)) ok kk)
  generalize hpi : findI T.F k = pi at hf
  have HF := Lib.hid hf
  have HB0 := Lib.hid ((((Below.refl w.heap.size w).alloc (Nat.le_refl _) (.cells (vvCells k) 25)).alloc (by simp) (.cells (vvCells v) 25)))
  generalize hR : withV v (ctx ||| k.label) = R at hw ⊢
  generalize hcj : ctx ||| k.label = cj at hj hw hjl
  have HW := Lib.hid hw
  have HJ := Lib.hid hj
  have HP := Lib.hid hfp
  have HBase := Lib.hid hbase
  have htlt := blk_lt h1
  clear hkeys hlk h0 h1 h2 h3 h4 h5 hRS hI hN ok hw hj hfp hbase hb3 hf
  have heqm := fun W : World => run_eql_map_nil (P := Try.prog) W 81 _ _ (some mb) Try.underlying81
  unfold vvCells at *
  go_enter Try.func34, Try.ntmps34
  go_wp2_with fail
  refine (HK.out _).mono ?_
  rintro e w1 ⟨rfl, hb1⟩
  have HB1 := Lib.hid (HB0.out.trans (hb1.mono (by simp; omega)))
  have U0 := Lib.hid (below_blk hb1 (blk_alloc (heap_alloc_new w _) _))
  have U1 := Lib.hid (below_blk hb1 (heap_new_at _ _ (w.heap.size + 1) (by simp)))
  have U3 := Lib.hid (below_blk HB1.out H1.out)
  clear hb1 HB0
  rcases hβ with ⟨rfl, hal⟩ | ⟨rfl, i', s', rfl, hi', hnm, hal⟩
  · have t2 := cell_of_blk (i := 2) U3.out rfl
    have t4 := cell_of_blk (i := 4) U3.out rfl
    have t3 := cell_of_blk (i := 3) U3.out rfl
    have k2 := cell_of_blk (i := 2) U0.out rfl
    have v0 := cell_of_blk (i := 0) U1.out rfl
    have l3 := blk_lt U3.out
    have l1 := blk_lt U1.out
    have l0 := blk_lt U0.out
    have hlook : ∀ q, (Instr.lookup 82 (.map (some nb)) (.string k.s) true).run Try.prog ((w1.alloc (.cells #[.int .i64 k.n, .string k.s, .bool b3] 87)).drewN q) = .ok _ _ := fun q => HL.out _ (blk_same HB1.out hnlt _)
    go_wp2_with fail
    go_quiet (fail)
    go_wp2_with fail
    go_quiet (fail)
    refine gen_then fun W5 hW5 => ?_
    have B5 := Lib.hid (show Below w.heap.size w W5 by rw [← hW5]; exact below_drewN (below_drewN (HB1.out.alloc HB1.out.size _) _) _)
    have A0 := Lib.hid (show W5.heap[w.heap.size]? = some (.cells #[.int .i64 k.kind, .int .i64 k.n, .string k.s, .int .u64 (k.label : Int)] 25 (0, 0)) by rw [← hW5]; exact blk_alloc U0.out _)
    have A1 := Lib.hid (show W5.heap[w.heap.size + 1]? = some (.cells #[.int .i64 v.kind, .int .i64 v.n, .string v.s, .int .u64 (v.label : Int)] 25 (0, 0)) by rw [← hW5]; exact blk_alloc U1.out _)
    have A2 := Lib.hid (show W5.heap[w1.heap.size]? = some (.cells #[.int .i64 k.n, .string k.s, .bool b3] 87 (0, 0)) by rw [← hW5]; exact heap_alloc_new _ _)
    have A3 := Lib.hid (below_blk B5.out H1.out)
    have hw1 : w.heap.size + 1 < w1.heap.size := blk_lt U1.out
    clear hW5 hlook t2 t3 t4 k2 v0 l3 l1 l0 U0 U1 U3 HB1
    have k0 := cell_of_blk (i := 0) A0.out rfl
    have k1 := cell_of_blk (i := 1) A0.out rfl
    have k2 := cell_of_blk (i := 2) A0.out rfl
    have k3 := cell_of_blk (i := 3) A0.out rfl
    have v0 := cell_of_blk (i := 0) A1.out rfl
    have v1 := cell_of_blk (i := 1) A1.out rfl
    have v2 := cell_of_blk (i := 2) A1.out rfl
    have v3 := cell_of_blk (i := 3) A1.out rfl
    have l0 := blk_lt A0.out
    have l1 := blk_lt A1.out
    go_wp2_with fail
    refine (HJ.out _ _ _ _ (heap_alloc_new _ _)).mono ?_
    rintro e w6 ⟨rfl, rfl⟩
    go_wp2_with fail
    refine (HW.out _ _ _ _ (heap_new_at _ _ _ (by simp))).mono ?_
    rintro e w6 ⟨rfl, hb6⟩
    have B6 := Lib.hid (B5.out.trans ((((Below.refl _ _).alloc (Nat.le_refl _) _).alloc (by simp) _).trans (hb6.mono (by simp; omega)) |>.mono B5.out.size))
    have C0 := Lib.hid (below_blk hb6 (blk_alloc (blk_alloc A0.out _) _))
    have C1 := Lib.hid (below_blk hb6 (blk_alloc (blk_alloc A1.out _) _))
    have C2 := Lib.hid (below_blk hb6 (blk_alloc (blk_alloc A2.out _) _))
    have C3 := Lib.hid (below_blk hb6 (blk_alloc (blk_alloc A3.out _) _))
    clear hb6 k0 k1 k2 k3 v0 v1 v2 v3 A0 A1 A2 A3 l0 l1
    have k0 := cell_of_blk (i := 0) C0.out rfl
    have k1 := cell_of_blk (i := 1) C0.out rfl
    have k2 := cell_of_blk (i := 2) C0.out rfl
    have k3 := cell_of_blk (i := 3) C0.out rfl
    have v0 := cell_of_blk (i := 0) C1.out rfl
    have v1 := cell_of_blk (i := 1) C1.out rfl
    have v2 := cell_of_blk (i := 2) C1.out rfl
    have v3 := cell_of_blk (i := 3) C1.out rfl
    have z0 := free_of_blk (i := 0) C1.out
    have z1 := free_of_blk (i := 1) C1.out
    have z2 := free_of_blk (i := 2) C1.out
    have z3 := free_of_blk (i := 3) C1.out
    have l0 := blk_lt C0.out
    have l1 := blk_lt C1.out
    have hb7 : Below w.heap.size w ((((w6.setCell ⟨w.heap.size + 1, 0, none⟩ (.int .i64 R.kind)).setCell ⟨w.heap.size + 1, 1, none⟩ (.int .i64 R.n)).setCell ⟨w.heap.size + 1, 2, none⟩ (.string R.s)).setCell ⟨w.heap.size + 1, 3, none⟩ (.int .u64 (R.label : Int))) := (((B6.out.setCell (by simp) _).setCell (by simp) _).setCell (by simp) _).setCell (by simp) _
    have F7 := Lib.hid (HF.out _ hb7)
    have B7 := Lib.hid hb7
    clear hb7
    go_wp2_with fail
    refine F7.out.mono ?_
    rintro e w7 ⟨rfl, hb8⟩
    have B8 := Lib.hid (B7.out.trans (hb8.mono B7.out.size))
    have ne0 : w.heap.size ≠ w.heap.size + 1 := by omega
    have ne2 : w1.heap.size ≠ w.heap.size + 1 := by omega
    have G0 := Lib.hid (below_blk hb8 (blk_far (blk_far (blk_far (blk_far C0.out ne0 _) ne0 _) ne0 _) ne0 _))
    have G1 := Lib.hid (show w7.heap[w.heap.size + 1]? = some (.cells #[.int .i64 R.kind, .int .i64 R.n, .string R.s, .int .u64 (R.label : Int)] 25 (0, 0)) from below_blk hb8 (blk_set (i := 3) (blk_set (i := 2) (blk_set (i := 1) (blk_set (i := 0) C1.out _) _) _) _))
    have G2 := Lib.hid (below_blk hb8 (blk_far (blk_far (blk_far (blk_far C2.out ne2 _) ne2 _) ne2 _) ne2 _))
    have G3 := Lib.hid (below_blk B8.out H1.out)
    clear hb8 k0 k1 k2 k3 v0 v1 v2 v3 z0 z1 z2 z3 l0 l1 C0 C1 C2 C3 F7 B7 B6 B5 ne0 ne2
    obtain rfl : pi = (i : Int) := hpi.symm.trans hpi'
    obtain ⟨_, _, _, _, _, _, _, x7⟩ := HFd.out.below B8.out hab'
    have t1 := cell_of_blk (i := 1) G3.out rfl
    have l3 := blk_lt G3.out
    go_wp2_with fail
    have F9 := HFl.out w7
    rw [hcj] at F9
    refine F9.mono ?_
    rintro e w9 ⟨rfl, rfl⟩
    have v0 := cell_of_blk (i := 0) G1.out rfl
    have v1 := cell_of_blk (i := 1) G1.out rfl
    have v2 := cell_of_blk (i := 2) G1.out rfl
    have v3 := cell_of_blk (i := 3) G1.out rfl
    have z0 : w7.frozen? ⟨(ad.add (i * 8)).block, (ad.add (i * 8)).off + 4, none⟩ = false := (below_frozen B8.out (a := ⟨(ad.add (i * 8)).block, _, none⟩) hab').trans (HFz.out _)
    have z1 : w7.frozen? ⟨(ad.add (i * 8)).block, (ad.add (i * 8)).off + 5, none⟩ = false := (below_frozen B8.out (a := ⟨(ad.add (i * 8)).block, _, none⟩) hab').trans (HFz.out _)
    have z2 : w7.frozen? ⟨(ad.add (i * 8)).block, (ad.add (i * 8)).off + 6, none⟩ = false := (below_frozen B8.out (a := ⟨(ad.add (i * 8)).block, _, none⟩) hab').trans (HFz.out _)
    have z3 : w7.frozen? ⟨(ad.add (i * 8)).block, (ad.add (i * 8)).off + 7, none⟩ = false := (below_frozen B8.out (a := ⟨(ad.add (i * 8)).block, _, none⟩) hab').trans (HFz.out _)
    have l1 := blk_lt G1.out
    have l9 := Nat.lt_of_lt_of_le hab' B8.out.size
    go_wp2_with fail
    go_region
    go_wp2_with fail
    go_ret
    exact ⟨rfl, (HTo.out w7 R B8.out).drew⟩
  · cases b3
    · have t2 := cell_of_blk (i := 2) U3.out rfl
      have t4 := cell_of_blk (i := 4) U3.out rfl
      have t3 := cell_of_blk (i := 3) U3.out rfl
      have k2 := cell_of_blk (i := 2) U0.out rfl
      have v0 := cell_of_blk (i := 0) U1.out rfl
      have l3 := blk_lt U3.out
      have l1 := blk_lt U1.out
      have l0 := blk_lt U0.out
      have hlook : ∀ q, (Instr.lookup 82 (.map (some nb)) (.string k.s) true).run Try.prog ((w1.alloc (.cells #[.int .i64 k.n, .string k.s, .bool false] 87)).drewN q) = .ok _ _ := fun q => HL.out _ (blk_same HB1.out hnlt _)
      go_wp2_with fail
      go_quiet (fail)
      go_wp2_with fail
      go_quiet (fail)
      refine gen_then fun W5 hW5 => ?_
      have B5 := Lib.hid (show Below w.heap.size w W5 by rw [← hW5]; exact below_drewN (below_drewN (HB1.out.alloc HB1.out.size _) _) _)
      have A0 := Lib.hid (show W5.heap[w.heap.size]? = some (.cells #[.int .i64 k.kind, .int .i64 k.n, .string k.s, .int .u64 (k.label : Int)] 25 (0, 0)) by rw [← hW5]; exact blk_alloc U0.out _)
      have A1 := Lib.hid (show W5.heap[w.heap.size + 1]? = some (.cells #[.int .i64 v.kind, .int .i64 v.n, .string v.s, .int .u64 (v.label : Int)] 25 (0, 0)) by rw [← hW5]; exact blk_alloc U1.out _)
      have A2 := Lib.hid (show W5.heap[w1.heap.size]? = some (.cells #[.int .i64 k.n, .string k.s, .bool false] 87 (0, 0)) by rw [← hW5]; exact heap_alloc_new _ _)
      have A3 := Lib.hid (below_blk B5.out H1.out)
      have hw1 : w.heap.size + 1 < w1.heap.size := blk_lt U1.out
      clear hW5 hlook t2 t3 t4 k2 v0 l3 l1 l0 U0 U1 U3 HB1
      have k0 := cell_of_blk (i := 0) A0.out rfl
      have k1 := cell_of_blk (i := 1) A0.out rfl
      have k2 := cell_of_blk (i := 2) A0.out rfl
      have k3 := cell_of_blk (i := 3) A0.out rfl
      have v0 := cell_of_blk (i := 0) A1.out rfl
      have v1 := cell_of_blk (i := 1) A1.out rfl
      have v2 := cell_of_blk (i := 2) A1.out rfl
      have v3 := cell_of_blk (i := 3) A1.out rfl
      have l0 := blk_lt A0.out
      have l1 := blk_lt A1.out
      go_wp2_with fail
      refine (HJ.out _ _ _ _ (heap_alloc_new _ _)).mono ?_
      rintro e w6 ⟨rfl, rfl⟩
      go_wp2_with fail
      refine (HW.out _ _ _ _ (heap_new_at _ _ _ (by simp))).mono ?_
      rintro e w6 ⟨rfl, hb6⟩
      have B6 := Lib.hid (B5.out.trans ((((Below.refl _ _).alloc (Nat.le_refl _) _).alloc (by simp) _).trans (hb6.mono (by simp; omega)) |>.mono B5.out.size))
      have C0 := Lib.hid (below_blk hb6 (blk_alloc (blk_alloc A0.out _) _))
      have C1 := Lib.hid (below_blk hb6 (blk_alloc (blk_alloc A1.out _) _))
      have C2 := Lib.hid (below_blk hb6 (blk_alloc (blk_alloc A2.out _) _))
      have C3 := Lib.hid (below_blk hb6 (blk_alloc (blk_alloc A3.out _) _))
      clear hb6 k0 k1 k2 k3 v0 v1 v2 v3 A0 A1 A2 A3 l0 l1
      have k0 := cell_of_blk (i := 0) C0.out rfl
      have k1 := cell_of_blk (i := 1) C0.out rfl
      have k2 := cell_of_blk (i := 2) C0.out rfl
      have k3 := cell_of_blk (i := 3) C0.out rfl
      have v0 := cell_of_blk (i := 0) C1.out rfl
      have v1 := cell_of_blk (i := 1) C1.out rfl
      have v2 := cell_of_blk (i := 2) C1.out rfl
      have v3 := cell_of_blk (i := 3) C1.out rfl
      have z0 := free_of_blk (i := 0) C1.out
      have z1 := free_of_blk (i := 1) C1.out
      have z2 := free_of_blk (i := 2) C1.out
      have z3 := free_of_blk (i := 3) C1.out
      have l0 := blk_lt C0.out
      have l1 := blk_lt C1.out
      have hb7 : Below w.heap.size w ((((w6.setCell ⟨w.heap.size + 1, 0, none⟩ (.int .i64 R.kind)).setCell ⟨w.heap.size + 1, 1, none⟩ (.int .i64 R.n)).setCell ⟨w.heap.size + 1, 2, none⟩ (.string R.s)).setCell ⟨w.heap.size + 1, 3, none⟩ (.int .u64 (R.label : Int))) := (((B6.out.setCell (by simp) _).setCell (by simp) _).setCell (by simp) _).setCell (by simp) _
      have F7 := Lib.hid (HF.out _ hb7)
      have B7 := Lib.hid hb7
      clear hb7
      go_wp2_with fail
      refine F7.out.mono ?_
      rintro e w7 ⟨rfl, hb8⟩
      have B8 := Lib.hid (B7.out.trans (hb8.mono B7.out.size))
      have ne0 : w.heap.size ≠ w.heap.size + 1 := by omega
      have ne2 : w1.heap.size ≠ w.heap.size + 1 := by omega
      have G0 := Lib.hid (below_blk hb8 (blk_far (blk_far (blk_far (blk_far C0.out ne0 _) ne0 _) ne0 _) ne0 _))
      have G1 := Lib.hid (show w7.heap[w.heap.size + 1]? = some (.cells #[.int .i64 R.kind, .int .i64 R.n, .string R.s, .int .u64 (R.label : Int)] 25 (0, 0)) from below_blk hb8 (blk_set (i := 3) (blk_set (i := 2) (blk_set (i := 1) (blk_set (i := 0) C1.out _) _) _) _))
      have G2 := Lib.hid (below_blk hb8 (blk_far (blk_far (blk_far (blk_far C2.out ne2 _) ne2 _) ne2 _) ne2 _))
      have G3 := Lib.hid (below_blk B8.out H1.out)
      clear hb8 k0 k1 k2 k3 v0 v1 v2 v3 z0 z1 z2 z3 l0 l1 C0 C1 C2 C3 F7 B7 B6 B5 ne0 ne2
      obtain rfl : pi = (i : Int) := hpi.symm.trans hpi'
      obtain ⟨_, _, _, _, _, _, _, x7⟩ := HFd.out.below B8.out hab'
      have t1 := cell_of_blk (i := 1) G3.out rfl
      have l3 := blk_lt G3.out
      go_wp2_with fail
      have F9 := HFl.out w7
      rw [hcj] at F9
      refine F9.mono ?_
      rintro e w9 ⟨rfl, rfl⟩
      have v0 := cell_of_blk (i := 0) G1.out rfl
      have v1 := cell_of_blk (i := 1) G1.out rfl
      have v2 := cell_of_blk (i := 2) G1.out rfl
      have v3 := cell_of_blk (i := 3) G1.out rfl
      have z0 : w7.frozen? ⟨(ad.add (i * 8)).block, (ad.add (i * 8)).off + 4, none⟩ = false := (below_frozen B8.out (a := ⟨(ad.add (i * 8)).block, _, none⟩) hab').trans (HFz.out _)
      have z1 : w7.frozen? ⟨(ad.add (i * 8)).block, (ad.add (i * 8)).off + 5, none⟩ = false := (below_frozen B8.out (a := ⟨(ad.add (i * 8)).block, _, none⟩) hab').trans (HFz.out _)
      have z2 : w7.frozen? ⟨(ad.add (i * 8)).block, (ad.add (i * 8)).off + 6, none⟩ = false := (below_frozen B8.out (a := ⟨(ad.add (i * 8)).block, _, none⟩) hab').trans (HFz.out _)
      have z3 : w7.frozen? ⟨(ad.add (i * 8)).block, (ad.add (i * 8)).off + 7, none⟩ = false := (below_frozen B8.out (a := ⟨(ad.add (i * 8)).block, _, none⟩) hab').trans (HFz.out _)
      have l1 := blk_lt G1.out
      have l9 := Nat.lt_of_lt_of_le hab' B8.out.size
      go_wp2_with fail
      go_region
      go_wp2_with fail
      go_ret
      exact ⟨rfl, (HTo.out w7 R B8.out).drew⟩
    · obtain ⟨ads, rfl, hadsb, hcells⟩ := HRS.out.at (flatMap_ne (K := 2) (fun a => rfl) (by omega) hi')
      have hil' : (i' : Int) < (T.S.length : Int) := by have := (List.getElem?_eq_some_iff.1 hi').1; omega
      have hi0' : (0 : Int) ≤ i' := by omega
      have hadsb' : (ads.add (i' * 2)).block < w.heap.size := by rw [block_add']; exact hadsb
      have s1 := (HB1.out.cell (p := ⟨(ads.add (i' * 2)).block, _, none⟩) hadsb').trans (st_at hcells hi').c1
      have ls1 : (ads.add (i' * 2)).block < w1.heap.size := Nat.lt_of_lt_of_le hadsb' HB1.out.size
      have hfit := fun W => fits_any s'.2 v.kind W
      rw [show fitsB s'.2 v.kind = true from by rw [← hal]; simpa [hb3'] using hst] at hfit
      have HFit := Lib.hid hfit
      clear hfit hcells hi' hnm hal
      have t2 := cell_of_blk (i := 2) U3.out rfl
      have t4 := cell_of_blk (i := 4) U3.out rfl
      have t3 := cell_of_blk (i := 3) U3.out rfl
      have k2 := cell_of_blk (i := 2) U0.out rfl
      have v0 := cell_of_blk (i := 0) U1.out rfl
      have l3 := blk_lt U3.out
      have l1 := blk_lt U1.out
      have l0 := blk_lt U0.out
      have hlook : ∀ q, (Instr.lookup 82 (.map (some nb)) (.string k.s) true).run Try.prog ((w1.alloc (.cells #[.int .i64 k.n, .string k.s, .bool true] 87)).drewN q) = .ok _ _ := fun q => HL.out _ (blk_same HB1.out hnlt _)
      go_wp2_with fail
      go_quiet (fail)
      go_wp2_with fail
      go_quiet ((go_at_call 58; first | exact quiet_ret (HFit.out _) | exact quiet_ret_add (HFit.out _)))
      refine gen_then fun W5 hW5 => ?_
      have B5 := Lib.hid (show Below w.heap.size w W5 by rw [← hW5]; exact below_drewN (below_drewN (HB1.out.alloc HB1.out.size _) _) _)
      have A0 := Lib.hid (show W5.heap[w.heap.size]? = some (.cells #[.int .i64 k.kind, .int .i64 k.n, .string k.s, .int .u64 (k.label : Int)] 25 (0, 0)) by rw [← hW5]; exact blk_alloc U0.out _)
      have A1 := Lib.hid (show W5.heap[w.heap.size + 1]? = some (.cells #[.int .i64 v.kind, .int .i64 v.n, .string v.s, .int .u64 (v.label : Int)] 25 (0, 0)) by rw [← hW5]; exact blk_alloc U1.out _)
      have A2 := Lib.hid (show W5.heap[w1.heap.size]? = some (.cells #[.int .i64 k.n, .string k.s, .bool true] 87 (0, 0)) by rw [← hW5]; exact heap_alloc_new _ _)
      have A3 := Lib.hid (below_blk B5.out H1.out)
      have hw1 : w.heap.size + 1 < w1.heap.size := blk_lt U1.out
      clear hW5 hlook t2 t3 t4 k2 v0 l3 l1 l0 U0 U1 U3 HB1
      have k0 := cell_of_blk (i := 0) A0.out rfl
      have k1 := cell_of_blk (i := 1) A0.out rfl
      have k2 := cell_of_blk (i := 2) A0.out rfl
      have k3 := cell_of_blk (i := 3) A0.out rfl
      have v0 := cell_of_blk (i := 0) A1.out rfl
      have v1 := cell_of_blk (i := 1) A1.out rfl
      have v2 := cell_of_blk (i := 2) A1.out rfl
      have v3 := cell_of_blk (i := 3) A1.out rfl
      have l0 := blk_lt A0.out
      have l1 := blk_lt A1.out
      go_wp2_with fail
      refine (HJ.out _ _ _ _ (heap_alloc_new _ _)).mono ?_
      rintro e w6 ⟨rfl, rfl⟩
      go_wp2_with fail
      refine (HW.out _ _ _ _ (heap_new_at _ _ _ (by simp))).mono ?_
      rintro e w6 ⟨rfl, hb6⟩
      have B6 := Lib.hid (B5.out.trans ((((Below.refl _ _).alloc (Nat.le_refl _) _).alloc (by simp) _).trans (hb6.mono (by simp; omega)) |>.mono B5.out.size))
      have C0 := Lib.hid (below_blk hb6 (blk_alloc (blk_alloc A0.out _) _))
      have C1 := Lib.hid (below_blk hb6 (blk_alloc (blk_alloc A1.out _) _))
      have C2 := Lib.hid (below_blk hb6 (blk_alloc (blk_alloc A2.out _) _))
      have C3 := Lib.hid (below_blk hb6 (blk_alloc (blk_alloc A3.out _) _))
      clear hb6 k0 k1 k2 k3 v0 v1 v2 v3 A0 A1 A2 A3 l0 l1
      have k0 := cell_of_blk (i := 0) C0.out rfl
      have k1 := cell_of_blk (i := 1) C0.out rfl
      have k2 := cell_of_blk (i := 2) C0.out rfl
      have k3 := cell_of_blk (i := 3) C0.out rfl
      have v0 := cell_of_blk (i := 0) C1.out rfl
      have v1 := cell_of_blk (i := 1) C1.out rfl
      have v2 := cell_of_blk (i := 2) C1.out rfl
      have v3 := cell_of_blk (i := 3) C1.out rfl
      have z0 := free_of_blk (i := 0) C1.out
      have z1 := free_of_blk (i := 1) C1.out
      have z2 := free_of_blk (i := 2) C1.out
      have z3 := free_of_blk (i := 3) C1.out
      have l0 := blk_lt C0.out
      have l1 := blk_lt C1.out
      have hb7 : Below w.heap.size w ((((w6.setCell ⟨w.heap.size + 1, 0, none⟩ (.int .i64 R.kind)).setCell ⟨w.heap.size + 1, 1, none⟩ (.int .i64 R.n)).setCell ⟨w.heap.size + 1, 2, none⟩ (.string R.s)).setCell ⟨w.heap.size + 1, 3, none⟩ (.int .u64 (R.label : Int))) := (((B6.out.setCell (by simp) _).setCell (by simp) _).setCell (by simp) _).setCell (by simp) _
      have F7 := Lib.hid (HF.out _ hb7)
      have B7 := Lib.hid hb7
      clear hb7
      go_wp2_with fail
      refine F7.out.mono ?_
      rintro e w7 ⟨rfl, hb8⟩
      have B8 := Lib.hid (B7.out.trans (hb8.mono B7.out.size))
      have ne0 : w.heap.size ≠ w.heap.size + 1 := by omega
      have ne2 : w1.heap.size ≠ w.heap.size + 1 := by omega
      have G0 := Lib.hid (below_blk hb8 (blk_far (blk_far (blk_far (blk_far C0.out ne0 _) ne0 _) ne0 _) ne0 _))
      have G1 := Lib.hid (show w7.heap[w.heap.size + 1]? = some (.cells #[.int .i64 R.kind, .int .i64 R.n, .string R.s, .int .u64 (R.label : Int)] 25 (0, 0)) from below_blk hb8 (blk_set (i := 3) (blk_set (i := 2) (blk_set (i := 1) (blk_set (i := 0) C1.out _) _) _) _))
      have G2 := Lib.hid (below_blk hb8 (blk_far (blk_far (blk_far (blk_far C2.out ne2 _) ne2 _) ne2 _) ne2 _))
      have G3 := Lib.hid (below_blk B8.out H1.out)
      clear hb8 k0 k1 k2 k3 v0 v1 v2 v3 z0 z1 z2 z3 l0 l1 C0 C1 C2 C3 F7 B7 B6 B5 ne0 ne2
      obtain rfl : pi = (i : Int) := hpi.symm.trans hpi'
      obtain ⟨_, _, _, _, _, _, _, x7⟩ := HFd.out.below B8.out hab'
      have t1 := cell_of_blk (i := 1) G3.out rfl
      have l3 := blk_lt G3.out
      go_wp2_with fail
      have F9 := HFl.out w7
      rw [hcj] at F9
      refine F9.mono ?_
      rintro e w9 ⟨rfl, rfl⟩
      have v0 := cell_of_blk (i := 0) G1.out rfl
      have v1 := cell_of_blk (i := 1) G1.out rfl
      have v2 := cell_of_blk (i := 2) G1.out rfl
      have v3 := cell_of_blk (i := 3) G1.out rfl
      have z0 : w7.frozen? ⟨(ad.add (i * 8)).block, (ad.add (i * 8)).off + 4, none⟩ = false := (below_frozen B8.out (a := ⟨(ad.add (i * 8)).block, _, none⟩) hab').trans (HFz.out _)
      have z1 : w7.frozen? ⟨(ad.add (i * 8)).block, (ad.add (i * 8)).off + 5, none⟩ = false := (below_frozen B8.out (a := ⟨(ad.add (i * 8)).block, _, none⟩) hab').trans (HFz.out _)
      have z2 : w7.frozen? ⟨(ad.add (i * 8)).block, (ad.add (i * 8)).off + 6, none⟩ = false := (below_frozen B8.out (a := ⟨(ad.add (i * 8)).block, _, none⟩) hab').trans (HFz.out _)
      have z3 : w7.frozen? ⟨(ad.add (i * 8)).block, (ad.add (i * 8)).off + 7, none⟩ = false := (below_frozen B8.out (a := ⟨(ad.add (i * 8)).block, _, none⟩) hab').trans (HFz.out _)
      have l1 := blk_lt G1.out
      have l9 := Nat.lt_of_lt_of_le hab' B8.out.size
      go_wp2_with fail
      go_region
      go_wp2_with fail
      go_ret
      exact ⟨rfl, (HTo.out w7 R B8.out).drew⟩
end Go.Proofs.Ythhphjfbdoffhaa
