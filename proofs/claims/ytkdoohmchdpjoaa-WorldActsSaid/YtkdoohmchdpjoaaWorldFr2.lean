/-
  Chapter 23: both Reads: what was put out stays where it is.
-/
import Derived.Test.YtkdoohmchdpjoaaWorldFr
set_option linter.unusedVariables false
set_option linter.unusedSimpArgs false
namespace Go.Proofs.Ytkdoohmchdpjoaa
open Go.ChangeShapes Go.WideShapes Go.ChangeAt Go.RowKit

set_option maxRecDepth 100000 in
set_option maxHeartbeats 2000000 in
theorem wread_fr {B g : Nat} {P : List CV} {ev : List Ev} (l : Nat) (k : Int) (w : World) (hw : WorldIn w B g P ev) (hM : Ms P) (hl : l < 18446744073709551616) (hBw : B ≤ w.heap.size) :
    Calls Try.prog 24 #[.pointer (some ⟨g, 0, none⟩), .int .u64 (l : Int), .int .i64 k] w fun e w' => e = .returned (.tuple #[.agg (vvCells (readS P l k).2.1), .int .i64 (readS P l k).2.2]) ∧ WorldIn w' B g (readS P l k).1 ev ∧ Keep B [93] w w' ∧ Still w w' g := by
  have HG := Lib.hid (show g < w.heap.size from hw.own.elim fun v h => blk_lt h.1)
  have hmay := wmay_any l k (w.alloc (.cells #[.int .i64 0, .int .i64 0, .string ByteArray.empty, .int .u64 0] 61)) (hw.below ((Below.refl _ _).alloc (Nat.le_refl _) _)) hM hl
  have hwA := hw.below ((Below.refl _ _).alloc (Nat.le_refl _) (.cells #[.int .i64 0, .int .i64 0, .string ByteArray.empty, .int .u64 0] 61))
  unfold readS
  unfold mayS at hmay
  cases hc : chOf P k with
  | none =>
    simp only [hc] at hmay
    go_enter Try.func24, Try.ntmps24
    go_wp2_with (go_at_call 37; refine hmay.mono ?_; rintro e w' ⟨rfl, rfl⟩)
    exact bodyPost_ret (v := .tuple #[.agg (vvCells zeroVV), .int .i64 1]) (by simp [results, Try.results24, go_sem]; rfl) rfl ⟨rfl, hwA, (Keep.refl _ _ _).alloc _, Still.of_below ((Below.refl _ _).alloc (Nat.le_refl _) _) HG.out⟩
  | some c =>
    simp only [hc] at hmay
    obtain ⟨n, rfl, hn, hP⟩ := chOf_some hc
    cases hf : flowsB l c.mask with
    | false =>
      simp only [hf, if_true, if_false, Bool.false_eq_true] at hmay
      go_enter Try.func24, Try.ntmps24
      go_wp2_with (go_at_call 37; refine hmay.mono ?_; rintro e w' ⟨rfl, rfl⟩)
      all_goals exact bodyPost_ret (v := .tuple #[.agg (vvCells zeroVV), .int .i64 40]) (by simp [results, Try.results24, go_sem]; rfl) rfl ⟨rfl, hwA, (Keep.refl _ _ _).alloc _, Still.of_below ((Below.refl _ _).alloc (Nat.le_refl _) _) HG.out⟩
    | true =>
      simp only [hf, if_true, if_false, Bool.false_eq_true] at hmay
      obtain ⟨ca, cb, cc⟩ := hw.cellsAt hP
      obtain ⟨fa, fb, fc⟩ := hw.freeAt n
      obtain ⟨A, cap, hv, hc1, hc2, hcell⟩ := own_form (hw.ins c (List.mem_of_getElem? hP))
      rw [hv] at cb
      have h1 : (0 : Int) ≤ n := by omega
      have h8 : (n : Int) < 8 := by omega
      have hgl := hw.glt
      cases hx : c.ins[c.read]? with
      | none =>
        have hle := List.getElem?_eq_none_iff.1 hx
        have hlt : ¬ (c.read : Int) < c.ins.length := by omega
        go_enter Try.func24, Try.ntmps24
        go_wp2_with (go_at_call 37; refine hmay.mono ?_; rintro e w' ⟨rfl, rfl⟩)
        go_quiet (fail)
        go_wp2
        exact bodyPost_ret (v := .tuple #[.agg (vvCells ⟨0, 0, ByteArray.empty, c.mask⟩), .int .i64 0]) (by simp [results, Try.results24, go_sem]; rfl) rfl ⟨rfl, hw.below (by (repeat' (first | exact Below.refl _ _ | refine below_drewN ?_ _ | refine Below.setCell ?_ ?_ _ | refine Below.alloc ?_ ?_ _ | (simp; done) | omega))), Keep.of_below (by (repeat' (first | exact Below.refl _ _ | refine below_drewN ?_ _ | refine Below.setCell ?_ ?_ _ | refine Below.alloc ?_ ?_ _ | (simp; done) | omega))) _ _, Still.of_below (by (repeat' (first | exact Below.refl _ _ | refine below_drewN ?_ _ | refine Below.setCell ?_ ?_ _ | refine Below.alloc ?_ ?_ _ | (simp; done) | omega))) HG.out⟩
      | some x =>
        have hle := (List.getElem?_eq_some_iff.1 hx).1
        have hlt : (c.read : Int) < c.ins.length := by omega
        go_enter Try.func24, Try.ntmps24
        go_wp2_with (go_at_call 37; refine hmay.mono ?_; rintro e w' ⟨rfl, rfl⟩)
        go_quiet (fail)
        go_wp2
        refine gen_wp fun W2 hW2 => ?_
        have hb2 : Below w.heap.size w W2 := by rw [← hW2]; (repeat' (first | exact Below.refl _ _ | refine below_drewN ?_ _ | refine Below.setCell ?_ ?_ _ | refine Below.alloc ?_ ?_ _ | (simp; done) | omega))
        have hN : w.heap.size + 2 ≤ W2.heap.size := by rw [← hW2]; simp
        have hx2 : W2.heap[w.heap.size + 1]? = some (.cells #[.int .i64 0, .int .i64 0, .string ByteArray.empty, .int .u64 (c.mask : Int)] 61 (0, 0)) := by rw [← hW2]; exact blk_drew (heap_new_at _ _ _ (by simp))
        have hr2 : W2.heap[w.heap.size]? = some (.cells #[.int .i64 0, .int .i64 0, .string ByteArray.empty, .int .u64 0] 61 (0, 0)) := by rw [← hW2]; exact blk_drew (blk_alloc (heap_new_at _ _ _ rfl) _)
        have hw2 := hw.below hb2
        obtain ⟨da, db, dc⟩ := hw2.cellsAt hP
        obtain ⟨ea, eb, ec⟩ := hw2.freeAt n
        rw [hv] at db
        obtain ⟨gb, rfl, hgB, hgl2, _, hcell2⟩ := hcell (by omega)
        have dd := (hb2.cell (p := ⟨gb, c.read, none⟩) hgl2).trans (hcell2 c.read (.int .i64 x) (by simp [intCells, hx]))
        have x0 := cell_of_blk (i := 0) hx2 rfl
        have x1 := cell_of_blk (i := 1) hx2 rfl
        have x2 := cell_of_blk (i := 2) hx2 rfl
        have x3 := cell_of_blk (i := 3) hx2 rfl
        have y0 := cell_of_blk (i := 0) hr2 rfl
        have y1 := cell_of_blk (i := 1) hr2 rfl
        have y2 := cell_of_blk (i := 2) hr2 rfl
        have y3 := cell_of_blk (i := 3) hr2 rfl
        have g0 := free_of_blk (i := 0) hr2
        have g1 := free_of_blk (i := 1) hr2
        have g2 := free_of_blk (i := 2) hr2
        have g3 := free_of_blk (i := 3) hr2
        have f0 := free_of_blk (i := 0) hx2
        have f1 := free_of_blk (i := 1) hx2
        have HX2 := Lib.hid hx2
        have HR2 := Lib.hid hr2
        clear hcell hcell2 ca cb cc fa fb fc hwA hmay hW2 hx2 hr2 x0 x1 x2 x3 y0 y1 y2 y3 f0 f1 g0 g1 g2 g3
        have x0 := cell_of_blk (i := 0) HX2.out rfl
        have x1 := cell_of_blk (i := 1) HX2.out rfl
        have f0 := free_of_blk (i := 0) HX2.out
        have f1 := free_of_blk (i := 1) HX2.out
        have hneg : w.heap.size + 1 ≠ g := by omega
        have hneg' : w.heap.size ≠ g := by omega
        have hneb : w.heap.size + 1 ≠ gb := by omega
        have hn12 : w.heap.size + 1 ≠ w.heap.size := by omega
        have hn21 : w.heap.size ≠ w.heap.size + 1 := by omega
        have hge1 : w.heap.size ≤ w.heap.size + 1 := by omega
        clear hN
        generalize hb1 : w.heap.size + 1 = b1 at HX2 hneg hneb hn12 hn21 hge1 x0 x1 f0 f1 ⊢
        clear hb1
        go_region
        have x2 := cell_of_blk (i := 2) HX2.out rfl
        have x3 := cell_of_blk (i := 3) HX2.out rfl
        have y0 := cell_of_blk (i := 0) HR2.out rfl
        have y1 := cell_of_blk (i := 1) HR2.out rfl
        have y2 := cell_of_blk (i := 2) HR2.out rfl
        have y3 := cell_of_blk (i := 3) HR2.out rfl
        have g0 := free_of_blk (i := 0) HR2.out
        have g1 := free_of_blk (i := 1) HR2.out
        have g2 := free_of_blk (i := 2) HR2.out
        have g3 := free_of_blk (i := 3) HR2.out
        go_wp2
        have hwr : wrap64 ((c.read : Int) + 1) = ((c.read + 1 : Nat) : Int) := by unfold maxLen at hc2; unfold wrap64; omega
        rw [hwr]
        have hset := hw.setRead hP (c.read + 1)
        have hbk := hw.own
        obtain ⟨vv, hbk, _⟩ := hbk
        have hks := (Keep.refl B [93] w).set (a := ⟨g, n * 3 + 2, none⟩) (.int .i64 ((c.read + 1 : Nat) : Int)) hbk (by decide) hw.base
        have hfin : ∀ w', Below w.heap.size (w.setCell ⟨g, n * 3 + 2, none⟩ (.int .i64 ((c.read + 1 : Nat) : Int))) w' → WorldIn w' B g (P.set n { c with read := c.read + 1 }) ev ∧ Keep B [93] w w' ∧ Still w w' g :=
          fun w' hb => ⟨hset.below (by rw [set_size]; exact hb), hks.trans (Keep.of_below (by rw [set_size]; exact hb) _ _), Still.of_set hbk (show n * 3 + 2 ≠ 24 from by omega) (by rw [set_size]; exact hb) HG.out⟩
        refine bodyPost_ret (v := .tuple #[.agg (vvCells ⟨2, x, ByteArray.empty, c.mask⟩), .int .i64 0]) (by simp [results, Try.results24, go_sem, y0, y1, y2, y3, hn12, hn21, hneg', Ne.symm hneg']; rfl) rfl ⟨by rw [(List.getElem?_eq_some_iff.1 hx).2], ?_⟩
        rw [← hv]
        refine hfin _ ?_
        refine Below.drew ?_
        refine Below.setCell ?_ (Nat.le_refl w.heap.size) _
        refine Below.setCell ?_ (Nat.le_refl w.heap.size) _
        refine Below.setCell ?_ (Nat.le_refl w.heap.size) _
        refine Below.setCell ?_ (Nat.le_refl w.heap.size) _
        refine Below.setBoth ?_ _ _
        refine Below.setCell ?_ hge1 _
        exact Below.setCell hb2 hge1 _
set_option maxRecDepth 100000 in
set_option maxHeartbeats 2000000 in
theorem rread_fr {B g : Nat} {s : Nat → Sl Int} {P : List CV} {ev : List Ev} (l : Nat) (k : Int) (w : World) (hw : RefWIn w B g s P ev) (hM : Ms P) (hl : l < 18446744073709551616) (hBw : B ≤ w.heap.size) :
    Calls Try.prog 25 #[.pointer (some ⟨g, 0, none⟩), .int .u64 (l : Int), .int .i64 k] w fun e w' => e = .returned (.tuple #[.agg (vvCells (readS P l k).2.1), .int .i64 (readS P l k).2.2]) ∧ RefWIn w' B g s (readS P l k).1 ev ∧ Keep B [59] w w' ∧ Still w w' g := by
  have HG := Lib.hid (show g < w.heap.size from hw.own.elim fun v h => blk_lt h.1)
  have hwA := hw.below ((Below.refl _ _).alloc (Nat.le_refl _) (.cells #[.int .i64 0, .int .i64 0, .string ByteArray.empty, .int .u64 0] 61)) hBw
  unfold readS
  cases hc : chOf P k with
  | none =>
    have hk := chOf_none hw.eight hc
    rcases Classical.em (k < 0) with h0 | h0
    all_goals
     try have h8 : 8 ≤ k := hk.resolve_left h0
     try have h7 : 7 < k := by omega
     go_enter Try.func25, Try.ntmps25
     go_wp2
     exact bodyPost_ret (v := .tuple #[.agg (vvCells zeroVV), .int .i64 1]) (by simp [results, Try.results25, go_sem]; rfl) rfl ⟨rfl, hwA, (Keep.refl _ _ _).alloc _, Still.of_below ((Below.refl _ _).alloc (Nat.le_refl _) _) HG.out⟩
  | some c =>
    obtain ⟨n, rfl, hn, hP⟩ := chOf_some hc
    have hfl := fun w => rflows_any l c.mask w hl (hM c (List.mem_of_getElem? hP))
    obtain ⟨ca, cb, cc, fc⟩ := hw.cellsAt hn hP
    have hgl := hw.glt
    have h1 : (0 : Int) ≤ n := by omega
    have h8 : (n : Int) < 8 := by omega
    have h0 : ¬ (n : Int) < 0 := by omega
    have h7 : ¬ 7 < (n : Int) := by omega
    cases hf : flowsB l c.mask with
    | false =>
      rw [hf] at hfl
      go_enter Try.func25, Try.ntmps25
      go_wp2_with (go_at_call 14; refine (hfl _).mono ?_; rintro e w' ⟨rfl, rfl⟩)
      all_goals exact bodyPost_ret (v := .tuple #[.agg (vvCells zeroVV), .int .i64 40]) (by simp [results, Try.results25, go_sem]; rfl) rfl ⟨rfl, hwA, (Keep.refl _ _ _).alloc _, Still.of_below ((Below.refl _ _).alloc (Nat.le_refl _) _) HG.out⟩
    | true =>
      rw [hf] at hfl
      have hins := hw.ins n c hP
      have hroom := hw.room n hn
      have hreads := hw.reads n hn
      cases hx : c.ins[c.read]? with
      | none =>
        have hle := List.getElem?_eq_none_iff.1 hx
        have hlt : ¬ (c.read : Int) < (s n).xs.length := by rw [hins] at hle; omega
        go_enter Try.func25, Try.ntmps25
        go_wp2_with (go_at_call 14; refine (hfl _).mono ?_; rintro e w' ⟨rfl, rfl⟩)
        go_quiet (fail)
        go_wp2
        exact bodyPost_ret (v := .tuple #[.agg (vvCells ⟨0, 0, ByteArray.empty, c.mask⟩), .int .i64 0]) (by simp [results, Try.results25, go_sem]; rfl) rfl ⟨rfl, RefWIn.below hw (by (repeat' (first | exact Below.refl _ _ | refine below_drewN ?_ _ | refine Below.setCell ?_ ?_ _ | refine Below.alloc ?_ ?_ _ | (simp; done) | omega))) hBw, Keep.of_below (by (repeat' (first | exact Below.refl _ _ | refine below_drewN ?_ _ | refine Below.setCell ?_ ?_ _ | refine Below.alloc ?_ ?_ _ | (simp; done) | omega))) _ _, Still.of_below (by (repeat' (first | exact Below.refl _ _ | refine below_drewN ?_ _ | refine Below.setCell ?_ ?_ _ | refine Below.alloc ?_ ?_ _ | (simp; done) | omega))) HG.out⟩
      | some x =>
        have hle := (List.getElem?_eq_some_iff.1 hx).1
        have hle' : c.read < (s n).xs.length := by rw [hins] at hle; exact hle
        have hlt : (c.read : Int) < (s n).xs.length := by omega
        have hux : (intCells (s n).xs)[c.read]? = some (.int .i64 x) := by rw [← hins]; simp [intCells, hx]
        obtain ⟨ad, hA, hadB, hcell⟩ := hreads.at (by intro e; rw [e] at hux; cases hux)
        rw [hA] at cb
        have dd0 := hcell c.read _ hux
        have hadw : (ad.add c.read).block < w.heap.size := by rw [block_add']; omega
        clear hcell hreads
        go_enter Try.func25, Try.ntmps25
        go_wp2_with (go_at_call 14; refine (hfl _).mono ?_; rintro e w' ⟨rfl, rfl⟩)
        go_quiet (fail)
        go_wp2
        refine gen_wp fun W2 hW2 => ?_
        have hb2 : Below w.heap.size w W2 := by rw [← hW2]; (repeat' (first | exact Below.refl _ _ | refine below_drewN ?_ _ | refine Below.setCell ?_ ?_ _ | refine Below.alloc ?_ ?_ _ | (simp; done) | omega))
        have hx2 : W2.heap[w.heap.size + 1]? = some (.cells #[.int .i64 0, .int .i64 0, .string ByteArray.empty, .int .u64 (c.mask : Int)] 61 (0, 0)) := by rw [← hW2]; exact blk_drew (heap_new_at _ _ _ (by simp))
        have hr2 : W2.heap[w.heap.size]? = some (.cells #[.int .i64 0, .int .i64 0, .string ByteArray.empty, .int .u64 0] 61 (0, 0)) := by rw [← hW2]; exact blk_drew (blk_alloc (heap_new_at _ _ _ rfl) _)
        have hw2 := RefWIn.below hw hb2 hBw
        obtain ⟨da, db, dc, ec⟩ := hw2.cellsAt hn hP
        rw [hA] at db
        have dd := (hb2.cell hadw).trans dd0
        have x0 := cell_of_blk (i := 0) hx2 rfl
        have x1 := cell_of_blk (i := 1) hx2 rfl
        have f0 := free_of_blk (i := 0) hx2
        have f1 := free_of_blk (i := 1) hx2
        have HX2 := Lib.hid hx2
        have HR2 := Lib.hid hr2
        clear ca cb cc fc hwA hW2 hx2 hr2 dd0
        have hneg : w.heap.size + 1 ≠ g := by omega
        have hneg' : w.heap.size ≠ g := by omega
        have hneb : w.heap.size + 1 ≠ (ad.add c.read).block := by omega
        have dd1 : ∀ (j : Nat) (u : Value), (W2.setCell ⟨w.heap.size + 1, j, none⟩ u).cell? (ad.add c.read) = some (.int .i64 x) := fun j u => (World.cell?_of_block (Below.heap_setCell W2 ⟨w.heap.size + 1, j, none⟩ u _ (Ne.symm hneb))).trans dd
        go_region
        go_wp2
        refine gen_wp fun W3 hW3 => ?_
        have hb3 : Below w.heap.size w W3 := by rw [← hW3]; (repeat' (first | exact hb2 | refine Below.drew ?_ | refine below_drewN ?_ _ | refine Below.setCell ?_ ?_ _ | (show w.heap.size ≤ w.heap.size + 1; omega) | (simp; done) | omega))
        have hx3 : W3.heap[w.heap.size + 1]? = some (.cells #[.int .i64 2, .int .i64 x, .string ByteArray.empty, .int .u64 (c.mask : Int)] 61 (0, 0)) := by rw [← hW3]; exact blk_set (i := 1) (blk_set (i := 0) HX2.out _) _
        have hr3 : W3.heap[w.heap.size]? = some (.cells #[.int .i64 0, .int .i64 0, .string ByteArray.empty, .int .u64 0] 61 (0, 0)) := by rw [← hW3]; exact blk_far (blk_far HR2.out (by simp) _) (by simp) _
        have hw3 := RefWIn.below hw hb3 hBw
        obtain ⟨ka, kb, kc, kf⟩ := hw3.cellsAt hn hP
        clear da db dc ec dd dd1 x0 x1 f0 f1 HX2 HR2 hb2 hw2 hW3
        have hmx : c.read + 1 ≤ 9223372036854775807 := by unfold maxLen at hroom; omega
        go_region
        have x0 := cell_of_blk (i := 0) hx3 rfl
        have x1 := cell_of_blk (i := 1) hx3 rfl
        have x2 := cell_of_blk (i := 2) hx3 rfl
        have x3 := cell_of_blk (i := 3) hx3 rfl
        have y0 := cell_of_blk (i := 0) hr3 rfl
        have y1 := cell_of_blk (i := 1) hr3 rfl
        have y2 := cell_of_blk (i := 2) hr3 rfl
        have y3 := cell_of_blk (i := 3) hr3 rfl
        have g0 := free_of_blk (i := 0) hr3
        have g1 := free_of_blk (i := 1) hr3
        have g2 := free_of_blk (i := 2) hr3
        have g3 := free_of_blk (i := 3) hr3
        have hn12 : w.heap.size + 1 ≠ w.heap.size := by omega
        have hn21 : w.heap.size ≠ w.heap.size + 1 := by omega
        clear hx3 hr3
        generalize hb1 : w.heap.size + 1 = b1 at *
        clear hb1
        go_wp2
        have ecast : ((c.read : Int) + 1) = ((c.read + 1 : Nat) : Int) := by omega
        rw [ecast]
        have hset := RefWIn.setRead hw hn hP (c.read + 1)
        obtain ⟨vv, hbk, _⟩ := hw.own
        have hks := (Keep.refl B [59] w).set (a := ⟨g, 16 + n, none⟩) (.int .i64 ((c.read + 1 : Nat) : Int)) hbk (by decide) hw.base
        have hfin : ∀ w', Below w.heap.size (w.setCell ⟨g, 16 + n, none⟩ (.int .i64 ((c.read + 1 : Nat) : Int))) w' → RefWIn w' B g s (P.set n { mask := c.mask, v := c.v, ins := (s n).xs, read := c.read + 1 }) ev ∧ Keep B [59] w w' ∧ Still w w' g :=
          fun w' hb => ⟨by rw [← hins]; exact RefWIn.below hset (by rw [set_size]; exact hb) (by rw [set_size]; exact hBw), hks.trans (Keep.of_below (by rw [set_size]; exact hb) _ _), Still.of_set hbk (show 16 + n ≠ 24 from by omega) (by rw [set_size]; exact hb) HG.out⟩
        have hxx : (s n).xs[c.read]'hle' = x := by
          have h := hx
          rw [hins, List.getElem?_eq_getElem hle'] at h
          exact Option.some.inj h
        refine bodyPost_ret (v := .tuple #[.agg (vvCells ⟨2, x, ByteArray.empty, c.mask⟩), .int .i64 0]) (by simp [results, Try.results25, go_sem, y0, y1, y2, y3, hn12, hn21, hneg', Ne.symm hneg']; rfl) rfl ⟨by rw [hxx], ?_⟩
        refine hfin _ ?_
        repeat' (first | exact hb3 | refine Below.drew ?_ | refine Below.setCell ?_ (Nat.le_refl w.heap.size) _ | refine Below.setBoth ?_ _ _)
end Go.Proofs.Ytkdoohmchdpjoaa
