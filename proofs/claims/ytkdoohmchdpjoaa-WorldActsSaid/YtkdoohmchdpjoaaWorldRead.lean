/-
  Chapter 23: the document's Read.
-/
import Derived.Test.YtkdoohmchdpjoaaWorldRef
set_option linter.unusedVariables false
set_option linter.unusedSimpArgs false
namespace Go.Proofs.Ytkdoohmchdpjoaa
open Go.ChangeShapes Go.WideShapes Go.ChangeAt Go.RowKit

set_option maxRecDepth 100000 in
set_option maxHeartbeats 2000000 in
theorem rread_any {B g : Nat} {s : Nat → Sl Int} {P : List CV} {ev : List Ev} (l : Nat) (k : Int) (w : World) (hw : RefWIn w B g s P ev) (hM : Ms P) (hl : l < 18446744073709551616) (hBw : B ≤ w.heap.size) :
    Calls Try.prog 25 #[.pointer (some ⟨g, 0, none⟩), .int .u64 (l : Int), .int .i64 k] w fun e w' => e = .returned (.tuple #[.agg (vvCells (readS P l k).2.1), .int .i64 (readS P l k).2.2]) ∧ RefWIn w' B g s (readS P l k).1 ev ∧ Keep B [59] w w' := by
  have hwA := hw.below ((Below.refl _ _).alloc (Nat.le_refl _) (.cells #[.int .i64 0, .int .i64 0, .string ByteArray.empty, .int .u64 0] 61)) hBw
  unfold readS
  cases hc : chOf P k with
  | none =>
    have hk := chOf_none hw.eight hc
    rcases Classical.em (k < 0) with h0 | h0
    all_goals
     try have h8 : 8 ≤ k := hk.resolve_left h0
     try have h7 : 7 < k := by omega
     go_enter Try.func25, Try.ntmps25
     go_wp2
     exact bodyPost_ret (v := .tuple #[.agg (vvCells zeroVV), .int .i64 1]) (by simp [results, Try.results25, go_sem]; rfl) rfl ⟨rfl, hwA, (Keep.refl _ _ _).alloc _⟩
  | some c =>
    obtain ⟨n, rfl, hn, hP⟩ := chOf_some hc
    have hfl := fun w => rflows_any l c.mask w hl (hM c (List.mem_of_getElem? hP))
    obtain ⟨ca, cb, cc, fc⟩ := hw.cellsAt hn hP
    have hgl := hw.glt
    have h1 : (0 : Int) ≤ n := by omega
    have h8 : (n : Int) < 8 := by omega
    have h0 : ¬ (n : Int) < 0 := by omega
    have h7 : ¬ 7 < (n : Int) := by omega
    cases hf : flowsB l c.mask with
    | false =>
      rw [hf] at hfl
      go_enter Try.func25, Try.ntmps25
      go_wp2_with (go_at_call 14; refine (hfl _).mono ?_; rintro e w' ⟨rfl, rfl⟩)
      all_goals exact bodyPost_ret (v := .tuple #[.agg (vvCells zeroVV), .int .i64 40]) (by simp [results, Try.results25, go_sem]; rfl) rfl ⟨rfl, hwA, (Keep.refl _ _ _).alloc _⟩
    | true =>
      rw [hf] at hfl
      have hins := hw.ins n c hP
      have hroom := hw.room n hn
      have hreads := hw.reads n hn
      cases hx : c.ins[c.read]? with
      | none =>
        have hle := List.getElem?_eq_none_iff.1 hx
        have hlt : ¬ (c.read : Int) < (s n).xs.length := by rw [hins] at hle; omega
        go_enter Try.func25, Try.ntmps25
        go_wp2_with (go_at_call 14; refine (hfl _).mono ?_; rintro e w' ⟨rfl, rfl⟩)
        go_quiet (fail)
        go_wp2
        exact bodyPost_ret (v := .tuple #[.agg (vvCells ⟨0, 0, ByteArray.empty, c.mask⟩), .int .i64 0]) (by simp [results, Try.results25, go_sem]; rfl) rfl ⟨rfl, RefWIn.below hw (by (repeat' (first | exact Below.refl _ _ | refine below_drewN ?_ _ | refine Below.setCell ?_ ?_ _ | refine Below.alloc ?_ ?_ _ | (simp; done) | omega))) hBw, Keep.of_below (by (repeat' (first | exact Below.refl _ _ | refine below_drewN ?_ _ | refine Below.setCell ?_ ?_ _ | refine Below.alloc ?_ ?_ _ | (simp; done) | omega))) _ _⟩
      | some x =>
        have hle := (List.getElem?_eq_some_iff.1 hx).1
        have hle' : c.read < (s n).xs.length := by rw [hins] at hle; exact hle
        have hlt : (c.read : Int) < (s n).xs.length := by omega
        have hux : (intCells (s n).xs)[c.read]? = some (.int .i64 x) := by rw [← hins]; simp [intCells, hx]
        obtain ⟨ad, hA, hadB, hcell⟩ := hreads.at (by intro e; rw [e] at hux; cases hux)
        rw [hA] at cb
        have dd0 := hcell c.read _ hux
        have hadw : (ad.add c.read).block < w.heap.size := by rw [block_add']; omega
        clear hcell hreads
        go_enter Try.func25, Try.ntmps25
        go_wp2_with (go_at_call 14; refine (hfl _).mono ?_; rintro e w' ⟨rfl, rfl⟩)
        go_quiet (fail)
        go_wp2
        refine gen_wp fun W2 hW2 => ?_
        have hb2 : Below w.heap.size w W2 := by rw [← hW2]; (repeat' (first | exact Below.refl _ _ | refine below_drewN ?_ _ | refine Below.setCell ?_ ?_ _ | refine Below.alloc ?_ ?_ _ | (simp; done) | omega))
        have hx2 : W2.heap[w.heap.size + 1]? = some (.cells #[.int .i64 0, .int .i64 0, .string ByteArray.empty, .int .u64 (c.mask : Int)] 61 (0, 0)) := by rw [← hW2]; exact blk_drew (heap_new_at _ _ _ (by simp))
        have hr2 : W2.heap[w.heap.size]? = some (.cells #[.int .i64 0, .int .i64 0, .string ByteArray.empty, .int .u64 0] 61 (0, 0)) := by rw [← hW2]; exact blk_drew (blk_alloc (heap_new_at _ _ _ rfl) _)
        have hw2 := RefWIn.below hw hb2 hBw
        obtain ⟨da, db, dc, ec⟩ := hw2.cellsAt hn hP
        rw [hA] at db
        have dd := (hb2.cell hadw).trans dd0
        have x0 := cell_of_blk (i := 0) hx2 rfl
        have x1 := cell_of_blk (i := 1) hx2 rfl
        have f0 := free_of_blk (i := 0) hx2
        have f1 := free_of_blk (i := 1) hx2
        have HX2 := Lib.hid hx2
        have HR2 := Lib.hid hr2
        clear ca cb cc fc hwA hW2 hx2 hr2 dd0
        have hneg : w.heap.size + 1 ≠ g := by omega
        have hneg' : w.heap.size ≠ g := by omega
        have hneb : w.heap.size + 1 ≠ (ad.add c.read).block := by omega
        have dd1 : ∀ (j : Nat) (u : Value), (W2.setCell ⟨w.heap.size + 1, j, none⟩ u).cell? (ad.add c.read) = some (.int .i64 x) := fun j u => (World.cell?_of_block (Below.heap_setCell W2 ⟨w.heap.size + 1, j, none⟩ u _ (Ne.symm hneb))).trans dd
        go_region
        go_wp2
        refine gen_wp fun W3 hW3 => ?_
        have hb3 : Below w.heap.size w W3 := by rw [← hW3]; (repeat' (first | exact hb2 | refine Below.drew ?_ | refine below_drewN ?_ _ | refine Below.setCell ?_ ?_ _ | (show w.heap.size ≤ w.heap.size + 1; omega) | (simp; done) | omega))
        have hx3 : W3.heap[w.heap.size + 1]? = some (.cells #[.int .i64 2, .int .i64 x, .string ByteArray.empty, .int .u64 (c.mask : Int)] 61 (0, 0)) := by rw [← hW3]; exact blk_set (i := 1) (blk_set (i := 0) HX2.out _) _
        have hr3 : W3.heap[w.heap.size]? = some (.cells #[.int .i64 0, .int .i64 0, .string ByteArray.empty, .int .u64 0] 61 (0, 0)) := by rw [← hW3]; exact blk_far (blk_far HR2.out (by simp) _) (by simp) _
        have hw3 := RefWIn.below hw hb3 hBw
        obtain ⟨ka, kb, kc, kf⟩ := hw3.cellsAt hn hP
        clear da db dc ec dd dd1 x0 x1 f0 f1 HX2 HR2 hb2 hw2 hW3
        have hmx : c.read + 1 ≤ 9223372036854775807 := by unfold maxLen at hroom; omega
        go_region
        have x0 := cell_of_blk (i := 0) hx3 rfl
        have x1 := cell_of_blk (i := 1) hx3 rfl
        have x2 := cell_of_blk (i := 2) hx3 rfl
        have x3 := cell_of_blk (i := 3) hx3 rfl
        have y0 := cell_of_blk (i := 0) hr3 rfl
        have y1 := cell_of_blk (i := 1) hr3 rfl
        have y2 := cell_of_blk (i := 2) hr3 rfl
        have y3 := cell_of_blk (i := 3) hr3 rfl
        have g0 := free_of_blk (i := 0) hr3
        have g1 := free_of_blk (i := 1) hr3
        have g2 := free_of_blk (i := 2) hr3
        have g3 := free_of_blk (i := 3) hr3
        have hn12 : w.heap.size + 1 ≠ w.heap.size := by omega
        have hn21 : w.heap.size ≠ w.heap.size + 1 := by omega
        clear hx3 hr3
        generalize hb1 : w.heap.size + 1 = b1 at *
        clear hb1
        go_wp2
        have ecast : ((c.read : Int) + 1) = ((c.read + 1 : Nat) : Int) := by omega
        rw [ecast]
        have hset := RefWIn.setRead hw hn hP (c.read + 1)
        obtain ⟨vv, hbk, _⟩ := hw.own
        have hks := (Keep.refl B [59] w).set (a := ⟨g, 16 + n, none⟩) (.int .i64 ((c.read + 1 : Nat) : Int)) hbk (by decide) hw.base
        have hfin : ∀ w', Below w.heap.size (w.setCell ⟨g, 16 + n, none⟩ (.int .i64 ((c.read + 1 : Nat) : Int))) w' → RefWIn w' B g s (P.set n { mask := c.mask, v := c.v, ins := (s n).xs, read := c.read + 1 }) ev ∧ Keep B [59] w w' :=
          fun w' hb => ⟨by rw [← hins]; exact RefWIn.below hset (by rw [set_size]; exact hb) (by rw [set_size]; exact hBw), hks.trans (Keep.of_below (by rw [set_size]; exact hb) _ _)⟩
        have hxx : (s n).xs[c.read]'hle' = x := by
          have h := hx
          rw [hins, List.getElem?_eq_getElem hle'] at h
          exact Option.some.inj h
        refine bodyPost_ret (v := .tuple #[.agg (vvCells ⟨2, x, ByteArray.empty, c.mask⟩), .int .i64 0]) (by simp [results, Try.results25, go_sem, y0, y1, y2, y3, hn12, hn21, hneg', Ne.symm hneg']; rfl) rfl ⟨by rw [hxx], ?_⟩
        refine hfin _ ?_
        repeat' (first | exact hb3 | refine Below.drew ?_ | refine Below.setCell ?_ (Nat.le_refl w.heap.size) _ | refine Below.setBoth ?_ _ _)
end Go.Proofs.Ytkdoohmchdpjoaa
