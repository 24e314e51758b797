/-
  Chapter 23: may, Read, Write, Events, Places of a world.
-/
import Derived.Test.YtkdoohmchdpjoaaWorldMake
set_option linter.unusedVariables false
set_option linter.unusedSimpArgs false
namespace Go.Proofs.Ytkdoohmchdpjoaa
open Go.ChangeShapes Go.WideShapes Go.ChangeAt Go.RowKit

/-- A value of chapter 3. -/
structure VV where
  kind : Int
  n : Int
  s : ByteArray
  label : Nat
def vvCells (v : VV) : Array Value := #[.int .i64 v.kind, .int .i64 v.n, .string v.s, .int .u64 (v.label : Int)]
def zeroVV : VV := ⟨0, 0, ByteArray.empty, 0⟩

def Ms (P : List CV) : Prop := ∀ c ∈ P, c.mask < 18446744073709551616
def chOf (P : List CV) (k : Int) : Option CV := if k < 0 ∨ 8 ≤ k then none else P[k.toNat]?
def mayS (P : List CV) (l : Nat) (k : Int) : Int := match chOf P k with
  | none => 1
  | some c => if flowsB l c.mask then 0 else 40
theorem chOf_none {P : List CV} (h8 : P.length = 8) {k : Int} (h : chOf P k = none) : k < 0 ∨ 8 ≤ k := by
  unfold chOf at h
  split at h
  · assumption
  · have := List.getElem?_eq_none_iff.1 h
    omega
theorem chOf_some {P : List CV} {k : Int} {c : CV} (h : chOf P k = some c) : ∃ n : Nat, k = (n : Int) ∧ n < 8 ∧ P[n]? = some c := by
  unfold chOf at h
  split at h
  · cases h
  · exact ⟨k.toNat, by omega, by omega, h⟩
theorem wmay_nil (l : Nat) (k : Int) (w : World) : Calls Try.prog 37 #[.pointer none, .int .u64 (l : Int), .int .i64 k] w (Ret (.int .i64 1) w) := by
  go_enter Try.func37, Try.ntmps37
  go_wp2
  go_ret
  exact ⟨rfl, rfl⟩
set_option maxRecDepth 100000 in
theorem wmay_any {B g : Nat} {P : List CV} {ev : List Ev} (l : Nat) (k : Int) (w : World) (hw : WorldIn w B g P ev) (hM : Ms P) (hl : l < 18446744073709551616) :
    Calls Try.prog 37 #[.pointer (some ⟨g, 0, none⟩), .int .u64 (l : Int), .int .i64 k] w (Ret (.int .i64 (mayS P l k)) w) := by
  unfold mayS
  cases hc : chOf P k with
  | none =>
    have hk := chOf_none hw.eight hc
    go_enter Try.func37, Try.ntmps37
    rcases Classical.em (k < 0) with h0 | h0
    · go_wp2
      go_ret
      exact ⟨rfl, rfl⟩
    · have h8 : 8 ≤ k := hk.resolve_left h0
      go_wp2
      go_ret
      exact ⟨rfl, rfl⟩
  | some c =>
    obtain ⟨n, rfl, hn, hP⟩ := chOf_some hc
    obtain ⟨ca, _, _⟩ := hw.cellsAt hP
    have hcm := hM c (List.mem_of_getElem? hP)
    have h0 : ¬ (n : Int) < 0 := by omega
    have h1 : (0 : Int) ≤ n := by omega
    have h8 : (n : Int) < 8 := by omega
    have h9 : ¬ 8 ≤ (n : Int) := by omega
    show Calls _ _ _ _ (Ret (.int .i64 (if flowsB l c.mask = true then 0 else 40)) w)
    have hfl := fun w => flows_any l c.mask w hl hcm
    cases hf : flowsB l c.mask <;> rw [hf] at hfl
    all_goals
      go_enter Try.func37, Try.ntmps37
      go_wp2_with (go_at_call 35; refine (hfl _).mono ?_; rintro e w' ⟨rfl, rfl⟩)
      go_ret
      exact ⟨rfl, rfl⟩

def readS (P : List CV) (pc : Nat) (k : Int) : List CV × VV × Int := match chOf P k with
  | none => (P, zeroVV, 1)
  | some c => if flowsB pc c.mask then (match c.ins[c.read]? with
    | some x => (P.set k.toNat { c with read := c.read + 1 }, ⟨2, x, ByteArray.empty, c.mask⟩, 0)
    | none => (P, ⟨0, 0, ByteArray.empty, c.mask⟩, 0)) else (P, zeroVV, 40)
theorem wread_nil (l : Nat) (k : Int) (w : World) : Calls Try.prog 24 #[.pointer none, .int .u64 (l : Int), .int .i64 k] w (RetB (.tuple #[.agg (vvCells zeroVV), .int .i64 1]) w) := by
  go_enter Try.func24, Try.ntmps24
  go_wp2_with (go_at_call 37; refine (wmay_nil _ _ _).mono ?_; rintro e w' ⟨rfl, rfl⟩)
  exact bodyPost_ret (v := .tuple #[.agg (vvCells zeroVV), .int .i64 1]) (by simp [results, Try.results24, go_sem]; rfl) rfl ⟨rfl, (Below.refl _ _).alloc (Nat.le_refl _) _⟩

set_option maxRecDepth 100000 in
set_option maxHeartbeats 2000000 in
theorem wread_any {B g : Nat} {P : List CV} {ev : List Ev} (l : Nat) (k : Int) (w : World) (hw : WorldIn w B g P ev) (hM : Ms P) (hl : l < 18446744073709551616) (hBw : B ≤ w.heap.size) :
    Calls Try.prog 24 #[.pointer (some ⟨g, 0, none⟩), .int .u64 (l : Int), .int .i64 k] w fun e w' => e = .returned (.tuple #[.agg (vvCells (readS P l k).2.1), .int .i64 (readS P l k).2.2]) ∧ WorldIn w' B g (readS P l k).1 ev ∧ Keep B [93] w w' := by
  have hmay := wmay_any l k (w.alloc (.cells #[.int .i64 0, .int .i64 0, .string ByteArray.empty, .int .u64 0] 61)) (hw.below ((Below.refl _ _).alloc (Nat.le_refl _) _)) hM hl
  have hwA := hw.below ((Below.refl _ _).alloc (Nat.le_refl _) (.cells #[.int .i64 0, .int .i64 0, .string ByteArray.empty, .int .u64 0] 61))
  unfold readS
  unfold mayS at hmay
  cases hc : chOf P k with
  | none =>
    simp only [hc] at hmay
    go_enter Try.func24, Try.ntmps24
    go_wp2_with (go_at_call 37; refine hmay.mono ?_; rintro e w' ⟨rfl, rfl⟩)
    exact bodyPost_ret (v := .tuple #[.agg (vvCells zeroVV), .int .i64 1]) (by simp [results, Try.results24, go_sem]; rfl) rfl ⟨rfl, hwA, (Keep.refl _ _ _).alloc _⟩
  | some c =>
    simp only [hc] at hmay
    obtain ⟨n, rfl, hn, hP⟩ := chOf_some hc
    cases hf : flowsB l c.mask with
    | false =>
      simp only [hf, if_true, if_false, Bool.false_eq_true] at hmay
      go_enter Try.func24, Try.ntmps24
      go_wp2_with (go_at_call 37; refine hmay.mono ?_; rintro e w' ⟨rfl, rfl⟩)
      all_goals exact bodyPost_ret (v := .tuple #[.agg (vvCells zeroVV), .int .i64 40]) (by simp [results, Try.results24, go_sem]; rfl) rfl ⟨rfl, hwA, (Keep.refl _ _ _).alloc _⟩
    | true =>
      simp only [hf, if_true, if_false, Bool.false_eq_true] at hmay
      obtain ⟨ca, cb, cc⟩ := hw.cellsAt hP
      obtain ⟨fa, fb, fc⟩ := hw.freeAt n
      obtain ⟨A, cap, hv, hc1, hc2, hcell⟩ := own_form (hw.ins c (List.mem_of_getElem? hP))
      rw [hv] at cb
      have h1 : (0 : Int) ≤ n := by omega
      have h8 : (n : Int) < 8 := by omega
      have hgl := hw.glt
      cases hx : c.ins[c.read]? with
      | none =>
        have hle := List.getElem?_eq_none_iff.1 hx
        have hlt : ¬ (c.read : Int) < c.ins.length := by omega
        go_enter Try.func24, Try.ntmps24
        go_wp2_with (go_at_call 37; refine hmay.mono ?_; rintro e w' ⟨rfl, rfl⟩)
        go_quiet (fail)
        go_wp2
        exact bodyPost_ret (v := .tuple #[.agg (vvCells ⟨0, 0, ByteArray.empty, c.mask⟩), .int .i64 0]) (by simp [results, Try.results24, go_sem]; rfl) rfl ⟨rfl, hw.below (by (repeat' (first | exact Below.refl _ _ | refine below_drewN ?_ _ | refine Below.setCell ?_ ?_ _ | refine Below.alloc ?_ ?_ _ | (simp; done) | omega))), Keep.of_below (by (repeat' (first | exact Below.refl _ _ | refine below_drewN ?_ _ | refine Below.setCell ?_ ?_ _ | refine Below.alloc ?_ ?_ _ | (simp; done) | omega))) _ _⟩
      | some x =>
        have hle := (List.getElem?_eq_some_iff.1 hx).1
        have hlt : (c.read : Int) < c.ins.length := by omega
        go_enter Try.func24, Try.ntmps24
        go_wp2_with (go_at_call 37; refine hmay.mono ?_; rintro e w' ⟨rfl, rfl⟩)
        go_quiet (fail)
        go_wp2
        refine gen_wp fun W2 hW2 => ?_
        have hb2 : Below w.heap.size w W2 := by rw [← hW2]; (repeat' (first | exact Below.refl _ _ | refine below_drewN ?_ _ | refine Below.setCell ?_ ?_ _ | refine Below.alloc ?_ ?_ _ | (simp; done) | omega))
        have hN : w.heap.size + 2 ≤ W2.heap.size := by rw [← hW2]; simp
        have hx2 : W2.heap[w.heap.size + 1]? = some (.cells #[.int .i64 0, .int .i64 0, .string ByteArray.empty, .int .u64 (c.mask : Int)] 61 (0, 0)) := by rw [← hW2]; exact blk_drew (heap_new_at _ _ _ (by simp))
        have hr2 : W2.heap[w.heap.size]? = some (.cells #[.int .i64 0, .int .i64 0, .string ByteArray.empty, .int .u64 0] 61 (0, 0)) := by rw [← hW2]; exact blk_drew (blk_alloc (heap_new_at _ _ _ rfl) _)
        have hw2 := hw.below hb2
        obtain ⟨da, db, dc⟩ := hw2.cellsAt hP
        obtain ⟨ea, eb, ec⟩ := hw2.freeAt n
        rw [hv] at db
        obtain ⟨gb, rfl, hgB, hgl2, _, hcell2⟩ := hcell (by omega)
        have dd := (hb2.cell (p := ⟨gb, c.read, none⟩) hgl2).trans (hcell2 c.read (.int .i64 x) (by simp [intCells, hx]))
        have x0 := cell_of_blk (i := 0) hx2 rfl
        have x1 := cell_of_blk (i := 1) hx2 rfl
        have x2 := cell_of_blk (i := 2) hx2 rfl
        have x3 := cell_of_blk (i := 3) hx2 rfl
        have y0 := cell_of_blk (i := 0) hr2 rfl
        have y1 := cell_of_blk (i := 1) hr2 rfl
        have y2 := cell_of_blk (i := 2) hr2 rfl
        have y3 := cell_of_blk (i := 3) hr2 rfl
        have g0 := free_of_blk (i := 0) hr2
        have g1 := free_of_blk (i := 1) hr2
        have g2 := free_of_blk (i := 2) hr2
        have g3 := free_of_blk (i := 3) hr2
        have f0 := free_of_blk (i := 0) hx2
        have f1 := free_of_blk (i := 1) hx2
        have HX2 := Lib.hid hx2
        have HR2 := Lib.hid hr2
        clear hcell hcell2 ca cb cc fa fb fc hwA hmay hW2 hx2 hr2 x0 x1 x2 x3 y0 y1 y2 y3 f0 f1 g0 g1 g2 g3
        have x0 := cell_of_blk (i := 0) HX2.out rfl
        have x1 := cell_of_blk (i := 1) HX2.out rfl
        have f0 := free_of_blk (i := 0) HX2.out
        have f1 := free_of_blk (i := 1) HX2.out
        have hneg : w.heap.size + 1 ≠ g := by omega
        have hneg' : w.heap.size ≠ g := by omega
        have hneb : w.heap.size + 1 ≠ gb := by omega
        have hn12 : w.heap.size + 1 ≠ w.heap.size := by omega
        have hn21 : w.heap.size ≠ w.heap.size + 1 := by omega
        have hge1 : w.heap.size ≤ w.heap.size + 1 := by omega
        clear hN
        generalize hb1 : w.heap.size + 1 = b1 at HX2 hneg hneb hn12 hn21 hge1 x0 x1 f0 f1 ⊢
        clear hb1
        go_region
        have x2 := cell_of_blk (i := 2) HX2.out rfl
        have x3 := cell_of_blk (i := 3) HX2.out rfl
        have y0 := cell_of_blk (i := 0) HR2.out rfl
        have y1 := cell_of_blk (i := 1) HR2.out rfl
        have y2 := cell_of_blk (i := 2) HR2.out rfl
        have y3 := cell_of_blk (i := 3) HR2.out rfl
        have g0 := free_of_blk (i := 0) HR2.out
        have g1 := free_of_blk (i := 1) HR2.out
        have g2 := free_of_blk (i := 2) HR2.out
        have g3 := free_of_blk (i := 3) HR2.out
        go_wp2
        have hwr : wrap64 ((c.read : Int) + 1) = ((c.read + 1 : Nat) : Int) := by unfold maxLen at hc2; unfold wrap64; omega
        rw [hwr]
        have hset := hw.setRead hP (c.read + 1)
        have hbk := hw.own
        obtain ⟨vv, hbk, _⟩ := hbk
        have hks := (Keep.refl B [93] w).set (a := ⟨g, n * 3 + 2, none⟩) (.int .i64 ((c.read + 1 : Nat) : Int)) hbk (by decide) hw.base
        have hfin : ∀ w', Below w.heap.size (w.setCell ⟨g, n * 3 + 2, none⟩ (.int .i64 ((c.read + 1 : Nat) : Int))) w' → WorldIn w' B g (P.set n { c with read := c.read + 1 }) ev ∧ Keep B [93] w w' :=
          fun w' hb => ⟨hset.below (by rw [set_size]; exact hb), hks.trans (Keep.of_below (by rw [set_size]; exact hb) _ _)⟩
        refine bodyPost_ret (v := .tuple #[.agg (vvCells ⟨2, x, ByteArray.empty, c.mask⟩), .int .i64 0]) (by simp [results, Try.results24, go_sem, y0, y1, y2, y3, hn12, hn21, hneg', Ne.symm hneg']; rfl) rfl ⟨by rw [(List.getElem?_eq_some_iff.1 hx).2], ?_⟩
        rw [← hv]
        refine hfin _ ?_
        refine Below.drew ?_
        refine Below.setCell ?_ (Nat.le_refl w.heap.size) _
        refine Below.setCell ?_ (Nat.le_refl w.heap.size) _
        refine Below.setCell ?_ (Nat.le_refl w.heap.size) _
        refine Below.setCell ?_ (Nat.le_refl w.heap.size) _
        refine Below.setBoth ?_ _ _
        refine Below.setCell ?_ hge1 _
        exact Below.setCell hb2 hge1 _
end Go.Proofs.Ytkdoohmchdpjoaa
