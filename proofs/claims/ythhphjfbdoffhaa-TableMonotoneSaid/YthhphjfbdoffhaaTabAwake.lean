/-
  Chapter 04: awake.
-/
import Derived.Test.YthhphjfbdoffhaaTabAlike2
set_option linter.unusedVariables false
set_option linter.unusedSimpArgs false
namespace Go.Proofs.Ythhphjfbdoffhaa
open Go.ChangeShapes Go.WideShapes Go.ChangeAt Go.RowKit Go.Maps

theorem tabOk_new {l : Nat} (hl : l < 18446744073709551616) : TabOk ⟨l, [], []⟩ :=
  ⟨hl, fun f h => by simp at h, fun f h => by simp at h, fun f h => by simp at h, fun f h => by simp at h, fun s h => by simp at h, List.Pairwise.nil, List.Pairwise.nil, fun s h => by simp at h⟩
def kA : VV := ⟨3, 0, ⟨#[97]⟩, 0⟩
def v5 : VV := ⟨2, 5, ⟨#[]⟩, 1⟩
def v6 : VV := ⟨2, 6, ⟨#[]⟩, 0⟩
def tA0 : TabS := ⟨0, [], []⟩
def tA1 : TabS := ⟨0, [(kA, v5)], []⟩
def tA2 : TabS := ⟨0, [(kA, v6)], []⟩
theorem kA_key : isKey kA = true := by
  unfold isKey kA checkV
  simp
theorem kA_ok : VOk kA := ⟨i64_3, i64_0, by show (1 : Nat) ≤ maxLen; unfold maxLen; omega, by show (0 : Nat) < _; decide⟩
theorem v5_ok : VOk v5 := ⟨by show I64 2; unfold I64; omega, by show I64 5; unfold I64; omega, by show (0 : Nat) ≤ _; omega, by show (1 : Nat) < _; decide⟩
theorem v6_ok : VOk v6 := ⟨by show I64 2; unfold I64; omega, by show I64 6; unfold I64; omega, by show (0 : Nat) ≤ _; omega, by show (0 : Nat) < _; decide⟩
theorem find0 : findF [] kA = none := by unfold findF; rw [if_pos kA_key]; rfl
theorem find1 (v : VV) : findF [(kA, v)] kA = some 0 := by
  unfold findF
  rw [if_pos kA_key]
  simp [List.findIdx?_cons, sameV_self]
theorem allow0 (nm : ByteArray) (k : Int) : allowsB [] nm k = true := rfl
theorem putA1 : doPut tA0 1 kA v5 = (40, tA0) := by
  unfold doPut tA0
  rw [if_neg (by rw [kA_key]; simp)]
  simp only [allow0, Bool.not_true, Bool.and_false, Bool.false_eq_true, if_false, find0]
  rw [if_neg (by decide)]
theorem putA2 : doPut tA0 0 kA v5 = (0, tA1) := by
  unfold doPut tA0
  rw [if_neg (by rw [kA_key]; simp)]
  simp only [allow0, Bool.not_true, Bool.and_false, Bool.false_eq_true, if_false, find0]
  rw [if_pos (by decide)]
  rfl
theorem putA3 : doPut tA1 0 kA v6 = (0, tA2) := by
  unfold doPut tA1
  rw [if_neg (by rw [kA_key]; simp)]
  simp only [allow0, Bool.not_true, Bool.and_false, Bool.false_eq_true, if_false, find1, List.getElem?_cons_zero]
  rw [if_pos (by decide)]
  rfl
theorem putA4 : doPut tA2 1 kA v5 = (40, tA2) := by
  unfold doPut tA2
  rw [if_neg (by rw [kA_key]; simp)]
  simp only [allow0, Bool.not_true, Bool.and_false, Bool.false_eq_true, if_false, find1, List.getElem?_cons_zero]
  rw [if_neg (by decide)]
theorem getA : withV (getV tA2.F kA) (joinL [kA.label, tA2.l]) = v6 := by
  unfold getV tA2
  simp only [find1, List.getElem?_cons_zero]
  rfl
theorem fld_n (a b : Int) (s : ByteArray) (l : Int) (W : World) : (Instr.field 25 (.agg #[.int .i64 a, .int .i64 b, .string s, .int .u64 l]) 1).run Try.prog W = .ok (.int .i64 b) W := by
  have a2 := Try.isAgg2
  have z2 := Try.sizeOf2
  simp [Instr.field, run_underlying Try.underlying25, go_sem, part, a2, z2, asAgg, Result.andThen]
/-- The table of a walk: it stands in memory behind the call's beginning. -/
def TabW (w0 w : World) (tb : Nat) (T : TabS) (bs : List Nat) : Prop := ∃ fp, TabIn w w0.heap.size tb T fp ∧ (∀ b ∈ bs, b ∉ fp ∧ b < w.heap.size) ∧ Below w0.heap.size w0 w
theorem TabW.kept {w0 w w' : World} {tb : Nat} {T : TabS} {bs : List Nat} (h : TabW w0 w tb T bs) (hb : Below w.heap.size w w') : TabW w0 w' tb T bs := by
  obtain ⟨fp, h1, h2, h3⟩ := h
  exact ⟨fp, h1.kept (Fr.of_below hb []) (by simp), fun b hm => ⟨(h2 b hm).1, Nat.lt_of_lt_of_le (h2 b hm).2 hb.size⟩, h3.trans (hb.mono h3.size)⟩
theorem TabW.push {w0 w : World} {tb : Nat} {T : TabS} {bs : List Nat} (h : TabW w0 w tb T bs) (o : Obj) : TabW w0 (w.alloc o) tb T (w.heap.size :: bs) := by
  obtain ⟨fp, h1, h2, h3⟩ := h
  have hb := (Below.refl w.heap.size w).alloc (Nat.le_refl _) o
  refine ⟨fp, h1.kept (Fr.of_below hb []) (by simp), fun b hm => ?_, h3.trans (hb.mono h3.size)⟩
  rcases List.mem_cons.1 hm with rfl | hm
  · exact ⟨fun hf => absurd (h1.base _ hf).2 (by omega), by simp⟩
  · exact ⟨(h2 b hm).1, Nat.lt_of_lt_of_le (h2 b hm).2 hb.size⟩
theorem tput_w {w0 w : World} {tb : Nat} {T T' : TabS} {bs : List Nat} (h : TabW w0 w tb T bs) (ok : TabOk T) {ctx : Nat} {k v : VV} {n : Int} (hc : ctx < 18446744073709551616) (kk : VOk k) (kv : VOk v) (hb : T.F.length ≤ 10000) (he : doPut T ctx k v = (n, T')) :
    Calls Try.prog 34 #[.pointer (some ⟨tb, 0, none⟩), .int .u64 (ctx : Int), .agg (vvCells k), .agg (vvCells v)] w fun e w' => e = .returned (.int .i64 n) ∧ TabW w0 w' tb T' bs ∧ ∀ b ∈ bs, w'.heap[b]? = w.heap[b]? := by
  obtain ⟨fp, h1, h2, h3⟩ := h
  have hcall := tput_any h1 ok hc kk kv (small_room hb).2
  rw [he] at hcall
  refine hcall.mono ?_
  rintro e w' ⟨rfl, fp', h4, h5, h6⟩
  refine ⟨rfl, ⟨fp', h4, fun b hm => ⟨fun hf => ?_, Nat.lt_of_lt_of_le (h2 b hm).2 h5.size⟩, h3.trans (h5.to_below h3.size fun b hb => (h1.base b hb).1)⟩, fun b hm => h5.block b (h2 b hm).2 (h2 b hm).1⟩
  rcases h6 b hf with h7 | h7
  · exact (h2 b hm).1 h7
  · exact absurd (h2 b hm).2 (by omega)
set_option maxRecDepth 100000 in
set_option maxHeartbeats 4000000 in
theorem awake04 (w : World) : Calls Try.prog 30 #[] w (RetB (.bool true) w) := by
  have hnew := tnew_any 0 w
  have ok0 : TabOk tA0 := tabOk_new (by decide)
  have ok1 : TabOk tA1 := by have := doPut_ok ok0 (ctx := 0) (by decide) kA_ok v5_ok; rwa [putA2] at this
  have ok2 : TabOk tA2 := by have := doPut_ok ok1 (ctx := 0) (by decide) kA_ok v6_ok; rwa [putA3] at this
  have P1 := Lib.hid (fun (W : World) (tb : Nat) (bs : List Nat) (h : TabW w W tb tA0 bs) => tput_w h ok0 (ctx := 1) (by decide) kA_ok v5_ok (by decide) putA1)
  have P2 := Lib.hid (fun (W : World) (tb : Nat) (bs : List Nat) (h : TabW w W tb tA0 bs) => tput_w h ok0 (ctx := 0) (by decide) kA_ok v5_ok (by decide) putA2)
  have P3 := Lib.hid (fun (W : World) (tb : Nat) (bs : List Nat) (h : TabW w W tb tA1 bs) => tput_w h ok1 (ctx := 0) (by decide) kA_ok v6_ok (by decide) putA3)
  have P4 := Lib.hid (fun (W : World) (tb : Nat) (bs : List Nat) (h : TabW w W tb tA2 bs) => tput_w h ok2 (ctx := 1) (by decide) kA_ok v5_ok (by decide) putA4)
  have G := Lib.hid (fun (W : World) (tb : Nat) (bs : List Nat) (h : TabW w W tb tA2 bs) => show Calls Try.prog 35 #[.pointer (some ⟨tb, 0, none⟩), .agg (vvCells kA)] W (RetB (.agg (vvCells v6)) W) from h.elim fun fp h => by have := tget_is h.1 ok2 kA_ok; rwa [getA] at this)
  have Ln := Lib.hid (fun (W : World) (tb : Nat) (bs : List Nat) (h : TabW w W tb tA2 bs) => show Calls Try.prog 41 #[.pointer (some ⟨tb, 0, none⟩)] W (Ret (.int .i64 1) W) from h.elim fun fp h => tlen_any h.1)
  have HNEW := Lib.hid hnew
  have hfld := fun W => fld_n 2 6 ⟨#[]⟩ 0 W
  clear hnew ok0 ok1 ok2
  unfold kA v5 v6 vvCells at *
  go_enter Try.func30, Try.ntmps30
  go_wp2_with fail
  refine HNEW.out.mono ?_
  rintro e w1 ⟨tb, fp, rfl, hT, hb⟩
  have HW := Lib.hid (show TabW w w1 tb tA0 [] from ⟨fp, hT, by simp, hb⟩)
  clear hT hb
  go_wp2_with fail
  have h2 := (HW.out.push (.cells #[.int .i64 3, .int .i64 0, .string ⟨#[97]⟩, .int .u64 0] 25)).push (.cells #[.int .i64 2, .int .i64 5, .string ⟨#[]⟩, .int .u64 1] 25)
  have a0 : ((w1.alloc (.cells #[.int .i64 3, .int .i64 0, .string ⟨#[97]⟩, .int .u64 0] 25)).alloc (.cells #[.int .i64 2, .int .i64 5, .string ⟨#[]⟩, .int .u64 1] 25)).heap[w1.heap.size]? = some (.cells #[.int .i64 3, .int .i64 0, .string ⟨#[97]⟩, .int .u64 0] 25 (0, 0)) := blk_alloc (heap_alloc_new _ _) _
  have a1 := heap_new_at (w1.alloc (.cells #[.int .i64 3, .int .i64 0, .string ⟨#[97]⟩, .int .u64 0] 25)) (.cells #[.int .i64 2, .int .i64 5, .string ⟨#[]⟩, .int .u64 1] 25) (w1.heap.size + 1) (by simp)
  rw [World.size_alloc] at h2
  refine (P1.out _ _ _ h2).mono ?_
  rintro e w3 ⟨rfl, h3, k3⟩
  have b0 := Lib.hid ((k3 _ (by simp)).trans a0)
  have b1 := Lib.hid ((k3 _ (by simp)).trans a1)
  have H3 := Lib.hid h3
  clear h2 a0 a1 h3 k3 HW
  have x0 := cell_of_blk (i := 0) b0.out rfl
  have x1 := cell_of_blk (i := 1) b0.out rfl
  have x2 := cell_of_blk (i := 2) b0.out rfl
  have x3 := cell_of_blk (i := 3) b0.out rfl
  have y0 := cell_of_blk (i := 0) b1.out rfl
  have y1 := cell_of_blk (i := 1) b1.out rfl
  have y2 := cell_of_blk (i := 2) b1.out rfl
  have y3 := cell_of_blk (i := 3) b1.out rfl
  go_wp2_with fail
  refine (P2.out _ _ _ H3.out).mono ?_
  rintro e w4 ⟨rfl, h4, k4⟩
  have d0 := Lib.hid ((k4 _ (by simp)).trans b0.out)
  have d1 := Lib.hid ((k4 _ (by simp)).trans b1.out)
  have H4 := Lib.hid h4
  clear h4 k4 x0 x1 x2 x3 y0 y1 y2 y3 b0 b1 H3
  have x0 := cell_of_blk (i := 0) d0.out rfl
  have x1 := cell_of_blk (i := 1) d0.out rfl
  have x2 := cell_of_blk (i := 2) d0.out rfl
  have x3 := cell_of_blk (i := 3) d0.out rfl
  go_wp2_with fail
  refine (P3.out _ _ _ H4.out).mono ?_
  rintro e w5 ⟨rfl, h5, k5⟩
  have e0 := Lib.hid ((k5 _ (by simp)).trans d0.out)
  have e1 := Lib.hid ((k5 _ (by simp)).trans d1.out)
  have H5 := Lib.hid h5
  clear h5 k5 x0 x1 x2 x3 d0 d1 H4
  have x0 := cell_of_blk (i := 0) e0.out rfl
  have x1 := cell_of_blk (i := 1) e0.out rfl
  have x2 := cell_of_blk (i := 2) e0.out rfl
  have x3 := cell_of_blk (i := 3) e0.out rfl
  have y0 := cell_of_blk (i := 0) e1.out rfl
  have y1 := cell_of_blk (i := 1) e1.out rfl
  have y2 := cell_of_blk (i := 2) e1.out rfl
  have y3 := cell_of_blk (i := 3) e1.out rfl
  go_wp2_with fail
  refine (P4.out _ _ _ H5.out).mono ?_
  rintro e w6 ⟨rfl, h6, k6⟩
  have g0 := Lib.hid ((k6 _ (by simp)).trans e0.out)
  have H6 := Lib.hid h6
  clear h6 k6 x0 x1 x2 x3 y0 y1 y2 y3 e0 e1 H5
  have x0 := cell_of_blk (i := 0) g0.out rfl
  have x1 := cell_of_blk (i := 1) g0.out rfl
  have x2 := cell_of_blk (i := 2) g0.out rfl
  have x3 := cell_of_blk (i := 3) g0.out rfl
  go_wp2_with fail
  refine (G.out _ _ _ H6.out).mono ?_
  rintro e w7 ⟨rfl, hb7⟩
  have H7 := Lib.hid (H6.out.kept hb7)
  clear hb7 x0 x1 x2 x3 g0 H6
  go_wp2_with fail
  refine (Ln.out _ _ _ H7.out).mono ?_
  rintro e w8 ⟨rfl, rfl⟩
  go_wp2_with fail
  go_ret
  exact ⟨rfl, H7.out.elim fun fp h => h.2.2⟩
end Go.Proofs.Ythhphjfbdoffhaa
