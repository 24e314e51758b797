/-
  Chapter 04: the small calls on a table.
-/
import Derived.Test.YthhphjfbdoffhaaTabIn
import Derived.Test.YthhphjfbdoffhaaValMore
set_option linter.unusedVariables false
set_option linter.unusedSimpArgs false
namespace Go.Proofs.Ythhphjfbdoffhaa
open Go.ChangeShapes Go.WideShapes Go.ChangeAt Go.RowKit Go.Maps

theorem tlen_nil (w : World) : Calls Try.prog 41 #[.pointer none] w (Ret (.int .i64 0) w) := by
  go_enter Try.func41, Try.ntmps41
  go_wp2
  go_ret
  exact ⟨rfl, rfl⟩
theorem tlabel_nil (w : World) : Calls Try.prog 42 #[.pointer none] w (Ret (.int .u64 0) w) := by
  go_enter Try.func42, Try.ntmps42
  go_wp2
  go_ret
  exact ⟨rfl, rfl⟩
theorem tlen_any {w : World} {B tb : Nat} {T : TabS} {fp : List Nat} (h : TabIn w B tb T fp) : Calls Try.prog 41 #[.pointer (some ⟨tb, 0, none⟩)] w (Ret (.int .i64 (T.F.length : Int)) w) := by
  obtain ⟨⟨fv, sv, mb, nb, n, m, D, E, _, h1, h2, _⟩, _⟩ := h
  obtain ⟨A, c, rfl, _⟩ := own_form h2
  have c1 : w.cell? ⟨tb, 1, none⟩ = some (.slice A T.F.length c) := cell_of_blk h1 rfl
  clear h1 h2
  go_enter Try.func41, Try.ntmps41
  go_wp2
  go_ret
  exact ⟨rfl, rfl⟩
theorem tlabel_any {w : World} {B tb : Nat} {T : TabS} {fp : List Nat} (h : TabIn w B tb T fp) : Calls Try.prog 42 #[.pointer (some ⟨tb, 0, none⟩)] w (Ret (.int .u64 (T.l : Int)) w) := by
  obtain ⟨⟨fv, sv, mb, nb, n, m, D, E, _, h1, _⟩, _⟩ := h
  have c1 : w.cell? ⟨tb, 0, none⟩ = some (.int .u64 (T.l : Int)) := cell_of_blk h1 rfl
  clear h1
  go_enter Try.func42, Try.ntmps42
  go_wp2
  go_ret
  exact ⟨rfl, rfl⟩
/-- Whether a value is a key. -/
def isKey (v : VV) : Bool := (decide (v.kind = 2) || decide (v.kind = 3)) && checkV v
set_option maxRecDepth 100000 in
set_option maxHeartbeats 2000000 in
theorem keyof_any (v : VV) (w : World) : Calls Try.prog 57 #[.agg (vvCells v)] w fun e w' => e = .returned (.tuple #[if isKey v = true then keyV v.n v.s (decide (v.kind = 3)) else keyV 0 ⟨#[]⟩ false, .bool (isKey v)]) ∧ Below w.heap.size w w' := by
  have hc := fun W => check_any v W
  obtain ⟨k, n, s, l⟩ := v
  have HB := Lib.hid (((Below.refl w.heap.size w).alloc (Nat.le_refl _) (.cells #[.int .i64 k, .int .i64 n, .string s, .int .u64 (l : Int)] 25)).alloc (by simp) (.cells #[.int .i64 0, .string ⟨#[]⟩, .bool false] 87))
  unfold isKey keyV
  unfold vvCells at hc ⊢
  generalize checkV ⟨k, n, s, l⟩ = β at hc ⊢
  have hC := Lib.hid hc
  clear hc
  dsimp only at hC ⊢
  by_cases k2 : k = 2
  · subst k2
    cases β
    case false =>
      go_enter Try.func57, Try.ntmps57
      go_wp2_with fail
      refine (hC.out _).mono ?_
      rintro e w1 ⟨rfl, hb1⟩
      have u0 := below_blk hb1 (blk_alloc (heap_alloc_new w _) _)
      have u1 := below_blk hb1 (heap_new_at _ _ (w.heap.size + 1) (by simp))
      have f0 := cell_of_blk (i := 0) u0 rfl
      have f1 := cell_of_blk (i := 1) u0 rfl
      have f2 := cell_of_blk (i := 2) u0 rfl
      have f3 := cell_of_blk (i := 3) u0 rfl
      have g0 := cell_of_blk (i := 0) u1 rfl
      have g1 := cell_of_blk (i := 1) u1 rfl
      have g2 := cell_of_blk (i := 2) u1 rfl
      have z0 := free_of_blk (i := 0) u1
      have z1 := free_of_blk (i := 1) u1
      have z2 := free_of_blk (i := 2) u1
      have l1 := blk_lt u1
      have HB1 := Lib.hid (HB.out.trans (hb1.mono (by simp; omega)))
      have U1 := Lib.hid u1
      clear u0 u1 hb1
      go_wp2
      exact bodyPost_ret (v := .tuple #[.agg #[.int .i64 0, .string ⟨#[]⟩, .bool false], .bool false]) (by simp [results, Try.results57, go_sem, Lib.cell_of_heap (blk_set (blk_set (blk_set U1.out _) _) _), f0]) rfl ⟨by first | rfl | simp, (by repeat' (first | exact HB1.out | refine Below.setCell ?_ ?_ _ | (simp; done) | (simp; omega)))⟩
    case true =>
      go_enter Try.func57, Try.ntmps57
      go_wp2_with fail
      refine (hC.out _).mono ?_
      rintro e w1 ⟨rfl, hb1⟩
      have u0 := below_blk hb1 (blk_alloc (heap_alloc_new w _) _)
      have u1 := below_blk hb1 (heap_new_at _ _ (w.heap.size + 1) (by simp))
      have f0 := cell_of_blk (i := 0) u0 rfl
      have f1 := cell_of_blk (i := 1) u0 rfl
      have f2 := cell_of_blk (i := 2) u0 rfl
      have f3 := cell_of_blk (i := 3) u0 rfl
      have g0 := cell_of_blk (i := 0) u1 rfl
      have g1 := cell_of_blk (i := 1) u1 rfl
      have g2 := cell_of_blk (i := 2) u1 rfl
      have z0 := free_of_blk (i := 0) u1
      have z1 := free_of_blk (i := 1) u1
      have z2 := free_of_blk (i := 2) u1
      have l1 := blk_lt u1
      have HB1 := Lib.hid (HB.out.trans (hb1.mono (by simp; omega)))
      have U1 := Lib.hid u1
      clear u0 u1 hb1
      go_wp2
      exact bodyPost_ret (v := .tuple #[.agg #[.int .i64 n, .string s, .bool false], .bool true]) (by simp [results, Try.results57, go_sem, Lib.cell_of_heap (blk_set (blk_set (blk_set U1.out _) _) _), f0]) rfl ⟨by first | rfl | simp, (by repeat' (first | exact HB1.out | refine Below.setCell ?_ ?_ _ | (simp; done) | (simp; omega)))⟩
  by_cases k3 : k = 3
  · subst k3
    cases β
    case false =>
      go_enter Try.func57, Try.ntmps57
      go_wp2_with fail
      refine (hC.out _).mono ?_
      rintro e w1 ⟨rfl, hb1⟩
      have u0 := below_blk hb1 (blk_alloc (heap_alloc_new w _) _)
      have u1 := below_blk hb1 (heap_new_at _ _ (w.heap.size + 1) (by simp))
      have f0 := cell_of_blk (i := 0) u0 rfl
      have f1 := cell_of_blk (i := 1) u0 rfl
      have f2 := cell_of_blk (i := 2) u0 rfl
      have f3 := cell_of_blk (i := 3) u0 rfl
      have g0 := cell_of_blk (i := 0) u1 rfl
      have g1 := cell_of_blk (i := 1) u1 rfl
      have g2 := cell_of_blk (i := 2) u1 rfl
      have z0 := free_of_blk (i := 0) u1
      have z1 := free_of_blk (i := 1) u1
      have z2 := free_of_blk (i := 2) u1
      have l1 := blk_lt u1
      have HB1 := Lib.hid (HB.out.trans (hb1.mono (by simp; omega)))
      have U1 := Lib.hid u1
      clear u0 u1 hb1
      go_wp2
      exact bodyPost_ret (v := .tuple #[.agg #[.int .i64 0, .string ⟨#[]⟩, .bool false], .bool false]) (by simp [results, Try.results57, go_sem, Lib.cell_of_heap (blk_set (blk_set (blk_set U1.out _) _) _), f0]) rfl ⟨by first | rfl | simp, (by repeat' (first | exact HB1.out | refine Below.setCell ?_ ?_ _ | (simp; done) | (simp; omega)))⟩
    case true =>
      go_enter Try.func57, Try.ntmps57
      go_wp2_with fail
      refine (hC.out _).mono ?_
      rintro e w1 ⟨rfl, hb1⟩
      have u0 := below_blk hb1 (blk_alloc (heap_alloc_new w _) _)
      have u1 := below_blk hb1 (heap_new_at _ _ (w.heap.size + 1) (by simp))
      have f0 := cell_of_blk (i := 0) u0 rfl
      have f1 := cell_of_blk (i := 1) u0 rfl
      have f2 := cell_of_blk (i := 2) u0 rfl
      have f3 := cell_of_blk (i := 3) u0 rfl
      have g0 := cell_of_blk (i := 0) u1 rfl
      have g1 := cell_of_blk (i := 1) u1 rfl
      have g2 := cell_of_blk (i := 2) u1 rfl
      have z0 := free_of_blk (i := 0) u1
      have z1 := free_of_blk (i := 1) u1
      have z2 := free_of_blk (i := 2) u1
      have l1 := blk_lt u1
      have HB1 := Lib.hid (HB.out.trans (hb1.mono (by simp; omega)))
      have U1 := Lib.hid u1
      clear u0 u1 hb1
      go_wp2
      exact bodyPost_ret (v := .tuple #[.agg #[.int .i64 n, .string s, .bool true], .bool true]) (by simp [results, Try.results57, go_sem, Lib.cell_of_heap (blk_set (blk_set (blk_set U1.out _) _) _), f0]) rfl ⟨by first | rfl | simp, (by repeat' (first | exact HB1.out | refine Below.setCell ?_ ?_ _ | (simp; done) | (simp; omega)))⟩
  have n2 : (k == 2) = false := by simpa using k2
  have n3 : (k == 3) = false := by simpa using k3
  have n2' : (k != 2) = true := by simpa using k2
  have n3' : (k != 3) = true := by simpa using k3
  rw [show ((decide (k = 2) || decide (k = 3)) && β) = false from by simp [k2, k3]]
  go_enter Try.func57, Try.ntmps57
  go_wp2
  exact bodyPost_ret (v := .tuple #[.agg #[.int .i64 0, .string ⟨#[]⟩, .bool false], .bool false]) (by simp [results, Try.results57, go_sem]) rfl ⟨by first | rfl | simp, HB.out⟩
end Go.Proofs.Ythhphjfbdoffhaa
