/-
  Not of a value, the reference's and the program's.
-/
import Derived.Test.YthhphjfbdoffhaaValWith
set_option linter.unusedVariables false
set_option linter.unusedSimpArgs false
namespace Go.Proofs.Ythhphjfbdoffhaa
open Go.ChangeShapes Go.WideShapes Go.ChangeAt Go.RowKit

def KeepV (v : VV) (n : Nat) (w' : World) : Prop := w'.cell? ⟨n, 0, none⟩ = some (.int .i64 v.kind) ∧ w'.cell? ⟨n, 1, none⟩ = some (.int .i64 v.n) ∧ w'.cell? ⟨n, 2, none⟩ = some (.string v.s) ∧ w'.cell? ⟨n, 3, none⟩ = some (.int .u64 (v.label : Int))
theorem keepV_of {v : VV} {n : Nat} {w : World} (h : w.heap[n]? = some (.cells #[.int .i64 v.kind, .int .i64 v.n, .string v.s, .int .u64 (v.label : Int)] 25 (0, 0))) : KeepV v n w :=
  ⟨cell_of_blk (i := 0) h rfl, cell_of_blk (i := 1) h rfl, cell_of_blk (i := 2) h rfl, cell_of_blk (i := 3) h rfl⟩
def notV (v : VV) : VV := withV (flagV (!truthV v)) v.label
set_option maxRecDepth 100000 in
set_option maxHeartbeats 2000000 in
theorem rnot_any (v : VV) (w : World) (hv : v.label < 18446744073709551616) : Calls Try.prog 29 #[.agg (vvCells v)] w (RetB (.agg (vvCells (notV v))) w) := by
  have h1 := fun w => rtruth_any v w
  have h2 := fun w => rflag_any (!truthV v) w
  have h3 := fun w => rwith_any (flagV (!truthV v)) v.label w (by simp [flagV]) hv
  have hN : notV v = withV (flagV (!truthV v)) v.label := rfl
  rw [hN]
  generalize truthV v = T at h1 h2 h3 ⊢
  generalize flagV (!T) = F at h2 h3 ⊢
  generalize withV F v.label = X at h3 ⊢
  unfold vvCells at h1 h2 h3 ⊢
  have H1 := Lib.hid h1
  have H2 := Lib.hid h2
  have H3 := Lib.hid h3
  clear h1 h2 h3 hN hv
  go_enter Try.func29, Try.ntmps29
  go_wp2
  refine gen_wp fun W hW => ?_
  have hA : W.heap[w.heap.size]? = some (.cells #[.int .i64 v.kind, .int .i64 v.n, .string v.s, .int .u64 (v.label : Int)] 25 (0, 0)) := by rw [← hW]; exact blk_alloc (heap_new_at _ _ _ rfl) _
  have hZ : W.heap[w.heap.size + 1]? = some (.cells #[.int .i64 0, .int .i64 0, .string ByteArray.empty, .int .u64 0] 25 (0, 0)) := by rw [← hW]; exact heap_new_at _ _ _ (by simp)
  have hbw : Below w.heap.size w W := by rw [← hW]; exact ((Below.refl _ _).alloc (Nat.le_refl _) _).alloc (by simp) _
  clear hW
  have a0 := cell_of_blk (i := 0) hA rfl
  have a1 := cell_of_blk (i := 1) hA rfl
  have a2 := cell_of_blk (i := 2) hA rfl
  have a3 := cell_of_blk (i := 3) hA rfl
  have HA := Lib.hid hA
  have HZ := Lib.hid hZ
  have HW := Lib.hid hbw
  clear hA hZ hbw
  go_region_held3 (fun w' => w'.cell? ⟨w.heap.size, 0, none⟩ = some (.int .i64 v.kind) ∧ w'.cell? ⟨w.heap.size, 1, none⟩ = some (.int .i64 v.n) ∧ w'.cell? ⟨w.heap.size, 2, none⟩ = some (.string v.s) ∧ w'.cell? ⟨w.heap.size, 3, none⟩ = some (.int .u64 (v.label : Int))) (first | go_keep | exact ks | exact ks2 | exact ks3)
    ((first
      | (go_at_call 26; refine (H1.out _).mono ?_; rintro e w1 ⟨rfl, hb1⟩; have hA1 := below_blk hb1 (blk_drew HA.out); have hZ1 := below_blk hb1 (blk_drew HZ.out); have ks := And.intro (cell_of_blk (i := 0) hA1 rfl) (And.intro (cell_of_blk (i := 1) hA1 rfl) (And.intro (cell_of_blk (i := 2) hA1 rfl) (cell_of_blk (i := 3) hA1 rfl))))
      | (go_at_call 52; refine (H2.out _).mono ?_; rintro e w2 ⟨rfl, hb2⟩; have hA2 := below_blk hb2 hA1; have hZ2 := below_blk hb2 hZ1; have ks2 := And.intro (cell_of_blk (i := 0) hA2 rfl) (And.intro (cell_of_blk (i := 1) hA2 rfl) (And.intro (cell_of_blk (i := 2) hA2 rfl) (cell_of_blk (i := 3) hA2 rfl))))
      | (go_at_call 17; refine (H3.out _).mono ?_; rintro e w3 ⟨rfl, hb3⟩; have hA3 := below_blk hb3 hA2; have hZ3 := below_blk hb3 hZ2; have hlz := blk_lt hZ3; have y0 := cell_of_blk (i := 0) hZ3 rfl; have q0 : w3.frozen? ⟨w.heap.size + 1, 0, none⟩ = false := free_of_blk hZ3; have y1 := cell_of_blk (i := 1) hZ3 rfl; have q1 : w3.frozen? ⟨w.heap.size + 1, 1, none⟩ = false := free_of_blk hZ3; have y2 := cell_of_blk (i := 2) hZ3 rfl; have q2 : w3.frozen? ⟨w.heap.size + 1, 2, none⟩ = false := free_of_blk hZ3; have y3 := cell_of_blk (i := 3) hZ3 rfl; have q3 : w3.frozen? ⟨w.heap.size + 1, 3, none⟩ = false := free_of_blk hZ3; have ks3 := And.intro (cell_of_blk (i := 0) hA3 rfl) (And.intro (cell_of_blk (i := 1) hA3 rfl) (And.intro (cell_of_blk (i := 2) hA3 rfl) (cell_of_blk (i := 3) hA3 rfl))))))
  go_wp2
  have hb3' : Below w.heap.size w w3 := ((HW.out.drew).trans ((hb1.trans (hb2.mono hb1.size)).mono HW.out.size)).trans (hb3.mono (by have := HW.out.size; have := hb1.size; have := hb2.size; simp at *; omega))
  have hbe : ∀ u0 u1 u2 u3, Below w.heap.size w ((((w3.setCell ⟨w.heap.size + 1, 0, none⟩ u0).setCell ⟨w.heap.size + 1, 1, none⟩ u1).setCell ⟨w.heap.size + 1, 2, none⟩ u2).setCell ⟨w.heap.size + 1, 3, none⟩ u3) := fun u0 u1 u2 u3 => (((hb3'.setCell (by simp) _).setCell (by simp) _).setCell (by simp) _).setCell (by simp) _
  exact bodyPost_ret (v := .agg #[.int .i64 X.kind, .int .i64 X.n, .string X.s, .int .u64 (X.label : Int)]) (by simp [results, Try.results29, go_sem, y0, y1, y2, y3, hlz]) rfl ⟨rfl, hbe _ _ _ _⟩
end Go.Proofs.Ythhphjfbdoffhaa
