/-
  Chapter 23: the document's Bare.
-/
import Derived.Test.YtkdoohmchdpjoaaWorldRead
set_option linter.unusedVariables false
set_option linter.unusedSimpArgs false
namespace Go.Proofs.Ytkdoohmchdpjoaa
open Go.ChangeShapes Go.WideShapes Go.ChangeAt Go.RowKit

def bareVV (v : VV) : VV := ⟨v.kind, if v.kind = 1 ∨ v.kind = 2 then v.n else 0, if v.kind = 3 then v.s else ByteArray.empty, 0⟩
set_option maxRecDepth 100000 in
set_option maxHeartbeats 1000000 in
theorem rbare_any (v : VV) (w : World) : Calls Try.prog 38 #[.agg (vvCells v)] w (RetB (.agg (vvCells (bareVV v))) w) := by
  unfold vvCells
  by_cases k1 : v.kind = 1
  · have hv : bareVV v = ⟨1, v.n, ByteArray.empty, 0⟩ := by simp [bareVV, k1]
    rw [hv]
    go_enter Try.func38, Try.ntmps38
    go_wp2
    exact bodyPost_ret (v := .agg (vvCells ⟨1, v.n, ByteArray.empty, 0⟩)) (by simp [results, Try.results38, go_sem]; rfl) rfl ⟨rfl, (by repeat' (first | exact Below.refl _ _ | refine Below.drew ?_ | refine Below.setCell ?_ ?_ _ | refine Below.alloc ?_ ?_ _ | (simp; done) | (simp; omega)))⟩
  · by_cases k2 : v.kind = 2
    · have hv : bareVV v = ⟨2, v.n, ByteArray.empty, 0⟩ := by simp [bareVV, k2]
      rw [hv]
      go_enter Try.func38, Try.ntmps38
      go_wp2
      exact bodyPost_ret (v := .agg (vvCells ⟨2, v.n, ByteArray.empty, 0⟩)) (by simp [results, Try.results38, go_sem]; rfl) rfl ⟨rfl, (by repeat' (first | exact Below.refl _ _ | refine Below.drew ?_ | refine Below.setCell ?_ ?_ _ | refine Below.alloc ?_ ?_ _ | (simp; done) | (simp; omega)))⟩
    · by_cases k3 : v.kind = 3
      · have hv : bareVV v = ⟨3, 0, v.s, 0⟩ := by simp [bareVV, k3]
        rw [hv]
        go_enter Try.func38, Try.ntmps38
        go_wp2
        exact bodyPost_ret (v := .agg (vvCells ⟨3, 0, v.s, 0⟩)) (by simp [results, Try.results38, go_sem]; rfl) rfl ⟨rfl, (by repeat' (first | exact Below.refl _ _ | refine Below.drew ?_ | refine Below.setCell ?_ ?_ _ | refine Below.alloc ?_ ?_ _ | (simp; done) | (simp; omega)))⟩
      · have hv : bareVV v = ⟨v.kind, 0, ByteArray.empty, 0⟩ := by simp [bareVV, k1, k2, k3]
        rw [hv]
        go_enter Try.func38, Try.ntmps38
        go_wp2
        all_goals first | (exfalso; simp_all; done) | exact bodyPost_ret (v := .agg (vvCells ⟨v.kind, 0, ByteArray.empty, 0⟩)) (by simp [results, Try.results38, go_sem]; rfl) rfl ⟨rfl, (by repeat' (first | exact Below.refl _ _ | refine Below.drew ?_ | refine Below.setCell ?_ ?_ _ | refine Below.alloc ?_ ?_ _ | (simp; done) | (simp; omega)))⟩
end Go.Proofs.Ytkdoohmchdpjoaa
