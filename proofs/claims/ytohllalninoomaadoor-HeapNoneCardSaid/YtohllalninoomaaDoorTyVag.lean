/-
  Whether a type leaves something open: the inner walks of types.Vague and of the reference's.
-/
import Derived.Test.YtohllalninoomaaDoorTyLike
import Derived.Deep.Cut
import Derived.Deep.CutBlock
set_option linter.unusedVariables false
set_option linter.unusedSimpArgs false
namespace Go.Proofs.YtohllalninoomaaDoor
open Go.ChangeShapes Go.WideShapes Go.ChangeAt Go.RowKit

theorem loose_iff (t : LTy) : Loose (strip t) ↔ t.kind = 0 ∨ t.kind = 5 ∨ ∃ x ∈ t.xs, Loose (strip x) := by
  constructor
  · intro h
    cases h with
    | any h => exact .inl (by rwa [strip_kind] at h)
    | table h => exact .inr (.inl (by rwa [strip_kind] at h))
    | part h1 h2 =>
      rw [strip_args] at h1
      obtain ⟨x, hx, rfl⟩ := List.mem_map.1 h1
      exact .inr (.inr ⟨x, hx, h2⟩)
  · rintro (h | h | ⟨x, hx, h⟩)
    · exact .any (by rwa [strip_kind])
    · exact .table (by rwa [strip_kind])
    · exact .part (by rw [strip_args]; exact List.mem_map_of_mem hx) h
def FoundAt (p : Prop) (w : World) (e : Ending) (w' : World) : Prop := Below w.heap.size w w' ∧ ((p ∧ ∃ i : Nat, i ≤ 8796093022208 ∧ e = .returned (.int .i64 i)) ∨ (¬ p ∧ e = .returned (.int .i64 (-1))))
end Go.Proofs.YtohllalninoomaaDoor
