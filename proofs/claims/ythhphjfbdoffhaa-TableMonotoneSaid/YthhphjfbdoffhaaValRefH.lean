/-
  The reference's operators on values: the words.
-/
import Derived.Test.YthhphjfbdoffhaaValRec
import Derived.Deep.CutBlock
import Derived.Deep.DeepCutAuto
set_option linter.unusedVariables false
set_option linter.unusedSimpArgs false
namespace Go.Proofs.Ythhphjfbdoffhaa
open Go.ChangeShapes Go.WideShapes Go.ChangeAt Go.RowKit

theorem both_excl {a b : VV} (h : bothK 2 a b = true) : bothK 3 a b = false := by
  unfold bothK at *
  simp at *
  omega
def RetT (v : VV) (s : ByteArray) (w : World) (e : Ending) (w' : World) : Prop := e = .returned (.tuple #[.agg (vvCells v), .string s]) ∧ Below w.heap.size w w'
theorem rsame_any (a b : VV) (w : World) : Calls Try.prog 27 #[.agg (vvCells a), .agg (vvCells b)] w (RetB (.bool (sameV a b)) w) := by
  unfold vvCells
  have hb0 : Below w.heap.size w ((w.alloc (.cells #[.int .i64 a.kind, .int .i64 a.n, .string a.s, .int .u64 (a.label : Int)] 25)).alloc (.cells #[.int .i64 b.kind, .int .i64 b.n, .string b.s, .int .u64 (b.label : Int)] 25)) := ((Below.refl _ _).alloc (Nat.le_refl _) _).alloc (by simp) _
  unfold sameV
  cases h1 : (a.kind == b.kind) <;> cases h2 : (a.n == b.n) <;> cases h3 : (a.s.toList == b.s.toList)
  all_goals
    go_enter Try.func27, Try.ntmps27
    go_wp2
    go_ret
    exact ⟨rfl, hb0⟩
end Go.Proofs.Ythhphjfbdoffhaa
