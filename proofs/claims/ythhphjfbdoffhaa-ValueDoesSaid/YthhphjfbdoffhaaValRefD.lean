/-
  The reference's operators on values, joined.
-/
import Derived.Test.YthhphjfbdoffhaaValRef
import Derived.Test.YthhphjfbdoffhaaValRefC
import Derived.Test.YthhphjfbdoffhaaValRefB
import Derived.Deep.CutBlock
import Derived.Deep.DeepCutAuto
set_option linter.unusedVariables false
set_option linter.unusedSimpArgs false
namespace Go.Proofs.Ythhphjfbdoffhaa
open Go.ChangeShapes Go.WideShapes Go.ChangeAt Go.RowKit

/-- What raw answers. -/
def rawV (r : Except ByteArray VV) : VV × ByteArray := match r with
  | .ok v => (v, ByteArray.empty)
  | .error s => (zeroVV, s)
theorem raw_any (op : Int) (a b : VV) (w : World) (ha : -9223372036854775808 ≤ a.n ∧ a.n ≤ 9223372036854775807) (hb : -9223372036854775808 ≤ b.n ∧ b.n ≤ 9223372036854775807) (hsz : a.s.size + b.s.size ≤ 1000000) :
    Calls Try.prog 48 #[.int .i64 op, .agg (vvCells a), .agg (vvCells b)] w (RetT (rawV (doneS op a b)).1 (rawV (doneS op a b)).2 w) := by
  unfold doneS
  by_cases o8 : op = 8
  · subst o8; exact raw_eq a b w
  rw [if_neg o8]
  by_cases o9 : op = 9
  · subst o9
    rw [if_pos rfl]
    cases h3 : bothK 3 a b
    · exact raw_nocat a b w h3
    · exact raw_cat a b w h3 hsz
  rw [if_neg o9]
  by_cases o6 : op = 6
  · subst o6
    rw [if_pos rfl]
    cases h2 : bothK 2 a b
    · cases h3 : bothK 3 a b
      · exact raw_lt_no a b w h2 h3
      · exact raw_lt_str a b w h2 h3
    · rw [both_excl h2]
      exact raw_lt_int a b w h2 (both_excl h2)
  rw [if_neg o6]
  by_cases o7 : op = 7
  · subst o7
    rw [if_pos rfl]
    cases h2 : bothK 2 a b
    · cases h3 : bothK 3 a b
      · exact raw_le_no a b w h2 h3
      · exact raw_le_str a b w h2 h3
    · rw [both_excl h2]
      exact raw_le_int a b w h2 (both_excl h2)
  rw [if_neg o7]
  by_cases h1 : 1 ≤ op
  · by_cases h5 : op ≤ 5
    · cases h2 : bothK 2 a b
      · rw [if_neg (fun h => by cases h.2.2)]
        exact raw_noarith a b w op h1 h5 h2
      · rw [if_pos ⟨h1, h5, rfl⟩]
        cases hn : doS op a.n b.n with
        | none => exact raw_divide a b w op h1 h5 h2 ha hb hn
        | some n => exact raw_arith a b w op h1 h5 h2 ha hb n hn
    · rw [if_neg (fun h => h5 h.2.1)]
      exact raw_high a b w op (by omega)
  · rw [if_neg (fun h => h1 h.1)]
    exact raw_low a b w op (by omega)
end Go.Proofs.Ythhphjfbdoffhaa
