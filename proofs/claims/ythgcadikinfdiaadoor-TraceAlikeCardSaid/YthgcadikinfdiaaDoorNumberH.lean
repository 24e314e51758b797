/-
  A number's text: the program's reader, at a hexadecimal one.
-/
import Derived.Test.YthgcadikinfdiaaDoorNumberW
set_option linter.unusedVariables false
set_option linter.unusedSimpArgs false
namespace Go.Proofs.YthgcadikinfdiaaDoor
open Go.ChangeShapes Go.WideShapes Go.ChangeAt Go.RowKit

theorem hex_wrap (N D : Nat) : IntKind.u64.wrap (IntKind.u64.wrap ((N : Int) * 16) + (D : Int)) = (((16 * N + D) % 18446744073709551616 : Nat) : Int) := by
  rw [IntKind.wrap_u64, IntKind.wrap_u64]
  omega
end Go.Proofs.YthgcadikinfdiaaDoor
