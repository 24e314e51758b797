/-
  A number's text: the reference's reader.
-/
import Derived.Test.YthgcadikinfdiaaDoorNumberH
set_option linter.unusedVariables false
set_option linter.unusedSimpArgs false
namespace Go.Proofs.YthgcadikinfdiaaDoor
open Go.ChangeShapes Go.WideShapes Go.ChangeAt Go.RowKit

theorem hex_wrap' (N D : Nat) : IntKind.u64.wrap (IntKind.u64.wrap (16 * (N : Int)) + (D : Int)) = (((16 * N + D) % 18446744073709551616 : Nat) : Int) := by
  rw [IntKind.wrap_u64, IntKind.wrap_u64]
  omega
theorem byte_lt (c : UInt8) : c.toNat < 256 := c.toNat_lt
end Go.Proofs.YthgcadikinfdiaaDoor
