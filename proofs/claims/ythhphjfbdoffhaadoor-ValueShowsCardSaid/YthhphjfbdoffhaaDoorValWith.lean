/-
  A value with labels more; Not.
-/
import Derived.Test.YthhphjfbdoffhaaDoorValMore
set_option linter.unusedVariables false
set_option linter.unusedSimpArgs false
namespace Go.Proofs.YthhphjfbdoffhaaDoor
open Go.ChangeShapes Go.WideShapes Go.ChangeAt Go.RowKit

def withV (v : VV) (l : Nat) : VV := { v with label := v.label ||| l }
end Go.Proofs.YthhphjfbdoffhaaDoor
