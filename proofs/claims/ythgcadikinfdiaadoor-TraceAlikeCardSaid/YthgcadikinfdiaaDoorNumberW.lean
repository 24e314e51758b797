/-
  A number's text: the program's reader.
-/
import Derived.Test.YthgcadikinfdiaaDoorNumber
set_option linter.unusedVariables false
set_option linter.unusedSimpArgs false
namespace Go.Proofs.YthgcadikinfdiaaDoor
open Go.ChangeShapes Go.WideShapes Go.ChangeAt Go.RowKit

end Go.Proofs.YthgcadikinfdiaaDoor
