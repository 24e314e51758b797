/-
  Whether types are alike: the reference's.
-/
import Derived.Test.YtohllalninoomaaDoorTyLike
import Derived.Deep.Cut
import Derived.Deep.CutBlock
set_option linter.unusedVariables false
set_option linter.unusedSimpArgs false
namespace Go.Proofs.YtohllalninoomaaDoor
open Go.ChangeShapes Go.WideShapes Go.ChangeAt Go.RowKit

end Go.Proofs.YtohllalninoomaaDoor
