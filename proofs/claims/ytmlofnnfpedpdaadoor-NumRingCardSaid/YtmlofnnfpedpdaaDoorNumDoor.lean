/-
  What the rows' list gives: the table of powers of ten; a world in which the listed variables lie as the door lays them.
-/
import Derived.Test.YtmlofnnfpedpdaaDoorNumShow
import Derived.Test.YtmlofnnfpedpdaaDoorOpen2
import Derived.Test.YtmlofnnfpedpdaaDoorCards
import Derived.Test.YtmlofnnfpedpdaaDoorTie
import Derived.LaidMore
import Derived.OpenShut
import Derived.Stop.Joined
import Derived.Stop.LaidErr
import Derived.Deep.DeepHandedRow
import Derived.SevenTiedAt
set_option linter.unusedVariables false
set_option linter.unusedSimpArgs false
namespace Go.Proofs.YtmlofnnfpedpdaaDoor
open Go.ChangeShapes Go.WideShapes Go.ChangeAt Go.RowKit

theorem gp_type : (Tryd.prog.globals[0]?).map (·.type) = some 49 := by kernel_rfl
theorem table {W : World} (h : laidMetH Tryd.prog Rows.numDoesRow.laid W) : Tab W := by
  rw [MakeChecks.laidMetH_plain _ _ _ (by kernel_rfl)] at h
  have h2 : laidMet Tryd.prog (("internal/strconv.uint64pow10", Lib.tabData .u64 Lib.pow10Tab) :: []) W := laidMet.tail (laidMet.tail h)
  exact Lib.tabIs_of_head g_pow10 gp_type Tryd.underlying49 Tryd.underlying37 (by kernel_rfl) (by kernel_rfl) h2
theorem door_met (os : Os) (args : Array Value) : laidMetH Tryd.prog Rows.numDoesRow.laid ((World.doorLaid Tryd.prog 24 os).forCall (fun _ _ => 0) ⟨#[], args, []⟩).memory :=
  laidMetH_of_parts3 (fuel := 8) (laidMet_of_run' 8 (by kernel_rfl) (by kernel_rfl)) (by kernel_rfl) (by kernel_rfl)
end Go.Proofs.YtmlofnnfpedpdaaDoor
