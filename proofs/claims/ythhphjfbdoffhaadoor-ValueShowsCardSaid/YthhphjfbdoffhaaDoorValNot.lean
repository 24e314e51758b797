/-
  Not of a value, the reference's and the program's.
-/
import Derived.Test.YthhphjfbdoffhaaDoorValWith
set_option linter.unusedVariables false
set_option linter.unusedSimpArgs false
namespace Go.Proofs.YthhphjfbdoffhaaDoor
open Go.ChangeShapes Go.WideShapes Go.ChangeAt Go.RowKit

def KeepV (v : VV) (n : Nat) (w' : World) : Prop := w'.cell? ⟨n, 0, none⟩ = some (.int .i64 v.kind) ∧ w'.cell? ⟨n, 1, none⟩ = some (.int .i64 v.n) ∧ w'.cell? ⟨n, 2, none⟩ = some (.string v.s) ∧ w'.cell? ⟨n, 3, none⟩ = some (.int .u64 (v.label : Int))
theorem keepV_of {v : VV} {n : Nat} {w : World} (h : w.heap[n]? = some (.cells #[.int .i64 v.kind, .int .i64 v.n, .string v.s, .int .u64 (v.label : Int)] 25 (0, 0))) : KeepV v n w :=
  ⟨cell_of_blk (i := 0) h rfl, cell_of_blk (i := 1) h rfl, cell_of_blk (i := 2) h rfl, cell_of_blk (i := 3) h rfl⟩
def notV (v : VV) : VV := withV (flagV (!truthV v)) v.label
end Go.Proofs.YthhphjfbdoffhaaDoor
