/-
  No cell of these rows narrows 'for every input' (looked for: loops, veiled, ifaces, maps, wideKeys, modest, calm, conditions, laid).
  DERIVED. THE GIVEN ROWS OF THIS SEAT. 10 by the template 'for every input the law returns true; each argument reads behind the call as it read before'; 0 by the template 'total and deterministic' (their statements: YthhphjfbdoffhaaTotals.lean).
  GIVEN WITH THE SEED: the statements are not yours to turn. If you find one false, say at which input.
  Laid BY PROGRAM, IN A SANDBOX (cutbox-rows.mjs): the forced cells as the released guide's own fill.sh prints them over the translation 696492e392527a21… (all of the seat's roots in one cut). By AI agents, Wed Nov 11 2026. No macro, syntax, notation, axiom, sorry.
-/
import Derived.Test.YthhphjfbdoffhaaChecked
import GoSem.Claim
import GoSem.ClaimJoined
import GoSem.ClaimMapViews
import Derived.JoinedTies
import Derived.KernelRfl
namespace Go.Proofs.Ythhphjfbdoffhaa
/- THE CELL 'sum', in the pinned program and in every row, IS THE sha256 OF THE DUMP (.gsa) THAT YthhphjfbdoffhaaProg.lean LOADS. Nothing in Lean hashes anything: it is a label: what it is worth is what the hold of that sum in a sandbox is worth. -/
noncomputable def Try.pinned : Pinned := { name := "ythhphjfbdoffhaa", sum := "696492e392527a21c59e7f70230d2d7ba6eab2f28bef5e75f6a87717565b5ab7", checked := Try.checked }
namespace Rows
def none {H : Type} : Left H := { results := [], args := [] }

/-- 'ravelinlaw03.ValueDoes': WHATEVER THE INPUT: true; the input reads as it did. -/
def valueDoesSpec : ChangeSpec := { name := "valueDoes", fn := fun _ => fun
  | [d1, d2, d3] => { results := [.lit (.bool true)], args := [d1, d2, d3] }
  | _ => none }
def valueDoesRow : OpenClaim := { program := "ythhphjfbdoffhaa", sum := "696492e392527a21c59e7f70230d2d7ba6eab2f28bef5e75f6a87717565b5ab7", func := "ravelin/ravelinlaw03.ValueDoes", spec := "valueDoes", unfollowed := true, recurses := true, plainKeys := false, apart := false }
def ValueDoesSaid : Prop := valueDoesRow.holds Try.pinned (OpenSpec.ofChange valueDoesSpec)

/-- ITS FALSE NEIGHBOUR: 'it returns false'. Refute it at one input. -/
def valueDoesWrong : ChangeSpec := { name := "valueDoes", fn := fun _ => fun
  | [d1, d2, d3] => { results := [.lit (.bool false)], args := [d1, d2, d3] }
  | _ => none }
def ValueDoesWrongFalsely : Prop := valueDoesRow.holds Try.pinned (OpenSpec.ofChange valueDoesWrong)

/-- 'ravelinlaw03.ValueLabels': WHATEVER THE INPUT: true; the input reads as it did. -/
def valueLabelsSpec : ChangeSpec := { name := "valueLabels", fn := fun _ => fun
  | [d1, d2, d3, d4] => { results := [.lit (.bool true)], args := [d1, d2, d3, d4] }
  | _ => none }
def valueLabelsRow : OpenClaim := { program := "ythhphjfbdoffhaa", sum := "696492e392527a21c59e7f70230d2d7ba6eab2f28bef5e75f6a87717565b5ab7", func := "ravelin/ravelinlaw03.ValueLabels", spec := "valueLabels", unfollowed := true, recurses := true, plainKeys := false, apart := false }
def ValueLabelsSaid : Prop := valueLabelsRow.holds Try.pinned (OpenSpec.ofChange valueLabelsSpec)

/-- ITS FALSE NEIGHBOUR: 'it returns false'. Refute it at one input. -/
def valueLabelsWrong : ChangeSpec := { name := "valueLabels", fn := fun _ => fun
  | [d1, d2, d3, d4] => { results := [.lit (.bool false)], args := [d1, d2, d3, d4] }
  | _ => none }
def ValueLabelsWrongFalsely : Prop := valueLabelsRow.holds Try.pinned (OpenSpec.ofChange valueLabelsWrong)

/-- 'ravelinlaw03.ValueChecks': WHATEVER THE INPUT: true; the input reads as it did. -/
def valueChecksSpec : ChangeSpec := { name := "valueChecks", fn := fun _ => fun
  | [d] => { results := [.lit (.bool true)], args := [d] }
  | _ => none }
def valueChecksRow : OpenClaim := { program := "ythhphjfbdoffhaa", sum := "696492e392527a21c59e7f70230d2d7ba6eab2f28bef5e75f6a87717565b5ab7", func := "ravelin/ravelinlaw03.ValueChecks", spec := "valueChecks", unfollowed := true, recurses := true, plainKeys := false, apart := false }
def ValueChecksSaid : Prop := valueChecksRow.holds Try.pinned (OpenSpec.ofChange valueChecksSpec)

/-- ITS FALSE NEIGHBOUR: 'it returns false'. Refute it at one input. -/
def valueChecksWrong : ChangeSpec := { name := "valueChecks", fn := fun _ => fun
  | [d] => { results := [.lit (.bool false)], args := [d] }
  | _ => none }
def ValueChecksWrongFalsely : Prop := valueChecksRow.holds Try.pinned (OpenSpec.ofChange valueChecksWrong)

/-- 'ravelinlaw03.ValueOrders': WHATEVER THE INPUT: true; the input reads as it did. -/
def valueOrdersSpec : ChangeSpec := { name := "valueOrders", fn := fun _ => fun
  | [d1, d2] => { results := [.lit (.bool true)], args := [d1, d2] }
  | _ => none }
def valueOrdersRow : OpenClaim := { program := "ythhphjfbdoffhaa", sum := "696492e392527a21c59e7f70230d2d7ba6eab2f28bef5e75f6a87717565b5ab7", func := "ravelin/ravelinlaw03.ValueOrders", spec := "valueOrders", unfollowed := true, recurses := true, plainKeys := false, apart := false }
def ValueOrdersSaid : Prop := valueOrdersRow.holds Try.pinned (OpenSpec.ofChange valueOrdersSpec)

/-- ITS FALSE NEIGHBOUR: 'it returns false'. Refute it at one input. -/
def valueOrdersWrong : ChangeSpec := { name := "valueOrders", fn := fun _ => fun
  | [d1, d2] => { results := [.lit (.bool false)], args := [d1, d2] }
  | _ => none }
def ValueOrdersWrongFalsely : Prop := valueOrdersRow.holds Try.pinned (OpenSpec.ofChange valueOrdersWrong)

/-- 'ravelinlaw03.ValueTells': WHATEVER THE INPUT: true; the input reads as it did. -/
def valueTellsSpec : ChangeSpec := { name := "valueTells", fn := fun _ => fun
  | [d1, d2] => { results := [.lit (.bool true)], args := [d1, d2] }
  | _ => none }
def valueTellsRow : OpenClaim := { program := "ythhphjfbdoffhaa", sum := "696492e392527a21c59e7f70230d2d7ba6eab2f28bef5e75f6a87717565b5ab7", func := "ravelin/ravelinlaw03.ValueTells", spec := "valueTells", unfollowed := true, recurses := true, plainKeys := false, apart := false }
def ValueTellsSaid : Prop := valueTellsRow.holds Try.pinned (OpenSpec.ofChange valueTellsSpec)

/-- ITS FALSE NEIGHBOUR: 'it returns false'. Refute it at one input. -/
def valueTellsWrong : ChangeSpec := { name := "valueTells", fn := fun _ => fun
  | [d1, d2] => { results := [.lit (.bool false)], args := [d1, d2] }
  | _ => none }
def ValueTellsWrongFalsely : Prop := valueTellsRow.holds Try.pinned (OpenSpec.ofChange valueTellsWrong)

/-- 'ravelinlaw04.TableLabels': WHATEVER THE INPUT: true; the input reads as it did. -/
def tableLabelsSpec : ChangeSpec := { name := "tableLabels", fn := fun _ => fun
  | [d1, d2, d3] => { results := [.lit (.bool true)], args := [d1, d2, d3] }
  | _ => none }
def tableLabelsRow : OpenClaim := { program := "ythhphjfbdoffhaa", sum := "696492e392527a21c59e7f70230d2d7ba6eab2f28bef5e75f6a87717565b5ab7", func := "ravelin/ravelinlaw04.TableLabels", spec := "tableLabels", plainKeys := false, apart := false }
def TableLabelsSaid : Prop := tableLabelsRow.holds Try.pinned (OpenSpec.ofChange tableLabelsSpec)

/-- ITS FALSE NEIGHBOUR: 'it returns false'. Refute it at one input. -/
def tableLabelsWrong : ChangeSpec := { name := "tableLabels", fn := fun _ => fun
  | [d1, d2, d3] => { results := [.lit (.bool false)], args := [d1, d2, d3] }
  | _ => none }
def TableLabelsWrongFalsely : Prop := tableLabelsRow.holds Try.pinned (OpenSpec.ofChange tableLabelsWrong)

/-- 'ravelinlaw04.TableMonotone': WHATEVER THE INPUT: true; the input reads as it did. -/
def tableMonotoneSpec : ChangeSpec := { name := "tableMonotone", fn := fun _ => fun
  | [d1, d2] => { results := [.lit (.bool true)], args := [d1, d2] }
  | _ => none }
def tableMonotoneRow : OpenClaim := { program := "ythhphjfbdoffhaa", sum := "696492e392527a21c59e7f70230d2d7ba6eab2f28bef5e75f6a87717565b5ab7", func := "ravelin/ravelinlaw04.TableMonotone", spec := "tableMonotone", unfollowed := true, recurses := true, plainKeys := false, apart := false }
def TableMonotoneSaid : Prop := tableMonotoneRow.holds Try.pinned (OpenSpec.ofChange tableMonotoneSpec)

/-- ITS FALSE NEIGHBOUR: 'it returns false'. Refute it at one input. -/
def tableMonotoneWrong : ChangeSpec := { name := "tableMonotone", fn := fun _ => fun
  | [d1, d2] => { results := [.lit (.bool false)], args := [d1, d2] }
  | _ => none }
def TableMonotoneWrongFalsely : Prop := tableMonotoneRow.holds Try.pinned (OpenSpec.ofChange tableMonotoneWrong)

/-- 'ravelinlaw04.TableNone': WHATEVER THE INPUT: true; the input reads as it did. -/
def tableNoneSpec : ChangeSpec := { name := "tableNone", fn := fun _ => fun
  | [d] => { results := [.lit (.bool true)], args := [d] }
  | _ => none }
def tableNoneRow : OpenClaim := { program := "ythhphjfbdoffhaa", sum := "696492e392527a21c59e7f70230d2d7ba6eab2f28bef5e75f6a87717565b5ab7", func := "ravelin/ravelinlaw04.TableNone", spec := "tableNone", unfollowed := true, recurses := true, plainKeys := false, apart := false }
def TableNoneSaid : Prop := tableNoneRow.holds Try.pinned (OpenSpec.ofChange tableNoneSpec)

/-- ITS FALSE NEIGHBOUR: 'it returns false'. Refute it at one input. -/
def tableNoneWrong : ChangeSpec := { name := "tableNone", fn := fun _ => fun
  | [d] => { results := [.lit (.bool false)], args := [d] }
  | _ => none }
def TableNoneWrongFalsely : Prop := tableNoneRow.holds Try.pinned (OpenSpec.ofChange tableNoneWrong)

/-- 'ravelinlaw04.TableRefuses': WHATEVER THE INPUT: true; the input reads as it did. -/
def tableRefusesSpec : ChangeSpec := { name := "tableRefuses", fn := fun _ => fun
  | [d1, d2, d3] => { results := [.lit (.bool true)], args := [d1, d2, d3] }
  | _ => none }
def tableRefusesRow : OpenClaim := { program := "ythhphjfbdoffhaa", sum := "696492e392527a21c59e7f70230d2d7ba6eab2f28bef5e75f6a87717565b5ab7", func := "ravelin/ravelinlaw04.TableRefuses", spec := "tableRefuses", unfollowed := true, recurses := true, plainKeys := false, apart := false }
def TableRefusesSaid : Prop := tableRefusesRow.holds Try.pinned (OpenSpec.ofChange tableRefusesSpec)

/-- ITS FALSE NEIGHBOUR: 'it returns false'. Refute it at one input. -/
def tableRefusesWrong : ChangeSpec := { name := "tableRefuses", fn := fun _ => fun
  | [d1, d2, d3] => { results := [.lit (.bool false)], args := [d1, d2, d3] }
  | _ => none }
def TableRefusesWrongFalsely : Prop := tableRefusesRow.holds Try.pinned (OpenSpec.ofChange tableRefusesWrong)

/-- 'ravelinlaw04.TableReads': WHATEVER THE INPUT: true; the input reads as it did. -/
def tableReadsSpec : ChangeSpec := { name := "tableReads", fn := fun _ => fun
  | [d1, d2, d3] => { results := [.lit (.bool true)], args := [d1, d2, d3] }
  | _ => none }
def tableReadsRow : OpenClaim := { program := "ythhphjfbdoffhaa", sum := "696492e392527a21c59e7f70230d2d7ba6eab2f28bef5e75f6a87717565b5ab7", func := "ravelin/ravelinlaw04.TableReads", spec := "tableReads", unfollowed := true, recurses := true, plainKeys := false, apart := false }
def TableReadsSaid : Prop := tableReadsRow.holds Try.pinned (OpenSpec.ofChange tableReadsSpec)

/-- ITS FALSE NEIGHBOUR: 'it returns false'. Refute it at one input. -/
def tableReadsWrong : ChangeSpec := { name := "tableReads", fn := fun _ => fun
  | [d1, d2, d3] => { results := [.lit (.bool false)], args := [d1, d2, d3] }
  | _ => none }
def TableReadsWrongFalsely : Prop := tableReadsRow.holds Try.pinned (OpenSpec.ofChange tableReadsWrong)

/- THE SECOND FORM. 'bulk': how many values and letters a reading holds, each counted each time it is reached (what is shared counts as often as it is met; a slice's spare places count too). A statement '..UptoSaid' is the law's where the arguments, and the package variables that the reading takes, are together of bulk at most 1048576: NARROWER than '..Said'. Prove '..Said' where nothing that the law and all that it calls make is longer than what came in: it says more and counts as full. Else prove '..UptoSaid'. A law counts once. -/
mutual
def uptoBulk {H : Type} : DataW H → Nat
  | .lit (.string bytes) => bytes.length + 1
  | .lit _ => 1
  | .nil => 1
  | .ptr d => uptoBulk d + 1
  | .slice elems spare => uptoBulkAll elems + uptoBulkAll spare + 1
  | .agg parts => uptoBulkAll parts + 1
  | .iface _ d => uptoBulk d + 1
  | .map entries => uptoBulkEntries entries + 1
  | .held _ => 1
def uptoBulkAll {H : Type} : List (DataW H) → Nat
  | [] => 0
  | d :: r => uptoBulk d + uptoBulkAll r
def uptoBulkEntries {H : Type} : List (Lit × DataW H) → Nat
  | [] => 0
  | x :: r => uptoBulkEntry x + uptoBulkEntries r
def uptoBulkEntry {H : Type} : Lit × DataW H → Nat
  | (.string bytes, d) => bytes.length + uptoBulk d + 1
  | (_, d) => uptoBulk d + 1
 end
def uptoSmall : (H : Type) → List (DataW H) → Bool := fun _ ds => decide (uptoBulkAll ds ≤ 1048576)
def OpenSpec.upto (s : _root_.Go.ChangeSpec) : _root_.Go.OpenSpec := { _root_.Go.OpenSpec.ofChange s with cond := some uptoSmall }

/-- 'ravelinlaw03.ValueDoes', WHERE WHAT IT READS IS OF BULK AT MOST 1048576: true; the input reads as it did. -/
def valueDoesUptoRow : OpenClaim := { program := "ythhphjfbdoffhaa", sum := "696492e392527a21c59e7f70230d2d7ba6eab2f28bef5e75f6a87717565b5ab7", func := "ravelin/ravelinlaw03.ValueDoes", spec := "valueDoes", unfollowed := true, recurses := true, plainKeys := false, apart := false, narrowed := true }
def ValueDoesUptoSaid : Prop := valueDoesUptoRow.holds Try.pinned (OpenSpec.upto valueDoesSpec)

/-- 'ravelinlaw03.ValueLabels', WHERE WHAT IT READS IS OF BULK AT MOST 1048576: true; the input reads as it did. -/
def valueLabelsUptoRow : OpenClaim := { program := "ythhphjfbdoffhaa", sum := "696492e392527a21c59e7f70230d2d7ba6eab2f28bef5e75f6a87717565b5ab7", func := "ravelin/ravelinlaw03.ValueLabels", spec := "valueLabels", unfollowed := true, recurses := true, plainKeys := false, apart := false, narrowed := true }
def ValueLabelsUptoSaid : Prop := valueLabelsUptoRow.holds Try.pinned (OpenSpec.upto valueLabelsSpec)

/-- 'ravelinlaw03.ValueChecks', WHERE WHAT IT READS IS OF BULK AT MOST 1048576: true; the input reads as it did. -/
def valueChecksUptoRow : OpenClaim := { program := "ythhphjfbdoffhaa", sum := "696492e392527a21c59e7f70230d2d7ba6eab2f28bef5e75f6a87717565b5ab7", func := "ravelin/ravelinlaw03.ValueChecks", spec := "valueChecks", unfollowed := true, recurses := true, plainKeys := false, apart := false, narrowed := true }
def ValueChecksUptoSaid : Prop := valueChecksUptoRow.holds Try.pinned (OpenSpec.upto valueChecksSpec)

/-- 'ravelinlaw03.ValueOrders', WHERE WHAT IT READS IS OF BULK AT MOST 1048576: true; the input reads as it did. -/
def valueOrdersUptoRow : OpenClaim := { program := "ythhphjfbdoffhaa", sum := "696492e392527a21c59e7f70230d2d7ba6eab2f28bef5e75f6a87717565b5ab7", func := "ravelin/ravelinlaw03.ValueOrders", spec := "valueOrders", unfollowed := true, recurses := true, plainKeys := false, apart := false, narrowed := true }
def ValueOrdersUptoSaid : Prop := valueOrdersUptoRow.holds Try.pinned (OpenSpec.upto valueOrdersSpec)

/-- 'ravelinlaw03.ValueTells', WHERE WHAT IT READS IS OF BULK AT MOST 1048576: true; the input reads as it did. -/
def valueTellsUptoRow : OpenClaim := { program := "ythhphjfbdoffhaa", sum := "696492e392527a21c59e7f70230d2d7ba6eab2f28bef5e75f6a87717565b5ab7", func := "ravelin/ravelinlaw03.ValueTells", spec := "valueTells", unfollowed := true, recurses := true, plainKeys := false, apart := false, narrowed := true }
def ValueTellsUptoSaid : Prop := valueTellsUptoRow.holds Try.pinned (OpenSpec.upto valueTellsSpec)

/-- 'ravelinlaw04.TableLabels', WHERE WHAT IT READS IS OF BULK AT MOST 1048576: true; the input reads as it did. -/
def tableLabelsUptoRow : OpenClaim := { program := "ythhphjfbdoffhaa", sum := "696492e392527a21c59e7f70230d2d7ba6eab2f28bef5e75f6a87717565b5ab7", func := "ravelin/ravelinlaw04.TableLabels", spec := "tableLabels", plainKeys := false, apart := false, narrowed := true }
def TableLabelsUptoSaid : Prop := tableLabelsUptoRow.holds Try.pinned (OpenSpec.upto tableLabelsSpec)

/-- 'ravelinlaw04.TableMonotone', WHERE WHAT IT READS IS OF BULK AT MOST 1048576: true; the input reads as it did. -/
def tableMonotoneUptoRow : OpenClaim := { program := "ythhphjfbdoffhaa", sum := "696492e392527a21c59e7f70230d2d7ba6eab2f28bef5e75f6a87717565b5ab7", func := "ravelin/ravelinlaw04.TableMonotone", spec := "tableMonotone", unfollowed := true, recurses := true, plainKeys := false, apart := false, narrowed := true }
def TableMonotoneUptoSaid : Prop := tableMonotoneUptoRow.holds Try.pinned (OpenSpec.upto tableMonotoneSpec)

/-- 'ravelinlaw04.TableNone', WHERE WHAT IT READS IS OF BULK AT MOST 1048576: true; the input reads as it did. -/
def tableNoneUptoRow : OpenClaim := { program := "ythhphjfbdoffhaa", sum := "696492e392527a21c59e7f70230d2d7ba6eab2f28bef5e75f6a87717565b5ab7", func := "ravelin/ravelinlaw04.TableNone", spec := "tableNone", unfollowed := true, recurses := true, plainKeys := false, apart := false, narrowed := true }
def TableNoneUptoSaid : Prop := tableNoneUptoRow.holds Try.pinned (OpenSpec.upto tableNoneSpec)

/-- 'ravelinlaw04.TableRefuses', WHERE WHAT IT READS IS OF BULK AT MOST 1048576: true; the input reads as it did. -/
def tableRefusesUptoRow : OpenClaim := { program := "ythhphjfbdoffhaa", sum := "696492e392527a21c59e7f70230d2d7ba6eab2f28bef5e75f6a87717565b5ab7", func := "ravelin/ravelinlaw04.TableRefuses", spec := "tableRefuses", unfollowed := true, recurses := true, plainKeys := false, apart := false, narrowed := true }
def TableRefusesUptoSaid : Prop := tableRefusesUptoRow.holds Try.pinned (OpenSpec.upto tableRefusesSpec)

/-- 'ravelinlaw04.TableReads', WHERE WHAT IT READS IS OF BULK AT MOST 1048576: true; the input reads as it did. -/
def tableReadsUptoRow : OpenClaim := { program := "ythhphjfbdoffhaa", sum := "696492e392527a21c59e7f70230d2d7ba6eab2f28bef5e75f6a87717565b5ab7", func := "ravelin/ravelinlaw04.TableReads", spec := "tableReads", unfollowed := true, recurses := true, plainKeys := false, apart := false, narrowed := true }
def TableReadsUptoSaid : Prop := tableReadsUptoRow.holds Try.pinned (OpenSpec.upto tableReadsSpec)

end Rows
end Go.Proofs.Ythhphjfbdoffhaa
