/-
  No cell of these rows narrows 'for every input' (looked for: loops, veiled, ifaces, maps, wideKeys, modest, calm, conditions, laid).
  DERIVED. THE GIVEN ROWS OF THIS SEAT. 7 by the template 'for every input the law returns true; each argument reads behind the call as it read before'; 0 by the template 'total and deterministic' (their statements: YtkdoohmchdpjoaaTotals.lean).
  GIVEN WITH THE SEED: the statements are not yours to turn. If you find one false, say at which input.
  Laid BY PROGRAM, IN A SANDBOX (cutbox-rows.mjs): the forced cells as the released guide's own fill.sh prints them over the translation 187559c595d8825e… (all of the seat's roots in one cut). By AI agents, Wed Nov 11 2026. No macro, syntax, notation, axiom, sorry.
-/
import Derived.Test.YtkdoohmchdpjoaaChecked
import GoSem.Claim
import GoSem.ClaimJoined
import GoSem.ClaimMapViews
import Derived.JoinedTies
import Derived.KernelRfl
namespace Go.Proofs.Ytkdoohmchdpjoaa
/- THE CELL 'sum', in the pinned program and in every row, IS THE sha256 OF THE DUMP (.gsa) THAT YtkdoohmchdpjoaaProg.lean LOADS. Nothing in Lean hashes anything: it is a label: what it is worth is what the hold of that sum in a sandbox is worth. -/
noncomputable def Try.pinned : Pinned := { name := "ytkdoohmchdpjoaa", sum := "187559c595d8825e8d5ff0c188993070d9d0f7f2016dd63117ec25e96a05a30b", checked := Try.checked }
namespace Rows
def none {H : Type} : Left H := { results := [], args := [] }

/-- 'ravelinlaw22.GuardLow': WHATEVER THE INPUT: true; the input reads as it did. -/
def guardLowSpec : ChangeSpec := { name := "guardLow", fn := fun _ => fun
  | [d1, d2, d3] => { results := [.lit (.bool true)], args := [d1, d2, d3] }
  | _ => none }
def guardLowRow : OpenClaim := { program := "ytkdoohmchdpjoaa", sum := "187559c595d8825e8d5ff0c188993070d9d0f7f2016dd63117ec25e96a05a30b", func := "ravelin/ravelinlaw22.GuardLow", spec := "guardLow", apart := false }
def GuardLowSaid : Prop := guardLowRow.holds Try.pinned (OpenSpec.ofChange guardLowSpec)

/-- ITS FALSE NEIGHBOUR: 'it returns false'. Refute it at one input. -/
def guardLowWrong : ChangeSpec := { name := "guardLow", fn := fun _ => fun
  | [d1, d2, d3] => { results := [.lit (.bool false)], args := [d1, d2, d3] }
  | _ => none }
def GuardLowWrongFalsely : Prop := guardLowRow.holds Try.pinned (OpenSpec.ofChange guardLowWrong)

/-- 'ravelinlaw22.GuardEnds': WHATEVER THE INPUT: true; the input reads as it did. -/
def guardEndsSpec : ChangeSpec := { name := "guardEnds", fn := fun _ => fun
  | [d1, d2] => { results := [.lit (.bool true)], args := [d1, d2] }
  | _ => none }
def guardEndsRow : OpenClaim := { program := "ytkdoohmchdpjoaa", sum := "187559c595d8825e8d5ff0c188993070d9d0f7f2016dd63117ec25e96a05a30b", func := "ravelin/ravelinlaw22.GuardEnds", spec := "guardEnds", apart := false }
def GuardEndsSaid : Prop := guardEndsRow.holds Try.pinned (OpenSpec.ofChange guardEndsSpec)

/-- ITS FALSE NEIGHBOUR: 'it returns false'. Refute it at one input. -/
def guardEndsWrong : ChangeSpec := { name := "guardEnds", fn := fun _ => fun
  | [d1, d2] => { results := [.lit (.bool false)], args := [d1, d2] }
  | _ => none }
def GuardEndsWrongFalsely : Prop := guardEndsRow.holds Try.pinned (OpenSpec.ofChange guardEndsWrong)

/-- 'ravelinlaw22.GuardActs': WHATEVER THE INPUT: true; the input reads as it did. -/
def guardActsSpec : ChangeSpec := { name := "guardActs", fn := fun _ => fun
  | [d1, d2, d3] => { results := [.lit (.bool true)], args := [d1, d2, d3] }
  | _ => none }
def guardActsRow : OpenClaim := { program := "ytkdoohmchdpjoaa", sum := "187559c595d8825e8d5ff0c188993070d9d0f7f2016dd63117ec25e96a05a30b", func := "ravelin/ravelinlaw22.GuardActs", spec := "guardActs", apart := false }
def GuardActsSaid : Prop := guardActsRow.holds Try.pinned (OpenSpec.ofChange guardActsSpec)

/-- ITS FALSE NEIGHBOUR: 'it returns false'. Refute it at one input. -/
def guardActsWrong : ChangeSpec := { name := "guardActs", fn := fun _ => fun
  | [d1, d2, d3] => { results := [.lit (.bool false)], args := [d1, d2, d3] }
  | _ => none }
def GuardActsWrongFalsely : Prop := guardActsRow.holds Try.pinned (OpenSpec.ofChange guardActsWrong)

/-- 'ravelinlaw22.GuardNone': WHATEVER THE INPUT: true; the input reads as it did. -/
def guardNoneSpec : ChangeSpec := { name := "guardNone", fn := fun _ => fun
  | [d1, d2] => { results := [.lit (.bool true)], args := [d1, d2] }
  | _ => none }
def guardNoneRow : OpenClaim := { program := "ytkdoohmchdpjoaa", sum := "187559c595d8825e8d5ff0c188993070d9d0f7f2016dd63117ec25e96a05a30b", func := "ravelin/ravelinlaw22.GuardNone", spec := "guardNone", apart := false }
def GuardNoneSaid : Prop := guardNoneRow.holds Try.pinned (OpenSpec.ofChange guardNoneSpec)

/-- ITS FALSE NEIGHBOUR: 'it returns false'. Refute it at one input. -/
def guardNoneWrong : ChangeSpec := { name := "guardNone", fn := fun _ => fun
  | [d1, d2] => { results := [.lit (.bool false)], args := [d1, d2] }
  | _ => none }
def GuardNoneWrongFalsely : Prop := guardNoneRow.holds Try.pinned (OpenSpec.ofChange guardNoneWrong)

/-- 'ravelinlaw23.WorldActs': WHATEVER THE INPUT: true; the input reads as it did. -/
def worldActsSpec : ChangeSpec := { name := "worldActs", fn := fun _ => fun
  | [d1, d2, d3] => { results := [.lit (.bool true)], args := [d1, d2, d3] }
  | _ => none }
def worldActsRow : OpenClaim := { program := "ytkdoohmchdpjoaa", sum := "187559c595d8825e8d5ff0c188993070d9d0f7f2016dd63117ec25e96a05a30b", func := "ravelin/ravelinlaw23.WorldActs", spec := "worldActs", apart := false }
def WorldActsSaid : Prop := worldActsRow.holds Try.pinned (OpenSpec.ofChange worldActsSpec)

/-- ITS FALSE NEIGHBOUR: 'it returns false'. Refute it at one input. -/
def worldActsWrong : ChangeSpec := { name := "worldActs", fn := fun _ => fun
  | [d1, d2, d3] => { results := [.lit (.bool false)], args := [d1, d2, d3] }
  | _ => none }
def WorldActsWrongFalsely : Prop := worldActsRow.holds Try.pinned (OpenSpec.ofChange worldActsWrong)

/-- 'ravelinlaw23.WorldSees': WHATEVER THE INPUT: true; the input reads as it did. -/
def worldSeesSpec : ChangeSpec := { name := "worldSees", fn := fun _ => fun
  | [d1, d2, d3] => { results := [.lit (.bool true)], args := [d1, d2, d3] }
  | _ => none }
def worldSeesRow : OpenClaim := { program := "ytkdoohmchdpjoaa", sum := "187559c595d8825e8d5ff0c188993070d9d0f7f2016dd63117ec25e96a05a30b", func := "ravelin/ravelinlaw23.WorldSees", spec := "worldSees", apart := false }
def WorldSeesSaid : Prop := worldSeesRow.holds Try.pinned (OpenSpec.ofChange worldSeesSpec)

/-- ITS FALSE NEIGHBOUR: 'it returns false'. Refute it at one input. -/
def worldSeesWrong : ChangeSpec := { name := "worldSees", fn := fun _ => fun
  | [d1, d2, d3] => { results := [.lit (.bool false)], args := [d1, d2, d3] }
  | _ => none }
def WorldSeesWrongFalsely : Prop := worldSeesRow.holds Try.pinned (OpenSpec.ofChange worldSeesWrong)

/-- 'ravelinlaw23.WorldNone': WHATEVER THE INPUT: true; the input reads as it did. -/
def worldNoneSpec : ChangeSpec := { name := "worldNone", fn := fun _ => fun
  | [d] => { results := [.lit (.bool true)], args := [d] }
  | _ => none }
def worldNoneRow : OpenClaim := { program := "ytkdoohmchdpjoaa", sum := "187559c595d8825e8d5ff0c188993070d9d0f7f2016dd63117ec25e96a05a30b", func := "ravelin/ravelinlaw23.WorldNone", spec := "worldNone", apart := false }
def WorldNoneSaid : Prop := worldNoneRow.holds Try.pinned (OpenSpec.ofChange worldNoneSpec)

/-- ITS FALSE NEIGHBOUR: 'it returns false'. Refute it at one input. -/
def worldNoneWrong : ChangeSpec := { name := "worldNone", fn := fun _ => fun
  | [d] => { results := [.lit (.bool false)], args := [d] }
  | _ => none }
def WorldNoneWrongFalsely : Prop := worldNoneRow.holds Try.pinned (OpenSpec.ofChange worldNoneWrong)

/- THE SECOND FORM. 'bulk': how many values and letters a reading holds, each counted each time it is reached (what is shared counts as often as it is met; a slice's spare places count too). A statement '..UptoSaid' is the law's where the arguments, and the package variables that the reading takes, are together of bulk at most 1048576: NARROWER than '..Said'. Prove '..Said' where nothing that the law and all that it calls make is longer than what came in: it says more and counts as full. Else prove '..UptoSaid'. A law counts once. -/
mutual
def uptoBulk {H : Type} : DataW H → Nat
  | .lit (.string bytes) => bytes.length + 1
  | .lit _ => 1
  | .nil => 1
  | .ptr d => uptoBulk d + 1
  | .slice elems spare => uptoBulkAll elems + uptoBulkAll spare + 1
  | .agg parts => uptoBulkAll parts + 1
  | .iface _ d => uptoBulk d + 1
  | .map entries => uptoBulkEntries entries + 1
  | .held _ => 1
def uptoBulkAll {H : Type} : List (DataW H) → Nat
  | [] => 0
  | d :: r => uptoBulk d + uptoBulkAll r
def uptoBulkEntries {H : Type} : List (Lit × DataW H) → Nat
  | [] => 0
  | x :: r => uptoBulkEntry x + uptoBulkEntries r
def uptoBulkEntry {H : Type} : Lit × DataW H → Nat
  | (.string bytes, d) => bytes.length + uptoBulk d + 1
  | (_, d) => uptoBulk d + 1
 end
def uptoSmall : (H : Type) → List (DataW H) → Bool := fun _ ds => decide (uptoBulkAll ds ≤ 1048576)
def OpenSpec.upto (s : _root_.Go.ChangeSpec) : _root_.Go.OpenSpec := { _root_.Go.OpenSpec.ofChange s with cond := some uptoSmall }

/-- 'ravelinlaw22.GuardLow', WHERE WHAT IT READS IS OF BULK AT MOST 1048576: true; the input reads as it did. -/
def guardLowUptoRow : OpenClaim := { program := "ytkdoohmchdpjoaa", sum := "187559c595d8825e8d5ff0c188993070d9d0f7f2016dd63117ec25e96a05a30b", func := "ravelin/ravelinlaw22.GuardLow", spec := "guardLow", apart := false, narrowed := true }
def GuardLowUptoSaid : Prop := guardLowUptoRow.holds Try.pinned (OpenSpec.upto guardLowSpec)

/-- 'ravelinlaw22.GuardEnds', WHERE WHAT IT READS IS OF BULK AT MOST 1048576: true; the input reads as it did. -/
def guardEndsUptoRow : OpenClaim := { program := "ytkdoohmchdpjoaa", sum := "187559c595d8825e8d5ff0c188993070d9d0f7f2016dd63117ec25e96a05a30b", func := "ravelin/ravelinlaw22.GuardEnds", spec := "guardEnds", apart := false, narrowed := true }
def GuardEndsUptoSaid : Prop := guardEndsUptoRow.holds Try.pinned (OpenSpec.upto guardEndsSpec)

/-- 'ravelinlaw22.GuardActs', WHERE WHAT IT READS IS OF BULK AT MOST 1048576: true; the input reads as it did. -/
def guardActsUptoRow : OpenClaim := { program := "ytkdoohmchdpjoaa", sum := "187559c595d8825e8d5ff0c188993070d9d0f7f2016dd63117ec25e96a05a30b", func := "ravelin/ravelinlaw22.GuardActs", spec := "guardActs", apart := false, narrowed := true }
def GuardActsUptoSaid : Prop := guardActsUptoRow.holds Try.pinned (OpenSpec.upto guardActsSpec)

/-- 'ravelinlaw22.GuardNone', WHERE WHAT IT READS IS OF BULK AT MOST 1048576: true; the input reads as it did. -/
def guardNoneUptoRow : OpenClaim := { program := "ytkdoohmchdpjoaa", sum := "187559c595d8825e8d5ff0c188993070d9d0f7f2016dd63117ec25e96a05a30b", func := "ravelin/ravelinlaw22.GuardNone", spec := "guardNone", apart := false, narrowed := true }
def GuardNoneUptoSaid : Prop := guardNoneUptoRow.holds Try.pinned (OpenSpec.upto guardNoneSpec)

/-- 'ravelinlaw23.WorldActs', WHERE WHAT IT READS IS OF BULK AT MOST 1048576: true; the input reads as it did. -/
def worldActsUptoRow : OpenClaim := { program := "ytkdoohmchdpjoaa", sum := "187559c595d8825e8d5ff0c188993070d9d0f7f2016dd63117ec25e96a05a30b", func := "ravelin/ravelinlaw23.WorldActs", spec := "worldActs", apart := false, narrowed := true }
def WorldActsUptoSaid : Prop := worldActsUptoRow.holds Try.pinned (OpenSpec.upto worldActsSpec)

/-- 'ravelinlaw23.WorldSees', WHERE WHAT IT READS IS OF BULK AT MOST 1048576: true; the input reads as it did. -/
def worldSeesUptoRow : OpenClaim := { program := "ytkdoohmchdpjoaa", sum := "187559c595d8825e8d5ff0c188993070d9d0f7f2016dd63117ec25e96a05a30b", func := "ravelin/ravelinlaw23.WorldSees", spec := "worldSees", apart := false, narrowed := true }
def WorldSeesUptoSaid : Prop := worldSeesUptoRow.holds Try.pinned (OpenSpec.upto worldSeesSpec)

/-- 'ravelinlaw23.WorldNone', WHERE WHAT IT READS IS OF BULK AT MOST 1048576: true; the input reads as it did. -/
def worldNoneUptoRow : OpenClaim := { program := "ytkdoohmchdpjoaa", sum := "187559c595d8825e8d5ff0c188993070d9d0f7f2016dd63117ec25e96a05a30b", func := "ravelin/ravelinlaw23.WorldNone", spec := "worldNone", apart := false, narrowed := true }
def WorldNoneUptoSaid : Prop := worldNoneUptoRow.holds Try.pinned (OpenSpec.upto worldNoneSpec)

end Rows
end Go.Proofs.Ytkdoohmchdpjoaa
