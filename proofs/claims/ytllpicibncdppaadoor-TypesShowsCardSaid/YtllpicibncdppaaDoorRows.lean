/-
  NARROWER THAN 'FOR EVERY INPUT', by the rows' own cells (each row's printed sentence says how): TypesUnions: laid · RelateSubs: loops, laid · RelateEases: loops, laid · RelateSides: loops, laid · TypesShows: loops, laid · TypesKinds: loops, laid · RelatePrecise: loops, laid · RelateChains: loops, laid · RelateVague: loops, laid · RelateJoins: loops, laid · RelateSelf: loops, laid · RelateLeast: loops, laid · RelateMeets: loops, laid.
  DERIVED. THE GIVEN ROWS OF THIS SEAT. 13 by the template 'for every input the law returns true; each argument reads behind the call as it read before'; 0 by the template 'total and deterministic' (their statements: YtllpicibncdppaaDoorTotals.lean).
  GIVEN WITH THE SEED: the statements are not yours to turn. If you find one false, say at which input.
  Laid BY PROGRAM, IN A SANDBOX (cutbox-rows.mjs): the forced cells as the released guide's own fill.sh prints them over the translation 20625cc1e640edfd… (all of the seat's roots in one cut). By AI agents, Wed Nov 11 2026. No macro, syntax, notation, axiom, sorry.
-/
import Derived.Test.YtllpicibncdppaaDoorChecked
import GoSem.Claim
import GoSem.ClaimJoined
import GoSem.ClaimMapViews
import Derived.JoinedTies
import Derived.KernelRfl
namespace Go.Proofs.YtllpicibncdppaaDoor
/- THE CELL 'sum', in the pinned program and in every row, IS THE sha256 OF THE DUMP (.gsa) THAT YtllpicibncdppaaDoorProg.lean LOADS. Nothing in Lean hashes anything: it is a label: what it is worth is what the hold of that sum in a sandbox is worth. -/
noncomputable def Tryd.pinned : Pinned := { name := "ytllpicibncdppaadoor", sum := "20625cc1e640edfd0a2953ac90ea76a597bb18654d0764cf2c15873879d94379", checked := Tryd.checked }
namespace Rows
def none {H : Type} : Left H := { results := [], args := [] }

/- WHAT THE LISTED PACKAGE-LEVEL VARIABLES READ AS WHEN THE CALL BEGINS. Each datum BY PROGRAM (the guide's laid-datum.mjs) off the statement by which the dump's own 'gosem.cut.vars' lays the variable. In a bare row this is a premise. The card (YtllpicibncdppaaDoorCards.lean) ties it to the program's text. -/
def laid_unicode_White_Space {H : Type} : DataW H := .ptr (.agg [.slice [.agg [.lit (.int .u16 9), .lit (.int .u16 13), .lit (.int .u16 1)], .agg [.lit (.int .u16 32), .lit (.int .u16 133), .lit (.int .u16 101)], .agg [.lit (.int .u16 160), .lit (.int .u16 5760), .lit (.int .u16 5600)], .agg [.lit (.int .u16 8192), .lit (.int .u16 8202), .lit (.int .u16 1)], .agg [.lit (.int .u16 8232), .lit (.int .u16 8233), .lit (.int .u16 1)], .agg [.lit (.int .u16 8239), .lit (.int .u16 8287), .lit (.int .u16 48)], .agg [.lit (.int .u16 12288), .lit (.int .u16 12288), .lit (.int .u16 1)]] [], .nil, .lit (.int .i64 2)])
def laid_strings_asciiSpace {H : Type} : DataW H := .agg [.lit (.int .u8 0), .lit (.int .u8 0), .lit (.int .u8 0), .lit (.int .u8 0), .lit (.int .u8 0), .lit (.int .u8 0), .lit (.int .u8 0), .lit (.int .u8 0), .lit (.int .u8 0), .lit (.int .u8 1), .lit (.int .u8 1), .lit (.int .u8 1), .lit (.int .u8 1), .lit (.int .u8 1), .lit (.int .u8 0), .lit (.int .u8 0), .lit (.int .u8 0), .lit (.int .u8 0), .lit (.int .u8 0), .lit (.int .u8 0), .lit (.int .u8 0), .lit (.int .u8 0), .lit (.int .u8 0), .lit (.int .u8 0), .lit (.int .u8 0), .lit (.int .u8 0), .lit (.int .u8 0), .lit (.int .u8 0), .lit (.int .u8 0), .lit (.int .u8 0), .lit (.int .u8 0), .lit (.int .u8 0), .lit (.int .u8 1), .lit (.int .u8 0), .lit (.int .u8 0), .lit (.int .u8 0), .lit (.int .u8 0), .lit (.int .u8 0), .lit (.int .u8 0), .lit (.int .u8 0), .lit (.int .u8 0), .lit (.int .u8 0), .lit (.int .u8 0), .lit (.int .u8 0), .lit (.int .u8 0), .lit (.int .u8 0), .lit (.int .u8 0), .lit (.int .u8 0), .lit (.int .u8 0), .lit (.int .u8 0), .lit (.int .u8 0), .lit (.int .u8 0), .lit (.int .u8 0), .lit (.int .u8 0), .lit (.int .u8 0), .lit (.int .u8 0), .lit (.int .u8 0), .lit (.int .u8 0), .lit (.int .u8 0), .lit (.int .u8 0), .lit (.int .u8 0), .lit (.int .u8 0), .lit (.int .u8 0), .lit (.int .u8 0), .lit (.int .u8 0), .lit (.int .u8 0), .lit (.int .u8 0), .lit (.int .u8 0), .lit (.int .u8 0), .lit (.int .u8 0), .lit (.int .u8 0), .lit (.int .u8 0), .lit (.int .u8 0), .lit (.int .u8 0), .lit (.int .u8 0), .lit (.int .u8 0), .lit (.int .u8 0), .lit (.int .u8 0), .lit (.int .u8 0), .lit (.int .u8 0), .lit (.int .u8 0), .lit (.int .u8 0), .lit (.int .u8 0), .lit (.int .u8 0), .lit (.int .u8 0), .lit (.int .u8 0), .lit (.int .u8 0), .lit (.int .u8 0), .lit (.int .u8 0), .lit (.int .u8 0), .lit (.int .u8 0), .lit (.int .u8 0), .lit (.int .u8 0), .lit (.int .u8 0), .lit (.int .u8 0), .lit (.int .u8 0), .lit (.int .u8 0), .lit (.int .u8 0), .lit (.int .u8 0), .lit (.int .u8 0), .lit (.int .u8 0), .lit (.int .u8 0), .lit (.int .u8 0), .lit (.int .u8 0), .lit (.int .u8 0), .lit (.int .u8 0), .lit (.int .u8 0), .lit (.int .u8 0), .lit (.int .u8 0), .lit (.int .u8 0), .lit (.int .u8 0), .lit (.int .u8 0), .lit (.int .u8 0), .lit (.int .u8 0), .lit (.int .u8 0), .lit (.int .u8 0), .lit (.int .u8 0), .lit (.int .u8 0), .lit (.int .u8 0), .lit (.int .u8 0), .lit (.int .u8 0), .lit (.int .u8 0), .lit (.int .u8 0), .lit (.int .u8 0), .lit (.int .u8 0), .lit (.int .u8 0), .lit (.int .u8 0), .lit (.int .u8 0), .lit (.int .u8 0), .lit (.int .u8 0), .lit (.int .u8 0), .lit (.int .u8 0), .lit (.int .u8 0), .lit (.int .u8 0), .lit (.int .u8 0), .lit (.int .u8 0), .lit (.int .u8 0), .lit (.int .u8 0), .lit (.int .u8 0), .lit (.int .u8 0), .lit (.int .u8 0), .lit (.int .u8 0), .lit (.int .u8 0), .lit (.int .u8 0), .lit (.int .u8 0), .lit (.int .u8 0), .lit (.int .u8 0), .lit (.int .u8 0), .lit (.int .u8 0), .lit (.int .u8 0), .lit (.int .u8 0), .lit (.int .u8 0), .lit (.int .u8 0), .lit (.int .u8 0), .lit (.int .u8 0), .lit (.int .u8 0), .lit (.int .u8 0), .lit (.int .u8 0), .lit (.int .u8 0), .lit (.int .u8 0), .lit (.int .u8 0), .lit (.int .u8 0), .lit (.int .u8 0), .lit (.int .u8 0), .lit (.int .u8 0), .lit (.int .u8 0), .lit (.int .u8 0), .lit (.int .u8 0), .lit (.int .u8 0), .lit (.int .u8 0), .lit (.int .u8 0), .lit (.int .u8 0), .lit (.int .u8 0), .lit (.int .u8 0), .lit (.int .u8 0), .lit (.int .u8 0), .lit (.int .u8 0), .lit (.int .u8 0), .lit (.int .u8 0), .lit (.int .u8 0), .lit (.int .u8 0), .lit (.int .u8 0), .lit (.int .u8 0), .lit (.int .u8 0), .lit (.int .u8 0), .lit (.int .u8 0), .lit (.int .u8 0), .lit (.int .u8 0), .lit (.int .u8 0), .lit (.int .u8 0), .lit (.int .u8 0), .lit (.int .u8 0), .lit (.int .u8 0), .lit (.int .u8 0), .lit (.int .u8 0), .lit (.int .u8 0), .lit (.int .u8 0), .lit (.int .u8 0), .lit (.int .u8 0), .lit (.int .u8 0), .lit (.int .u8 0), .lit (.int .u8 0), .lit (.int .u8 0), .lit (.int .u8 0), .lit (.int .u8 0), .lit (.int .u8 0), .lit (.int .u8 0), .lit (.int .u8 0), .lit (.int .u8 0), .lit (.int .u8 0), .lit (.int .u8 0), .lit (.int .u8 0), .lit (.int .u8 0), .lit (.int .u8 0), .lit (.int .u8 0), .lit (.int .u8 0), .lit (.int .u8 0), .lit (.int .u8 0), .lit (.int .u8 0), .lit (.int .u8 0), .lit (.int .u8 0), .lit (.int .u8 0), .lit (.int .u8 0), .lit (.int .u8 0), .lit (.int .u8 0), .lit (.int .u8 0), .lit (.int .u8 0), .lit (.int .u8 0), .lit (.int .u8 0), .lit (.int .u8 0), .lit (.int .u8 0), .lit (.int .u8 0), .lit (.int .u8 0), .lit (.int .u8 0), .lit (.int .u8 0), .lit (.int .u8 0), .lit (.int .u8 0), .lit (.int .u8 0), .lit (.int .u8 0), .lit (.int .u8 0), .lit (.int .u8 0), .lit (.int .u8 0), .lit (.int .u8 0), .lit (.int .u8 0), .lit (.int .u8 0), .lit (.int .u8 0), .lit (.int .u8 0), .lit (.int .u8 0), .lit (.int .u8 0), .lit (.int .u8 0), .lit (.int .u8 0), .lit (.int .u8 0), .lit (.int .u8 0), .lit (.int .u8 0), .lit (.int .u8 0), .lit (.int .u8 0)]

/-- 'ravelinlaw09.TypesUnions': WHATEVER THE INPUT: true; the input reads as it did. -/
def typesUnionsSpec : ChangeSpec := { name := "typesUnions", fn := fun _ => fun
  | [d] => { results := [.lit (.bool true)], args := [d] }
  | _ => none }
def typesUnionsRow : OpenClaim := { program := "ytllpicibncdppaadoor", sum := "20625cc1e640edfd0a2953ac90ea76a597bb18654d0764cf2c15873879d94379", func := "ravelin/ravelinlaw09.TypesUnions", spec := "typesUnions", inPlace := ["internal/abi.NoEscape", "internal/bytealg.MakeNoZero"], unfollowed := true, recurses := true, named := ["strings.asciiSpace", "unicode.White_Space"], apart := false, laid := [("unicode.White_Space", laid_unicode_White_Space), ("strings.asciiSpace", laid_strings_asciiSpace)] }
def TypesUnionsSaid : Prop := typesUnionsRow.holds Tryd.pinned (OpenSpec.ofChange typesUnionsSpec)

/-- ITS FALSE NEIGHBOUR: 'it returns false'. Refute it at one input. -/
def typesUnionsWrong : ChangeSpec := { name := "typesUnions", fn := fun _ => fun
  | [d] => { results := [.lit (.bool false)], args := [d] }
  | _ => none }
def TypesUnionsWrongFalsely : Prop := typesUnionsRow.holds Tryd.pinned (OpenSpec.ofChange typesUnionsWrong)

/-- 'ravelinlaw10.RelateSubs': WHATEVER THE INPUT: true; the input reads as it did. -/
def relateSubsSpec : ChangeSpec := { name := "relateSubs", fn := fun _ => fun
  | [d1, d2] => { results := [.lit (.bool true)], args := [d1, d2] }
  | _ => none }
def relateSubsRow : OpenClaim := { program := "ytllpicibncdppaadoor", sum := "20625cc1e640edfd0a2953ac90ea76a597bb18654d0764cf2c15873879d94379", func := "ravelin/ravelinlaw10.RelateSubs", spec := "relateSubs", unfollowed := true, recurses := true, named := ["strings.asciiSpace", "unicode.White_Space"], loops := true, apart := false, laid := [("unicode.White_Space", laid_unicode_White_Space), ("strings.asciiSpace", laid_strings_asciiSpace)] }
def RelateSubsSaid : Prop := relateSubsRow.holds Tryd.pinned (OpenSpec.ofChange relateSubsSpec)

/-- ITS FALSE NEIGHBOUR: 'it returns false'. Refute it at one input. -/
def relateSubsWrong : ChangeSpec := { name := "relateSubs", fn := fun _ => fun
  | [d1, d2] => { results := [.lit (.bool false)], args := [d1, d2] }
  | _ => none }
def RelateSubsWrongFalsely : Prop := relateSubsRow.holds Tryd.pinned (OpenSpec.ofChange relateSubsWrong)

/-- 'ravelinlaw10.RelateEases': WHATEVER THE INPUT: true; the input reads as it did. -/
def relateEasesSpec : ChangeSpec := { name := "relateEases", fn := fun _ => fun
  | [d1, d2] => { results := [.lit (.bool true)], args := [d1, d2] }
  | _ => none }
def relateEasesRow : OpenClaim := { program := "ytllpicibncdppaadoor", sum := "20625cc1e640edfd0a2953ac90ea76a597bb18654d0764cf2c15873879d94379", func := "ravelin/ravelinlaw10.RelateEases", spec := "relateEases", unfollowed := true, recurses := true, named := ["strings.asciiSpace", "unicode.White_Space"], loops := true, apart := false, laid := [("unicode.White_Space", laid_unicode_White_Space), ("strings.asciiSpace", laid_strings_asciiSpace)] }
def RelateEasesSaid : Prop := relateEasesRow.holds Tryd.pinned (OpenSpec.ofChange relateEasesSpec)

/-- ITS FALSE NEIGHBOUR: 'it returns false'. Refute it at one input. -/
def relateEasesWrong : ChangeSpec := { name := "relateEases", fn := fun _ => fun
  | [d1, d2] => { results := [.lit (.bool false)], args := [d1, d2] }
  | _ => none }
def RelateEasesWrongFalsely : Prop := relateEasesRow.holds Tryd.pinned (OpenSpec.ofChange relateEasesWrong)

/-- 'ravelinlaw10.RelateSides': WHATEVER THE INPUT: true; the input reads as it did. -/
def relateSidesSpec : ChangeSpec := { name := "relateSides", fn := fun _ => fun
  | [d1, d2] => { results := [.lit (.bool true)], args := [d1, d2] }
  | _ => none }
def relateSidesRow : OpenClaim := { program := "ytllpicibncdppaadoor", sum := "20625cc1e640edfd0a2953ac90ea76a597bb18654d0764cf2c15873879d94379", func := "ravelin/ravelinlaw10.RelateSides", spec := "relateSides", unfollowed := true, recurses := true, named := ["strings.asciiSpace", "unicode.White_Space"], loops := true, apart := false, laid := [("unicode.White_Space", laid_unicode_White_Space), ("strings.asciiSpace", laid_strings_asciiSpace)] }
def RelateSidesSaid : Prop := relateSidesRow.holds Tryd.pinned (OpenSpec.ofChange relateSidesSpec)

/-- ITS FALSE NEIGHBOUR: 'it returns false'. Refute it at one input. -/
def relateSidesWrong : ChangeSpec := { name := "relateSides", fn := fun _ => fun
  | [d1, d2] => { results := [.lit (.bool false)], args := [d1, d2] }
  | _ => none }
def RelateSidesWrongFalsely : Prop := relateSidesRow.holds Tryd.pinned (OpenSpec.ofChange relateSidesWrong)

/-- 'ravelinlaw09.TypesShows': WHATEVER THE INPUT: true; the input reads as it did. -/
def typesShowsSpec : ChangeSpec := { name := "typesShows", fn := fun _ => fun
  | [d1, d2] => { results := [.lit (.bool true)], args := [d1, d2] }
  | _ => none }
def typesShowsRow : OpenClaim := { program := "ytllpicibncdppaadoor", sum := "20625cc1e640edfd0a2953ac90ea76a597bb18654d0764cf2c15873879d94379", func := "ravelin/ravelinlaw09.TypesShows", spec := "typesShows", inPlace := ["internal/abi.NoEscape", "internal/bytealg.MakeNoZero"], unfollowed := true, recurses := true, named := ["strings.asciiSpace", "unicode.White_Space"], loops := true, apart := false, laid := [("unicode.White_Space", laid_unicode_White_Space), ("strings.asciiSpace", laid_strings_asciiSpace)] }
def TypesShowsSaid : Prop := typesShowsRow.holds Tryd.pinned (OpenSpec.ofChange typesShowsSpec)

/-- ITS FALSE NEIGHBOUR: 'it returns false'. Refute it at one input. -/
def typesShowsWrong : ChangeSpec := { name := "typesShows", fn := fun _ => fun
  | [d1, d2] => { results := [.lit (.bool false)], args := [d1, d2] }
  | _ => none }
def TypesShowsWrongFalsely : Prop := typesShowsRow.holds Tryd.pinned (OpenSpec.ofChange typesShowsWrong)

/-- 'ravelinlaw09.TypesKinds': WHATEVER THE INPUT: true; the input reads as it did. -/
def typesKindsSpec : ChangeSpec := { name := "typesKinds", fn := fun _ => fun
  | [d] => { results := [.lit (.bool true)], args := [d] }
  | _ => none }
def typesKindsRow : OpenClaim := { program := "ytllpicibncdppaadoor", sum := "20625cc1e640edfd0a2953ac90ea76a597bb18654d0764cf2c15873879d94379", func := "ravelin/ravelinlaw09.TypesKinds", spec := "typesKinds", inPlace := ["internal/abi.NoEscape", "internal/bytealg.MakeNoZero"], unfollowed := true, recurses := true, named := ["strings.asciiSpace", "unicode.White_Space"], loops := true, apart := false, laid := [("unicode.White_Space", laid_unicode_White_Space), ("strings.asciiSpace", laid_strings_asciiSpace)] }
def TypesKindsSaid : Prop := typesKindsRow.holds Tryd.pinned (OpenSpec.ofChange typesKindsSpec)

/-- ITS FALSE NEIGHBOUR: 'it returns false'. Refute it at one input. -/
def typesKindsWrong : ChangeSpec := { name := "typesKinds", fn := fun _ => fun
  | [d] => { results := [.lit (.bool false)], args := [d] }
  | _ => none }
def TypesKindsWrongFalsely : Prop := typesKindsRow.holds Tryd.pinned (OpenSpec.ofChange typesKindsWrong)

/-- 'ravelinlaw10.RelatePrecise': WHATEVER THE INPUT: true; the input reads as it did. -/
def relatePreciseSpec : ChangeSpec := { name := "relatePrecise", fn := fun _ => fun
  | [d1, d2] => { results := [.lit (.bool true)], args := [d1, d2] }
  | _ => none }
def relatePreciseRow : OpenClaim := { program := "ytllpicibncdppaadoor", sum := "20625cc1e640edfd0a2953ac90ea76a597bb18654d0764cf2c15873879d94379", func := "ravelin/ravelinlaw10.RelatePrecise", spec := "relatePrecise", unfollowed := true, recurses := true, named := ["strings.asciiSpace", "unicode.White_Space"], loops := true, apart := false, laid := [("unicode.White_Space", laid_unicode_White_Space), ("strings.asciiSpace", laid_strings_asciiSpace)] }
def RelatePreciseSaid : Prop := relatePreciseRow.holds Tryd.pinned (OpenSpec.ofChange relatePreciseSpec)

/-- ITS FALSE NEIGHBOUR: 'it returns false'. Refute it at one input. -/
def relatePreciseWrong : ChangeSpec := { name := "relatePrecise", fn := fun _ => fun
  | [d1, d2] => { results := [.lit (.bool false)], args := [d1, d2] }
  | _ => none }
def RelatePreciseWrongFalsely : Prop := relatePreciseRow.holds Tryd.pinned (OpenSpec.ofChange relatePreciseWrong)

/-- 'ravelinlaw10.RelateChains': WHATEVER THE INPUT: true; the input reads as it did. -/
def relateChainsSpec : ChangeSpec := { name := "relateChains", fn := fun _ => fun
  | [d1, d2, d3] => { results := [.lit (.bool true)], args := [d1, d2, d3] }
  | _ => none }
def relateChainsRow : OpenClaim := { program := "ytllpicibncdppaadoor", sum := "20625cc1e640edfd0a2953ac90ea76a597bb18654d0764cf2c15873879d94379", func := "ravelin/ravelinlaw10.RelateChains", spec := "relateChains", unfollowed := true, recurses := true, named := ["strings.asciiSpace", "unicode.White_Space"], loops := true, apart := false, laid := [("unicode.White_Space", laid_unicode_White_Space), ("strings.asciiSpace", laid_strings_asciiSpace)] }
def RelateChainsSaid : Prop := relateChainsRow.holds Tryd.pinned (OpenSpec.ofChange relateChainsSpec)

/-- ITS FALSE NEIGHBOUR: 'it returns false'. Refute it at one input. -/
def relateChainsWrong : ChangeSpec := { name := "relateChains", fn := fun _ => fun
  | [d1, d2, d3] => { results := [.lit (.bool false)], args := [d1, d2, d3] }
  | _ => none }
def RelateChainsWrongFalsely : Prop := relateChainsRow.holds Tryd.pinned (OpenSpec.ofChange relateChainsWrong)

/-- 'ravelinlaw10.RelateVague': WHATEVER THE INPUT: true; the input reads as it did. -/
def relateVagueSpec : ChangeSpec := { name := "relateVague", fn := fun _ => fun
  | [d1, d2] => { results := [.lit (.bool true)], args := [d1, d2] }
  | _ => none }
def relateVagueRow : OpenClaim := { program := "ytllpicibncdppaadoor", sum := "20625cc1e640edfd0a2953ac90ea76a597bb18654d0764cf2c15873879d94379", func := "ravelin/ravelinlaw10.RelateVague", spec := "relateVague", unfollowed := true, recurses := true, named := ["strings.asciiSpace", "unicode.White_Space"], loops := true, apart := false, laid := [("unicode.White_Space", laid_unicode_White_Space), ("strings.asciiSpace", laid_strings_asciiSpace)] }
def RelateVagueSaid : Prop := relateVagueRow.holds Tryd.pinned (OpenSpec.ofChange relateVagueSpec)

/-- ITS FALSE NEIGHBOUR: 'it returns false'. Refute it at one input. -/
def relateVagueWrong : ChangeSpec := { name := "relateVague", fn := fun _ => fun
  | [d1, d2] => { results := [.lit (.bool false)], args := [d1, d2] }
  | _ => none }
def RelateVagueWrongFalsely : Prop := relateVagueRow.holds Tryd.pinned (OpenSpec.ofChange relateVagueWrong)

/-- 'ravelinlaw10.RelateJoins': WHATEVER THE INPUT: true; the input reads as it did. -/
def relateJoinsSpec : ChangeSpec := { name := "relateJoins", fn := fun _ => fun
  | [d1, d2] => { results := [.lit (.bool true)], args := [d1, d2] }
  | _ => none }
def relateJoinsRow : OpenClaim := { program := "ytllpicibncdppaadoor", sum := "20625cc1e640edfd0a2953ac90ea76a597bb18654d0764cf2c15873879d94379", func := "ravelin/ravelinlaw10.RelateJoins", spec := "relateJoins", unfollowed := true, recurses := true, named := ["strings.asciiSpace", "unicode.White_Space"], loops := true, apart := false, laid := [("unicode.White_Space", laid_unicode_White_Space), ("strings.asciiSpace", laid_strings_asciiSpace)] }
def RelateJoinsSaid : Prop := relateJoinsRow.holds Tryd.pinned (OpenSpec.ofChange relateJoinsSpec)

/-- ITS FALSE NEIGHBOUR: 'it returns false'. Refute it at one input. -/
def relateJoinsWrong : ChangeSpec := { name := "relateJoins", fn := fun _ => fun
  | [d1, d2] => { results := [.lit (.bool false)], args := [d1, d2] }
  | _ => none }
def RelateJoinsWrongFalsely : Prop := relateJoinsRow.holds Tryd.pinned (OpenSpec.ofChange relateJoinsWrong)

/-- 'ravelinlaw10.RelateSelf': WHATEVER THE INPUT: true; the input reads as it did. -/
def relateSelfSpec : ChangeSpec := { name := "relateSelf", fn := fun _ => fun
  | [d] => { results := [.lit (.bool true)], args := [d] }
  | _ => none }
def relateSelfRow : OpenClaim := { program := "ytllpicibncdppaadoor", sum := "20625cc1e640edfd0a2953ac90ea76a597bb18654d0764cf2c15873879d94379", func := "ravelin/ravelinlaw10.RelateSelf", spec := "relateSelf", unfollowed := true, recurses := true, named := ["strings.asciiSpace", "unicode.White_Space"], loops := true, apart := false, laid := [("unicode.White_Space", laid_unicode_White_Space), ("strings.asciiSpace", laid_strings_asciiSpace)] }
def RelateSelfSaid : Prop := relateSelfRow.holds Tryd.pinned (OpenSpec.ofChange relateSelfSpec)

/-- ITS FALSE NEIGHBOUR: 'it returns false'. Refute it at one input. -/
def relateSelfWrong : ChangeSpec := { name := "relateSelf", fn := fun _ => fun
  | [d] => { results := [.lit (.bool false)], args := [d] }
  | _ => none }
def RelateSelfWrongFalsely : Prop := relateSelfRow.holds Tryd.pinned (OpenSpec.ofChange relateSelfWrong)

/-- 'ravelinlaw10.RelateLeast': WHATEVER THE INPUT: true; the input reads as it did. -/
def relateLeastSpec : ChangeSpec := { name := "relateLeast", fn := fun _ => fun
  | [d1, d2, d3] => { results := [.lit (.bool true)], args := [d1, d2, d3] }
  | _ => none }
def relateLeastRow : OpenClaim := { program := "ytllpicibncdppaadoor", sum := "20625cc1e640edfd0a2953ac90ea76a597bb18654d0764cf2c15873879d94379", func := "ravelin/ravelinlaw10.RelateLeast", spec := "relateLeast", unfollowed := true, recurses := true, named := ["strings.asciiSpace", "unicode.White_Space"], loops := true, apart := false, laid := [("unicode.White_Space", laid_unicode_White_Space), ("strings.asciiSpace", laid_strings_asciiSpace)] }
def RelateLeastSaid : Prop := relateLeastRow.holds Tryd.pinned (OpenSpec.ofChange relateLeastSpec)

/-- ITS FALSE NEIGHBOUR: 'it returns false'. Refute it at one input. -/
def relateLeastWrong : ChangeSpec := { name := "relateLeast", fn := fun _ => fun
  | [d1, d2, d3] => { results := [.lit (.bool false)], args := [d1, d2, d3] }
  | _ => none }
def RelateLeastWrongFalsely : Prop := relateLeastRow.holds Tryd.pinned (OpenSpec.ofChange relateLeastWrong)

/-- 'ravelinlaw10.RelateMeets': WHATEVER THE INPUT: true; the input reads as it did. -/
def relateMeetsSpec : ChangeSpec := { name := "relateMeets", fn := fun _ => fun
  | [d1, d2] => { results := [.lit (.bool true)], args := [d1, d2] }
  | _ => none }
def relateMeetsRow : OpenClaim := { program := "ytllpicibncdppaadoor", sum := "20625cc1e640edfd0a2953ac90ea76a597bb18654d0764cf2c15873879d94379", func := "ravelin/ravelinlaw10.RelateMeets", spec := "relateMeets", unfollowed := true, recurses := true, named := ["strings.asciiSpace", "unicode.White_Space"], loops := true, apart := false, laid := [("unicode.White_Space", laid_unicode_White_Space), ("strings.asciiSpace", laid_strings_asciiSpace)] }
def RelateMeetsSaid : Prop := relateMeetsRow.holds Tryd.pinned (OpenSpec.ofChange relateMeetsSpec)

/-- ITS FALSE NEIGHBOUR: 'it returns false'. Refute it at one input. -/
def relateMeetsWrong : ChangeSpec := { name := "relateMeets", fn := fun _ => fun
  | [d1, d2] => { results := [.lit (.bool false)], args := [d1, d2] }
  | _ => none }
def RelateMeetsWrongFalsely : Prop := relateMeetsRow.holds Tryd.pinned (OpenSpec.ofChange relateMeetsWrong)

/- THE SECOND FORM. 'bulk': how many values and letters a reading holds, each counted each time it is reached (what is shared counts as often as it is met; a slice's spare places count too). A statement '..UptoSaid' is the law's where the arguments, and the package variables that the reading takes, are together of bulk at most 1048576: NARROWER than '..Said'. Prove '..Said' where nothing that the law and all that it calls make is longer than what came in: it says more and counts as full. Else prove '..UptoSaid'. A law counts once. -/
mutual
def uptoBulk {H : Type} : DataW H → Nat
  | .lit (.string bytes) => bytes.length + 1
  | .lit _ => 1
  | .nil => 1
  | .ptr d => uptoBulk d + 1
  | .slice elems spare => uptoBulkAll elems + uptoBulkAll spare + 1
  | .agg parts => uptoBulkAll parts + 1
  | .iface _ d => uptoBulk d + 1
  | .map entries => uptoBulkEntries entries + 1
  | .held _ => 1
def uptoBulkAll {H : Type} : List (DataW H) → Nat
  | [] => 0
  | d :: r => uptoBulk d + uptoBulkAll r
def uptoBulkEntries {H : Type} : List (Lit × DataW H) → Nat
  | [] => 0
  | x :: r => uptoBulkEntry x + uptoBulkEntries r
def uptoBulkEntry {H : Type} : Lit × DataW H → Nat
  | (.string bytes, d) => bytes.length + uptoBulk d + 1
  | (_, d) => uptoBulk d + 1
 end
def uptoSmall : (H : Type) → List (DataW H) → Bool := fun _ ds => decide (uptoBulkAll ds ≤ 1048576)
def OpenSpec.upto (s : _root_.Go.ChangeSpec) : _root_.Go.OpenSpec := { _root_.Go.OpenSpec.ofChange s with cond := some uptoSmall }

/-- 'ravelinlaw09.TypesUnions', WHERE WHAT IT READS IS OF BULK AT MOST 1048576: true; the input reads as it did. -/
def typesUnionsUptoRow : OpenClaim := { program := "ytllpicibncdppaadoor", sum := "20625cc1e640edfd0a2953ac90ea76a597bb18654d0764cf2c15873879d94379", func := "ravelin/ravelinlaw09.TypesUnions", spec := "typesUnions", inPlace := ["internal/abi.NoEscape", "internal/bytealg.MakeNoZero"], unfollowed := true, recurses := true, named := ["strings.asciiSpace", "unicode.White_Space"], apart := false, laid := [("unicode.White_Space", laid_unicode_White_Space), ("strings.asciiSpace", laid_strings_asciiSpace)], narrowed := true }
def TypesUnionsUptoSaid : Prop := typesUnionsUptoRow.holds Tryd.pinned (OpenSpec.upto typesUnionsSpec)

/-- 'ravelinlaw10.RelateSubs', WHERE WHAT IT READS IS OF BULK AT MOST 1048576: true; the input reads as it did. -/
def relateSubsUptoRow : OpenClaim := { program := "ytllpicibncdppaadoor", sum := "20625cc1e640edfd0a2953ac90ea76a597bb18654d0764cf2c15873879d94379", func := "ravelin/ravelinlaw10.RelateSubs", spec := "relateSubs", unfollowed := true, recurses := true, named := ["strings.asciiSpace", "unicode.White_Space"], loops := true, apart := false, laid := [("unicode.White_Space", laid_unicode_White_Space), ("strings.asciiSpace", laid_strings_asciiSpace)], narrowed := true }
def RelateSubsUptoSaid : Prop := relateSubsUptoRow.holds Tryd.pinned (OpenSpec.upto relateSubsSpec)

/-- 'ravelinlaw10.RelateEases', WHERE WHAT IT READS IS OF BULK AT MOST 1048576: true; the input reads as it did. -/
def relateEasesUptoRow : OpenClaim := { program := "ytllpicibncdppaadoor", sum := "20625cc1e640edfd0a2953ac90ea76a597bb18654d0764cf2c15873879d94379", func := "ravelin/ravelinlaw10.RelateEases", spec := "relateEases", unfollowed := true, recurses := true, named := ["strings.asciiSpace", "unicode.White_Space"], loops := true, apart := false, laid := [("unicode.White_Space", laid_unicode_White_Space), ("strings.asciiSpace", laid_strings_asciiSpace)], narrowed := true }
def RelateEasesUptoSaid : Prop := relateEasesUptoRow.holds Tryd.pinned (OpenSpec.upto relateEasesSpec)

/-- 'ravelinlaw10.RelateSides', WHERE WHAT IT READS IS OF BULK AT MOST 1048576: true; the input reads as it did. -/
def relateSidesUptoRow : OpenClaim := { program := "ytllpicibncdppaadoor", sum := "20625cc1e640edfd0a2953ac90ea76a597bb18654d0764cf2c15873879d94379", func := "ravelin/ravelinlaw10.RelateSides", spec := "relateSides", unfollowed := true, recurses := true, named := ["strings.asciiSpace", "unicode.White_Space"], loops := true, apart := false, laid := [("unicode.White_Space", laid_unicode_White_Space), ("strings.asciiSpace", laid_strings_asciiSpace)], narrowed := true }
def RelateSidesUptoSaid : Prop := relateSidesUptoRow.holds Tryd.pinned (OpenSpec.upto relateSidesSpec)

/-- 'ravelinlaw09.TypesShows', WHERE WHAT IT READS IS OF BULK AT MOST 1048576: true; the input reads as it did. -/
def typesShowsUptoRow : OpenClaim := { program := "ytllpicibncdppaadoor", sum := "20625cc1e640edfd0a2953ac90ea76a597bb18654d0764cf2c15873879d94379", func := "ravelin/ravelinlaw09.TypesShows", spec := "typesShows", inPlace := ["internal/abi.NoEscape", "internal/bytealg.MakeNoZero"], unfollowed := true, recurses := true, named := ["strings.asciiSpace", "unicode.White_Space"], loops := true, apart := false, laid := [("unicode.White_Space", laid_unicode_White_Space), ("strings.asciiSpace", laid_strings_asciiSpace)], narrowed := true }
def TypesShowsUptoSaid : Prop := typesShowsUptoRow.holds Tryd.pinned (OpenSpec.upto typesShowsSpec)

/-- 'ravelinlaw09.TypesKinds', WHERE WHAT IT READS IS OF BULK AT MOST 1048576: true; the input reads as it did. -/
def typesKindsUptoRow : OpenClaim := { program := "ytllpicibncdppaadoor", sum := "20625cc1e640edfd0a2953ac90ea76a597bb18654d0764cf2c15873879d94379", func := "ravelin/ravelinlaw09.TypesKinds", spec := "typesKinds", inPlace := ["internal/abi.NoEscape", "internal/bytealg.MakeNoZero"], unfollowed := true, recurses := true, named := ["strings.asciiSpace", "unicode.White_Space"], loops := true, apart := false, laid := [("unicode.White_Space", laid_unicode_White_Space), ("strings.asciiSpace", laid_strings_asciiSpace)], narrowed := true }
def TypesKindsUptoSaid : Prop := typesKindsUptoRow.holds Tryd.pinned (OpenSpec.upto typesKindsSpec)

/-- 'ravelinlaw10.RelatePrecise', WHERE WHAT IT READS IS OF BULK AT MOST 1048576: true; the input reads as it did. -/
def relatePreciseUptoRow : OpenClaim := { program := "ytllpicibncdppaadoor", sum := "20625cc1e640edfd0a2953ac90ea76a597bb18654d0764cf2c15873879d94379", func := "ravelin/ravelinlaw10.RelatePrecise", spec := "relatePrecise", unfollowed := true, recurses := true, named := ["strings.asciiSpace", "unicode.White_Space"], loops := true, apart := false, laid := [("unicode.White_Space", laid_unicode_White_Space), ("strings.asciiSpace", laid_strings_asciiSpace)], narrowed := true }
def RelatePreciseUptoSaid : Prop := relatePreciseUptoRow.holds Tryd.pinned (OpenSpec.upto relatePreciseSpec)

/-- 'ravelinlaw10.RelateChains', WHERE WHAT IT READS IS OF BULK AT MOST 1048576: true; the input reads as it did. -/
def relateChainsUptoRow : OpenClaim := { program := "ytllpicibncdppaadoor", sum := "20625cc1e640edfd0a2953ac90ea76a597bb18654d0764cf2c15873879d94379", func := "ravelin/ravelinlaw10.RelateChains", spec := "relateChains", unfollowed := true, recurses := true, named := ["strings.asciiSpace", "unicode.White_Space"], loops := true, apart := false, laid := [("unicode.White_Space", laid_unicode_White_Space), ("strings.asciiSpace", laid_strings_asciiSpace)], narrowed := true }
def RelateChainsUptoSaid : Prop := relateChainsUptoRow.holds Tryd.pinned (OpenSpec.upto relateChainsSpec)

/-- 'ravelinlaw10.RelateVague', WHERE WHAT IT READS IS OF BULK AT MOST 1048576: true; the input reads as it did. -/
def relateVagueUptoRow : OpenClaim := { program := "ytllpicibncdppaadoor", sum := "20625cc1e640edfd0a2953ac90ea76a597bb18654d0764cf2c15873879d94379", func := "ravelin/ravelinlaw10.RelateVague", spec := "relateVague", unfollowed := true, recurses := true, named := ["strings.asciiSpace", "unicode.White_Space"], loops := true, apart := false, laid := [("unicode.White_Space", laid_unicode_White_Space), ("strings.asciiSpace", laid_strings_asciiSpace)], narrowed := true }
def RelateVagueUptoSaid : Prop := relateVagueUptoRow.holds Tryd.pinned (OpenSpec.upto relateVagueSpec)

/-- 'ravelinlaw10.RelateJoins', WHERE WHAT IT READS IS OF BULK AT MOST 1048576: true; the input reads as it did. -/
def relateJoinsUptoRow : OpenClaim := { program := "ytllpicibncdppaadoor", sum := "20625cc1e640edfd0a2953ac90ea76a597bb18654d0764cf2c15873879d94379", func := "ravelin/ravelinlaw10.RelateJoins", spec := "relateJoins", unfollowed := true, recurses := true, named := ["strings.asciiSpace", "unicode.White_Space"], loops := true, apart := false, laid := [("unicode.White_Space", laid_unicode_White_Space), ("strings.asciiSpace", laid_strings_asciiSpace)], narrowed := true }
def RelateJoinsUptoSaid : Prop := relateJoinsUptoRow.holds Tryd.pinned (OpenSpec.upto relateJoinsSpec)

/-- 'ravelinlaw10.RelateSelf', WHERE WHAT IT READS IS OF BULK AT MOST 1048576: true; the input reads as it did. -/
def relateSelfUptoRow : OpenClaim := { program := "ytllpicibncdppaadoor", sum := "20625cc1e640edfd0a2953ac90ea76a597bb18654d0764cf2c15873879d94379", func := "ravelin/ravelinlaw10.RelateSelf", spec := "relateSelf", unfollowed := true, recurses := true, named := ["strings.asciiSpace", "unicode.White_Space"], loops := true, apart := false, laid := [("unicode.White_Space", laid_unicode_White_Space), ("strings.asciiSpace", laid_strings_asciiSpace)], narrowed := true }
def RelateSelfUptoSaid : Prop := relateSelfUptoRow.holds Tryd.pinned (OpenSpec.upto relateSelfSpec)

/-- 'ravelinlaw10.RelateLeast', WHERE WHAT IT READS IS OF BULK AT MOST 1048576: true; the input reads as it did. -/
def relateLeastUptoRow : OpenClaim := { program := "ytllpicibncdppaadoor", sum := "20625cc1e640edfd0a2953ac90ea76a597bb18654d0764cf2c15873879d94379", func := "ravelin/ravelinlaw10.RelateLeast", spec := "relateLeast", unfollowed := true, recurses := true, named := ["strings.asciiSpace", "unicode.White_Space"], loops := true, apart := false, laid := [("unicode.White_Space", laid_unicode_White_Space), ("strings.asciiSpace", laid_strings_asciiSpace)], narrowed := true }
def RelateLeastUptoSaid : Prop := relateLeastUptoRow.holds Tryd.pinned (OpenSpec.upto relateLeastSpec)

/-- 'ravelinlaw10.RelateMeets', WHERE WHAT IT READS IS OF BULK AT MOST 1048576: true; the input reads as it did. -/
def relateMeetsUptoRow : OpenClaim := { program := "ytllpicibncdppaadoor", sum := "20625cc1e640edfd0a2953ac90ea76a597bb18654d0764cf2c15873879d94379", func := "ravelin/ravelinlaw10.RelateMeets", spec := "relateMeets", unfollowed := true, recurses := true, named := ["strings.asciiSpace", "unicode.White_Space"], loops := true, apart := false, laid := [("unicode.White_Space", laid_unicode_White_Space), ("strings.asciiSpace", laid_strings_asciiSpace)], narrowed := true }
def RelateMeetsUptoSaid : Prop := relateMeetsUptoRow.holds Tryd.pinned (OpenSpec.upto relateMeetsSpec)

end Rows
end Go.Proofs.YtllpicibncdppaaDoor
