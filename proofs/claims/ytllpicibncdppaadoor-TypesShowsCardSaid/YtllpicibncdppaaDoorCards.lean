/-
  DERIVED. GIVEN WITH THE SEED: THE CARDS: each row of YtllpicibncdppaaDoorRows.lean that lists a variable, with what it lists TIED to the program's text (the seventh form; the later family's looks); each row that meets fmt, with fmt's text TOLD by the authors' own Lean function (tested against real Go, not proved from fmt's source: count such statements apart). THE CARD IS WHAT COUNTS. Prove the row's statement (the work); the ties are given (YtllpicibncdppaaDoorTie.lean); close each card by the builder's one call (the guide's Derived/Test/ToyasCard.lean, 'card_holds'). Laid BY PROGRAM, IN A SANDBOX (cutbox-door.mjs). By AI agents, Wed Nov 11 2026. No macro, syntax, notation, axiom, sorry.
-/
import Derived.Test.YtllpicibncdppaaDoorRows
import GoSem.ClaimSeven
namespace Go.Proofs.YtllpicibncdppaaDoor
namespace Rows

/-- THE TIED CARD OF 'ravelinlaw09.TypesUnions'. -/
def typesUnionsCard : Claim7 := { stood := { row := typesUnionsRow, standIns := [], harness := (true, "e92211caa077efe73924a0eae2408085e6d7bf8113da6afde585dc053dcbc40b"), looks := true }, kinds := [], alts := [], laidByText := true, laidKinds := [.listed, .data], laidTests := true, laidLooks := .later }
def TypesUnionsCardSaid : Prop := Claim7.holds Tryd.pinned (.plain (OpenSpec.ofChange typesUnionsSpec)) typesUnionsCard

/-- THE TIED CARD OF 'ravelinlaw10.RelateSubs'. -/
def relateSubsCard : Claim7 := { stood := { row := relateSubsRow, standIns := [], harness := (true, "e92211caa077efe73924a0eae2408085e6d7bf8113da6afde585dc053dcbc40b"), looks := true }, kinds := [], alts := [], laidByText := true, laidKinds := [.listed, .data], laidTests := true, laidLooks := .later }
def RelateSubsCardSaid : Prop := Claim7.holds Tryd.pinned (.plain (OpenSpec.ofChange relateSubsSpec)) relateSubsCard

/-- THE TIED CARD OF 'ravelinlaw10.RelateEases'. -/
def relateEasesCard : Claim7 := { stood := { row := relateEasesRow, standIns := [], harness := (true, "e92211caa077efe73924a0eae2408085e6d7bf8113da6afde585dc053dcbc40b"), looks := true }, kinds := [], alts := [], laidByText := true, laidKinds := [.listed, .data], laidTests := true, laidLooks := .later }
def RelateEasesCardSaid : Prop := Claim7.holds Tryd.pinned (.plain (OpenSpec.ofChange relateEasesSpec)) relateEasesCard

/-- THE TIED CARD OF 'ravelinlaw10.RelateSides'. -/
def relateSidesCard : Claim7 := { stood := { row := relateSidesRow, standIns := [], harness := (true, "e92211caa077efe73924a0eae2408085e6d7bf8113da6afde585dc053dcbc40b"), looks := true }, kinds := [], alts := [], laidByText := true, laidKinds := [.listed, .data], laidTests := true, laidLooks := .later }
def RelateSidesCardSaid : Prop := Claim7.holds Tryd.pinned (.plain (OpenSpec.ofChange relateSidesSpec)) relateSidesCard

/-- THE TIED CARD OF 'ravelinlaw09.TypesShows'. -/
def typesShowsCard : Claim7 := { stood := { row := typesShowsRow, standIns := [], harness := (true, "e92211caa077efe73924a0eae2408085e6d7bf8113da6afde585dc053dcbc40b"), looks := true }, kinds := [], alts := [], laidByText := true, laidKinds := [.listed, .data], laidTests := true, laidLooks := .later }
def TypesShowsCardSaid : Prop := Claim7.holds Tryd.pinned (.plain (OpenSpec.ofChange typesShowsSpec)) typesShowsCard

/-- THE TIED CARD OF 'ravelinlaw09.TypesKinds'. -/
def typesKindsCard : Claim7 := { stood := { row := typesKindsRow, standIns := [], harness := (true, "e92211caa077efe73924a0eae2408085e6d7bf8113da6afde585dc053dcbc40b"), looks := true }, kinds := [], alts := [], laidByText := true, laidKinds := [.listed, .data], laidTests := true, laidLooks := .later }
def TypesKindsCardSaid : Prop := Claim7.holds Tryd.pinned (.plain (OpenSpec.ofChange typesKindsSpec)) typesKindsCard

/-- THE TIED CARD OF 'ravelinlaw10.RelatePrecise'. -/
def relatePreciseCard : Claim7 := { stood := { row := relatePreciseRow, standIns := [], harness := (true, "e92211caa077efe73924a0eae2408085e6d7bf8113da6afde585dc053dcbc40b"), looks := true }, kinds := [], alts := [], laidByText := true, laidKinds := [.listed, .data], laidTests := true, laidLooks := .later }
def RelatePreciseCardSaid : Prop := Claim7.holds Tryd.pinned (.plain (OpenSpec.ofChange relatePreciseSpec)) relatePreciseCard

/-- THE TIED CARD OF 'ravelinlaw10.RelateChains'. -/
def relateChainsCard : Claim7 := { stood := { row := relateChainsRow, standIns := [], harness := (true, "e92211caa077efe73924a0eae2408085e6d7bf8113da6afde585dc053dcbc40b"), looks := true }, kinds := [], alts := [], laidByText := true, laidKinds := [.listed, .data], laidTests := true, laidLooks := .later }
def RelateChainsCardSaid : Prop := Claim7.holds Tryd.pinned (.plain (OpenSpec.ofChange relateChainsSpec)) relateChainsCard

/-- THE TIED CARD OF 'ravelinlaw10.RelateVague'. -/
def relateVagueCard : Claim7 := { stood := { row := relateVagueRow, standIns := [], harness := (true, "e92211caa077efe73924a0eae2408085e6d7bf8113da6afde585dc053dcbc40b"), looks := true }, kinds := [], alts := [], laidByText := true, laidKinds := [.listed, .data], laidTests := true, laidLooks := .later }
def RelateVagueCardSaid : Prop := Claim7.holds Tryd.pinned (.plain (OpenSpec.ofChange relateVagueSpec)) relateVagueCard

/-- THE TIED CARD OF 'ravelinlaw10.RelateJoins'. -/
def relateJoinsCard : Claim7 := { stood := { row := relateJoinsRow, standIns := [], harness := (true, "e92211caa077efe73924a0eae2408085e6d7bf8113da6afde585dc053dcbc40b"), looks := true }, kinds := [], alts := [], laidByText := true, laidKinds := [.listed, .data], laidTests := true, laidLooks := .later }
def RelateJoinsCardSaid : Prop := Claim7.holds Tryd.pinned (.plain (OpenSpec.ofChange relateJoinsSpec)) relateJoinsCard

/-- THE TIED CARD OF 'ravelinlaw10.RelateSelf'. -/
def relateSelfCard : Claim7 := { stood := { row := relateSelfRow, standIns := [], harness := (true, "e92211caa077efe73924a0eae2408085e6d7bf8113da6afde585dc053dcbc40b"), looks := true }, kinds := [], alts := [], laidByText := true, laidKinds := [.listed, .data], laidTests := true, laidLooks := .later }
def RelateSelfCardSaid : Prop := Claim7.holds Tryd.pinned (.plain (OpenSpec.ofChange relateSelfSpec)) relateSelfCard

/-- THE TIED CARD OF 'ravelinlaw10.RelateLeast'. -/
def relateLeastCard : Claim7 := { stood := { row := relateLeastRow, standIns := [], harness := (true, "e92211caa077efe73924a0eae2408085e6d7bf8113da6afde585dc053dcbc40b"), looks := true }, kinds := [], alts := [], laidByText := true, laidKinds := [.listed, .data], laidTests := true, laidLooks := .later }
def RelateLeastCardSaid : Prop := Claim7.holds Tryd.pinned (.plain (OpenSpec.ofChange relateLeastSpec)) relateLeastCard

/-- THE TIED CARD OF 'ravelinlaw10.RelateMeets'. -/
def relateMeetsCard : Claim7 := { stood := { row := relateMeetsRow, standIns := [], harness := (true, "e92211caa077efe73924a0eae2408085e6d7bf8113da6afde585dc053dcbc40b"), looks := true }, kinds := [], alts := [], laidByText := true, laidKinds := [.listed, .data], laidTests := true, laidLooks := .later }
def RelateMeetsCardSaid : Prop := Claim7.holds Tryd.pinned (.plain (OpenSpec.ofChange relateMeetsSpec)) relateMeetsCard

/-- THE SECOND FORM's CARD OF 'ravelinlaw09.TypesUnions'. -/
def typesUnionsUptoCard : Claim7 := { stood := { row := typesUnionsUptoRow, standIns := [], harness := (true, "e92211caa077efe73924a0eae2408085e6d7bf8113da6afde585dc053dcbc40b"), looks := true }, kinds := [], alts := [], laidByText := true, laidKinds := [.listed, .data], laidTests := true, laidLooks := .later }
def TypesUnionsUptoCardSaid : Prop := Claim7.holds Tryd.pinned (.plain (OpenSpec.upto typesUnionsSpec)) typesUnionsUptoCard

/-- THE SECOND FORM's CARD OF 'ravelinlaw10.RelateSubs'. -/
def relateSubsUptoCard : Claim7 := { stood := { row := relateSubsUptoRow, standIns := [], harness := (true, "e92211caa077efe73924a0eae2408085e6d7bf8113da6afde585dc053dcbc40b"), looks := true }, kinds := [], alts := [], laidByText := true, laidKinds := [.listed, .data], laidTests := true, laidLooks := .later }
def RelateSubsUptoCardSaid : Prop := Claim7.holds Tryd.pinned (.plain (OpenSpec.upto relateSubsSpec)) relateSubsUptoCard

/-- THE SECOND FORM's CARD OF 'ravelinlaw10.RelateEases'. -/
def relateEasesUptoCard : Claim7 := { stood := { row := relateEasesUptoRow, standIns := [], harness := (true, "e92211caa077efe73924a0eae2408085e6d7bf8113da6afde585dc053dcbc40b"), looks := true }, kinds := [], alts := [], laidByText := true, laidKinds := [.listed, .data], laidTests := true, laidLooks := .later }
def RelateEasesUptoCardSaid : Prop := Claim7.holds Tryd.pinned (.plain (OpenSpec.upto relateEasesSpec)) relateEasesUptoCard

/-- THE SECOND FORM's CARD OF 'ravelinlaw10.RelateSides'. -/
def relateSidesUptoCard : Claim7 := { stood := { row := relateSidesUptoRow, standIns := [], harness := (true, "e92211caa077efe73924a0eae2408085e6d7bf8113da6afde585dc053dcbc40b"), looks := true }, kinds := [], alts := [], laidByText := true, laidKinds := [.listed, .data], laidTests := true, laidLooks := .later }
def RelateSidesUptoCardSaid : Prop := Claim7.holds Tryd.pinned (.plain (OpenSpec.upto relateSidesSpec)) relateSidesUptoCard

/-- THE SECOND FORM's CARD OF 'ravelinlaw09.TypesShows'. -/
def typesShowsUptoCard : Claim7 := { stood := { row := typesShowsUptoRow, standIns := [], harness := (true, "e92211caa077efe73924a0eae2408085e6d7bf8113da6afde585dc053dcbc40b"), looks := true }, kinds := [], alts := [], laidByText := true, laidKinds := [.listed, .data], laidTests := true, laidLooks := .later }
def TypesShowsUptoCardSaid : Prop := Claim7.holds Tryd.pinned (.plain (OpenSpec.upto typesShowsSpec)) typesShowsUptoCard

/-- THE SECOND FORM's CARD OF 'ravelinlaw09.TypesKinds'. -/
def typesKindsUptoCard : Claim7 := { stood := { row := typesKindsUptoRow, standIns := [], harness := (true, "e92211caa077efe73924a0eae2408085e6d7bf8113da6afde585dc053dcbc40b"), looks := true }, kinds := [], alts := [], laidByText := true, laidKinds := [.listed, .data], laidTests := true, laidLooks := .later }
def TypesKindsUptoCardSaid : Prop := Claim7.holds Tryd.pinned (.plain (OpenSpec.upto typesKindsSpec)) typesKindsUptoCard

/-- THE SECOND FORM's CARD OF 'ravelinlaw10.RelatePrecise'. -/
def relatePreciseUptoCard : Claim7 := { stood := { row := relatePreciseUptoRow, standIns := [], harness := (true, "e92211caa077efe73924a0eae2408085e6d7bf8113da6afde585dc053dcbc40b"), looks := true }, kinds := [], alts := [], laidByText := true, laidKinds := [.listed, .data], laidTests := true, laidLooks := .later }
def RelatePreciseUptoCardSaid : Prop := Claim7.holds Tryd.pinned (.plain (OpenSpec.upto relatePreciseSpec)) relatePreciseUptoCard

/-- THE SECOND FORM's CARD OF 'ravelinlaw10.RelateChains'. -/
def relateChainsUptoCard : Claim7 := { stood := { row := relateChainsUptoRow, standIns := [], harness := (true, "e92211caa077efe73924a0eae2408085e6d7bf8113da6afde585dc053dcbc40b"), looks := true }, kinds := [], alts := [], laidByText := true, laidKinds := [.listed, .data], laidTests := true, laidLooks := .later }
def RelateChainsUptoCardSaid : Prop := Claim7.holds Tryd.pinned (.plain (OpenSpec.upto relateChainsSpec)) relateChainsUptoCard

/-- THE SECOND FORM's CARD OF 'ravelinlaw10.RelateVague'. -/
def relateVagueUptoCard : Claim7 := { stood := { row := relateVagueUptoRow, standIns := [], harness := (true, "e92211caa077efe73924a0eae2408085e6d7bf8113da6afde585dc053dcbc40b"), looks := true }, kinds := [], alts := [], laidByText := true, laidKinds := [.listed, .data], laidTests := true, laidLooks := .later }
def RelateVagueUptoCardSaid : Prop := Claim7.holds Tryd.pinned (.plain (OpenSpec.upto relateVagueSpec)) relateVagueUptoCard

/-- THE SECOND FORM's CARD OF 'ravelinlaw10.RelateJoins'. -/
def relateJoinsUptoCard : Claim7 := { stood := { row := relateJoinsUptoRow, standIns := [], harness := (true, "e92211caa077efe73924a0eae2408085e6d7bf8113da6afde585dc053dcbc40b"), looks := true }, kinds := [], alts := [], laidByText := true, laidKinds := [.listed, .data], laidTests := true, laidLooks := .later }
def RelateJoinsUptoCardSaid : Prop := Claim7.holds Tryd.pinned (.plain (OpenSpec.upto relateJoinsSpec)) relateJoinsUptoCard

/-- THE SECOND FORM's CARD OF 'ravelinlaw10.RelateSelf'. -/
def relateSelfUptoCard : Claim7 := { stood := { row := relateSelfUptoRow, standIns := [], harness := (true, "e92211caa077efe73924a0eae2408085e6d7bf8113da6afde585dc053dcbc40b"), looks := true }, kinds := [], alts := [], laidByText := true, laidKinds := [.listed, .data], laidTests := true, laidLooks := .later }
def RelateSelfUptoCardSaid : Prop := Claim7.holds Tryd.pinned (.plain (OpenSpec.upto relateSelfSpec)) relateSelfUptoCard

/-- THE SECOND FORM's CARD OF 'ravelinlaw10.RelateLeast'. -/
def relateLeastUptoCard : Claim7 := { stood := { row := relateLeastUptoRow, standIns := [], harness := (true, "e92211caa077efe73924a0eae2408085e6d7bf8113da6afde585dc053dcbc40b"), looks := true }, kinds := [], alts := [], laidByText := true, laidKinds := [.listed, .data], laidTests := true, laidLooks := .later }
def RelateLeastUptoCardSaid : Prop := Claim7.holds Tryd.pinned (.plain (OpenSpec.upto relateLeastSpec)) relateLeastUptoCard

/-- THE SECOND FORM's CARD OF 'ravelinlaw10.RelateMeets'. -/
def relateMeetsUptoCard : Claim7 := { stood := { row := relateMeetsUptoRow, standIns := [], harness := (true, "e92211caa077efe73924a0eae2408085e6d7bf8113da6afde585dc053dcbc40b"), looks := true }, kinds := [], alts := [], laidByText := true, laidKinds := [.listed, .data], laidTests := true, laidLooks := .later }
def RelateMeetsUptoCardSaid : Prop := Claim7.holds Tryd.pinned (.plain (OpenSpec.upto relateMeetsSpec)) relateMeetsUptoCard
end Rows
end Go.Proofs.YtllpicibncdppaaDoor
