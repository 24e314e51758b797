/-
  DERIVED. GIVEN WITH THE SEED: THE CARDS: each row of YtmlknpoippfkeaaDoorRows.lean that lists a variable, with what it lists TIED to the program's text (the seventh form; the later family's looks); each row that meets fmt, with fmt's text TOLD by the authors' own Lean function (tested against real Go, not proved from fmt's source: count such statements apart). THE CARD IS WHAT COUNTS. Prove the row's statement (the work); the ties are given (YtmlknpoippfkeaaDoorTie.lean); close each card by the builder's one call (the guide's Derived/Test/ToyasCard.lean, 'card_holds'). Laid BY PROGRAM, IN A SANDBOX (cutbox-door.mjs). By AI agents, Wed Nov 11 2026. No macro, syntax, notation, axiom, sorry.
-/
import Derived.Test.YtmlknpoippfkeaaDoorRows
import GoSem.ClaimSeven
namespace Go.Proofs.YtmlknpoippfkeaaDoor
namespace Rows

/-- THE TIED CARD OF 'ravelinlaw01.LabelFlows'. -/
def labelFlowsCard : Claim7 := { stood := { row := labelFlowsRow, standIns := [], harness := (true, "282b9618d8d83f35e318f64bd4f2e1dcc46e469a779d1486598c10a7234317b4"), looks := true }, kinds := [], alts := [], laidByText := true, laidKinds := [.data, .data, .data, .data, .sentinel, .sentinel, .pinned], laidTests := true, laidLooks := .later }
def LabelFlowsCardSaid : Prop := Claim7.holds Tryd.pinned (.plain (OpenSpec.ofChange labelFlowsSpec)) labelFlowsCard

/-- THE TIED CARD OF 'ravelinlaw01.LabelShows'. -/
def labelShowsCard : Claim7 := { stood := { row := labelShowsRow, standIns := [], harness := (true, "282b9618d8d83f35e318f64bd4f2e1dcc46e469a779d1486598c10a7234317b4"), looks := true }, kinds := [], alts := [], laidByText := true, laidKinds := [.data, .data, .data, .data, .sentinel, .sentinel, .pinned], laidTests := true, laidLooks := .later }
def LabelShowsCardSaid : Prop := Claim7.holds Tryd.pinned (.plain (OpenSpec.ofChange labelShowsSpec)) labelShowsCard

/-- THE TIED CARD OF 'ravelinlaw01.LabelParses'. -/
def labelParsesCard : Claim7 := { stood := { row := labelParsesRow, standIns := [], harness := (true, "282b9618d8d83f35e318f64bd4f2e1dcc46e469a779d1486598c10a7234317b4"), looks := true }, kinds := [], alts := [], laidByText := true, laidKinds := [.data, .data, .data, .data, .sentinel, .sentinel, .pinned], laidTests := true, laidLooks := .later }
def LabelParsesCardSaid : Prop := Claim7.holds Tryd.pinned (.plain (OpenSpec.ofChange labelParsesSpec)) labelParsesCard

/-- THE TIED CARD OF 'ravelinlaw01.LabelJoins'. -/
def labelJoinsCard : Claim7 := { stood := { row := labelJoinsRow, standIns := [], harness := (true, "282b9618d8d83f35e318f64bd4f2e1dcc46e469a779d1486598c10a7234317b4"), looks := true }, kinds := [], alts := [], laidByText := true, laidKinds := [.data, .data, .data, .data, .sentinel, .sentinel, .pinned], laidTests := true, laidLooks := .later }
def LabelJoinsCardSaid : Prop := Claim7.holds Tryd.pinned (.plain (OpenSpec.ofChange labelJoinsSpec)) labelJoinsCard

/-- THE TIED CARD OF 'ravelinlaw01.LabelLattice'. -/
def labelLatticeCard : Claim7 := { stood := { row := labelLatticeRow, standIns := [], harness := (true, "282b9618d8d83f35e318f64bd4f2e1dcc46e469a779d1486598c10a7234317b4"), looks := true }, kinds := [], alts := [], laidByText := true, laidKinds := [.data, .data, .data, .data, .sentinel, .sentinel, .pinned], laidTests := true, laidLooks := .later }
def LabelLatticeCardSaid : Prop := Claim7.holds Tryd.pinned (.plain (OpenSpec.ofChange labelLatticeSpec)) labelLatticeCard

/-- THE TIED CARD OF 'ravelinlaw01.LabelLeast'. -/
def labelLeastCard : Claim7 := { stood := { row := labelLeastRow, standIns := [], harness := (true, "282b9618d8d83f35e318f64bd4f2e1dcc46e469a779d1486598c10a7234317b4"), looks := true }, kinds := [], alts := [], laidByText := true, laidKinds := [.data, .data, .data, .data, .sentinel, .sentinel, .pinned], laidTests := true, laidLooks := .later }
def LabelLeastCardSaid : Prop := Claim7.holds Tryd.pinned (.plain (OpenSpec.ofChange labelLeastSpec)) labelLeastCard

/-- THE TIED CARD OF 'ravelinlaw01.LabelLists'. -/
def labelListsCard : Claim7 := { stood := { row := labelListsRow, standIns := [], harness := (true, "282b9618d8d83f35e318f64bd4f2e1dcc46e469a779d1486598c10a7234317b4"), looks := true }, kinds := [], alts := [], laidByText := true, laidKinds := [.data, .data, .data, .data, .sentinel, .sentinel, .pinned], laidTests := true, laidLooks := .later }
def LabelListsCardSaid : Prop := Claim7.holds Tryd.pinned (.plain (OpenSpec.ofChange labelListsSpec)) labelListsCard

/-- THE SECOND FORM's CARD OF 'ravelinlaw01.LabelFlows'. -/
def labelFlowsUptoCard : Claim7 := { stood := { row := labelFlowsUptoRow, standIns := [], harness := (true, "282b9618d8d83f35e318f64bd4f2e1dcc46e469a779d1486598c10a7234317b4"), looks := true }, kinds := [], alts := [], laidByText := true, laidKinds := [.data, .data, .data, .data, .sentinel, .sentinel, .pinned], laidTests := true, laidLooks := .later }
def LabelFlowsUptoCardSaid : Prop := Claim7.holds Tryd.pinned (.plain (OpenSpec.upto labelFlowsSpec)) labelFlowsUptoCard

/-- THE SECOND FORM's CARD OF 'ravelinlaw01.LabelShows'. -/
def labelShowsUptoCard : Claim7 := { stood := { row := labelShowsUptoRow, standIns := [], harness := (true, "282b9618d8d83f35e318f64bd4f2e1dcc46e469a779d1486598c10a7234317b4"), looks := true }, kinds := [], alts := [], laidByText := true, laidKinds := [.data, .data, .data, .data, .sentinel, .sentinel, .pinned], laidTests := true, laidLooks := .later }
def LabelShowsUptoCardSaid : Prop := Claim7.holds Tryd.pinned (.plain (OpenSpec.upto labelShowsSpec)) labelShowsUptoCard

/-- THE SECOND FORM's CARD OF 'ravelinlaw01.LabelParses'. -/
def labelParsesUptoCard : Claim7 := { stood := { row := labelParsesUptoRow, standIns := [], harness := (true, "282b9618d8d83f35e318f64bd4f2e1dcc46e469a779d1486598c10a7234317b4"), looks := true }, kinds := [], alts := [], laidByText := true, laidKinds := [.data, .data, .data, .data, .sentinel, .sentinel, .pinned], laidTests := true, laidLooks := .later }
def LabelParsesUptoCardSaid : Prop := Claim7.holds Tryd.pinned (.plain (OpenSpec.upto labelParsesSpec)) labelParsesUptoCard

/-- THE SECOND FORM's CARD OF 'ravelinlaw01.LabelJoins'. -/
def labelJoinsUptoCard : Claim7 := { stood := { row := labelJoinsUptoRow, standIns := [], harness := (true, "282b9618d8d83f35e318f64bd4f2e1dcc46e469a779d1486598c10a7234317b4"), looks := true }, kinds := [], alts := [], laidByText := true, laidKinds := [.data, .data, .data, .data, .sentinel, .sentinel, .pinned], laidTests := true, laidLooks := .later }
def LabelJoinsUptoCardSaid : Prop := Claim7.holds Tryd.pinned (.plain (OpenSpec.upto labelJoinsSpec)) labelJoinsUptoCard

/-- THE SECOND FORM's CARD OF 'ravelinlaw01.LabelLattice'. -/
def labelLatticeUptoCard : Claim7 := { stood := { row := labelLatticeUptoRow, standIns := [], harness := (true, "282b9618d8d83f35e318f64bd4f2e1dcc46e469a779d1486598c10a7234317b4"), looks := true }, kinds := [], alts := [], laidByText := true, laidKinds := [.data, .data, .data, .data, .sentinel, .sentinel, .pinned], laidTests := true, laidLooks := .later }
def LabelLatticeUptoCardSaid : Prop := Claim7.holds Tryd.pinned (.plain (OpenSpec.upto labelLatticeSpec)) labelLatticeUptoCard

/-- THE SECOND FORM's CARD OF 'ravelinlaw01.LabelLeast'. -/
def labelLeastUptoCard : Claim7 := { stood := { row := labelLeastUptoRow, standIns := [], harness := (true, "282b9618d8d83f35e318f64bd4f2e1dcc46e469a779d1486598c10a7234317b4"), looks := true }, kinds := [], alts := [], laidByText := true, laidKinds := [.data, .data, .data, .data, .sentinel, .sentinel, .pinned], laidTests := true, laidLooks := .later }
def LabelLeastUptoCardSaid : Prop := Claim7.holds Tryd.pinned (.plain (OpenSpec.upto labelLeastSpec)) labelLeastUptoCard

/-- THE SECOND FORM's CARD OF 'ravelinlaw01.LabelLists'. -/
def labelListsUptoCard : Claim7 := { stood := { row := labelListsUptoRow, standIns := [], harness := (true, "282b9618d8d83f35e318f64bd4f2e1dcc46e469a779d1486598c10a7234317b4"), looks := true }, kinds := [], alts := [], laidByText := true, laidKinds := [.data, .data, .data, .data, .sentinel, .sentinel, .pinned], laidTests := true, laidLooks := .later }
def LabelListsUptoCardSaid : Prop := Claim7.holds Tryd.pinned (.plain (OpenSpec.upto labelListsSpec)) labelListsUptoCard
end Rows
end Go.Proofs.YtmlknpoippfkeaaDoor
