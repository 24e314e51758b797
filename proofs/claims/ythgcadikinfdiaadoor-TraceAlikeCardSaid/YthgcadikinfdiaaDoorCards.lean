/-
  DERIVED. GIVEN WITH THE SEED: THE CARDS: each row of YthgcadikinfdiaaDoorRows.lean that lists a variable, with what it lists TIED to the program's text (the seventh form; the later family's looks); each row that meets fmt, with fmt's text TOLD by the authors' own Lean function (tested against real Go, not proved from fmt's source: count such statements apart). THE CARD IS WHAT COUNTS. Prove the row's statement (the work); the ties are given (YthgcadikinfdiaaDoorTie.lean); close each card by the builder's one call (the guide's Derived/Test/ToyasCard.lean, 'card_holds'). Laid BY PROGRAM, IN A SANDBOX (cutbox-door.mjs). By AI agents, Wed Nov 11 2026. No macro, syntax, notation, axiom, sorry.
-/
import Derived.Test.YthgcadikinfdiaaDoorRows
import GoSem.ClaimSeven
namespace Go.Proofs.YthgcadikinfdiaaDoor
namespace Rows

/-- THE TIED CARD OF 'ravelinlaw25.TraceLow'. -/
def traceLowCard : Claim7 := { stood := { row := traceLowRow, standIns := [], harness := (true, "4c79ccaefba9670725a376cf402bb711f79abfde43ed90c6fae88acc1ff73465"), looks := false }, kinds := [], alts := [], laidByText := true, laidKinds := [.data, .data, .data], laidTests := true, laidLooks := .later }
def TraceLowCardSaid : Prop := Claim7.holds Tryd.pinned (.plain (OpenSpec.ofChange traceLowSpec)) traceLowCard

/-- THE TIED CARD OF 'ravelinlaw25.TraceBegins'. -/
def traceBeginsCard : Claim7 := { stood := { row := traceBeginsRow, standIns := [], harness := (true, "4c79ccaefba9670725a376cf402bb711f79abfde43ed90c6fae88acc1ff73465"), looks := false }, kinds := [], alts := [], laidByText := true, laidKinds := [.data, .data, .data], laidTests := true, laidLooks := .later }
def TraceBeginsCardSaid : Prop := Claim7.holds Tryd.pinned (.plain (OpenSpec.ofChange traceBeginsSpec)) traceBeginsCard

/-- THE TIED CARD OF 'ravelinlaw25.TraceShows'. -/
def traceShowsCard : Claim7 := { stood := { row := traceShowsRow, standIns := [], harness := (true, "4c79ccaefba9670725a376cf402bb711f79abfde43ed90c6fae88acc1ff73465"), looks := false }, kinds := [], alts := [], laidByText := true, laidKinds := [.data, .data, .data], laidTests := true, laidLooks := .later }
def TraceShowsCardSaid : Prop := Claim7.holds Tryd.pinned (.plain (OpenSpec.ofChange traceShowsSpec)) traceShowsCard

/-- THE TIED CARD OF 'ravelinlaw25.TracePrefix'. -/
def tracePrefixCard : Claim7 := { stood := { row := tracePrefixRow, standIns := [], harness := (true, "4c79ccaefba9670725a376cf402bb711f79abfde43ed90c6fae88acc1ff73465"), looks := false }, kinds := [], alts := [], laidByText := true, laidKinds := [.data, .data, .data], laidTests := true, laidLooks := .later }
def TracePrefixCardSaid : Prop := Claim7.holds Tryd.pinned (.plain (OpenSpec.ofChange tracePrefixSpec)) tracePrefixCard

/-- THE TIED CARD OF 'ravelinlaw25.TraceAlike'. -/
def traceAlikeCard : Claim7 := { stood := { row := traceAlikeRow, standIns := [], harness := (true, "4c79ccaefba9670725a376cf402bb711f79abfde43ed90c6fae88acc1ff73465"), looks := false }, kinds := [], alts := [], laidByText := true, laidKinds := [.data, .data, .data], laidTests := true, laidLooks := .later }
def TraceAlikeCardSaid : Prop := Claim7.holds Tryd.pinned (.plain (OpenSpec.ofChange traceAlikeSpec)) traceAlikeCard

/-- THE SECOND FORM's CARD OF 'ravelinlaw25.TraceLow'. -/
def traceLowUptoCard : Claim7 := { stood := { row := traceLowUptoRow, standIns := [], harness := (true, "4c79ccaefba9670725a376cf402bb711f79abfde43ed90c6fae88acc1ff73465"), looks := false }, kinds := [], alts := [], laidByText := true, laidKinds := [.data, .data, .data], laidTests := true, laidLooks := .later }
def TraceLowUptoCardSaid : Prop := Claim7.holds Tryd.pinned (.plain (OpenSpec.upto traceLowSpec)) traceLowUptoCard

/-- THE SECOND FORM's CARD OF 'ravelinlaw25.TraceBegins'. -/
def traceBeginsUptoCard : Claim7 := { stood := { row := traceBeginsUptoRow, standIns := [], harness := (true, "4c79ccaefba9670725a376cf402bb711f79abfde43ed90c6fae88acc1ff73465"), looks := false }, kinds := [], alts := [], laidByText := true, laidKinds := [.data, .data, .data], laidTests := true, laidLooks := .later }
def TraceBeginsUptoCardSaid : Prop := Claim7.holds Tryd.pinned (.plain (OpenSpec.upto traceBeginsSpec)) traceBeginsUptoCard

/-- THE SECOND FORM's CARD OF 'ravelinlaw25.TraceShows'. -/
def traceShowsUptoCard : Claim7 := { stood := { row := traceShowsUptoRow, standIns := [], harness := (true, "4c79ccaefba9670725a376cf402bb711f79abfde43ed90c6fae88acc1ff73465"), looks := false }, kinds := [], alts := [], laidByText := true, laidKinds := [.data, .data, .data], laidTests := true, laidLooks := .later }
def TraceShowsUptoCardSaid : Prop := Claim7.holds Tryd.pinned (.plain (OpenSpec.upto traceShowsSpec)) traceShowsUptoCard

/-- THE SECOND FORM's CARD OF 'ravelinlaw25.TracePrefix'. -/
def tracePrefixUptoCard : Claim7 := { stood := { row := tracePrefixUptoRow, standIns := [], harness := (true, "4c79ccaefba9670725a376cf402bb711f79abfde43ed90c6fae88acc1ff73465"), looks := false }, kinds := [], alts := [], laidByText := true, laidKinds := [.data, .data, .data], laidTests := true, laidLooks := .later }
def TracePrefixUptoCardSaid : Prop := Claim7.holds Tryd.pinned (.plain (OpenSpec.upto tracePrefixSpec)) tracePrefixUptoCard

/-- THE SECOND FORM's CARD OF 'ravelinlaw25.TraceAlike'. -/
def traceAlikeUptoCard : Claim7 := { stood := { row := traceAlikeUptoRow, standIns := [], harness := (true, "4c79ccaefba9670725a376cf402bb711f79abfde43ed90c6fae88acc1ff73465"), looks := false }, kinds := [], alts := [], laidByText := true, laidKinds := [.data, .data, .data], laidTests := true, laidLooks := .later }
def TraceAlikeUptoCardSaid : Prop := Claim7.holds Tryd.pinned (.plain (OpenSpec.upto traceAlikeSpec)) traceAlikeUptoCard
end Rows
end Go.Proofs.YthgcadikinfdiaaDoor
