/-
  DERIVED. GIVEN WITH THE SEED: THE CARDS: each row of YtmlofnnfpedpdaaDoorRows.lean that lists a variable, with what it lists TIED to the program's text (the seventh form; the later family's looks); each row that meets fmt, with fmt's text TOLD by the authors' own Lean function (tested against real Go, not proved from fmt's source: count such statements apart). THE CARD IS WHAT COUNTS. Prove the row's statement (the work); the ties are given (YtmlofnnfpedpdaaDoorTie.lean); close each card by the builder's one call (the guide's Derived/Test/ToyasCard.lean, 'card_holds'). Laid BY PROGRAM, IN A SANDBOX (cutbox-door.mjs). By AI agents, Wed Nov 11 2026. No macro, syntax, notation, axiom, sorry.
-/
import Derived.Test.YtmlofnnfpedpdaaDoorRows
import GoSem.ClaimSeven
namespace Go.Proofs.YtmlofnnfpedpdaaDoor
namespace Rows

/-- THE TIED CARD OF 'ravelinlaw02.NumDoes'. -/
def numDoesCard : Claim7 := { stood := { row := numDoesRow, standIns := [], harness := (true, "cb033397a0207b62a694fc297ec4c5d8fb43b446f666a0af2e5efab30f9f36f6"), looks := false }, kinds := [], alts := [], laidByText := true, laidKinds := [.data, .data, .data], laidTests := true, laidLooks := .later }
def NumDoesCardSaid : Prop := Claim7.holds Tryd.pinned (.plain (OpenSpec.ofChange numDoesSpec)) numDoesCard

/-- THE TIED CARD OF 'ravelinlaw02.NumShows'. -/
def numShowsCard : Claim7 := { stood := { row := numShowsRow, standIns := [], harness := (true, "cb033397a0207b62a694fc297ec4c5d8fb43b446f666a0af2e5efab30f9f36f6"), looks := false }, kinds := [], alts := [], laidByText := true, laidKinds := [.data, .data, .data], laidTests := true, laidLooks := .later }
def NumShowsCardSaid : Prop := Claim7.holds Tryd.pinned (.plain (OpenSpec.ofChange numShowsSpec)) numShowsCard

/-- THE TIED CARD OF 'ravelinlaw02.NumReads'. -/
def numReadsCard : Claim7 := { stood := { row := numReadsRow, standIns := [], harness := (true, "cb033397a0207b62a694fc297ec4c5d8fb43b446f666a0af2e5efab30f9f36f6"), looks := false }, kinds := [], alts := [], laidByText := true, laidKinds := [.data, .data, .data], laidTests := true, laidLooks := .later }
def NumReadsCardSaid : Prop := Claim7.holds Tryd.pinned (.plain (OpenSpec.ofChange numReadsSpec)) numReadsCard

/-- THE TIED CARD OF 'ravelinlaw02.NumBack'. -/
def numBackCard : Claim7 := { stood := { row := numBackRow, standIns := [], harness := (true, "cb033397a0207b62a694fc297ec4c5d8fb43b446f666a0af2e5efab30f9f36f6"), looks := false }, kinds := [], alts := [], laidByText := true, laidKinds := [.data, .data, .data], laidTests := true, laidLooks := .later }
def NumBackCardSaid : Prop := Claim7.holds Tryd.pinned (.plain (OpenSpec.ofChange numBackSpec)) numBackCard

/-- THE TIED CARD OF 'ravelinlaw02.NumDivides'. -/
def numDividesCard : Claim7 := { stood := { row := numDividesRow, standIns := [], harness := (true, "cb033397a0207b62a694fc297ec4c5d8fb43b446f666a0af2e5efab30f9f36f6"), looks := false }, kinds := [], alts := [], laidByText := true, laidKinds := [.data, .data, .data], laidTests := true, laidLooks := .later }
def NumDividesCardSaid : Prop := Claim7.holds Tryd.pinned (.plain (OpenSpec.ofChange numDividesSpec)) numDividesCard

/-- THE TIED CARD OF 'ravelinlaw02.NumRing'. -/
def numRingCard : Claim7 := { stood := { row := numRingRow, standIns := [], harness := (true, "cb033397a0207b62a694fc297ec4c5d8fb43b446f666a0af2e5efab30f9f36f6"), looks := false }, kinds := [], alts := [], laidByText := true, laidKinds := [.data, .data, .data], laidTests := true, laidLooks := .later }
def NumRingCardSaid : Prop := Claim7.holds Tryd.pinned (.plain (OpenSpec.ofChange numRingSpec)) numRingCard

/-- THE SECOND FORM's CARD OF 'ravelinlaw02.NumDoes'. -/
def numDoesUptoCard : Claim7 := { stood := { row := numDoesUptoRow, standIns := [], harness := (true, "cb033397a0207b62a694fc297ec4c5d8fb43b446f666a0af2e5efab30f9f36f6"), looks := false }, kinds := [], alts := [], laidByText := true, laidKinds := [.data, .data, .data], laidTests := true, laidLooks := .later }
def NumDoesUptoCardSaid : Prop := Claim7.holds Tryd.pinned (.plain (OpenSpec.upto numDoesSpec)) numDoesUptoCard

/-- THE SECOND FORM's CARD OF 'ravelinlaw02.NumShows'. -/
def numShowsUptoCard : Claim7 := { stood := { row := numShowsUptoRow, standIns := [], harness := (true, "cb033397a0207b62a694fc297ec4c5d8fb43b446f666a0af2e5efab30f9f36f6"), looks := false }, kinds := [], alts := [], laidByText := true, laidKinds := [.data, .data, .data], laidTests := true, laidLooks := .later }
def NumShowsUptoCardSaid : Prop := Claim7.holds Tryd.pinned (.plain (OpenSpec.upto numShowsSpec)) numShowsUptoCard

/-- THE SECOND FORM's CARD OF 'ravelinlaw02.NumReads'. -/
def numReadsUptoCard : Claim7 := { stood := { row := numReadsUptoRow, standIns := [], harness := (true, "cb033397a0207b62a694fc297ec4c5d8fb43b446f666a0af2e5efab30f9f36f6"), looks := false }, kinds := [], alts := [], laidByText := true, laidKinds := [.data, .data, .data], laidTests := true, laidLooks := .later }
def NumReadsUptoCardSaid : Prop := Claim7.holds Tryd.pinned (.plain (OpenSpec.upto numReadsSpec)) numReadsUptoCard

/-- THE SECOND FORM's CARD OF 'ravelinlaw02.NumBack'. -/
def numBackUptoCard : Claim7 := { stood := { row := numBackUptoRow, standIns := [], harness := (true, "cb033397a0207b62a694fc297ec4c5d8fb43b446f666a0af2e5efab30f9f36f6"), looks := false }, kinds := [], alts := [], laidByText := true, laidKinds := [.data, .data, .data], laidTests := true, laidLooks := .later }
def NumBackUptoCardSaid : Prop := Claim7.holds Tryd.pinned (.plain (OpenSpec.upto numBackSpec)) numBackUptoCard

/-- THE SECOND FORM's CARD OF 'ravelinlaw02.NumDivides'. -/
def numDividesUptoCard : Claim7 := { stood := { row := numDividesUptoRow, standIns := [], harness := (true, "cb033397a0207b62a694fc297ec4c5d8fb43b446f666a0af2e5efab30f9f36f6"), looks := false }, kinds := [], alts := [], laidByText := true, laidKinds := [.data, .data, .data], laidTests := true, laidLooks := .later }
def NumDividesUptoCardSaid : Prop := Claim7.holds Tryd.pinned (.plain (OpenSpec.upto numDividesSpec)) numDividesUptoCard

/-- THE SECOND FORM's CARD OF 'ravelinlaw02.NumRing'. -/
def numRingUptoCard : Claim7 := { stood := { row := numRingUptoRow, standIns := [], harness := (true, "cb033397a0207b62a694fc297ec4c5d8fb43b446f666a0af2e5efab30f9f36f6"), looks := false }, kinds := [], alts := [], laidByText := true, laidKinds := [.data, .data, .data], laidTests := true, laidLooks := .later }
def NumRingUptoCardSaid : Prop := Claim7.holds Tryd.pinned (.plain (OpenSpec.upto numRingSpec)) numRingUptoCard
end Rows
end Go.Proofs.YtmlofnnfpedpdaaDoor
