/-
  DERIVED. GIVEN WITH THE SEED: THE CARDS: each row of YtohllalninoomaaGreatDoorRows.lean that lists a variable, with what it lists TIED to the program's text (the seventh form; the later family's looks); each row that meets fmt, with fmt's text TOLD by the authors' own Lean function (tested against real Go, not proved from fmt's source: count such statements apart). THE CARD IS WHAT COUNTS. Prove the row's statement (the work); the ties are given (YtohllalninoomaaGreatDoorTie.lean); close each card by the builder's one call (the guide's Derived/Test/ToyasCard.lean, 'card_holds'). Laid BY PROGRAM, IN A SANDBOX (cutbox-door.mjs). By AI agents, Wed Nov 11 2026. No macro, syntax, notation, axiom, sorry.
-/
import Derived.Test.YtohllalninoomaaGreatDoorRows
import GoSem.ClaimSeven
namespace Go.Proofs.YtohllalninoomaaGreatDoor
namespace Rows

/-- THE TIED CARD OF 'ravelinlaw21.HeapRoom'. -/
def heapRoomCard : Claim7 := { stood := { row := heapRoomRow, standIns := [], harness := (true, "7c5ebc6ed04b6f0feacbf57252430ec119a22d00b5ef54363f71f31dac4cfbfa"), looks := true }, kinds := [], alts := [], laidByText := true, laidKinds := [.listed, .data], laidTests := true, laidLooks := .later }
def HeapRoomCardSaid : Prop := Claim7.holds Tryz.pinned (.plain (OpenSpec.ofChange heapRoomSpec)) heapRoomCard

/-- THE TIED CARD OF 'ravelinlaw21.HeapApart'. -/
def heapApartCard : Claim7 := { stood := { row := heapApartRow, standIns := [], harness := (true, "7c5ebc6ed04b6f0feacbf57252430ec119a22d00b5ef54363f71f31dac4cfbfa"), looks := true }, kinds := [], alts := [], laidByText := true, laidKinds := [.data, .data, .data, .listed, .data], laidTests := true, laidLooks := .later }
def HeapApartCardSaid : Prop := Claim7.holds Tryz.pinned (.plain (OpenSpec.ofChange heapApartSpec)) heapApartCard

/-- THE SECOND FORM's CARD OF 'ravelinlaw21.HeapRoom'. -/
def heapRoomUptoCard : Claim7 := { stood := { row := heapRoomUptoRow, standIns := [], harness := (true, "7c5ebc6ed04b6f0feacbf57252430ec119a22d00b5ef54363f71f31dac4cfbfa"), looks := true }, kinds := [], alts := [], laidByText := true, laidKinds := [.listed, .data], laidTests := true, laidLooks := .later }
def HeapRoomUptoCardSaid : Prop := Claim7.holds Tryz.pinned (.plain (OpenSpec.upto heapRoomSpec)) heapRoomUptoCard

/-- THE SECOND FORM's CARD OF 'ravelinlaw21.HeapApart'. -/
def heapApartUptoCard : Claim7 := { stood := { row := heapApartUptoRow, standIns := [], harness := (true, "7c5ebc6ed04b6f0feacbf57252430ec119a22d00b5ef54363f71f31dac4cfbfa"), looks := true }, kinds := [], alts := [], laidByText := true, laidKinds := [.data, .data, .data, .listed, .data], laidTests := true, laidLooks := .later }
def HeapApartUptoCardSaid : Prop := Claim7.holds Tryz.pinned (.plain (OpenSpec.upto heapApartSpec)) heapApartUptoCard
end Rows
end Go.Proofs.YtohllalninoomaaGreatDoor
