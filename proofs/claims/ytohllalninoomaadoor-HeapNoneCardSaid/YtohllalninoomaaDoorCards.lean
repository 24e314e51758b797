/-
  DERIVED. GIVEN WITH THE SEED: THE CARDS: each row of YtohllalninoomaaDoorRows.lean that lists a variable, with what it lists TIED to the program's text (the seventh form; the later family's looks); each row that meets fmt, with fmt's text TOLD by the authors' own Lean function (tested against real Go, not proved from fmt's source: count such statements apart). THE CARD IS WHAT COUNTS. Prove the row's statement (the work); the ties are given (YtohllalninoomaaDoorTie.lean); close each card by the builder's one call (the guide's Derived/Test/ToyasCard.lean, 'card_holds'). Laid BY PROGRAM, IN A SANDBOX (cutbox-door.mjs). By AI agents, Wed Nov 11 2026. No macro, syntax, notation, axiom, sorry.
-/
import Derived.Test.YtohllalninoomaaDoorRows
import GoSem.ClaimSeven
namespace Go.Proofs.YtohllalninoomaaDoor
namespace Rows

/-- THE TIED CARD OF 'ravelinlaw21.HeapNone'. -/
def heapNoneCard : Claim7 := { stood := { row := heapNoneRow, standIns := [], harness := (true, "e6f09135cd3d412d58e962a04e1eccd27a6048afeedb1c0782c366f334c479b4"), looks := true }, kinds := [], alts := [], laidByText := true, laidKinds := [.listed, .data], laidTests := true, laidLooks := .later }
def HeapNoneCardSaid : Prop := Claim7.holds Tryd.pinned (.plain (OpenSpec.ofChange heapNoneSpec)) heapNoneCard

/-- THE SECOND FORM's CARD OF 'ravelinlaw21.HeapNone'. -/
def heapNoneUptoCard : Claim7 := { stood := { row := heapNoneUptoRow, standIns := [], harness := (true, "e6f09135cd3d412d58e962a04e1eccd27a6048afeedb1c0782c366f334c479b4"), looks := true }, kinds := [], alts := [], laidByText := true, laidKinds := [.listed, .data], laidTests := true, laidLooks := .later }
def HeapNoneUptoCardSaid : Prop := Claim7.holds Tryd.pinned (.plain (OpenSpec.upto heapNoneSpec)) heapNoneUptoCard
end Rows
end Go.Proofs.YtohllalninoomaaDoor
