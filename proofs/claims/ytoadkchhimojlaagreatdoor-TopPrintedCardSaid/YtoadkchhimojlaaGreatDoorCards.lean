/-
  DERIVED. GIVEN WITH THE SEED: THE CARDS: each row of YtoadkchhimojlaaGreatDoorRows.lean that lists a variable, with what it lists TIED to the program's text (the seventh form; the later family's looks); each row that meets fmt, with fmt's text TOLD by the authors' own Lean function (tested against real Go, not proved from fmt's source: count such statements apart). THE CARD IS WHAT COUNTS. Prove the row's statement (the work); the ties are given (YtoadkchhimojlaaGreatDoorTie.lean); close each card by the builder's one call (the guide's Derived/Test/ToyasCard.lean, 'card_holds'). Laid BY PROGRAM, IN A SANDBOX (cutbox-door.mjs). By AI agents, Wed Nov 11 2026. No macro, syntax, notation, axiom, sorry.
-/
import Derived.Test.YtoadkchhimojlaaGreatDoorRows
import GoSem.ClaimSeven
namespace Go.Proofs.YtoadkchhimojlaaGreatDoor
namespace Rows

/-- THE TIED CARD OF 'flongtop.TopPrinted'. -/
def topPrintedCard : Claim7 := { stood := { row := topPrintedRow, standIns := [], harness := (true, "251420cfe3cf19745eceb4a2d96de1db73e260db3357133c0ca93d55bbb5ea08"), looks := true }, kinds := [], alts := [], laidByText := true, laidKinds := [.data, .data, .data, .data, .sentinel, .sentinel, .pinned], laidTests := true, laidLooks := .later }
def TopPrintedCardSaid : Prop := Claim7.holds Tryz.pinned (.plain (OpenSpec.ofChange topPrintedSpec)) topPrintedCard

/-- THE SECOND FORM's CARD OF 'flongtop.TopPrinted'. -/
def topPrintedUptoCard : Claim7 := { stood := { row := topPrintedUptoRow, standIns := [], harness := (true, "251420cfe3cf19745eceb4a2d96de1db73e260db3357133c0ca93d55bbb5ea08"), looks := true }, kinds := [], alts := [], laidByText := true, laidKinds := [.data, .data, .data, .data, .sentinel, .sentinel, .pinned], laidTests := true, laidLooks := .later }
def TopPrintedUptoCardSaid : Prop := Claim7.holds Tryz.pinned (.plain (OpenSpec.upto topPrintedSpec)) topPrintedUptoCard
end Rows
end Go.Proofs.YtoadkchhimojlaaGreatDoor
