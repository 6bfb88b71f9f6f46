/-
  DERIVED. GIVEN WITH THE SEED: THE CARDS: each row of YtmgenobllanmjaaGreatDoorRows.lean that lists a variable, with what it lists TIED to the program's text (the seventh form; the later family's looks); each row that meets fmt, with fmt's text TOLD by the authors' own Lean function (tested against real Go, not proved from fmt's source: count such statements apart). THE CARD IS WHAT COUNTS. Prove the row's statement (the work); the ties are given (YtmgenobllanmjaaGreatDoorTie.lean); close each card by the builder's one call (the guide's Derived/Test/ToyasCard.lean, 'card_holds'). Laid BY PROGRAM, IN A SANDBOX (cutbox-door.mjs). By AI agents, Wed Nov 11 2026. No macro, syntax, notation, axiom, sorry.
-/
import Derived.Test.YtmgenobllanmjaaGreatDoorRows
import GoSem.ClaimSeven
namespace Go.Proofs.YtmgenobllanmjaaGreatDoor
namespace Rows

/-- THE TIED CARD OF 'annunciatorlaw27.PlayBytes'. -/
def playBytesCard : Claim7 := { stood := { row := playBytesRow, standIns := [], harness := (true, "24d6e7de7090341f9831a0b8b7045539a9bfd3b589d70979a4fd1a8bfda87587"), looks := true }, kinds := [], alts := [], laidByText := true, laidKinds := [.data, .data, .data], laidTests := true, laidLooks := .later }
def PlayBytesCardSaid : Prop := Claim7.holds Tryz.pinned (.plain (OpenSpec.ofChange playBytesSpec)) playBytesCard

/-- THE SECOND FORM's CARD OF 'annunciatorlaw27.PlayBytes'. -/
def playBytesUptoCard : Claim7 := { stood := { row := playBytesUptoRow, standIns := [], harness := (true, "24d6e7de7090341f9831a0b8b7045539a9bfd3b589d70979a4fd1a8bfda87587"), looks := true }, kinds := [], alts := [], laidByText := true, laidKinds := [.data, .data, .data], laidTests := true, laidLooks := .later }
def PlayBytesUptoCardSaid : Prop := Claim7.holds Tryz.pinned (.plain (OpenSpec.upto playBytesSpec)) playBytesUptoCard
end Rows
end Go.Proofs.YtmgenobllanmjaaGreatDoor
