/-
  DERIVED. GIVEN WITH THE SEED: THE CARDS: each row of YtioggeenbbhdjaaGreatDoorRows.lean that lists a variable, with what it lists TIED to the program's text (the seventh form; the later family's looks); each row that meets fmt, with fmt's text TOLD by the authors' own Lean function (tested against real Go, not proved from fmt's source: count such statements apart). THE CARD IS WHAT COUNTS. Prove the row's statement (the work); the ties are given (YtioggeenbbhdjaaGreatDoorTie.lean); close each card by the builder's one call (the guide's Derived/Test/ToyasCard.lean, 'card_holds'). Laid BY PROGRAM, IN A SANDBOX (cutbox-door.mjs). By AI agents, Wed Nov 11 2026. No macro, syntax, notation, axiom, sorry.
-/
import Derived.Test.YtioggeenbbhdjaaGreatDoorRows
import GoSem.ClaimSeven
namespace Go.Proofs.YtioggeenbbhdjaaGreatDoor
namespace Rows

/-- THE TIED CARD OF 'annunciatorlaw27.PlayForms'. -/
def playFormsCard : Claim7 := { stood := { row := playFormsRow, standIns := [], harness := (true, "1ed053b4005deeea7a4d7c5a196c2de5702ffc87dd782cee8af18eaaaab1a850"), looks := true }, kinds := [], alts := [], laidByText := true, laidKinds := [.data, .data, .data], laidTests := true, laidLooks := .later }
def PlayFormsCardSaid : Prop := Claim7.holds Tryz.pinned (.plain (OpenSpec.ofChange playFormsSpec)) playFormsCard

/-- THE SECOND FORM's CARD OF 'annunciatorlaw27.PlayForms'. -/
def playFormsUptoCard : Claim7 := { stood := { row := playFormsUptoRow, standIns := [], harness := (true, "1ed053b4005deeea7a4d7c5a196c2de5702ffc87dd782cee8af18eaaaab1a850"), looks := true }, kinds := [], alts := [], laidByText := true, laidKinds := [.data, .data, .data], laidTests := true, laidLooks := .later }
def PlayFormsUptoCardSaid : Prop := Claim7.holds Tryz.pinned (.plain (OpenSpec.upto playFormsSpec)) playFormsUptoCard
end Rows
end Go.Proofs.YtioggeenbbhdjaaGreatDoor
