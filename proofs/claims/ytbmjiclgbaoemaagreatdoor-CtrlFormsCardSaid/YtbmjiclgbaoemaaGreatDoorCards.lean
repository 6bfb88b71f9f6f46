/-
  DERIVED. GIVEN WITH THE SEED: THE CARDS: each row of YtbmjiclgbaoemaaGreatDoorRows.lean that lists a variable, with what it lists TIED to the program's text (the seventh form; the later family's looks); each row that meets fmt, with fmt's text TOLD by the authors' own Lean function (tested against real Go, not proved from fmt's source: count such statements apart). THE CARD IS WHAT COUNTS. Prove the row's statement (the work); the ties are given (YtbmjiclgbaoemaaGreatDoorTie.lean); close each card by the builder's one call (the guide's Derived/Test/ToyasCard.lean, 'card_holds'). Laid BY PROGRAM, IN A SANDBOX (cutbox-door.mjs). By AI agents, Wed Nov 11 2026. No macro, syntax, notation, axiom, sorry.
-/
import Derived.Test.YtbmjiclgbaoemaaGreatDoorRows
import GoSem.ClaimSeven
namespace Go.Proofs.YtbmjiclgbaoemaaGreatDoor
namespace Rows

/-- THE TIED CARD OF 'annunciatorlaw25.CtrlForms'. -/
def ctrlFormsCard : Claim7 := { stood := { row := ctrlFormsRow, standIns := [], harness := (true, "e9524794445acde61662617efe2af73cf6acd567998524afa771941c5d27ce08"), looks := true }, kinds := [], alts := [], laidByText := true, laidKinds := [.data, .data, .data], laidTests := true, laidLooks := .later }
def CtrlFormsCardSaid : Prop := Claim7.holds Tryz.pinned (.plain (OpenSpec.ofChange ctrlFormsSpec)) ctrlFormsCard

/-- THE SECOND FORM's CARD OF 'annunciatorlaw25.CtrlForms'. -/
def ctrlFormsUptoCard : Claim7 := { stood := { row := ctrlFormsUptoRow, standIns := [], harness := (true, "e9524794445acde61662617efe2af73cf6acd567998524afa771941c5d27ce08"), looks := true }, kinds := [], alts := [], laidByText := true, laidKinds := [.data, .data, .data], laidTests := true, laidLooks := .later }
def CtrlFormsUptoCardSaid : Prop := Claim7.holds Tryz.pinned (.plain (OpenSpec.upto ctrlFormsSpec)) ctrlFormsUptoCard
end Rows
end Go.Proofs.YtbmjiclgbaoemaaGreatDoor
