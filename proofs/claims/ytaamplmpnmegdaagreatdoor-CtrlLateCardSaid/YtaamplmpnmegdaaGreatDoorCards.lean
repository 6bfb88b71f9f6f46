/-
  DERIVED. GIVEN WITH THE SEED: THE CARDS: each row of YtaamplmpnmegdaaGreatDoorRows.lean that lists a variable, with what it lists TIED to the program's text (the seventh form; the later family's looks); each row that meets fmt, with fmt's text TOLD by the authors' own Lean function (tested against real Go, not proved from fmt's source: count such statements apart). THE CARD IS WHAT COUNTS. Prove the row's statement (the work); the ties are given (YtaamplmpnmegdaaGreatDoorTie.lean); close each card by the builder's one call (the guide's Derived/Test/ToyasCard.lean, 'card_holds'). Laid BY PROGRAM, IN A SANDBOX (cutbox-door.mjs). By AI agents, Wed Nov 11 2026. No macro, syntax, notation, axiom, sorry.
-/
import Derived.Test.YtaamplmpnmegdaaGreatDoorRows
import GoSem.ClaimSeven
namespace Go.Proofs.YtaamplmpnmegdaaGreatDoor
namespace Rows

/-- THE TIED CARD OF 'annunciatorlaw25.CtrlInputs'. -/
def ctrlInputsCard : Claim7 := { stood := { row := ctrlInputsRow, standIns := [], harness := (true, "e003780b31ab91724aee73f797fc5205fc7a4c37c98b23315994021311f35a7b"), looks := true }, kinds := [], alts := [], laidByText := true, laidKinds := [.data, .data, .data], laidTests := true, laidLooks := .later }
def CtrlInputsCardSaid : Prop := Claim7.holds Tryz.pinned (.plain (OpenSpec.ofChange ctrlInputsSpec)) ctrlInputsCard

/-- THE TIED CARD OF 'annunciatorlaw25.CtrlLate'. -/
def ctrlLateCard : Claim7 := { stood := { row := ctrlLateRow, standIns := [], harness := (true, "e003780b31ab91724aee73f797fc5205fc7a4c37c98b23315994021311f35a7b"), looks := true }, kinds := [], alts := [], laidByText := true, laidKinds := [.data, .data, .data], laidTests := true, laidLooks := .later }
def CtrlLateCardSaid : Prop := Claim7.holds Tryz.pinned (.plain (OpenSpec.ofChange ctrlLateSpec)) ctrlLateCard

/-- THE SECOND FORM's CARD OF 'annunciatorlaw25.CtrlInputs'. -/
def ctrlInputsUptoCard : Claim7 := { stood := { row := ctrlInputsUptoRow, standIns := [], harness := (true, "e003780b31ab91724aee73f797fc5205fc7a4c37c98b23315994021311f35a7b"), looks := true }, kinds := [], alts := [], laidByText := true, laidKinds := [.data, .data, .data], laidTests := true, laidLooks := .later }
def CtrlInputsUptoCardSaid : Prop := Claim7.holds Tryz.pinned (.plain (OpenSpec.upto ctrlInputsSpec)) ctrlInputsUptoCard

/-- THE SECOND FORM's CARD OF 'annunciatorlaw25.CtrlLate'. -/
def ctrlLateUptoCard : Claim7 := { stood := { row := ctrlLateUptoRow, standIns := [], harness := (true, "e003780b31ab91724aee73f797fc5205fc7a4c37c98b23315994021311f35a7b"), looks := true }, kinds := [], alts := [], laidByText := true, laidKinds := [.data, .data, .data], laidTests := true, laidLooks := .later }
def CtrlLateUptoCardSaid : Prop := Claim7.holds Tryz.pinned (.plain (OpenSpec.upto ctrlLateSpec)) ctrlLateUptoCard
end Rows
end Go.Proofs.YtaamplmpnmegdaaGreatDoor
