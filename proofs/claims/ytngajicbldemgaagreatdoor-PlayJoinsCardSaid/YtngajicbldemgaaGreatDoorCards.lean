/-
  DERIVED. GIVEN WITH THE SEED: THE CARDS: each row of YtngajicbldemgaaGreatDoorRows.lean that lists a variable, with what it lists TIED to the program's text (the seventh form; the later family's looks); each row that meets fmt, with fmt's text TOLD by the authors' own Lean function (tested against real Go, not proved from fmt's source: count such statements apart). THE CARD IS WHAT COUNTS. Prove the row's statement (the work); the ties are given (YtngajicbldemgaaGreatDoorTie.lean); close each card by the builder's one call (the guide's Derived/Test/ToyasCard.lean, 'card_holds'). Laid BY PROGRAM, IN A SANDBOX (cutbox-door.mjs). By AI agents, Wed Nov 11 2026. No macro, syntax, notation, axiom, sorry.
-/
import Derived.Test.YtngajicbldemgaaGreatDoorRows
import GoSem.ClaimSeven
namespace Go.Proofs.YtngajicbldemgaaGreatDoor
namespace Rows

/-- THE TIED CARD OF 'annunciatorlaw27.PlayOne'. -/
def playOneCard : Claim7 := { stood := { row := playOneRow, standIns := [], harness := (true, "7b6b0b17a97ebb1f93956779647cabc77007e44f0867a4c7207af49b96b148a1"), looks := true }, kinds := [], alts := [], laidByText := true, laidKinds := [.data, .data, .data], laidTests := true, laidLooks := .later }
def PlayOneCardSaid : Prop := Claim7.holds Tryz.pinned (.plain (OpenSpec.ofChange playOneSpec)) playOneCard

/-- THE TIED CARD OF 'annunciatorlaw27.PlayBack'. -/
def playBackCard : Claim7 := { stood := { row := playBackRow, standIns := [], harness := (true, "7b6b0b17a97ebb1f93956779647cabc77007e44f0867a4c7207af49b96b148a1"), looks := true }, kinds := [], alts := [], laidByText := true, laidKinds := [.data, .data, .data], laidTests := true, laidLooks := .later }
def PlayBackCardSaid : Prop := Claim7.holds Tryz.pinned (.plain (OpenSpec.ofChange playBackSpec)) playBackCard

/-- THE TIED CARD OF 'annunciatorlaw27.PlayJoins'. -/
def playJoinsCard : Claim7 := { stood := { row := playJoinsRow, standIns := [], harness := (true, "7b6b0b17a97ebb1f93956779647cabc77007e44f0867a4c7207af49b96b148a1"), looks := true }, kinds := [], alts := [], laidByText := true, laidKinds := [.data, .data, .data], laidTests := true, laidLooks := .later }
def PlayJoinsCardSaid : Prop := Claim7.holds Tryz.pinned (.plain (OpenSpec.ofChange playJoinsSpec)) playJoinsCard

/-- THE SECOND FORM's CARD OF 'annunciatorlaw27.PlayOne'. -/
def playOneUptoCard : Claim7 := { stood := { row := playOneUptoRow, standIns := [], harness := (true, "7b6b0b17a97ebb1f93956779647cabc77007e44f0867a4c7207af49b96b148a1"), looks := true }, kinds := [], alts := [], laidByText := true, laidKinds := [.data, .data, .data], laidTests := true, laidLooks := .later }
def PlayOneUptoCardSaid : Prop := Claim7.holds Tryz.pinned (.plain (OpenSpec.upto playOneSpec)) playOneUptoCard

/-- THE SECOND FORM's CARD OF 'annunciatorlaw27.PlayBack'. -/
def playBackUptoCard : Claim7 := { stood := { row := playBackUptoRow, standIns := [], harness := (true, "7b6b0b17a97ebb1f93956779647cabc77007e44f0867a4c7207af49b96b148a1"), looks := true }, kinds := [], alts := [], laidByText := true, laidKinds := [.data, .data, .data], laidTests := true, laidLooks := .later }
def PlayBackUptoCardSaid : Prop := Claim7.holds Tryz.pinned (.plain (OpenSpec.upto playBackSpec)) playBackUptoCard

/-- THE SECOND FORM's CARD OF 'annunciatorlaw27.PlayJoins'. -/
def playJoinsUptoCard : Claim7 := { stood := { row := playJoinsUptoRow, standIns := [], harness := (true, "7b6b0b17a97ebb1f93956779647cabc77007e44f0867a4c7207af49b96b148a1"), looks := true }, kinds := [], alts := [], laidByText := true, laidKinds := [.data, .data, .data], laidTests := true, laidLooks := .later }
def PlayJoinsUptoCardSaid : Prop := Claim7.holds Tryz.pinned (.plain (OpenSpec.upto playJoinsSpec)) playJoinsUptoCard
end Rows
end Go.Proofs.YtngajicbldemgaaGreatDoor
