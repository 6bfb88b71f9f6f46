/-
  DERIVED. GIVEN WITH THE SEED: THE CARDS: each row of YteegdnoekakdbaaGreatDoorRows.lean that lists a variable, with what it lists TIED to the program's text (the seventh form; the later family's looks); each row that meets fmt, with fmt's text TOLD by the authors' own Lean function (tested against real Go, not proved from fmt's source: count such statements apart). THE CARD IS WHAT COUNTS. Prove the row's statement (the work); the ties are given (YteegdnoekakdbaaGreatDoorTie.lean); close each card by the builder's one call (the guide's Derived/Test/ToyasCard.lean, 'card_holds'). Laid BY PROGRAM, IN A SANDBOX (cutbox-door.mjs). By AI agents, Wed Nov 11 2026. No macro, syntax, notation, axiom, sorry.
-/
import Derived.Test.YteegdnoekakdbaaGreatDoorRows
import GoSem.ClaimSeven
namespace Go.Proofs.YteegdnoekakdbaaGreatDoor
namespace Rows

/-- THE TIED CARD OF 'annunciatortop.TopStill'. -/
def topStillCard : Claim7 := { stood := { row := topStillRow, standIns := [], harness := (true, "504ace9ae161253c6986c5ef8da9bcaeb7714e9978d7bd5221975e1e2c28ef52"), looks := true }, kinds := [], alts := [], laidByText := true, laidKinds := [.data, .data, .data], laidTests := true, laidLooks := .later }
def TopStillCardSaid : Prop := Claim7.holds Tryz.pinned (.plain (OpenSpec.ofChange topStillSpec)) topStillCard

/-- THE SECOND FORM's CARD OF 'annunciatortop.TopStill'. -/
def topStillUptoCard : Claim7 := { stood := { row := topStillUptoRow, standIns := [], harness := (true, "504ace9ae161253c6986c5ef8da9bcaeb7714e9978d7bd5221975e1e2c28ef52"), looks := true }, kinds := [], alts := [], laidByText := true, laidKinds := [.data, .data, .data], laidTests := true, laidLooks := .later }
def TopStillUptoCardSaid : Prop := Claim7.holds Tryz.pinned (.plain (OpenSpec.upto topStillSpec)) topStillUptoCard
end Rows
end Go.Proofs.YteegdnoekakdbaaGreatDoor
