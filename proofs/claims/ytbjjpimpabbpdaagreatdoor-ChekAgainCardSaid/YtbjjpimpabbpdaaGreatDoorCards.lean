/-
  DERIVED. GIVEN WITH THE SEED: THE CARDS: each row of YtbjjpimpabbpdaaGreatDoorRows.lean that lists a variable, with what it lists TIED to the program's text (the seventh form; the later family's looks); each row that meets fmt, with fmt's text TOLD by the authors' own Lean function (tested against real Go, not proved from fmt's source: count such statements apart). THE CARD IS WHAT COUNTS. Prove the row's statement (the work); the ties are given (YtbjjpimpabbpdaaGreatDoorTie.lean); close each card by the builder's one call (the guide's Derived/Test/ToyasCard.lean, 'card_holds'). Laid BY PROGRAM, IN A SANDBOX (cutbox-door.mjs). By AI agents, Wed Nov 11 2026. No macro, syntax, notation, axiom, sorry.
-/
import Derived.Test.YtbjjpimpabbpdaaGreatDoorRows
import GoSem.ClaimSeven
namespace Go.Proofs.YtbjjpimpabbpdaaGreatDoor
namespace Rows

/-- THE TIED CARD OF 'annunciatorlaw7.ChekAgain'. -/
def chekAgainCard : Claim7 := { stood := { row := chekAgainRow, standIns := [], harness := (true, "ca80607eb36c223b4cce3b080f8b84d9d4798f202f5974d47e7dd279bbbc6f52"), looks := true }, kinds := [], alts := [], laidByText := true, laidKinds := [.data, .data, .data], laidTests := true, laidLooks := .later }
def ChekAgainCardSaid : Prop := Claim7.holds Tryz.pinned (.plain (OpenSpec.ofChange chekAgainSpec)) chekAgainCard

/-- THE SECOND FORM's CARD OF 'annunciatorlaw7.ChekAgain'. -/
def chekAgainUptoCard : Claim7 := { stood := { row := chekAgainUptoRow, standIns := [], harness := (true, "ca80607eb36c223b4cce3b080f8b84d9d4798f202f5974d47e7dd279bbbc6f52"), looks := true }, kinds := [], alts := [], laidByText := true, laidKinds := [.data, .data, .data], laidTests := true, laidLooks := .later }
def ChekAgainUptoCardSaid : Prop := Claim7.holds Tryz.pinned (.plain (OpenSpec.upto chekAgainSpec)) chekAgainUptoCard
end Rows
end Go.Proofs.YtbjjpimpabbpdaaGreatDoor
