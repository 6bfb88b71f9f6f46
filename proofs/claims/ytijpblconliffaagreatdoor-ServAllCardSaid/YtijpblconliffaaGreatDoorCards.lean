/-
  DERIVED. GIVEN WITH THE SEED: THE CARDS: each row of YtijpblconliffaaGreatDoorRows.lean that lists a variable, with what it lists TIED to the program's text (the seventh form; the later family's looks); each row that meets fmt, with fmt's text TOLD by the authors' own Lean function (tested against real Go, not proved from fmt's source: count such statements apart). THE CARD IS WHAT COUNTS. Prove the row's statement (the work); the ties are given (YtijpblconliffaaGreatDoorTie.lean); close each card by the builder's one call (the guide's Derived/Test/ToyasCard.lean, 'card_holds'). Laid BY PROGRAM, IN A SANDBOX (cutbox-door.mjs). By AI agents, Wed Nov 11 2026. No macro, syntax, notation, axiom, sorry.
-/
import Derived.Test.YtijpblconliffaaGreatDoorRows
import GoSem.ClaimSeven
namespace Go.Proofs.YtijpblconliffaaGreatDoor
namespace Rows

/-- THE TIED CARD OF 'annunciatorlaw24.ServAll'. -/
def servAllCard : Claim7 := { stood := { row := servAllRow, standIns := [], harness := (true, "592ef1f5f33f2ac23af8ac356864ea0faf1316d804bda8557027360d8b21e44d"), looks := true }, kinds := [], alts := [], laidByText := true, laidKinds := [.data, .data, .data], laidTests := true, laidLooks := .later }
def ServAllCardSaid : Prop := Claim7.holds Tryz.pinned (.plain (OpenSpec.ofChange servAllSpec)) servAllCard

/-- THE TIED CARD OF 'annunciatorlaw24.ServApart'. -/
def servApartCard : Claim7 := { stood := { row := servApartRow, standIns := [], harness := (true, "592ef1f5f33f2ac23af8ac356864ea0faf1316d804bda8557027360d8b21e44d"), looks := true }, kinds := [], alts := [], laidByText := true, laidKinds := [.data, .data, .data], laidTests := true, laidLooks := .later }
def ServApartCardSaid : Prop := Claim7.holds Tryz.pinned (.plain (OpenSpec.ofChange servApartSpec)) servApartCard

/-- THE TIED CARD OF 'annunciatorlaw24.ServOrder'. -/
def servOrderCard : Claim7 := { stood := { row := servOrderRow, standIns := [], harness := (true, "592ef1f5f33f2ac23af8ac356864ea0faf1316d804bda8557027360d8b21e44d"), looks := true }, kinds := [], alts := [], laidByText := true, laidKinds := [.data, .data, .data], laidTests := true, laidLooks := .later }
def ServOrderCardSaid : Prop := Claim7.holds Tryz.pinned (.plain (OpenSpec.ofChange servOrderSpec)) servOrderCard

/-- THE SECOND FORM's CARD OF 'annunciatorlaw24.ServAll'. -/
def servAllUptoCard : Claim7 := { stood := { row := servAllUptoRow, standIns := [], harness := (true, "592ef1f5f33f2ac23af8ac356864ea0faf1316d804bda8557027360d8b21e44d"), looks := true }, kinds := [], alts := [], laidByText := true, laidKinds := [.data, .data, .data], laidTests := true, laidLooks := .later }
def ServAllUptoCardSaid : Prop := Claim7.holds Tryz.pinned (.plain (OpenSpec.upto servAllSpec)) servAllUptoCard

/-- THE SECOND FORM's CARD OF 'annunciatorlaw24.ServApart'. -/
def servApartUptoCard : Claim7 := { stood := { row := servApartUptoRow, standIns := [], harness := (true, "592ef1f5f33f2ac23af8ac356864ea0faf1316d804bda8557027360d8b21e44d"), looks := true }, kinds := [], alts := [], laidByText := true, laidKinds := [.data, .data, .data], laidTests := true, laidLooks := .later }
def ServApartUptoCardSaid : Prop := Claim7.holds Tryz.pinned (.plain (OpenSpec.upto servApartSpec)) servApartUptoCard

/-- THE SECOND FORM's CARD OF 'annunciatorlaw24.ServOrder'. -/
def servOrderUptoCard : Claim7 := { stood := { row := servOrderUptoRow, standIns := [], harness := (true, "592ef1f5f33f2ac23af8ac356864ea0faf1316d804bda8557027360d8b21e44d"), looks := true }, kinds := [], alts := [], laidByText := true, laidKinds := [.data, .data, .data], laidTests := true, laidLooks := .later }
def ServOrderUptoCardSaid : Prop := Claim7.holds Tryz.pinned (.plain (OpenSpec.upto servOrderSpec)) servOrderUptoCard
end Rows
end Go.Proofs.YtijpblconliffaaGreatDoor
