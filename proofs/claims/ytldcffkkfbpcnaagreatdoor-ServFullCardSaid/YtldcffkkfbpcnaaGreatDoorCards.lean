/-
  DERIVED. GIVEN WITH THE SEED: THE CARDS: each row of YtldcffkkfbpcnaaGreatDoorRows.lean that lists a variable, with what it lists TIED to the program's text (the seventh form; the later family's looks); each row that meets fmt, with fmt's text TOLD by the authors' own Lean function (tested against real Go, not proved from fmt's source: count such statements apart). THE CARD IS WHAT COUNTS. Prove the row's statement (the work); the ties are given (YtldcffkkfbpcnaaGreatDoorTie.lean); close each card by the builder's one call (the guide's Derived/Test/ToyasCard.lean, 'card_holds'). Laid BY PROGRAM, IN A SANDBOX (cutbox-door.mjs). By AI agents, Wed Nov 11 2026. No macro, syntax, notation, axiom, sorry.
-/
import Derived.Test.YtldcffkkfbpcnaaGreatDoorRows
import GoSem.ClaimSeven
namespace Go.Proofs.YtldcffkkfbpcnaaGreatDoor
namespace Rows

/-- THE TIED CARD OF 'annunciatorlaw24.ServAll'. -/
def servAllCard : Claim7 := { stood := { row := servAllRow, standIns := [], harness := (true, "900b0d55aad7ee8332a5701d6765a727e6a34411e6ad13d863028f4053a54d3b"), looks := true }, kinds := [], alts := [], laidByText := true, laidKinds := [.data, .data, .data], laidTests := true, laidLooks := .later }
def ServAllCardSaid : Prop := Claim7.holds Tryz.pinned (.plain (OpenSpec.ofChange servAllSpec)) servAllCard

/-- THE TIED CARD OF 'annunciatorlaw24.ServForms'. -/
def servFormsCard : Claim7 := { stood := { row := servFormsRow, standIns := [], harness := (true, "900b0d55aad7ee8332a5701d6765a727e6a34411e6ad13d863028f4053a54d3b"), looks := true }, kinds := [], alts := [], laidByText := true, laidKinds := [.data, .data, .data], laidTests := true, laidLooks := .later }
def ServFormsCardSaid : Prop := Claim7.holds Tryz.pinned (.plain (OpenSpec.ofChange servFormsSpec)) servFormsCard

/-- THE TIED CARD OF 'annunciatorlaw24.ServFull'. -/
def servFullCard : Claim7 := { stood := { row := servFullRow, standIns := [], harness := (true, "900b0d55aad7ee8332a5701d6765a727e6a34411e6ad13d863028f4053a54d3b"), looks := true }, kinds := [], alts := [], laidByText := true, laidKinds := [.data, .data, .data], laidTests := true, laidLooks := .later }
def ServFullCardSaid : Prop := Claim7.holds Tryz.pinned (.plain (OpenSpec.ofChange servFullSpec)) servFullCard

/-- THE TIED CARD OF 'annunciatorlaw24.ServApart'. -/
def servApartCard : Claim7 := { stood := { row := servApartRow, standIns := [], harness := (true, "900b0d55aad7ee8332a5701d6765a727e6a34411e6ad13d863028f4053a54d3b"), looks := true }, kinds := [], alts := [], laidByText := true, laidKinds := [.data, .data, .data], laidTests := true, laidLooks := .later }
def ServApartCardSaid : Prop := Claim7.holds Tryz.pinned (.plain (OpenSpec.ofChange servApartSpec)) servApartCard

/-- THE TIED CARD OF 'annunciatorlaw24.ServOrder'. -/
def servOrderCard : Claim7 := { stood := { row := servOrderRow, standIns := [], harness := (true, "900b0d55aad7ee8332a5701d6765a727e6a34411e6ad13d863028f4053a54d3b"), looks := true }, kinds := [], alts := [], laidByText := true, laidKinds := [.data, .data, .data], laidTests := true, laidLooks := .later }
def ServOrderCardSaid : Prop := Claim7.holds Tryz.pinned (.plain (OpenSpec.ofChange servOrderSpec)) servOrderCard

/-- THE SECOND FORM's CARD OF 'annunciatorlaw24.ServAll'. -/
def servAllUptoCard : Claim7 := { stood := { row := servAllUptoRow, standIns := [], harness := (true, "900b0d55aad7ee8332a5701d6765a727e6a34411e6ad13d863028f4053a54d3b"), looks := true }, kinds := [], alts := [], laidByText := true, laidKinds := [.data, .data, .data], laidTests := true, laidLooks := .later }
def ServAllUptoCardSaid : Prop := Claim7.holds Tryz.pinned (.plain (OpenSpec.upto servAllSpec)) servAllUptoCard

/-- THE SECOND FORM's CARD OF 'annunciatorlaw24.ServForms'. -/
def servFormsUptoCard : Claim7 := { stood := { row := servFormsUptoRow, standIns := [], harness := (true, "900b0d55aad7ee8332a5701d6765a727e6a34411e6ad13d863028f4053a54d3b"), looks := true }, kinds := [], alts := [], laidByText := true, laidKinds := [.data, .data, .data], laidTests := true, laidLooks := .later }
def ServFormsUptoCardSaid : Prop := Claim7.holds Tryz.pinned (.plain (OpenSpec.upto servFormsSpec)) servFormsUptoCard

/-- THE SECOND FORM's CARD OF 'annunciatorlaw24.ServFull'. -/
def servFullUptoCard : Claim7 := { stood := { row := servFullUptoRow, standIns := [], harness := (true, "900b0d55aad7ee8332a5701d6765a727e6a34411e6ad13d863028f4053a54d3b"), looks := true }, kinds := [], alts := [], laidByText := true, laidKinds := [.data, .data, .data], laidTests := true, laidLooks := .later }
def ServFullUptoCardSaid : Prop := Claim7.holds Tryz.pinned (.plain (OpenSpec.upto servFullSpec)) servFullUptoCard

/-- THE SECOND FORM's CARD OF 'annunciatorlaw24.ServApart'. -/
def servApartUptoCard : Claim7 := { stood := { row := servApartUptoRow, standIns := [], harness := (true, "900b0d55aad7ee8332a5701d6765a727e6a34411e6ad13d863028f4053a54d3b"), looks := true }, kinds := [], alts := [], laidByText := true, laidKinds := [.data, .data, .data], laidTests := true, laidLooks := .later }
def ServApartUptoCardSaid : Prop := Claim7.holds Tryz.pinned (.plain (OpenSpec.upto servApartSpec)) servApartUptoCard

/-- THE SECOND FORM's CARD OF 'annunciatorlaw24.ServOrder'. -/
def servOrderUptoCard : Claim7 := { stood := { row := servOrderUptoRow, standIns := [], harness := (true, "900b0d55aad7ee8332a5701d6765a727e6a34411e6ad13d863028f4053a54d3b"), looks := true }, kinds := [], alts := [], laidByText := true, laidKinds := [.data, .data, .data], laidTests := true, laidLooks := .later }
def ServOrderUptoCardSaid : Prop := Claim7.holds Tryz.pinned (.plain (OpenSpec.upto servOrderSpec)) servOrderUptoCard
end Rows
end Go.Proofs.YtldcffkkfbpcnaaGreatDoor
