/-
  DERIVED. GIVEN WITH THE SEED: THE CARDS: each row of YtbceomdmpbmnkaaDoorRows.lean that lists a variable, with what it lists TIED to the program's text (the seventh form; the later family's looks); each row that meets fmt, with fmt's text TOLD by the authors' own Lean function (tested against real Go, not proved from fmt's source: count such statements apart). THE CARD IS WHAT COUNTS. Prove the row's statement (the work); the ties are given (YtbceomdmpbmnkaaDoorTie.lean); close each card by the builder's one call (the guide's Derived/Test/ToyasCard.lean, 'card_holds'). Laid BY PROGRAM, IN A SANDBOX (cutbox-door.mjs). By AI agents, Wed Nov 11 2026. No macro, syntax, notation, axiom, sorry.
-/
import Derived.Test.YtbceomdmpbmnkaaDoorRows
import GoSem.ClaimSeven
namespace Go.Proofs.YtbceomdmpbmnkaaDoor
namespace Rows

/-- THE TIED CARD OF 'annunciatorlaw4.PathAll'. -/
def pathAllCard : Claim7 := { stood := { row := pathAllRow, standIns := [], harness := (true, "243f04d3eb72c8163e4f7dc71e475281eb0d4356833523603e6e9c007e9c4818"), looks := true }, kinds := [], alts := [], laidByText := true, laidKinds := [.data, .data, .data], laidTests := true, laidLooks := .later }
def PathAllCardSaid : Prop := Claim7.holds Tryd.pinned (.plain (OpenSpec.ofChange pathAllSpec)) pathAllCard

/-- THE TIED CARD OF 'annunciatorlaw4.PathOnce'. -/
def pathOnceCard : Claim7 := { stood := { row := pathOnceRow, standIns := [], harness := (true, "243f04d3eb72c8163e4f7dc71e475281eb0d4356833523603e6e9c007e9c4818"), looks := true }, kinds := [], alts := [], laidByText := true, laidKinds := [.data, .data, .data], laidTests := true, laidLooks := .later }
def PathOnceCardSaid : Prop := Claim7.holds Tryd.pinned (.plain (OpenSpec.ofChange pathOnceSpec)) pathOnceCard

/-- THE TIED CARD OF 'annunciatorlaw22.BrowAll'. -/
def browAllCard : Claim7 := { stood := { row := browAllRow, standIns := [], harness := (true, "243f04d3eb72c8163e4f7dc71e475281eb0d4356833523603e6e9c007e9c4818"), looks := true }, kinds := [], alts := [], laidByText := true, laidKinds := [.data, .data, .data], laidTests := true, laidLooks := .later }
def BrowAllCardSaid : Prop := Claim7.holds Tryd.pinned (.plain (OpenSpec.ofChange browAllSpec)) browAllCard

/-- THE TIED CARD OF 'annunciatorlaw22.BrowPages'. -/
def browPagesCard : Claim7 := { stood := { row := browPagesRow, standIns := [], harness := (true, "243f04d3eb72c8163e4f7dc71e475281eb0d4356833523603e6e9c007e9c4818"), looks := true }, kinds := [], alts := [], laidByText := true, laidKinds := [.data, .data, .data], laidTests := true, laidLooks := .later }
def BrowPagesCardSaid : Prop := Claim7.holds Tryd.pinned (.plain (OpenSpec.ofChange browPagesSpec)) browPagesCard

/-- THE TIED CARD OF 'annunciatorlaw22.BrowFrom'. -/
def browFromCard : Claim7 := { stood := { row := browFromRow, standIns := [], harness := (true, "243f04d3eb72c8163e4f7dc71e475281eb0d4356833523603e6e9c007e9c4818"), looks := true }, kinds := [], alts := [], laidByText := true, laidKinds := [.data, .data, .data], laidTests := true, laidLooks := .later }
def BrowFromCardSaid : Prop := Claim7.holds Tryd.pinned (.plain (OpenSpec.ofChange browFromSpec)) browFromCard

/-- THE SECOND FORM's CARD OF 'annunciatorlaw4.PathAll'. -/
def pathAllUptoCard : Claim7 := { stood := { row := pathAllUptoRow, standIns := [], harness := (true, "243f04d3eb72c8163e4f7dc71e475281eb0d4356833523603e6e9c007e9c4818"), looks := true }, kinds := [], alts := [], laidByText := true, laidKinds := [.data, .data, .data], laidTests := true, laidLooks := .later }
def PathAllUptoCardSaid : Prop := Claim7.holds Tryd.pinned (.plain (OpenSpec.upto pathAllSpec)) pathAllUptoCard

/-- THE SECOND FORM's CARD OF 'annunciatorlaw4.PathOnce'. -/
def pathOnceUptoCard : Claim7 := { stood := { row := pathOnceUptoRow, standIns := [], harness := (true, "243f04d3eb72c8163e4f7dc71e475281eb0d4356833523603e6e9c007e9c4818"), looks := true }, kinds := [], alts := [], laidByText := true, laidKinds := [.data, .data, .data], laidTests := true, laidLooks := .later }
def PathOnceUptoCardSaid : Prop := Claim7.holds Tryd.pinned (.plain (OpenSpec.upto pathOnceSpec)) pathOnceUptoCard

/-- THE SECOND FORM's CARD OF 'annunciatorlaw22.BrowAll'. -/
def browAllUptoCard : Claim7 := { stood := { row := browAllUptoRow, standIns := [], harness := (true, "243f04d3eb72c8163e4f7dc71e475281eb0d4356833523603e6e9c007e9c4818"), looks := true }, kinds := [], alts := [], laidByText := true, laidKinds := [.data, .data, .data], laidTests := true, laidLooks := .later }
def BrowAllUptoCardSaid : Prop := Claim7.holds Tryd.pinned (.plain (OpenSpec.upto browAllSpec)) browAllUptoCard

/-- THE SECOND FORM's CARD OF 'annunciatorlaw22.BrowPages'. -/
def browPagesUptoCard : Claim7 := { stood := { row := browPagesUptoRow, standIns := [], harness := (true, "243f04d3eb72c8163e4f7dc71e475281eb0d4356833523603e6e9c007e9c4818"), looks := true }, kinds := [], alts := [], laidByText := true, laidKinds := [.data, .data, .data], laidTests := true, laidLooks := .later }
def BrowPagesUptoCardSaid : Prop := Claim7.holds Tryd.pinned (.plain (OpenSpec.upto browPagesSpec)) browPagesUptoCard

/-- THE SECOND FORM's CARD OF 'annunciatorlaw22.BrowFrom'. -/
def browFromUptoCard : Claim7 := { stood := { row := browFromUptoRow, standIns := [], harness := (true, "243f04d3eb72c8163e4f7dc71e475281eb0d4356833523603e6e9c007e9c4818"), looks := true }, kinds := [], alts := [], laidByText := true, laidKinds := [.data, .data, .data], laidTests := true, laidLooks := .later }
def BrowFromUptoCardSaid : Prop := Claim7.holds Tryd.pinned (.plain (OpenSpec.upto browFromSpec)) browFromUptoCard
end Rows
end Go.Proofs.YtbceomdmpbmnkaaDoor
