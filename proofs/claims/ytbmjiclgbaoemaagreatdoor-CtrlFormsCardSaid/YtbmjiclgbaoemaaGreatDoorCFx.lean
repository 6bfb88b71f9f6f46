/-
  The closed facts of the row, one by one.
-/
import Derived.Test.YtbmjiclgbaoemaaGreatDoorRows
import Derived.WalkKit
import Derived.ProofKit
import Derived.OpenShut
namespace Go.Proofs.YtbmjiclgbaoemaaGreatDoor.ctrlForms
open Go
theorem k10 : (Rows.ctrlFormsRow.inPlace == Tryz.pinned.checked.prog.inPlace 3) = true := by kernel_rfl
theorem k11 : (Rows.ctrlFormsRow.unfollowed == Tryz.pinned.checked.prog.unfollowed 3) = true := by kernel_rfl
theorem k12 : (Rows.ctrlFormsRow.recurses == Tryz.pinned.checked.prog.recurses 3) = true := by kernel_rfl
theorem k13 : (Rows.ctrlFormsRow.named == Tryz.pinned.checked.prog.varsNamed 3) = true := by kernel_rfl
end Go.Proofs.YtbmjiclgbaoemaaGreatDoor.ctrlForms
