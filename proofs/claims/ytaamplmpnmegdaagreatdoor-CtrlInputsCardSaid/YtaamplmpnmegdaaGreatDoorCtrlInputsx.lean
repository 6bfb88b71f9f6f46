/-
  The closed facts of the row, one by one.
-/
import Derived.Test.YtaamplmpnmegdaaGreatDoorRows
import Derived.WalkKit
import Derived.ProofKit
import Derived.OpenShut
namespace Go.Proofs.YtaamplmpnmegdaaGreatDoor.ctrlInputs
open Go
theorem k10:(Rows.ctrlInputsRow.inPlace==Tryz.pinned.checked.prog.inPlace 3)=true:=by kernel_rfl
theorem k11:(Rows.ctrlInputsRow.unfollowed==Tryz.pinned.checked.prog.unfollowed 3)=true:=by kernel_rfl
theorem k12:(Rows.ctrlInputsRow.recurses==Tryz.pinned.checked.prog.recurses 3)=true:=by kernel_rfl
theorem k13:(Rows.ctrlInputsRow.named==Tryz.pinned.checked.prog.varsNamed 3)=true:=by kernel_rfl
end Go.Proofs.YtaamplmpnmegdaaGreatDoor.ctrlInputs
