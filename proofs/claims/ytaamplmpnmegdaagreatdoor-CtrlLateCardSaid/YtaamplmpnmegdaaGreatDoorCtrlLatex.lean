/-
  The closed facts of the row, one by one.
-/
import Derived.Test.YtaamplmpnmegdaaGreatDoorRows
import Derived.WalkKit
import Derived.ProofKit
import Derived.OpenShut
namespace Go.Proofs.YtaamplmpnmegdaaGreatDoor.ctrlLate
open Go
theorem k10:(Rows.ctrlLateRow.inPlace==Tryz.pinned.checked.prog.inPlace 4)=true:=by kernel_rfl
theorem k11:(Rows.ctrlLateRow.unfollowed==Tryz.pinned.checked.prog.unfollowed 4)=true:=by kernel_rfl
theorem k12:(Rows.ctrlLateRow.recurses==Tryz.pinned.checked.prog.recurses 4)=true:=by kernel_rfl
theorem k13:(Rows.ctrlLateRow.named==Tryz.pinned.checked.prog.varsNamed 4)=true:=by kernel_rfl
end Go.Proofs.YtaamplmpnmegdaaGreatDoor.ctrlLate
