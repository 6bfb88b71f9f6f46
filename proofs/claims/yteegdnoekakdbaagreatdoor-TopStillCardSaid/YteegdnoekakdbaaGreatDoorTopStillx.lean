/-
  The closed facts of the row, one by one.
-/
import Derived.Test.YteegdnoekakdbaaGreatDoorRows
import Derived.WalkKit
import Derived.ProofKit
import Derived.OpenShut
namespace Go.Proofs.YteegdnoekakdbaaGreatDoor.topStill
open Go
theorem k10:(Rows.topStillRow.inPlace==Tryz.pinned.checked.prog.inPlace 3)=true:=by kernel_rfl
theorem k11:(Rows.topStillRow.unfollowed==Tryz.pinned.checked.prog.unfollowed 3)=true:=by kernel_rfl
theorem k12:(Rows.topStillRow.recurses==Tryz.pinned.checked.prog.recurses 3)=true:=by kernel_rfl
theorem k13:(Rows.topStillRow.named==Tryz.pinned.checked.prog.varsNamed 3)=true:=by kernel_rfl
end Go.Proofs.YteegdnoekakdbaaGreatDoor.topStill
