/-
  The closed facts of the row, one by one.
-/
import Derived.Test.YtngajicbldemgaaGreatDoorRows
import Derived.WalkKit
import Derived.ProofKit
import Derived.OpenShut
namespace Go.Proofs.YtngajicbldemgaaGreatDoor.playJoins
open Go
theorem k10:(Rows.playJoinsRow.inPlace==Tryz.pinned.checked.prog.inPlace 5)=true:=by kernel_rfl
theorem k11:(Rows.playJoinsRow.unfollowed==Tryz.pinned.checked.prog.unfollowed 5)=true:=by kernel_rfl
theorem k12:(Rows.playJoinsRow.recurses==Tryz.pinned.checked.prog.recurses 5)=true:=by kernel_rfl
theorem k13:(Rows.playJoinsRow.named==Tryz.pinned.checked.prog.varsNamed 5)=true:=by kernel_rfl
end Go.Proofs.YtngajicbldemgaaGreatDoor.playJoins
