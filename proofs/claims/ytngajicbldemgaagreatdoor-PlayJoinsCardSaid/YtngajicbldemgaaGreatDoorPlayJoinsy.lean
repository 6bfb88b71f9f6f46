/-
  The closed facts of the claim, one by one.
-/
import Derived.Test.YtngajicbldemgaaGreatDoorRows
import Derived.WalkKit
import Derived.ProofKit
import Derived.OpenShut
import Derived.SevenTiedAt
namespace Go.Proofs.YtngajicbldemgaaGreatDoor.playJoins
open Go
theorem k14:Rows.playJoinsRow.wfByText (OpenSpec.ofChange Rows.playJoinsSpec)=true:=by kernel_rfl
theorem k15:Tryz.pinned.checked.prog.mainIs=some (true,"7b6b0b17a97ebb1f93956779647cabc77007e44f0867a4c7207af49b96b148a1".toList):=by kernel_rfl
theorem k16:true=Tryz.pinned.checked.prog.looks []:=by kernel_rfl
theorem k17:false=Rows.playJoinsRow.goesBy Tryz.pinned.checked.prog:=by kernel_rfl
theorem k18:Tryz.prog.funcNamed Rows.playJoinsRow.func=some 5:=by kernel_rfl
end Go.Proofs.YtngajicbldemgaaGreatDoor.playJoins
