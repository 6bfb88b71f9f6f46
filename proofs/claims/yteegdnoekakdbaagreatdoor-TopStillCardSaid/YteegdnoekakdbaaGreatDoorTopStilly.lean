/-
  The closed facts of the claim, one by one.
-/
import Derived.Test.YteegdnoekakdbaaGreatDoorRows
import Derived.WalkKit
import Derived.ProofKit
import Derived.OpenShut
import Derived.SevenTiedAt
namespace Go.Proofs.YteegdnoekakdbaaGreatDoor.topStill
open Go
theorem k14:Rows.topStillRow.wfByText (OpenSpec.ofChange Rows.topStillSpec)=true:=by kernel_rfl
theorem k15:Tryz.pinned.checked.prog.mainIs=some (true,"504ace9ae161253c6986c5ef8da9bcaeb7714e9978d7bd5221975e1e2c28ef52".toList):=by kernel_rfl
theorem k16:true=Tryz.pinned.checked.prog.looks []:=by kernel_rfl
theorem k17:false=Rows.topStillRow.goesBy Tryz.pinned.checked.prog:=by kernel_rfl
theorem k18:Tryz.prog.funcNamed Rows.topStillRow.func=some 3:=by kernel_rfl
end Go.Proofs.YteegdnoekakdbaaGreatDoor.topStill
