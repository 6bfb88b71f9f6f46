/-
  The closed facts of the claim, one by one.
-/
import Derived.Test.YtmgenobllanmjaaGreatDoorRows
import Derived.WalkKit
import Derived.ProofKit
import Derived.OpenShut
import Derived.SevenTiedAt
namespace Go.Proofs.YtmgenobllanmjaaGreatDoor.playBytes
open Go
theorem k14:Rows.playBytesRow.wfByText (OpenSpec.ofChange Rows.playBytesSpec)=true:=by kernel_rfl
theorem k15:Tryz.pinned.checked.prog.mainIs=some (true,"24d6e7de7090341f9831a0b8b7045539a9bfd3b589d70979a4fd1a8bfda87587".toList):=by kernel_rfl
theorem k16:true=Tryz.pinned.checked.prog.looks []:=by kernel_rfl
theorem k17:false=Rows.playBytesRow.goesBy Tryz.pinned.checked.prog:=by kernel_rfl
theorem k18:Tryz.prog.funcNamed Rows.playBytesRow.func=some 3:=by kernel_rfl
end Go.Proofs.YtmgenobllanmjaaGreatDoor.playBytes
