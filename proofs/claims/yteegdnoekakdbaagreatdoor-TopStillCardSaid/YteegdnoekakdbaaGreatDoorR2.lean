/-
  Runs.
-/
import Derived.Test.YteegdnoekakdbaaGreatDoorTL
import Derived.Test.YteegdnoekakdbaaGreatDoorFA
set_option maxRecDepth 100000
set_option linter.unusedVariables false
namespace Go.Proofs.YteegdnoekakdbaaGreatDoor.vars
open Go Go.Sx
theorem yX_:chk L2 2 0:=by unfold chk;kernel_rfl
theorem yY_:chk L2 2 1:=by unfold chk;kernel_rfl
theorem yZ_:chk L2 2 2:=by unfold chk;kernel_rfl
theorem y0_:chk L2 2 3:=by unfold chk;kernel_rfl
theorem y1_:chk L2 2 4:=by unfold chk;kernel_rfl
theorem y2_:chk L2 2 5:=by unfold chk;kernel_rfl
theorem y3_:chk L2 2 6:=by unfold chk;kernel_rfl
theorem y4_:chk L2 2 7:=by unfold chk;kernel_rfl
theorem y5_:chk L2 2 8:=by unfold chk;kernel_rfl
theorem y6_:chk L2 2 9:=by unfold chk;kernel_rfl
theorem sF_:chk L2 2 10:=by unfold chk;kernel_rfl
theorem sG_:chk L2 2 11:=by unfold chk;kernel_rfl
theorem s0_:chk L2 2 12:=by unfold chk;kernel_rfl
theorem tN_:chk L2 2 13:=by unfold chk;kernel_rfl
theorem tW_:chk L2 2 14:=by unfold chk;kernel_rfl
theorem tY_:chk L2 2 15:=by unfold chk;kernel_rfl
theorem t0_:chk L2 2 16:=by unfold chk;kernel_rfl
theorem t1_:chk L2 2 17:=by unfold chk;kernel_rfl
theorem t2_:chk L2 2 18:=by unfold chk;kernel_rfl
theorem t3_:chk L2 2 19:=by unfold chk;kernel_rfl
theorem t4_:chk L2 2 20:=by unfold chk;kernel_rfl
theorem ug_:chk L2 2 21:=by unfold chk;kernel_rfl
theorem uo_:chk L2 2 22:=by unfold chk;kernel_rfl
theorem uu_:chk L2 2 23:=by unfold chk;kernel_rfl
theorem uw_:chk L2 2 24:=by unfold chk;kernel_rfl
theorem uA_:chk L2 2 25:=by unfold chk;kernel_rfl
theorem uD_:chk L2 2 26:=by unfold chk;kernel_rfl
theorem uH_:chk L2 2 27:=by unfold chk;kernel_rfl
theorem uI_:chk L2 2 28:=by unfold chk;kernel_rfl
theorem uJ_:chk L2 2 29:=by unfold chk;kernel_rfl
theorem uL_:chk L2 2 30:=by unfold chk;kernel_rfl
theorem uM_:chk L2 2 31:=by unfold chk;kernel_rfl
theorem uO_:chk L2 2 32:=by unfold chk;kernel_rfl
theorem uQ_:chk L2 2 33:=by unfold chk;kernel_rfl
theorem uS_:chk L2 2 34:=by unfold chk;kernel_rfl
theorem uW_:chk L2 2 35:=by unfold chk;kernel_rfl
theorem u1_:chk L2 2 36:=by unfold chk;kernel_rfl
theorem u2_:chk L2 2 37:=by unfold chk;kernel_rfl
theorem u3_:chk L2 2 38:=by unfold chk;kernel_rfl
theorem u4_:chk L2 2 39:=by unfold chk;kernel_rfl
end Go.Proofs.YteegdnoekakdbaaGreatDoor.vars
