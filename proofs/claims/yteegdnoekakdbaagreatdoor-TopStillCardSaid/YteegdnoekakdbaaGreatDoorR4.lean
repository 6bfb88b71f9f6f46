/-
  Runs.
-/
import Derived.Test.YteegdnoekakdbaaGreatDoorTL
import Derived.Test.YteegdnoekakdbaaGreatDoorFA
set_option maxRecDepth 100000
set_option linter.unusedVariables false
namespace Go.Proofs.YteegdnoekakdbaaGreatDoor.vars
open Go Go.Sx
theorem zh_:chk L4 4 0:=by unfold chk;kernel_rfl
theorem zi_:chk L4 4 1:=by unfold chk;kernel_rfl
theorem zj_:chk L4 4 2:=by unfold chk;kernel_rfl
theorem zk_:chk L4 4 3:=by unfold chk;kernel_rfl
theorem zl_:chk L4 4 4:=by unfold chk;kernel_rfl
theorem zm_:chk L4 4 5:=by unfold chk;kernel_rfl
theorem zn_:chk L4 4 6:=by unfold chk;kernel_rfl
theorem zo_:chk L4 4 7:=by unfold chk;kernel_rfl
theorem zp_:chk L4 4 8:=by unfold chk;kernel_rfl
theorem zq_:chk L4 4 9:=by unfold chk;kernel_rfl
theorem vB_:chk L4 4 10:=by unfold chk;kernel_rfl
theorem vC_:chk L4 4 11:=by unfold chk;kernel_rfl
theorem vD_:chk L4 4 12:=by unfold chk;kernel_rfl
theorem vE_:chk L4 4 13:=by unfold chk;kernel_rfl
theorem vF_:chk L4 4 14:=by unfold chk;kernel_rfl
theorem vG_:chk L4 4 15:=by unfold chk;kernel_rfl
theorem vH_:chk L4 4 16:=by unfold chk;kernel_rfl
theorem vI_:chk L4 4 17:=by unfold chk;kernel_rfl
theorem vJ_:chk L4 4 18:=by unfold chk;kernel_rfl
theorem vK_:chk L4 4 19:=by unfold chk;kernel_rfl
theorem vL_:chk L4 4 20:=by unfold chk;kernel_rfl
theorem vM_:chk L4 4 21:=by unfold chk;kernel_rfl
theorem vN_:chk L4 4 22:=by unfold chk;kernel_rfl
theorem vO_:chk L4 4 23:=by unfold chk;kernel_rfl
theorem vP_:chk L4 4 24:=by unfold chk;kernel_rfl
theorem vQ_:chk L4 4 25:=by unfold chk;kernel_rfl
theorem vR_:chk L4 4 26:=by unfold chk;kernel_rfl
theorem vS_:chk L4 4 27:=by unfold chk;kernel_rfl
theorem vT_:chk L4 4 28:=by unfold chk;kernel_rfl
theorem vU_:chk L4 4 29:=by unfold chk;kernel_rfl
theorem vV_:chk L4 4 30:=by unfold chk;kernel_rfl
theorem vW_:chk L4 4 31:=by unfold chk;kernel_rfl
theorem vX_:chk L4 4 32:=by unfold chk;kernel_rfl
theorem vY_:chk L4 4 33:=by unfold chk;kernel_rfl
theorem vZ_:chk L4 4 34:=by unfold chk;kernel_rfl
theorem v0_:chk L4 4 35:=by unfold chk;kernel_rfl
theorem v1_:chk L4 4 36:=by unfold chk;kernel_rfl
theorem v2_:chk L4 4 37:=by unfold chk;kernel_rfl
theorem v3_:chk L4 4 38:=by unfold chk;kernel_rfl
theorem v4_:chk L4 4 39:=by unfold chk;kernel_rfl
end Go.Proofs.YteegdnoekakdbaaGreatDoor.vars
