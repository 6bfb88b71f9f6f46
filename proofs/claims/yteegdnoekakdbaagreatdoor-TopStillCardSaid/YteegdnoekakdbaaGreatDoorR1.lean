/-
  Runs.
-/
import Derived.Test.YteegdnoekakdbaaGreatDoorTL
import Derived.Test.YteegdnoekakdbaaGreatDoorFA
set_option maxRecDepth 100000
set_option linter.unusedVariables false
namespace Go.Proofs.YteegdnoekakdbaaGreatDoor.vars
open Go Go.Sx
theorem yN_:chk L1 1 0:=by unfold chk;kernel_rfl
theorem yO_:chk L1 1 1:=by unfold chk;kernel_rfl
theorem yP_:chk L1 1 2:=by unfold chk;kernel_rfl
theorem yQ_:chk L1 1 3:=by unfold chk;kernel_rfl
theorem yR_:chk L1 1 4:=by unfold chk;kernel_rfl
theorem yS_:chk L1 1 5:=by unfold chk;kernel_rfl
theorem yT_:chk L1 1 6:=by unfold chk;kernel_rfl
theorem yU_:chk L1 1 7:=by unfold chk;kernel_rfl
theorem yV_:chk L1 1 8:=by unfold chk;kernel_rfl
theorem yW_:chk L1 1 9:=by unfold chk;kernel_rfl
theorem V_:chk L1 1 10:=by unfold chk;kernel_rfl
theorem W_:chk L1 1 11:=by unfold chk;kernel_rfl
theorem X_:chk L1 1 12:=by unfold chk;kernel_rfl
theorem Y_:chk L1 1 13:=by unfold chk;kernel_rfl
theorem Z_:chk L1 1 14:=by unfold chk;kernel_rfl
theorem al_:chk L1 1 15:=by unfold chk;kernel_rfl
theorem a2_:chk L1 1 16:=by unfold chk;kernel_rfl
theorem ba_:chk L1 1 17:=by unfold chk;kernel_rfl
theorem bp_:chk L1 1 18:=by unfold chk;kernel_rfl
theorem ch_:chk L1 1 19:=by unfold chk;kernel_rfl
theorem db_:chk L1 1 20:=by unfold chk;kernel_rfl
theorem ee_:chk L1 1 21:=by unfold chk;kernel_rfl
theorem eg_:chk L1 1 22:=by unfold chk;kernel_rfl
theorem hw_:chk L1 1 23:=by unfold chk;kernel_rfl
theorem hx_:chk L1 1 24:=by unfold chk;kernel_rfl
theorem mX_:chk L1 1 25:=by unfold chk;kernel_rfl
theorem mY_:chk L1 1 26:=by unfold chk;kernel_rfl
theorem od_:chk L1 1 27:=by unfold chk;kernel_rfl
theorem pD_:chk L1 1 28:=by unfold chk;kernel_rfl
theorem pH_:chk L1 1 29:=by unfold chk;kernel_rfl
theorem p2_:chk L1 1 30:=by unfold chk;kernel_rfl
theorem p3_:chk L1 1 31:=by unfold chk;kernel_rfl
theorem p4_:chk L1 1 32:=by unfold chk;kernel_rfl
theorem p5_:chk L1 1 33:=by unfold chk;kernel_rfl
theorem qC_:chk L1 1 34:=by unfold chk;kernel_rfl
theorem q8_:chk L1 1 35:=by unfold chk;kernel_rfl
theorem rX_:chk L1 1 36:=by unfold chk;kernel_rfl
theorem rY_:chk L1 1 37:=by unfold chk;kernel_rfl
theorem sc_:chk L1 1 38:=by unfold chk;kernel_rfl
theorem sA_:chk L1 1 39:=by unfold chk;kernel_rfl
end Go.Proofs.YteegdnoekakdbaaGreatDoor.vars
