/-
  Runs.
-/
import Derived.Test.YteegdnoekakdbaaGreatDoorTL
import Derived.Test.YteegdnoekakdbaaGreatDoorFA
set_option maxRecDepth 100000
set_option linter.unusedVariables false
namespace Go.Proofs.YteegdnoekakdbaaGreatDoor.vars
open Go Go.Sx
theorem yD_:chk L0 0 0:=by unfold chk;kernel_rfl
theorem yE_:chk L0 0 1:=by unfold chk;kernel_rfl
theorem yF_:chk L0 0 2:=by unfold chk;kernel_rfl
theorem yG_:chk L0 0 3:=by unfold chk;kernel_rfl
theorem yH_:chk L0 0 4:=by unfold chk;kernel_rfl
theorem yI_:chk L0 0 5:=by unfold chk;kernel_rfl
theorem yJ_:chk L0 0 6:=by unfold chk;kernel_rfl
theorem yK_:chk L0 0 7:=by unfold chk;kernel_rfl
theorem yL_:chk L0 0 8:=by unfold chk;kernel_rfl
theorem yM_:chk L0 0 9:=by unfold chk;kernel_rfl
theorem r_:chk L0 0 10:=by unfold chk;kernel_rfl
theorem s_:chk L0 0 11:=by unfold chk;kernel_rfl
theorem t_:chk L0 0 12:=by unfold chk;kernel_rfl
theorem u_:chk L0 0 13:=by unfold chk;kernel_rfl
theorem v_:chk L0 0 14:=by unfold chk;kernel_rfl
theorem w_:chk L0 0 15:=by unfold chk;kernel_rfl
theorem x_:chk L0 0 16:=by unfold chk;kernel_rfl
theorem y_:chk L0 0 17:=by unfold chk;kernel_rfl
theorem z_:chk L0 0 18:=by unfold chk;kernel_rfl
theorem A_:chk L0 0 19:=by unfold chk;kernel_rfl
theorem B_:chk L0 0 20:=by unfold chk;kernel_rfl
theorem C_:chk L0 0 21:=by unfold chk;kernel_rfl
theorem D_:chk L0 0 22:=by unfold chk;kernel_rfl
theorem E_:chk L0 0 23:=by unfold chk;kernel_rfl
theorem F_:chk L0 0 24:=by unfold chk;kernel_rfl
theorem G_:chk L0 0 25:=by unfold chk;kernel_rfl
theorem H_:chk L0 0 26:=by unfold chk;kernel_rfl
theorem I_:chk L0 0 27:=by unfold chk;kernel_rfl
theorem J_:chk L0 0 28:=by unfold chk;kernel_rfl
theorem K_:chk L0 0 29:=by unfold chk;kernel_rfl
theorem L_:chk L0 0 30:=by unfold chk;kernel_rfl
theorem M_:chk L0 0 31:=by unfold chk;kernel_rfl
theorem N_:chk L0 0 32:=by unfold chk;kernel_rfl
theorem O_:chk L0 0 33:=by unfold chk;kernel_rfl
theorem P_:chk L0 0 34:=by unfold chk;kernel_rfl
theorem Q_:chk L0 0 35:=by unfold chk;kernel_rfl
theorem R_:chk L0 0 36:=by unfold chk;kernel_rfl
theorem S_:chk L0 0 37:=by unfold chk;kernel_rfl
theorem T_:chk L0 0 38:=by unfold chk;kernel_rfl
theorem U_:chk L0 0 39:=by unfold chk;kernel_rfl
end Go.Proofs.YteegdnoekakdbaaGreatDoor.vars
