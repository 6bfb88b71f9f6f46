/-
  Runs.
-/
import Derived.Test.YteegdnoekakdbaaGreatDoorTL
import Derived.Test.YteegdnoekakdbaaGreatDoorFA
set_option maxRecDepth 100000
set_option linter.unusedVariables false
namespace Go.Proofs.YteegdnoekakdbaaGreatDoor.vars
open Go Go.Sx
theorem zr_:chk L5 5 0:=by unfold chk;kernel_rfl
theorem zs_:chk L5 5 1:=by unfold chk;kernel_rfl
theorem zt_:chk L5 5 2:=by unfold chk;kernel_rfl
theorem zu_:chk L5 5 3:=by unfold chk;kernel_rfl
theorem zv_:chk L5 5 4:=by unfold chk;kernel_rfl
theorem zw_:chk L5 5 5:=by unfold chk;kernel_rfl
theorem zx_:chk L5 5 6:=by unfold chk;kernel_rfl
theorem zy_:chk L5 5 7:=by unfold chk;kernel_rfl
theorem zz_:chk L5 5 8:=by unfold chk;kernel_rfl
theorem zA_:chk L5 5 9:=by unfold chk;kernel_rfl
theorem v5_:chk L5 5 10:=by unfold chk;kernel_rfl
theorem v6_:chk L5 5 11:=by unfold chk;kernel_rfl
theorem v7_:chk L5 5 12:=by unfold chk;kernel_rfl
theorem v8_:chk L5 5 13:=by unfold chk;kernel_rfl
theorem v9_:chk L5 5 14:=by unfold chk;kernel_rfl
theorem wa_:chk L5 5 15:=by unfold chk;kernel_rfl
theorem wb_:chk L5 5 16:=by unfold chk;kernel_rfl
theorem wc_:chk L5 5 17:=by unfold chk;kernel_rfl
theorem wd_:chk L5 5 18:=by unfold chk;kernel_rfl
theorem we_:chk L5 5 19:=by unfold chk;kernel_rfl
theorem wf_:chk L5 5 20:=by unfold chk;kernel_rfl
theorem wg_:chk L5 5 21:=by unfold chk;kernel_rfl
theorem wh_:chk L5 5 22:=by unfold chk;kernel_rfl
theorem wi_:chk L5 5 23:=by unfold chk;kernel_rfl
theorem wj_:chk L5 5 24:=by unfold chk;kernel_rfl
theorem wk_:chk L5 5 25:=by unfold chk;kernel_rfl
theorem wl_:chk L5 5 26:=by unfold chk;kernel_rfl
theorem wm_:chk L5 5 27:=by unfold chk;kernel_rfl
theorem wn_:chk L5 5 28:=by unfold chk;kernel_rfl
theorem wo_:chk L5 5 29:=by unfold chk;kernel_rfl
theorem wp_:chk L5 5 30:=by unfold chk;kernel_rfl
theorem wq_:chk L5 5 31:=by unfold chk;kernel_rfl
theorem wr_:chk L5 5 32:=by unfold chk;kernel_rfl
theorem ws_:chk L5 5 33:=by unfold chk;kernel_rfl
theorem wt_:chk L5 5 34:=by unfold chk;kernel_rfl
theorem wu_:chk L5 5 35:=by unfold chk;kernel_rfl
theorem wv_:chk L5 5 36:=by unfold chk;kernel_rfl
theorem ww_:chk L5 5 37:=by unfold chk;kernel_rfl
theorem wx_:chk L5 5 38:=by unfold chk;kernel_rfl
theorem wy_:chk L5 5 39:=by unfold chk;kernel_rfl
end Go.Proofs.YteegdnoekakdbaaGreatDoor.vars
