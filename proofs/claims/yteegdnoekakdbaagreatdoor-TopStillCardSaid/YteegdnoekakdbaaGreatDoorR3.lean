/-
  Runs.
-/
import Derived.Test.YteegdnoekakdbaaGreatDoorTL
import Derived.Test.YteegdnoekakdbaaGreatDoorFA
set_option maxRecDepth 100000
set_option linter.unusedVariables false
namespace Go.Proofs.YteegdnoekakdbaaGreatDoor.vars
open Go Go.Sx
theorem y7_:chk L3 3 0:=by unfold chk;kernel_rfl
theorem y8_:chk L3 3 1:=by unfold chk;kernel_rfl
theorem y9_:chk L3 3 2:=by unfold chk;kernel_rfl
theorem za_:chk L3 3 3:=by unfold chk;kernel_rfl
theorem zb_:chk L3 3 4:=by unfold chk;kernel_rfl
theorem zc_:chk L3 3 5:=by unfold chk;kernel_rfl
theorem zd_:chk L3 3 6:=by unfold chk;kernel_rfl
theorem ze_:chk L3 3 7:=by unfold chk;kernel_rfl
theorem zf_:chk L3 3 8:=by unfold chk;kernel_rfl
theorem zg_:chk L3 3 9:=by unfold chk;kernel_rfl
theorem u5_:chk L3 3 10:=by unfold chk;kernel_rfl
theorem u6_:chk L3 3 11:=by unfold chk;kernel_rfl
theorem u9_:chk L3 3 12:=by unfold chk;kernel_rfl
theorem va_:chk L3 3 13:=by unfold chk;kernel_rfl
theorem vb_:chk L3 3 14:=by unfold chk;kernel_rfl
theorem vc_:chk L3 3 15:=by unfold chk;kernel_rfl
theorem vd_:chk L3 3 16:=by unfold chk;kernel_rfl
theorem ve_:chk L3 3 17:=by unfold chk;kernel_rfl
theorem vf_:chk L3 3 18:=by unfold chk;kernel_rfl
theorem vg_:chk L3 3 19:=by unfold chk;kernel_rfl
theorem vh_:chk L3 3 20:=by unfold chk;kernel_rfl
theorem vi_:chk L3 3 21:=by unfold chk;kernel_rfl
theorem vj_:chk L3 3 22:=by unfold chk;kernel_rfl
theorem vk_:chk L3 3 23:=by unfold chk;kernel_rfl
theorem vl_:chk L3 3 24:=by unfold chk;kernel_rfl
theorem vm_:chk L3 3 25:=by unfold chk;kernel_rfl
theorem vn_:chk L3 3 26:=by unfold chk;kernel_rfl
theorem vo_:chk L3 3 27:=by unfold chk;kernel_rfl
theorem vp_:chk L3 3 28:=by unfold chk;kernel_rfl
theorem vq_:chk L3 3 29:=by unfold chk;kernel_rfl
theorem vr_:chk L3 3 30:=by unfold chk;kernel_rfl
theorem vs_:chk L3 3 31:=by unfold chk;kernel_rfl
theorem vt_:chk L3 3 32:=by unfold chk;kernel_rfl
theorem vu_:chk L3 3 33:=by unfold chk;kernel_rfl
theorem vv_:chk L3 3 34:=by unfold chk;kernel_rfl
theorem vw_:chk L3 3 35:=by unfold chk;kernel_rfl
theorem vx_:chk L3 3 36:=by unfold chk;kernel_rfl
theorem vy_:chk L3 3 37:=by unfold chk;kernel_rfl
theorem vz_:chk L3 3 38:=by unfold chk;kernel_rfl
theorem vA_:chk L3 3 39:=by unfold chk;kernel_rfl
end Go.Proofs.YteegdnoekakdbaaGreatDoor.vars
