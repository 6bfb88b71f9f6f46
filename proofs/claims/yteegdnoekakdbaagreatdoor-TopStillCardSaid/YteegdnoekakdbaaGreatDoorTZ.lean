/-
  TopStill.
-/
import Derived.Test.YteegdnoekakdbaaGreatDoorTL
import Derived.Test.YteegdnoekakdbaaGreatDoorFA
import Derived.Test.YteegdnoekakdbaaGreatDoorR0
import Derived.Test.YteegdnoekakdbaaGreatDoorR1
import Derived.Test.YteegdnoekakdbaaGreatDoorR2
import Derived.Test.YteegdnoekakdbaaGreatDoorR3
import Derived.Test.YteegdnoekakdbaaGreatDoorR4
import Derived.Test.YteegdnoekakdbaaGreatDoorR5
set_option maxRecDepth 100000
set_option linter.unusedVariables false
namespace Go.Proofs.YteegdnoekakdbaaGreatDoor.vars
open Go Go.Sx
theorem rx0:∀s:Nat,s<40->chk L0 0 s
 |0,_=>yD_
 |1,_=>yE_
 |2,_=>yF_
 |3,_=>yG_
 |4,_=>yH_
 |5,_=>yI_
 |6,_=>yJ_
 |7,_=>yK_
 |8,_=>yL_
 |9,_=>yM_
 |10,_=>r_
 |11,_=>s_
 |12,_=>t_
 |13,_=>u_
 |14,_=>v_
 |15,_=>w_
 |16,_=>x_
 |17,_=>y_
 |18,_=>z_
 |19,_=>A_
 |20,_=>B_
 |21,_=>C_
 |22,_=>D_
 |23,_=>E_
 |24,_=>F_
 |25,_=>G_
 |26,_=>H_
 |27,_=>I_
 |28,_=>J_
 |29,_=>K_
 |30,_=>L_
 |31,_=>M_
 |32,_=>N_
 |33,_=>O_
 |34,_=>P_
 |35,_=>Q_
 |36,_=>R_
 |37,_=>S_
 |38,_=>T_
 |39,_=>U_
 |s+40,h=>by omega
theorem rx1:∀s:Nat,s<40->chk L1 1 s
 |0,_=>yN_
 |1,_=>yO_
 |2,_=>yP_
 |3,_=>yQ_
 |4,_=>yR_
 |5,_=>yS_
 |6,_=>yT_
 |7,_=>yU_
 |8,_=>yV_
 |9,_=>yW_
 |10,_=>V_
 |11,_=>W_
 |12,_=>X_
 |13,_=>Y_
 |14,_=>Z_
 |15,_=>al_
 |16,_=>a2_
 |17,_=>ba_
 |18,_=>bp_
 |19,_=>ch_
 |20,_=>db_
 |21,_=>ee_
 |22,_=>eg_
 |23,_=>hw_
 |24,_=>hx_
 |25,_=>mX_
 |26,_=>mY_
 |27,_=>od_
 |28,_=>pD_
 |29,_=>pH_
 |30,_=>p2_
 |31,_=>p3_
 |32,_=>p4_
 |33,_=>p5_
 |34,_=>qC_
 |35,_=>q8_
 |36,_=>rX_
 |37,_=>rY_
 |38,_=>sc_
 |39,_=>sA_
 |s+40,h=>by omega
theorem rx2:∀s:Nat,s<40->chk L2 2 s
 |0,_=>yX_
 |1,_=>yY_
 |2,_=>yZ_
 |3,_=>y0_
 |4,_=>y1_
 |5,_=>y2_
 |6,_=>y3_
 |7,_=>y4_
 |8,_=>y5_
 |9,_=>y6_
 |10,_=>sF_
 |11,_=>sG_
 |12,_=>s0_
 |13,_=>tN_
 |14,_=>tW_
 |15,_=>tY_
 |16,_=>t0_
 |17,_=>t1_
 |18,_=>t2_
 |19,_=>t3_
 |20,_=>t4_
 |21,_=>ug_
 |22,_=>uo_
 |23,_=>uu_
 |24,_=>uw_
 |25,_=>uA_
 |26,_=>uD_
 |27,_=>uH_
 |28,_=>uI_
 |29,_=>uJ_
 |30,_=>uL_
 |31,_=>uM_
 |32,_=>uO_
 |33,_=>uQ_
 |34,_=>uS_
 |35,_=>uW_
 |36,_=>u1_
 |37,_=>u2_
 |38,_=>u3_
 |39,_=>u4_
 |s+40,h=>by omega
theorem rx3:∀s:Nat,s<40->chk L3 3 s
 |0,_=>y7_
 |1,_=>y8_
 |2,_=>y9_
 |3,_=>za_
 |4,_=>zb_
 |5,_=>zc_
 |6,_=>zd_
 |7,_=>ze_
 |8,_=>zf_
 |9,_=>zg_
 |10,_=>u5_
 |11,_=>u6_
 |12,_=>u9_
 |13,_=>va_
 |14,_=>vb_
 |15,_=>vc_
 |16,_=>vd_
 |17,_=>ve_
 |18,_=>vf_
 |19,_=>vg_
 |20,_=>vh_
 |21,_=>vi_
 |22,_=>vj_
 |23,_=>vk_
 |24,_=>vl_
 |25,_=>vm_
 |26,_=>vn_
 |27,_=>vo_
 |28,_=>vp_
 |29,_=>vq_
 |30,_=>vr_
 |31,_=>vs_
 |32,_=>vt_
 |33,_=>vu_
 |34,_=>vv_
 |35,_=>vw_
 |36,_=>vx_
 |37,_=>vy_
 |38,_=>vz_
 |39,_=>vA_
 |s+40,h=>by omega
theorem rx4:∀s:Nat,s<40->chk L4 4 s
 |0,_=>zh_
 |1,_=>zi_
 |2,_=>zj_
 |3,_=>zk_
 |4,_=>zl_
 |5,_=>zm_
 |6,_=>zn_
 |7,_=>zo_
 |8,_=>zp_
 |9,_=>zq_
 |10,_=>vB_
 |11,_=>vC_
 |12,_=>vD_
 |13,_=>vE_
 |14,_=>vF_
 |15,_=>vG_
 |16,_=>vH_
 |17,_=>vI_
 |18,_=>vJ_
 |19,_=>vK_
 |20,_=>vL_
 |21,_=>vM_
 |22,_=>vN_
 |23,_=>vO_
 |24,_=>vP_
 |25,_=>vQ_
 |26,_=>vR_
 |27,_=>vS_
 |28,_=>vT_
 |29,_=>vU_
 |30,_=>vV_
 |31,_=>vW_
 |32,_=>vX_
 |33,_=>vY_
 |34,_=>vZ_
 |35,_=>v0_
 |36,_=>v1_
 |37,_=>v2_
 |38,_=>v3_
 |39,_=>v4_
 |s+40,h=>by omega
theorem rx5:∀s:Nat,s<40->chk L5 5 s
 |0,_=>zr_
 |1,_=>zs_
 |2,_=>zt_
 |3,_=>zu_
 |4,_=>zv_
 |5,_=>zw_
 |6,_=>zx_
 |7,_=>zy_
 |8,_=>zz_
 |9,_=>zA_
 |10,_=>v5_
 |11,_=>v6_
 |12,_=>v7_
 |13,_=>v8_
 |14,_=>v9_
 |15,_=>wa_
 |16,_=>wb_
 |17,_=>wc_
 |18,_=>wd_
 |19,_=>we_
 |20,_=>wf_
 |21,_=>wg_
 |22,_=>wh_
 |23,_=>wi_
 |24,_=>wj_
 |25,_=>wk_
 |26,_=>wl_
 |27,_=>wm_
 |28,_=>wn_
 |29,_=>wo_
 |30,_=>wp_
 |31,_=>wq_
 |32,_=>wr_
 |33,_=>ws_
 |34,_=>wt_
 |35,_=>wu_
 |36,_=>wv_
 |37,_=>ww_
 |38,_=>wx_
 |39,_=>wy_
 |s+40,h=>by omega
theorem a_ {L:List (FuncId×List AV×AV)} (hL:PR L) {x s:Int} {a0 a1:Int} (hx:a0.tmod 6=x) (hs:a1.tmod 40=s) (h:chk L x s):kv_ Tryz.prog 3 [.int .u8 a0,.int .u8 a1] (.bool true):=
 @uz_ (G L) Tryz.prog mox (b_ hL) 3 [.int .u8 a0,.int .u8 a1] [.sym 64,.sym 65] [.int .u8 a0,.int .u8 a1] (.bool true) (cT x s) 3000 66 (.done (.bool true)) rfl rfl rfl rfl (λY hf=>qq_ 64 [.int .u8 a0,.int .u8 a1] λi a ha=>bI_ _ hf i a ha) (@up_ (G L) Tryz.prog _ _ λf hf=>by
  simp only [List.mem_cons,List.not_mem_nil,or_false]at hf;rcases hf with rfl|rfl;exact ⟨rfl,rfl,0,_,rfl,rfl,λt cx cy=>uP_ (by decide) hx t cx cy⟩
  .exact ⟨rfl,rfl,1,_,rfl,rfl,λt cx cy=>uP_ (by decide) hs t cx cy⟩) rfl h λY _ _=> @t8_ (G L) _ _ _ _ _ rfl
theorem q3 {a0 a1:Int} (w0:(Lit.int .u8 a0).wf=true) (w1:(Lit.int .u8 a1).wf=true):kv_ Tryz.prog 3 [.int .u8 a0,.int .u8 a1] (.bool true):=by
 have h0:0<=a0/\a0<=255:=by simpa [Lit.wf,IntKind.min,IntKind.max,IntKind.bits,IntKind.signed]using w0
 have h1:0<=a1/\a1<=255:=by simpa [Lit.wf,IntKind.min,IntKind.max,IntKind.bits,IntKind.signed]using w1
 have e0:=Int.tmod_eq_emod_of_nonneg (b:=6) h0.1;have e1:=Int.tmod_eq_emod_of_nonneg (b:=40) h1.1;have es:a1.tmod 40=(((a1.tmod 40).toNat:Nat):Int):=by omega
 have hs:(a1.tmod 40).toNat<40:=by omega
 rcases (by omega:a0.tmod 6=0\/a0.tmod 6=1\/a0.tmod 6=2\/a0.tmod 6=3\/a0.tmod 6=4\/a0.tmod 6=5)with h|h|h|h|h|h;exact a_ p0 h es (rx0 _ hs);exact a_ p1 h es (rx1 _ hs);exact a_ p2 h es (rx2 _ hs);exact a_ p3 h es (rx3 _ hs);exact a_ p4 h es (rx4 _ hs);exact a_ p5 h es (rx5 _ hs)
end Go.Proofs.YteegdnoekakdbaaGreatDoor.vars
