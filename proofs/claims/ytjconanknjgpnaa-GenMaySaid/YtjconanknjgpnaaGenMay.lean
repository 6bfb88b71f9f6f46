/-
  The law answers true at every input (the walk: YtjconanknjgpnaaGenMaym).
-/
import Derived.Test.YtjconanknjgpnaaRows
import Derived.WalkKit
import Derived.ProofKit
import Derived.OpenShut
import Derived.Test.YtjconanknjgpnaaSyF
import Derived.Test.YtjconanknjgpnaaSyS
import Derived.Test.YtjconanknjgpnaaGenMaym
namespace Go.Proofs.Ytjconanknjgpnaa.genMay
open Go Go.ChangeShapes Go.WideShapes Go.ChangeAt Go.RowKit
set_option linter.unusedVariables false
theorem own:ownKnob Try.prog.godebug=none:=by kernel_rfl
set_option maxRecDepth 100000 in
theorem lifted (os:Os) (started:os.Started) (H:Type) (enc:TypeId×Value->H):
  ReturnsInHanded {} Try.checked os 4 .any (Rows.genMaySpec.pre6 enc Try.prog Try.f4 Rows.genMayRow.domain false)
   (Rows.genMaySpec.post enc Try.prog Try.f4 false true false false):=by
 refine returnsInHanded_of_change (C:=Try.checked) own started (by kernel_rfl) Try.func4
  (ChangeSpec.witness6 (enc:=enc) (C:=Try.checked) false ⟨#[],#[.slice none 0 0],[]⟩ 8 (by kernel_rfl) (by kernel_rfl) (by kernel_rfl) (by kernel_rfl)) ?_
 intro W base args ds gs before hval0 hW hcnd _
 have hval:∀(j:Nat) t v,Try.f4.params[j]? =some t->args[j]? =some v->Value.okWide Try.prog W .any base t v:=hval0
 have hW':=hW
 obtain ⟨p,q,hA0,hV,rfl,hfz,hnd⟩:=hW
 have hA:DataW.TrodAll enc Try.prog W 0 (λ_=>true) true Try.f4.params.toList args.toList ds p:=hA0
 rw [Try.params4]at hA hval
 obtain ⟨v0,vs0,d0,ds0,p0,q0,hargs,rfl,hp0,h0,r0⟩:=trodAll_cons hA
 obtain ⟨rfl,rfl,rfl⟩:=trodAll_nil r0
 obtain rfl:args= #[v0]:=by cases args;simp_all
 obtain ⟨rfl,rfl⟩:=trodVars_none hV
 obtain ⟨l0,x0,sl0,pl0,m0,c0⟩:=vars.arg_u8s (hval 0 22 v0 rfl rfl) h0 (ps:=p) (λx hx=>by rw [hp0];simp [hx])
 simp only [List.append_nil]at hW'
 refine (vars.walkGenMay (W:=W) (p:=p) l0 x0 sl0 pl0 m0 c0).mono λe W' ⟨he,hg⟩=>?_
 subst he
 exact ⟨_,rfl,Go.Sx.post_own (pa:=p) (pv:=[]) hW' (λ_ _ _=>(trodAll_cons_mk (shut_bool Try.underlying4 _) trodAll_mk0)) (λsp hsp=>Go.Sx.trodAll_again (d:=8) hg (by kernel_rfl) hA0 (λx hx=>hW'.lt x hx) hsp) (λ_ _=>rfl) (List.append_nil p).symm
  (hg.frame _) hg.2.1 (ok_one (by kernel_rfl) rfl (okWide_bool_mk Try.underlying4 _))⟩
theorem over:Rows.genMayRow.holds Try.pinned (OpenSpec.ofChange Rows.genMaySpec):=
 OpenClaim.holds_of_wide 4 Try.f4 rfl rfl rfl rfl rfl rfl rfl ⟨rfl,rfl,rfl,rfl,rfl⟩ rfl rfl rfl rfl rfl (by kernel_rfl) Try.func4 (by kernel_rfl)
  (of_decide_eq_true (by kernel_rfl)) (by unfold Func.isWrapper;first|(rw [if_pos (by decide +kernel)];kernel_rfl)|(rw [if_neg (by decide +kernel)];exact ⟨rfl,rfl⟩))
  (λos started H enc _=>lifted os started H enc)
theorem proved:Rows.GenMaySaid:=
 over
#print axioms proved
end Go.Proofs.Ytjconanknjgpnaa.genMay
