/-
  The law answers true at every input (the walk: YtelnbodnjmldeaaGreatScanAllm).
-/
import Derived.Test.YtelnbodnjmldeaaGreatRows
import Derived.WalkKit
import Derived.ProofKit
import Derived.OpenShut
import Derived.Test.YtelnbodnjmldeaaGreatSyF
import Derived.Test.YtelnbodnjmldeaaGreatSyS
import Derived.Test.YtelnbodnjmldeaaGreatScanAllm
set_option linter.all false
set_option maxHeartbeats 1000000
namespace Go.Proofs.YtelnbodnjmldeaaGreat.scanAll
open Go Go.ChangeShapes Go.WideShapes Go.ChangeAt Go.RowKit
def own:ownKnob Tryz.prog.godebug=none:=by kernel_rfl
set_option maxRecDepth 100000 in
def L9 (os:Os) (started:os.Started) (H:Type) (enc:TypeId×Value->H):
  ReturnsInHanded {} Tryz.checked os 3 .any (Rows.scanAllSpec.pre6 enc Tryz.prog Tryz.f3 Rows.scanAllRow.domain false)
   (Rows.scanAllSpec.post enc Tryz.prog Tryz.f3 false true false false):=by
 refine returnsInHanded_of_change (C:=Tryz.checked) own started (by kernel_rfl) Tryz.func3
  (ChangeSpec.witness6 (enc:=enc) (C:=Tryz.checked) false ⟨#[],#[.slice none 0 0,.int .u8 0,.slice none 0 0],[]⟩ 8 (by kernel_rfl) (by kernel_rfl) (by kernel_rfl) (by kernel_rfl)) ?_
 intro W base ag ds gs before hval0 hW hcnd _
 have hval:∀(j:Nat) t v,Tryz.f3.params[j]? =some t->ag[j]? =some v->Value.okWide Tryz.prog W .any base t v:=hval0
 have hW':=hW
 obtain ⟨p,q,hA0,hV,rfl,hfz,hnd⟩:=hW
 have hA:DataW.TrodAll enc Tryz.prog W 0 (λ_=>true) true Tryz.f3.params.toList ag.toList ds p:=hA0
 rw [Tryz.params3]at hA hval
 obtain ⟨v0,vs0,d0,ds0,p0,q0,hargs,rfl,hp0,h0,r0⟩:=trodAll_cons hA
 obtain ⟨v1,vs1,d1,ds1,p1,q1,rfl,rfl,hp1,h1,r1⟩:=trodAll_cons r0
 obtain ⟨v2,vs2,d2,ds2,p2,q2,rfl,rfl,hp2,h2,r2⟩:=trodAll_cons r1
 obtain ⟨rfl,rfl,rfl⟩:=trodAll_nil r2
 obtain rfl:ag= #[v0,v1,v2]:=by cases ag;simp_all
 obtain ⟨rfl,rfl⟩:=trodVars_none hV
 obtain ⟨l0,x0,sl0,R3,m0,c0⟩:=vars.arg_u8s (hval 0 22 v0 rfl rfl) h0 (ps:=p) (λx hx=>by rw [hp0,hp1,hp2];simp [hx])
 obtain ⟨a1,rfl,rfl,rfl,w1⟩:=open_int Tryz.underlying5 (hval 1 5 v1 rfl rfl) h1
 obtain ⟨l2,x2,sl2,pl2,m2,c2⟩:=vars.arg_u8s (hval 2 22 v2 rfl rfl) h2 (ps:=p) (λx hx=>by rw [hp0,hp1,hp2];simp [hx])
 simp only [List.append_nil]at hW'
 refine (vars.walkScanAll (W:=W) (p:=p) l0 x0 sl0 R3 m0 c0 a1 w1 l2 x2 sl2 pl2 m2 c2).mono λe W' ⟨he,hg⟩=>?_
 subst he
 exact ⟨_,rfl,Go.Sx.post_own (pa:=p) (pv:=[]) hW' (λ_ _ _=>(trodAll_cons_mk (shut_bool Tryz.underlying4 _) trodAll_mk0)) (λsp hsp=>Go.Sx.trodAll_again (d:=8) hg (by kernel_rfl) hA0 (λx hx=>hW'.lt x hx) hsp) (λ_ _=>rfl) (List.append_nil p).symm
  (World.keptBut_mono (λ_ f=>f.elim) hg.1) hg.2.1 (ok_one (by kernel_rfl) rfl (okWide_bool_mk Tryz.underlying4 _))⟩
def over:Rows.scanAllRow.holds Tryz.pinned (OpenSpec.ofChange Rows.scanAllSpec):=
 OpenClaim.holds_of_wide 3 Tryz.f3 rfl rfl rfl rfl rfl rfl rfl ⟨rfl,rfl,rfl,rfl,rfl⟩ rfl rfl rfl rfl rfl (by kernel_rfl) Tryz.func3 (by kernel_rfl)
  (of_decide_eq_true (by kernel_rfl)) (by unfold Func.isWrapper;first|(rw [if_pos (by decide +kernel)];kernel_rfl)|(rw [if_neg (by decide +kernel)];exact ⟨rfl,rfl⟩))
  (λos started H enc _=>L9 os started H enc)
theorem proved:Rows.ScanAllSaid:=
 over
#print axioms proved
end Go.Proofs.YtelnbodnjmldeaaGreat.scanAll
