/-
  The check of expressions: names, numbers, elements.
-/
import Derived.Test.YtelnbodnjmldeaaGreatFA
import Derived.Test.YtelnbodnjmldeaaGreatSzA
set_option maxRecDepth 100000
set_option linter.unusedVariables false
set_option linter.unusedSimpArgs false
open List renaming not_mem_nil→za',getElem_mem→zc',mem_cons_self→ze',mem_cons_of_mem→zf'
open Nat renaming zero_le→zb',mul_le_mul_right→zd'
open Int renaming tmod_nonneg→zg'
namespace Go.Proofs.YtelnbodnjmldeaaGreat.vars
open Go Go.Sx
def VARS:AV:=.vsl 12 10 [.str [97],.int .i64 1,.int .i64 2,.int .i64 0,.int .i64 2,.int .i64 0,.flt .f64 0,.int .i64 0,.int .i64 0,.flt .f64 0,.str [98],.int .i64 1,.int .i64 1,.int .i64 0,.int .i64 1,.int .i64 0,.flt .f64 0,.int .i64 0,.int .i64 0,.flt .f64 0,.str [111],.int .i64 2,.int .i64 2,.int .i64 0,.int .i64 2,.int .i64 0,.flt .f64 0,.int .i64 2,.int .i64 7,.flt .f64 0,.str [113],.int .i64 2,.int .i64 1,.int .i64 0,.int .i64 1,.int .i64 0,.flt .f64 0,.int .i64 1,.int .i64 1,.flt .f64 0,.str [120],.int .i64 3,.int .i64 2,.int .i64 0,.int .i64 2,.int .i64 5,.flt .f64 0,.int .i64 0,.int .i64 0,.flt .f64 0,.str [121],.int .i64 3,.int .i64 3,.int .i64 0,.int .i64 3,.int .i64 0,.flt .f64 0,.int .i64 0,.int .i64 0,.flt .f64 0,.str [122],.int .i64 3,.int .i64 5,.int .i64 0,.int .i64 5,.int .i64 0,.flt .f64 0,.int .i64 0,.int .i64 0,.flt .f64 0,.str [119],.int .i64 3,.int .i64 4,.int .i64 0,.int .i64 4,.int .i64 0,.flt .f64 0,.int .i64 0,.int .i64 0,.flt .f64 0,.str [107],.int .i64 3,.int .i64 2,.int .i64 4,.int .i64 2,.int .i64 0,.flt .f64 0,.int .i64 0,.int .i64 0,.flt .f64 0,.str [116,109],.int .i64 3,.int .i64 6,.int .i64 0,.int .i64 0,.int .i64 0,.flt .f64 0,.int .i64 0,.int .i64 0,.flt .f64 0,.str [99],.int .i64 3,.int .i64 9,.int .i64 0,.int .i64 0,.int .i64 0,.flt .f64 0,.int .i64 0,.int .i64 0,.flt .f64 0,.str [101],.int .i64 3,.int .i64 11,.int .i64 0,.int .i64 0,.int .i64 0,.flt .f64 0,.int .i64 0,.int .i64 0,.flt .f64 0]
theorem Ar_:jD_ Tryz.prog 182 [VARS,.str [97]] (.tup [.agg [.str [97],.int .i64 1,.int .i64 2,.int .i64 0,.int .i64 2,.int .i64 0,.flt .f64 0,.int .i64 0,.int .i64 0,.flt .f64 0],.int .i64 0,.bool true]):=vF_ mo ov (n:=3000) (by kernel_rfl)
theorem As_:jD_ Tryz.prog 182 [VARS,.str [98]] (.tup [.agg [.str [98],.int .i64 1,.int .i64 1,.int .i64 0,.int .i64 1,.int .i64 0,.flt .f64 0,.int .i64 0,.int .i64 0,.flt .f64 0],.int .i64 1,.bool true]):=vF_ mo ov (n:=3000) (by kernel_rfl)
theorem ze_:jD_ Tryz.prog 182 [VARS,.str [111]] (.tup [.agg [.str [111],.int .i64 2,.int .i64 2,.int .i64 0,.int .i64 2,.int .i64 0,.flt .f64 0,.int .i64 2,.int .i64 7,.flt .f64 0],.int .i64 2,.bool true]):=vF_ mo ov (n:=3000) (by kernel_rfl)
theorem zf_:jD_ Tryz.prog 182 [VARS,.str [113]] (.tup [.agg [.str [113],.int .i64 2,.int .i64 1,.int .i64 0,.int .i64 1,.int .i64 0,.flt .f64 0,.int .i64 1,.int .i64 1,.flt .f64 0],.int .i64 3,.bool true]):=vF_ mo ov (n:=3000) (by kernel_rfl)
theorem zh_:jD_ Tryz.prog 182 [VARS,.str [120]] (.tup [.agg [.str [120],.int .i64 3,.int .i64 2,.int .i64 0,.int .i64 2,.int .i64 5,.flt .f64 0,.int .i64 0,.int .i64 0,.flt .f64 0],.int .i64 4,.bool true]):=vF_ mo ov (n:=3000) (by kernel_rfl)
theorem zi_:jD_ Tryz.prog 182 [VARS,.str [121]] (.tup [.agg [.str [121],.int .i64 3,.int .i64 3,.int .i64 0,.int .i64 3,.int .i64 0,.flt .f64 0,.int .i64 0,.int .i64 0,.flt .f64 0],.int .i64 5,.bool true]):=vF_ mo ov (n:=3000) (by kernel_rfl)
theorem zj_:jD_ Tryz.prog 182 [VARS,.str [122]] (.tup [.agg [.str [122],.int .i64 3,.int .i64 5,.int .i64 0,.int .i64 5,.int .i64 0,.flt .f64 0,.int .i64 0,.int .i64 0,.flt .f64 0],.int .i64 6,.bool true]):=vF_ mo ov (n:=3000) (by kernel_rfl)
theorem zg_:jD_ Tryz.prog 182 [VARS,.str [119]] (.tup [.agg [.str [119],.int .i64 3,.int .i64 4,.int .i64 0,.int .i64 4,.int .i64 0,.flt .f64 0,.int .i64 0,.int .i64 0,.flt .f64 0],.int .i64 7,.bool true]):=vF_ mo ov (n:=3000) (by kernel_rfl)
theorem xV_:jD_ Tryz.prog 182 [VARS,.str [107]] (.tup [.agg [.str [107],.int .i64 3,.int .i64 2,.int .i64 4,.int .i64 2,.int .i64 0,.flt .f64 0,.int .i64 0,.int .i64 0,.flt .f64 0],.int .i64 8,.bool true]):=vF_ mo ov (n:=3000) (by kernel_rfl)
theorem np_:jD_ Tryz.prog 182 [VARS,.str [116,109]] (.tup [.agg [.str [116,109],.int .i64 3,.int .i64 6,.int .i64 0,.int .i64 0,.int .i64 0,.flt .f64 0,.int .i64 0,.int .i64 0,.flt .f64 0],.int .i64 12,.bool true]):=vF_ mo ov (n:=3000) (by kernel_rfl)
theorem yO_:jD_ Tryz.prog 182 [VARS,.str [99]] (.tup [.agg [.str [99],.int .i64 3,.int .i64 9,.int .i64 0,.int .i64 0,.int .i64 0,.flt .f64 0,.int .i64 0,.int .i64 0,.flt .f64 0],.int .i64 16,.bool true]):=vF_ mo ov (n:=3000) (by kernel_rfl)
theorem Bw_:jD_ Tryz.prog 182 [VARS,.str [101]] (.tup [.agg [.str [101],.int .i64 3,.int .i64 11,.int .i64 0,.int .i64 0,.int .i64 0,.flt .f64 0,.int .i64 0,.int .i64 0,.flt .f64 0],.int .i64 19,.bool true]):=vF_ mo ov (n:=3000) (by kernel_rfl)
theorem wn_:jD_ Tryz.prog 208 [VARS,.str [116,109,46,113]] (.tup [.agg [.str [116,109,46,113],.int .i64 12,.int .i64 1,.int .i64 3],.bool true]):=vF_ mo ov (n:=3000) (by kernel_rfl)
theorem wF_:jD_ Tryz.prog 208 [VARS,.str [99,46,99,118]] (.tup [.agg [.str [99,46,99,118],.int .i64 17,.int .i64 2,.int .i64 3],.bool true]):=vF_ mo ov (n:=3000) (by kernel_rfl)
theorem vx_:jD_ Tryz.prog 208 [VARS,.str [116,109,46,101,116]] (.tup [.agg [.str [116,109,46,101,116],.int .i64 13,.int .i64 4,.int .i64 3],.bool true]):=vF_ mo ov (n:=3000) (by kernel_rfl)
theorem k35:jD_ Tryz.prog 33 [VARS] (.int .i64 0):=vF_ mo ov (n:=3000) (by kernel_rfl)
theorem k37:jD_ Tryz.prog 45 [] VARS:=vF_ mo ov (n:=3000) (by kernel_rfl)
theorem k67 (v:Nat) (h:v<50):jD_ Tryz.prog 130 [.int .i64 2,.int .i64 (v:Int)] (.int .i64 (v:Int)):=by
 have:∀v∈List.range 50,jD_ Tryz.prog 130 [.int .i64 2,.int .i64 (v:Int)] (.int .i64 (v:Int)):=by
  simp only [List.range,List.range.loop,List.forall_mem_cons];repeat' apply And.intro
  all_goals first|exact (λx hx=>(za' hx).elim)|exact vF_ mo ov (n:=3000) (by kernel_rfl)
 exact this v (List.mem_range.2 h)
theorem Ce_:jD_ Tryz.prog 74 [.int .i64 1] (.int .i64 1):=vF_ mo ov (n:=3000) (by kernel_rfl)
theorem Ap_:jD_ Tryz.prog 74 [.int .i64 2] (.int .i64 1):=vF_ mo ov (n:=3000) (by kernel_rfl)
theorem DU_:jD_ Tryz.prog 74 [.int .i64 3] (.int .i64 1):=vF_ mo ov (n:=3000) (by kernel_rfl)
theorem DV_:jD_ Tryz.prog 74 [.int .i64 4] (.int .i64 1):=vF_ mo ov (n:=3000) (by kernel_rfl)
theorem DW_:jD_ Tryz.prog 74 [.int .i64 5] (.int .i64 1):=vF_ mo ov (n:=3000) (by kernel_rfl)
theorem Aq_:jD_ Tryz.prog 74 [.int .i64 6] (.int .i64 4):=vF_ mo ov (n:=3000) (by kernel_rfl)
theorem Cf_:jD_ Tryz.prog 74 [.int .i64 9] (.int .i64 3):=vF_ mo ov (n:=3000) (by kernel_rfl)
theorem CV_:jD_ Tryz.prog 74 [.int .i64 11] (.int .i64 2):=vF_ mo ov (n:=3000) (by kernel_rfl)
def Ge_:VC:=⟨⟨[],[]⟩,[],[],0,true,[]⟩
def E4_:VT:=.ite 64 (.done (J 0))<|.done (J 4)
def FU_:VC:=⟨⟨[],[]⟩,[],[],0,true,[]⟩
def EK_:VT:=Iq 64 2 65 (.done (.bool true))<|Iq 64 3 66 (.done (.bool true))<|Li Q0 [64,J 4] 67<|.done (67)
def DB_:VC:=⟨⟨[],[]⟩,[(130,[none])],[],0,true,[]⟩
def BT_:VT:=Iq 74 2 75 (Iq 64 1 76 (Iq 65 3 77 (.call 130 [J 2,71] 78 [none]<|.done (.agg [64,J 2,66,67,68,69,J 2,78,.flt .f64 0,73]))<|.done (.agg [64,65,66,67,68,69,70,71,72,73]))<|.done (.agg [64,65,66,67,68,69,70,71,72,73]))<|.done (.agg [64,65,66,67,68,69,70,71,72,73])
def Gc_:VC:=⟨⟨[],[]⟩,[(182,[(some 10),none,none]),(208,[(some 4),none]),(74,[none]),(186,[none])],[],0,true,[]⟩
def E2_:VT:=.call 182 [64,67] 75 [(some 10),none,none]<|It Q6 [86] 87 (Dn [65,66,67,68,69,70,71,72,73,74,J 3])<|It (.bin .eql 9 false true) [68,.str []] 88 (.call 74 [77] 89 [none]<|Iq 89 1 90 (Li Q0 [78,J 0] 91<|.call 186 [91] 92 [none]<|Dn [65,77,67,68,85,70,71,72,73,74,92])<|.call 186 [.bool false] 91 [none]<|Dn [65,77,67,68,85,70,71,72,73,74,91])<|.call 74 [77] 89 [none]<|It Qa [89,J 2] 90 (Dn [65,66,67,68,69,70,71,72,73,74,J 4])<|Li (.bin .add 9 false true) [67,.str [46]] 91<|Li (.bin .add 9 false false) [91,68] 92<|.call 208 [64,92] 93 [(some 4),none]<|It Q6 [97] 98 (Dn [65,66,67,68,69,70,71,72,73,74,J 3])<|Dn [65,95,67,68,94,70,71,72,73,74,J 0]
def Gd_:VC:=⟨⟨[],[]⟩,[(182,[(some 10),none,none]),(186,[none])],[],0,true,[]⟩
def E3_:VT:=.call 182 [64,67] 76 [(some 10),none,none]<|It Q6 [87] 88 (Dn [65,66,67,68,69,70,71,72,73,74,J 3])<|It Qb [79,J 0] 89 (Li Qg [75,J 0] 90<|Li Ze [90] 91<|Li Qn [91] 92<|Iq 92 2 93 (.call 186 [.bool true] 94 [none]<|Dn [65,78,67,68,86,79,71,72,73,75,94])<|Li Qg [75,J 0] 94<|Li Ze [94] 95<|Li Qn [95] 96<|Li Q0 [96,J 3] 97<|.call 186 [97] 98 [none]<|Dn [65,78,67,68,86,79,71,72,73,75,98])<|.call 186 [.bool false] 90 [none]<|Dn [65,78,67,68,86,79,71,72,73,75,90]
theorem xb_ (b:Bool):jD_ Tryz.prog 186 [.bool b] (.int .i64 (if b=true then 0 else 4)):=by refine uk_ (sh:=[none]) (ls:=[.bool b]) (c:=Ge_) (n:=300) (t:=E4_) mo ov rfl rfl rfl (λY _=>vX_ _) rfl (by kernel_rfl) λY hf hg=>?_;unfold E4_;refine vz_ rfl (λh=>uX_ ?_) (λh=>uX_ ?_);rw [h];rfl;rw [h];rfl
section
variable {P:Program} {Q:AV->Prop} {L:List (Nat->List AV->Prop)} {Y:Sy} {t:TypeId} {cx cy:Bool} {args:List AV} {n:Nat} {A B:VT} {k:IntKind} {a b:Int}
theorem wO_ (h0:ab_ Y.v args=[.int k a,.int k b]) (h1:a=b->VOK P Q L (Y.put n (.bool (decide (a=b)))) A) (h2:¬a=b->VOK P Q L (Y.put n (.bool (decide (a=b)))) B):VOK P Q L Y (.lt (.bin .eql t cx cy) args n none (.ite n A B)):=
 VOK_lt (by rw [h0];exact run_eql ..) rfl (vz_ (t:=decide (a=b)) (by rw [wc_,if_pos rfl]) (λh=>h1 (of_decide_eq_true h)) (λh=>h2 (of_decide_eq_false h)))
def Cmp:BinOp->Int->Int->Prop
 | .eql,a,b=>a=b
 | .neq,a,b=>¬a=b
 | .lss,a,b=>a<b
 | .gtr,a,b=>b<a
 | .leq,a,b=>a<=b
 | .geq,a,b=>b<=a
 |_,_,_=>False
open Classical in
theorem b_ {op:BinOp} (h0:ab_ Y.v args=[.int k a,.int k b]) (ho:(match op with| .eql=>true| .neq=>true| .lss=>true| .gtr=>true| .leq=>true| .geq=>true|_=>false)=true)
  (h1:Cmp op a b->VOK P Q L (Y.put n (.bool (decide (Cmp op a b)))) A) (h2:¬Cmp op a b->VOK P Q L (Y.put n (.bool (decide (Cmp op a b)))) B):VOK P Q L Y (.lt (.bin op t cx cy) args n none (.ite n A B)):=by
 have hr:(XOp.bin op t cx cy).run P [.int k a,.int k b]=some (.bool (decide (Cmp op a b))):=by
  cases op<;>simp only at ho<;>first|(cases ho;done)|skip
  .rw [run_eql];refine congrArg (λx=>some (AV.bool x)) ?_;by_cases h:a=b<;>simp [Cmp,h]
  .rw [run_neq];refine congrArg (λx=>some (AV.bool x)) ?_;by_cases h:a=b<;>simp [Cmp,h]
  .rw [run_lss];refine congrArg (λx=>some (AV.bool x)) ?_;by_cases h:a<b<;>simp [Cmp,h]
  .rw [run_leq];refine congrArg (λx=>some (AV.bool x)) ?_;by_cases h:a<=b<;>simp [Cmp,h]
  .rw [run_gtr];refine congrArg (λx=>some (AV.bool x)) ?_;by_cases h:b<a<;>simp [Cmp,h]
  .rw [run_geq];refine congrArg (λx=>some (AV.bool x)) ?_;by_cases h:b<=a<;>simp [Cmp,h]
 exact VOK_lt (by rw [h0];exact hr) rfl (vz_ (t:=decide (Cmp op a b)) (by rw [wc_,if_pos rfl]) (λh=>h1 (of_decide_eq_true h)) (λh=>h2 (of_decide_eq_false h)))
end
theorem nc:(∀a b,Cmp .eql a b=(a=b))/\(∀a b,Cmp .neq a b=¬a=b)/\(∀a b,Cmp .lss a b=(a<b))/\(∀a b,Cmp .gtr a b=(b<a))/\(∀a b,Cmp .leq a b=(a<=b))/\(∀a b,Cmp .geq a b=(b<=a))/\(∀p:Prop,(¬¬p)=p)/\(∀a b:Int,(¬a<b)=(b<=a))/\(∀a b:Int,(¬a<=b)=(b<a))/\(¬True)=False:=
 ⟨λ_ _=>rfl,λ_ _=>rfl,λ_ _=>rfl,λ_ _=>rfl,λ_ _=>rfl,λ_ _=>rfl,λp=>propext ⟨Classical.not_not.1,λh k=>k h⟩,λ_ _=>propext Int.not_lt,λ_ _=>propext Int.not_le,propext ⟨λh=>h trivial,False.elim⟩⟩
def uy_:List (Int×Int):=[(1,1),(3,1),(12,1),(0,2),(4,2),(2,2),(17,2),(5,3),(13,4),(7,4),(6,5)]
def BW_:List (List UInt8×List UInt8×Int×Int):=[([98],[],1,1),([113],[],3,1),([116,109],[113],12,1),([97],[],0,2),([120],[],4,2),([111],[],2,2),([99],[99,118],17,2),([121],[],5,3),([116,109],[101,116],13,4),([119],[],7,4),([122],[],6,5)]
def AN_:List (List UInt8×Int):=[([98],1),([113],2),([116,109],3),([97],1),([120],3),([111],2),([99],3),([121],3),([119],3),([122],3),([107],3)]
def wrL:List (Int×Int):=[(3,1),(4,2),(2,2),(5,3),(7,4),(6,5)]
theorem tie_cells:∀t∈BW_,(t.2.2.1,t.2.2.2)∈uy_:=by decide
theorem tie_wr:∀t∈BW_,∀q∈AN_,t.2.1=[]->t.1=q.1->q.2≠1->(t.2.2.1,t.2.2.2)∈wrL:=by decide
def GX.ad:GX->Int| .mk _ _ _ _ ad .. =>ad
def NT (x y:GX):Prop:=match x,y with
 | .mk op _ nm fd ..,.mk _ kd _ _ ad .. =>op=2->(nm,fd,ad,kd)∈BW_
def KX (op kd ad n vk vi:Int) (vf:Nat) (ks:List Int):Prop:=
 (op=1->kd=vk/\1<=vk/\vk<=5/\0<=vi/\vi<50/\(vk=1->vi<=1)/\(vk=5->vi=0)/\(vk≠5->vf=0))/\
 (op=2->(ad,kd)∈uy_)/\
 (op=3->ad=8/\n=4/\kd=2/\∃k,ks=[k]/\(k=2\/k=3))/\
 (4<=op/\op<=14->∃k,ks=[k,k]/\1<=k/\k<=5/\(op<=8->kd=k/\k≠1)/\(9<=op->kd=1)/\(op=8->k≠5)/\(op=11\/op=12->k≠1)/\(13<=op->k=1))/\
 (op=15->kd=1/\ks=[1])/\
 (op=16->ks=[kd]/\2<=kd/\kd<=5)/\
 (op=17->2<=kd/\kd<=5/\∃k,ks=[k]/\2<=k/\k<=5)
def TX:Nat->GX->Prop
 |0,_=>False
 |d+1,.mk op kd nm fd ad n vk vi vf args=>Ari op args.length/\zy_ vf/\1<=kd/\kd<=5/\KX op kd ad n vk vi vf (args.map GX.kd)/\∀a∈args,TX d a
theorem xM_:∀{d e:Nat} {x:GX},d<=e->TX d x->TX e x
 |0,_,_,_,h=>h.elim
 |d+1,0,_,h,_=>by omega
 |d+1,e+1,.mk ..,h,⟨h1,h2,h3,h4,h5,h6⟩=>⟨h1,h2,h3,h4,h5,λa ha=>xM_ (by omega) (h6 a ha)⟩
theorem B8_:∀{d:Nat} {x:GX},TX d x->1<=x.kd/\x.kd<=5
 |0,_,h=>h.elim
 |d+1,.mk ..,h=>⟨h.2.2.1,h.2.2.2.1⟩
theorem uI_ {l:List AV} (h:okL l=true):aX_ (.agg l)=true:=by simp only [aX_];exact b2_ h
theorem zQ_ {d:Nat} (x:GX) (k:Int) (hx:TX d x):∃y,jD_ Tryz.prog 183 [.agg (v_ x),.int .i64 k] (.agg (v_ y))/\TX d y:=by
 obtain ⟨op,kd,nm,fd,ad,n,vk,vi,vf,args⟩:=x;obtain ⟨d,rfl⟩:∃e,d=e+1:=by cases d with|zero=>exact hx.elim|succ d=>exact ⟨d,rfl⟩
 by_cases hc:k=2/\op=1/\kd=3
 .obtain ⟨rfl,rfl,rfl⟩:=hc;obtain ⟨h1,h2,h3,h4,h5,h6⟩:=hx;obtain ⟨q1,q2,q3,q4,q5,q6,q7,q8⟩:=h5.1 rfl;obtain ⟨v,rfl⟩:∃v:Nat,vi=(v:Int):=⟨vi.toNat,by omega⟩;refine ⟨.mk 1 2 nm fd ad n 2 v 0 args,?_,h1,.inl rfl,by decide,by decide,⟨λ_=>⟨rfl,by decide,by decide,q4,q5,λh=>by omega,λh=>by omega,λ_=>rfl⟩,λh=>by omega,λh=>by omega,λh=>by omega,λh=>by omega,λh=>by omega,λh=>by omega⟩,h6⟩;refine uk_ (sh:=[some 10,none]) (ls:=v_ (.mk 1 3 nm fd ad n vk v vf args)++[.int .i64 2]) (c:=DB_) (n:=300) (t:=BT_) mo ov rfl (vJ_ _ _) (uI_ (okX _)) (λY _=>vX_ _) rfl (by kernel_rfl) λY hf hg=>?_;unfold BT_
  (refine b_ rfl rfl ?_ ?_<;>intro h<;>simp only [nc]at h<;>try omega);(refine b_ rfl rfl ?_ ?_<;>intro h<;>simp only [nc]at h<;>try omega);(refine b_ rfl rfl ?_ ?_<;>intro h<;>simp only [nc]at h<;>try omega)
  refine uW_ (k67 v (by omega)) rfl rfl (uX_ rfl)
 .refine ⟨_,?_,hx⟩;refine uk_ (sh:=[some 10,none]) (ls:=v_ (.mk op kd nm fd ad n vk vi vf args)++[.int .i64 k]) (c:=DB_) (n:=300) (t:=BT_) mo ov rfl (vJ_ _ _) (uI_ (okX _)) (λY _=>vX_ _) rfl (by kernel_rfl) λY hf hg=>?_;unfold BT_
  (refine b_ rfl rfl ?_ ?_<;>intro h<;>simp only [nc]at h<;>try omega)
  ·(refine b_ rfl rfl ?_ ?_<;>intro h<;>simp only [nc]at h<;>try omega)
   ·(refine b_ rfl rfl ?_ ?_<;>intro h<;>simp only [nc]at h<;>try omega)
    exact uX_ rfl
   exact uX_ rfl
  exact uX_ rfl
def GX.nm:GX->List UInt8| .mk _ _ nm .. =>nm
def GX.fd:GX->List UInt8| .mk _ _ _ fd .. =>fd
def RL (x:GX):Nat->List AV->Prop:=λ_ ws=>∃ad kd:Int,ws=(match x with| .mk op _ nm fd _ n vk vi vf args=>v_ (.mk op kd nm fd ad n vk vi vf args))++[.int .i64 0]/\(x.nm,x.fd,ad,kd)∈BW_
theorem He_ (op kd:Int) (nm fd:List UInt8) (ad n vk vi:Int) (vf:Nat) (args:List GX) (h:(nm,fd)∈w5_):CF Tryz.prog 184 Ag_ (VARS::v_ (.mk op kd nm fd ad n vk vi vf args)) (RL (.mk op kd nm fd ad n vk vi vf args)):=by
 refine vC_ (c:=Gc_) (n:=300) (t:=E2_) mo ov rfl (λY _=>vX_ _) (by kernel_rfl) λY hf hg=>?_;unfold E2_;simp only [w5_,List.mem_cons,Prod.mk.injEq,List.not_mem_nil,or_false]at h;rcases h with ⟨rfl,rfl⟩|⟨rfl,rfl⟩|⟨rfl,rfl⟩|⟨rfl,rfl⟩|⟨rfl,rfl⟩|⟨rfl,rfl⟩|⟨rfl,rfl⟩|⟨rfl,rfl⟩|⟨rfl,rfl⟩|⟨rfl,rfl⟩|⟨rfl,rfl⟩
 ·(
   refine uW_ As_ rfl rfl (VOK_lt rfl rfl (vz_ rfl (λh=>by cases h) (λ_=>VOK_lt rfl rfl (vz_ rfl (λ_=>?_) (λh=>by cases h)))));refine uW_ Ce_ rfl rfl (VOK_lt rfl rfl (vz_ rfl (λ_=>VOK_lt rfl rfl (uW_ (xb_ true) rfl rfl (VOK_fin ?_ ⟨1,1,rfl,by simp only [GX.nm,GX.fd];decide⟩))) (λh=>by cases h)));exact vJ_ (.mk _ _ _ _ _ _ _ _ _ args) _)
 ·(
   refine uW_ zf_ rfl rfl (VOK_lt rfl rfl (vz_ rfl (λh=>by cases h) (λ_=>VOK_lt rfl rfl (vz_ rfl (λ_=>?_) (λh=>by cases h)))));refine uW_ Ce_ rfl rfl (VOK_lt rfl rfl (vz_ rfl (λ_=>VOK_lt rfl rfl (uW_ (xb_ true) rfl rfl (VOK_fin ?_ ⟨3,1,rfl,by simp only [GX.nm,GX.fd];decide⟩))) (λh=>by cases h)));exact vJ_ (.mk _ _ _ _ _ _ _ _ _ args) _)
 ·(
   refine uW_ np_ rfl rfl (VOK_lt rfl rfl (vz_ rfl (λh=>by cases h) (λ_=>VOK_lt rfl rfl (vz_ rfl (λh=>by cases h) (λ_=>?_)))));refine uW_ Aq_ rfl rfl (VOK_lt rfl rfl (vz_ rfl (λh=>by cases h) (λ_=>VOK_lt rfl rfl (VOK_lt rfl rfl (uW_ wn_ rfl rfl (VOK_lt rfl rfl (vz_ rfl (λh=>by cases h) (λ_=>VOK_fin ?_ ⟨12,1,rfl,by simp only [GX.nm,GX.fd];decide⟩))))))));exact vJ_ (.mk _ _ _ _ _ _ _ _ _ args) _)
 ·(
   refine uW_ Ar_ rfl rfl (VOK_lt rfl rfl (vz_ rfl (λh=>by cases h) (λ_=>VOK_lt rfl rfl (vz_ rfl (λ_=>?_) (λh=>by cases h)))));refine uW_ Ap_ rfl rfl (VOK_lt rfl rfl (vz_ rfl (λ_=>VOK_lt rfl rfl (uW_ (xb_ true) rfl rfl (VOK_fin ?_ ⟨0,2,rfl,by simp only [GX.nm,GX.fd];decide⟩))) (λh=>by cases h)));exact vJ_ (.mk _ _ _ _ _ _ _ _ _ args) _)
 ·(
   refine uW_ zh_ rfl rfl (VOK_lt rfl rfl (vz_ rfl (λh=>by cases h) (λ_=>VOK_lt rfl rfl (vz_ rfl (λ_=>?_) (λh=>by cases h)))));refine uW_ Ap_ rfl rfl (VOK_lt rfl rfl (vz_ rfl (λ_=>VOK_lt rfl rfl (uW_ (xb_ true) rfl rfl (VOK_fin ?_ ⟨4,2,rfl,by simp only [GX.nm,GX.fd];decide⟩))) (λh=>by cases h)));exact vJ_ (.mk _ _ _ _ _ _ _ _ _ args) _)
 ·(
   refine uW_ ze_ rfl rfl (VOK_lt rfl rfl (vz_ rfl (λh=>by cases h) (λ_=>VOK_lt rfl rfl (vz_ rfl (λ_=>?_) (λh=>by cases h)))));refine uW_ Ap_ rfl rfl (VOK_lt rfl rfl (vz_ rfl (λ_=>VOK_lt rfl rfl (uW_ (xb_ true) rfl rfl (VOK_fin ?_ ⟨2,2,rfl,by simp only [GX.nm,GX.fd];decide⟩))) (λh=>by cases h)));exact vJ_ (.mk _ _ _ _ _ _ _ _ _ args) _)
 ·(
   refine uW_ yO_ rfl rfl (VOK_lt rfl rfl (vz_ rfl (λh=>by cases h) (λ_=>VOK_lt rfl rfl (vz_ rfl (λh=>by cases h) (λ_=>?_)))));refine uW_ Cf_ rfl rfl (VOK_lt rfl rfl (vz_ rfl (λh=>by cases h) (λ_=>VOK_lt rfl rfl (VOK_lt rfl rfl (uW_ wF_ rfl rfl (VOK_lt rfl rfl (vz_ rfl (λh=>by cases h) (λ_=>VOK_fin ?_ ⟨17,2,rfl,by simp only [GX.nm,GX.fd];decide⟩))))))));exact vJ_ (.mk _ _ _ _ _ _ _ _ _ args) _)
 ·(
   refine uW_ zi_ rfl rfl (VOK_lt rfl rfl (vz_ rfl (λh=>by cases h) (λ_=>VOK_lt rfl rfl (vz_ rfl (λ_=>?_) (λh=>by cases h)))));refine uW_ DU_ rfl rfl (VOK_lt rfl rfl (vz_ rfl (λ_=>VOK_lt rfl rfl (uW_ (xb_ true) rfl rfl (VOK_fin ?_ ⟨5,3,rfl,by simp only [GX.nm,GX.fd];decide⟩))) (λh=>by cases h)));exact vJ_ (.mk _ _ _ _ _ _ _ _ _ args) _)
 ·(
   refine uW_ np_ rfl rfl (VOK_lt rfl rfl (vz_ rfl (λh=>by cases h) (λ_=>VOK_lt rfl rfl (vz_ rfl (λh=>by cases h) (λ_=>?_)))));refine uW_ Aq_ rfl rfl (VOK_lt rfl rfl (vz_ rfl (λh=>by cases h) (λ_=>VOK_lt rfl rfl (VOK_lt rfl rfl (uW_ vx_ rfl rfl (VOK_lt rfl rfl (vz_ rfl (λh=>by cases h) (λ_=>VOK_fin ?_ ⟨13,4,rfl,by simp only [GX.nm,GX.fd];decide⟩))))))));exact vJ_ (.mk _ _ _ _ _ _ _ _ _ args) _)
 ·(
   refine uW_ zg_ rfl rfl (VOK_lt rfl rfl (vz_ rfl (λh=>by cases h) (λ_=>VOK_lt rfl rfl (vz_ rfl (λ_=>?_) (λh=>by cases h)))));refine uW_ DV_ rfl rfl (VOK_lt rfl rfl (vz_ rfl (λ_=>VOK_lt rfl rfl (uW_ (xb_ true) rfl rfl (VOK_fin ?_ ⟨7,4,rfl,by simp only [GX.nm,GX.fd];decide⟩))) (λh=>by cases h)));exact vJ_ (.mk _ _ _ _ _ _ _ _ _ args) _)
 ·(
   refine uW_ zj_ rfl rfl (VOK_lt rfl rfl (vz_ rfl (λh=>by cases h) (λ_=>VOK_lt rfl rfl (vz_ rfl (λ_=>?_) (λh=>by cases h)))));refine uW_ DW_ rfl rfl (VOK_lt rfl rfl (vz_ rfl (λ_=>VOK_lt rfl rfl (uW_ (xb_ true) rfl rfl (VOK_fin ?_ ⟨6,5,rfl,by simp only [GX.nm,GX.fd];decide⟩))) (λh=>by cases h)));exact vJ_ (.mk _ _ _ _ _ _ _ _ _ args) _)
def F1_:VC:=⟨⟨[],[]⟩,[(182,[(some 10),none,none]),(183,[(some 10)]),(186,[none]),(120,[none])],[(1,[⟨[(4,.ptr 1 0),(3,.ptr 0 0),(9,.slx 2 10 0),(10,.slx 1 0 0),(0,64)],[(1,[J 0,J 0,.str [],.str [],J 0,J 0,J 0,J 0,.flt .f64 0,.nsl]),(0,[65,66,67,68,69,70,71,72,73,74])],3,2,[⟨2,10,0,9,none⟩],[],[]⟩])],0,true,[(149,ft149),(184,Ag_),(185,ft185)]⟩
def ER_:VT:=Iq 65 1 75 (Dn [65,71,67,68,69,70,71,72,73,74,J 0])<|Iq 65 2 76 (Cf 184 Ag_ [64,65,66,67,68,69,70,71,72,73,74] 77 11<|Dn [88,89,90,91,92,93,94,95,96,97,98])<|Iq 65 3 77 (.call 182 [64,67] 78 [(some 10),none,none]<|It Q6 [89] 90 (Dn [65,66,67,68,69,70,71,72,73,74,J 3])<|Iq 81 0 91 (Dn [65,66,67,68,69,70,71,72,73,74,J 4])<|.loop 92 0 [.nsl,J 0] (.cons 2 (Li Qh [74] 94<|It Q5 [93,94] 95 (Li Qg [74,93] 96<|.lt Qm [96] 97 (some 10)<|Cf 149 ft149 [64,97,98,99,100,101,102,103,104,105,106] 107 11<|It Q7 [128,J 0] 129 (Dn [65,66,67,68,69,70,71,72,73,74,128])<|Li Qo [92,.agg [118,119,120,121,122,123,124,125,126,127]] 130<|Li Q3 [93,J 1] 131<|.again 0 0 [130,131])<|Iq 65 3 96 (Cf 185 ft185 [64,65,66,67,68,69,70,71,72,73,74,92] 97 11<|Dn [109,110,111,112,113,114,115,116,117,118,119])<|Li Q2 [92,J 0] 97<|Li Ql [92,97] 98<|Iq 65 17 99 (Iq 98 1 100 (Dn [65,66,67,68,69,70,71,72,73,74,J 4])<|Iq 66 1 101 (Dn [65,66,67,68,69,70,71,72,73,74,J 4])<|Dn [65,66,67,68,69,70,71,72,73,92,J 0])<|Iq 65 15 100 (Li Q0 [98,J 1] 101<|.call 186 [101] 102 [none]<|Dn [65,J 1,67,68,69,70,71,72,73,92,102])<|Iq 65 16 101 (Li Q1 [98,J 1] 102<|.call 186 [102] 103 [none]<|Dn [65,98,67,68,69,70,71,72,73,92,103])<|It Q4 [65,J 4] 102 (It Q8 [65,J 12] 103 (Li Q2 [92,J 0] 104<|.lt Zq [92,104] 105 (some 10)<|Li Q2 [92,J 1] 115<|Li Ql [92,115] 116<|.call 183 [.agg [105,106,107,108,109,110,111,112,113,114],116] 117 [(some 10)]<|Li Q2 [92,J 1] 127<|.lt Zq [92,127] 128 (some 10)<|Li Q2 [92,J 0] 138<|Li Ql [92,138] 139<|.call 183 [.agg [128,129,130,131,132,133,134,135,136,137],139] 140 [(some 10)]<|Li Q2 [92,J 0] 150<|Li Zr [92,150,.agg [117,118,119,120,121,122,123,124,125,126]] 151<|Li Q2 [92,J 1] 152<|Li Zr [151,152,.agg [140,141,142,143,144,145,146,147,148,149]] 153<|Li Q2 [92,J 0] 154<|Li Ql [153,154] 155<|Li Q2 [92,J 1] 156<|Li Ql [153,156] 157<|Li Q9 [155,157] 158<|Iq 65 4 159 (.ite 158 (Li Q1 [155,J 1] 160<|.call 186 [160] 161 [none]<|.chk (.same 92 153)<|Dn [65,155,67,68,69,70,71,72,73,153,161])<|.call 186 [.bool false] 160 [none]<|.chk (.same 92 153)<|Dn [65,155,67,68,69,70,71,72,73,153,160])<|Iq 65 5 160 (.ite 158 (Li Q1 [155,J 1] 161<|.call 186 [161] 162 [none]<|.chk (.same 92 153)<|Dn [65,155,67,68,69,70,71,72,73,153,162])<|.call 186 [.bool false] 161 [none]<|.chk (.same 92 153)<|Dn [65,155,67,68,69,70,71,72,73,153,161])<|Iq 65 6 161 (.ite 158 (Li Q1 [155,J 1] 162<|.call 186 [162] 163 [none]<|.chk (.same 92 153)<|Dn [65,155,67,68,69,70,71,72,73,153,163])<|.call 186 [.bool false] 162 [none]<|.chk (.same 92 153)<|Dn [65,155,67,68,69,70,71,72,73,153,162])<|Iq 65 7 162 (.ite 158 (Li Q1 [155,J 1] 163<|.call 186 [163] 164 [none]<|.chk (.same 92 153)<|Dn [65,155,67,68,69,70,71,72,73,153,164])<|.call 186 [.bool false] 163 [none]<|.chk (.same 92 153)<|Dn [65,155,67,68,69,70,71,72,73,153,163])<|Iq 65 8 163 (.ite 158 (.call 120 [155] 164 [none]<|.call 186 [164] 165 [none]<|.chk (.same 92 153)<|Dn [65,155,67,68,69,70,71,72,73,153,165])<|.call 186 [.bool false] 164 [none]<|.chk (.same 92 153)<|Dn [65,155,67,68,69,70,71,72,73,153,164])<|Iq 65 9 164 (.call 186 [158] 165 [none]<|.chk (.same 92 153)<|Dn [65,J 1,67,68,69,70,71,72,73,153,165])<|Iq 65 10 165 (.call 186 [158] 166 [none]<|.chk (.same 92 153)<|Dn [65,J 1,67,68,69,70,71,72,73,153,166])<|Iq 65 11 166 (.ite 158 (Li Q1 [155,J 1] 167<|.call 186 [167] 168 [none]<|.chk (.same 92 153)<|Dn [65,J 1,67,68,69,70,71,72,73,153,168])<|.call 186 [.bool false] 167 [none]<|.chk (.same 92 153)<|Dn [65,J 1,67,68,69,70,71,72,73,153,167])<|Iq 65 12 167 (.ite 158 (Li Q1 [155,J 1] 168<|.call 186 [168] 169 [none]<|.chk (.same 92 153)<|Dn [65,J 1,67,68,69,70,71,72,73,153,169])<|.call 186 [.bool false] 168 [none]<|.chk (.same 92 153)<|Dn [65,J 1,67,68,69,70,71,72,73,153,168])<|.ite 158 (Li Q0 [155,J 1] 168<|.call 186 [168] 169 [none]<|.chk (.same 92 153)<|Dn [65,J 1,67,68,69,70,71,72,73,153,169])<|.call 186 [.bool false] 168 [none]<|.chk (.same 92 153)<|Dn [65,J 1,67,68,69,70,71,72,73,153,168])<|Li Q2 [92,J 1] 104<|Li Ql [92,104] 105<|Li Q9 [98,105] 106<|Iq 65 4 107 (.ite 106 (Li Q1 [98,J 1] 108<|.call 186 [108] 109 [none]<|Dn [65,98,67,68,69,70,71,72,73,92,109])<|.call 186 [.bool false] 108 [none]<|Dn [65,98,67,68,69,70,71,72,73,92,108])<|Iq 65 5 108 (.ite 106 (Li Q1 [98,J 1] 109<|.call 186 [109] 110 [none]<|Dn [65,98,67,68,69,70,71,72,73,92,110])<|.call 186 [.bool false] 109 [none]<|Dn [65,98,67,68,69,70,71,72,73,92,109])<|Iq 65 6 109 (.ite 106 (Li Q1 [98,J 1] 110<|.call 186 [110] 111 [none]<|Dn [65,98,67,68,69,70,71,72,73,92,111])<|.call 186 [.bool false] 110 [none]<|Dn [65,98,67,68,69,70,71,72,73,92,110])<|Iq 65 7 110 (.ite 106 (Li Q1 [98,J 1] 111<|.call 186 [111] 112 [none]<|Dn [65,98,67,68,69,70,71,72,73,92,112])<|.call 186 [.bool false] 111 [none]<|Dn [65,98,67,68,69,70,71,72,73,92,111])<|Iq 65 8 111 (.ite 106 (.call 120 [98] 112 [none]<|.call 186 [112] 113 [none]<|Dn [65,98,67,68,69,70,71,72,73,92,113])<|.call 186 [.bool false] 112 [none]<|Dn [65,98,67,68,69,70,71,72,73,92,112])<|Iq 65 9 112 (.call 186 [106] 113 [none]<|Dn [65,J 1,67,68,69,70,71,72,73,92,113])<|Iq 65 10 113 (.call 186 [106] 114 [none]<|Dn [65,J 1,67,68,69,70,71,72,73,92,114])<|Iq 65 11 114 (.ite 106 (Li Q1 [98,J 1] 115<|.call 186 [115] 116 [none]<|Dn [65,J 1,67,68,69,70,71,72,73,92,116])<|.call 186 [.bool false] 115 [none]<|Dn [65,J 1,67,68,69,70,71,72,73,92,115])<|Iq 65 12 115 (.ite 106 (Li Q1 [98,J 1] 116<|.call 186 [116] 117 [none]<|Dn [65,J 1,67,68,69,70,71,72,73,92,117])<|.call 186 [.bool false] 116 [none]<|Dn [65,J 1,67,68,69,70,71,72,73,92,116])<|.ite 106 (Li Q0 [98,J 1] 116<|.call 186 [116] 117 [none]<|Dn [65,J 1,67,68,69,70,71,72,73,92,117])<|.call 186 [.bool false] 116 [none]<|Dn [65,J 1,67,68,69,70,71,72,73,92,116])<|Li Q2 [92,J 1] 103<|Li Ql [92,103] 104<|Li Q9 [98,104] 105<|Iq 65 4 106 (.ite 105 (Li Q1 [98,J 1] 107<|.call 186 [107] 108 [none]<|Dn [65,98,67,68,69,70,71,72,73,92,108])<|.call 186 [.bool false] 107 [none]<|Dn [65,98,67,68,69,70,71,72,73,92,107])<|Iq 65 5 107 (.ite 105 (Li Q1 [98,J 1] 108<|.call 186 [108] 109 [none]<|Dn [65,98,67,68,69,70,71,72,73,92,109])<|.call 186 [.bool false] 108 [none]<|Dn [65,98,67,68,69,70,71,72,73,92,108])<|Iq 65 6 108 (.ite 105 (Li Q1 [98,J 1] 109<|.call 186 [109] 110 [none]<|Dn [65,98,67,68,69,70,71,72,73,92,110])<|.call 186 [.bool false] 109 [none]<|Dn [65,98,67,68,69,70,71,72,73,92,109])<|Iq 65 7 109 (.ite 105 (Li Q1 [98,J 1] 110<|.call 186 [110] 111 [none]<|Dn [65,98,67,68,69,70,71,72,73,92,111])<|.call 186 [.bool false] 110 [none]<|Dn [65,98,67,68,69,70,71,72,73,92,110])<|Iq 65 8 110 (.ite 105 (.call 120 [98] 111 [none]<|.call 186 [111] 112 [none]<|Dn [65,98,67,68,69,70,71,72,73,92,112])<|.call 186 [.bool false] 111 [none]<|Dn [65,98,67,68,69,70,71,72,73,92,111])<|Iq 65 9 111 (.call 186 [105] 112 [none]<|Dn [65,J 1,67,68,69,70,71,72,73,92,112])<|Iq 65 10 112 (.call 186 [105] 113 [none]<|Dn [65,J 1,67,68,69,70,71,72,73,92,113])<|Iq 65 11 113 (.ite 105 (Li Q1 [98,J 1] 114<|.call 186 [114] 115 [none]<|Dn [65,J 1,67,68,69,70,71,72,73,92,115])<|.call 186 [.bool false] 114 [none]<|Dn [65,J 1,67,68,69,70,71,72,73,92,114])<|Iq 65 12 114 (.ite 105 (Li Q1 [98,J 1] 115<|.call 186 [115] 116 [none]<|Dn [65,J 1,67,68,69,70,71,72,73,92,116])<|.call 186 [.bool false] 115 [none]<|Dn [65,J 1,67,68,69,70,71,72,73,92,115])<|.ite 105 (Li Q0 [98,J 1] 115<|.call 186 [115] 116 [none]<|Dn [65,J 1,67,68,69,70,71,72,73,92,116])<|.call 186 [.bool false] 115 [none]<|Dn [65,J 1,67,68,69,70,71,72,73,92,115]) .nil))<|.loop 78 0 [.nsl,J 0] (.cons 2 (Li Qh [74] 80<|It Q5 [79,80] 81 (Li Qg [74,79] 82<|.lt Qm [82] 83 (some 10)<|Cf 149 ft149 [64,83,84,85,86,87,88,89,90,91,92] 93 11<|It Q7 [114,J 0] 115 (Dn [65,66,67,68,69,70,71,72,73,74,114])<|Li Qo [78,.agg [104,105,106,107,108,109,110,111,112,113]] 116<|Li Q3 [79,J 1] 117<|.again 0 0 [116,117])<|Iq 65 3 82 (Cf 185 ft185 [64,65,66,67,68,69,70,71,72,73,74,78] 83 11<|Dn [95,96,97,98,99,100,101,102,103,104,105])<|Li Q2 [78,J 0] 83<|Li Ql [78,83] 84<|Iq 65 17 85 (Iq 84 1 86 (Dn [65,66,67,68,69,70,71,72,73,74,J 4])<|Iq 66 1 87 (Dn [65,66,67,68,69,70,71,72,73,74,J 4])<|Dn [65,66,67,68,69,70,71,72,73,78,J 0])<|Iq 65 15 86 (Li Q0 [84,J 1] 87<|.call 186 [87] 88 [none]<|Dn [65,J 1,67,68,69,70,71,72,73,78,88])<|Iq 65 16 87 (Li Q1 [84,J 1] 88<|.call 186 [88] 89 [none]<|Dn [65,84,67,68,69,70,71,72,73,78,89])<|It Q4 [65,J 4] 88 (It Q8 [65,J 12] 89 (Li Q2 [78,J 0] 90<|.lt Zq [78,90] 91 (some 10)<|Li Q2 [78,J 1] 101<|Li Ql [78,101] 102<|.call 183 [.agg [91,92,93,94,95,96,97,98,99,100],102] 103 [(some 10)]<|Li Q2 [78,J 1] 113<|.lt Zq [78,113] 114 (some 10)<|Li Q2 [78,J 0] 124<|Li Ql [78,124] 125<|.call 183 [.agg [114,115,116,117,118,119,120,121,122,123],125] 126 [(some 10)]<|Li Q2 [78,J 0] 136<|Li Zr [78,136,.agg [103,104,105,106,107,108,109,110,111,112]] 137<|Li Q2 [78,J 1] 138<|Li Zr [137,138,.agg [126,127,128,129,130,131,132,133,134,135]] 139<|Li Q2 [78,J 0] 140<|Li Ql [139,140] 141<|Li Q2 [78,J 1] 142<|Li Ql [139,142] 143<|Li Q9 [141,143] 144<|Iq 65 4 145 (.ite 144 (Li Q1 [141,J 1] 146<|.call 186 [146] 147 [none]<|.chk (.same 78 139)<|Dn [65,141,67,68,69,70,71,72,73,139,147])<|.call 186 [.bool false] 146 [none]<|.chk (.same 78 139)<|Dn [65,141,67,68,69,70,71,72,73,139,146])<|Iq 65 5 146 (.ite 144 (Li Q1 [141,J 1] 147<|.call 186 [147] 148 [none]<|.chk (.same 78 139)<|Dn [65,141,67,68,69,70,71,72,73,139,148])<|.call 186 [.bool false] 147 [none]<|.chk (.same 78 139)<|Dn [65,141,67,68,69,70,71,72,73,139,147])<|Iq 65 6 147 (.ite 144 (Li Q1 [141,J 1] 148<|.call 186 [148] 149 [none]<|.chk (.same 78 139)<|Dn [65,141,67,68,69,70,71,72,73,139,149])<|.call 186 [.bool false] 148 [none]<|.chk (.same 78 139)<|Dn [65,141,67,68,69,70,71,72,73,139,148])<|Iq 65 7 148 (.ite 144 (Li Q1 [141,J 1] 149<|.call 186 [149] 150 [none]<|.chk (.same 78 139)<|Dn [65,141,67,68,69,70,71,72,73,139,150])<|.call 186 [.bool false] 149 [none]<|.chk (.same 78 139)<|Dn [65,141,67,68,69,70,71,72,73,139,149])<|Iq 65 8 149 (.ite 144 (.call 120 [141] 150 [none]<|.call 186 [150] 151 [none]<|.chk (.same 78 139)<|Dn [65,141,67,68,69,70,71,72,73,139,151])<|.call 186 [.bool false] 150 [none]<|.chk (.same 78 139)<|Dn [65,141,67,68,69,70,71,72,73,139,150])<|Iq 65 9 150 (.call 186 [144] 151 [none]<|.chk (.same 78 139)<|Dn [65,J 1,67,68,69,70,71,72,73,139,151])<|Iq 65 10 151 (.call 186 [144] 152 [none]<|.chk (.same 78 139)<|Dn [65,J 1,67,68,69,70,71,72,73,139,152])<|Iq 65 11 152 (.ite 144 (Li Q1 [141,J 1] 153<|.call 186 [153] 154 [none]<|.chk (.same 78 139)<|Dn [65,J 1,67,68,69,70,71,72,73,139,154])<|.call 186 [.bool false] 153 [none]<|.chk (.same 78 139)<|Dn [65,J 1,67,68,69,70,71,72,73,139,153])<|Iq 65 12 153 (.ite 144 (Li Q1 [141,J 1] 154<|.call 186 [154] 155 [none]<|.chk (.same 78 139)<|Dn [65,J 1,67,68,69,70,71,72,73,139,155])<|.call 186 [.bool false] 154 [none]<|.chk (.same 78 139)<|Dn [65,J 1,67,68,69,70,71,72,73,139,154])<|.ite 144 (Li Q0 [141,J 1] 154<|.call 186 [154] 155 [none]<|.chk (.same 78 139)<|Dn [65,J 1,67,68,69,70,71,72,73,139,155])<|.call 186 [.bool false] 154 [none]<|.chk (.same 78 139)<|Dn [65,J 1,67,68,69,70,71,72,73,139,154])<|Li Q2 [78,J 1] 90<|Li Ql [78,90] 91<|Li Q9 [84,91] 92<|Iq 65 4 93 (.ite 92 (Li Q1 [84,J 1] 94<|.call 186 [94] 95 [none]<|Dn [65,84,67,68,69,70,71,72,73,78,95])<|.call 186 [.bool false] 94 [none]<|Dn [65,84,67,68,69,70,71,72,73,78,94])<|Iq 65 5 94 (.ite 92 (Li Q1 [84,J 1] 95<|.call 186 [95] 96 [none]<|Dn [65,84,67,68,69,70,71,72,73,78,96])<|.call 186 [.bool false] 95 [none]<|Dn [65,84,67,68,69,70,71,72,73,78,95])<|Iq 65 6 95 (.ite 92 (Li Q1 [84,J 1] 96<|.call 186 [96] 97 [none]<|Dn [65,84,67,68,69,70,71,72,73,78,97])<|.call 186 [.bool false] 96 [none]<|Dn [65,84,67,68,69,70,71,72,73,78,96])<|Iq 65 7 96 (.ite 92 (Li Q1 [84,J 1] 97<|.call 186 [97] 98 [none]<|Dn [65,84,67,68,69,70,71,72,73,78,98])<|.call 186 [.bool false] 97 [none]<|Dn [65,84,67,68,69,70,71,72,73,78,97])<|Iq 65 8 97 (.ite 92 (.call 120 [84] 98 [none]<|.call 186 [98] 99 [none]<|Dn [65,84,67,68,69,70,71,72,73,78,99])<|.call 186 [.bool false] 98 [none]<|Dn [65,84,67,68,69,70,71,72,73,78,98])<|Iq 65 9 98 (.call 186 [92] 99 [none]<|Dn [65,J 1,67,68,69,70,71,72,73,78,99])<|Iq 65 10 99 (.call 186 [92] 100 [none]<|Dn [65,J 1,67,68,69,70,71,72,73,78,100])<|Iq 65 11 100 (.ite 92 (Li Q1 [84,J 1] 101<|.call 186 [101] 102 [none]<|Dn [65,J 1,67,68,69,70,71,72,73,78,102])<|.call 186 [.bool false] 101 [none]<|Dn [65,J 1,67,68,69,70,71,72,73,78,101])<|Iq 65 12 101 (.ite 92 (Li Q1 [84,J 1] 102<|.call 186 [102] 103 [none]<|Dn [65,J 1,67,68,69,70,71,72,73,78,103])<|.call 186 [.bool false] 102 [none]<|Dn [65,J 1,67,68,69,70,71,72,73,78,102])<|.ite 92 (Li Q0 [84,J 1] 102<|.call 186 [102] 103 [none]<|Dn [65,J 1,67,68,69,70,71,72,73,78,103])<|.call 186 [.bool false] 102 [none]<|Dn [65,J 1,67,68,69,70,71,72,73,78,102])<|Li Q2 [78,J 1] 89<|Li Ql [78,89] 90<|Li Q9 [84,90] 91<|Iq 65 4 92 (.ite 91 (Li Q1 [84,J 1] 93<|.call 186 [93] 94 [none]<|Dn [65,84,67,68,69,70,71,72,73,78,94])<|.call 186 [.bool false] 93 [none]<|Dn [65,84,67,68,69,70,71,72,73,78,93])<|Iq 65 5 93 (.ite 91 (Li Q1 [84,J 1] 94<|.call 186 [94] 95 [none]<|Dn [65,84,67,68,69,70,71,72,73,78,95])<|.call 186 [.bool false] 94 [none]<|Dn [65,84,67,68,69,70,71,72,73,78,94])<|Iq 65 6 94 (.ite 91 (Li Q1 [84,J 1] 95<|.call 186 [95] 96 [none]<|Dn [65,84,67,68,69,70,71,72,73,78,96])<|.call 186 [.bool false] 95 [none]<|Dn [65,84,67,68,69,70,71,72,73,78,95])<|Iq 65 7 95 (.ite 91 (Li Q1 [84,J 1] 96<|.call 186 [96] 97 [none]<|Dn [65,84,67,68,69,70,71,72,73,78,97])<|.call 186 [.bool false] 96 [none]<|Dn [65,84,67,68,69,70,71,72,73,78,96])<|Iq 65 8 96 (.ite 91 (.call 120 [84] 97 [none]<|.call 186 [97] 98 [none]<|Dn [65,84,67,68,69,70,71,72,73,78,98])<|.call 186 [.bool false] 97 [none]<|Dn [65,84,67,68,69,70,71,72,73,78,97])<|Iq 65 9 97 (.call 186 [91] 98 [none]<|Dn [65,J 1,67,68,69,70,71,72,73,78,98])<|Iq 65 10 98 (.call 186 [91] 99 [none]<|Dn [65,J 1,67,68,69,70,71,72,73,78,99])<|Iq 65 11 99 (.ite 91 (Li Q1 [84,J 1] 100<|.call 186 [100] 101 [none]<|Dn [65,J 1,67,68,69,70,71,72,73,78,101])<|.call 186 [.bool false] 100 [none]<|Dn [65,J 1,67,68,69,70,71,72,73,78,100])<|Iq 65 12 100 (.ite 91 (Li Q1 [84,J 1] 101<|.call 186 [101] 102 [none]<|Dn [65,J 1,67,68,69,70,71,72,73,78,102])<|.call 186 [.bool false] 101 [none]<|Dn [65,J 1,67,68,69,70,71,72,73,78,101])<|.ite 91 (Li Q0 [84,J 1] 101<|.call 186 [101] 102 [none]<|Dn [65,J 1,67,68,69,70,71,72,73,78,102])<|.call 186 [.bool false] 101 [none]<|Dn [65,J 1,67,68,69,70,71,72,73,78,101]) .nil)
theorem AK_ (k:Int):jD_ Tryz.prog 120 [.int .i64 k] (.bool (decide (k=2\/k=3\/k=4))):=by
 refine uk_ (sh:=[none]) (ls:=[.int .i64 k]) (c:=FU_) (n:=300) (t:=EK_) mo ov rfl rfl rfl (λY _=>vX_ _) rfl (by kernel_rfl) λY hf hg=>?_;unfold EK_
 (refine b_ rfl rfl ?_ ?_<;>intro h<;>simp only [nc]at h<;>try omega)
 .refine uX_ ?_;show AV.bool _=_
  congr 1;symm;simp only [decide_eq_true_eq];omega
 (refine b_ rfl rfl ?_ ?_<;>intro h<;>simp only [nc]at h<;>try omega)
 .refine uX_ ?_;show AV.bool _=_
  congr 1;symm;simp only [decide_eq_true_eq];omega
 refine VOK_lt (run_eql ..) rfl (uX_ ?_);show AV.bool _=_
 congr 1
 refine decide_eq_decide.2 ?_;omega
theorem Bf_ {b:Bool} (h:(if b=true then (0:Int)else 4)=0):b=true:=by
 cases b with
 |true=>rfl
 |false=>simp at h
section
variable {P:Program} {Q:AV->Prop} {L:List (Nat->List AV->Prop)} {Y:Sy} {i:Nat} {A B:VT}
theorem xq_ {p:Prop} [Decidable p] (h0:Y.v i=some (.bool (decide p))) (h1:p->VOK P Q L Y A) (h2:¬p->VOK P Q L Y B):VOK P Q L Y (.ite i A B):=
 vz_ h0 (λh=>h1 (of_decide_eq_true h)) (λh=>h2 (of_decide_eq_false h))
end
def RE (d:Nat) (x:GX):Nat->List AV->Prop:=λ_ ws=>∃(y:GX) (e:Int),ws=v_ y++[.int .i64 e]/\(e=0->TX d y/\y.op=x.op/\NT x y)
theorem wf_ {d j:Nat} {x y:GX} {e:Int} {hv:List AV} {Y:Sy} {L:List (Nat->List AV->Prop)} (h:ab_ Y.v hv=v_ y++[.int .i64 e]) (hw:e=0->TX d y/\y.op=x.op/\NT x y):VOK Tryz.prog (QF (RE d x)) L Y (.done (.tup (.int .i64 (.ofNat j)::hv))):=
 VOK_fin (by rw [h];exact vJ_ y e) ⟨y,e,h,hw⟩
def RM (x:GX) (k:Int):Nat->List AV->Prop:=λ_ ws=>∃e:Int,ws=(match x with| .mk op _ nm fd _ _ vk vi vf args=>v_ (.mk op 2 nm fd 8 4 vk vi vf args))++[.int .i64 e]/\(e=0->k=2\/k=3)
theorem Hf_ (op kd:Int) (nm fd:List UInt8) (ad n vk vi:Int) (vf:Nat) (args:List GX) (y:GX) (h:nm=[107]):CF Tryz.prog 185 ft185 (VARS::(v_ (.mk op kd nm fd ad n vk vi vf args)++[bw_ [y]])) (RM (.mk op kd nm fd ad n vk vi vf [y]) y.kd):=by
 subst h;obtain ⟨yo,yk,ynm,yfd,yad,yn,yvk,yvi,yvf,ya⟩:=y;refine vC_ (c:=Gd_) (n:=300) (t:=E3_) mo ov rfl (λY _=>vX_ _) (by kernel_rfl) λY hf hg=>?_;unfold E3_;refine uW_ xV_ rfl rfl (VOK_lt rfl rfl (vz_ rfl (λh=>by cases h) (λ_=>VOK_lt rfl rfl (vz_ rfl (λ_=>?_) (λh=>by cases h)))));refine VOK_lt (r:=.vptr (v_ (.mk yo yk ynm yfd yad yn yvk yvi yvf ya)++vD_ [])) rfl (by show okL _=true;exact kY_.okL_join (okX _) (yp_ _)) ?_;refine VOK_lt (r:=.vptr [.int .i64 yk,.str ynm,.str yfd,.int .i64 yad,.int .i64 yn,.int .i64 yvk,.int .i64 yvi,.flt .f64 yvf,bw_ ya]) rfl (by simp only [okC,okL,okA]) (VOK_lt (r:=.int .i64 yk) rfl rfl ?_)
 (refine b_ rfl rfl ?_ ?_<;>intro h<;>simp only [nc]at h<;>try omega)
 refine uW_ (xb_ true) rfl rfl (VOK_fin (by show okL (v_ (.mk op 2 [107] fd 8 4 vk vi vf [_])++[_])=true;exact vJ_ _ _) ⟨_,rfl,λ_=>.inl h⟩);refine VOK_lt (r:=.vptr (v_ (.mk yo yk ynm yfd yad yn yvk yvi yvf ya)++vD_ [])) rfl (by show okL _=true;exact kY_.okL_join (okX _) (yp_ _)) ?_;refine VOK_lt (r:=.vptr [.int .i64 yk,.str ynm,.str yfd,.int .i64 yad,.int .i64 yn,.int .i64 yvk,.int .i64 yvi,.flt .f64 yvf,bw_ ya]) rfl (by simp only [okC,okL,okA]) (VOK_lt (r:=.int .i64 yk) rfl rfl ?_);refine VOK_lt (run_eql ..) rfl (uW_ (xb_ _) rfl rfl (VOK_fin (by show okL (v_ (.mk op 2 [107] fd 8 4 vk vi vf [_])++[_])=true;exact vJ_ _ _) ⟨_,rfl,λh=>.inr ?_⟩));exact of_decide_eq_true (Bf_ h)
theorem D_ (l:List GX):(XOp.len 106).run Tryz.prog [bw_ l]=some (.int .i64 (l.length:Int)):=by rw [v4_];exact uq_ Tryz.underlying106 l
theorem nq_ (l:List GX) {i:Nat} (h:i<l.length):(XOp.iaddr 106).run Tryz.prog [bw_ l,.int .i64 (i:Int)]=some (.vptr (bi_ v_ (l.drop i))):=by rw [v4_];exact run_iaddr_sl (e:=108) (ti:=(Tryz.prog.info? 108).get!) Tryz.underlying106 (by kernel_rfl) (by kernel_rfl) nV_ h .i64
theorem nr_ (l:List GX) {i:Nat} (h:i<l.length):(XOp.load 108).run Tryz.prog [.vptr (bi_ v_ (l.drop i))]=some (.agg (v_ l[i])):=
 run_load_agg (ti:=(Tryz.prog.info? 108).get!) Tryz.underlying108 rfl (by kernel_rfl) (by kernel_rfl) nV_ h
theorem X_ (l:List GX) (s:GX) (hl:l.length<=100000):(XOp.app 10 112).run Tryz.prog [bw_ l,.agg (v_ s)]=some (bw_ (l++[s])):=by rw [v4_,v4_];exact un_ nV_ (by decide) (by decide) l s (by omega)
theorem xF_ (l:List GX) {i:Nat} (hi:i<l.length) (y:GX) (k:IntKind):(XOp.stx 108 10 0).run Tryz.prog [bw_ l,.int k (i:Int),.agg (v_ y)]=some (bw_ (l.set i y)):=by rw [v4_,v4_];exact run_stx (ti:=(Tryz.prog.info? 108).get!) nV_ hi (p:=[]) (q:=v_ l[i]) (r:=[]) (xs:=v_ y) rfl (.inl rfl) (by kernel_rfl) (by rw [nV_];kernel_rfl) (wy_ (okX _)) (by simp) rfl (by rw [nV_,nV_]) (by simp) k
theorem zM_ (x:GX):okL (v_ x++[])=true:=by rw [List.append_nil];exact okX x
def typ (b:Bool):Int:=if b=true then 0 else 4
theorem Be_ {b:Bool} (h:typ b=0):b=true:=Bf_ h
theorem AL_ (b:Bool):jD_ Tryz.prog 186 [.bool b] (.int .i64 (typ b)):=xb_ b
attribute [irreducible] typ
theorem TX1 {d:Nat} {op kd ad n vk vi:Int} {nm fd:List UInt8} {vf:Nat} {y:GX} (hf:zy_ vf) (hy:TX d y) (ho:op=15/\kd=1/\y.kd=1\/op=16/\kd=y.kd/\y.kd≠1\/op=17/\2<=kd/\kd<=5/\y.kd≠1):TX (d+1) (.mk op kd nm fd ad n vk vi vf [y]):=by have hk:=B8_ hy;refine ⟨.inr (.inl ⟨by omega,rfl⟩),hf,by omega,by omega,⟨λh=>by omega,λh=>by omega,λh=>by omega,λh=>by omega,λh=>?_,λh=>?_,λh=>?_⟩,λa ha=>by cases List.mem_singleton.1 ha;exact hy⟩;exact ⟨by omega,by show [y.kd]=[1];congr 1;omega⟩;exact ⟨by show [y.kd]=[kd];congr 1;omega,by omega,by omega⟩;exact ⟨by omega,by omega,y.kd,rfl,by omega,by omega⟩
theorem TX2 {d:Nat} {op kd ad n vk vi:Int} {nm fd:List UInt8} {vf:Nat} {y z:GX} (hf:zy_ vf) (hy:TX d y) (hz:TX d z) (ho:4<=op/\op<=14) (hk:y.kd=z.kd) (h1:op<=8->kd=y.kd/\y.kd≠1) (h2:9<=op->kd=1) (h3:op=8->y.kd≠5) (h4:op=11\/op=12->y.kd≠1) (h5:13<=op->y.kd=1):TX (d+1) (.mk op kd nm fd ad n vk vi vf [y,z]):=by
 have hy1:=B8_ hy
 refine ⟨.inr (.inr ⟨ho,rfl⟩),hf,by omega,by omega,⟨λh=>by omega,λh=>by omega,λh=>by omega,λh=>?_,λh=>by omega,λh=>by omega,λh=>by omega⟩,λa ha=>by
  rcases List.mem_cons.1 ha with rfl|ha;exact hy
  .cases List.mem_singleton.1 ha;exact hz⟩
 exact ⟨y.kd,by show [y.kd,z.kd]=_;rw [←hk],hy1.1,hy1.2,h1,h2,h3,h4,h5⟩
theorem yW_:∀(d:Nat) (x:GX),WX d x->CF Tryz.prog 149 ft149 (VARS::v_ x) (RE d x)
 |0,_,h=>h.elim
 |d+1,.mk op kd nm fd ad n vk vi vf args,hx=>by
  obtain ⟨hA,hF,⟨n1,n2,n3,n4⟩,hW⟩:=hx;have ih:=λ(z:GX) (hz:z∈args)=>yW_ d z (hW z hz);have hal:args.length<=2:=(by unfold Ari at hA;omega);refine vC_ (c:=F1_) (n:=300) (t:=ER_) mo ov rfl (λY _=>vX_ _) (by kernel_rfl) λY hf hg=>?_;unfold ER_
  (refine b_ rfl rfl ?_ ?_<;>intro h<;>simp only [nc]at h<;>try omega)
  .subst h;have hl:args=[]:=(by unfold Ari at hA;exact List.length_eq_zero_iff.1 (by omega));subst hl;refine wf_ (y:=.mk 1 vk nm fd ad n vk vi vf []) rfl (λ_=>⟨⟨hA,hF,?_,?_,?_,λa ha=>(za' ha).elim⟩,rfl,λh=>by omega⟩);all_goals obtain ⟨m1,m2,m3,m4,m5,m6⟩:=n1 rfl
   omega;omega;exact ⟨λ_=>⟨rfl,by omega,by omega,m2,m3,m4,m5,m6⟩,λh=>by omega,λh=>by omega,λh=>by omega,λh=>by omega,λh=>by omega,λh=>by omega⟩
  (refine b_ rfl rfl ?_ ?_<;>intro h<;>simp only [nc]at h<;>try omega)
  subst h;have hl:args=[]:=(by unfold Ari at hA;exact List.length_eq_zero_iff.1 (by omega));subst hl;refine a_ (He_ 2 kd nm fd ad n vk vi vf [] (n2 rfl)) rfl (by show okL (VARS::v_ (.mk 2 kd nm fd ad n vk vi vf []))=true;rw [aY_];exact okX _) ⟨?_,trivial⟩;rintro ws ⟨ad1,kd1,rfl,hc⟩;have hc':(ad1,kd1)∈uy_:=tie_cells _ hc;refine wf_ (y:=.mk 2 kd1 nm fd ad1 n vk vi vf []) rfl (λ_=>⟨⟨hA,hF,?_,?_,⟨λh=>by omega,λ_=>hc',λh=>by omega,λh=>by omega,λh=>by omega,λh=>by omega,λh=>by omega⟩,λa ha=>(za' ha).elim⟩,rfl,λ_=>hc⟩);simp [uy_]at hc';omega;simp [uy_]at hc';omega
  (refine b_ rfl rfl ?_ ?_<;>intro h<;>simp only [nc]at h<;>try omega)
  .subst h;cases n3 rfl;refine uW_ xV_ rfl rfl (VOK_lt rfl rfl (vz_ rfl (λh=>by cases h) (λ_=>VOK_lt rfl rfl (vz_ rfl (λh=>by cases h) (λ_=>?_)))));refine uY_ (ι:=List GX×Nat) (λs=>[bw_ s.1,.int .i64 (s.2:Int)]) (λs=>s.1.length=s.2/\s.2<=args.length/\∀a∈s.1,TX d a) (λs=>args.length-s.2) ([],0) ⟨rfl,zb' _,λa ha=>(za' ha).elim⟩ rfl (λs _=>by simp only [okL,okC,okA]) (λs s' _ _ h=>by simp at h;omega) (λs hs=>?_);obtain ⟨acc,i⟩:=s;obtain ⟨h1,h2,h3⟩:=hs;simp only at h1 h2 h3⊢;refine VOK_lt (D_ args) rfl ?_
   (refine b_ rfl rfl ?_ ?_<;>intro h<;>simp only [nc]at h<;>try omega)
   .have hi:i<args.length:=(by omega);have hld:=nr_ args hi;have hz:=ih args[i] (zc' hi);rcases hzz:args[i]with ⟨zo,zk,znm,zfd,zad,zn,zvk,zvi,zvf,za⟩;rw [hzz]at hld hz;refine VOK_lt (nq_ args hi) (kY_ okX _) (vA_ hld rfl (okX _) ?_);refine a_ hz rfl (by show okL (VARS::v_ (.mk zo zk znm zfd zad zn zvk zvi zvf za))=true;rw [aY_];exact okX _) ⟨?_,trivial⟩;rintro ws ⟨⟨yo,yk,ynm,yfd,yad,yn,yvk,yvi,yvf,ya⟩,e,rfl,hy⟩
    (refine b_ rfl rfl ?_ ?_<;>intro h<;>simp only [nc]at h<;>try omega)
    exact wf_ (y:=.mk ..) rfl (λhe=>absurd he h);refine VOK_lt (X_ acc (.mk yo yk ynm yfd yad yn yvk yvi yvf ya) (by omega)) (okA _) (VOK_lt (q_ (by omega) (by omega)) rfl (uJ_ rfl ⟨(acc++[_],i+1),⟨by simp;omega,hi,?_⟩,rfl,by simp only;omega⟩));intro a ha;rcases List.mem_append.1 ha with ha|ha;exact h3 a ha;cases List.mem_singleton.1 ha;exact (hy h).1
   have hi:i=args.length:=(by omega);subst hi;have ha1:acc.length=1:=(by unfold Ari at hA;omega);obtain ⟨y,rfl⟩:=List.length_eq_one_iff.1 ha1;have hy:=h3 y (List.mem_singleton.2 rfl);obtain ⟨yo,yk,ynm,yfd,yad,yn,yvk,yvi,yvf,ya⟩:=y
   (refine b_ rfl rfl ?_ ?_<;>intro h<;>simp only [nc]at h<;>try omega)
   refine a_ (Hf_ 3 kd [107] fd ad n vk vi vf args _ rfl) rfl (by show okL (VARS::(v_ (.mk 3 kd [107] fd ad n vk vi vf args)++[bw_ _]))=true;rw [aY_];exact kY_.okL_join (okX _) (by simp only [okL,okA])) ⟨?_,trivial⟩;rintro ws ⟨e,rfl,he⟩;refine wf_ (y:=.mk 3 2 [107] fd 8 4 vk vi vf [.mk ..]) rfl (λh=>⟨⟨.inr (.inl ⟨.inl rfl,rfl⟩),hF,by decide,by decide,⟨λh=>by omega,λh=>by omega,λ_=>⟨rfl,rfl,rfl,_,rfl,he h⟩,λh=>by omega,λh=>by omega,λh=>by omega,λh=>by omega⟩,λa ha=>by cases List.mem_singleton.1 ha;exact hy⟩,rfl,λh=>by omega⟩)
  .refine uY_ (ι:=List GX×Nat) (λs=>[bw_ s.1,.int .i64 (s.2:Int)]) (λs=>s.1.length=s.2/\s.2<=args.length/\∀a∈s.1,TX d a) (λs=>args.length-s.2) ([],0) ⟨rfl,zb' _,λa ha=>(za' ha).elim⟩ rfl (λs _=>by simp only [okL,okC,okA]) (λs s' _ _ h=>by simp at h;omega) (λs hs=>?_);obtain ⟨acc,i⟩:=s;obtain ⟨h1,h2,h3⟩:=hs;simp only at h1 h2 h3⊢;refine VOK_lt (D_ args) rfl ?_
   (refine b_ rfl rfl ?_ ?_<;>intro h<;>simp only [nc]at h<;>try omega)
   .have hi:i<args.length:=(by omega);have hld:=nr_ args hi;have hz:=ih args[i] (zc' hi);rcases hzz:args[i]with ⟨zo,zk,znm,zfd,zad,zn,zvk,zvi,zvf,za⟩;rw [hzz]at hld hz;refine VOK_lt (nq_ args hi) (kY_ okX _) (vA_ hld rfl (okX _) ?_);refine a_ hz rfl (by show okL (VARS::v_ (.mk zo zk znm zfd zad zn zvk zvi zvf za))=true;rw [aY_];exact okX _) ⟨?_,trivial⟩;rintro ws ⟨⟨yo,yk,ynm,yfd,yad,yn,yvk,yvi,yvf,ya⟩,e,rfl,hy⟩
    (refine b_ rfl rfl ?_ ?_<;>intro h<;>simp only [nc]at h<;>try omega)
    exact wf_ (y:=.mk ..) rfl (λhe=>absurd he h);refine VOK_lt (X_ acc (.mk yo yk ynm yfd yad yn yvk yvi yvf ya) (by omega)) (okA _) (VOK_lt (q_ (by omega) (by omega)) rfl (uJ_ rfl ⟨(acc++[_],i+1),⟨by simp;omega,hi,?_⟩,rfl,by simp only;omega⟩));intro a ha;rcases List.mem_append.1 ha with ha|ha;exact h3 a ha;cases List.mem_singleton.1 ha;exact (hy h).1
   have hi:i=args.length:=(by omega);subst hi;by_cases hop:15<=op
   .have hop2:op=15\/op=16\/op=17:=(by unfold Ari at hA;omega);have ha1:acc.length=1:=(by unfold Ari at hA;omega);obtain ⟨y,rfl⟩:=List.length_eq_one_iff.1 ha1;have hy:=h3 y (List.mem_singleton.2 rfl);obtain ⟨yo,yk,ynm,yfd,yad,yn,yvk,yvi,yvf,ya⟩:=y;have n4':op=17->2<=kd/\kd<=5:=n4;rcases hop2 with rfl|rfl|rfl
    ·(refine b_ rfl rfl ?_ ?_<;>intro h<;>simp only [nc]at h<;>try omega)
     refine VOK_lt (r:=.int .i64 0) rfl rfl (VOK_lt (r:=.int .i64 yk) rfl rfl ?_);repeat' (first
               |(refine b_ rfl rfl ?_ ?_<;>intro h<;>simp only [nc]at h<;>try omega)
               |refine uW_ (AL_ _) rfl rfl ?_
               |refine uW_ (AK_ _) rfl rfl ?_
               |refine vy_ (.inr ⟨_,_,_,_,rfl,rfl⟩) ?_
               |refine xq_ rfl (λh=>?_) (λh=>?_)
               |refine VOK_lt (run_eql ..) rfl ?_
               |refine VOK_lt (run_neq ..) rfl ?_)
     all_goals (first
                 |exact wf_ (y:=.mk ..) rfl (λhe=>absurd he (by decide))
                 |(refine wf_ (y:=.mk _ _ _ _ _ _ _ _ _ [.mk ..]) rfl (λhe=>?_)
                   have he2:=Be_ he;simp only [decide_eq_true_eq,Bool.not_eq_true',decide_eq_false_iff_not]at he2;refine ⟨TX1 hF hy ?_,rfl,λh=>by omega⟩;dsimp only [GX.kd];omega)
                 |(refine wf_ (y:=.mk _ _ _ _ _ _ _ _ _ [.mk ..]) rfl (λhe=>?_)
                   refine ⟨TX1 hF hy ?_,rfl,λh=>by omega⟩;dsimp only [GX.kd];omega))
    ·(refine b_ rfl rfl ?_ ?_<;>intro h<;>simp only [nc]at h<;>try omega)
     refine VOK_lt (r:=.int .i64 0) rfl rfl (VOK_lt (r:=.int .i64 yk) rfl rfl ?_);repeat' (first
               |(refine b_ rfl rfl ?_ ?_<;>intro h<;>simp only [nc]at h<;>try omega)
               |refine uW_ (AL_ _) rfl rfl ?_
               |refine uW_ (AK_ _) rfl rfl ?_
               |refine vy_ (.inr ⟨_,_,_,_,rfl,rfl⟩) ?_
               |refine xq_ rfl (λh=>?_) (λh=>?_)
               |refine VOK_lt (run_eql ..) rfl ?_
               |refine VOK_lt (run_neq ..) rfl ?_)
     all_goals (first
                 |exact wf_ (y:=.mk ..) rfl (λhe=>absurd he (by decide))
                 |(refine wf_ (y:=.mk _ _ _ _ _ _ _ _ _ [.mk ..]) rfl (λhe=>?_)
                   have he2:=Be_ he;simp only [decide_eq_true_eq,Bool.not_eq_true',decide_eq_false_iff_not]at he2;refine ⟨TX1 hF hy ?_,rfl,λh=>by omega⟩;dsimp only [GX.kd];omega)
                 |(refine wf_ (y:=.mk _ _ _ _ _ _ _ _ _ [.mk ..]) rfl (λhe=>?_)
                   refine ⟨TX1 hF hy ?_,rfl,λh=>by omega⟩;dsimp only [GX.kd];omega))
    ·(refine b_ rfl rfl ?_ ?_<;>intro h<;>simp only [nc]at h<;>try omega)
     have n5:=n4 rfl;refine VOK_lt (r:=.int .i64 0) rfl rfl (VOK_lt (r:=.int .i64 yk) rfl rfl ?_);repeat' (first
               |(refine b_ rfl rfl ?_ ?_<;>intro h<;>simp only [nc]at h<;>try omega)
               |refine uW_ (AL_ _) rfl rfl ?_
               |refine uW_ (AK_ _) rfl rfl ?_
               |refine vy_ (.inr ⟨_,_,_,_,rfl,rfl⟩) ?_
               |refine xq_ rfl (λh=>?_) (λh=>?_)
               |refine VOK_lt (run_eql ..) rfl ?_
               |refine VOK_lt (run_neq ..) rfl ?_)
     all_goals (first
                 |exact wf_ (y:=.mk ..) rfl (λhe=>absurd he (by decide))
                 |(refine wf_ (y:=.mk _ _ _ _ _ _ _ _ _ [.mk ..]) rfl (λhe=>?_)
                   have he2:=Be_ he;simp only [decide_eq_true_eq,Bool.not_eq_true',decide_eq_false_iff_not]at he2;refine ⟨TX1 hF hy ?_,rfl,λh=>by omega⟩;dsimp only [GX.kd];omega)
                 |(refine wf_ (y:=.mk _ _ _ _ _ _ _ _ _ [.mk ..]) rfl (λhe=>?_)
                   refine ⟨TX1 hF hy ?_,rfl,λh=>by omega⟩;dsimp only [GX.kd];omega))
   .have hop2:4<=op/\op<=14:=(by unfold Ari at hA;omega);have ha1:acc.length=2:=(by unfold Ari at hA;omega);obtain ⟨y,z,rfl⟩:∃y z,acc=[y,z]:=by
     rcases acc with _|⟨y,_|⟨z,_|⟨w,t⟩⟩⟩<;>simp at ha1
     exact ⟨y,z,rfl⟩
    have hy:=h3 y (ze' ..);have hz:=h3 z (zf' _ (List.mem_singleton.2 rfl));obtain ⟨yo,yk,ynm,yfd,yad,yn,yvk,yvi,yvf,ya⟩:=y;obtain ⟨zo,zk,znm,zfd,zad,zn,zvk,zvi,zvf,za⟩:=z
    (refine b_ rfl rfl ?_ ?_<;>intro h<;>simp only [nc]at h<;>try omega)
    refine VOK_lt (r:=.int .i64 0) rfl rfl (VOK_lt (r:=.int .i64 yk) rfl rfl ?_)
    (refine b_ rfl rfl ?_ ?_<;>intro h<;>simp only [nc]at h<;>try omega);(refine b_ rfl rfl ?_ ?_<;>intro h<;>simp only [nc]at h<;>try omega);(refine b_ rfl rfl ?_ ?_<;>intro h<;>simp only [nc]at h<;>try omega);(refine b_ rfl rfl ?_ ?_<;>intro h<;>simp only [nc]at h<;>try omega)
    (refine b_ rfl rfl ?_ ?_<;>intro h<;>simp only [nc]at h<;>try omega)
    .refine VOK_lt (r:=.int .i64 0) rfl rfl (vA_ (cs:=v_ (.mk yo yk ynm yfd yad yn yvk yvi yvf ya)) rfl rfl (okX _) (VOK_lt (r:=.int .i64 1) rfl rfl (VOK_lt (r:=.int .i64 zk) rfl rfl ?_)));obtain ⟨⟨yo1,yk1,ynm1,yfd1,yad1,yn1,yvk1,yvi1,yvf1,ya1⟩,hp1,hy1⟩:=zQ_ _ zk hy;refine uW_ hp1 rfl (zM_ _) ?_;refine VOK_lt (r:=.int .i64 1) rfl rfl (vA_ (cs:=v_ (.mk zo zk znm zfd zad zn zvk zvi zvf za)) rfl rfl (okX _) (VOK_lt (r:=.int .i64 0) rfl rfl (VOK_lt (r:=.int .i64 yk) rfl rfl ?_)));obtain ⟨⟨zo1,zk1,znm1,zfd1,zad1,zn1,zvk1,zvi1,zvf1,za1⟩,hp2,hz1⟩:=zQ_ _ yk hz;refine uW_ hp2 rfl (zM_ _) ?_;clear hy hz;have hy:=hy1;have hz:=hz1;refine VOK_lt (r:=.int .i64 0) rfl rfl (VOK_lt (r:=bw_ [.mk yo1 yk1 ynm1 yfd1 yad1 yn1 yvk1 yvi1 yvf1 ya1,.mk zo zk znm zfd zad zn zvk zvi zvf za]) (xF_ [(.mk yo yk ynm yfd yad yn yvk yvi yvf ya),(.mk zo zk znm zfd zad zn zvk zvi zvf za)] (i:=0) (by simp) (.mk yo1 yk1 ynm1 yfd1 yad1 yn1 yvk1 yvi1 yvf1 ya1) .i64) (okA _) (VOK_lt (r:=.int .i64 1) rfl rfl (VOK_lt (r:=bw_ [.mk yo1 yk1 ynm1 yfd1 yad1 yn1 yvk1 yvi1 yvf1 ya1,.mk zo1 zk1 znm1 zfd1 zad1 zn1 zvk1 zvi1 zvf1 za1]) (xF_ [(.mk yo1 yk1 ynm1 yfd1 yad1 yn1 yvk1 yvi1 yvf1 ya1),(.mk zo zk znm zfd zad zn zvk zvi zvf za)] (i:=1) (by simp) (.mk zo1 zk1 znm1 zfd1 zad1 zn1 zvk1 zvi1 zvf1 za1) .i64) (okA _) ?_)));refine VOK_lt (r:=.int .i64 0) rfl rfl (VOK_lt (r:=.int .i64 yk1) rfl rfl (VOK_lt (r:=.int .i64 1) rfl rfl (VOK_lt (r:=.int .i64 zk1) rfl rfl ?_)));repeat' (first
               |(refine b_ rfl rfl ?_ ?_<;>intro h<;>simp only [nc]at h<;>try omega)
               |refine uW_ (AL_ _) rfl rfl ?_
               |refine uW_ (AK_ _) rfl rfl ?_
               |refine vy_ (.inr ⟨_,_,_,_,rfl,rfl⟩) ?_
               |refine xq_ rfl (λh=>?_) (λh=>?_)
               |refine VOK_lt (run_eql ..) rfl ?_
               |refine VOK_lt (run_neq ..) rfl ?_)
     all_goals (
                refine wf_ (y:=.mk _ _ _ _ _ _ _ _ _ [.mk ..,.mk ..]) rfl (λhe=>?_);have he2:=Be_ he;first
                 |(exact absurd he2 (by decide))
                 |(simp only [decide_eq_true_eq,Bool.not_eq_true',decide_eq_false_iff_not]at he2
                   exact ⟨TX2 hF hy hz (by omega) (by dsimp only [GX.kd];omega) (by dsimp only [GX.kd];omega) (by omega) (by dsimp only [GX.kd];omega) (by dsimp only [GX.kd];omega) (by dsimp only [GX.kd];omega),rfl,λh=>by omega⟩))
    .refine VOK_lt (r:=.int .i64 1) rfl rfl (VOK_lt (r:=.int .i64 zk) rfl rfl ?_);repeat' (first
               |(refine b_ rfl rfl ?_ ?_<;>intro h<;>simp only [nc]at h<;>try omega)
               |refine uW_ (AL_ _) rfl rfl ?_
               |refine uW_ (AK_ _) rfl rfl ?_
               |refine vy_ (.inr ⟨_,_,_,_,rfl,rfl⟩) ?_
               |refine xq_ rfl (λh=>?_) (λh=>?_)
               |refine VOK_lt (run_eql ..) rfl ?_
               |refine VOK_lt (run_neq ..) rfl ?_)
     all_goals (
                refine wf_ (y:=.mk _ _ _ _ _ _ _ _ _ [.mk ..,.mk ..]) rfl (λhe=>?_);have he2:=Be_ he;first
                 |(exact absurd he2 (by decide))
                 |(simp only [decide_eq_true_eq,Bool.not_eq_true',decide_eq_false_iff_not]at he2
                   exact ⟨TX2 hF hy hz (by omega) (by dsimp only [GX.kd];omega) (by dsimp only [GX.kd];omega) (by omega) (by dsimp only [GX.kd];omega) (by dsimp only [GX.kd];omega) (by dsimp only [GX.kd];omega),rfl,λh=>by omega⟩))
def FZ_:VC:=⟨⟨[],[]⟩,[(182,[(some 10),none,none]),(183,[(some 10)])],[],0,true,[(149,ft149)]⟩
def EP_:VT:=Cf 149 ft149 [64,76,77,78,79,80,81,82,83,84,85] 92 11<|It Q7 [113,J 0] 114 (Dn [65,66,67,68,69,70,71,72,73,74,75,76,77,78,79,80,81,82,83,84,85,86,87,88,89,90,91,113])<|Cf 149 ft149 [64,66,67,68,69,70,71,72,73,74,75] 115 11<|It Q7 [136,J 0] 137 (Dn [65,66,67,68,69,70,71,72,73,74,75,76,77,78,79,80,81,82,83,84,85,86,87,88,89,90,91,136])<|.call 182 [64,68] 138 [(some 10),none,none]<|It (.bin .neq 9 false true) [69,.str []] 150 (Dn [65,66,67,68,69,70,71,72,73,74,75,76,77,78,79,80,81,82,83,84,85,86,87,88,89,90,91,J 4])<|Iq 139 1 151 (Dn [65,66,67,68,69,70,71,72,73,74,75,76,77,78,79,80,81,82,83,84,85,86,87,88,89,90,91,J 13])<|.call 183 [.agg [103,104,105,106,107,108,109,110,111,112],127] 152 [(some 10)]<|It Qd [153,127] 162 (Dn [65,66,67,68,69,70,71,72,73,74,75,76,77,78,79,80,81,82,83,84,85,86,87,88,89,90,91,J 4])<|Dn [65,126,127,128,129,130,131,132,133,134,135,152,153,154,155,156,157,158,159,160,161,86,87,88,89,90,91,J 0]
def F0_:VC:=⟨⟨[],[]⟩,[(182,[(some 10),none,none]),(183,[(some 10)]),(74,[none])],[(0,[⟨[(4,.ptr 1 0),(3,.ptr 0 0),(9,.slx 3 1 0),(10,.slx 4 10 1),(11,.slx 2 0 0),(0,64),(7,102),(6,.ptr 2 0)],[(1,[J 0,J 0,J 0,.str [],.str [],J 0,J 0,J 0,J 0,.flt .f64 0,.nsl,J 0,J 0,.str [],.str [],J 0,J 0,J 0,J 0,.flt .f64 0,.nsl,.nsl,.nsl,.str [],J 0,J 0,.nsl]),(0,[65,66,67,68,69,70,71,72,73,74,75,76,77,78,79,80,81,82,83,84,85,86,87,88,89,90,91]),(2,[92,93,94,95,96,97,98,99,100,101])],5,3,[⟨3,1,0,9,none⟩,⟨4,10,1,10,none⟩],[],[]⟩]),(2,[⟨[(4,.ptr 1 0),(3,.ptr 0 0),(14,.slx 0 0 0),(9,.slx 3 1 1),(10,.slx 4 10 2),(6,.ptr 2 0),(7,102)],[(1,[J 0,J 0,J 0,.str [],.str [],J 0,J 0,J 0,J 0,.flt .f64 0,.nsl,J 0,J 0,.str [],.str [],J 0,J 0,J 0,J 0,.flt .f64 0,.nsl,.nsl,.nsl,.str [],J 0,J 0,.nsl]),(0,[65,66,67,68,69,70,71,72,73,74,75,76,77,78,79,80,81,82,83,84,85,86,87,88,89,90,91]),(2,[92,93,94,95,96,97,98,99,100,101])],5,3,[⟨3,1,1,9,none⟩,⟨4,10,2,10,none⟩],[],[]⟩])],0,true,[(149,ft149)]⟩
def EQ_:VT:=.call 182 [64,88] 92 [(some 10),none,none]<|It Q6 [103] 104 (Dn [65,66,67,68,69,70,71,72,73,74,75,76,77,78,79,80,81,82,83,84,85,86,87,88,89,90,91,J 3])<|.call 74 [94] 105 [none]<|It Qa [105,J 2] 106 (Dn [65,66,67,68,69,70,71,72,73,74,75,76,77,78,79,80,81,82,83,84,85,86,87,88,89,90,91,J 4])<|Iq 94 9 107 (Iq 94 11 108 (.loop 109 0 [.vsl 1 1 [J 1],.nsl,J 0] (.cons 3 (Li Qh [91] 112<|It Q5 [111,112] 113 (Li Qg [91,111] 114<|.lt Qm [114] 115 (some 10)<|Cf 149 ft149 [64,115,116,117,118,119,120,121,122,123,124] 125 11<|It Q7 [146,J 0] 147 (Dn [65,66,67,68,69,70,71,72,73,74,75,76,77,78,79,80,81,82,83,84,85,86,87,88,89,90,91,146])<|Li Qf [109] 148<|It Q5 [111,148] 149 (Li Q2 [109,111] 150<|Li Qp [109,150] 151<|.call 183 [.agg [136,137,138,139,140,141,142,143,144,145],151] 152 [(some 10)]<|Li Qo [110,.agg [152,153,154,155,156,157,158,159,160,161]] 162<|Li Q3 [111,J 1] 163<|.again 0 0 [109,162,163])<|Li Qo [110,.agg [136,137,138,139,140,141,142,143,144,145]] 150<|Li Q3 [111,J 1] 151<|.again 0 0 [109,150,151])<|Li Qh [110] 114<|Li Qf [109] 115<|It Qd [114,115] 116 (Dn [65,66,67,68,69,70,71,72,73,74,75,76,77,78,79,80,81,82,83,84,85,86,87,88,89,90,91,J 4])<|.loop 117 0 [J 0,109,110] (.cons 3 (Li Qf [118] 120<|It Q5 [117,120] 121 (Li Q2 [119,117] 122<|Li Ql [119,122] 123<|Li Q2 [118,117] 124<|Li Qp [118,124] 125<|It Qd [123,125] 126 (Dn [65,66,67,68,69,70,71,72,73,74,75,76,77,78,79,80,81,82,83,84,85,86,87,88,89,90,91,J 4])<|Li Q3 [117,J 1] 127<|.again 1 0 [127,118,119])<|Dn [65,66,67,68,69,70,71,72,73,74,75,76,77,78,79,80,81,82,83,84,85,86,87,88,94,102,119,J 0]) .nil)) .nil))<|Iq 94 12 109 (.loop 110 0 [.vsl 1 1 [J 1],.nsl,J 0] (.cons 3 (Li Qh [91] 113<|It Q5 [112,113] 114 (Li Qg [91,112] 115<|.lt Qm [115] 116 (some 10)<|Cf 149 ft149 [64,116,117,118,119,120,121,122,123,124,125] 126 11<|It Q7 [147,J 0] 148 (Dn [65,66,67,68,69,70,71,72,73,74,75,76,77,78,79,80,81,82,83,84,85,86,87,88,89,90,91,147])<|Li Qf [110] 149<|It Q5 [112,149] 150 (Li Q2 [110,112] 151<|Li Qp [110,151] 152<|.call 183 [.agg [137,138,139,140,141,142,143,144,145,146],152] 153 [(some 10)]<|Li Qo [111,.agg [153,154,155,156,157,158,159,160,161,162]] 163<|Li Q3 [112,J 1] 164<|.again 0 0 [110,163,164])<|Li Qo [111,.agg [137,138,139,140,141,142,143,144,145,146]] 151<|Li Q3 [112,J 1] 152<|.again 0 0 [110,151,152])<|Li Qh [111] 115<|Li Qf [110] 116<|It Qd [115,116] 117 (Dn [65,66,67,68,69,70,71,72,73,74,75,76,77,78,79,80,81,82,83,84,85,86,87,88,89,90,91,J 4])<|.loop 118 0 [J 0,110,111] (.cons 3 (Li Qf [119] 121<|It Q5 [118,121] 122 (Li Q2 [120,118] 123<|Li Ql [120,123] 124<|Li Q2 [119,118] 125<|Li Qp [119,125] 126<|It Qd [124,126] 127 (Dn [65,66,67,68,69,70,71,72,73,74,75,76,77,78,79,80,81,82,83,84,85,86,87,88,89,90,91,J 4])<|Li Q3 [118,J 1] 128<|.again 1 0 [128,119,120])<|Dn [65,66,67,68,69,70,71,72,73,74,75,76,77,78,79,80,81,82,83,84,85,86,87,88,94,102,120,J 0]) .nil)) .nil))<|.loop 110 0 [.vsl 2 1 [J 1,J 2],.nsl,J 0] (.cons 3 (Li Qh [91] 113<|It Q5 [112,113] 114 (Li Qg [91,112] 115<|.lt Qm [115] 116 (some 10)<|Cf 149 ft149 [64,116,117,118,119,120,121,122,123,124,125] 126 11<|It Q7 [147,J 0] 148 (Dn [65,66,67,68,69,70,71,72,73,74,75,76,77,78,79,80,81,82,83,84,85,86,87,88,89,90,91,147])<|Li Qf [110] 149<|It Q5 [112,149] 150 (Li Q2 [110,112] 151<|Li Qp [110,151] 152<|.call 183 [.agg [137,138,139,140,141,142,143,144,145,146],152] 153 [(some 10)]<|Li Qo [111,.agg [153,154,155,156,157,158,159,160,161,162]] 163<|Li Q3 [112,J 1] 164<|.again 0 0 [110,163,164])<|Li Qo [111,.agg [137,138,139,140,141,142,143,144,145,146]] 151<|Li Q3 [112,J 1] 152<|.again 0 0 [110,151,152])<|Li Qh [111] 115<|Li Qf [110] 116<|It Qd [115,116] 117 (Dn [65,66,67,68,69,70,71,72,73,74,75,76,77,78,79,80,81,82,83,84,85,86,87,88,89,90,91,J 4])<|.loop 118 0 [J 0,110,111] (.cons 3 (Li Qf [119] 121<|It Q5 [118,121] 122 (Li Q2 [120,118] 123<|Li Ql [120,123] 124<|Li Q2 [119,118] 125<|Li Qp [119,125] 126<|It Qd [124,126] 127 (Dn [65,66,67,68,69,70,71,72,73,74,75,76,77,78,79,80,81,82,83,84,85,86,87,88,89,90,91,J 4])<|Li Q3 [118,J 1] 128<|.again 1 0 [128,119,120])<|Dn [65,66,67,68,69,70,71,72,73,74,75,76,77,78,79,80,81,82,83,84,85,86,87,88,94,102,120,J 0]) .nil)) .nil))<|Iq 94 10 108 (Iq 94 11 109 (.loop 110 0 [.vsl 1 1 [J 1],.nsl,J 0] (.cons 3 (Li Qh [91] 113<|It Q5 [112,113] 114 (Li Qg [91,112] 115<|.lt Qm [115] 116 (some 10)<|Cf 149 ft149 [64,116,117,118,119,120,121,122,123,124,125] 126 11<|It Q7 [147,J 0] 148 (Dn [65,66,67,68,69,70,71,72,73,74,75,76,77,78,79,80,81,82,83,84,85,86,87,88,89,90,91,147])<|Li Qf [110] 149<|It Q5 [112,149] 150 (Li Q2 [110,112] 151<|Li Qp [110,151] 152<|.call 183 [.agg [137,138,139,140,141,142,143,144,145,146],152] 153 [(some 10)]<|Li Qo [111,.agg [153,154,155,156,157,158,159,160,161,162]] 163<|Li Q3 [112,J 1] 164<|.again 0 0 [110,163,164])<|Li Qo [111,.agg [137,138,139,140,141,142,143,144,145,146]] 151<|Li Q3 [112,J 1] 152<|.again 0 0 [110,151,152])<|Li Qh [111] 115<|Li Qf [110] 116<|It Qd [115,116] 117 (Dn [65,66,67,68,69,70,71,72,73,74,75,76,77,78,79,80,81,82,83,84,85,86,87,88,89,90,91,J 4])<|.loop 118 0 [J 0,110,111] (.cons 3 (Li Qf [119] 121<|It Q5 [118,121] 122 (Li Q2 [120,118] 123<|Li Ql [120,123] 124<|Li Q2 [119,118] 125<|Li Qp [119,125] 126<|It Qd [124,126] 127 (Dn [65,66,67,68,69,70,71,72,73,74,75,76,77,78,79,80,81,82,83,84,85,86,87,88,89,90,91,J 4])<|Li Q3 [118,J 1] 128<|.again 1 0 [128,119,120])<|Dn [65,66,67,68,69,70,71,72,73,74,75,76,77,78,79,80,81,82,83,84,85,86,87,88,94,102,120,J 0]) .nil)) .nil))<|Iq 94 12 110 (.loop 111 0 [.vsl 1 1 [J 1],.nsl,J 0] (.cons 3 (Li Qh [91] 114<|It Q5 [113,114] 115 (Li Qg [91,113] 116<|.lt Qm [116] 117 (some 10)<|Cf 149 ft149 [64,117,118,119,120,121,122,123,124,125,126] 127 11<|It Q7 [148,J 0] 149 (Dn [65,66,67,68,69,70,71,72,73,74,75,76,77,78,79,80,81,82,83,84,85,86,87,88,89,90,91,148])<|Li Qf [111] 150<|It Q5 [113,150] 151 (Li Q2 [111,113] 152<|Li Qp [111,152] 153<|.call 183 [.agg [138,139,140,141,142,143,144,145,146,147],153] 154 [(some 10)]<|Li Qo [112,.agg [154,155,156,157,158,159,160,161,162,163]] 164<|Li Q3 [113,J 1] 165<|.again 0 0 [111,164,165])<|Li Qo [112,.agg [138,139,140,141,142,143,144,145,146,147]] 152<|Li Q3 [113,J 1] 153<|.again 0 0 [111,152,153])<|Li Qh [112] 116<|Li Qf [111] 117<|It Qd [116,117] 118 (Dn [65,66,67,68,69,70,71,72,73,74,75,76,77,78,79,80,81,82,83,84,85,86,87,88,89,90,91,J 4])<|.loop 119 0 [J 0,111,112] (.cons 3 (Li Qf [120] 122<|It Q5 [119,122] 123 (Li Q2 [121,119] 124<|Li Ql [121,124] 125<|Li Q2 [120,119] 126<|Li Qp [120,126] 127<|It Qd [125,127] 128 (Dn [65,66,67,68,69,70,71,72,73,74,75,76,77,78,79,80,81,82,83,84,85,86,87,88,89,90,91,J 4])<|Li Q3 [119,J 1] 129<|.again 1 0 [129,120,121])<|Dn [65,66,67,68,69,70,71,72,73,74,75,76,77,78,79,80,81,82,83,84,85,86,87,88,94,102,121,J 0]) .nil)) .nil))<|.loop 111 0 [.vsl 2 1 [J 1,J 2],.nsl,J 0] (.cons 3 (Li Qh [91] 114<|It Q5 [113,114] 115 (Li Qg [91,113] 116<|.lt Qm [116] 117 (some 10)<|Cf 149 ft149 [64,117,118,119,120,121,122,123,124,125,126] 127 11<|It Q7 [148,J 0] 149 (Dn [65,66,67,68,69,70,71,72,73,74,75,76,77,78,79,80,81,82,83,84,85,86,87,88,89,90,91,148])<|Li Qf [111] 150<|It Q5 [113,150] 151 (Li Q2 [111,113] 152<|Li Qp [111,152] 153<|.call 183 [.agg [138,139,140,141,142,143,144,145,146,147],153] 154 [(some 10)]<|Li Qo [112,.agg [154,155,156,157,158,159,160,161,162,163]] 164<|Li Q3 [113,J 1] 165<|.again 0 0 [111,164,165])<|Li Qo [112,.agg [138,139,140,141,142,143,144,145,146,147]] 152<|Li Q3 [113,J 1] 153<|.again 0 0 [111,152,153])<|Li Qh [112] 116<|Li Qf [111] 117<|It Qd [116,117] 118 (Dn [65,66,67,68,69,70,71,72,73,74,75,76,77,78,79,80,81,82,83,84,85,86,87,88,89,90,91,J 4])<|.loop 119 0 [J 0,111,112] (.cons 3 (Li Qf [120] 122<|It Q5 [119,122] 123 (Li Q2 [121,119] 124<|Li Ql [121,124] 125<|Li Q2 [120,119] 126<|Li Qp [120,126] 127<|It Qd [125,127] 128 (Dn [65,66,67,68,69,70,71,72,73,74,75,76,77,78,79,80,81,82,83,84,85,86,87,88,89,90,91,J 4])<|Li Q3 [119,J 1] 129<|.again 1 0 [129,120,121])<|Dn [65,66,67,68,69,70,71,72,73,74,75,76,77,78,79,80,81,82,83,84,85,86,87,88,94,102,121,J 0]) .nil)) .nil))<|Iq 94 11 109 (.loop 110 0 [.vsl 1 1 [J 1],.nsl,J 0] (.cons 3 (Li Qh [91] 113<|It Q5 [112,113] 114 (Li Qg [91,112] 115<|.lt Qm [115] 116 (some 10)<|Cf 149 ft149 [64,116,117,118,119,120,121,122,123,124,125] 126 11<|It Q7 [147,J 0] 148 (Dn [65,66,67,68,69,70,71,72,73,74,75,76,77,78,79,80,81,82,83,84,85,86,87,88,89,90,91,147])<|Li Qf [110] 149<|It Q5 [112,149] 150 (Li Q2 [110,112] 151<|Li Qp [110,151] 152<|.call 183 [.agg [137,138,139,140,141,142,143,144,145,146],152] 153 [(some 10)]<|Li Qo [111,.agg [153,154,155,156,157,158,159,160,161,162]] 163<|Li Q3 [112,J 1] 164<|.again 0 0 [110,163,164])<|Li Qo [111,.agg [137,138,139,140,141,142,143,144,145,146]] 151<|Li Q3 [112,J 1] 152<|.again 0 0 [110,151,152])<|Li Qh [111] 115<|Li Qf [110] 116<|It Qd [115,116] 117 (Dn [65,66,67,68,69,70,71,72,73,74,75,76,77,78,79,80,81,82,83,84,85,86,87,88,89,90,91,J 4])<|.loop 118 0 [J 0,110,111] (.cons 3 (Li Qf [119] 121<|It Q5 [118,121] 122 (Li Q2 [120,118] 123<|Li Ql [120,123] 124<|Li Q2 [119,118] 125<|Li Qp [119,125] 126<|It Qd [124,126] 127 (Dn [65,66,67,68,69,70,71,72,73,74,75,76,77,78,79,80,81,82,83,84,85,86,87,88,89,90,91,J 4])<|Li Q3 [118,J 1] 128<|.again 1 0 [128,119,120])<|Dn [65,66,67,68,69,70,71,72,73,74,75,76,77,78,79,80,81,82,83,84,85,86,87,88,94,102,120,J 0]) .nil)) .nil))<|Iq 94 12 110 (.loop 111 0 [.vsl 1 1 [J 1],.nsl,J 0] (.cons 3 (Li Qh [91] 114<|It Q5 [113,114] 115 (Li Qg [91,113] 116<|.lt Qm [116] 117 (some 10)<|Cf 149 ft149 [64,117,118,119,120,121,122,123,124,125,126] 127 11<|It Q7 [148,J 0] 149 (Dn [65,66,67,68,69,70,71,72,73,74,75,76,77,78,79,80,81,82,83,84,85,86,87,88,89,90,91,148])<|Li Qf [111] 150<|It Q5 [113,150] 151 (Li Q2 [111,113] 152<|Li Qp [111,152] 153<|.call 183 [.agg [138,139,140,141,142,143,144,145,146,147],153] 154 [(some 10)]<|Li Qo [112,.agg [154,155,156,157,158,159,160,161,162,163]] 164<|Li Q3 [113,J 1] 165<|.again 0 0 [111,164,165])<|Li Qo [112,.agg [138,139,140,141,142,143,144,145,146,147]] 152<|Li Q3 [113,J 1] 153<|.again 0 0 [111,152,153])<|Li Qh [112] 116<|Li Qf [111] 117<|It Qd [116,117] 118 (Dn [65,66,67,68,69,70,71,72,73,74,75,76,77,78,79,80,81,82,83,84,85,86,87,88,89,90,91,J 4])<|.loop 119 0 [J 0,111,112] (.cons 3 (Li Qf [120] 122<|It Q5 [119,122] 123 (Li Q2 [121,119] 124<|Li Ql [121,124] 125<|Li Q2 [120,119] 126<|Li Qp [120,126] 127<|It Qd [125,127] 128 (Dn [65,66,67,68,69,70,71,72,73,74,75,76,77,78,79,80,81,82,83,84,85,86,87,88,89,90,91,J 4])<|Li Q3 [119,J 1] 129<|.again 1 0 [129,120,121])<|Dn [65,66,67,68,69,70,71,72,73,74,75,76,77,78,79,80,81,82,83,84,85,86,87,88,94,102,121,J 0]) .nil)) .nil))<|.loop 111 0 [.vsl 2 1 [J 1,J 4],.nsl,J 0] (.cons 3 (Li Qh [91] 114<|It Q5 [113,114] 115 (Li Qg [91,113] 116<|.lt Qm [116] 117 (some 10)<|Cf 149 ft149 [64,117,118,119,120,121,122,123,124,125,126] 127 11<|It Q7 [148,J 0] 149 (Dn [65,66,67,68,69,70,71,72,73,74,75,76,77,78,79,80,81,82,83,84,85,86,87,88,89,90,91,148])<|Li Qf [111] 150<|It Q5 [113,150] 151 (Li Q2 [111,113] 152<|Li Qp [111,152] 153<|.call 183 [.agg [138,139,140,141,142,143,144,145,146,147],153] 154 [(some 10)]<|Li Qo [112,.agg [154,155,156,157,158,159,160,161,162,163]] 164<|Li Q3 [113,J 1] 165<|.again 0 0 [111,164,165])<|Li Qo [112,.agg [138,139,140,141,142,143,144,145,146,147]] 152<|Li Q3 [113,J 1] 153<|.again 0 0 [111,152,153])<|Li Qh [112] 116<|Li Qf [111] 117<|It Qd [116,117] 118 (Dn [65,66,67,68,69,70,71,72,73,74,75,76,77,78,79,80,81,82,83,84,85,86,87,88,89,90,91,J 4])<|.loop 119 0 [J 0,111,112] (.cons 3 (Li Qf [120] 122<|It Q5 [119,122] 123 (Li Q2 [121,119] 124<|Li Ql [121,124] 125<|Li Q2 [120,119] 126<|Li Qp [120,126] 127<|It Qd [125,127] 128 (Dn [65,66,67,68,69,70,71,72,73,74,75,76,77,78,79,80,81,82,83,84,85,86,87,88,89,90,91,J 4])<|Li Q3 [119,J 1] 129<|.again 1 0 [129,120,121])<|Dn [65,66,67,68,69,70,71,72,73,74,75,76,77,78,79,80,81,82,83,84,85,86,87,88,94,102,121,J 0]) .nil)) .nil)
def c97:VC:=⟨⟨[],[]⟩,[],[],0,true,[(149,ft149),(147,Ae_),(148,Af_),(54,ft54)]⟩
def t97:VT:=Iq 65 1 92 (Cf 147 Ae_ [64,65,66,67,68,69,70,71,72,73,74,75,76,77,78,79,80,81,82,83,84,85,86,87,88,89,90,91] 93 28<|Dn [121,122,123,124,125,126,127,128,129,130,131,132,133,134,135,136,137,138,139,140,141,142,143,144,145,146,147,148])<|Iq 65 4 93 (Cf 148 Af_ [64,65,66,67,68,69,70,71,72,73,74,75,76,77,78,79,80,81,82,83,84,85,86,87,88,89,90,91] 94 28<|Dn [122,123,124,125,126,127,128,129,130,131,132,133,134,135,136,137,138,139,140,141,142,143,144,145,146,147,148,149])<|Cf 149 ft149 [64,76,77,78,79,80,81,82,83,84,85] 94 11<|It Q7 [115,J 0] 116 (Dn [65,66,67,68,69,70,71,72,73,74,75,76,77,78,79,80,81,82,83,84,85,86,87,88,89,90,91,115])<|It Q1 [106,J 1] 117 (Dn [65,66,67,68,69,70,71,72,73,74,75,76,77,78,79,80,81,82,83,84,85,86,87,88,89,90,91,J 4])<|Cf 54 ft54 [64,86] 118 2<|It Q7 [121,J 0] 122 (Dn [65,66,67,68,69,70,71,72,73,74,75,105,106,107,108,109,110,111,112,113,114,120,87,88,89,90,91,121])<|Cf 54 ft54 [64,87] 123 2<|Dn [65,66,67,68,69,70,71,72,73,74,75,105,106,107,108,109,110,111,112,113,114,120,125,88,89,90,91,126]
def c54:VC:=⟨⟨[],[]⟩,[],[(0,[⟨[(6,.slx 0 27 0),(7,.slx 1 0 0),(1,65),(0,64)],[],1,2,[⟨0,27,0,6,none⟩],[],[]⟩])],0,true,[(97,ft97)]⟩
def t54:VT:=.loop 66 0 [.nsl,J 0] (.cons 2 (Li Zs [65] 68<|It Q5 [67,68] 69 (Li U4 [65,67] 70<|.lt U5 [70] 71 (some 27)<|Cf 97 ft97 [64,71,72,73,74,75,76,77,78,79,80,81,82,83,84,85,86,87,88,89,90,91,92,93,94,95,96,97] 98 28<|It Q7 [153,J 0] 154 (Dn [.nsl,153])<|Li Zm [66,.agg [126,127,128,129,130,131,132,133,134,135,136,137,138,139,140,141,142,143,144,145,146,147,148,149,150,151,152]] 155<|Li Q3 [67,J 1] 156<|.again 0 0 [155,156])<|Dn [66,J 0]) .nil)
theorem Bx_ {nm fd:List UInt8} (h:(nm,fd)∈w5_\/nm=[107]):∃(s:List UInt8) (r k z a b:Int) (c:Nat) (d e:Int) (f:Nat) (g:Int),jD_ Tryz.prog 182 [VARS,.str nm] (.tup [.agg [.str s,.int .i64 r,.int .i64 k,.int .i64 z,.int .i64 a,.int .i64 b,.flt .f64 c,.int .i64 d,.int .i64 e,.flt .f64 f],.int .i64 g,.bool true])/\(nm,r)∈AN_:=by rcases h with h|rfl;simp only [w5_,List.mem_cons,Prod.mk.injEq,List.not_mem_nil,or_false]at h;rcases h with ⟨rfl,rfl⟩|⟨rfl,rfl⟩|⟨rfl,rfl⟩|⟨rfl,rfl⟩|⟨rfl,rfl⟩|⟨rfl,rfl⟩|⟨rfl,rfl⟩|⟨rfl,rfl⟩|⟨rfl,rfl⟩|⟨rfl,rfl⟩|⟨rfl,rfl⟩;exact ⟨_,_,_,_,_,_,_,_,_,_,_,As_,by decide⟩;exact ⟨_,_,_,_,_,_,_,_,_,_,_,zf_,by decide⟩;exact ⟨_,_,_,_,_,_,_,_,_,_,_,np_,by decide⟩;exact ⟨_,_,_,_,_,_,_,_,_,_,_,Ar_,by decide⟩;exact ⟨_,_,_,_,_,_,_,_,_,_,_,zh_,by decide⟩;exact ⟨_,_,_,_,_,_,_,_,_,_,_,ze_,by decide⟩;exact ⟨_,_,_,_,_,_,_,_,_,_,_,yO_,by decide⟩;exact ⟨_,_,_,_,_,_,_,_,_,_,_,zi_,by decide⟩;exact ⟨_,_,_,_,_,_,_,_,_,_,_,np_,by decide⟩;exact ⟨_,_,_,_,_,_,_,_,_,_,_,zg_,by decide⟩;exact ⟨_,_,_,_,_,_,_,_,_,_,_,zj_,by decide⟩;exact ⟨_,_,_,_,_,_,_,_,_,_,_,xV_,by decide⟩
def Blk (kd ad:Int) (ks:List Int):Prop:=(kd=6/\ad=12/\ks=[1,4])\/(kd=9/\ad=16/\ks=[1,2])\/(kd=11/\ad=19/\ks=[1])
def TS:Nat->GS->Prop
 |0,_=>False
 |d+1,.mk op to e thn els nm kd ad args=>
  (op=1/\TX 5 to/\(to.op=2/\(to.ad,to.kd)∈wrL\/to.op=3)/\TX 6 e/\e.kd=to.kd/\thn=[]/\els=[])\/
  ((op=2\/op=3)/\TX 5 e/\e.kd=1/\thn.length<=5/\els.length<=5/\(∀s∈thn,TS d s)/\∀s∈els,TS d s)\/
  (op=4/\Blk kd ad (args.map GX.kd)/\(∀a∈args,TX 5 a)/\thn=[]/\els=[])
def LK (x y:GS):Prop:=match x,y with
 | .mk op to ..,.mk op' to' .. =>op=1->op'=1/\NT to to'
def RT (d:Nat) (x:GS):Nat->List AV->Prop:=λ_ ws=>∃(y:GS) (e:Int),ws=s7_ y++[.int .i64 e]/\(e=0->TS d y/\LK x y)
def LKs (l y:List GS):Prop:=∀(j:Nat) (h1:j<l.length) (h2:j<y.length),LK l[j] y[j]
def RU (d:Nat) (l:List GS):Nat->List AV->Prop:=λ_ ws=>∃(y:List GS) (e:Int),ws=[Z_ y,.int .i64 e]/\(e=0->y.length=l.length/\(∀s∈y,TS d s)/\LKs l y)
theorem hR_ {d j:Nat} {x y:GS} {e:Int} {hv:List AV} {Y:Sy} {L:List (Nat->List AV->Prop)} (h:ab_ Y.v hv=s7_ y++[.int .i64 e]) (hw:e=0->TS d y/\LK x y):VOK Tryz.prog (QF (RT d x)) L Y (.done (.tup (.int .i64 (.ofNat j)::hv))):=
 VOK_fin (by rw [h];exact Ed_ y e) ⟨y,e,h,hw⟩
theorem zL_ (x:GX):okL (VARS::v_ x)=true:=by rw [aY_];exact okX x
theorem C1_ (x:GS):okL (VARS::s7_ x)=true:=by rw [aY_];exact okS x
theorem G9_ (d:Nat) (to e:GX) (thn els:List GS) (nm:List UInt8) (kd ad:Int) (args:List GX) (ht:WX 5 to) (ho:to.op=2\/to.op=3) (he:WX 6 e) (hnil:thn=[]/\els=[]):
  CF Tryz.prog 147 Ae_ (VARS::s7_ (.mk 1 to e thn els nm kd ad args)) (RT (d+1) (.mk 1 to e thn els nm kd ad args)):=by
 have h1:=yW_ 5 to ht;have h2:=yW_ 6 e he;obtain ⟨to1,to2,to3,to4,to5,to6,to7,to8,to9,to10⟩:=to;obtain ⟨e1,e2,e3,e4,e5,e6,e7,e8,e9,e10⟩:=e;refine vC_ (c:=FZ_) (n:=300) (t:=EP_) mo ov rfl (λY _=>vX_ _) (by kernel_rfl) λY hf hg=>?_;unfold EP_;refine a_ h2 rfl (zL_ _) ⟨?_,trivial⟩;rintro ws ⟨⟨y1,y2,y3,y4,y5,y6,y7,y8,y9,y10⟩,er,rfl,hy⟩
 (refine b_ rfl rfl ?_ ?_<;>intro h<;>simp only [nc]at h<;>try omega)
 ·(exact hR_ (y:=.mk _ (.mk ..) (.mk ..) _ _ _ _ _ _) rfl (λhe=>absurd he (by first|assumption|decide)))
 have hy:=(hy h).1;refine a_ h1 rfl (zL_ _) ⟨?_,trivial⟩;rintro ws ⟨⟨z1,z2,z3,z4,z5,z6,z7,z8,z9,z10⟩,er2,rfl,hz⟩
 (refine b_ rfl rfl ?_ ?_<;>intro h<;>simp only [nc]at h<;>try omega)
 ·(exact hR_ (y:=.mk _ (.mk ..) (.mk ..) _ _ _ _ _ _) rfl (λhe=>absurd he (by first|assumption|decide)))
 have hz:=hz h;obtain ⟨s,r,k,z,a,b,c,d',e',f,g,hp,hro⟩:=Bx_ (nm:=to3) (fd:=to4) (by
  have ht':Nod to1 to2 to3 to4 to7 to8 to9:=ht.2.2.1;rcases ho with ho|ho;exact .inl (ht'.2.1 ho)
  .exact .inr (ht'.2.2.1 ho))
 refine uW_ hp rfl rfl ?_;refine VOK_lt (vL_ ..) rfl (vz_ rfl (λh=>?_) (λhfd=>?_))
 ·(exact hR_ (y:=.mk _ (.mk ..) (.mk ..) _ _ _ _ _ _) rfl (λhe=>absurd he (by first|assumption|decide)))
 (refine b_ rfl rfl ?_ ?_<;>intro h<;>simp only [nc]at h<;>try omega)
 ·(exact hR_ (y:=.mk _ (.mk ..) (.mk ..) _ _ _ _ _ _) rfl (λhe=>absurd he (by first|assumption|decide)))
 have hr1:=h;obtain ⟨⟨yo1,yk1,ynm1,yfd1,yad1,yn1,yvk1,yvi1,yvf1,ya1⟩,hp1,hy1⟩:=zQ_ _ z2 hy;refine uW_ hp1 rfl (zM_ _) ?_
 (refine b_ rfl rfl ?_ ?_<;>intro h<;>simp only [nc]at h<;>try omega)
 ·(exact hR_ (y:=.mk _ (.mk ..) (.mk ..) _ _ _ _ _ _) rfl (λhe=>absurd he (by first|assumption|decide)))
 rcases ho with ho|ho;exact hR_ (y:=.mk 1 (.mk ..) (.mk ..) _ _ _ _ _ _) rfl (λ_=>⟨.inl ⟨rfl,hz.1,.inl ⟨hz.2.1.trans ho,tie_wr _ (hz.2.2 ho) _ hro (by simpa using hfd) rfl hr1⟩,hy1,h,hnil⟩,λ_=>⟨rfl,hz.2.2⟩⟩);exact hR_ (y:=.mk 1 (.mk ..) (.mk ..) _ _ _ _ _ _) rfl (λ_=>⟨.inl ⟨rfl,hz.1,.inr (hz.2.1.trans ho),hy1,h,hnil⟩,λ_=>⟨rfl,hz.2.2⟩⟩)
theorem zz_ {d:Nat} {acc:List GX} {y:GX} (h:∀a∈acc,TX d a) (hy:TX d y):∀a∈acc++[y],TX d a:=λa ha=>by rcases List.mem_append.1 ha with ha|ha;exact h a ha;cases List.mem_singleton.1 ha;exact hy
theorem Ha_ (d:Nat) (to e:GX) (thn els:List GS) (nm:List UInt8) (kd ad:Int) (args:List GX) (hn:nm=[116,109]\/nm=[99]\/nm=[101]) (hl:args.length<=2) (hW:∀a∈args,WX 5 a) (hnil:thn=[]/\els=[]):
  CF Tryz.prog 148 Af_ (VARS::s7_ (.mk 4 to e thn els nm kd ad args)) (RT (d+1) (.mk 4 to e thn els nm kd ad args)):=by
 obtain ⟨to1,to2,to3,to4,to5,to6,to7,to8,to9,to10⟩:=to;obtain ⟨e1,e2,e3,e4,e5,e6,e7,e8,e9,e10⟩:=e;refine vC_ (c:=F0_) (n:=300) (t:=EQ_) mo ov rfl (λY _=>vX_ _) (by kernel_rfl) λY hf hg=>?_;unfold EQ_;rcases hn with rfl|rfl|rfl
 .refine uW_ np_ rfl rfl (VOK_lt rfl rfl (vz_ rfl (λh=>by cases h) (λ_=>uW_ Aq_ rfl rfl ?_)))
  (refine b_ rfl rfl ?_ ?_<;>intro h<;>simp only [nc]at h<;>try omega);(refine b_ rfl rfl ?_ ?_<;>intro h<;>simp only [nc]at h<;>try omega);(refine b_ rfl rfl ?_ ?_<;>intro h<;>simp only [nc]at h<;>try omega);(refine b_ rfl rfl ?_ ?_<;>intro h<;>simp only [nc]at h<;>try omega);(refine b_ rfl rfl ?_ ?_<;>intro h<;>simp only [nc]at h<;>try omega)
  (
   refine uY_ (ι:=List GX×Nat) (λs=>[(.vsl 2 1 [.int .i64 1,.int .i64 4]),bw_ s.1,.int .i64 (s.2:Int)]) (λs=>s.1.length=s.2/\s.2<=args.length/\∀a∈s.1,TX 5 a) (λs=>args.length-s.2) ([],0) ⟨rfl,zb' _,λa ha=>(za' ha).elim⟩ rfl (λs _=>by simp only [okL,okC,okA]) (λs s' _ _ h=>by simp at h;omega) (λs hs=>?_);obtain ⟨acc,i⟩:=s;obtain ⟨h1,h2,h3⟩:=hs;simp only at h1 h2 h3⊢;refine VOK_lt (D_ args) rfl ?_
   (refine b_ rfl rfl ?_ ?_<;>intro h<;>simp only [nc]at h<;>try omega)
   .have hi:i<args.length:=(by omega);have hld:=nr_ args hi;have hz:=yW_ 5 args[i] (hW _ (zc' hi));rcases hzz:args[i]with ⟨zo,zk,znm,zfd,zad,zn,zvk,zvi,zvf,za⟩;rw [hzz]at hld hz;refine VOK_lt (nq_ args hi) (kY_ okX _) (vA_ hld rfl (okX _) ?_);refine a_ hz rfl (zL_ _) ⟨?_,trivial⟩;rintro ws ⟨⟨yo,yk,ynm,yfd,yad,yn,yvk,yvi,yvf,ya⟩,e,rfl,hy⟩
    (refine b_ rfl rfl ?_ ?_<;>intro h<;>simp only [nc]at h<;>try omega)
    ·(exact hR_ (y:=.mk _ (.mk ..) (.mk ..) _ _ _ _ _ _) rfl (λhe=>absurd he (by first|assumption|decide)))
    have hy:=(hy h).1;refine VOK_lt (r:=.int .i64 2) rfl rfl ?_
    (refine b_ rfl rfl ?_ ?_<;>intro h<;>simp only [nc]at h<;>try omega)
    all_goals first
     |(have hi2:i=0\/i=1:=by omega
       rcases hi2 with rfl|rfl;all_goals try (exfalso;omega)
       all_goals
        refine VOK_lt rfl rfl (VOK_lt rfl rfl ?_);obtain ⟨⟨yo1,yk1,ynm1,yfd1,yad1,yn1,yvk1,yvi1,yvf1,ya1⟩,hp1,hy1⟩:=zQ_ _ _ hy;refine uW_ hp1 rfl (zM_ _) ?_;refine VOK_lt (X_ acc (.mk yo1 yk1 ynm1 yfd1 yad1 yn1 yvk1 yvi1 yvf1 ya1) (by omega)) (okA _) (VOK_lt (q_ (by omega) (by omega)) rfl (uJ_ rfl ⟨(acc++[_],_),⟨by rw [List.length_append,h1];rfl,hi,zz_ h3 hy1⟩,rfl,by simp only;omega⟩)))
     |exact VOK_lt (X_ acc (.mk yo yk ynm yfd yad yn yvk yvi yvf ya) (by omega)) (okA _) (VOK_lt (q_ (by omega) (by omega)) rfl (uJ_ rfl ⟨(acc++[_],i+1),⟨by rw [List.length_append,h1];rfl,hi,zz_ h3 hy⟩,rfl,by simp only;omega⟩))
   have hi:i=args.length:=(by omega);subst hi;refine VOK_lt (D_ acc) rfl (VOK_lt (r:=.int .i64 2) rfl rfl ?_))
  (refine b_ rfl rfl ?_ ?_<;>intro h<;>simp only [nc]at h<;>try omega)
  ·(exact hR_ (y:=.mk _ (.mk ..) (.mk ..) _ _ _ _ _ _) rfl (λhe=>absurd he (by first|assumption|decide)))
  have ha:acc.length=2:=(by have h':(acc.length:Int)=2:=h;omega);obtain ⟨y,z,rfl⟩:∃y z,acc=[y,z]:=by
   rcases acc with _|⟨y,_|⟨z,_|⟨w,t⟩⟩⟩<;>simp at ha
   exact ⟨y,z,rfl⟩
  obtain ⟨y1,y2,y3,y4,y5,y6,y7,y8,y9,y10⟩:=y;obtain ⟨z1,z2,z3,z4,z5,z6,z7,z8,z9,z10⟩:=z;refine uY_ (ι:=Nat) (λi=>[.int .i64 (i:Int),.vsl 2 1 [.int .i64 1,.int .i64 4],bw_ [.mk y1 y2 y3 y4 y5 y6 y7 y8 y9 y10,.mk z1 z2 z3 z4 z5 z6 z7 z8 z9 z10]]) (λi=>i<=2/\(1<=i->y2=1)/\(2<=i->z2=4)) (λi=>2-i) 0 ⟨by decide,λh=>by omega,λh=>by omega⟩ rfl (λs _=>by simp only [okL,okC,okA]) (λs s' _ _ h=>by simp at h;omega) (λi hi=>?_);obtain ⟨i1,i2,i3⟩:=hi;refine VOK_lt (r:=.int .i64 2) rfl rfl ?_
  (refine b_ rfl rfl ?_ ?_<;>intro h<;>simp only [nc]at h<;>try omega)
  .have hi2:i=0\/i=1:=(by omega);rcases hi2 with rfl|rfl
   .refine VOK_lt (r:=.int .i64 0) rfl rfl (VOK_lt (r:=.int .i64 y2) rfl rfl (VOK_lt (r:=.int .i64 0) rfl rfl (VOK_lt (r:=.int .i64 1) rfl rfl ?_)))
    (refine b_ rfl rfl ?_ ?_<;>intro h<;>simp only [nc]at h<;>try omega)
    ·(exact hR_ (y:=.mk _ (.mk ..) (.mk ..) _ _ _ _ _ _) rfl (λhe=>absurd he (by first|assumption|decide)))
    exact VOK_lt (q_ (by omega) (by omega)) rfl (uJ_ rfl ⟨1,⟨by decide,λ_=>h,λh=>by omega⟩,rfl,by decide⟩)
   .refine VOK_lt (r:=.int .i64 1) rfl rfl (VOK_lt (r:=.int .i64 z2) rfl rfl (VOK_lt (r:=.int .i64 1) rfl rfl (VOK_lt (r:=.int .i64 4) rfl rfl ?_)))
    (refine b_ rfl rfl ?_ ?_<;>intro h<;>simp only [nc]at h<;>try omega)
    ·(exact hR_ (y:=.mk _ (.mk ..) (.mk ..) _ _ _ _ _ _) rfl (λhe=>absurd he (by first|assumption|decide)))
    exact VOK_lt (q_ (by omega) (by omega)) rfl (uJ_ rfl ⟨2,⟨by decide,λ_=>i2 (by decide),λ_=>h⟩,rfl,by decide⟩)
  refine hR_ (y:=.mk 4 (.mk ..) (.mk ..) _ _ _ _ _ [.mk ..,.mk ..]) rfl (λ_=>⟨.inr (.inr ⟨rfl,?_,h3,hnil⟩),λh=>by omega⟩);cases i2 (by omega);cases i3 (by omega);exact .inl ⟨rfl,rfl,rfl⟩
 .refine uW_ yO_ rfl rfl (VOK_lt rfl rfl (vz_ rfl (λh=>by cases h) (λ_=>uW_ Cf_ rfl rfl ?_)));repeat (refine b_ rfl rfl ?_ ?_<;>intro h<;>simp only [nc]at h<;>try omega)
  (
   refine uY_ (ι:=List GX×Nat) (λs=>[(.vsl 2 1 [.int .i64 1,.int .i64 2]),bw_ s.1,.int .i64 (s.2:Int)]) (λs=>s.1.length=s.2/\s.2<=args.length/\∀a∈s.1,TX 5 a) (λs=>args.length-s.2) ([],0) ⟨rfl,zb' _,λa ha=>(za' ha).elim⟩ rfl (λs _=>by simp only [okL,okC,okA]) (λs s' _ _ h=>by simp at h;omega) (λs hs=>?_);obtain ⟨acc,i⟩:=s;obtain ⟨h1,h2,h3⟩:=hs;simp only at h1 h2 h3⊢;refine VOK_lt (D_ args) rfl ?_
   (refine b_ rfl rfl ?_ ?_<;>intro h<;>simp only [nc]at h<;>try omega)
   .have hi:i<args.length:=(by omega);have hld:=nr_ args hi;have hz:=yW_ 5 args[i] (hW _ (zc' hi));rcases hzz:args[i]with ⟨zo,zk,znm,zfd,zad,zn,zvk,zvi,zvf,za⟩;rw [hzz]at hld hz;refine VOK_lt (nq_ args hi) (kY_ okX _) (vA_ hld rfl (okX _) ?_);refine a_ hz rfl (zL_ _) ⟨?_,trivial⟩;rintro ws ⟨⟨yo,yk,ynm,yfd,yad,yn,yvk,yvi,yvf,ya⟩,e,rfl,hy⟩
    (refine b_ rfl rfl ?_ ?_<;>intro h<;>simp only [nc]at h<;>try omega)
    ·(exact hR_ (y:=.mk _ (.mk ..) (.mk ..) _ _ _ _ _ _) rfl (λhe=>absurd he (by first|assumption|decide)))
    have hy:=(hy h).1;refine VOK_lt (r:=.int .i64 2) rfl rfl ?_
    (refine b_ rfl rfl ?_ ?_<;>intro h<;>simp only [nc]at h<;>try omega)
    all_goals first
     |(have hi2:i=0\/i=1:=by omega
       rcases hi2 with rfl|rfl;all_goals try (exfalso;omega)
       all_goals
        refine VOK_lt rfl rfl (VOK_lt rfl rfl ?_);obtain ⟨⟨yo1,yk1,ynm1,yfd1,yad1,yn1,yvk1,yvi1,yvf1,ya1⟩,hp1,hy1⟩:=zQ_ _ _ hy;refine uW_ hp1 rfl (zM_ _) ?_;refine VOK_lt (X_ acc (.mk yo1 yk1 ynm1 yfd1 yad1 yn1 yvk1 yvi1 yvf1 ya1) (by omega)) (okA _) (VOK_lt (q_ (by omega) (by omega)) rfl (uJ_ rfl ⟨(acc++[_],_),⟨by rw [List.length_append,h1];rfl,hi,zz_ h3 hy1⟩,rfl,by simp only;omega⟩)))
     |exact VOK_lt (X_ acc (.mk yo yk ynm yfd yad yn yvk yvi yvf ya) (by omega)) (okA _) (VOK_lt (q_ (by omega) (by omega)) rfl (uJ_ rfl ⟨(acc++[_],i+1),⟨by rw [List.length_append,h1];rfl,hi,zz_ h3 hy⟩,rfl,by simp only;omega⟩))
   have hi:i=args.length:=(by omega);subst hi;refine VOK_lt (D_ acc) rfl (VOK_lt (r:=.int .i64 2) rfl rfl ?_))
  (refine b_ rfl rfl ?_ ?_<;>intro h<;>simp only [nc]at h<;>try omega)
  ·(exact hR_ (y:=.mk _ (.mk ..) (.mk ..) _ _ _ _ _ _) rfl (λhe=>absurd he (by first|assumption|decide)))
  have ha:acc.length=2:=(by have h':(acc.length:Int)=2:=h;omega);obtain ⟨y,z,rfl⟩:∃y z,acc=[y,z]:=by
   rcases acc with _|⟨y,_|⟨z,_|⟨w,t⟩⟩⟩<;>simp at ha
   exact ⟨y,z,rfl⟩
  obtain ⟨y1,y2,y3,y4,y5,y6,y7,y8,y9,y10⟩:=y;obtain ⟨z1,z2,z3,z4,z5,z6,z7,z8,z9,z10⟩:=z;refine uY_ (ι:=Nat) (λi=>[.int .i64 (i:Int),.vsl 2 1 [.int .i64 1,.int .i64 2],bw_ [.mk y1 y2 y3 y4 y5 y6 y7 y8 y9 y10,.mk z1 z2 z3 z4 z5 z6 z7 z8 z9 z10]]) (λi=>i<=2/\(1<=i->y2=1)/\(2<=i->z2=2)) (λi=>2-i) 0 ⟨by decide,λh=>by omega,λh=>by omega⟩ rfl (λs _=>by simp only [okL,okC,okA]) (λs s' _ _ h=>by simp at h;omega) (λi hi=>?_);obtain ⟨i1,i2,i3⟩:=hi;refine VOK_lt (r:=.int .i64 2) rfl rfl ?_
  (refine b_ rfl rfl ?_ ?_<;>intro h<;>simp only [nc]at h<;>try omega)
  .have hi2:i=0\/i=1:=(by omega);rcases hi2 with rfl|rfl
   .refine VOK_lt (r:=.int .i64 0) rfl rfl (VOK_lt (r:=.int .i64 y2) rfl rfl (VOK_lt (r:=.int .i64 0) rfl rfl (VOK_lt (r:=.int .i64 1) rfl rfl ?_)))
    (refine b_ rfl rfl ?_ ?_<;>intro h<;>simp only [nc]at h<;>try omega)
    ·(exact hR_ (y:=.mk _ (.mk ..) (.mk ..) _ _ _ _ _ _) rfl (λhe=>absurd he (by first|assumption|decide)))
    exact VOK_lt (q_ (by omega) (by omega)) rfl (uJ_ rfl ⟨1,⟨by decide,λ_=>h,λh=>by omega⟩,rfl,by decide⟩)
   .refine VOK_lt (r:=.int .i64 1) rfl rfl (VOK_lt (r:=.int .i64 z2) rfl rfl (VOK_lt (r:=.int .i64 1) rfl rfl (VOK_lt (r:=.int .i64 2) rfl rfl ?_)))
    (refine b_ rfl rfl ?_ ?_<;>intro h<;>simp only [nc]at h<;>try omega)
    ·(exact hR_ (y:=.mk _ (.mk ..) (.mk ..) _ _ _ _ _ _) rfl (λhe=>absurd he (by first|assumption|decide)))
    exact VOK_lt (q_ (by omega) (by omega)) rfl (uJ_ rfl ⟨2,⟨by decide,λ_=>i2 (by decide),λ_=>h⟩,rfl,by decide⟩)
  refine hR_ (y:=.mk 4 (.mk ..) (.mk ..) _ _ _ _ _ [.mk ..,.mk ..]) rfl (λ_=>⟨.inr (.inr ⟨rfl,?_,h3,hnil⟩),λh=>by omega⟩);cases i2 (by omega);cases i3 (by omega);exact .inr (.inl ⟨rfl,rfl,rfl⟩)
 .refine uW_ Bw_ rfl rfl (VOK_lt rfl rfl (vz_ rfl (λh=>by cases h) (λ_=>uW_ CV_ rfl rfl ?_)));repeat (refine b_ rfl rfl ?_ ?_<;>intro h<;>simp only [nc]at h<;>try omega)
  (
   refine uY_ (ι:=List GX×Nat) (λs=>[(.vsl 1 1 [.int .i64 1]),bw_ s.1,.int .i64 (s.2:Int)]) (λs=>s.1.length=s.2/\s.2<=args.length/\∀a∈s.1,TX 5 a) (λs=>args.length-s.2) ([],0) ⟨rfl,zb' _,λa ha=>(za' ha).elim⟩ rfl (λs _=>by simp only [okL,okC,okA]) (λs s' _ _ h=>by simp at h;omega) (λs hs=>?_);obtain ⟨acc,i⟩:=s;obtain ⟨h1,h2,h3⟩:=hs;simp only at h1 h2 h3⊢;refine VOK_lt (D_ args) rfl ?_
   (refine b_ rfl rfl ?_ ?_<;>intro h<;>simp only [nc]at h<;>try omega)
   .have hi:i<args.length:=(by omega);have hld:=nr_ args hi;have hz:=yW_ 5 args[i] (hW _ (zc' hi));rcases hzz:args[i]with ⟨zo,zk,znm,zfd,zad,zn,zvk,zvi,zvf,za⟩;rw [hzz]at hld hz;refine VOK_lt (nq_ args hi) (kY_ okX _) (vA_ hld rfl (okX _) ?_);refine a_ hz rfl (zL_ _) ⟨?_,trivial⟩;rintro ws ⟨⟨yo,yk,ynm,yfd,yad,yn,yvk,yvi,yvf,ya⟩,e,rfl,hy⟩
    (refine b_ rfl rfl ?_ ?_<;>intro h<;>simp only [nc]at h<;>try omega)
    ·(exact hR_ (y:=.mk _ (.mk ..) (.mk ..) _ _ _ _ _ _) rfl (λhe=>absurd he (by first|assumption|decide)))
    have hy:=(hy h).1;refine VOK_lt (r:=.int .i64 1) rfl rfl ?_
    (refine b_ rfl rfl ?_ ?_<;>intro h<;>simp only [nc]at h<;>try omega)
    all_goals first
     |(have hi2:i=0\/i=1:=by omega
       rcases hi2 with rfl|rfl;all_goals try (exfalso;omega)
       all_goals
        refine VOK_lt rfl rfl (VOK_lt rfl rfl ?_);obtain ⟨⟨yo1,yk1,ynm1,yfd1,yad1,yn1,yvk1,yvi1,yvf1,ya1⟩,hp1,hy1⟩:=zQ_ _ _ hy;refine uW_ hp1 rfl (zM_ _) ?_;refine VOK_lt (X_ acc (.mk yo1 yk1 ynm1 yfd1 yad1 yn1 yvk1 yvi1 yvf1 ya1) (by omega)) (okA _) (VOK_lt (q_ (by omega) (by omega)) rfl (uJ_ rfl ⟨(acc++[_],_),⟨by rw [List.length_append,h1];rfl,hi,zz_ h3 hy1⟩,rfl,by simp only;omega⟩)))
     |exact VOK_lt (X_ acc (.mk yo yk ynm yfd yad yn yvk yvi yvf ya) (by omega)) (okA _) (VOK_lt (q_ (by omega) (by omega)) rfl (uJ_ rfl ⟨(acc++[_],i+1),⟨by rw [List.length_append,h1];rfl,hi,zz_ h3 hy⟩,rfl,by simp only;omega⟩))
   have hi:i=args.length:=(by omega);subst hi;refine VOK_lt (D_ acc) rfl (VOK_lt (r:=.int .i64 1) rfl rfl ?_))
  (refine b_ rfl rfl ?_ ?_<;>intro h<;>simp only [nc]at h<;>try omega)
  ·(exact hR_ (y:=.mk _ (.mk ..) (.mk ..) _ _ _ _ _ _) rfl (λhe=>absurd he (by first|assumption|decide)))
  have ha:acc.length=1:=(by have h':(acc.length:Int)=1:=h;omega);obtain ⟨y,rfl⟩:=List.length_eq_one_iff.1 ha;obtain ⟨y1,y2,y3,y4,y5,y6,y7,y8,y9,y10⟩:=y;refine uY_ (ι:=Nat) (λi=>[.int .i64 (i:Int),.vsl 1 1 [.int .i64 1],bw_ [.mk y1 y2 y3 y4 y5 y6 y7 y8 y9 y10]]) (λi=>i<=1/\(1<=i->y2=1)) (λi=>1-i) 0 ⟨by decide,λh=>by omega⟩ rfl (λs _=>by simp only [okL,okC,okA]) (λs s' _ _ h=>by simp at h;omega) (λi hi=>?_);obtain ⟨i1,i2⟩:=hi;refine VOK_lt (r:=.int .i64 1) rfl rfl ?_
  (refine b_ rfl rfl ?_ ?_<;>intro h<;>simp only [nc]at h<;>try omega)
  .have hi2:i=0:=(by omega);subst hi2;refine VOK_lt (r:=.int .i64 0) rfl rfl (VOK_lt (r:=.int .i64 y2) rfl rfl (VOK_lt (r:=.int .i64 0) rfl rfl (VOK_lt (r:=.int .i64 1) rfl rfl ?_)))
   (refine b_ rfl rfl ?_ ?_<;>intro h<;>simp only [nc]at h<;>try omega)
   ·(exact hR_ (y:=.mk _ (.mk ..) (.mk ..) _ _ _ _ _ _) rfl (λhe=>absurd he (by first|assumption|decide)))
   exact VOK_lt (q_ (by omega) (by omega)) rfl (uJ_ rfl ⟨1,⟨by decide,λ_=>h⟩,rfl,by decide⟩)
  refine hR_ (y:=.mk 4 (.mk ..) (.mk ..) _ _ _ _ _ [.mk ..]) rfl (λ_=>⟨.inr (.inr ⟨rfl,?_,h3,hnil⟩),λh=>by omega⟩);cases i2 (by omega);exact .inr (.inr ⟨rfl,rfl,rfl⟩)
theorem wI_ (l:List GS):(XOp.len 25).run Tryz.prog [Z_ l]=some (.int .i64 (l.length:Int)):=by rw [wZ_];exact uq_ Tryz.underlying25 l
theorem yz_ (l:List GS) {i:Nat} (h:i<l.length):(XOp.iaddr 25).run Tryz.prog [Z_ l,.int .i64 (i:Int)]=some (.vptr (bi_ s7_ (l.drop i))):=by rw [wZ_];exact run_iaddr_sl (e:=110) (ti:=(Tryz.prog.info? 110).get!) Tryz.underlying25 (by kernel_rfl) (by kernel_rfl) CW_ h .i64
theorem yA_ (l:List GS) {i:Nat} (h:i<l.length):(XOp.load 110).run Tryz.prog [.vptr (bi_ s7_ (l.drop i))]=some (.agg (s7_ l[i])):=
 run_load_agg (ti:=(Tryz.prog.info? 110).get!) Tryz.underlying110 rfl (by kernel_rfl) (by kernel_rfl) CW_ h
def PT (d:Nat):Prop:=∀x:GS,WS d x->CF Tryz.prog 97 ft97 (VARS::s7_ x) (RT d x)
theorem p54 (d:Nat) (hT:PT d) (l:List GS) (hl:l.length<=5) (hW:∀s∈l,WS d s):CF Tryz.prog 54 ft54 [VARS,Z_ l] (RU d l):=by
 refine vC_ (c:=c54) (n:=300) (t:=t54) mo ov rfl (λY _=>vX_ _) (by kernel_rfl) λY hf hg=>?_;unfold t54;refine uY_ (ι:=List GS×Nat) (λs=>[Z_ s.1,.int .i64 (s.2:Int)]) (λs=>s.1.length=s.2/\s.2<=l.length/\(∀a∈s.1,TS d a)/\LKs l s.1) (λs=>l.length-s.2) ([],0) ⟨rfl,zb' _,λa ha=>(za' ha).elim,λj _ h=>absurd h (Nat.not_lt_zero j)⟩ rfl (λs _=>by simp only [okL,okC,okB]) (λs s' _ _ h=>by simp at h;omega) (λs hs=>?_);obtain ⟨acc,i⟩:=s;obtain ⟨h1,h2,h3,h5⟩:=hs;simp only at h1 h2 h3 h5⊢;refine VOK_lt (wI_ l) rfl ?_
 (refine b_ rfl rfl ?_ ?_<;>intro h<;>simp only [nc]at h<;>try omega)
 .have hi:i<l.length:=(by omega);have hld:=yA_ l hi;have hz:=hT l[i] (hW _ (zc' hi));rcases hzz:l[i]with ⟨op,⟨to1,to2,to3,to4,to5,to6,to7,to8,to9,to10⟩,⟨e1,e2,e3,e4,e5,e6,e7,e8,e9,e10⟩,thn,els,nm,kd,ad,args⟩;rw [hzz]at hld hz;refine VOK_lt (yz_ l hi) (kY_ okS _) (vA_ hld rfl (okS _) ?_);refine a_ hz rfl (C1_ _) ⟨?_,trivial⟩;rintro ws ⟨⟨op',⟨so1,so2,so3,so4,so5,so6,so7,so8,so9,so10⟩,⟨f1,f2,f3,f4,f5,f6,f7,f8,f9,f10⟩,thn',els',nm',kd',ad',args'⟩,e,rfl,hy⟩
  (refine b_ rfl rfl ?_ ?_<;>intro h<;>simp only [nc]at h<;>try omega)
  exact VOK_fin rfl ⟨[],e,rfl,λhe=>absurd he h⟩;rename_i hh;refine VOK_lt (wb_ acc (.mk op' (.mk so1 so2 so3 so4 so5 so6 so7 so8 so9 so10) (.mk f1 f2 f3 f4 f5 f6 f7 f8 f9 f10) thn' els' nm' kd' ad' args') (by omega)) (okB _) (VOK_lt (q_ (by omega) (by omega)) rfl (uJ_ rfl ⟨(acc++[_],i+1),⟨by rw [List.length_append,h1];rfl,hi,?_,?_⟩,rfl,by simp only;omega⟩));intro a ha;rcases List.mem_append.1 ha with ha|ha;exact h3 a ha;cases List.mem_singleton.1 ha;exact (hy (by assumption)).1;intro j g1 g2;by_cases e:j<acc.length;rw [List.getElem_append_left e];exact h5 j g1 e;have e:j=acc.length:=(by rw [List.length_append,List.length_singleton]at g2;omega);have e2:j=i:=(by omega);subst e2;rw [List.getElem_append_right (by omega)];simp only [hzz];have:∀(k:Nat) (h:k<1),k=0:=λk h=>(by omega);simp only [e,Nat.sub_self,List.getElem_singleton];exact (hy (by assumption)).2
 exact VOK_fin (by show okL [Z_ acc,.int .i64 0]=true;simp only [okL,okC,okB]) ⟨acc,0,rfl,λ_=>⟨by omega,h3,h5⟩⟩
theorem BJ_ (l:List GS):okL [VARS,Z_ l]=true:=by rw [aY_];simp only [okL,okC,okB];rfl
theorem p97:∀d:Nat,PT d
 |0,_,h=>h.elim
 |d+1,.mk op to e thn els nm kd ad args,hx=>by
  have ih:=p54 d (p97 d);have h1:op=1->_:=λh=>G9_ d to e thn els nm kd ad args;have h4:=Ha_ d to e thn els nm kd ad args;have h2:=yW_ 5 e;obtain ⟨to1,to2,to3,to4,to5,to6,to7,to8,to9,to10⟩:=to;obtain ⟨e1,e2,e3,e4,e5,e6,e7,e8,e9,e10⟩:=e;refine vC_ (c:=c97) (n:=300) (t:=t97) mo ov rfl (λY _=>vX_ _) (by kernel_rfl) λY hf hg=>?_;unfold t97;rcases hx with ⟨rfl,a1,a2,a3,a4⟩|⟨ho,b1,b2,b3,b4,b5⟩|⟨rfl,a1,a2,a3,a4⟩
  ·(refine b_ rfl rfl ?_ ?_<;>intro h<;>simp only [nc]at h<;>try omega)
   refine a_ (h1 rfl a1 a2 a3 a4) rfl (C1_ _) ⟨?_,trivial⟩;rintro ws ⟨⟨op',⟨so1,so2,so3,so4,so5,so6,so7,so8,so9,so10⟩,⟨f1,f2,f3,f4,f5,f6,f7,f8,f9,f10⟩,thn',els',nm',kd',ad',args'⟩,e,rfl,hy⟩;exact hR_ (y:=.mk _ (.mk ..) (.mk ..) _ _ _ _ _ _) rfl hy
  ·(refine b_ rfl rfl ?_ ?_<;>intro h<;>simp only [nc]at h<;>try omega);(refine b_ rfl rfl ?_ ?_<;>intro h<;>simp only [nc]at h<;>try omega)
   refine a_ (h2 b1) rfl (zL_ _) ⟨?_,trivial⟩;rintro ws ⟨⟨y1,y2,y3,y4,y5,y6,y7,y8,y9,y10⟩,er,rfl,hy⟩
   (refine b_ rfl rfl ?_ ?_<;>intro h<;>simp only [nc]at h<;>try omega)
   ·(exact hR_ (y:=.mk _ (.mk ..) (.mk ..) _ _ _ _ _ _) rfl (λhe=>absurd he (by first|assumption|decide)))
   have hy:=(hy h).1
   (refine b_ rfl rfl ?_ ?_<;>intro h<;>simp only [nc]at h<;>try omega)
   ·(exact hR_ (y:=.mk _ (.mk ..) (.mk ..) _ _ _ _ _ _) rfl (λhe=>absurd he (by first|assumption|decide)))
   have hk:=h;refine a_ (ih thn b2 b4) rfl (BJ_ _) ⟨?_,trivial⟩;rintro ws ⟨thn',er1,rfl,ht⟩
   (refine b_ rfl rfl ?_ ?_<;>intro h<;>simp only [nc]at h<;>try omega)
   ·(exact hR_ (y:=.mk _ (.mk ..) (.mk ..) _ _ _ _ _ _) rfl (λhe=>absurd he (by first|assumption|decide)))
   have ht:=ht h;refine a_ (ih els b3 b5) rfl (BJ_ _) ⟨?_,trivial⟩;rintro ws ⟨els',er2,rfl,hs⟩;refine hR_ (y:=.mk _ (.mk ..) (.mk ..) _ _ _ _ _ _) rfl (λh0=>⟨.inr (.inl ⟨ho,hy,hk,by rw [ht.1];exact b2,by rw [(hs h0).1];exact b3,ht.2.1,(hs h0).2.1⟩),λh=>by omega⟩)
  ·(refine b_ rfl rfl ?_ ?_<;>intro h<;>simp only [nc]at h<;>try omega);(refine b_ rfl rfl ?_ ?_<;>intro h<;>simp only [nc]at h<;>try omega)
   refine a_ (h4 a1 a2 a3 a4) rfl (C1_ _) ⟨?_,trivial⟩;rintro ws ⟨⟨op',⟨so1,so2,so3,so4,so5,so6,so7,so8,so9,so10⟩,⟨f1,f2,f3,f4,f5,f6,f7,f8,f9,f10⟩,thn',els',nm',kd',ad',args'⟩,e,rfl,hy⟩;exact hR_ (y:=.mk _ (.mk ..) (.mk ..) _ _ _ _ _ _) rfl hy
def c24:VC:=⟨⟨[],[]⟩,[(45,[none])],[],1,true,[(55,ft55)]⟩
def t24:VT:=.call 45 [] 66 [none]<|Cf 55 ft55 [64,65,J 5,J 2] 67 2<|Dn [66,71,72]
def c17:VC:=⟨⟨[],[]⟩,[],[],0,true,[]⟩
def t17:VT:=Dn []
def c23:VC:=⟨⟨[],[]⟩,[(33,[none])],[],0,true,[(54,ft54)]⟩
def t23:VT:=.call 33 [64] 66 [none]<|It Q7 [66,J 0] 67 (Dn [.nsl,.nsl,66])<|Cf 54 ft54 [64,65] 68 2<|It Q7 [71,J 0] 72 (Dn [.nsl,.nsl,71])<|Li (.app 10 88) [.vsl 0 10 [],64] 73<|Dn [73,70,J 0]
def c8:VC:=⟨⟨[],[]⟩,[],[],0,true,[(17,ft17),(24,ft24),(23,ft23)]⟩
def t8:VT:=Cf 17 ft17 [64] 65 0<|Cf 24 ft24 [64,J 0] 66 3<|Cf 23 ft23 [68,69] 71 3<|Li Z3 [75,J 0] 76<|Dn [73,74,76]
def R19 (l:List UInt8):Nat->List AV->Prop:=λ_ ws=>∃(b:List GS) (n:Nat),ws=[VARS,Z_ b,.int .i64 (n:Int)]/\b.length<=5/\∀s∈b,WS 3 s
theorem p24 {l:List UInt8} {a:AV} (hp:Pk l a):CF Tryz.prog 24 ft24 [a,.int .i64 0] (R19 l):=by have hA:=hp.1.ok wG_;refine vC_ (c:=c24) (n:=300) (t:=t24) mo ov rfl (λY _=>vX_ _) (by kernel_rfl) λY hf hg=>?_;unfold t24;refine uW_ k37 rfl rfl ?_;refine a_ ((pS hp 2 (by decide)).2 0 5 (zb' _) (by decide) (by decide)) rfl (okR hA) ⟨?_,trivial⟩;rintro ws ⟨b,n,rfl,⟨h1,h2⟩,h3⟩;exact VOK_fin (by show okL [VARS,Z_ b,.int .i64 (n:Int)]=true;rw [aY_];simp only [okL,okC,okB];rfl) ⟨b,n,rfl,h1,h2⟩
theorem p17 (a:AV) (h:okC a=true):CF Tryz.prog 17 ft17 [a] (λ_ ws=>ws=[]):=by refine vC_ (c:=c17) (n:=300) (t:=t17) mo ov rfl (λY _=>vX_ _) (by kernel_rfl) λY hf hg=>?_;unfold t17;exact VOK_fin rfl rfl
def RC (l:List GS):Nat->List AV->Prop:=λ_ ws=>∃(v:AV) (b:List GS) (e:Int),ws=[v,Z_ b,.int .i64 e]/\okC v=true/\(e≠0->b=[])/\(e=0->v=VARS/\b.length=l.length/\(∀s∈b,TS 3 s)/\LKs l b)
theorem Cl_ {v:AV} (hv:okC v=true) (b:List GS) {x:AV} (hx:okC x=true):okL [v,Z_ b,x]=true:=by simp only [okL,hv,okB,hx]
theorem p23 (b:List GS) (hl:b.length<=5) (h:∀s∈b,WS 3 s):CF Tryz.prog 23 ft23 [VARS,Z_ b] (RC b):=by
 refine vC_ (c:=c23) (n:=300) (t:=t23) mo ov rfl (λY _=>vX_ _) (by kernel_rfl) λY hf hg=>?_;unfold t23;refine uW_ k35 rfl rfl ?_
 (refine b_ rfl rfl ?_ ?_<;>intro h<;>simp only [nc]at h<;>try omega)
 refine a_ (p54 3 (p97 3) b hl (by assumption)) rfl (BJ_ _) ⟨?_,trivial⟩;rintro ws ⟨b',e,rfl,hb⟩
 (refine b_ rfl rfl ?_ ?_<;>intro h<;>simp only [nc]at h<;>try omega)
 exact VOK_fin rfl ⟨.nsl,[],e,rfl,rfl,λ_=>rfl,λhe=>absurd he (by assumption)⟩;have hb:=hb (by assumption);refine VOK_lt (r:=VARS) rfl rfl (VOK_fin (Cl_ (v:=VARS) rfl b' (x:=.int .i64 0) rfl) ⟨VARS,b',0,rfl,rfl,λhe=>absurd rfl he,λ_=>⟨rfl,hb⟩⟩)
def R7:Nat->List AV->Prop:=λ_ ws=>∃(v:AV) (b:List GS) (e:Bool),ws=[v,Z_ b,.bool e]/\okC v=true/\(e=false->b=[])/\(e=true->v=VARS/\b.length<=5/\∀s∈b,TS 3 s)
theorem p8 {l:List UInt8} {a:AV} (hp:Pk l a):CF Tryz.prog 8 ft8 [a] R7:=by have hA:=hp.1.ok wG_;refine vC_ (c:=c8) (n:=300) (t:=t8) mo ov rfl (λY _=>vX_ _) (by kernel_rfl) λY hf hg=>?_;unfold t8;refine a_ (p17 a hA) rfl (by simp only [okL,hA]) ⟨?_,trivial⟩;rintro ws rfl;refine a_ (p24 hp) rfl (by simp only [okL,hA,okC]) ⟨?_,trivial⟩;rintro ws ⟨b,n,rfl,h1,h2⟩;refine a_ (p23 b h1 h2) rfl (BJ_ _) ⟨?_,trivial⟩;rintro ws ⟨v,b',e,rfl,hv,h0,hb⟩;refine VOK_lt (run_eql ..) rfl (VOK_fin (Cl_ hv b' (x:=.bool _) rfl) ⟨v,b',decide (e=0),rfl,hv,λhe=>h0 (by simpa using he),λhe=>by obtain ⟨q1,q2,q3,_⟩:=hb (of_decide_eq_true he);exact ⟨q1,by omega,q3⟩⟩)
structure GI where
 op:Int
 kd:Int
 ad:Int
 n:Int
 vk:Int
 vi:Int
 vf:Nat
def l_ (i:GI):List AV:=[.int .i64 i.op,.int .i64 i.kd,.int .i64 i.ad,.int .i64 i.n,.int .i64 i.vk,.int .i64 i.vi,.flt .f64 i.vf]
theorem xY_ (i:GI):(l_ i).length=7:=rfl
theorem okG (i:GI):okL (l_ i)=true:=rfl
abbrev k_ (l:List GI):AV:=a3_ l_ 7 l
theorem okI (l:List GI):okC (k_ l)=true:=ut_ okG l
def j_ (op kd ad n:Int):GI:=⟨op,kd,ad,n,0,0,0⟩
def kd0:List GX->Int
 |[]=>0
 |a::_=>a.kd
def G_ (op kd ad n vk vi:Int) (vf:Nat) (args:List GX):GI:=
 if op=1 then ⟨1,vk,0,0,vk,vi,vf⟩else if op=2 then j_ 2 0 ad 0 else if op=3 then j_ 3 0 ad n else if op=17 then j_ 17 kd 0 (kd0 args)else j_ op (kd0 args) 0 0
mutual
def i_:GX->List GI
 | .mk op kd nm fd ad n vk vi vf args=>p_ args++[G_ op kd ad n vk vi vf args]
def p_:List GX->List GI
 |[]=>[]
 |a::r=>i_ a++p_ r
end
theorem vg_:∀a b:List GX,p_ (a++b)=p_ a++p_ b
 |[],b=>rfl
 |x::a,b=>by simp only [List.cons_append,p_,vg_ a b,List.append_assoc]
theorem wA_ {d:Nat} {M:Nat}:∀{l:List GX},(∀x∈l,(i_ x).length<=M)->(p_ l).length<=l.length*M
 |[],_=>by simp [p_]
 |a::r,h=>by have h1:=h a (ze' ..);have h2:=wA_ (d:=d) (M:=M) (l:=r) λx hx=>h x (zf' _ hx);simp only [p_,List.length_append,List.length_cons,Nat.add_mul,Nat.one_mul];omega
theorem ws_:∀{d:Nat} {x:GX},TX d x->(i_ x).length+1<=2^d
 |0,_,h=>h.elim
 |d+1,.mk op kd nm fd ad n vk vi vf args,⟨h1,_,_,_,_,h6⟩=>by have hl:args.length<=2:=(by unfold Ari at h1;omega);have hp:1<=2^d:=Nat.one_le_two_pow;have:=wA_ (d:=d) (M:=2^d-1) (l:=args) λx hx=>(by have:=ws_ (h6 x hx);omega);have h2:args.length*(2^d-1)<=2*(2^d-1):=zd' _ hl;simp only [i_,List.length_append,List.length_cons,List.length_nil,Nat.pow_succ];omega
def te_:GX->List GI
 | .mk op _ _ _ ad n _ _ _ args=>if op=3 then p_ args++[j_ 19 0 ad n]else [j_ 18 0 ad 0]
mutual
def A_:Nat->GS->List GI
 |b,.mk op to e thn els nm kd ad args=>
  if op=1 then i_ e++te_ to
  else if op=2 then
   let c:=i_ e
   let t:=g_ (b+c.length+1) thn
   if els=[]then c++[j_ 21 0 ((b+c.length+1+t.length:Nat):Int) 0]++t
   else
    let q:=g_ (b+c.length+1+t.length+1) els
    c++[j_ 21 0 ((b+c.length+1+t.length+1:Nat):Int) 0]++t++[j_ 20 0 ((b+c.length+1+t.length+1+q.length:Nat):Int) 0]++q
  else if op=3 then
   let c:=i_ e
   let t:=g_ (b+c.length+1) thn
   c++[j_ 21 0 ((b+c.length+1+t.length+1:Nat):Int) 0]++t++[j_ 20 0 (b:Int) 0]
  else p_ args++[j_ 22 kd ad (args.length:Int)]
def g_:Nat->List GS->List GI
 |_,[]=>[]
 |b,s::r=>A_ b s++g_ (b+(A_ b s).length) r
end
def w_ (x:List GS):List GI:=g_ 0 x++[j_ 23 0 0 0]
def pl (x:List GS):AV:=if (w_ x).length<=400 then k_ (w_ x)else .nsl
def pe (x:List GS):Int:=if (w_ x).length<=400 then 0 else 12
def yq_ (x:List GS):AV:=.tup [pl x,.int .i64 (pe x)]
theorem Eb_ (x:List GS):okC (pl x)=true:=by unfold pl;split;exact okI _;rfl
theorem C0_ (x:List GS):aX_ (yq_ x)=true:=by have:=qc_ (Eb_ x);simp only [yq_,aX_,cG_,this]
theorem Cc_ {x:GX} (h:TX 5 x):(i_ x).length<=31:=by have:=ws_ h;omega
theorem Ai_ {l:List GX} (h:∀x∈l,TX 5 x):(p_ l).length<=l.length*31:=wA_ (d:=0) λx hx=>Cc_ (h x hx)
theorem CS_ {x:GX} (h:TX 5 x):(te_ x).length<=63:=by
 obtain ⟨op,kd,nm,fd,ad,n,vk,vi,vf,args⟩:=x;have hal:args.length<=2:=by have:=h.1;unfold Ari at this;omega
 have h2:(p_ args).length<=args.length*31:=Ai_ λx hx=>xM_ (by decide) (h.2.2.2.2.2 x hx);simp only [te_];split;simp only [List.length_append,List.length_cons,List.length_nil];omega;simp
theorem DQ_ {x:GX} (h:TX 6 x):(i_ x).length<=63:=by have:=ws_ h;omega
def szB:Nat->Nat
 |0=>0
 |d+1=>130+10*szB d
theorem v7_ {M:Nat}:∀{l:List GS} (b:Nat),(∀s∈l,∀b,(A_ b s).length<=M)->(g_ b l).length<=l.length*M
 |[],b,_=>by simp [g_]
 |a::r,b,h=>by have h1:=h a (ze' ..) b;have h2:=v7_ (M:=M) (l:=r) (b+(A_ b a).length) λx hx=>h x (zf' _ hx);simp only [g_,List.length_append,List.length_cons,Nat.add_mul,Nat.one_mul];omega
theorem yf_:∀(d:Nat) (s:GS),TS d s->∀b,(A_ b s).length<=szB d
 |0,_,h,_=>h.elim
 |d+1,.mk op to e thn els nm kd ad args,h,b=>by have ih:=yf_ d;simp only [A_,szB];rcases h with ⟨rfl,a1,a2,a3,a4,_⟩|⟨ho,b1,b2,b3,b4,b5,b6⟩|⟨rfl,c1,c2,_⟩;have h1:=DQ_ a3;have h2:=CS_ a1;simp only [if_pos,List.length_append];omega;have h1:=Cc_ b1;have h2:∀b,(g_ b thn).length<=thn.length*szB d:=λb=>v7_ b λs hs=>ih s (b5 s hs);have h3:∀b,(g_ b els).length<=els.length*szB d:=λb=>v7_ b λs hs=>ih s (b6 s hs);have h4:thn.length*szB d<=5*szB d:=zd' _ b3;have h5:els.length*szB d<=5*szB d:=zd' _ b4;rcases ho with rfl|rfl;rw [if_neg (by decide),if_pos rfl];have q1:=h2 (b+(i_ e).length+1);have q2:=h3 (b+(i_ e).length+1+(g_ (b+(i_ e).length+1) thn).length+1);split;simp only [List.length_append,List.length_cons,List.length_nil];omega;simp only [List.length_append,List.length_cons,List.length_nil];omega;rw [if_neg (by decide),if_neg (by decide),if_pos rfl];have q1:=h2 (b+(i_ e).length+1);simp only [List.length_append,List.length_cons,List.length_nil];omega;have hal:args.length<=2:=(by rcases c1 with ⟨_,_,c1⟩|⟨_,_,c1⟩|⟨_,_,c1⟩<;>(have:=congrArg List.length c1;simp at this;omega));have h1:=Ai_ c2;rw [if_neg (by decide),if_neg (by decide),if_neg (by decide)];simp only [List.length_append,List.length_cons,List.length_nil];omega
theorem CR_ {l:List GS} (h5:l.length<=5) (h:∀s∈l,TS 3 s) (b:Nat):(g_ b l).length<=80000:=by have h1:(g_ b l).length<=l.length*szB 3:=v7_ b λs hs=>yf_ 3 s (h s hs);have h2:l.length*szB 3<=5*szB 3:=zd' _ h5;have h3:szB 3=14430:=rfl;omega
structure FV where
 k:Int
 i:Int
 f:Option Nat
def FV.z:FV:=⟨0,0,some 0⟩
def m_ (v:FV):List AV:=[.int .i64 v.k,.int .i64 v.i,fv v.f]
theorem wt_ (v:FV):(m_ v).length=3:=rfl
theorem okV (v:FV):okL (m_ v)=true:=by simp only [m_,okL,okC,v8_]
def InK (k i:Int):Prop:=(k=1/\0<=i/\i<=1)\/(k=2/\ -32768<=i/\i<=32767)\/(k=3/\ -2147483648<=i/\i<=2147483647)\/(k=4/\ -9223372036854775808<=i/\i<=9223372036854775807)\/(k=5/\i=0)
def TV (v:FV):Prop:=InK v.k v.i/\(v.k≠5->v.f=some 0)
theorem InK.kd {k i:Int} (h:InK k i):1<=k/\k<=5:=by rcases h with h|h|h|h|h<;>omega
theorem InK.i64 {k i:Int} (h:InK k i): -9223372036854775808<=i/\i<=9223372036854775807:=by rcases h with h|h|h|h|h<;>omega
def T_ (k i:Int):Int:=if k=1 then (if i=0 then 0 else 1)else if k=2 then IntKind.i16.wrap i else if k=3 then IntKind.i32.wrap i else if k=4 then i else 0
theorem xI_ (i:Int): -32768<=IntKind.i16.wrap i/\IntKind.i16.wrap i<=32767:=by simp [IntKind.wrap,IntKind.bits,IntKind.signed];omega
theorem xJ_ (i:Int): -2147483648<=IntKind.i32.wrap i/\IntKind.i32.wrap i<=2147483647:=by simp [IntKind.wrap,IntKind.bits,IntKind.signed];omega
theorem xK_ (i:Int): -9223372036854775808<=IntKind.i64.wrap i/\IntKind.i64.wrap i<=9223372036854775807:=by simp [IntKind.wrap,IntKind.bits,IntKind.signed];omega
theorem zZ_ {i:Int} (h1: -32768<=i) (h2:i<=32767):IntKind.i16.wrap i=i:=by simp [IntKind.wrap,IntKind.bits,IntKind.signed];omega
theorem z0_ {i:Int} (h1: -2147483648<=i) (h2:i<=2147483647):IntKind.i32.wrap i=i:=by simp [IntKind.wrap,IntKind.bits,IntKind.signed];omega
theorem xo_ {k i:Int} (h1:1<=k) (h2:k<=4) (h3: -9223372036854775808<=i) (h4:i<=9223372036854775807):InK k (T_ k i):=by have a:=xI_ i;have b:=xJ_ i;unfold InK T_;rcases (by omega:k=1\/k=2\/k=3\/k=4)with rfl|rfl|rfl|rfl;simp only [if_true];split;exact .inl ⟨trivial,by decide,by decide⟩;exact .inl ⟨trivial,by decide,by decide⟩;exact .inr (.inl ⟨rfl,a⟩);exact .inr (.inr (.inl ⟨rfl,b⟩));exact .inr (.inr (.inr (.inl ⟨rfl,h3,h4⟩)))
theorem tD_ {k i:Int} (h:InK k i) (hk:k≠5):T_ k i=i:=by
 unfold T_;rcases h with ⟨rfl,h,h'⟩|⟨rfl,h,h'⟩|⟨rfl,h,h'⟩|⟨rfl,h,h'⟩|⟨rfl,h⟩
 .simp only [if_true];split<;>omega
 simp [zZ_ h h'];simp [z0_ h h'];simp;exact absurd rfl hk
def tI (b:Bool):Int:=if b=true then 1 else 0
def w64 (i:Int):Int:=IntKind.i64.wrap i
def wW_ (op k a b:Int):Int:=
 if op=4 then T_ k (w64 (a+b))else if op=5 then T_ k (w64 (a-b))else if op=6 then T_ k (w64 (a*b))else if op=7 then T_ k (w64 (a.tdiv b))else if op=8 then T_ k (a.tmod b)
 else if op=9 then tI (decide (a=b))else if op=10 then tI (decide (¬a=b))else if op=11 then tI (decide (a<b))else if op=12 then tI (decide (a<=b))
 else if op=13 then tI (decide (¬a=0)&&decide (¬b=0))else if op=14 then tI (decide (¬a=0)||decide (¬b=0))else if op=15 then tI (decide (a=0))else T_ k (w64 (0-a))
def p0_ (op b:Int):Int:=if (op=7\/op=8)/\b=0 then 5 else 0
def OpK (op k:Int):Prop:=4<=op/\op<=16/\1<=k/\k<=5/\(op<=8\/op=16\/op=11\/op=12->k≠1)/\(op=8->k≠5)/\(13<=op/\op<=15->k=1)
theorem wx_ (b:Bool):InK 1 (tI b):=by cases b;exact .inl ⟨rfl,by decide,by decide⟩;exact .inl ⟨rfl,by decide,by decide⟩
theorem BX_ {k a b:Int} (h:InK k a) (hk:k≠5) (hk1:k≠1):InK k (a.tmod b):=by
 have h1:(a.tmod b).natAbs<=a.natAbs:=by rw [Int.natAbs_tmod];exact Nat.mod_le _ _
 have h2:0<=a->0<=a.tmod b:=λh=>zg' _ h;have h3:¬(a<0/\0<a.tmod b):=λ⟨p,q⟩=>by have:=zg' (a:= -a) b (by omega);rw [Int.neg_tmod]at this;omega
 rcases h with h|h|h|h|h;omega;exact .inr (.inl (by omega));exact .inr (.inr (.inl (by omega)));exact .inr (.inr (.inr (.inl (by omega))));omega
theorem Bv_ {op k a b:Int} (h:OpK op k) (hk:k≠5) (ha:InK k a):InK (if 9<=op/\op<=12 then 1 else k) (wW_ op k a b):=by obtain ⟨h1,h2,h3,h4,h5,h6,h7⟩:=h;have hw:∀i,InK k (T_ k (w64 i)):=λi=>xo_ h3 (by omega) (xK_ i).1 (xK_ i).2;unfold wW_;by_cases c4:op=4;subst c4;simp only [if_true,if_false,show ¬((9:Int)<=4/\(4:Int)<=12) by omega];exact hw _;rw [if_neg c4];by_cases c5:op=5;subst c5;simp only [if_true,if_false,show ¬((9:Int)<=5/\(5:Int)<=12) by omega];exact hw _;rw [if_neg c5];by_cases c6:op=6;subst c6;simp only [if_true,if_false,show ¬((9:Int)<=6/\(6:Int)<=12) by omega];exact hw _;rw [if_neg c6];by_cases c7:op=7;subst c7;simp only [if_true,if_false,show ¬((9:Int)<=7/\(7:Int)<=12) by omega];exact hw _;rw [if_neg c7];by_cases c8:op=8;subst c8;simp only [if_true,if_false,show ¬((9:Int)<=8/\(8:Int)<=12) by omega];have:=BX_ (b:=b) ha hk (h5 (by omega));rw [tD_ this hk];exact this;rw [if_neg c8];by_cases c9:op=9;subst c9;simp only [if_true,show ((9:Int)<=9/\(9:Int)<=12) by omega];exact wx_ _;rw [if_neg c9];by_cases c10:op=10;subst c10;simp only [if_true,show ((9:Int)<=10/\(10:Int)<=12) by omega];exact wx_ _;rw [if_neg c10];by_cases c11:op=11;subst c11;simp only [if_true,show ((9:Int)<=11/\(11:Int)<=12) by omega];exact wx_ _;rw [if_neg c11];by_cases c12:op=12;subst c12;simp only [if_true,show ((9:Int)<=12/\(12:Int)<=12) by omega];exact wx_ _;rw [if_neg c12,if_neg (show ¬(9<=op/\op<=12) by omega)];by_cases c8:op=13;rw [if_pos c8,h7 (by omega)];exact wx_ _;rw [if_neg c8];by_cases c17:op=14;rw [if_pos c17,h7 (by omega)];exact wx_ _;rw [if_neg c17];by_cases c18:op=15;rw [if_pos c18,h7 (by omega)];exact wx_ _;rw [if_neg c18];exact hw _
def Eh_ (op:Int) (o:Option Ordering):Bool:=if op=9 then o==some .eq else if op=10 then o !=some .eq else if op=11 then o==some .lt else o==some .lt||o==some .eq
def wS_ (op:Int) (a b:Option Nat):FV:=
 if op=4 then ⟨5,0,fM_ FloatKind.f64.format.add a b⟩else if op=5 then ⟨5,0,fM_ FloatKind.f64.format.sub a b⟩else if op=6 then ⟨5,0,fM_ FloatKind.f64.format.mul a b⟩else if op=7 then ⟨5,0,fM_ FloatKind.f64.format.div a b⟩
 else if op=16 then ⟨5,0,a.map (Op.negFloat .f64)⟩else ⟨1,tI (Eh_ op (ordF a b)),some 0⟩
def opV (op k:Int) (a b:FV):FV:=if k=5 then wS_ op a.f b.f else ⟨if 9<=op/\op<=12 then 1 else k,wW_ op k a.i b.i,some 0⟩
def opE (op k:Int) (b:FV):Int:=if k=5 then 0 else p0_ op b.i
theorem AM_ (op:Int) (a b:Option Nat):TV (wS_ op a b):=by
 have r:∀f,TV ⟨5,0,f⟩:=λf=>⟨.inr (.inr (.inr (.inr ⟨rfl,rfl⟩))),λh=>absurd rfl h⟩;unfold wS_;split;· exact r _
 split;· exact r _
 split;· exact r _
 split;· exact r _
 split;· exact r _
 exact ⟨wx_ _,λ_=>rfl⟩
theorem C3_ {op k:Int} {a b:FV} (h:OpK op k) (ha:TV a) (hk:a.k=k):TV (opV op k a b):=by unfold opV;split;exact AM_ ..;rename_i h5;exact ⟨Bv_ h h5 (hk▸ha.1),λ_=>rfl⟩
theorem Eg_ {op k:Int} {a b:FV} (h:OpK op k):(opV op k a b).k=if (9<=op/\op<=12)then 1 else k:=by
 obtain ⟨h1,h2,h3,h4,h5,h6,h7⟩:=h;unfold opV;split
 .rename_i e;unfold wS_;split;· rw [if_neg (by omega),e]
  split;· rw [if_neg (by omega),e]
  split;· rw [if_neg (by omega),e]
  split;· rw [if_neg (by omega),e]
  split;· rw [if_neg (by omega),e]
  rw [if_pos (by omega)]
 rfl
def hiK (k:Int):Nat:=if k=2 then 4674736413210574848 else if k=3 then 4746794007248502784 else 4890909195324358656
def loK (k:Int):Nat:=if k=2 then 13898108450065350656 else if k=3 then 13970166044103278592 else 14114281232179134464
def V_ (k:Int) (f:Option Nat):Option Int:=
 if lj_ f=true then none else if ordF (uw_ f) (some (loK k))=some .lt then none else if ordF (uw_ f) (some (hiK k))=some .lt then sn_ (uw_ f)else none
theorem xH_ {k:Int} {f:Option Nat} {n:Int} (hk:2<=k/\k<=4) (h:V_ k f=some n):InK k n:=by
 unfold V_ at h;split at h;· cases h
 split at h;· cases h
 rename_i h1;split at h;rename_i h2;rcases (by omega:k=2\/k=3\/k=4)with rfl|rfl|rfl;obtain ⟨m,e,a,b⟩:=tu_ (k:=15) (j:= -37) rfl (by kernel_rfl) (by kernel_rfl) h1 h2;rw [h]at e;cases e;exact .inr (.inl ⟨rfl,by omega,by omega⟩);obtain ⟨m,e,a,b⟩:=tu_ (k:=31) (j:= -21) rfl (by kernel_rfl) (by kernel_rfl) h1 h2;rw [h]at e;cases e;exact .inr (.inr (.inl ⟨rfl,by omega,by omega⟩));obtain ⟨m,e,a,b⟩:=tu_ (k:=63) (j:=11) rfl (by kernel_rfl) (by kernel_rfl) h1 h2;rw [h]at e;cases e;exact .inr (.inr (.inr (.inl ⟨rfl,by omega,by omega⟩)));cases h
def sN_ (kd:Int) (v:FV):Except Int FV:=
 if kd=5 then (if v.k=5 then .ok v else .ok ⟨5,0,some (FloatKind.f64.nearest v.i)⟩)
 else if v.k=5 then (match V_ kd v.f with|some n=>.ok ⟨kd,n,some 0⟩|none=>.error 7)
 else .ok ⟨kd,T_ kd v.i,some 0⟩
theorem Aa_ {kd:Int} {v w:FV} (hk:2<=kd/\kd<=5) (hv:TV v) (h:sN_ kd v=.ok w):TV w/\w.k=kd:=by unfold sN_ at h;split at h;rename_i e;split at h;rename_i e';cases h;exact ⟨hv,by omega⟩;cases h;exact ⟨⟨.inr (.inr (.inr (.inr ⟨rfl,rfl⟩))),λh=>absurd rfl h⟩,e.symm⟩;split at h;split at h;rename_i n hn;cases h;exact ⟨⟨xH_ (k:=kd) (by omega) hn,λ_=>rfl⟩,rfl⟩;cases h;cases h;have:=hv.1.i64;exact ⟨⟨xo_ (k:=kd) (by omega) (by omega) this.1 this.2,λ_=>rfl⟩,rfl⟩
def Gg_:VC:=⟨⟨[],[]⟩,[],[],0,true,[]⟩
def E6_:VT:=.ite 64 (.done (J 1))<|.done (J 0)
def Gh_:VC:=⟨⟨[],[]⟩,[],[],0,true,[]⟩
def E7_:VT:=Iq 64 9 67 (Li Qq [65,66] 68<|.done (.tup [.bool true,68]))<|Iq 64 10 68 (Li Ua [65,66] 69<|.done (.tup [.bool true,69]))<|Iq 64 11 69 (Li Uu [65,66] 70<|.done (.tup [.bool true,70]))<|Iq 64 12 70 (Li Zy [65,66] 71<|.done (.tup [.bool true,71]))<|.done (.tup [.bool false,.bool false])
def Gj_:VC:=⟨⟨[],[]⟩,[(199,[none])],[],0,true,[]⟩
def E9_:VT:=Iq 64 13 67 (It Qc [65,J 0] 68 (Li Qc [66,J 0] 69<|.call 199 [69] 70 [none]<|.done (70))<|.call 199 [.bool false] 69 [none]<|.done (69))<|Iq 64 14 68 (It Qc [65,J 0] 69 (.call 199 [.bool true] 70 [none]<|.done (70))<|Li Qc [66,J 0] 70<|.call 199 [70] 71 [none]<|.done (71))<|Iq 64 15 69 (Li Qt [65,J 0] 70<|.call 199 [70] 71 [none]<|.done (71))<|.done (J 0)
def F8_:VC:=⟨⟨[],[]⟩,[(199,[none])],[],0,true,[]⟩
def EY_:VT:=Iq 64 1 66 (Li Qc [65,J 0] 67<|.call 199 [67] 68 [none]<|.done (68))<|Iq 64 2 67 (Li (.conv 2 219) [65] 68<|Li (.conv 219 2) [68] 69<|.done (69))<|Iq 64 3 68 (Li (.conv 2 21) [65] 69<|Li (.conv 21 2) [69] 70<|.done (70))<|Iq 64 4 69 (.done (65))<|.done (J 0)
def Gi_:VC:=⟨⟨[],[]⟩,[],[],0,true,[]⟩
def E8_:VT:=Dn [64]
def Gn_:VC:=⟨⟨[],[]⟩,[],[],0,true,[(202,ft202)]⟩
def Fd_:VT:=It Qt [66,J 0] 67 (Cf 202 ft202 [J 5] 68 1<|.done (.tup [J 1,69]))<|Iq 64 8 68 (Li Zl [65,66] 69<|Dn [69])<|Li Ub [65,66] 69<|Dn [69]
def Gk_:VC:=⟨⟨[],[]⟩,[],[],0,true,[(202,ft202),(216,zd_)]⟩
def Fa_:VT:=Iq 64 4 67 (Li Zk [65,66] 68<|Dn [68])<|Iq 64 5 68 (Li Zh [65,66] 69<|Dn [69])<|Iq 64 6 69 (Li Uv [65,66] 70<|Dn [70])<|Iq 64 16 70 (Li Zb [65] 71<|Dn [71])<|Iq 64 7 71 (.callF 216 zd_ [64,65,66] 72 (.cons 1 (Dn [75]) (.cons 1 (.done (.tup [J 1,75])) .nil)))<|Iq 64 8 72 (.callF 216 zd_ [64,65,66] 73 (.cons 1 (Dn [76]) (.cons 1 (.done (.tup [J 1,76])) .nil)))<|Cf 202 ft202 [J 4] 73 1<|.done (.tup [J 1,74])
def CB_:VC:=⟨⟨[],[]⟩,[(201,[none,none]),(203,[none]),(199,[none]),(165,[none])],[],0,true,[(202,ft202),(204,ft204)]⟩
def AZ_:VT:=.call 201 [64,65,66] 67 [none,none]<|Iq 64 13 69 (.call 203 [64,65,66] 70 [none]<|.done (.tup [70,J 0]))<|Iq 64 14 70 (.call 203 [64,65,66] 71 [none]<|.done (.tup [71,J 0]))<|Iq 64 15 71 (.call 203 [64,65,66] 72 [none]<|.done (.tup [72,J 0]))<|It Q1 [64,J 9] 72 (It Q1 [64,J 10] 73 (Cf 202 ft202 [J 4] 74 1<|Dn [75])<|.ite 67 (.call 199 [68] 74 [none]<|.done (.tup [74,J 0]))<|.callF 204 ft204 [64,65,66] 74 (.cons 1 (.call 165 [J 1,77] 78 [none]<|.done (.tup [78,J 0])) (.cons 1 (Dn [77]) .nil)))<|.ite 67 (.call 199 [68] 73 [none]<|.done (.tup [73,J 0]))<|.callF 204 ft204 [64,65,66] 73 (.cons 1 (.call 165 [J 1,76] 77 [none]<|.done (.tup [77,J 0])) (.cons 1 (Dn [76]) .nil))
def CC_:VC:=⟨⟨[],[]⟩,[(201,[none,none]),(203,[none]),(199,[none]),(165,[none])],[],0,true,[(202,ft202),(204,ft204)]⟩
def A0_:VT:=.call 201 [64,65,66] 67 [none,none]<|.ite 67 (.call 199 [68] 69 [none]<|.done (.tup [69,J 0]))<|.callF 204 ft204 [64,65,66] 69 (.cons 1 (.call 165 [J 2,72] 73 [none]<|.done (.tup [73,J 0])) (.cons 1 (Dn [72]) .nil))
def CD_:VC:=⟨⟨[],[]⟩,[(201,[none,none]),(203,[none]),(199,[none]),(165,[none])],[],0,true,[(202,ft202),(204,ft204)]⟩
def A1_:VT:=.call 201 [64,65,66] 67 [none,none]<|.ite 67 (.call 199 [68] 69 [none]<|.done (.tup [69,J 0]))<|.callF 204 ft204 [64,65,66] 69 (.cons 1 (.call 165 [J 3,72] 73 [none]<|.done (.tup [73,J 0])) (.cons 1 (Dn [72]) .nil))
def CE_:VC:=⟨⟨[],[]⟩,[(201,[none,none]),(203,[none]),(199,[none]),(165,[none])],[],0,true,[(202,ft202),(204,ft204)]⟩
def A2_:VT:=.call 201 [64,65,66] 67 [none,none]<|.ite 67 (.call 199 [68] 69 [none]<|.done (.tup [69,J 0]))<|.callF 204 ft204 [64,65,66] 69 (.cons 1 (.call 165 [J 4,72] 73 [none]<|.done (.tup [73,J 0])) (.cons 1 (Dn [72]) .nil))
theorem xc_ (b:Bool):jD_ Tryz.prog 199 [.bool b] (.int .i64 (tI b)):=by refine uk_ (sh:=[none]) (ls:=[.bool b]) (c:=Gg_) (n:=300) (t:=E6_) mo ov rfl rfl rfl (λY _=>vX_ _) rfl (by kernel_rfl) λY hf hg=>?_;unfold E6_;cases b;exact vz_ (t:=false) rfl (λh=>by cases h) (λh=>uX_ rfl);exact vz_ (t:=true) rfl (λh=>uX_ rfl) (λh=>by cases h)
def yb_ (op a b:Int):Bool:=if op=9 then decide (a=b)else if op=10 then decide (¬a=b)else if op=11 then decide (a<b)else if op=12 then decide (a<=b)else false
theorem BK_ (op a b:Int):jD_ Tryz.prog 201 [.int .i64 op,.int .i64 a,.int .i64 b] (.tup [.bool (decide (9<=op/\op<=12)),.bool (yb_ op a b)]):=by
 refine uk_ (sh:=[none,none,none]) (ls:=[.int .i64 op,.int .i64 a,.int .i64 b]) (c:=Gh_) (n:=300) (t:=E7_) mo ov rfl rfl rfl (λY _=>vX_ _) rfl (by kernel_rfl) λY hf hg=>?_;unfold E7_
 (refine b_ rfl rfl ?_ ?_<;>intro h<;>simp only [nc]at h<;>try omega)
 subst h;exact VOK_lt (run_eql ..) rfl (uX_ (by rfl))
 (refine b_ rfl rfl ?_ ?_<;>intro h<;>simp only [nc]at h<;>try omega)
 subst h;exact VOK_lt (run_neq ..) rfl (uX_ (by rw [show yb_ 10 a b=decide (¬a=b) from rfl];simp;rfl))
 (refine b_ rfl rfl ?_ ?_<;>intro h<;>simp only [nc]at h<;>try omega)
 subst h;exact VOK_lt (run_lss ..) rfl (uX_ (by rfl))
 (refine b_ rfl rfl ?_ ?_<;>intro h<;>simp only [nc]at h<;>try omega)
 subst h;exact VOK_lt (run_leq ..) rfl (uX_ (by rfl));refine uX_ ?_;have e1:decide (9<=op/\op<=12)=false:=decide_eq_false (by omega);have e2:yb_ op a b=false:=by unfold yb_;simp only [*,if_false]
 rw [e1,e2];rfl
theorem C7_ (op a b:Int) (ho:13<=op/\op<=15):jD_ Tryz.prog 203 [.int .i64 op,.int .i64 a,.int .i64 b] (.int .i64 (wW_ op 1 a b)):=by
 refine uk_ (sh:=[none,none,none]) (ls:=[.int .i64 op,.int .i64 a,.int .i64 b]) (c:=Gj_) (n:=300) (t:=E9_) mo ov rfl rfl rfl (λY _=>vX_ _) rfl (by kernel_rfl) λY hf hg=>?_;unfold E9_
 (refine b_ rfl rfl ?_ ?_<;>intro h<;>simp only [nc]at h<;>try omega)
 .subst h;have e:wW_ 13 1 a b=tI (decide (¬a=0)&&decide (¬b=0)):=rfl;rw [e]
  (refine b_ rfl rfl ?_ ?_<;>intro h<;>simp only [nc]at h<;>try omega)
  .refine VOK_lt (run_neq ..) rfl (uW_ (xc_ _) rfl rfl (uX_ ?_));rw [decide_eq_true h,Bool.true_and];by_cases hb:b=0<;>simp [hb]<;>rfl
  rw [decide_eq_false (by omega),Bool.false_and];exact uW_ (xc_ false) rfl rfl (uX_ rfl)
 (refine b_ rfl rfl ?_ ?_<;>intro h<;>simp only [nc]at h<;>try omega)
 .subst h;have e:wW_ 14 1 a b=tI (decide (¬a=0)||decide (¬b=0)):=rfl;rw [e]
  (refine b_ rfl rfl ?_ ?_<;>intro h<;>simp only [nc]at h<;>try omega)
  rw [decide_eq_true h,Bool.true_or];exact uW_ (xc_ true) rfl rfl (uX_ rfl)
  .refine VOK_lt (run_neq ..) rfl (uW_ (xc_ _) rfl rfl (uX_ ?_));rw [decide_eq_false (p:=¬a=0) (by omega),Bool.false_or];by_cases hb:b=0<;>simp [hb]<;>rfl
 (refine b_ rfl rfl ?_ ?_<;>intro h<;>simp only [nc]at h<;>try omega)
 subst h;exact VOK_lt (run_eql ..) rfl (uW_ (xc_ _) rfl rfl (uX_ rfl))
theorem Gw_ (i:Int):(XOp.conv 2 219).run Tryz.prog [.int .i64 i]=some (.int .i16 (IntKind.i16.wrap i)):=tR_ Tryz.underlying2 Tryz.underlying219 i
theorem DI_ (i:Int):(XOp.conv 219 2).run Tryz.prog [.int .i16 (IntKind.i16.wrap i)]=some (.int .i64 (IntKind.i16.wrap i)):=by have:=xI_ i;rw [tR_ Tryz.underlying219 Tryz.underlying2,v6_ (by omega) (by omega)]
theorem Gy_ (i:Int):(XOp.conv 2 21).run Tryz.prog [.int .i64 i]=some (.int .i32 (IntKind.i32.wrap i)):=tR_ Tryz.underlying2 Tryz.underlying21 i
theorem DJ_ (i:Int):(XOp.conv 21 2).run Tryz.prog [.int .i32 (IntKind.i32.wrap i)]=some (.int .i64 (IntKind.i32.wrap i)):=by have:=xJ_ i;rw [tR_ Tryz.underlying21 Tryz.underlying2,v6_ (by omega) (by omega)]
theorem xs_ (k i:Int):jD_ Tryz.prog 165 [.int .i64 k,.int .i64 i] (.int .i64 (T_ k i)):=by
 refine uk_ (sh:=[none,none]) (ls:=[.int .i64 k,.int .i64 i]) (c:=F8_) (n:=300) (t:=EY_) mo ov rfl rfl rfl (λY _=>vX_ _) rfl (by kernel_rfl) λY hf hg=>?_;unfold EY_
 (refine b_ rfl rfl ?_ ?_<;>intro h<;>simp only [nc]at h<;>try omega)
 .subst h;refine VOK_lt (run_neq ..) rfl (uW_ (xc_ _) rfl rfl (uX_ ?_));by_cases hi:i=0<;>simp [hi,T_,tI]<;>rfl
 (refine b_ rfl rfl ?_ ?_<;>intro h<;>simp only [nc]at h<;>try omega)
 subst h;exact VOK_lt (Gw_ i) rfl (VOK_lt (DI_ i) rfl (uX_ rfl))
 (refine b_ rfl rfl ?_ ?_<;>intro h<;>simp only [nc]at h<;>try omega)
 subst h;exact VOK_lt (Gy_ i) rfl (VOK_lt (DJ_ i) rfl (uX_ rfl))
 (refine b_ rfl rfl ?_ ?_<;>intro h<;>simp only [nc]at h<;>try omega)
 subst h;exact uX_ rfl;refine uX_ ?_;have:T_ k i=0:=(by unfold T_;simp only [*,if_false]);rw [this];rfl
def RF (e:Int):Nat->List AV->Prop:=λj ws=>j=0/\ws=[.int .i64 e]
theorem Hh_ (e:Int):CF Tryz.prog 202 ft202 [.int .i64 e] (RF e):=by refine vC_ (c:=Gi_) (n:=300) (t:=E8_) mo ov rfl (λY _=>vX_ _) (by kernel_rfl) λY hf hg=>?_;unfold E8_;exact VOK_fin rfl ⟨rfl,rfl⟩
def ofV (op a b:Int):Int:=if op=4 then w64 (a+b)else if op=5 then w64 (a-b)else if op=6 then w64 (a*b)else if op=16 then w64 (0-a)else if op=7 then w64 (a.tdiv b)else a.tmod b
theorem xU_ {op k a b:Int} (h:(4<=op/\op<=8)\/op=16):wW_ op k a b=T_ k (ofV op a b):=by rcases (by omega:op=4\/op=5\/op=6\/op=7\/op=8\/op=16)with rfl|rfl|rfl|rfl|rfl|rfl<;>rfl
def RO (op a b:Int):Nat->List AV->Prop:=λj ws=>(j=0/\p0_ op b=0/\ws=[.int .i64 (ofV op a b)])\/(j=1/\p0_ op b=5/\ws=[.int .i64 5])
theorem Eu_ (op a b:Int) (ho:op=7\/op=8):CF Tryz.prog 216 zd_ [.int .i64 op,.int .i64 a,.int .i64 b] (RO op a b):=by
 refine vC_ (c:=Gn_) (n:=300) (t:=Fd_) mo ov rfl (λY _=>vX_ _) (by kernel_rfl) λY hf hg=>?_;unfold Fd_
 (refine b_ rfl rfl ?_ ?_<;>intro h<;>simp only [nc]at h<;>try omega)
 subst h;refine uK_ (Hh_ 5) rfl ⟨?_,trivial⟩;rintro ws ⟨_,rfl⟩;refine VOK_fin rfl (.inr ⟨rfl,?_,rfl⟩);unfold p0_;rw [if_pos ⟨ho,rfl⟩];have hb:p0_ op b=0:=by unfold p0_;rw [if_neg (by omega)]
 (refine b_ rfl rfl ?_ ?_<;>intro h<;>simp only [nc]at h<;>try omega)
 subst h;exact VOK_lt (vp_ (by omega) ..) rfl (VOK_fin rfl (.inl ⟨rfl,hb,rfl⟩));obtain rfl:op=7:=(by omega);exact VOK_lt (vN_ (by omega) ..) rfl (VOK_fin rfl (.inl ⟨rfl,hb,rfl⟩))
theorem C8_ (op a b:Int) (ho:(4<=op/\op<=8)\/op=16):CF Tryz.prog 204 ft204 [.int .i64 op,.int .i64 a,.int .i64 b] (RO op a b):=by
 refine vC_ (c:=Gk_) (n:=300) (t:=Fa_) mo ov rfl (λY _=>vX_ _) (by kernel_rfl) λY hf hg=>?_;unfold Fa_
 (refine b_ rfl rfl ?_ ?_<;>intro h<;>simp only [nc]at h<;>try omega)
 subst h;exact VOK_lt (run_add ..) rfl (VOK_fin rfl (.inl ⟨rfl,rfl,rfl⟩))
 (refine b_ rfl rfl ?_ ?_<;>intro h<;>simp only [nc]at h<;>try omega)
 subst h;exact VOK_lt (run_sub ..) rfl (VOK_fin rfl (.inl ⟨rfl,rfl,rfl⟩))
 (refine b_ rfl rfl ?_ ?_<;>intro h<;>simp only [nc]at h<;>try omega)
 subst h;exact VOK_lt (run_mul ..) rfl (VOK_fin rfl (.inl ⟨rfl,rfl,rfl⟩))
 (refine b_ rfl rfl ?_ ?_<;>intro h<;>simp only [nc]at h<;>try omega)
 subst h;exact VOK_lt (vK_ ..) rfl (VOK_fin rfl (.inl ⟨rfl,rfl,rfl⟩))
 (refine b_ rfl rfl ?_ ?_<;>intro h<;>simp only [nc]at h<;>try omega)
 subst h;refine uK_ (Eu_ 7 a b (.inl rfl)) rfl ⟨?_,?_,trivial⟩;rintro ws (⟨_,h1,rfl⟩|⟨h0,_⟩);exact VOK_fin rfl (.inl ⟨rfl,h1,rfl⟩);cases h0;rintro ws (⟨h0,_⟩|⟨_,h1,rfl⟩);cases h0;exact VOK_fin rfl (.inr ⟨rfl,h1,rfl⟩)
 (refine b_ rfl rfl ?_ ?_<;>intro h<;>simp only [nc]at h<;>try omega)
 subst h;refine uK_ (Eu_ 8 a b (.inr rfl)) rfl ⟨?_,?_,trivial⟩;rintro ws (⟨_,h1,rfl⟩|⟨h0,_⟩);exact VOK_fin rfl (.inl ⟨rfl,h1,rfl⟩);cases h0;rintro ws (⟨h0,_⟩|⟨_,h1,rfl⟩);cases h0;exact VOK_fin rfl (.inr ⟨rfl,h1,rfl⟩)
def B_ (op k a b:Int):Int:=if p0_ op b=0 then wW_ op k a b else 0
theorem W_ {op k a b:Int} (h:9<=op/\op<=12):wW_ op k a b=tI (yb_ op a b):=by rcases (by omega:op=9\/op=10\/op=11\/op=12)with rfl|rfl|rfl|rfl<;>rfl
theorem qv_ {op b:Int} (h:op≠7/\op≠8):p0_ op b=0:=by unfold p0_;rw [if_neg (by omega)]
theorem C6_ (op k a b:Int) (ho:OpK op k) (hk:k≠5):jD_ Tryz.prog 168 [.int .i64 op,.int .i64 k,.int .i64 a,.int .i64 b] (.tup [.int .i64 (B_ op k a b),.int .i64 (p0_ op b)]):=by
 obtain ⟨h1,h2,h3,h4,h5,h6,h7⟩:=ho;rcases (by omega:k=1\/k=2\/k=3\/k=4)with hk|hk|hk|hk
 ·(refine vj_ (args':=[.sym 64,.int .i64 k,.sym 65,.sym 66]) (ls:=[.int .i64 op,.int .i64 a,.int .i64 b]) (c:=CB_) (n:=300) (t:=AZ_) mo ov rfl rfl rfl rfl (λY _=>rfl) (λY _=>vX_ _) rfl (by subst hk;kernel_rfl) λY hf hg=>?_)
  unfold AZ_;refine uW_ (BK_ op a b) rfl rfl ?_
  (refine b_ rfl rfl ?_ ?_<;>intro h<;>simp only [nc]at h<;>try omega)
  subst h;refine uW_ (C7_ 13 a b (by omega)) rfl rfl (uX_ ?_);rw [B_,if_pos (qv_ (by omega)),qv_ (by omega),hk];rfl
  (refine b_ rfl rfl ?_ ?_<;>intro h<;>simp only [nc]at h<;>try omega)
  subst h;refine uW_ (C7_ 14 a b (by omega)) rfl rfl (uX_ ?_);rw [B_,if_pos (qv_ (by omega)),qv_ (by omega),hk];rfl
  (refine b_ rfl rfl ?_ ?_<;>intro h<;>simp only [nc]at h<;>try omega)
  subst h;refine uW_ (C7_ 15 a b (by omega)) rfl rfl (uX_ ?_);rw [B_,if_pos (qv_ (by omega)),qv_ (by omega),hk];rfl
  (refine b_ rfl rfl ?_ ?_<;>intro h<;>simp only [nc]at h<;>try omega)
  ·(refine b_ rfl rfl ?_ ?_<;>intro h<;>simp only [nc]at h<;>try omega)
   refine xq_ rfl (λh=>?_) (λh=>?_)
   ·(
     refine uW_ (xc_ _) rfl rfl (uX_ ?_);rw [B_,if_pos (qv_ (by omega)),qv_ (by omega),W_ (by omega)];rfl)
   exfalso;omega
  .refine xq_ rfl (λh=>?_) (λh=>?_)
   ·(
     refine uW_ (xc_ _) rfl rfl (uX_ ?_);rw [B_,if_pos (qv_ (by omega)),qv_ (by omega),W_ (by omega)];rfl)
   exfalso;omega
 all_goals have hk1:k≠1:=by omega
 ·(refine vj_ (args':=[.sym 64,.int .i64 k,.sym 65,.sym 66]) (ls:=[.int .i64 op,.int .i64 a,.int .i64 b]) (c:=CC_) (n:=300) (t:=A0_) mo ov rfl rfl rfl rfl (λY _=>rfl) (λY _=>vX_ _) rfl (by subst hk;kernel_rfl) λY hf hg=>?_)
  unfold A0_;refine uW_ (BK_ op a b) rfl rfl (xq_ rfl (λh=>?_) (λh=>?_))
  ·(
    refine uW_ (xc_ _) rfl rfl (uX_ ?_);rw [B_,if_pos (qv_ (by omega)),qv_ (by omega),W_ (by omega)];rfl)
  ·(
    refine uK_ (C8_ op a b (by omega)) rfl ⟨?_,?_,trivial⟩;rintro ws (⟨_,h1,rfl⟩|⟨h0,_⟩);refine uW_ (xs_ _ _) rfl rfl (uX_ ?_);rw [B_,if_pos h1,h1,xU_ (by omega),hk];rfl;cases h0
    .rintro ws (⟨h0,_⟩|⟨_,h1,rfl⟩);cases h0
     .refine uX_ ?_;rw [B_,if_neg (by omega),h1];rfl)
 ·(refine vj_ (args':=[.sym 64,.int .i64 k,.sym 65,.sym 66]) (ls:=[.int .i64 op,.int .i64 a,.int .i64 b]) (c:=CD_) (n:=300) (t:=A1_) mo ov rfl rfl rfl rfl (λY _=>rfl) (λY _=>vX_ _) rfl (by subst hk;kernel_rfl) λY hf hg=>?_)
  unfold A1_;refine uW_ (BK_ op a b) rfl rfl (xq_ rfl (λh=>?_) (λh=>?_))
  ·(
    refine uW_ (xc_ _) rfl rfl (uX_ ?_);rw [B_,if_pos (qv_ (by omega)),qv_ (by omega),W_ (by omega)];rfl)
  ·(
    refine uK_ (C8_ op a b (by omega)) rfl ⟨?_,?_,trivial⟩;rintro ws (⟨_,h1,rfl⟩|⟨h0,_⟩);refine uW_ (xs_ _ _) rfl rfl (uX_ ?_);rw [B_,if_pos h1,h1,xU_ (by omega),hk];rfl;cases h0
    .rintro ws (⟨h0,_⟩|⟨_,h1,rfl⟩);cases h0
     .refine uX_ ?_;rw [B_,if_neg (by omega),h1];rfl)
 ·(refine vj_ (args':=[.sym 64,.int .i64 k,.sym 65,.sym 66]) (ls:=[.int .i64 op,.int .i64 a,.int .i64 b]) (c:=CE_) (n:=300) (t:=A2_) mo ov rfl rfl rfl rfl (λY _=>rfl) (λY _=>vX_ _) rfl (by subst hk;kernel_rfl) λY hf hg=>?_)
  unfold A2_;refine uW_ (BK_ op a b) rfl rfl (xq_ rfl (λh=>?_) (λh=>?_))
  ·(
    refine uW_ (xc_ _) rfl rfl (uX_ ?_);rw [B_,if_pos (qv_ (by omega)),qv_ (by omega),W_ (by omega)];rfl)
  ·(
    refine uK_ (C8_ op a b (by omega)) rfl ⟨?_,?_,trivial⟩;rintro ws (⟨_,h1,rfl⟩|⟨h0,_⟩);refine uW_ (xs_ _ _) rfl rfl (uX_ ?_);rw [B_,if_pos h1,h1,xU_ (by omega),hk];rfl;cases h0
    .rintro ws (⟨h0,_⟩|⟨_,h1,rfl⟩);cases h0
     .refine uX_ ?_;rw [B_,if_neg (by omega),h1];rfl)
end Go.Proofs.YtelnbodnjmldeaaGreat.vars
