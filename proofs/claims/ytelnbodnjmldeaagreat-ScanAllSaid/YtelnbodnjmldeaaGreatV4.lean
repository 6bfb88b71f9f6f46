/-
  The check of expressions: names, numbers, elements.
-/
import Derived.Test.YtelnbodnjmldeaaGreatFA
import Derived.Test.YtelnbodnjmldeaaGreatSyK
set_option linter.all false
set_option maxHeartbeats 1000000
set_option maxRecDepth 100000
open List renaming not_mem_nil→za',getElem_mem→zc',mem_cons_self→ze',mem_cons_of_mem→zf'
open Nat renaming zero_le→zb',mul_le_mul_right→zd'
open Int renaming tmod_nonneg→zg'
namespace Go.Proofs.YtelnbodnjmldeaaGreat.vars
open Go Go.Sx
def VARS:AV:=.vsl 12 10 [.str [97],.int .i64 1,.int .i64 2,.int .i64 0,.int .i64 2,.int .i64 0,.flt .f64 0,.int .i64 0,.int .i64 0,.flt .f64 0,.str [98],.int .i64 1,.int .i64 1,.int .i64 0,.int .i64 1,.int .i64 0,.flt .f64 0,.int .i64 0,.int .i64 0,.flt .f64 0,.str [111],.int .i64 2,.int .i64 2,.int .i64 0,.int .i64 2,.int .i64 0,.flt .f64 0,.int .i64 2,.int .i64 7,.flt .f64 0,.str [113],.int .i64 2,.int .i64 1,.int .i64 0,.int .i64 1,.int .i64 0,.flt .f64 0,.int .i64 1,.int .i64 1,.flt .f64 0,.str [120],.int .i64 3,.int .i64 2,.int .i64 0,.int .i64 2,.int .i64 5,.flt .f64 0,.int .i64 0,.int .i64 0,.flt .f64 0,.str [121],.int .i64 3,.int .i64 3,.int .i64 0,.int .i64 3,.int .i64 0,.flt .f64 0,.int .i64 0,.int .i64 0,.flt .f64 0,.str [122],.int .i64 3,.int .i64 5,.int .i64 0,.int .i64 5,.int .i64 0,.flt .f64 0,.int .i64 0,.int .i64 0,.flt .f64 0,.str [119],.int .i64 3,.int .i64 4,.int .i64 0,.int .i64 4,.int .i64 0,.flt .f64 0,.int .i64 0,.int .i64 0,.flt .f64 0,.str [107],.int .i64 3,.int .i64 2,.int .i64 4,.int .i64 2,.int .i64 0,.flt .f64 0,.int .i64 0,.int .i64 0,.flt .f64 0,.str [116,109],.int .i64 3,.int .i64 6,.int .i64 0,.int .i64 0,.int .i64 0,.flt .f64 0,.int .i64 0,.int .i64 0,.flt .f64 0,.str [99],.int .i64 3,.int .i64 9,.int .i64 0,.int .i64 0,.int .i64 0,.flt .f64 0,.int .i64 0,.int .i64 0,.flt .f64 0,.str [101],.int .i64 3,.int .i64 11,.int .i64 0,.int .i64 0,.int .i64 0,.flt .f64 0,.int .i64 0,.int .i64 0,.flt .f64 0]
def fy:AJ 182 [VARS,.str [97]] (.tup [.agg [.str [97],.int .i64 1,.int .i64 2,.int .i64 0,.int .i64 2,.int .i64 0,.flt .f64 0,.int .i64 0,.int .i64 0,.flt .f64 0],.int .i64 0,.bool true]):=B7 mo ov (n:=3000) (by kernel_rfl)
def eS:AJ 182 [VARS,.str [98]] (.tup [.agg [.str [98],.int .i64 1,.int .i64 1,.int .i64 0,.int .i64 1,.int .i64 0,.flt .f64 0,.int .i64 0,.int .i64 0,.flt .f64 0],.int .i64 1,.bool true]):=B7 mo ov (n:=3000) (by kernel_rfl)
def mK:AJ 182 [VARS,.str [111]] (.tup [.agg [.str [111],.int .i64 2,.int .i64 2,.int .i64 0,.int .i64 2,.int .i64 0,.flt .f64 0,.int .i64 2,.int .i64 7,.flt .f64 0],.int .i64 2,.bool true]):=B7 mo ov (n:=3000) (by kernel_rfl)
def md:AJ 182 [VARS,.str [113]] (.tup [.agg [.str [113],.int .i64 2,.int .i64 1,.int .i64 0,.int .i64 1,.int .i64 0,.flt .f64 0,.int .i64 1,.int .i64 1,.flt .f64 0],.int .i64 3,.bool true]):=B7 mo ov (n:=3000) (by kernel_rfl)
def pq:AJ 182 [VARS,.str [120]] (.tup [.agg [.str [120],.int .i64 3,.int .i64 2,.int .i64 0,.int .i64 2,.int .i64 5,.flt .f64 0,.int .i64 0,.int .i64 0,.flt .f64 0],.int .i64 4,.bool true]):=B7 mo ov (n:=3000) (by kernel_rfl)
def eX:AJ 182 [VARS,.str [121]] (.tup [.agg [.str [121],.int .i64 3,.int .i64 3,.int .i64 0,.int .i64 3,.int .i64 0,.flt .f64 0,.int .i64 0,.int .i64 0,.flt .f64 0],.int .i64 5,.bool true]):=B7 mo ov (n:=3000) (by kernel_rfl)
def ef:AJ 182 [VARS,.str [122]] (.tup [.agg [.str [122],.int .i64 3,.int .i64 5,.int .i64 0,.int .i64 5,.int .i64 0,.flt .f64 0,.int .i64 0,.int .i64 0,.flt .f64 0],.int .i64 6,.bool true]):=B7 mo ov (n:=3000) (by kernel_rfl)
def cM:AJ 182 [VARS,.str [119]] (.tup [.agg [.str [119],.int .i64 3,.int .i64 4,.int .i64 0,.int .i64 4,.int .i64 0,.flt .f64 0,.int .i64 0,.int .i64 0,.flt .f64 0],.int .i64 7,.bool true]):=B7 mo ov (n:=3000) (by kernel_rfl)
def bk:AJ 182 [VARS,.str [107]] (.tup [.agg [.str [107],.int .i64 3,.int .i64 2,.int .i64 4,.int .i64 2,.int .i64 0,.flt .f64 0,.int .i64 0,.int .i64 0,.flt .f64 0],.int .i64 8,.bool true]):=B7 mo ov (n:=3000) (by kernel_rfl)
def S0:AJ 182 [VARS,.str [116,109]] (.tup [.agg [.str [116,109],.int .i64 3,.int .i64 6,.int .i64 0,.int .i64 0,.int .i64 0,.flt .f64 0,.int .i64 0,.int .i64 0,.flt .f64 0],.int .i64 12,.bool true]):=B7 mo ov (n:=3000) (by kernel_rfl)
def aT:AJ 182 [VARS,.str [99]] (.tup [.agg [.str [99],.int .i64 3,.int .i64 9,.int .i64 0,.int .i64 0,.int .i64 0,.flt .f64 0,.int .i64 0,.int .i64 0,.flt .f64 0],.int .i64 16,.bool true]):=B7 mo ov (n:=3000) (by kernel_rfl)
def vM:AJ 182 [VARS,.str [101]] (.tup [.agg [.str [101],.int .i64 3,.int .i64 11,.int .i64 0,.int .i64 0,.int .i64 0,.flt .f64 0,.int .i64 0,.int .i64 0,.flt .f64 0],.int .i64 19,.bool true]):=B7 mo ov (n:=3000) (by kernel_rfl)
def qi:AJ 208 [VARS,.str [116,109,46,113]] (.tup [.agg [.str [116,109,46,113],.int .i64 12,.int .i64 1,.int .i64 3],.bool true]):=B7 mo ov (n:=3000) (by kernel_rfl)
def xq:AJ 208 [VARS,.str [99,46,99,118]] (.tup [.agg [.str [99,46,99,118],.int .i64 17,.int .i64 2,.int .i64 3],.bool true]):=B7 mo ov (n:=3000) (by kernel_rfl)
def tg:AJ 208 [VARS,.str [116,109,46,101,116]] (.tup [.agg [.str [116,109,46,101,116],.int .i64 13,.int .i64 4,.int .i64 3],.bool true]):=B7 mo ov (n:=3000) (by kernel_rfl)
def qt:AJ 33 [VARS] (.int .i64 0):=B7 mo ov (n:=3000) (by kernel_rfl)
def rJ:AJ 45 [] VARS:=B7 mo ov (n:=3000) (by kernel_rfl)
def zD (v:Nat) (h:v<50):AJ 130 [.int .i64 2,.int .i64 (v:Int)] (.int .i64 (v:Int)):=by
 have:∀v∈List.range 50,AJ 130 [.int .i64 2,.int .i64 (v:Int)] (.int .i64 (v:Int)):=by
  simp only [List.range,List.range.loop,List.forall_mem_cons];repeat' apply And.intro
  all_goals first|exact (λx hx=>(za' hx).elim)|exact B7 mo ov (n:=3000) (by kernel_rfl)
 exact this v (List.mem_range.2 h)
def rZ:AJ 74 [.int .i64 1] (.int .i64 1):=B7 mo ov (n:=3000) (by kernel_rfl)
def vN:AJ 74 [.int .i64 2] (.int .i64 1):=B7 mo ov (n:=3000) (by kernel_rfl)
def Fa_:AJ 74 [.int .i64 3] (.int .i64 1):=B7 mo ov (n:=3000) (by kernel_rfl)
def tJ:AJ 74 [.int .i64 4] (.int .i64 1):=B7 mo ov (n:=3000) (by kernel_rfl)
def ye:AJ 74 [.int .i64 5] (.int .i64 1):=B7 mo ov (n:=3000) (by kernel_rfl)
def mu:AJ 74 [.int .i64 6] (.int .i64 4):=B7 mo ov (n:=3000) (by kernel_rfl)
def jF:AJ 74 [.int .i64 9] (.int .i64 3):=B7 mo ov (n:=3000) (by kernel_rfl)
def yh:AJ 74 [.int .i64 11] (.int .i64 2):=B7 mo ov (n:=3000) (by kernel_rfl)
def HO_:VC:=⟨⟨[],[]⟩,[],[],0,true,[]⟩
def gH:VT:=.ite 64 (.done (J 0))<|.done (J 4)
def pC:VC:=⟨⟨[],[]⟩,[],[],0,true,[]⟩
def fj:VT:=Iq 64 2 65 Ω<|Iq 64 3 66 Ω<|Li Q0 [64,J 4] 67<|.done (67)
def gT:VC:=⟨⟨[],[]⟩,[(130,[none])],[],0,true,[]⟩
def TT:VT:=Iq 74 2 75 (Iq 64 1 76 (Iq 65 3 77 (.call 130 [J 2,71] 78 [none]<|.done (.agg [64,J 2,66,67,68,69,J 2,78,.flt .f64 0,73]))<|.done (.agg (Ae 64 10)))<|.done (.agg (Ae 64 10)))<|.done (.agg (Ae 64 10))
def sN:VC:=⟨⟨[],[]⟩,[(182,[(some 10),none,none]),(208,[(some 4),none]),(74,[none]),(186,[none])],[],0,true,[]⟩
def kE:VT:=.call 182 [64,67] 75 [(some 10),none,none]<|It Q6 [86] 87 (Dn (Ae 65 10++[J 3]))<|It (.bin .eql 9 false true) [68,.str []] 88 (.call 74 [77] 89 [none]<|Iq 89 1 90 (Li Q0 [78,J 0] 91<|.call 186 [91] 92 [none]<|Dn [65,77,67,68,85,70,71,72,73,74,92])<|.call 186 [.bool false] 91 [none]<|Dn [65,77,67,68,85,70,71,72,73,74,91])<|.call 74 [77] 89 [none]<|It Qa [89,J 2] 90 (Dn (Ae 65 10++[J 4]))<|Li (.bin .add 9 false true) [67,.str [46]] 91<|Li (.bin .add 9 false false) [91,68] 92<|.call 208 [64,92] 93 [(some 4),none]<|It Q6 [97] 98 (Dn (Ae 65 10++[J 3]))<|Dn [65,95,67,68,94,70,71,72,73,74,J 0]
def vW:VC:=⟨⟨[],[]⟩,[(182,[(some 10),none,none]),(186,[none])],[],0,true,[]⟩
def bR:VT:=.call 182 [64,67] 76 [(some 10),none,none]<|It Q6 [87] 88 (Dn (Ae 65 10++[J 3]))<|It Qb [79,J 0] 89 (Li Qg [75,J 0] 90<|Li Ze [90] 91<|Li Qn [91] 92<|Iq 92 2 93 (.call 186 [.bool true] 94 [none]<|Dn [65,78,67,68,86,79,71,72,73,75,94])<|Li Qg [75,J 0] 94<|Li Ze [94] 95<|Li Qn [95] 96<|Li Q0 [96,J 3] 97<|.call 186 [97] 98 [none]<|Dn [65,78,67,68,86,79,71,72,73,75,98])<|.call 186 [.bool false] 90 [none]<|Dn [65,78,67,68,86,79,71,72,73,75,90]
def UK (b:Bool):AJ 186 [.bool b] (.int .i64 (if b=true then 0 else 4)):=by refine Bx [none] [.bool b] HO_ gH rfl rfl rfl rfl rfl (by kernel_rfl) λY hf hg=>?_;unfold gH;refine Ax rfl (λh=>Ap ?_) (λh=>Ap ?_);rw [h];rfl;rw [h];rfl
section
variable {P:Program} {Q:AV->Prop} {L:List (Nat->List AV->Prop)} {Y:Sy} {t:TypeId} {cx cy:Bool} {ag:List AV} {n:Nat} {A B:VT} {k:IntKind} {a b:Int}
def Lh (h0:An Y.v ag=[.int k a,.int k b]) (h1:a=b->AC P Q L (Y.put n (.bool (decide (a=b)))) A) (h2:¬a=b->AC P Q L (Y.put n (.bool (decide (a=b)))) B):AC P Q L Y (.lt (.bin .eql t cx cy) ag n none (.ite n A B)):=
 Aa (by rw [h0];exact Am ..) rfl (Ax (t:=decide (a=b)) (by rw [aE,Ad rfl]) (λh=>h1 (AU h)) (λh=>h2 (Ce h)))
def Ci:BinOp->Int->Int->Prop
 | .eql,a,b=>a=b
 | .neq,a,b=>¬a=b
 | .lss,a,b=>a<b
 | .gtr,a,b=>b<a
 | .leq,a,b=>a<=b
 | .geq,a,b=>b<=a
 |_,_,_=>False
open Classical in
def g_ {op:BinOp} (h0:An Y.v ag=[.int k a,.int k b]) (ho:(match op with| .eql=>true| .neq=>true| .lss=>true| .gtr=>true| .leq=>true| .geq=>true|_=>false)=true)
  (h1:Ci op a b->AC P Q L (Y.put n (.bool (decide (Ci op a b)))) A) (h2:¬Ci op a b->AC P Q L (Y.put n (.bool (decide (Ci op a b)))) B):AC P Q L Y (.lt (.bin op t cx cy) ag n none (.ite n A B)):=by
 have hr:(XOp.bin op t cx cy).run P [.int k a,.int k b]=some (.bool (decide (Ci op a b))):=by
  cases op<;>simp only at ho<;>first|(cases ho;done)|skip
  .rw [Am];refine congrArg (λx=>some (AV.bool x)) ?_;by_cases h:a=b<;>simp [Ci,h]
  .rw [Al];refine congrArg (λx=>some (AV.bool x)) ?_;by_cases h:a=b<;>simp [Ci,h]
  .rw [AX];refine congrArg (λx=>some (AV.bool x)) ?_;by_cases h:a<b<;>simp [Ci,h]
  .rw [Bq];refine congrArg (λx=>some (AV.bool x)) ?_;by_cases h:a<=b<;>simp [Ci,h]
  .rw [Bc];refine congrArg (λx=>some (AV.bool x)) ?_;by_cases h:b<a<;>simp [Ci,h]
  .rw [A8];refine congrArg (λx=>some (AV.bool x)) ?_;by_cases h:b<=a<;>simp [Ci,h]
 exact Aa (by rw [h0];exact hr) rfl (Ax (t:=decide (Ci op a b)) (by rw [aE,Ad rfl]) (λh=>h1 (AU h)) (λh=>h2 (Ce h)))
end
theorem nc:(∀a b,Ci .eql a b=(a=b))/\(∀a b,Ci .neq a b=¬a=b)/\(∀a b,Ci .lss a b=(a<b))/\(∀a b,Ci .gtr a b=(b<a))/\(∀a b,Ci .leq a b=(a<=b))/\(∀a b,Ci .geq a b=(b<=a))/\(∀p:Prop,(¬¬p)=p)/\(∀a b:Int,(¬a<b)=(b<=a))/\(∀a b:Int,(¬a<=b)=(b<a))/\(¬True)=False:=
 ⟨λ_ _=>rfl,λ_ _=>rfl,λ_ _=>rfl,λ_ _=>rfl,λ_ _=>rfl,λ_ _=>rfl,λp=>propext ⟨Classical.not_not.1,λh k=>k h⟩,λ_ _=>propext Int.not_lt,λ_ _=>propext Int.not_le,propext ⟨λh=>h trivial,False.elim⟩⟩
class Nm (p:Prop) (q:outParam Prop):Prop where
 h:p->q
section
variable {a b:Int}
instance :Nm (Ci .eql a b) (a=b):=⟨id⟩
instance :Nm (Ci .neq a b) (¬a=b):=⟨id⟩
instance :Nm (Ci .lss a b) (a<b):=⟨id⟩
instance :Nm (Ci .gtr a b) (b<a):=⟨id⟩
instance :Nm (Ci .leq a b) (a<=b):=⟨id⟩
instance :Nm (Ci .geq a b) (b<=a):=⟨id⟩
instance :Nm (¬Ci .eql a b) (¬a=b):=⟨id⟩
instance :Nm (¬Ci .neq a b) (a=b):=⟨Classical.not_not.1⟩
instance :Nm (¬Ci .lss a b) (b<=a):=⟨Int.not_lt.1⟩
instance :Nm (¬Ci .gtr a b) (a<=b):=⟨Int.not_lt.1⟩
instance :Nm (¬Ci .leq a b) (b<a):=⟨Int.not_le.1⟩
instance :Nm (¬Ci .geq a b) (a<b):=⟨Int.not_le.1⟩
variable {P:Program} {Q:AV->Prop} {L:List (Nat->List AV->Prop)} {Y:Sy} {ag:List AV} {k:IntKind} {n:Nat} {t:TypeId} {cx cy:Bool} {A B:VT}
open Classical in
def b_ {op:BinOp} {p q:Prop} [e1:Nm (Ci op a b) p] [e2:Nm (¬Ci op a b) q] (h0:An Y.v ag=[.int k a,.int k b]) (ho:(match op with| .eql=>true| .neq=>true| .lss=>true| .gtr=>true| .leq=>true| .geq=>true|_=>false)=true)
  (h1:p->AC P Q L (Y.put n (.bool (decide (Ci op a b)))) A) (h2:q->AC P Q L (Y.put n (.bool (decide (Ci op a b)))) B):AC P Q L Y (.lt (.bin op t cx cy) ag n none (.ite n A B)):=
 g_ h0 ho (λh=>h1 (e1.h h)) (λh=>h2 (e2.h h))
end
def Jd:List (Int×Int):=[(1,1),(3,1),(12,1),(0,2),(4,2),(2,2),(17,2),(5,3),(13,4),(7,4),(6,5)]
def Vr:List (List UInt8×List UInt8×Int×Int):=[([98],[],1,1),([113],[],3,1),([116,109],[113],12,1),([97],[],0,2),([120],[],4,2),([111],[],2,2),([99],[99,118],17,2),([121],[],5,3),([116,109],[101,116],13,4),([119],[],7,4),([122],[],6,5)]
def eJ:List (List UInt8×Int):=[([98],1),([113],2),([116,109],3),([97],1),([120],3),([111],2),([99],3),([121],3),([119],3),([122],3),([107],3)]
def Nh:List (Int×Int):=[(3,1),(4,2),(2,2),(5,3),(7,4),(6,5)]
def Gq:∀t∈Vr,(t.2.2.1,t.2.2.2)∈Jd:=by decide
def MQ:∀t∈Vr,∀q∈eJ,t.2.1=[]->t.1=q.1->q.2≠1->(t.2.2.1,t.2.2.2)∈Nh:=by decide
def GX.ad:GX->Int| .mk _ _ _ _ ad .. =>ad
def NT (x y:GX):Prop:=match x,y with
 | .mk op _ nm fd ..,.mk _ kd _ _ ad .. =>op=2->(nm,fd,ad,kd)∈Vr
def KX (op kd ad n vk vi:Int) (vf:Nat) (ks:List Int):Prop:=
 (op=1->kd=vk/\1<=vk/\vk<=5/\0<=vi/\vi<50/\(vk=1->vi<=1)/\(vk=5->vi=0)/\(vk≠5->vf=0))/\
 (op=2->(ad,kd)∈Jd)/\
 (op=3->ad=8/\n=4/\kd=2/\∃k,ks=[k]/\(k=2\/k=3))/\
 (4<=op/\op<=14->∃k,ks=[k,k]/\1<=k/\k<=5/\(op<=8->kd=k/\k≠1)/\(9<=op->kd=1)/\(op=8->k≠5)/\(op=11\/op=12->k≠1)/\(13<=op->k=1))/\
 (op=15->kd=1/\ks=[1])/\
 (op=16->ks=[kd]/\2<=kd/\kd<=5)/\
 (op=17->2<=kd/\kd<=5/\∃k,ks=[k]/\2<=k/\k<=5)
def TX:Nat->GX->Prop
 |0,_=>False
 |d+1,.mk op kd nm fd ad n vk vi vf ag=>Dq op ag.length/\NB vf/\1<=kd/\kd<=5/\KX op kd ad n vk vi vf (ag.map GX.kd)/\∀a∈ag,TX d a
def Wn:∀{d e:Nat} {x:GX},d<=e->TX d x->TX e x
 |0,_,_,_,h=>h.elim
 |d+1,0,_,h,_=>by omega
 |d+1,e+1,.mk ..,h,⟨h1,h2,h3,h4,h5,h6⟩=>⟨h1,h2,h3,h4,h5,λa ha=>Wn (by omega) (h6 a ha)⟩
def iW:∀{d:Nat} {x:GX},TX d x->1<=x.kd/\x.kd<=5
 |0,_,h=>h.elim
 |d+1,.mk ..,h=>⟨h.2.2.1,h.2.2.2.1⟩
def Te {l:List AV} (h:Ak l=true):BS (.agg l)=true:=by simp only [BS];exact Kb h
def QT {d:Nat} (x:GX) (k:Int) (hx:TX d x):∃y,AJ 183 [.agg (x_ x),.int .i64 k] (.agg (x_ y))/\TX d y:=by
 obtain ⟨op,kd,nm,fd,ad,n,vk,vi,vf,ag⟩:=x;obtain ⟨d,rfl⟩:∃e,d=e+1:=by cases d with|zero=>exact hx.elim|succ d=>exact ⟨d,rfl⟩
 by_cases hc:k=2/\op=1/\kd=3
 .obtain ⟨rfl,rfl,rfl⟩:=hc;obtain ⟨h1,h2,h3,h4,h5,h6⟩:=hx;obtain ⟨q1,q2,q3,q4,q5,q6,q7,q8⟩:=h5.1 rfl;obtain ⟨v,rfl⟩:∃v:Nat,vi=(v:Int):=⟨vi.toNat,by omega⟩;refine ⟨.mk 1 2 nm fd ad n 2 v 0 ag,?_,h1,.inl rfl,by decide,by decide,⟨λ_=>⟨rfl,by decide,by decide,q4,q5,λh=>by omega,λh=>by omega,λ_=>rfl⟩,λh=>by omega,λh=>by omega,λh=>by omega,λh=>by omega,λh=>by omega,λh=>by omega⟩,h6⟩;refine Bx [some 10,none] (x_ (.mk 1 3 nm fd ad n vk v vf ag)++[.int .i64 2]) gT TT rfl (Lb _ _) (Te (Cw _)) rfl rfl (by kernel_rfl) λY hf hg=>?_;unfold TT
  (refine b_ rfl rfl ?_ ?_<;>intro h<;>try omega);(refine b_ rfl rfl ?_ ?_<;>intro h<;>try omega);(refine b_ rfl rfl ?_ ?_<;>intro h<;>try omega)
  refine Aq (zD v (by omega)) rfl rfl (Ap rfl)
 .refine ⟨_,?_,hx⟩;refine Bx [some 10,none] (x_ (.mk op kd nm fd ad n vk vi vf ag)++[.int .i64 k]) gT TT rfl (Lb _ _) (Te (Cw _)) rfl rfl (by kernel_rfl) λY hf hg=>?_;unfold TT
  (refine b_ rfl rfl ?_ ?_<;>intro h<;>try omega)
  ·(refine b_ rfl rfl ?_ ?_<;>intro h<;>try omega)
   ·(refine b_ rfl rfl ?_ ?_<;>intro h<;>try omega)
    exact Ap rfl
   exact Ap rfl
  exact Ap rfl
def GX.nm:GX->List UInt8| .mk _ _ nm .. =>nm
def GX.fd:GX->List UInt8| .mk _ _ _ fd .. =>fd
def RL (x:GX):Nat->List AV->Prop:=λ_ ws=>∃ad kd:Int,ws=(match x with| .mk op _ nm fd _ n vk vi vf ag=>x_ (.mk op kd nm fd ad n vk vi vf ag))++[.int .i64 0]/\(x.nm,x.fd,ad,kd)∈Vr
def r5 (op kd:Int) (nm fd:List UInt8) (ad n vk vi:Int) (vf:Nat) (ag:List GX) (h:(nm,fd)∈L7):Bl 184 ZE (VARS::x_ (.mk op kd nm fd ad n vk vi vf ag)) (RL (.mk op kd nm fd ad n vk vi vf ag)):=by
 refine B3 sN kE rfl rfl (by kernel_rfl) λY hf hg=>?_;unfold kE;simp only [L7,CE,Prod.mk.injEq,List.not_mem_nil,or_false]at h;rcases h with ⟨rfl,rfl⟩|⟨rfl,rfl⟩|⟨rfl,rfl⟩|⟨rfl,rfl⟩|⟨rfl,rfl⟩|⟨rfl,rfl⟩|⟨rfl,rfl⟩|⟨rfl,rfl⟩|⟨rfl,rfl⟩|⟨rfl,rfl⟩|⟨rfl,rfl⟩;all_goals
  first|refine Aq eS rfl rfl ?_|refine Aq md rfl rfl ?_|refine Aq S0 rfl rfl ?_|refine Aq fy rfl rfl ?_|refine Aq pq rfl rfl ?_|refine Aq mK rfl rfl ?_|refine Aq aT rfl rfl ?_|refine Aq eX rfl rfl ?_|refine Aq cM rfl rfl ?_|refine Aq ef rfl rfl ?_
  refine Aa rfl rfl (Ax rfl (λh=>by cases h) (λ_=>Aa rfl rfl ?_));first|refine Ax (t:=true) rfl (λ_=>?_) (λh=>by cases h)|refine Ax (t:=false) rfl (λh=>by cases h) (λ_=>?_)
  first|refine Aq rZ rfl rfl ?_|refine Aq vN rfl rfl ?_|refine Aq Fa_ rfl rfl ?_|refine Aq tJ rfl rfl ?_|refine Aq ye rfl rfl ?_|refine Aq mu rfl rfl ?_|refine Aq jF rfl rfl ?_
  refine Aa rfl rfl ?_;first
   |exact Ax (t:=true) rfl (λ_=>Aa rfl rfl (Aq (UK true) rfl rfl (Ai (Lb (.mk _ _ _ _ _ _ _ _ _ ag) _) ⟨_,_,rfl,by simp only [GX.nm,GX.fd];decide⟩))) (λh=>by cases h)
   |refine Ax (t:=false) rfl (λh=>by cases h) (λ_=>Aa rfl rfl (Aa rfl rfl ?_))
    first|refine Aq qi rfl rfl ?_|refine Aq xq rfl rfl ?_|refine Aq tg rfl rfl ?_
    exact Aa rfl rfl (Ax rfl (λh=>by cases h) (λ_=>Ai (Lb (.mk _ _ _ _ _ _ _ _ _ ag) _) ⟨_,_,rfl,by simp only [GX.nm,GX.fd];decide⟩))
def pQ:VC:=⟨⟨[],[]⟩,[(182,[(some 10),none,none]),(183,[(some 10)]),(186,[none]),(120,[none])],[(1,[⟨[(4,.ptr 1 0),(3,.ptr 0 0),(9,.slx 2 10 0),(10,.slx 1 0 0),(0,64)],[(1,[J 0,J 0,.str [],.str [],J 0,J 0,J 0,J 0,.flt .f64 0,.nsl]),(0,[65,66,67,68,69,70,71,72,73,74])],3,2,[⟨2,10,0,9,none⟩],[],[]⟩])],0,true,[(149,Bv),(184,ZE),(185,F1)]⟩
def dO:VT:=Iq 65 1 75 (Dn ([65,71]++Ae 67 8++[J 0]))<|Iq 65 2 76 (Cf 184 ZE (Ae 64 11) 77 11<|Dn (Ae 88 11))<|Iq 65 3 77 (.call 182 [64,67] 78 [(some 10),none,none]<|It Q6 [89] 90 (Dn (Ae 65 10++[J 3]))<|Iq 81 0 91 (Dn (Ae 65 10++[J 4]))<|.loop 92 0 [.nsl,J 0] (.cons 2 (Li Qh [74] 94<|It Q5 [93,94] 95 (Li Qg [74,93] 96<|.lt Qm [96] 97 (some 10)<|Cf 149 Bv ([64]++Ae 97 10) 107 11<|It Q7 [128,J 0] 129 (Dn (Ae 65 10++[128]))<|Li Qo [92,.agg (Ae 118 10)] 130<|Li Q3 [93,J 1] 131<|.again 0 0 [130,131])<|Iq 65 3 96 (Cf 185 F1 (Ae 64 11++[92]) 97 11<|Dn (Ae 109 11))<|Li Q2 [92,J 0] 97<|Li Ql [92,97] 98<|Iq 65 17 99 (Iq 98 1 100 (Dn (Ae 65 10++[J 4]))<|Iq 66 1 101 (Dn (Ae 65 10++[J 4]))<|Dn (Ae 65 9++[92,J 0]))<|Iq 65 15 100 (Li Q0 [98,J 1] 101<|.call 186 [101] 102 [none]<|Dn ([65,J 1]++Ae 67 7++[92,102]))<|Iq 65 16 101 (Li Q1 [98,J 1] 102<|.call 186 [102] 103 [none]<|Dn ([65,98]++Ae 67 7++[92,103]))<|It Q4 [65,J 4] 102 (It Q8 [65,J 12] 103 (Li Q2 [92,J 0] 104<|.lt Zq [92,104] 105 (some 10)<|Li Q2 [92,J 1] 115<|Li Ql [92,115] 116<|.call 183 [.agg (Ae 105 10),116] 117 [(some 10)]<|Li Q2 [92,J 1] 127<|.lt Zq [92,127] 128 (some 10)<|Li Q2 [92,J 0] 138<|Li Ql [92,138] 139<|.call 183 [.agg (Ae 128 10),139] 140 [(some 10)]<|Li Q2 [92,J 0] 150<|Li Zr [92,150,.agg (Ae 117 10)] 151<|Li Q2 [92,J 1] 152<|Li Zr [151,152,.agg (Ae 140 10)] 153<|Li Q2 [92,J 0] 154<|Li Ql [153,154] 155<|Li Q2 [92,J 1] 156<|Li Ql [153,156] 157<|Li Q9 [155,157] 158<|Iq 65 4 159 (.ite 158 (Li Q1 [155,J 1] 160<|.call 186 [160] 161 [none]<|.chk (.same 92 153)<|Dn ([65,155]++Ae 67 7++[153,161]))<|.call 186 [.bool false] 160 [none]<|.chk (.same 92 153)<|Dn ([65,155]++Ae 67 7++[153,160]))<|Iq 65 5 160 (.ite 158 (Li Q1 [155,J 1] 161<|.call 186 [161] 162 [none]<|.chk (.same 92 153)<|Dn ([65,155]++Ae 67 7++[153,162]))<|.call 186 [.bool false] 161 [none]<|.chk (.same 92 153)<|Dn ([65,155]++Ae 67 7++[153,161]))<|Iq 65 6 161 (.ite 158 (Li Q1 [155,J 1] 162<|.call 186 [162] 163 [none]<|.chk (.same 92 153)<|Dn ([65,155]++Ae 67 7++[153,163]))<|.call 186 [.bool false] 162 [none]<|.chk (.same 92 153)<|Dn ([65,155]++Ae 67 7++[153,162]))<|Iq 65 7 162 (.ite 158 (Li Q1 [155,J 1] 163<|.call 186 [163] 164 [none]<|.chk (.same 92 153)<|Dn ([65,155]++Ae 67 7++[153,164]))<|.call 186 [.bool false] 163 [none]<|.chk (.same 92 153)<|Dn ([65,155]++Ae 67 7++[153,163]))<|Iq 65 8 163 (.ite 158 (.call 120 [155] 164 [none]<|.call 186 [164] 165 [none]<|.chk (.same 92 153)<|Dn ([65,155]++Ae 67 7++[153,165]))<|.call 186 [.bool false] 164 [none]<|.chk (.same 92 153)<|Dn ([65,155]++Ae 67 7++[153,164]))<|Iq 65 9 164 (.call 186 [158] 165 [none]<|.chk (.same 92 153)<|Dn ([65,J 1]++Ae 67 7++[153,165]))<|Iq 65 10 165 (.call 186 [158] 166 [none]<|.chk (.same 92 153)<|Dn ([65,J 1]++Ae 67 7++[153,166]))<|Iq 65 11 166 (.ite 158 (Li Q1 [155,J 1] 167<|.call 186 [167] 168 [none]<|.chk (.same 92 153)<|Dn ([65,J 1]++Ae 67 7++[153,168]))<|.call 186 [.bool false] 167 [none]<|.chk (.same 92 153)<|Dn ([65,J 1]++Ae 67 7++[153,167]))<|Iq 65 12 167 (.ite 158 (Li Q1 [155,J 1] 168<|.call 186 [168] 169 [none]<|.chk (.same 92 153)<|Dn ([65,J 1]++Ae 67 7++[153,169]))<|.call 186 [.bool false] 168 [none]<|.chk (.same 92 153)<|Dn ([65,J 1]++Ae 67 7++[153,168]))<|.ite 158 (Li Q0 [155,J 1] 168<|.call 186 [168] 169 [none]<|.chk (.same 92 153)<|Dn ([65,J 1]++Ae 67 7++[153,169]))<|.call 186 [.bool false] 168 [none]<|.chk (.same 92 153)<|Dn ([65,J 1]++Ae 67 7++[153,168]))<|Li Q2 [92,J 1] 104<|Li Ql [92,104] 105<|Li Q9 [98,105] 106<|Iq 65 4 107 (.ite 106 (Li Q1 [98,J 1] 108<|.call 186 [108] 109 [none]<|Dn ([65,98]++Ae 67 7++[92,109]))<|.call 186 [.bool false] 108 [none]<|Dn ([65,98]++Ae 67 7++[92,108]))<|Iq 65 5 108 (.ite 106 (Li Q1 [98,J 1] 109<|.call 186 [109] 110 [none]<|Dn ([65,98]++Ae 67 7++[92,110]))<|.call 186 [.bool false] 109 [none]<|Dn ([65,98]++Ae 67 7++[92,109]))<|Iq 65 6 109 (.ite 106 (Li Q1 [98,J 1] 110<|.call 186 [110] 111 [none]<|Dn ([65,98]++Ae 67 7++[92,111]))<|.call 186 [.bool false] 110 [none]<|Dn ([65,98]++Ae 67 7++[92,110]))<|Iq 65 7 110 (.ite 106 (Li Q1 [98,J 1] 111<|.call 186 [111] 112 [none]<|Dn ([65,98]++Ae 67 7++[92,112]))<|.call 186 [.bool false] 111 [none]<|Dn ([65,98]++Ae 67 7++[92,111]))<|Iq 65 8 111 (.ite 106 (.call 120 [98] 112 [none]<|.call 186 [112] 113 [none]<|Dn ([65,98]++Ae 67 7++[92,113]))<|.call 186 [.bool false] 112 [none]<|Dn ([65,98]++Ae 67 7++[92,112]))<|Iq 65 9 112 (.call 186 [106] 113 [none]<|Dn ([65,J 1]++Ae 67 7++[92,113]))<|Iq 65 10 113 (.call 186 [106] 114 [none]<|Dn ([65,J 1]++Ae 67 7++[92,114]))<|Iq 65 11 114 (.ite 106 (Li Q1 [98,J 1] 115<|.call 186 [115] 116 [none]<|Dn ([65,J 1]++Ae 67 7++[92,116]))<|.call 186 [.bool false] 115 [none]<|Dn ([65,J 1]++Ae 67 7++[92,115]))<|Iq 65 12 115 (.ite 106 (Li Q1 [98,J 1] 116<|.call 186 [116] 117 [none]<|Dn ([65,J 1]++Ae 67 7++[92,117]))<|.call 186 [.bool false] 116 [none]<|Dn ([65,J 1]++Ae 67 7++[92,116]))<|.ite 106 (Li Q0 [98,J 1] 116<|.call 186 [116] 117 [none]<|Dn ([65,J 1]++Ae 67 7++[92,117]))<|.call 186 [.bool false] 116 [none]<|Dn ([65,J 1]++Ae 67 7++[92,116]))<|Li Q2 [92,J 1] 103<|Li Ql [92,103] 104<|Li Q9 [98,104] 105<|Iq 65 4 106 (.ite 105 (Li Q1 [98,J 1] 107<|.call 186 [107] 108 [none]<|Dn ([65,98]++Ae 67 7++[92,108]))<|.call 186 [.bool false] 107 [none]<|Dn ([65,98]++Ae 67 7++[92,107]))<|Iq 65 5 107 (.ite 105 (Li Q1 [98,J 1] 108<|.call 186 [108] 109 [none]<|Dn ([65,98]++Ae 67 7++[92,109]))<|.call 186 [.bool false] 108 [none]<|Dn ([65,98]++Ae 67 7++[92,108]))<|Iq 65 6 108 (.ite 105 (Li Q1 [98,J 1] 109<|.call 186 [109] 110 [none]<|Dn ([65,98]++Ae 67 7++[92,110]))<|.call 186 [.bool false] 109 [none]<|Dn ([65,98]++Ae 67 7++[92,109]))<|Iq 65 7 109 (.ite 105 (Li Q1 [98,J 1] 110<|.call 186 [110] 111 [none]<|Dn ([65,98]++Ae 67 7++[92,111]))<|.call 186 [.bool false] 110 [none]<|Dn ([65,98]++Ae 67 7++[92,110]))<|Iq 65 8 110 (.ite 105 (.call 120 [98] 111 [none]<|.call 186 [111] 112 [none]<|Dn ([65,98]++Ae 67 7++[92,112]))<|.call 186 [.bool false] 111 [none]<|Dn ([65,98]++Ae 67 7++[92,111]))<|Iq 65 9 111 (.call 186 [105] 112 [none]<|Dn ([65,J 1]++Ae 67 7++[92,112]))<|Iq 65 10 112 (.call 186 [105] 113 [none]<|Dn ([65,J 1]++Ae 67 7++[92,113]))<|Iq 65 11 113 (.ite 105 (Li Q1 [98,J 1] 114<|.call 186 [114] 115 [none]<|Dn ([65,J 1]++Ae 67 7++[92,115]))<|.call 186 [.bool false] 114 [none]<|Dn ([65,J 1]++Ae 67 7++[92,114]))<|Iq 65 12 114 (.ite 105 (Li Q1 [98,J 1] 115<|.call 186 [115] 116 [none]<|Dn ([65,J 1]++Ae 67 7++[92,116]))<|.call 186 [.bool false] 115 [none]<|Dn ([65,J 1]++Ae 67 7++[92,115]))<|.ite 105 (Li Q0 [98,J 1] 115<|.call 186 [115] 116 [none]<|Dn ([65,J 1]++Ae 67 7++[92,116]))<|.call 186 [.bool false] 115 [none]<|Dn ([65,J 1]++Ae 67 7++[92,115])) .nil))<|.loop 78 0 [.nsl,J 0] (.cons 2 (Li Qh [74] 80<|It Q5 [79,80] 81 (Li Qg [74,79] 82<|.lt Qm [82] 83 (some 10)<|Cf 149 Bv ([64]++Ae 83 10) 93 11<|It Q7 [114,J 0] 115 (Dn (Ae 65 10++[114]))<|Li Qo [78,.agg (Ae 104 10)] 116<|Li Q3 [79,J 1] 117<|.again 0 0 [116,117])<|Iq 65 3 82 (Cf 185 F1 (Ae 64 11++[78]) 83 11<|Dn (Ae 95 11))<|Li Q2 [78,J 0] 83<|Li Ql [78,83] 84<|Iq 65 17 85 (Iq 84 1 86 (Dn (Ae 65 10++[J 4]))<|Iq 66 1 87 (Dn (Ae 65 10++[J 4]))<|Dn (Ae 65 9++[78,J 0]))<|Iq 65 15 86 (Li Q0 [84,J 1] 87<|.call 186 [87] 88 [none]<|Dn ([65,J 1]++Ae 67 7++[78,88]))<|Iq 65 16 87 (Li Q1 [84,J 1] 88<|.call 186 [88] 89 [none]<|Dn ([65,84]++Ae 67 7++[78,89]))<|It Q4 [65,J 4] 88 (It Q8 [65,J 12] 89 (Li Q2 [78,J 0] 90<|.lt Zq [78,90] 91 (some 10)<|Li Q2 [78,J 1] 101<|Li Ql [78,101] 102<|.call 183 [.agg (Ae 91 10),102] 103 [(some 10)]<|Li Q2 [78,J 1] 113<|.lt Zq [78,113] 114 (some 10)<|Li Q2 [78,J 0] 124<|Li Ql [78,124] 125<|.call 183 [.agg (Ae 114 10),125] 126 [(some 10)]<|Li Q2 [78,J 0] 136<|Li Zr [78,136,.agg (Ae 103 10)] 137<|Li Q2 [78,J 1] 138<|Li Zr [137,138,.agg (Ae 126 10)] 139<|Li Q2 [78,J 0] 140<|Li Ql [139,140] 141<|Li Q2 [78,J 1] 142<|Li Ql [139,142] 143<|Li Q9 [141,143] 144<|Iq 65 4 145 (.ite 144 (Li Q1 [141,J 1] 146<|.call 186 [146] 147 [none]<|.chk (.same 78 139)<|Dn ([65,141]++Ae 67 7++[139,147]))<|.call 186 [.bool false] 146 [none]<|.chk (.same 78 139)<|Dn ([65,141]++Ae 67 7++[139,146]))<|Iq 65 5 146 (.ite 144 (Li Q1 [141,J 1] 147<|.call 186 [147] 148 [none]<|.chk (.same 78 139)<|Dn ([65,141]++Ae 67 7++[139,148]))<|.call 186 [.bool false] 147 [none]<|.chk (.same 78 139)<|Dn ([65,141]++Ae 67 7++[139,147]))<|Iq 65 6 147 (.ite 144 (Li Q1 [141,J 1] 148<|.call 186 [148] 149 [none]<|.chk (.same 78 139)<|Dn ([65,141]++Ae 67 7++[139,149]))<|.call 186 [.bool false] 148 [none]<|.chk (.same 78 139)<|Dn ([65,141]++Ae 67 7++[139,148]))<|Iq 65 7 148 (.ite 144 (Li Q1 [141,J 1] 149<|.call 186 [149] 150 [none]<|.chk (.same 78 139)<|Dn ([65,141]++Ae 67 7++[139,150]))<|.call 186 [.bool false] 149 [none]<|.chk (.same 78 139)<|Dn ([65,141]++Ae 67 7++[139,149]))<|Iq 65 8 149 (.ite 144 (.call 120 [141] 150 [none]<|.call 186 [150] 151 [none]<|.chk (.same 78 139)<|Dn ([65,141]++Ae 67 7++[139,151]))<|.call 186 [.bool false] 150 [none]<|.chk (.same 78 139)<|Dn ([65,141]++Ae 67 7++[139,150]))<|Iq 65 9 150 (.call 186 [144] 151 [none]<|.chk (.same 78 139)<|Dn ([65,J 1]++Ae 67 7++[139,151]))<|Iq 65 10 151 (.call 186 [144] 152 [none]<|.chk (.same 78 139)<|Dn ([65,J 1]++Ae 67 7++[139,152]))<|Iq 65 11 152 (.ite 144 (Li Q1 [141,J 1] 153<|.call 186 [153] 154 [none]<|.chk (.same 78 139)<|Dn ([65,J 1]++Ae 67 7++[139,154]))<|.call 186 [.bool false] 153 [none]<|.chk (.same 78 139)<|Dn ([65,J 1]++Ae 67 7++[139,153]))<|Iq 65 12 153 (.ite 144 (Li Q1 [141,J 1] 154<|.call 186 [154] 155 [none]<|.chk (.same 78 139)<|Dn ([65,J 1]++Ae 67 7++[139,155]))<|.call 186 [.bool false] 154 [none]<|.chk (.same 78 139)<|Dn ([65,J 1]++Ae 67 7++[139,154]))<|.ite 144 (Li Q0 [141,J 1] 154<|.call 186 [154] 155 [none]<|.chk (.same 78 139)<|Dn ([65,J 1]++Ae 67 7++[139,155]))<|.call 186 [.bool false] 154 [none]<|.chk (.same 78 139)<|Dn ([65,J 1]++Ae 67 7++[139,154]))<|Li Q2 [78,J 1] 90<|Li Ql [78,90] 91<|Li Q9 [84,91] 92<|Iq 65 4 93 (.ite 92 (Li Q1 [84,J 1] 94<|.call 186 [94] 95 [none]<|Dn ([65,84]++Ae 67 7++[78,95]))<|.call 186 [.bool false] 94 [none]<|Dn ([65,84]++Ae 67 7++[78,94]))<|Iq 65 5 94 (.ite 92 (Li Q1 [84,J 1] 95<|.call 186 [95] 96 [none]<|Dn ([65,84]++Ae 67 7++[78,96]))<|.call 186 [.bool false] 95 [none]<|Dn ([65,84]++Ae 67 7++[78,95]))<|Iq 65 6 95 (.ite 92 (Li Q1 [84,J 1] 96<|.call 186 [96] 97 [none]<|Dn ([65,84]++Ae 67 7++[78,97]))<|.call 186 [.bool false] 96 [none]<|Dn ([65,84]++Ae 67 7++[78,96]))<|Iq 65 7 96 (.ite 92 (Li Q1 [84,J 1] 97<|.call 186 [97] 98 [none]<|Dn ([65,84]++Ae 67 7++[78,98]))<|.call 186 [.bool false] 97 [none]<|Dn ([65,84]++Ae 67 7++[78,97]))<|Iq 65 8 97 (.ite 92 (.call 120 [84] 98 [none]<|.call 186 [98] 99 [none]<|Dn ([65,84]++Ae 67 7++[78,99]))<|.call 186 [.bool false] 98 [none]<|Dn ([65,84]++Ae 67 7++[78,98]))<|Iq 65 9 98 (.call 186 [92] 99 [none]<|Dn ([65,J 1]++Ae 67 7++[78,99]))<|Iq 65 10 99 (.call 186 [92] 100 [none]<|Dn ([65,J 1]++Ae 67 7++[78,100]))<|Iq 65 11 100 (.ite 92 (Li Q1 [84,J 1] 101<|.call 186 [101] 102 [none]<|Dn ([65,J 1]++Ae 67 7++[78,102]))<|.call 186 [.bool false] 101 [none]<|Dn ([65,J 1]++Ae 67 7++[78,101]))<|Iq 65 12 101 (.ite 92 (Li Q1 [84,J 1] 102<|.call 186 [102] 103 [none]<|Dn ([65,J 1]++Ae 67 7++[78,103]))<|.call 186 [.bool false] 102 [none]<|Dn ([65,J 1]++Ae 67 7++[78,102]))<|.ite 92 (Li Q0 [84,J 1] 102<|.call 186 [102] 103 [none]<|Dn ([65,J 1]++Ae 67 7++[78,103]))<|.call 186 [.bool false] 102 [none]<|Dn ([65,J 1]++Ae 67 7++[78,102]))<|Li Q2 [78,J 1] 89<|Li Ql [78,89] 90<|Li Q9 [84,90] 91<|Iq 65 4 92 (.ite 91 (Li Q1 [84,J 1] 93<|.call 186 [93] 94 [none]<|Dn ([65,84]++Ae 67 7++[78,94]))<|.call 186 [.bool false] 93 [none]<|Dn ([65,84]++Ae 67 7++[78,93]))<|Iq 65 5 93 (.ite 91 (Li Q1 [84,J 1] 94<|.call 186 [94] 95 [none]<|Dn ([65,84]++Ae 67 7++[78,95]))<|.call 186 [.bool false] 94 [none]<|Dn ([65,84]++Ae 67 7++[78,94]))<|Iq 65 6 94 (.ite 91 (Li Q1 [84,J 1] 95<|.call 186 [95] 96 [none]<|Dn ([65,84]++Ae 67 7++[78,96]))<|.call 186 [.bool false] 95 [none]<|Dn ([65,84]++Ae 67 7++[78,95]))<|Iq 65 7 95 (.ite 91 (Li Q1 [84,J 1] 96<|.call 186 [96] 97 [none]<|Dn ([65,84]++Ae 67 7++[78,97]))<|.call 186 [.bool false] 96 [none]<|Dn ([65,84]++Ae 67 7++[78,96]))<|Iq 65 8 96 (.ite 91 (.call 120 [84] 97 [none]<|.call 186 [97] 98 [none]<|Dn ([65,84]++Ae 67 7++[78,98]))<|.call 186 [.bool false] 97 [none]<|Dn ([65,84]++Ae 67 7++[78,97]))<|Iq 65 9 97 (.call 186 [91] 98 [none]<|Dn ([65,J 1]++Ae 67 7++[78,98]))<|Iq 65 10 98 (.call 186 [91] 99 [none]<|Dn ([65,J 1]++Ae 67 7++[78,99]))<|Iq 65 11 99 (.ite 91 (Li Q1 [84,J 1] 100<|.call 186 [100] 101 [none]<|Dn ([65,J 1]++Ae 67 7++[78,101]))<|.call 186 [.bool false] 100 [none]<|Dn ([65,J 1]++Ae 67 7++[78,100]))<|Iq 65 12 100 (.ite 91 (Li Q1 [84,J 1] 101<|.call 186 [101] 102 [none]<|Dn ([65,J 1]++Ae 67 7++[78,102]))<|.call 186 [.bool false] 101 [none]<|Dn ([65,J 1]++Ae 67 7++[78,101]))<|.ite 91 (Li Q0 [84,J 1] 101<|.call 186 [101] 102 [none]<|Dn ([65,J 1]++Ae 67 7++[78,102]))<|.call 186 [.bool false] 101 [none]<|Dn ([65,J 1]++Ae 67 7++[78,101])) .nil)
def On (k:Int):AJ 120 [.int .i64 k] (.bool (decide (k=2\/k=3\/k=4))):=by
 refine Bx [none] [.int .i64 k] pC fj rfl rfl rfl rfl rfl (by kernel_rfl) λY hf hg=>?_;unfold fj
 (refine b_ rfl rfl ?_ ?_<;>intro h<;>try omega)
 .refine Ap ?_;show AV.bool _=_
  congr 1;symm;simp only [AH];omega
 (refine b_ rfl rfl ?_ ?_<;>intro h<;>try omega)
 .refine Ap ?_;show AV.bool _=_
  congr 1;symm;simp only [AH];omega
 refine Aa (Am ..) rfl (Ap ?_);show AV.bool _=_
 congr 1
 refine decide_eq_decide.2 ?_;omega
def dh {b:Bool} (h:(if b=true then (0:Int)else 4)=0):b=true:=by
 cases b with
 |true=>rfl
 |false=>simp at h
section
variable {P:Program} {Q:AV->Prop} {L:List (Nat->List AV->Prop)} {Y:Sy} {i:Nat} {A B:VT}
def Iv {p:Prop} [Decidable p] (h0:Y.v i=some (.bool (decide p))) (h1:p->AC P Q L Y A) (h2:¬p->AC P Q L Y B):AC P Q L Y (.ite i A B):=
 Ax h0 (λh=>h1 (AU h)) (λh=>h2 (Ce h))
end
def RE (d:Nat) (x:GX):Nat->List AV->Prop:=λ_ ws=>∃(y:GX) (e:Int),ws=x_ y++[.int .i64 e]/\(e=0->TX d y/\y.op=x.op/\NT x y)
def Fn {d j:Nat} {x y:GX} {e:Int} {hv:List AV} {Y:Sy} {L:List (Nat->List AV->Prop)} (h:An Y.v hv=x_ y++[.int .i64 e]) (hw:e=0->TX d y/\y.op=x.op/\NT x y):AC Tryz.prog (QF (RE d x)) L Y (.done (.tup (.int .i64 (.ofNat j)::hv))):=
 Ai (by rw [h];exact Lb y e) ⟨y,e,h,hw⟩
def RM (x:GX) (k:Int):Nat->List AV->Prop:=λ_ ws=>∃e:Int,ws=(match x with| .mk op _ nm fd _ _ vk vi vf ag=>x_ (.mk op 2 nm fd 8 4 vk vi vf ag))++[.int .i64 e]/\(e=0->k=2\/k=3)
def wv (op kd:Int) (nm fd:List UInt8) (ad n vk vi:Int) (vf:Nat) (ag:List GX) (y:GX) (h:nm=[107]):Bl 185 F1 (VARS::(x_ (.mk op kd nm fd ad n vk vi vf ag)++[De [y]])) (RM (.mk op kd nm fd ad n vk vi vf [y]) y.kd):=by
 subst h;obtain ⟨yo,yk,ynm,yfd,yad,yn,yvk,yvi,yvf,ya⟩:=y;refine B3 vW bR rfl rfl (by kernel_rfl) λY hf hg=>?_;unfold bR;refine Aq bk rfl rfl (Aa rfl rfl (Ax rfl (λh=>by cases h) (λ_=>Aa rfl rfl (Ax rfl (λ_=>?_) (λh=>by cases h)))));refine Aa (r:=.vptr (x_ (.mk yo yk ynm yfd yad yn yvk yvi yvf ya)++GT [])) rfl (by show Ak _=true;exact A9.okL_join (Cw _) (Kq _)) ?_;refine Aa (r:=.vptr [.int .i64 yk,.str ynm,.str yfd,.int .i64 yad,.int .i64 yn,.int .i64 yvk,.int .i64 yvi,.flt .f64 yvf,De ya]) rfl (by simp only [okC,Ak,Eg]) (Aa (r:=.int .i64 yk) rfl rfl ?_)
 (refine b_ rfl rfl ?_ ?_<;>intro h<;>try omega)
 refine Aq (UK true) rfl rfl (Ai (by show Ak (x_ (.mk op 2 [107] fd 8 4 vk vi vf [_])++[_])=true;exact Lb _ _) ⟨_,rfl,λ_=>.inl h⟩);refine Aa (r:=.vptr (x_ (.mk yo yk ynm yfd yad yn yvk yvi yvf ya)++GT [])) rfl (by show Ak _=true;exact A9.okL_join (Cw _) (Kq _)) ?_;refine Aa (r:=.vptr [.int .i64 yk,.str ynm,.str yfd,.int .i64 yad,.int .i64 yn,.int .i64 yvk,.int .i64 yvi,.flt .f64 yvf,De ya]) rfl (by simp only [okC,Ak,Eg]) (Aa (r:=.int .i64 yk) rfl rfl ?_);refine Aa (Am ..) rfl (Aq (UK _) rfl rfl (Ai (by show Ak (x_ (.mk op 2 [107] fd 8 4 vk vi vf [_])++[_])=true;exact Lb _ _) ⟨_,rfl,λh=>.inr ?_⟩));exact AU (dh h)
def U_ (l:List GX):(XOp.len 106).run Tryz.prog [De l]=some (.int .i64 (l.length:Int)):=by rw [OI];exact SA Tryz.underlying106 l
def ME (l:List GX) {i:Nat} (h:i<l.length):(XOp.iaddr 106).run Tryz.prog [De l,.int .i64 (i:Int)]=some (.vptr (Ay x_ (l.drop i))):=by rw [OI];exact Bw (e:=108) (ti:=(Tryz.prog.info? 108).get!) Tryz.underlying106 (by kernel_rfl) (by kernel_rfl) FA h .i64
def MF (l:List GX) {i:Nat} (h:i<l.length):(XOp.load 108).run Tryz.prog [.vptr (Ay x_ (l.drop i))]=some (.agg (x_ l[i])):=
 Bz (ti:=(Tryz.prog.info? 108).get!) Tryz.underlying108 rfl (by kernel_rfl) (by kernel_rfl) FA h
def N7 (l:List GX) (s:GX) (hl:l.length<=100000):(XOp.app 10 112).run Tryz.prog [De l,.agg (x_ s)]=some (De (l++[s])):=by rw [OI,OI];exact V3 FA (by decide) (by decide) l s (by omega)
def jh (l:List GX) {i:Nat} (hi:i<l.length) (y:GX) (k:IntKind):(XOp.stx 108 10 0).run Tryz.prog [De l,.int k (i:Int),.agg (x_ y)]=some (De (l.set i y)):=by rw [OI,OI];exact Eu (ti:=(Tryz.prog.info? 108).get!) FA hi (p:=[]) (q:=x_ l[i]) (r:=[]) (xs:=x_ y) rfl (.inl rfl) (by kernel_rfl) (by rw [FA];kernel_rfl) (X0 (Cw _)) (by simp) rfl (by rw [FA,FA]) (by simp) k
def RR (x:GX):Ak (x_ x++[])=true:=by rw [List.append_nil];exact Cw x
def typ (b:Bool):Int:=if b=true then 0 else 4
def O4 {b:Bool} (h:typ b=0):b=true:=dh h
def RV (b:Bool):AJ 186 [.bool b] (.int .i64 (typ b)):=UK b
attribute [irreducible] typ
def OQ {d:Nat} {op kd ad n vk vi:Int} {nm fd:List UInt8} {vf:Nat} {y:GX} (hf:NB vf) (hy:TX d y) (ho:op=15/\kd=1/\y.kd=1\/op=16/\kd=y.kd/\y.kd≠1\/op=17/\2<=kd/\kd<=5/\y.kd≠1):TX (d+1) (.mk op kd nm fd ad n vk vi vf [y]):=by have hk:=iW hy;refine ⟨.inr (.inl ⟨by omega,rfl⟩),hf,by omega,by omega,⟨λh=>by omega,λh=>by omega,λh=>by omega,λh=>by omega,λh=>?_,λh=>?_,λh=>?_⟩,λa ha=>by cases List.mem_singleton.1 ha;exact hy⟩;exact ⟨by omega,by show [y.kd]=[1];congr 1;omega⟩;exact ⟨by show [y.kd]=[kd];congr 1;omega,by omega,by omega⟩;exact ⟨by omega,by omega,y.kd,rfl,by omega,by omega⟩
def iH {d:Nat} {op kd ad n vk vi:Int} {nm fd:List UInt8} {vf:Nat} {y z:GX} (hf:NB vf) (hy:TX d y) (hz:TX d z) (ho:4<=op/\op<=14) (hk:y.kd=z.kd) (h1:op<=8->kd=y.kd/\y.kd≠1) (h2:9<=op->kd=1) (h3:op=8->y.kd≠5) (h4:op=11\/op=12->y.kd≠1) (h5:13<=op->y.kd=1):TX (d+1) (.mk op kd nm fd ad n vk vi vf [y,z]):=by
 have hy1:=iW hy
 refine ⟨.inr (.inr ⟨ho,rfl⟩),hf,by omega,by omega,⟨λh=>by omega,λh=>by omega,λh=>by omega,λh=>?_,λh=>by omega,λh=>by omega,λh=>by omega⟩,λa ha=>by
  rcases List.mem_cons.1 ha with rfl|ha;exact hy
  .cases List.mem_singleton.1 ha;exact hz⟩
 exact ⟨y.kd,by show [y.kd,z.kd]=_;rw [←hk],hy1.1,hy1.2,h1,h2,h3,h4,h5⟩
def Oa:∀(d:Nat) (x:GX),WX d x->Bl 149 Bv (VARS::x_ x) (RE d x)
 |0,_,h=>h.elim
 |d+1,.mk op kd nm fd ad n vk vi vf ag,hx=>by
  obtain ⟨hA,hF,⟨n1,n2,n3,n4⟩,hW⟩:=hx;have ih:=λ(z:GX) (hz:z∈ag)=>Oa d z (hW z hz);have hal:ag.length<=2:=(by unfold Dq at hA;omega);refine B3 pQ dO rfl rfl (by kernel_rfl) λY hf hg=>?_;unfold dO
  (refine b_ rfl rfl ?_ ?_<;>intro h<;>try omega)
  .subst h;have hl:ag=[]:=(by unfold Dq at hA;exact List.length_eq_zero_iff.1 (by omega));subst hl;refine Fn (y:=.mk 1 vk nm fd ad n vk vi vf []) rfl (λ_=>⟨⟨hA,hF,?_,?_,?_,λa ha=>(za' ha).elim⟩,rfl,λh=>by omega⟩);all_goals obtain ⟨m1,m2,m3,m4,m5,m6⟩:=n1 rfl
   omega;omega;exact ⟨λ_=>⟨rfl,by omega,by omega,m2,m3,m4,m5,m6⟩,λh=>by omega,λh=>by omega,λh=>by omega,λh=>by omega,λh=>by omega,λh=>by omega⟩
  (refine b_ rfl rfl ?_ ?_<;>intro h<;>try omega)
  subst h;have hl:ag=[]:=(by unfold Dq at hA;exact List.length_eq_zero_iff.1 (by omega));subst hl;refine a_ (r5 2 kd nm fd ad n vk vi vf [] (n2 rfl)) rfl (by show Ak (VARS::x_ (.mk 2 kd nm fd ad n vk vi vf []))=true;rw [CA];exact Cw _) ⟨?_,trivial⟩;rintro ws ⟨ad1,kd1,rfl,hc⟩;have hc':(ad1,kd1)∈Jd:=Gq _ hc;refine Fn (y:=.mk 2 kd1 nm fd ad1 n vk vi vf []) rfl (λ_=>⟨⟨hA,hF,?_,?_,⟨λh=>by omega,λ_=>hc',λh=>by omega,λh=>by omega,λh=>by omega,λh=>by omega,λh=>by omega⟩,λa ha=>(za' ha).elim⟩,rfl,λ_=>hc⟩);simp [Jd]at hc';omega;simp [Jd]at hc';omega
  (refine b_ rfl rfl ?_ ?_<;>intro h<;>try omega)
  .subst h;cases n3 rfl;refine Aq bk rfl rfl (Aa rfl rfl (Ax rfl (λh=>by cases h) (λ_=>Aa rfl rfl (Ax rfl (λh=>by cases h) (λ_=>?_)))));refine Dv (ι:=List GX×Nat) (λs=>[De s.1,.int .i64 (s.2:Int)]) (λs=>s.1.length=s.2/\s.2<=ag.length/\∀a∈s.1,TX d a) (λs=>ag.length-s.2) ([],0) ⟨rfl,zb' _,λa ha=>(za' ha).elim⟩ rfl (λs _=>by simp only [Ak,okC,Eg]) (λs s' _ _ h=>by simp at h;omega) (λs hs=>?_);obtain ⟨acc,i⟩:=s;obtain ⟨h1,h2,h3⟩:=hs;simp only at h1 h2 h3⊢;refine Aa (U_ ag) rfl ?_
   (refine b_ rfl rfl ?_ ?_<;>intro h<;>try omega)
   .have hi:i<ag.length:=(by omega);have hld:=MF ag hi;have hz:=ih ag[i] (zc' hi);rcases hzz:ag[i]with ⟨zo,zk,znm,zfd,zad,zn,zvk,zvi,zvf,za⟩;rw [hzz]at hld hz;refine Aa (ME ag hi) (A9 Cw _) (BV hld rfl (Cw _) ?_);refine a_ hz rfl (by show Ak (VARS::x_ (.mk zo zk znm zfd zad zn zvk zvi zvf za))=true;rw [CA];exact Cw _) ⟨?_,trivial⟩;rintro ws ⟨⟨yo,yk,ynm,yfd,yad,yn,yvk,yvi,yvf,ya⟩,e,rfl,hy⟩
    (refine b_ rfl rfl ?_ ?_<;>intro h<;>try omega)
    exact Fn (y:=.mk ..) rfl (λhe=>absurd he h);refine Aa (N7 acc (.mk yo yk ynm yfd yad yn yvk yvi yvf ya) (by omega)) (Eg _) (Aa (o_ (by omega) (by omega)) rfl (Cb rfl ⟨(acc++[_],i+1),⟨by simp;omega,hi,?_⟩,rfl,by simp only;omega⟩));intro a ha;rcases List.mem_append.1 ha with ha|ha;exact h3 a ha;cases List.mem_singleton.1 ha;exact (hy h).1
   have hi:i=ag.length:=(by omega);subst hi;have ha1:acc.length=1:=(by unfold Dq at hA;omega);obtain ⟨y,rfl⟩:=List.length_eq_one_iff.1 ha1;have hy:=h3 y (List.mem_singleton.2 rfl);obtain ⟨yo,yk,ynm,yfd,yad,yn,yvk,yvi,yvf,ya⟩:=y
   (refine b_ rfl rfl ?_ ?_<;>intro h<;>try omega)
   refine a_ (wv 3 kd [107] fd ad n vk vi vf ag _ rfl) rfl (by show Ak (VARS::(x_ (.mk 3 kd [107] fd ad n vk vi vf ag)++[De _]))=true;rw [CA];exact A9.okL_join (Cw _) (by simp only [Ak,Eg])) ⟨?_,trivial⟩;rintro ws ⟨e,rfl,he⟩;refine Fn (y:=.mk 3 2 [107] fd 8 4 vk vi vf [.mk ..]) rfl (λh=>⟨⟨.inr (.inl ⟨.inl rfl,rfl⟩),hF,by decide,by decide,⟨λh=>by omega,λh=>by omega,λ_=>⟨rfl,rfl,rfl,_,rfl,he h⟩,λh=>by omega,λh=>by omega,λh=>by omega,λh=>by omega⟩,λa ha=>by cases List.mem_singleton.1 ha;exact hy⟩,rfl,λh=>by omega⟩)
  .refine Dv (ι:=List GX×Nat) (λs=>[De s.1,.int .i64 (s.2:Int)]) (λs=>s.1.length=s.2/\s.2<=ag.length/\∀a∈s.1,TX d a) (λs=>ag.length-s.2) ([],0) ⟨rfl,zb' _,λa ha=>(za' ha).elim⟩ rfl (λs _=>by simp only [Ak,okC,Eg]) (λs s' _ _ h=>by simp at h;omega) (λs hs=>?_);obtain ⟨acc,i⟩:=s;obtain ⟨h1,h2,h3⟩:=hs;simp only at h1 h2 h3⊢;refine Aa (U_ ag) rfl ?_
   (refine b_ rfl rfl ?_ ?_<;>intro h<;>try omega)
   .have hi:i<ag.length:=(by omega);have hld:=MF ag hi;have hz:=ih ag[i] (zc' hi);rcases hzz:ag[i]with ⟨zo,zk,znm,zfd,zad,zn,zvk,zvi,zvf,za⟩;rw [hzz]at hld hz;refine Aa (ME ag hi) (A9 Cw _) (BV hld rfl (Cw _) ?_);refine a_ hz rfl (by show Ak (VARS::x_ (.mk zo zk znm zfd zad zn zvk zvi zvf za))=true;rw [CA];exact Cw _) ⟨?_,trivial⟩;rintro ws ⟨⟨yo,yk,ynm,yfd,yad,yn,yvk,yvi,yvf,ya⟩,e,rfl,hy⟩
    (refine b_ rfl rfl ?_ ?_<;>intro h<;>try omega)
    exact Fn (y:=.mk ..) rfl (λhe=>absurd he h);refine Aa (N7 acc (.mk yo yk ynm yfd yad yn yvk yvi yvf ya) (by omega)) (Eg _) (Aa (o_ (by omega) (by omega)) rfl (Cb rfl ⟨(acc++[_],i+1),⟨by simp;omega,hi,?_⟩,rfl,by simp only;omega⟩));intro a ha;rcases List.mem_append.1 ha with ha|ha;exact h3 a ha;cases List.mem_singleton.1 ha;exact (hy h).1
   have hi:i=ag.length:=(by omega);subst hi;by_cases hop:15<=op
   .have hop2:op=15\/op=16\/op=17:=(by unfold Dq at hA;omega);have ha1:acc.length=1:=(by unfold Dq at hA;omega);obtain ⟨y,rfl⟩:=List.length_eq_one_iff.1 ha1;have hy:=h3 y (List.mem_singleton.2 rfl);obtain ⟨yo,yk,ynm,yfd,yad,yn,yvk,yvi,yvf,ya⟩:=y;have n4':op=17->2<=kd/\kd<=5:=n4;rcases hop2 with rfl|rfl|rfl
    ·(refine b_ rfl rfl ?_ ?_<;>intro h<;>try omega)
     refine Aa (r:=.int .i64 0) rfl rfl (Aa (r:=.int .i64 yk) rfl rfl ?_);repeat' (first
               |(refine b_ rfl rfl ?_ ?_<;>intro h<;>try omega)
               |refine Aq (RV _) rfl rfl ?_
               |refine Aq (On _) rfl rfl ?_
               |refine Ea (.inr ⟨_,_,_,_,rfl,rfl⟩) ?_
               |refine Iv rfl (λh=>?_) (λh=>?_)
               |refine Aa (Am ..) rfl ?_
               |refine Aa (Al ..) rfl ?_)
     all_goals (first
                 |exact Fn (y:=.mk ..) rfl (λhe=>absurd he (by decide))
                 |(refine Fn (y:=.mk _ _ _ _ _ _ _ _ _ [.mk ..]) rfl (λhe=>?_)
                   have he2:=O4 he;simp only [AH,Bool.not_eq_true',AY]at he2;refine ⟨OQ hF hy ?_,rfl,λh=>by omega⟩;dsimp only [GX.kd];omega)
                 |(refine Fn (y:=.mk _ _ _ _ _ _ _ _ _ [.mk ..]) rfl (λhe=>?_)
                   refine ⟨OQ hF hy ?_,rfl,λh=>by omega⟩;dsimp only [GX.kd];omega))
    ·(refine b_ rfl rfl ?_ ?_<;>intro h<;>try omega)
     refine Aa (r:=.int .i64 0) rfl rfl (Aa (r:=.int .i64 yk) rfl rfl ?_);repeat' (first
               |(refine b_ rfl rfl ?_ ?_<;>intro h<;>try omega)
               |refine Aq (RV _) rfl rfl ?_
               |refine Aq (On _) rfl rfl ?_
               |refine Ea (.inr ⟨_,_,_,_,rfl,rfl⟩) ?_
               |refine Iv rfl (λh=>?_) (λh=>?_)
               |refine Aa (Am ..) rfl ?_
               |refine Aa (Al ..) rfl ?_)
     all_goals (first
                 |exact Fn (y:=.mk ..) rfl (λhe=>absurd he (by decide))
                 |(refine Fn (y:=.mk _ _ _ _ _ _ _ _ _ [.mk ..]) rfl (λhe=>?_)
                   have he2:=O4 he;simp only [AH,Bool.not_eq_true',AY]at he2;refine ⟨OQ hF hy ?_,rfl,λh=>by omega⟩;dsimp only [GX.kd];omega)
                 |(refine Fn (y:=.mk _ _ _ _ _ _ _ _ _ [.mk ..]) rfl (λhe=>?_)
                   refine ⟨OQ hF hy ?_,rfl,λh=>by omega⟩;dsimp only [GX.kd];omega))
    ·(refine b_ rfl rfl ?_ ?_<;>intro h<;>try omega)
     have n5:=n4 rfl;refine Aa (r:=.int .i64 0) rfl rfl (Aa (r:=.int .i64 yk) rfl rfl ?_);repeat' (first
               |(refine b_ rfl rfl ?_ ?_<;>intro h<;>try omega)
               |refine Aq (RV _) rfl rfl ?_
               |refine Aq (On _) rfl rfl ?_
               |refine Ea (.inr ⟨_,_,_,_,rfl,rfl⟩) ?_
               |refine Iv rfl (λh=>?_) (λh=>?_)
               |refine Aa (Am ..) rfl ?_
               |refine Aa (Al ..) rfl ?_)
     all_goals (first
                 |exact Fn (y:=.mk ..) rfl (λhe=>absurd he (by decide))
                 |(refine Fn (y:=.mk _ _ _ _ _ _ _ _ _ [.mk ..]) rfl (λhe=>?_)
                   have he2:=O4 he;simp only [AH,Bool.not_eq_true',AY]at he2;refine ⟨OQ hF hy ?_,rfl,λh=>by omega⟩;dsimp only [GX.kd];omega)
                 |(refine Fn (y:=.mk _ _ _ _ _ _ _ _ _ [.mk ..]) rfl (λhe=>?_)
                   refine ⟨OQ hF hy ?_,rfl,λh=>by omega⟩;dsimp only [GX.kd];omega))
   .have hop2:4<=op/\op<=14:=(by unfold Dq at hA;omega);have ha1:acc.length=2:=(by unfold Dq at hA;omega);obtain ⟨y,z,rfl⟩:∃y z,acc=[y,z]:=by
     rcases acc with _|⟨y,_|⟨z,_|⟨w,t⟩⟩⟩<;>simp at ha1
     exact ⟨y,z,rfl⟩
    have hy:=h3 y (ze' ..);have hz:=h3 z (zf' _ (List.mem_singleton.2 rfl));obtain ⟨yo,yk,ynm,yfd,yad,yn,yvk,yvi,yvf,ya⟩:=y;obtain ⟨zo,zk,znm,zfd,zad,zn,zvk,zvi,zvf,za⟩:=z
    (refine b_ rfl rfl ?_ ?_<;>intro h<;>try omega)
    refine Aa (r:=.int .i64 0) rfl rfl (Aa (r:=.int .i64 yk) rfl rfl ?_)
    (refine b_ rfl rfl ?_ ?_<;>intro h<;>try omega);(refine b_ rfl rfl ?_ ?_<;>intro h<;>try omega);(refine b_ rfl rfl ?_ ?_<;>intro h<;>try omega);(refine b_ rfl rfl ?_ ?_<;>intro h<;>try omega)
    (refine b_ rfl rfl ?_ ?_<;>intro h<;>try omega)
    .refine Aa (r:=.int .i64 0) rfl rfl (BV (cs:=x_ (.mk yo yk ynm yfd yad yn yvk yvi yvf ya)) rfl rfl (Cw _) (Aa (r:=.int .i64 1) rfl rfl (Aa (r:=.int .i64 zk) rfl rfl ?_)));obtain ⟨⟨yo1,yk1,ynm1,yfd1,yad1,yn1,yvk1,yvi1,yvf1,ya1⟩,hp1,hy1⟩:=QT _ zk hy;refine Aq hp1 rfl (RR _) ?_;refine Aa (r:=.int .i64 1) rfl rfl (BV (cs:=x_ (.mk zo zk znm zfd zad zn zvk zvi zvf za)) rfl rfl (Cw _) (Aa (r:=.int .i64 0) rfl rfl (Aa (r:=.int .i64 yk) rfl rfl ?_)));obtain ⟨⟨zo1,zk1,znm1,zfd1,zad1,zn1,zvk1,zvi1,zvf1,za1⟩,hp2,hz1⟩:=QT _ yk hz;refine Aq hp2 rfl (RR _) ?_;clear hy hz;have hy:=hy1;have hz:=hz1;refine Aa (r:=.int .i64 0) rfl rfl (Aa (r:=De [.mk yo1 yk1 ynm1 yfd1 yad1 yn1 yvk1 yvi1 yvf1 ya1,.mk zo zk znm zfd zad zn zvk zvi zvf za]) (jh [(.mk yo yk ynm yfd yad yn yvk yvi yvf ya),(.mk zo zk znm zfd zad zn zvk zvi zvf za)] (i:=0) (by simp) (.mk yo1 yk1 ynm1 yfd1 yad1 yn1 yvk1 yvi1 yvf1 ya1) .i64) (Eg _) (Aa (r:=.int .i64 1) rfl rfl (Aa (r:=De [.mk yo1 yk1 ynm1 yfd1 yad1 yn1 yvk1 yvi1 yvf1 ya1,.mk zo1 zk1 znm1 zfd1 zad1 zn1 zvk1 zvi1 zvf1 za1]) (jh [(.mk yo1 yk1 ynm1 yfd1 yad1 yn1 yvk1 yvi1 yvf1 ya1),(.mk zo zk znm zfd zad zn zvk zvi zvf za)] (i:=1) (by simp) (.mk zo1 zk1 znm1 zfd1 zad1 zn1 zvk1 zvi1 zvf1 za1) .i64) (Eg _) ?_)));refine Aa (r:=.int .i64 0) rfl rfl (Aa (r:=.int .i64 yk1) rfl rfl (Aa (r:=.int .i64 1) rfl rfl (Aa (r:=.int .i64 zk1) rfl rfl ?_)));repeat' (first
               |(refine b_ rfl rfl ?_ ?_<;>intro h<;>try omega)
               |refine Aq (RV _) rfl rfl ?_
               |refine Aq (On _) rfl rfl ?_
               |refine Ea (.inr ⟨_,_,_,_,rfl,rfl⟩) ?_
               |refine Iv rfl (λh=>?_) (λh=>?_)
               |refine Aa (Am ..) rfl ?_
               |refine Aa (Al ..) rfl ?_)
     all_goals (
                refine Fn (y:=.mk _ _ _ _ _ _ _ _ _ [.mk ..,.mk ..]) rfl (λhe=>?_);have he2:=O4 he;first
                 |(exact absurd he2 (by decide))
                 |(simp only [AH,Bool.not_eq_true',AY]at he2
                   exact ⟨iH hF hy hz (by omega) (by dsimp only [GX.kd];omega) (by dsimp only [GX.kd];omega) (by omega) (by dsimp only [GX.kd];omega) (by dsimp only [GX.kd];omega) (by dsimp only [GX.kd];omega),rfl,λh=>by omega⟩))
    .refine Aa (r:=.int .i64 1) rfl rfl (Aa (r:=.int .i64 zk) rfl rfl ?_);repeat' (first
               |(refine b_ rfl rfl ?_ ?_<;>intro h<;>try omega)
               |refine Aq (RV _) rfl rfl ?_
               |refine Aq (On _) rfl rfl ?_
               |refine Ea (.inr ⟨_,_,_,_,rfl,rfl⟩) ?_
               |refine Iv rfl (λh=>?_) (λh=>?_)
               |refine Aa (Am ..) rfl ?_
               |refine Aa (Al ..) rfl ?_)
     all_goals (
                refine Fn (y:=.mk _ _ _ _ _ _ _ _ _ [.mk ..,.mk ..]) rfl (λhe=>?_);have he2:=O4 he;first
                 |(exact absurd he2 (by decide))
                 |(simp only [AH,Bool.not_eq_true',AY]at he2
                   exact ⟨iH hF hy hz (by omega) (by dsimp only [GX.kd];omega) (by dsimp only [GX.kd];omega) (by omega) (by dsimp only [GX.kd];omega) (by dsimp only [GX.kd];omega) (by dsimp only [GX.kd];omega),rfl,λh=>by omega⟩))
def sI:VC:=⟨⟨[],[]⟩,[(182,[(some 10),none,none]),(183,[(some 10)])],[],0,true,[(149,Bv)]⟩
def dB:VT:=Cf 149 Bv ([64]++Ae 76 10) 92 11<|It Q7 [113,J 0] 114 (Dn (Ae 65 27++[113]))<|Cf 149 Bv ([64]++Ae 66 10) 115 11<|It Q7 [136,J 0] 137 (Dn (Ae 65 27++[136]))<|.call 182 [64,68] 138 [(some 10),none,none]<|It (.bin .neq 9 false true) [69,.str []] 150 (Dn (Ae 65 27++[J 4]))<|Iq 139 1 151 (Dn (Ae 65 27++[J 13]))<|.call 183 [.agg (Ae 103 10),127] 152 [(some 10)]<|It Qd [153,127] 162 (Dn (Ae 65 27++[J 4]))<|Dn ([65]++Ae 126 10++Ae 152 10++Ae 86 6++[J 0])
def vr:VC:=⟨⟨[],[]⟩,[(182,[(some 10),none,none]),(183,[(some 10)]),(74,[none])],[(0,[⟨[(4,.ptr 1 0),(3,.ptr 0 0),(9,.slx 3 1 0),(10,.slx 4 10 1),(11,.slx 2 0 0),(0,64),(7,102),(6,.ptr 2 0)],[(1,[J 0,J 0,J 0,.str [],.str [],J 0,J 0,J 0,J 0,.flt .f64 0,.nsl,J 0,J 0,.str [],.str [],J 0,J 0,J 0,J 0,.flt .f64 0,.nsl,.nsl,.nsl,.str [],J 0,J 0,.nsl]),(0,[65,66,67,68,69,70,71,72,73,74,75,76,77,78,79,80,81,82,83,84,85,86,87,88,89,90,91]),(2,[92,93,94,95,96,97,98,99,100,101])],5,3,[⟨3,1,0,9,none⟩,⟨4,10,1,10,none⟩],[],[]⟩]),(2,[⟨[(4,.ptr 1 0),(3,.ptr 0 0),(14,.slx 0 0 0),(9,.slx 3 1 1),(10,.slx 4 10 2),(6,.ptr 2 0),(7,102)],[(1,[J 0,J 0,J 0,.str [],.str [],J 0,J 0,J 0,J 0,.flt .f64 0,.nsl,J 0,J 0,.str [],.str [],J 0,J 0,J 0,J 0,.flt .f64 0,.nsl,.nsl,.nsl,.str [],J 0,J 0,.nsl]),(0,[65,66,67,68,69,70,71,72,73,74,75,76,77,78,79,80,81,82,83,84,85,86,87,88,89,90,91]),(2,[92,93,94,95,96,97,98,99,100,101])],5,3,[⟨3,1,1,9,none⟩,⟨4,10,2,10,none⟩],[],[]⟩])],0,true,[(149,Bv)]⟩
def je:VT:=.call 182 [64,88] 92 [(some 10),none,none]<|It Q6 [103] 104 (Dn (Ae 65 27++[J 3]))<|.call 74 [94] 105 [none]<|It Qa [105,J 2] 106 (Dn (Ae 65 27++[J 4]))<|Iq 94 9 107 (Iq 94 11 108 (.loop 109 0 [.vsl 1 1 [J 1],.nsl,J 0] (.cons 3 (Li Qh [91] 112<|It Q5 [111,112] 113 (Li Qg [91,111] 114<|.lt Qm [114] 115 (some 10)<|Cf 149 Bv ([64]++Ae 115 10) 125 11<|It Q7 [146,J 0] 147 (Dn (Ae 65 27++[146]))<|Li Qf [109] 148<|It Q5 [111,148] 149 (Li Q2 [109,111] 150<|Li Qp [109,150] 151<|.call 183 [.agg (Ae 136 10),151] 152 [(some 10)]<|Li Qo [110,.agg (Ae 152 10)] 162<|Li Q3 [111,J 1] 163<|.again 0 0 [109,162,163])<|Li Qo [110,.agg (Ae 136 10)] 150<|Li Q3 [111,J 1] 151<|.again 0 0 [109,150,151])<|Li Qh [110] 114<|Li Qf [109] 115<|It Qd [114,115] 116 (Dn (Ae 65 27++[J 4]))<|.loop 117 0 [J 0,109,110] (.cons 3 (Li Qf [118] 120<|It Q5 [117,120] 121 (Li Q2 [119,117] 122<|Li Ql [119,122] 123<|Li Q2 [118,117] 124<|Li Qp [118,124] 125<|It Qd [123,125] 126 (Dn (Ae 65 27++[J 4]))<|Li Q3 [117,J 1] 127<|.again 1 0 [127,118,119])<|Dn (Ae 65 24++[94,102,119,J 0])) .nil)) .nil))<|Iq 94 12 109 (.loop 110 0 [.vsl 1 1 [J 1],.nsl,J 0] (.cons 3 (Li Qh [91] 113<|It Q5 [112,113] 114 (Li Qg [91,112] 115<|.lt Qm [115] 116 (some 10)<|Cf 149 Bv ([64]++Ae 116 10) 126 11<|It Q7 [147,J 0] 148 (Dn (Ae 65 27++[147]))<|Li Qf [110] 149<|It Q5 [112,149] 150 (Li Q2 [110,112] 151<|Li Qp [110,151] 152<|.call 183 [.agg (Ae 137 10),152] 153 [(some 10)]<|Li Qo [111,.agg (Ae 153 10)] 163<|Li Q3 [112,J 1] 164<|.again 0 0 [110,163,164])<|Li Qo [111,.agg (Ae 137 10)] 151<|Li Q3 [112,J 1] 152<|.again 0 0 [110,151,152])<|Li Qh [111] 115<|Li Qf [110] 116<|It Qd [115,116] 117 (Dn (Ae 65 27++[J 4]))<|.loop 118 0 [J 0,110,111] (.cons 3 (Li Qf [119] 121<|It Q5 [118,121] 122 (Li Q2 [120,118] 123<|Li Ql [120,123] 124<|Li Q2 [119,118] 125<|Li Qp [119,125] 126<|It Qd [124,126] 127 (Dn (Ae 65 27++[J 4]))<|Li Q3 [118,J 1] 128<|.again 1 0 [128,119,120])<|Dn (Ae 65 24++[94,102,120,J 0])) .nil)) .nil))<|.loop 110 0 [.vsl 2 1 [J 1,J 2],.nsl,J 0] (.cons 3 (Li Qh [91] 113<|It Q5 [112,113] 114 (Li Qg [91,112] 115<|.lt Qm [115] 116 (some 10)<|Cf 149 Bv ([64]++Ae 116 10) 126 11<|It Q7 [147,J 0] 148 (Dn (Ae 65 27++[147]))<|Li Qf [110] 149<|It Q5 [112,149] 150 (Li Q2 [110,112] 151<|Li Qp [110,151] 152<|.call 183 [.agg (Ae 137 10),152] 153 [(some 10)]<|Li Qo [111,.agg (Ae 153 10)] 163<|Li Q3 [112,J 1] 164<|.again 0 0 [110,163,164])<|Li Qo [111,.agg (Ae 137 10)] 151<|Li Q3 [112,J 1] 152<|.again 0 0 [110,151,152])<|Li Qh [111] 115<|Li Qf [110] 116<|It Qd [115,116] 117 (Dn (Ae 65 27++[J 4]))<|.loop 118 0 [J 0,110,111] (.cons 3 (Li Qf [119] 121<|It Q5 [118,121] 122 (Li Q2 [120,118] 123<|Li Ql [120,123] 124<|Li Q2 [119,118] 125<|Li Qp [119,125] 126<|It Qd [124,126] 127 (Dn (Ae 65 27++[J 4]))<|Li Q3 [118,J 1] 128<|.again 1 0 [128,119,120])<|Dn (Ae 65 24++[94,102,120,J 0])) .nil)) .nil))<|Iq 94 10 108 (Iq 94 11 109 (.loop 110 0 [.vsl 1 1 [J 1],.nsl,J 0] (.cons 3 (Li Qh [91] 113<|It Q5 [112,113] 114 (Li Qg [91,112] 115<|.lt Qm [115] 116 (some 10)<|Cf 149 Bv ([64]++Ae 116 10) 126 11<|It Q7 [147,J 0] 148 (Dn (Ae 65 27++[147]))<|Li Qf [110] 149<|It Q5 [112,149] 150 (Li Q2 [110,112] 151<|Li Qp [110,151] 152<|.call 183 [.agg (Ae 137 10),152] 153 [(some 10)]<|Li Qo [111,.agg (Ae 153 10)] 163<|Li Q3 [112,J 1] 164<|.again 0 0 [110,163,164])<|Li Qo [111,.agg (Ae 137 10)] 151<|Li Q3 [112,J 1] 152<|.again 0 0 [110,151,152])<|Li Qh [111] 115<|Li Qf [110] 116<|It Qd [115,116] 117 (Dn (Ae 65 27++[J 4]))<|.loop 118 0 [J 0,110,111] (.cons 3 (Li Qf [119] 121<|It Q5 [118,121] 122 (Li Q2 [120,118] 123<|Li Ql [120,123] 124<|Li Q2 [119,118] 125<|Li Qp [119,125] 126<|It Qd [124,126] 127 (Dn (Ae 65 27++[J 4]))<|Li Q3 [118,J 1] 128<|.again 1 0 [128,119,120])<|Dn (Ae 65 24++[94,102,120,J 0])) .nil)) .nil))<|Iq 94 12 110 (.loop 111 0 [.vsl 1 1 [J 1],.nsl,J 0] (.cons 3 (Li Qh [91] 114<|It Q5 [113,114] 115 (Li Qg [91,113] 116<|.lt Qm [116] 117 (some 10)<|Cf 149 Bv ([64]++Ae 117 10) 127 11<|It Q7 [148,J 0] 149 (Dn (Ae 65 27++[148]))<|Li Qf [111] 150<|It Q5 [113,150] 151 (Li Q2 [111,113] 152<|Li Qp [111,152] 153<|.call 183 [.agg (Ae 138 10),153] 154 [(some 10)]<|Li Qo [112,.agg (Ae 154 10)] 164<|Li Q3 [113,J 1] 165<|.again 0 0 [111,164,165])<|Li Qo [112,.agg (Ae 138 10)] 152<|Li Q3 [113,J 1] 153<|.again 0 0 [111,152,153])<|Li Qh [112] 116<|Li Qf [111] 117<|It Qd [116,117] 118 (Dn (Ae 65 27++[J 4]))<|.loop 119 0 [J 0,111,112] (.cons 3 (Li Qf [120] 122<|It Q5 [119,122] 123 (Li Q2 [121,119] 124<|Li Ql [121,124] 125<|Li Q2 [120,119] 126<|Li Qp [120,126] 127<|It Qd [125,127] 128 (Dn (Ae 65 27++[J 4]))<|Li Q3 [119,J 1] 129<|.again 1 0 [129,120,121])<|Dn (Ae 65 24++[94,102,121,J 0])) .nil)) .nil))<|.loop 111 0 [.vsl 2 1 [J 1,J 2],.nsl,J 0] (.cons 3 (Li Qh [91] 114<|It Q5 [113,114] 115 (Li Qg [91,113] 116<|.lt Qm [116] 117 (some 10)<|Cf 149 Bv ([64]++Ae 117 10) 127 11<|It Q7 [148,J 0] 149 (Dn (Ae 65 27++[148]))<|Li Qf [111] 150<|It Q5 [113,150] 151 (Li Q2 [111,113] 152<|Li Qp [111,152] 153<|.call 183 [.agg (Ae 138 10),153] 154 [(some 10)]<|Li Qo [112,.agg (Ae 154 10)] 164<|Li Q3 [113,J 1] 165<|.again 0 0 [111,164,165])<|Li Qo [112,.agg (Ae 138 10)] 152<|Li Q3 [113,J 1] 153<|.again 0 0 [111,152,153])<|Li Qh [112] 116<|Li Qf [111] 117<|It Qd [116,117] 118 (Dn (Ae 65 27++[J 4]))<|.loop 119 0 [J 0,111,112] (.cons 3 (Li Qf [120] 122<|It Q5 [119,122] 123 (Li Q2 [121,119] 124<|Li Ql [121,124] 125<|Li Q2 [120,119] 126<|Li Qp [120,126] 127<|It Qd [125,127] 128 (Dn (Ae 65 27++[J 4]))<|Li Q3 [119,J 1] 129<|.again 1 0 [129,120,121])<|Dn (Ae 65 24++[94,102,121,J 0])) .nil)) .nil))<|Iq 94 11 109 (.loop 110 0 [.vsl 1 1 [J 1],.nsl,J 0] (.cons 3 (Li Qh [91] 113<|It Q5 [112,113] 114 (Li Qg [91,112] 115<|.lt Qm [115] 116 (some 10)<|Cf 149 Bv ([64]++Ae 116 10) 126 11<|It Q7 [147,J 0] 148 (Dn (Ae 65 27++[147]))<|Li Qf [110] 149<|It Q5 [112,149] 150 (Li Q2 [110,112] 151<|Li Qp [110,151] 152<|.call 183 [.agg (Ae 137 10),152] 153 [(some 10)]<|Li Qo [111,.agg (Ae 153 10)] 163<|Li Q3 [112,J 1] 164<|.again 0 0 [110,163,164])<|Li Qo [111,.agg (Ae 137 10)] 151<|Li Q3 [112,J 1] 152<|.again 0 0 [110,151,152])<|Li Qh [111] 115<|Li Qf [110] 116<|It Qd [115,116] 117 (Dn (Ae 65 27++[J 4]))<|.loop 118 0 [J 0,110,111] (.cons 3 (Li Qf [119] 121<|It Q5 [118,121] 122 (Li Q2 [120,118] 123<|Li Ql [120,123] 124<|Li Q2 [119,118] 125<|Li Qp [119,125] 126<|It Qd [124,126] 127 (Dn (Ae 65 27++[J 4]))<|Li Q3 [118,J 1] 128<|.again 1 0 [128,119,120])<|Dn (Ae 65 24++[94,102,120,J 0])) .nil)) .nil))<|Iq 94 12 110 (.loop 111 0 [.vsl 1 1 [J 1],.nsl,J 0] (.cons 3 (Li Qh [91] 114<|It Q5 [113,114] 115 (Li Qg [91,113] 116<|.lt Qm [116] 117 (some 10)<|Cf 149 Bv ([64]++Ae 117 10) 127 11<|It Q7 [148,J 0] 149 (Dn (Ae 65 27++[148]))<|Li Qf [111] 150<|It Q5 [113,150] 151 (Li Q2 [111,113] 152<|Li Qp [111,152] 153<|.call 183 [.agg (Ae 138 10),153] 154 [(some 10)]<|Li Qo [112,.agg (Ae 154 10)] 164<|Li Q3 [113,J 1] 165<|.again 0 0 [111,164,165])<|Li Qo [112,.agg (Ae 138 10)] 152<|Li Q3 [113,J 1] 153<|.again 0 0 [111,152,153])<|Li Qh [112] 116<|Li Qf [111] 117<|It Qd [116,117] 118 (Dn (Ae 65 27++[J 4]))<|.loop 119 0 [J 0,111,112] (.cons 3 (Li Qf [120] 122<|It Q5 [119,122] 123 (Li Q2 [121,119] 124<|Li Ql [121,124] 125<|Li Q2 [120,119] 126<|Li Qp [120,126] 127<|It Qd [125,127] 128 (Dn (Ae 65 27++[J 4]))<|Li Q3 [119,J 1] 129<|.again 1 0 [129,120,121])<|Dn (Ae 65 24++[94,102,121,J 0])) .nil)) .nil))<|.loop 111 0 [.vsl 2 1 [J 1,J 4],.nsl,J 0] (.cons 3 (Li Qh [91] 114<|It Q5 [113,114] 115 (Li Qg [91,113] 116<|.lt Qm [116] 117 (some 10)<|Cf 149 Bv ([64]++Ae 117 10) 127 11<|It Q7 [148,J 0] 149 (Dn (Ae 65 27++[148]))<|Li Qf [111] 150<|It Q5 [113,150] 151 (Li Q2 [111,113] 152<|Li Qp [111,152] 153<|.call 183 [.agg (Ae 138 10),153] 154 [(some 10)]<|Li Qo [112,.agg (Ae 154 10)] 164<|Li Q3 [113,J 1] 165<|.again 0 0 [111,164,165])<|Li Qo [112,.agg (Ae 138 10)] 152<|Li Q3 [113,J 1] 153<|.again 0 0 [111,152,153])<|Li Qh [112] 116<|Li Qf [111] 117<|It Qd [116,117] 118 (Dn (Ae 65 27++[J 4]))<|.loop 119 0 [J 0,111,112] (.cons 3 (Li Qf [120] 122<|It Q5 [119,122] 123 (Li Q2 [121,119] 124<|Li Ql [121,124] 125<|Li Q2 [120,119] 126<|Li Qp [120,126] 127<|It Qd [125,127] 128 (Dn (Ae 65 27++[J 4]))<|Li Q3 [119,J 1] 129<|.again 1 0 [129,120,121])<|Dn (Ae 65 24++[94,102,121,J 0])) .nil)) .nil)
def qL:VC:=⟨⟨[],[]⟩,[],[],0,true,[(149,Bv),(147,ZQ),(148,Xw),(54,GF)]⟩
def ki:VT:=Iq 65 1 92 (Cf 147 ZQ (Ae 64 28) 93 28<|Dn (Ae 121 28))<|Iq 65 4 93 (Cf 148 Xw (Ae 64 28) 94 28<|Dn (Ae 122 28))<|Cf 149 Bv ([64]++Ae 76 10) 94 11<|It Q7 [115,J 0] 116 (Dn (Ae 65 27++[115]))<|It Q1 [106,J 1] 117 (Dn (Ae 65 27++[J 4]))<|Cf 54 GF [64,86] 118 2<|It Q7 [121,J 0] 122 (Dn (Ae 65 11++Ae 105 10++[120]++Ae 87 5++[121]))<|Cf 54 GF [64,87] 123 2<|Dn (Ae 65 11++Ae 105 10++[120,125,88,89,90,91,126])
def uD:VC:=⟨⟨[],[]⟩,[],[(0,[⟨[(6,.slx 0 27 0),(7,.slx 1 0 0),(1,65),(0,64)],[],1,2,[⟨0,27,0,6,none⟩],[],[]⟩])],0,true,[(97,HC)]⟩
def kp:VT:=.loop 66 0 [.nsl,J 0] (.cons 2 (Li Zs [65] 68<|It Q5 [67,68] 69 (Li U4 [65,67] 70<|.lt U5 [70] 71 (some 27)<|Cf 97 HC ([64]++Ae 71 27) 98 28<|It Q7 [153,J 0] 154 (Dn [.nsl,153])<|Li Zm [66,.agg (Ae 126 27)] 155<|Li Q3 [67,J 1] 156<|.again 0 0 [155,156])<|Dn [66,J 0]) .nil)
def pW {nm fd:List UInt8} (h:(nm,fd)∈L7\/nm=[107]):∃(s:List UInt8) (r k z a b:Int) (c:Nat) (d e:Int) (f:Nat) (g:Int),AJ 182 [VARS,.str nm] (.tup [.agg [.str s,.int .i64 r,.int .i64 k,.int .i64 z,.int .i64 a,.int .i64 b,.flt .f64 c,.int .i64 d,.int .i64 e,.flt .f64 f],.int .i64 g,.bool true])/\(nm,r)∈eJ:=by rcases h with h|rfl;simp only [L7,CE,Prod.mk.injEq,List.not_mem_nil,or_false]at h;rcases h with ⟨rfl,rfl⟩|⟨rfl,rfl⟩|⟨rfl,rfl⟩|⟨rfl,rfl⟩|⟨rfl,rfl⟩|⟨rfl,rfl⟩|⟨rfl,rfl⟩|⟨rfl,rfl⟩|⟨rfl,rfl⟩|⟨rfl,rfl⟩|⟨rfl,rfl⟩;exact ⟨_,_,_,_,_,_,_,_,_,_,_,eS,by decide⟩;exact ⟨_,_,_,_,_,_,_,_,_,_,_,md,by decide⟩;exact ⟨_,_,_,_,_,_,_,_,_,_,_,S0,by decide⟩;exact ⟨_,_,_,_,_,_,_,_,_,_,_,fy,by decide⟩;exact ⟨_,_,_,_,_,_,_,_,_,_,_,pq,by decide⟩;exact ⟨_,_,_,_,_,_,_,_,_,_,_,mK,by decide⟩;exact ⟨_,_,_,_,_,_,_,_,_,_,_,aT,by decide⟩;exact ⟨_,_,_,_,_,_,_,_,_,_,_,eX,by decide⟩;exact ⟨_,_,_,_,_,_,_,_,_,_,_,S0,by decide⟩;exact ⟨_,_,_,_,_,_,_,_,_,_,_,cM,by decide⟩;exact ⟨_,_,_,_,_,_,_,_,_,_,_,ef,by decide⟩;exact ⟨_,_,_,_,_,_,_,_,_,_,_,bk,by decide⟩
def Nl (kd ad:Int) (ks:List Int):Prop:=(kd=6/\ad=12/\ks=[1,4])\/(kd=9/\ad=16/\ks=[1,2])\/(kd=11/\ad=19/\ks=[1])
def TS:Nat->GS->Prop
 |0,_=>False
 |d+1,.mk op to e thn els nm kd ad ag=>
  (op=1/\TX 5 to/\(to.op=2/\(to.ad,to.kd)∈Nh\/to.op=3)/\TX 6 e/\e.kd=to.kd/\thn=[]/\els=[])\/
  ((op=2\/op=3)/\TX 5 e/\e.kd=1/\thn.length<=5/\els.length<=5/\(∀s∈thn,TS d s)/\∀s∈els,TS d s)\/
  (op=4/\Nl kd ad (ag.map GX.kd)/\(∀a∈ag,TX 5 a)/\thn=[]/\els=[])
def LK (x y:GS):Prop:=match x,y with
 | .mk op to ..,.mk op' to' .. =>op=1->op'=1/\NT to to'
def RT (d:Nat) (x:GS):Nat->List AV->Prop:=λ_ ws=>∃(y:GS) (e:Int),ws=DQ y++[.int .i64 e]/\(e=0->TS d y/\LK x y)
def ZL (l y:List GS):Prop:=∀(j:Nat) (h1:j<l.length) (h2:j<y.length),LK l[j] y[j]
def RU (d:Nat) (l:List GS):Nat->List AV->Prop:=λ_ ws=>∃(y:List GS) (e:Int),ws=[CK y,.int .i64 e]/\(e=0->y.length=l.length/\(∀s∈y,TS d s)/\ZL l y)
def DV {d j:Nat} {x y:GS} {e:Int} {hv:List AV} {Y:Sy} {L:List (Nat->List AV->Prop)} (h:An Y.v hv=DQ y++[.int .i64 e]) (hw:e=0->TS d y/\LK x y):AC Tryz.prog (QF (RT d x)) L Y (.done (.tup (.int .i64 (.ofNat j)::hv))):=
 Ai (by rw [h];exact jV y e) ⟨y,e,h,hw⟩
def Rq (x:GX):Ak (VARS::x_ x)=true:=by rw [CA];exact Cw x
def Wt (x:GS):Ak (VARS::DQ x)=true:=by rw [CA];exact JL x
def rb (d:Nat) (to e:GX) (thn els:List GS) (nm:List UInt8) (kd ad:Int) (ag:List GX) (ht:WX 5 to) (ho:to.op=2\/to.op=3) (he:WX 6 e) (AE:thn=[]/\els=[]):
  Bl 147 ZQ (VARS::DQ (.mk 1 to e thn els nm kd ad ag)) (RT (d+1) (.mk 1 to e thn els nm kd ad ag)):=by
 have h1:=Oa 5 to ht;have h2:=Oa 6 e he;obtain ⟨to1,to2,to3,to4,to5,to6,to7,to8,to9,to10⟩:=to;obtain ⟨e1,e2,e3,e4,e5,e6,e7,e8,e9,e10⟩:=e;refine B3 sI dB rfl rfl (by kernel_rfl) λY hf hg=>?_;unfold dB;refine a_ h2 rfl (Rq _) ⟨?_,trivial⟩;rintro ws ⟨⟨y1,y2,y3,y4,y5,y6,y7,y8,y9,y10⟩,er,rfl,hy⟩
 (refine b_ rfl rfl ?_ ?_<;>intro h<;>try omega)
 ·(exact DV (y:=.mk _ (.mk ..) (.mk ..) _ _ _ _ _ _) rfl (λhe=>absurd he (by first|assumption|decide)))
 have hy:=(hy h).1;refine a_ h1 rfl (Rq _) ⟨?_,trivial⟩;rintro ws ⟨⟨z1,z2,z3,z4,z5,z6,z7,z8,z9,z10⟩,er2,rfl,hz⟩
 (refine b_ rfl rfl ?_ ?_<;>intro h<;>try omega)
 ·(exact DV (y:=.mk _ (.mk ..) (.mk ..) _ _ _ _ _ _) rfl (λhe=>absurd he (by first|assumption|decide)))
 have hz:=hz h;obtain ⟨s,r,k,z,a,b,c,d',e',f,g,hp,hro⟩:=pW (nm:=to3) (fd:=to4) (by
  have ht':pp to1 to2 to3 to4 to7 to8 to9:=ht.2.2.1;rcases ho with ho|ho;exact .inl (ht'.2.1 ho)
  .exact .inr (ht'.2.2.1 ho))
 refine Aq hp rfl rfl ?_;refine Aa (xu ..) rfl (Ax rfl (λh=>?_) (λhfd=>?_))
 ·(exact DV (y:=.mk _ (.mk ..) (.mk ..) _ _ _ _ _ _) rfl (λhe=>absurd he (by first|assumption|decide)))
 (refine b_ rfl rfl ?_ ?_<;>intro h<;>try omega)
 ·(exact DV (y:=.mk _ (.mk ..) (.mk ..) _ _ _ _ _ _) rfl (λhe=>absurd he (by first|assumption|decide)))
 have hr1:=h;obtain ⟨⟨yo1,yk1,ynm1,yfd1,yad1,yn1,yvk1,yvi1,yvf1,ya1⟩,hp1,hy1⟩:=QT _ z2 hy;refine Aq hp1 rfl (RR _) ?_
 (refine b_ rfl rfl ?_ ?_<;>intro h<;>try omega)
 ·(exact DV (y:=.mk _ (.mk ..) (.mk ..) _ _ _ _ _ _) rfl (λhe=>absurd he (by first|assumption|decide)))
 rcases ho with ho|ho;exact DV (y:=.mk 1 (.mk ..) (.mk ..) _ _ _ _ _ _) rfl (λ_=>⟨.inl ⟨rfl,hz.1,.inl ⟨hz.2.1.trans ho,MQ _ (hz.2.2 ho) _ hro (by simpa using hfd) rfl hr1⟩,hy1,h,AE⟩,λ_=>⟨rfl,hz.2.2⟩⟩);exact DV (y:=.mk 1 (.mk ..) (.mk ..) _ _ _ _ _ _) rfl (λ_=>⟨.inl ⟨rfl,hz.1,.inr (hz.2.1.trans ho),hy1,h,AE⟩,λ_=>⟨rfl,hz.2.2⟩⟩)
def Tl {d:Nat} {acc:List GX} {y:GX} (h:∀a∈acc,TX d a) (hy:TX d y):∀a∈acc++[y],TX d a:=λa ha=>by rcases List.mem_append.1 ha with ha|ha;exact h a ha;cases List.mem_singleton.1 ha;exact hy
def zZ (d:Nat) (to e:GX) (thn els:List GS) (nm:List UInt8) (kd ad:Int) (ag:List GX) (hn:nm=[116,109]\/nm=[99]\/nm=[101]) (hl:ag.length<=2) (hW:∀a∈ag,WX 5 a) (AE:thn=[]/\els=[]):
  Bl 148 Xw (VARS::DQ (.mk 4 to e thn els nm kd ad ag)) (RT (d+1) (.mk 4 to e thn els nm kd ad ag)):=by
 obtain ⟨to1,to2,to3,to4,to5,to6,to7,to8,to9,to10⟩:=to;obtain ⟨e1,e2,e3,e4,e5,e6,e7,e8,e9,e10⟩:=e;refine B3 vr je rfl rfl (by kernel_rfl) λY hf hg=>?_;unfold je;rcases hn with rfl|rfl|rfl
 case' inl=>
  refine Aq S0 rfl rfl (Aa rfl rfl (Ax rfl (λh=>by cases h) (λ_=>Aq mu rfl rfl ?_)))
  (refine b_ rfl rfl ?_ ?_<;>intro h<;>try omega);(refine b_ rfl rfl ?_ ?_<;>intro h<;>try omega);(refine b_ rfl rfl ?_ ?_<;>intro h<;>try omega);(refine b_ rfl rfl ?_ ?_<;>intro h<;>try omega);(refine b_ rfl rfl ?_ ?_<;>intro h<;>try omega)
  obtain ⟨kk,hkk⟩:∃kk:Int,kk=4:=⟨_,rfl⟩
 case' inr.inl=>
  refine Aq aT rfl rfl (Aa rfl rfl (Ax rfl (λh=>by cases h) (λ_=>Aq jF rfl rfl ?_)));repeat (refine b_ rfl rfl ?_ ?_<;>intro h<;>try omega)
  obtain ⟨kk,hkk⟩:∃kk:Int,kk=2:=⟨_,rfl⟩
 case inr.inr=>
  refine Aq vM rfl rfl (Aa rfl rfl (Ax rfl (λh=>by cases h) (λ_=>Aq yh rfl rfl ?_)));repeat (refine b_ rfl rfl ?_ ?_<;>intro h<;>try omega)
  (
   refine Dv (ι:=List GX×Nat) (λs=>[(.vsl 1 1 [.int .i64 1]),De s.1,.int .i64 (s.2:Int)]) (λs=>s.1.length=s.2/\s.2<=ag.length/\∀a∈s.1,TX 5 a) (λs=>ag.length-s.2) ([],0) ⟨rfl,zb' _,λa ha=>(za' ha).elim⟩ (by first|rfl|(rw [hkk];rfl)) (λs _=>by simp only [Ak,okC,Eg]) (λs s' _ _ h=>by simp at h;omega) (λs hs=>?_);obtain ⟨acc,i⟩:=s;obtain ⟨h1,h2,h3⟩:=hs;simp only at h1 h2 h3⊢;refine Aa (U_ ag) rfl ?_
   (refine b_ rfl rfl ?_ ?_<;>intro h<;>try omega)
   .have hi:i<ag.length:=(by omega);have hld:=MF ag hi;have hz:=Oa 5 ag[i] (hW _ (zc' hi));rcases hzz:ag[i]with ⟨zo,zk,znm,zfd,zad,zn,zvk,zvi,zvf,za⟩;rw [hzz]at hld hz;refine Aa (ME ag hi) (A9 Cw _) (BV hld rfl (Cw _) ?_);refine a_ hz rfl (Rq _) ⟨?_,trivial⟩;rintro ws ⟨⟨yo,yk,ynm,yfd,yad,yn,yvk,yvi,yvf,ya⟩,e,rfl,hy⟩
    (refine b_ rfl rfl ?_ ?_<;>intro h<;>try omega)
    ·(exact DV (y:=.mk _ (.mk ..) (.mk ..) _ _ _ _ _ _) rfl (λhe=>absurd he (by first|assumption|decide)))
    have hy:=(hy h).1;refine Aa (r:=.int .i64 1) rfl rfl ?_
    (refine b_ rfl rfl ?_ ?_<;>intro h<;>try omega)
    all_goals first
     |(have hi2:i=0\/i=1:=by omega
       rcases hi2 with rfl|rfl;all_goals try (exfalso;omega)
       all_goals
        refine Aa rfl rfl (Aa rfl rfl ?_);obtain ⟨⟨yo1,yk1,ynm1,yfd1,yad1,yn1,yvk1,yvi1,yvf1,ya1⟩,hp1,hy1⟩:=QT _ _ hy;refine Aq hp1 rfl (RR _) ?_;refine Aa (N7 acc (.mk yo1 yk1 ynm1 yfd1 yad1 yn1 yvk1 yvi1 yvf1 ya1) (by omega)) (Eg _) (Aa (o_ (by omega) (by omega)) rfl (Cb rfl ⟨(acc++[_],_),⟨by rw [List.length_append,h1];rfl,hi,Tl h3 hy1⟩,rfl,by simp only;omega⟩)))
     |exact Aa (N7 acc (.mk yo yk ynm yfd yad yn yvk yvi yvf ya) (by omega)) (Eg _) (Aa (o_ (by omega) (by omega)) rfl (Cb rfl ⟨(acc++[_],i+1),⟨by rw [List.length_append,h1];rfl,hi,Tl h3 hy⟩,rfl,by simp only;omega⟩))
   have hi:i=ag.length:=(by omega);subst hi;refine Aa (U_ acc) rfl (Aa (r:=.int .i64 1) rfl rfl ?_))
  (refine b_ rfl rfl ?_ ?_<;>intro h<;>try omega)
  ·(exact DV (y:=.mk _ (.mk ..) (.mk ..) _ _ _ _ _ _) rfl (λhe=>absurd he (by first|assumption|decide)))
  have ha:acc.length=1:=(by have h':(acc.length:Int)=1:=h;omega);obtain ⟨y,rfl⟩:=List.length_eq_one_iff.1 ha;obtain ⟨y1,y2,y3,y4,y5,y6,y7,y8,y9,y10⟩:=y;refine Dv (ι:=Nat) (λi=>[.int .i64 (i:Int),.vsl 1 1 [.int .i64 1],De [.mk y1 y2 y3 y4 y5 y6 y7 y8 y9 y10]]) (λi=>i<=1/\(1<=i->y2=1)) (λi=>1-i) 0 ⟨by decide,λh=>by omega⟩ rfl (λs _=>by simp only [Ak,okC,Eg]) (λs s' _ _ h=>by simp at h;omega) (λi hi=>?_);obtain ⟨i1,i2⟩:=hi;refine Aa (r:=.int .i64 1) rfl rfl ?_
  (refine b_ rfl rfl ?_ ?_<;>intro h<;>try omega)
  .have hi2:i=0:=(by omega);subst hi2;refine Aa (r:=.int .i64 0) rfl rfl (Aa (r:=.int .i64 y2) rfl rfl (Aa (r:=.int .i64 0) rfl rfl (Aa (r:=.int .i64 1) rfl rfl ?_)))
   (refine b_ rfl rfl ?_ ?_<;>intro h<;>try omega)
   ·(exact DV (y:=.mk _ (.mk ..) (.mk ..) _ _ _ _ _ _) rfl (λhe=>absurd he (by first|assumption|decide)))
   exact Aa (o_ (by omega) (by omega)) rfl (Cb rfl ⟨1,⟨by decide,λ_=>h⟩,rfl,by decide⟩)
  refine DV (y:=.mk 4 (.mk ..) (.mk ..) _ _ _ _ _ [.mk ..]) rfl (λ_=>⟨.inr (.inr ⟨rfl,?_,h3,AE⟩),λh=>by omega⟩);cases i2 (by omega);exact .inr (.inr ⟨rfl,rfl,rfl⟩)
 all_goals
  (
   refine Dv (ι:=List GX×Nat) (λs=>[(.vsl 2 1 [.int .i64 1,.int .i64 kk]),De s.1,.int .i64 (s.2:Int)]) (λs=>s.1.length=s.2/\s.2<=ag.length/\∀a∈s.1,TX 5 a) (λs=>ag.length-s.2) ([],0) ⟨rfl,zb' _,λa ha=>(za' ha).elim⟩ (by first|rfl|(rw [hkk];rfl)) (λs _=>by simp only [Ak,okC,Eg]) (λs s' _ _ h=>by simp at h;omega) (λs hs=>?_);obtain ⟨acc,i⟩:=s;obtain ⟨h1,h2,h3⟩:=hs;simp only at h1 h2 h3⊢;refine Aa (U_ ag) rfl ?_
   (refine b_ rfl rfl ?_ ?_<;>intro h<;>try omega)
   .have hi:i<ag.length:=(by omega);have hld:=MF ag hi;have hz:=Oa 5 ag[i] (hW _ (zc' hi));rcases hzz:ag[i]with ⟨zo,zk,znm,zfd,zad,zn,zvk,zvi,zvf,za⟩;rw [hzz]at hld hz;refine Aa (ME ag hi) (A9 Cw _) (BV hld rfl (Cw _) ?_);refine a_ hz rfl (Rq _) ⟨?_,trivial⟩;rintro ws ⟨⟨yo,yk,ynm,yfd,yad,yn,yvk,yvi,yvf,ya⟩,e,rfl,hy⟩
    (refine b_ rfl rfl ?_ ?_<;>intro h<;>try omega)
    ·(exact DV (y:=.mk _ (.mk ..) (.mk ..) _ _ _ _ _ _) rfl (λhe=>absurd he (by first|assumption|decide)))
    have hy:=(hy h).1;refine Aa (r:=.int .i64 2) rfl rfl ?_
    (refine b_ rfl rfl ?_ ?_<;>intro h<;>try omega)
    all_goals first
     |(have hi2:i=0\/i=1:=by omega
       rcases hi2 with rfl|rfl;all_goals try (exfalso;omega)
       all_goals
        refine Aa rfl rfl (Aa rfl rfl ?_);obtain ⟨⟨yo1,yk1,ynm1,yfd1,yad1,yn1,yvk1,yvi1,yvf1,ya1⟩,hp1,hy1⟩:=QT _ _ hy;refine Aq hp1 rfl (RR _) ?_;refine Aa (N7 acc (.mk yo1 yk1 ynm1 yfd1 yad1 yn1 yvk1 yvi1 yvf1 ya1) (by omega)) (Eg _) (Aa (o_ (by omega) (by omega)) rfl (Cb rfl ⟨(acc++[_],_),⟨by rw [List.length_append,h1];rfl,hi,Tl h3 hy1⟩,rfl,by simp only;omega⟩)))
     |exact Aa (N7 acc (.mk yo yk ynm yfd yad yn yvk yvi yvf ya) (by omega)) (Eg _) (Aa (o_ (by omega) (by omega)) rfl (Cb rfl ⟨(acc++[_],i+1),⟨by rw [List.length_append,h1];rfl,hi,Tl h3 hy⟩,rfl,by simp only;omega⟩))
   have hi:i=ag.length:=(by omega);subst hi;refine Aa (U_ acc) rfl (Aa (r:=.int .i64 2) rfl rfl ?_))
  (refine b_ rfl rfl ?_ ?_<;>intro h<;>try omega)
  ·(exact DV (y:=.mk _ (.mk ..) (.mk ..) _ _ _ _ _ _) rfl (λhe=>absurd he (by first|assumption|decide)))
  have ha:acc.length=2:=(by have h':(acc.length:Int)=2:=h;omega);obtain ⟨y,z,rfl⟩:∃y z,acc=[y,z]:=by
   rcases acc with _|⟨y,_|⟨z,_|⟨w,t⟩⟩⟩<;>simp at ha
   exact ⟨y,z,rfl⟩
  obtain ⟨y1,y2,y3,y4,y5,y6,y7,y8,y9,y10⟩:=y;obtain ⟨z1,z2,z3,z4,z5,z6,z7,z8,z9,z10⟩:=z;refine Dv (ι:=Nat) (λi=>[.int .i64 (i:Int),.vsl 2 1 [.int .i64 1,.int .i64 kk],De [.mk y1 y2 y3 y4 y5 y6 y7 y8 y9 y10,.mk z1 z2 z3 z4 z5 z6 z7 z8 z9 z10]]) (λi=>i<=2/\(1<=i->y2=1)/\(2<=i->z2=kk)) (λi=>2-i) 0 ⟨by decide,λh=>by omega,λh=>by omega⟩ rfl (λs _=>by simp only [Ak,okC,Eg]) (λs s' _ _ h=>by simp at h;omega) (λi hi=>?_);obtain ⟨i1,i2,i3⟩:=hi;refine Aa (r:=.int .i64 2) rfl rfl ?_
  (refine b_ rfl rfl ?_ ?_<;>intro h<;>try omega)
  .have hi2:i=0\/i=1:=(by omega);rcases hi2 with rfl|rfl
   .refine Aa (r:=.int .i64 0) rfl rfl (Aa (r:=.int .i64 y2) rfl rfl (Aa (r:=.int .i64 0) rfl rfl (Aa (r:=.int .i64 1) rfl rfl ?_)))
    (refine b_ rfl rfl ?_ ?_<;>intro h<;>try omega)
    ·(exact DV (y:=.mk _ (.mk ..) (.mk ..) _ _ _ _ _ _) rfl (λhe=>absurd he (by first|assumption|decide)))
    exact Aa (o_ (by omega) (by omega)) rfl (Cb rfl ⟨1,⟨by decide,λ_=>h,λh=>by omega⟩,rfl,by decide⟩)
   .refine Aa (r:=.int .i64 1) rfl rfl (Aa (r:=.int .i64 z2) rfl rfl (Aa (r:=.int .i64 1) rfl rfl (Aa (r:=.int .i64 kk) rfl rfl ?_)))
    (refine b_ rfl rfl ?_ ?_<;>intro h<;>try omega)
    ·(exact DV (y:=.mk _ (.mk ..) (.mk ..) _ _ _ _ _ _) rfl (λhe=>absurd he (by first|assumption|decide)))
    exact Aa (o_ (by omega) (by omega)) rfl (Cb rfl ⟨2,⟨by decide,λ_=>i2 (by decide),λ_=>h⟩,rfl,by decide⟩)
  .refine DV (y:=.mk 4 (.mk ..) (.mk ..) _ _ _ _ _ [.mk ..,.mk ..]) rfl (λ_=>⟨.inr (.inr ⟨rfl,?_,h3,AE⟩),λh=>by omega⟩);cases i2 (by omega);subst hkk;cases i3 (by omega);first|exact .inl ⟨rfl,rfl,rfl⟩|exact .inr (.inl ⟨rfl,rfl,rfl⟩)
def Xl (l:List GS):(XOp.len 25).run Tryz.prog [CK l]=some (.int .i64 (l.length:Int)):=by rw [Sm];exact SA Tryz.underlying25 l
def ci (l:List GS) {i:Nat} (h:i<l.length):(XOp.iaddr 25).run Tryz.prog [CK l,.int .i64 (i:Int)]=some (.vptr (Ay DQ (l.drop i))):=by rw [Sm];exact Bw (e:=110) (ti:=(Tryz.prog.info? 110).get!) Tryz.underlying25 (by kernel_rfl) (by kernel_rfl) XK h .i64
def js (l:List GS) {i:Nat} (h:i<l.length):(XOp.load 110).run Tryz.prog [.vptr (Ay DQ (l.drop i))]=some (.agg (DQ l[i])):=
 Bz (ti:=(Tryz.prog.info? 110).get!) Tryz.underlying110 rfl (by kernel_rfl) (by kernel_rfl) XK h
def PT (d:Nat):Prop:=∀x:GS,WS d x->Bl 97 HC (VARS::DQ x) (RT d x)
def gq (d:Nat) (hT:PT d) (l:List GS) (hl:l.length<=5) (hW:∀s∈l,WS d s):Bl 54 GF [VARS,CK l] (RU d l):=by
 refine B3 uD kp rfl rfl (by kernel_rfl) λY hf hg=>?_;unfold kp;refine Dv (ι:=List GS×Nat) (λs=>[CK s.1,.int .i64 (s.2:Int)]) (λs=>s.1.length=s.2/\s.2<=l.length/\(∀a∈s.1,TS d a)/\ZL l s.1) (λs=>l.length-s.2) ([],0) ⟨rfl,zb' _,λa ha=>(za' ha).elim,λj _ h=>absurd h (Nat.not_lt_zero j)⟩ rfl (λs _=>by simp only [Ak,okC,ES]) (λs s' _ _ h=>by simp at h;omega) (λs hs=>?_);obtain ⟨acc,i⟩:=s;obtain ⟨h1,h2,h3,h5⟩:=hs;simp only at h1 h2 h3 h5⊢;refine Aa (Xl l) rfl ?_
 (refine b_ rfl rfl ?_ ?_<;>intro h<;>try omega)
 .have hi:i<l.length:=(by omega);have hld:=js l hi;have hz:=hT l[i] (hW _ (zc' hi));rcases hzz:l[i]with ⟨op,⟨to1,to2,to3,to4,to5,to6,to7,to8,to9,to10⟩,⟨e1,e2,e3,e4,e5,e6,e7,e8,e9,e10⟩,thn,els,nm,kd,ad,ag⟩;rw [hzz]at hld hz;refine Aa (ci l hi) (A9 JL _) (BV hld rfl (JL _) ?_);refine a_ hz rfl (Wt _) ⟨?_,trivial⟩;rintro ws ⟨⟨op',⟨so1,so2,so3,so4,so5,so6,so7,so8,so9,so10⟩,⟨f1,f2,f3,f4,f5,f6,f7,f8,f9,f10⟩,thn',els',nm',kd',ad',args'⟩,e,rfl,hy⟩
  (refine b_ rfl rfl ?_ ?_<;>intro h<;>try omega)
  exact Ai rfl ⟨[],e,rfl,λhe=>absurd he h⟩;rename_i hh;refine Aa (SQ acc (.mk op' (.mk so1 so2 so3 so4 so5 so6 so7 so8 so9 so10) (.mk f1 f2 f3 f4 f5 f6 f7 f8 f9 f10) thn' els' nm' kd' ad' args') (by omega)) (ES _) (Aa (o_ (by omega) (by omega)) rfl (Cb rfl ⟨(acc++[_],i+1),⟨by rw [List.length_append,h1];rfl,hi,?_,?_⟩,rfl,by simp only;omega⟩));intro a ha;rcases List.mem_append.1 ha with ha|ha;exact h3 a ha;cases List.mem_singleton.1 ha;exact (hy (by assumption)).1;intro j g1 g2;by_cases e:j<acc.length;rw [List.getElem_append_left e];exact h5 j g1 e;have e:j=acc.length:=(by rw [List.length_append,List.length_singleton]at g2;omega);have e2:j=i:=(by omega);subst e2;rw [List.getElem_append_right (by omega)];simp only [hzz];have:∀(k:Nat) (h:k<1),k=0:=λk h=>(by omega);simp only [e,Nat.sub_self,List.getElem_singleton];exact (hy (by assumption)).2
 exact Ai (by show Ak [CK acc,.int .i64 0]=true;simp only [Ak,okC,ES]) ⟨acc,0,rfl,λ_=>⟨by omega,h3,h5⟩⟩
def Vx (l:List GS):Ak [VARS,CK l]=true:=by rw [CA];simp only [Ak,okC,ES];rfl
def i7:∀d:Nat,PT d
 |0,_,h=>h.elim
 |d+1,.mk op to e thn els nm kd ad ag,hx=>by
  have ih:=gq d (i7 d);have h1:op=1->_:=λh=>rb d to e thn els nm kd ad ag;have h4:=zZ d to e thn els nm kd ad ag;have h2:=Oa 5 e;obtain ⟨to1,to2,to3,to4,to5,to6,to7,to8,to9,to10⟩:=to;obtain ⟨e1,e2,e3,e4,e5,e6,e7,e8,e9,e10⟩:=e;refine B3 qL ki rfl rfl (by kernel_rfl) λY hf hg=>?_;unfold ki;rcases hx with ⟨rfl,a1,a2,a3,a4⟩|⟨ho,b1,b2,b3,b4,b5⟩|⟨rfl,a1,a2,a3,a4⟩
  ·(refine b_ rfl rfl ?_ ?_<;>intro h<;>try omega)
   refine a_ (h1 rfl a1 a2 a3 a4) rfl (Wt _) ⟨?_,trivial⟩;rintro ws ⟨⟨op',⟨so1,so2,so3,so4,so5,so6,so7,so8,so9,so10⟩,⟨f1,f2,f3,f4,f5,f6,f7,f8,f9,f10⟩,thn',els',nm',kd',ad',args'⟩,e,rfl,hy⟩;exact DV (y:=.mk _ (.mk ..) (.mk ..) _ _ _ _ _ _) rfl hy
  ·(refine b_ rfl rfl ?_ ?_<;>intro h<;>try omega);(refine b_ rfl rfl ?_ ?_<;>intro h<;>try omega)
   refine a_ (h2 b1) rfl (Rq _) ⟨?_,trivial⟩;rintro ws ⟨⟨y1,y2,y3,y4,y5,y6,y7,y8,y9,y10⟩,er,rfl,hy⟩
   (refine b_ rfl rfl ?_ ?_<;>intro h<;>try omega)
   ·(exact DV (y:=.mk _ (.mk ..) (.mk ..) _ _ _ _ _ _) rfl (λhe=>absurd he (by first|assumption|decide)))
   have hy:=(hy h).1
   (refine b_ rfl rfl ?_ ?_<;>intro h<;>try omega)
   ·(exact DV (y:=.mk _ (.mk ..) (.mk ..) _ _ _ _ _ _) rfl (λhe=>absurd he (by first|assumption|decide)))
   have hk:=h;refine a_ (ih thn b2 b4) rfl (Vx _) ⟨?_,trivial⟩;rintro ws ⟨thn',er1,rfl,ht⟩
   (refine b_ rfl rfl ?_ ?_<;>intro h<;>try omega)
   ·(exact DV (y:=.mk _ (.mk ..) (.mk ..) _ _ _ _ _ _) rfl (λhe=>absurd he (by first|assumption|decide)))
   have ht:=ht h;refine a_ (ih els b3 b5) rfl (Vx _) ⟨?_,trivial⟩;rintro ws ⟨els',er2,rfl,hs⟩;refine DV (y:=.mk _ (.mk ..) (.mk ..) _ _ _ _ _ _) rfl (λh0=>⟨.inr (.inl ⟨ho,hy,hk,by rw [ht.1];exact b2,by rw [(hs h0).1];exact b3,ht.2.1,(hs h0).2.1⟩),λh=>by omega⟩)
  ·(refine b_ rfl rfl ?_ ?_<;>intro h<;>try omega);(refine b_ rfl rfl ?_ ?_<;>intro h<;>try omega)
   refine a_ (h4 a1 a2 a3 a4) rfl (Wt _) ⟨?_,trivial⟩;rintro ws ⟨⟨op',⟨so1,so2,so3,so4,so5,so6,so7,so8,so9,so10⟩,⟨f1,f2,f3,f4,f5,f6,f7,f8,f9,f10⟩,thn',els',nm',kd',ad',args'⟩,e,rfl,hy⟩;exact DV (y:=.mk _ (.mk ..) (.mk ..) _ _ _ _ _ _) rfl hy
def pJ:VC:=⟨⟨[],[]⟩,[(45,[none])],[],1,true,[(55,E7)]⟩
def cF:VT:=.call 45 [] 66 [none]<|Cf 55 E7 [64,65,J 5,J 2] 67 2<|Dn [66,71,72]
def L3:VC:=⟨⟨[],[]⟩,[],[],0,true,[]⟩
def Fk:VT:=Dn []
def si:VC:=⟨⟨[],[]⟩,[(33,[none])],[],0,true,[(54,GF)]⟩
def IE:VT:=.call 33 [64] 66 [none]<|It Q7 [66,J 0] 67 (Dn [.nsl,.nsl,66])<|Cf 54 GF [64,65] 68 2<|It Q7 [71,J 0] 72 (Dn [.nsl,.nsl,71])<|Li (.app 10 88) [.vsl 0 10 [],64] 73<|Dn [73,70,J 0]
def c8:VC:=⟨⟨[],[]⟩,[],[],0,true,[(17,LD),(24,LI),(23,MK)]⟩
def t8:VT:=Cf 17 LD [64] 65 0<|Cf 24 LI [64,J 0] 66 3<|Cf 23 MK [68,69] 71 3<|Li Z3 [75,J 0] 76<|Dn [73,74,76]
def rO (l:List UInt8):Nat->List AV->Prop:=λ_ ws=>∃(b:List GS) (n:Nat),ws=[VARS,CK b,.int .i64 (n:Int)]/\b.length<=5/\∀s∈b,WS 3 s
def qZ {l:List UInt8} {a:AV} (hp:Pk l a):Bl 24 LI [a,.int .i64 0] (rO l):=by have hA:=hp.1.ok Jm;refine B3 pJ cF rfl rfl (by kernel_rfl) λY hf hg=>?_;unfold cF;refine Aq rJ rfl rfl ?_;refine a_ ((pS hp 2 (by decide)).2 0 5 (zb' _) (by decide) (by decide)) rfl (Pp hA) ⟨?_,trivial⟩;rintro ws ⟨b,n,rfl,⟨h1,h2⟩,h3⟩;exact Ai (by show Ak [VARS,CK b,.int .i64 (n:Int)]=true;rw [CA];simp only [Ak,okC,ES];rfl) ⟨b,n,rfl,h1,h2⟩
def uc (a:AV) (h:okC a=true):Bl 17 LD [a] (λ_ ws=>ws=[]):=by refine B3 L3 Fk rfl rfl (by kernel_rfl) λY hf hg=>?_;unfold Fk;exact Ai rfl rfl
def RC (l:List GS):Nat->List AV->Prop:=λ_ ws=>∃(v:AV) (b:List GS) (e:Int),ws=[v,CK b,.int .i64 e]/\okC v=true/\(e≠0->b=[])/\(e=0->v=VARS/\b.length=l.length/\(∀s∈b,TS 3 s)/\ZL l b)
def n8 {v:AV} (hv:okC v=true) (b:List GS) {x:AV} (hx:okC x=true):Ak [v,CK b,x]=true:=by simp only [Ak,hv,ES,hx]
def p23 (b:List GS) (hl:b.length<=5) (h:∀s∈b,WS 3 s):Bl 23 MK [VARS,CK b] (RC b):=by
 refine B3 si IE rfl rfl (by kernel_rfl) λY hf hg=>?_;unfold IE;refine Aq qt rfl rfl ?_
 (refine g_ rfl rfl ?_ ?_<;>intro h<;>simp only [nc]at h<;>try omega)
 refine a_ (gq 3 (i7 3) b hl (by assumption)) rfl (Vx _) ⟨?_,trivial⟩;rintro ws ⟨b',e,rfl,hb⟩
 (refine g_ rfl rfl ?_ ?_<;>intro h<;>simp only [nc]at h<;>try omega)
 exact Ai rfl ⟨.nsl,[],e,rfl,rfl,λ_=>rfl,λhe=>absurd he (by assumption)⟩;have hb:=hb (by assumption);refine Aa (r:=VARS) rfl rfl (Ai (n8 (v:=VARS) rfl b' (x:=.int .i64 0) rfl) ⟨VARS,b',0,rfl,rfl,λhe=>absurd rfl he,λ_=>⟨rfl,hb⟩⟩)
def R7:Nat->List AV->Prop:=λ_ ws=>∃(v:AV) (b:List GS) (e:Bool),ws=[v,CK b,.bool e]/\okC v=true/\(e=false->b=[])/\(e=true->v=VARS/\b.length<=5/\∀s∈b,TS 3 s)
def p8 {l:List UInt8} {a:AV} (hp:Pk l a):Bl 8 WU [a] R7:=by have hA:=hp.1.ok Jm;refine B3 c8 t8 rfl rfl (by kernel_rfl) λY hf hg=>?_;unfold t8;refine a_ (uc a hA) rfl (by simp only [Ak,hA]) ⟨?_,trivial⟩;rintro ws rfl;refine a_ (qZ hp) rfl (by simp only [Ak,hA,okC]) ⟨?_,trivial⟩;rintro ws ⟨b,n,rfl,h1,h2⟩;refine a_ (p23 b h1 h2) rfl (Vx _) ⟨?_,trivial⟩;rintro ws ⟨v,b',e,rfl,hv,h0,hb⟩;refine Aa (Am ..) rfl (Ai (n8 hv b' (x:=.bool _) rfl) ⟨v,b',decide (e=0),rfl,hv,λhe=>h0 (by simpa using he),λhe=>by obtain ⟨q1,q2,q3,_⟩:=hb (AU he);exact ⟨q1,by omega,q3⟩⟩)
structure GI where
 op:Int
 kd:Int
 ad:Int
 n:Int
 vk:Int
 vi:Int
 vf:Nat
def k_ (i:GI):List AV:=[.int .i64 i.op,.int .i64 i.kd,.int .i64 i.ad,.int .i64 i.n,.int .i64 i.vk,.int .i64 i.vi,.flt .f64 i.vf]
def Jj (i:GI):(k_ i).length=7:=rfl
theorem BM (i:GI):Ak (k_ i)=true:=rfl
abbrev h_ (l:List GI):AV:=Cv k_ 7 l
theorem okI (l:List GI):okC (h_ l)=true:=Uo BM l
def n_ (op kd ad n:Int):GI:=⟨op,kd,ad,n,0,0,0⟩
def EI:List GX->Int
 |[]=>0
 |a::_=>a.kd
def N_ (op kd ad n vk vi:Int) (vf:Nat) (ag:List GX):GI:=
 if op=1 then ⟨1,vk,0,0,vk,vi,vf⟩else if op=2 then n_ 2 0 ad 0 else if op=3 then n_ 3 0 ad n else if op=17 then n_ 17 kd 0 (EI ag)else n_ op (EI ag) 0 0
mutual
def l_:GX->List GI
 | .mk op kd nm fd ad n vk vi vf ag=>s_ ag++[N_ op kd ad n vk vi vf ag]
def s_:List GX->List GI
 |[]=>[]
 |a::r=>l_ a++s_ r
end
theorem PF:∀a b:List GX,s_ (a++b)=s_ a++s_ b
 |[],b=>rfl
 |x::a,b=>by simp only [Bg,s_,PF a b,Bo]
def Xi {d:Nat} {M:Nat}:∀{l:List GX},(∀x∈l,(l_ x).length<=M)->(s_ l).length<=l.length*M
 |[],_=>by simp [s_]
 |a::r,h=>by have h1:=h a (ze' ..);have h2:=Xi (d:=d) (M:=M) (l:=r) λx hx=>h x (zf' _ hx);simp only [s_,Az,List.length_cons,Nat.add_mul,Nat.one_mul];omega
def TW:∀{d:Nat} {x:GX},TX d x->(l_ x).length+1<=2^d
 |0,_,h=>h.elim
 |d+1,.mk op kd nm fd ad n vk vi vf ag,⟨h1,_,_,_,_,h6⟩=>by have hl:ag.length<=2:=(by unfold Dq at h1;omega);have hp:1<=2^d:=Nat.one_le_two_pow;have:=Xi (d:=d) (M:=2^d-1) (l:=ag) λx hx=>(by have:=TW (h6 x hx);omega);have h2:ag.length*(2^d-1)<=2*(2^d-1):=zd' _ hl;simp only [l_,Az,List.length_cons,AK,Nat.pow_succ];omega
def FQ:GX->List GI
 | .mk op _ _ _ ad n _ _ _ ag=>if op=3 then s_ ag++[n_ 19 0 ad n]else [n_ 18 0 ad 0]
mutual
def D_:Nat->GS->List GI
 |b,.mk op to e thn els nm kd ad ag=>
  if op=1 then l_ e++FQ to
  else if op=2 then
   let c:=l_ e
   let t:=i_ (b+c.length+1) thn
   if els=[]then c++[n_ 21 0 ((b+c.length+1+t.length:Nat):Int) 0]++t
   else
    let q:=i_ (b+c.length+1+t.length+1) els
    c++[n_ 21 0 ((b+c.length+1+t.length+1:Nat):Int) 0]++t++[n_ 20 0 ((b+c.length+1+t.length+1+q.length:Nat):Int) 0]++q
  else if op=3 then
   let c:=l_ e
   let t:=i_ (b+c.length+1) thn
   c++[n_ 21 0 ((b+c.length+1+t.length+1:Nat):Int) 0]++t++[n_ 20 0 (b:Int) 0]
  else s_ ag++[n_ 22 kd ad (ag.length:Int)]
def i_:Nat->List GS->List GI
 |_,[]=>[]
 |b,s::r=>D_ b s++i_ (b+(D_ b s).length) r
end
def q_ (x:List GS):List GI:=i_ 0 x++[n_ 23 0 0 0]
def pl (x:List GS):AV:=if (q_ x).length<=400 then h_ (q_ x)else .nsl
def pe (x:List GS):Int:=if (q_ x).length<=400 then 0 else 12
def O9 (x:List GS):AV:=.tup [pl x,.int .i64 (pe x)]
theorem kA (x:List GS):okC (pl x)=true:=by unfold pl;split;exact okI _;rfl
def ro (x:List GS):BS (O9 x)=true:=by have:=L6 (kA x);simp only [O9,BS,Gg,this]
def eB {x:GX} (h:TX 5 x):(l_ x).length<=31:=by have:=TW h;omega
def jk {l:List GX} (h:∀x∈l,TX 5 x):(s_ l).length<=l.length*31:=Xi (d:=0) λx hx=>eB (h x hx)
def ym {x:GX} (h:TX 5 x):(FQ x).length<=63:=by
 obtain ⟨op,kd,nm,fd,ad,n,vk,vi,vf,ag⟩:=x;have hal:ag.length<=2:=by have:=h.1;unfold Dq at this;omega
 have h2:(s_ ag).length<=ag.length*31:=jk λx hx=>Wn (by decide) (h.2.2.2.2.2 x hx);simp only [FQ];split;simp only [Az,List.length_cons,AK];omega;simp
def vQ {x:GX} (h:TX 6 x):(l_ x).length<=63:=by have:=TW h;omega
def GL:Nat->Nat
 |0=>0
 |d+1=>130+10*GL d
def VU {M:Nat}:∀{l:List GS} (b:Nat),(∀s∈l,∀b,(D_ b s).length<=M)->(i_ b l).length<=l.length*M
 |[],b,_=>by simp [i_]
 |a::r,b,h=>by have h1:=h a (ze' ..) b;have h2:=VU (M:=M) (l:=r) (b+(D_ b a).length) λx hx=>h x (zf' _ hx);simp only [i_,Az,List.length_cons,Nat.add_mul,Nat.one_mul];omega
def lP:∀(d:Nat) (s:GS),TS d s->∀b,(D_ b s).length<=GL d
 |0,_,h,_=>h.elim
 |d+1,.mk op to e thn els nm kd ad ag,h,b=>by have ih:=lP d;simp only [D_,GL];rcases h with ⟨rfl,a1,a2,a3,a4,_⟩|⟨ho,b1,b2,b3,b4,b5,b6⟩|⟨rfl,c1,c2,_⟩;have h1:=vQ a3;have h2:=ym a1;simp only [Ad,Az];omega;have h1:=eB b1;have h2:∀b,(i_ b thn).length<=thn.length*GL d:=λb=>VU b λs hs=>ih s (b5 s hs);have h3:∀b,(i_ b els).length<=els.length*GL d:=λb=>VU b λs hs=>ih s (b6 s hs);have h4:thn.length*GL d<=5*GL d:=zd' _ b3;have h5:els.length*GL d<=5*GL d:=zd' _ b4;rcases ho with rfl|rfl;rw [Ab (by decide),Ad rfl];have q1:=h2 (b+(l_ e).length+1);have q2:=h3 (b+(l_ e).length+1+(i_ (b+(l_ e).length+1) thn).length+1);split;simp only [Az,List.length_cons,AK];omega;simp only [Az,List.length_cons,AK];omega;rw [Ab (by decide),Ab (by decide),Ad rfl];have q1:=h2 (b+(l_ e).length+1);simp only [Az,List.length_cons,AK];omega;have hal:ag.length<=2:=(by rcases c1 with ⟨_,_,c1⟩|⟨_,_,c1⟩|⟨_,_,c1⟩<;>(have:=congrArg List.length c1;simp at this;omega));have h1:=jk c2;rw [Ab (by decide),Ab (by decide),Ab (by decide)];simp only [Az,List.length_cons,AK];omega
def xB {l:List GS} (h5:l.length<=5) (h:∀s∈l,TS 3 s) (b:Nat):(i_ b l).length<=80000:=by have h1:(i_ b l).length<=l.length*GL 3:=VU b λs hs=>lP 3 s (h s hs);have h2:l.length*GL 3<=5*GL 3:=zd' _ h5;have h3:GL 3=14430:=rfl;omega
structure FV where
 k:Int
 i:Int
 f:Option Nat
def FV.z:FV:=⟨0,0,some 0⟩
def f_ (v:FV):List AV:=[.int .i64 v.k,.int .i64 v.i,fv v.f]
theorem Eh (v:FV):(f_ v).length=3:=rfl
def BI (v:FV):Ak (f_ v)=true:=by simp only [f_,Ak,okC,CY]
def DY (k i:Int):Prop:=(k=1/\0<=i/\i<=1)\/(k=2/\ -32768<=i/\i<=32767)\/(k=3/\ -2147483648<=i/\i<=2147483647)\/(k=4/\ -9223372036854775808<=i/\i<=9223372036854775807)\/(k=5/\i=0)
def TV (v:FV):Prop:=DY v.k v.i/\(v.k≠5->v.f=some 0)
def DY.i64 {k i:Int} (h:DY k i): -9223372036854775808<=i/\i<=9223372036854775807:=by rcases h with h|h|h|h|h<;>omega
def F_ (k i:Int):Int:=if k=1 then (if i=0 then 0 else 1)else if k=2 then IntKind.i16.wrap i else if k=3 then IntKind.i32.wrap i else if k=4 then i else 0
def Yn (i:Int): -32768<=IntKind.i16.wrap i/\IntKind.i16.wrap i<=32767:=by simp [IntKind.wrap,IntKind.bits,IntKind.signed];omega
def aG (i:Int): -2147483648<=IntKind.i32.wrap i/\IntKind.i32.wrap i<=2147483647:=by simp [IntKind.wrap,IntKind.bits,IntKind.signed];omega
def dH (i:Int): -9223372036854775808<=IntKind.i64.wrap i/\IntKind.i64.wrap i<=9223372036854775807:=by simp [IntKind.wrap,IntKind.bits,IntKind.signed];omega
theorem zU {i:Int} (h1: -32768<=i) (h2:i<=32767):IntKind.i16.wrap i=i:=by simp [IntKind.wrap,IntKind.bits,IntKind.signed];omega
theorem AT_ {i:Int} (h1: -2147483648<=i) (h2:i<=2147483647):IntKind.i32.wrap i=i:=by simp [IntKind.wrap,IntKind.bits,IntKind.signed];omega
def bW {k i:Int} (h1:1<=k) (h2:k<=4) (h3: -9223372036854775808<=i) (h4:i<=9223372036854775807):DY k (F_ k i):=by have a:=Yn i;have b:=aG i;unfold DY F_;rcases (by omega:k=1\/k=2\/k=3\/k=4)with rfl|rfl|rfl|rfl;simp only [if_true];split;exact .inl ⟨trivial,by decide,by decide⟩;exact .inl ⟨trivial,by decide,by decide⟩;exact .inr (.inl ⟨rfl,a⟩);exact .inr (.inr (.inl ⟨rfl,b⟩));exact .inr (.inr (.inr (.inl ⟨rfl,h3,h4⟩)))
def LU {k i:Int} (h:DY k i) (hk:k≠5):F_ k i=i:=by
 unfold F_;rcases h with ⟨rfl,h,h'⟩|⟨rfl,h,h'⟩|⟨rfl,h,h'⟩|⟨rfl,h,h'⟩|⟨rfl,h⟩
 .simp only [if_true];split<;>omega
 simp [zU h h'];simp [AT_ h h'];simp;exact absurd rfl hk
def tI (b:Bool):Int:=if b=true then 1 else 0
def FX (i:Int):Int:=IntKind.i64.wrap i
def Dk (op k a b:Int):Int:=
 if op=4 then F_ k (FX (a+b))else if op=5 then F_ k (FX (a-b))else if op=6 then F_ k (FX (a*b))else if op=7 then F_ k (FX (a.tdiv b))else if op=8 then F_ k (a.tmod b)
 else if op=9 then tI (decide (a=b))else if op=10 then tI (decide (¬a=b))else if op=11 then tI (decide (a<b))else if op=12 then tI (decide (a<=b))
 else if op=13 then tI (decide (¬a=0)&&decide (¬b=0))else if op=14 then tI (decide (¬a=0)||decide (¬b=0))else if op=15 then tI (decide (a=0))else F_ k (FX (0-a))
def CU (op b:Int):Int:=if (op=7\/op=8)/\b=0 then 5 else 0
def Do (op k:Int):Prop:=4<=op/\op<=16/\1<=k/\k<=5/\(op<=8\/op=16\/op=11\/op=12->k≠1)/\(op=8->k≠5)/\(13<=op/\op<=15->k=1)
def Ke (b:Bool):DY 1 (tI b):=by cases b;exact .inl ⟨rfl,by decide,by decide⟩;exact .inl ⟨rfl,by decide,by decide⟩
def eC {k a b:Int} (h:DY k a) (hk:k≠5) (hk1:k≠1):DY k (a.tmod b):=by
 have h1:(a.tmod b).natAbs<=a.natAbs:=by rw [Int.natAbs_tmod];exact Nat.mod_le _ _
 have h2:0<=a->0<=a.tmod b:=λh=>zg' _ h;have h3:¬(a<0/\0<a.tmod b):=λ⟨p,q⟩=>by have:=zg' (a:= -a) b (by omega);rw [Int.neg_tmod]at this;omega
 rcases h with h|h|h|h|h;omega;exact .inr (.inl (by omega));exact .inr (.inr (.inl (by omega)));exact .inr (.inr (.inr (.inl (by omega))));omega
def zS {op k a b:Int} (h:Do op k) (hk:k≠5) (ha:DY k a):DY (if 9<=op/\op<=12 then 1 else k) (Dk op k a b):=by obtain ⟨h1,h2,h3,h4,h5,h6,h7⟩:=h;have hw:∀i,DY k (F_ k (FX i)):=λi=>bW h3 (by omega) (dH i).1 (dH i).2;unfold Dk;by_cases c4:op=4;subst c4;simp only [if_true,if_false,show ¬((9:Int)<=4/\(4:Int)<=12) by omega];exact hw _;rw [Ab c4];by_cases c5:op=5;subst c5;simp only [if_true,if_false,show ¬((9:Int)<=5/\(5:Int)<=12) by omega];exact hw _;rw [Ab c5];by_cases c6:op=6;subst c6;simp only [if_true,if_false,show ¬((9:Int)<=6/\(6:Int)<=12) by omega];exact hw _;rw [Ab c6];by_cases c7:op=7;subst c7;simp only [if_true,if_false,show ¬((9:Int)<=7/\(7:Int)<=12) by omega];exact hw _;rw [Ab c7];by_cases c8:op=8;subst c8;simp only [if_true,if_false,show ¬((9:Int)<=8/\(8:Int)<=12) by omega];have:=eC (b:=b) ha hk (h5 (by omega));rw [LU this hk];exact this;rw [Ab c8];by_cases c9:op=9;subst c9;simp only [if_true,show ((9:Int)<=9/\(9:Int)<=12) by omega];exact Ke _;rw [Ab c9];by_cases S5:op=10;subst S5;simp only [if_true,show ((9:Int)<=10/\(10:Int)<=12) by omega];exact Ke _;rw [Ab S5];by_cases TJ:op=11;subst TJ;simp only [if_true,show ((9:Int)<=11/\(11:Int)<=12) by omega];exact Ke _;rw [Ab TJ];by_cases UW:op=12;subst UW;simp only [if_true,show ((9:Int)<=12/\(12:Int)<=12) by omega];exact Ke _;rw [Ab UW,Ab (show ¬(9<=op/\op<=12) by omega)];by_cases c8:op=13;rw [Ad c8,h7 (by omega)];exact Ke _;rw [Ab c8];by_cases L3:op=14;rw [Ad L3,h7 (by omega)];exact Ke _;rw [Ab L3];by_cases c18:op=15;rw [Ad c18,h7 (by omega)];exact Ke _;rw [Ab c18];exact hw _
theorem zQ (a:Int):a.tdiv (-1)= -a:=by rw [Int.tdiv_neg,Int.tdiv_one]
theorem CY_ (a:Int):a.tmod (-1)=0:=by rw [Int.tmod_neg,Int.tmod_one]
def pD {k a b:Int} (h:DY k a) (hk:k≠5) (hk1:k≠1) (hb:b≠ -1):DY k (a.tdiv b):=by
 have h1:(a.tdiv b).natAbs<=a.natAbs:=by rw [Int.natAbs_tdiv];exact Nat.div_le_self _ _
 have key:a.tdiv b= -a->0<=a\/a.tdiv b=a:=λe=>by
  by_cases ha:0<=a;exact .inl ha
  .exfalso;have h2:(a.tdiv b).natAbs=a.natAbs:=(by rw [e,Int.natAbs_neg]);rw [Int.natAbs_tdiv]at h2;have h3:b.natAbs=1:=by have h4:0<a.natAbs:=(by omega);rcases Nat.lt_trichotomy b.natAbs 1 with h5|h5|h5;have:b.natAbs=0:=(by omega);rw [this]at h2;have:a.natAbs.div 0=0:=Nat.div_zero _;omega;exact h5;have:a.natAbs.div b.natAbs<a.natAbs:=Nat.div_lt_self h4 h5;omega
   have h6:b=1:=(by omega);rw [h6,Int.tdiv_one]at e;omega
 rcases h with h|h|h|h|h;omega;refine .inr (.inl ⟨h.1,?_⟩);have:a.tdiv b≠ -a\/0<=a\/a.tdiv b=a:=(by by_cases e:a.tdiv b= -a;exact .inr (key e);exact .inl e);omega;refine .inr (.inr (.inl ⟨h.1,?_⟩));have:a.tdiv b≠ -a\/0<=a\/a.tdiv b=a:=(by by_cases e:a.tdiv b= -a;exact .inr (key e);exact .inl e);omega;refine .inr (.inr (.inr (.inl ⟨h.1,?_⟩)));have:a.tdiv b≠ -a\/0<=a\/a.tdiv b=a:=(by by_cases e:a.tdiv b= -a;exact .inr (key e);exact .inl e);omega;omega
def iC (op:Int) (o:Option Ordering):Bool:=if op=9 then o==some .eq else if op=10 then o !=some .eq else if op=11 then o==some .lt else o==some .lt||o==some .eq
def Kj (op:Int) (a b:Option Nat):FV:=
 if op=4 then ⟨5,0,Ex FloatKind.f64.format.add a b⟩else if op=5 then ⟨5,0,Ex FloatKind.f64.format.sub a b⟩else if op=6 then ⟨5,0,Ex FloatKind.f64.format.mul a b⟩else if op=7 then ⟨5,0,Ex FloatKind.f64.format.div a b⟩
 else if op=16 then ⟨5,0,a.map (Op.negFloat .f64)⟩else ⟨1,tI (iC op (BD a b)),some 0⟩
def D7 (op k:Int) (a b:FV):FV:=if k=5 then Kj op a.f b.f else ⟨if 9<=op/\op<=12 then 1 else k,Dk op k a.i b.i,some 0⟩
def Dp (op k:Int) (b:FV):Int:=if k=5 then 0 else CU op b.i
def wB (op:Int) (a b:Option Nat):TV (Kj op a b):=by
 have r:∀f,TV ⟨5,0,f⟩:=λf=>⟨.inr (.inr (.inr (.inr ⟨rfl,rfl⟩))),λh=>absurd rfl h⟩;unfold Kj;split;· exact r _
 split;· exact r _
 split;· exact r _
 split;· exact r _
 split;· exact r _
 exact ⟨Ke _,λ_=>rfl⟩
def Ed_ {op k:Int} {a b:FV} (h:Do op k) (ha:TV a) (hk:a.k=k):TV (D7 op k a b):=by unfold D7;split;exact wB ..;rename_i h5;exact ⟨zS h h5 (hk▸ha.1),λ_=>rfl⟩
def uL {op k:Int} {a b:FV} (h:Do op k):(D7 op k a b).k=if (9<=op/\op<=12)then 1 else k:=by
 obtain ⟨h1,h2,h3,h4,h5,h6,h7⟩:=h;unfold D7;split
 .rename_i e;unfold Kj;split;· rw [Ab (by omega),e]
  split;· rw [Ab (by omega),e]
  split;· rw [Ab (by omega),e]
  split;· rw [Ab (by omega),e]
  split;· rw [Ab (by omega),e]
  rw [Ad (by omega)]
 rfl
def Gp (k:Int):Nat:=if k=2 then 4674736413210574848 else if k=3 then 4746794007248502784 else 4890909195324358656
def Fh (k:Int):Nat:=if k=2 then 13898108450065350656 else if k=3 then 13970166044103278592 else 14114281232179134464
def M_ (k:Int) (f:Option Nat):Option Int:=
 if DZ f=true then none else if BD (DX f) (some (Fh k))=some .lt then none else if BD (DX f) (some (Gp k))=some .lt then Wf (DX f)else none
def eo {k:Int} {f:Option Nat} {n:Int} (hk:2<=k/\k<=4) (h:M_ k f=some n):DY k n:=by
 unfold M_ at h;split at h;· cases h
 split at h;· cases h
 rename_i h1;split at h;rename_i h2;rcases (by omega:k=2\/k=3\/k=4)with rfl|rfl|rfl;obtain ⟨m,e,a,b⟩:=Oj (k:=15) (j:= -37) rfl (by kernel_rfl) (by kernel_rfl) h1 h2;rw [h]at e;cases e;exact .inr (.inl ⟨rfl,by omega,by omega⟩);obtain ⟨m,e,a,b⟩:=Oj (k:=31) (j:= -21) rfl (by kernel_rfl) (by kernel_rfl) h1 h2;rw [h]at e;cases e;exact .inr (.inr (.inl ⟨rfl,by omega,by omega⟩));obtain ⟨m,e,a,b⟩:=Oj (k:=63) (j:=11) rfl (by kernel_rfl) (by kernel_rfl) h1 h2;rw [h]at e;cases e;exact .inr (.inr (.inr (.inl ⟨rfl,by omega,by omega⟩)));cases h
def H_ (kd:Int) (v:FV):Except Int FV:=
 if kd=5 then (if v.k=5 then .ok v else .ok ⟨5,0,some (FloatKind.f64.nearest v.i)⟩)
 else if v.k=5 then (match M_ kd v.f with|some n=>.ok ⟨kd,n,some 0⟩|none=>.error 7)
 else .ok ⟨kd,F_ kd v.i,some 0⟩
def A2_ {kd:Int} {v w:FV} (hk:2<=kd/\kd<=5) (hv:TV v) (h:H_ kd v=.ok w):TV w/\w.k=kd:=by unfold H_ at h;split at h;rename_i e;split at h;rename_i e';cases h;exact ⟨hv,by omega⟩;cases h;exact ⟨⟨.inr (.inr (.inr (.inr ⟨rfl,rfl⟩))),λh=>absurd rfl h⟩,e.symm⟩;split at h;split at h;rename_i n hn;cases h;exact ⟨⟨eo (k:=kd) (by omega) hn,λ_=>rfl⟩,rfl⟩;cases h;cases h;have:=hv.1.i64;exact ⟨⟨bW (k:=kd) (by omega) (by omega) this.1 this.2,λ_=>rfl⟩,rfl⟩
def HQ_:VC:=⟨⟨[],[]⟩,[],[],0,true,[]⟩
def fR:VT:=.ite 64 (.done (J 1))<|.done (J 0)
def rU:VC:=⟨⟨[],[]⟩,[],[],0,true,[]⟩
def gU:VT:=Iq 64 9 67 (Li Qq [65,66] 68<|.done (.tup [.bool true,68]))<|Iq 64 10 68 (Li Ua [65,66] 69<|.done (.tup [.bool true,69]))<|Iq 64 11 69 (Li Uu [65,66] 70<|.done (.tup [.bool true,70]))<|Iq 64 12 70 (Li Zy [65,66] 71<|.done (.tup [.bool true,71]))<|.done (.tup [.bool false,.bool false])
def zP:VC:=⟨⟨[],[]⟩,[(199,[none])],[],0,true,[]⟩
def lc:VT:=Iq 64 13 67 (It Qc [65,J 0] 68 (Li Qc [66,J 0] 69<|.call 199 [69] 70 [none]<|.done (70))<|.call 199 [.bool false] 69 [none]<|.done (69))<|Iq 64 14 68 (It Qc [65,J 0] 69 (.call 199 [.bool true] 70 [none]<|.done (70))<|Li Qc [66,J 0] 70<|.call 199 [70] 71 [none]<|.done (71))<|Iq 64 15 69 (Li Qt [65,J 0] 70<|.call 199 [70] 71 [none]<|.done (71))<|.done (J 0)
def yD:VC:=⟨⟨[],[]⟩,[(199,[none])],[],0,true,[]⟩
def dk:VT:=Iq 64 1 66 (Li Qc [65,J 0] 67<|.call 199 [67] 68 [none]<|.done (68))<|Iq 64 2 67 (Li (.conv 2 219) [65] 68<|Li (.conv 219 2) [68] 69<|.done (69))<|Iq 64 3 68 (Li (.conv 2 21) [65] 69<|Li (.conv 21 2) [69] 70<|.done (70))<|Iq 64 4 69 (.done (65))<|.done (J 0)
def qV:VC:=⟨⟨[],[]⟩,[],[],0,true,[]⟩
def gv:VT:=Dn [64]
def xK:VC:=⟨⟨[],[]⟩,[],[],0,true,[(202,CD)]⟩
def gP:VT:=It Qt [66,J 0] 67 (Cf 202 CD [J 5] 68 1<|.done (.tup [J 1,69]))<|Iq 64 8 68 (Li Zl [65,66] 69<|Dn [69])<|Li Ub [65,66] 69<|Dn [69]
def HU_:VC:=⟨⟨[],[]⟩,[],[],0,true,[(202,CD),(216,VI)]⟩
def mr:VT:=Iq 64 4 67 (Li Zk [65,66] 68<|Dn [68])<|Iq 64 5 68 (Li Zh [65,66] 69<|Dn [69])<|Iq 64 6 69 (Li Uv [65,66] 70<|Dn [70])<|Iq 64 16 70 (Li Zb [65] 71<|Dn [71])<|Iq 64 7 71 (.callF 216 VI [64,65,66] 72 (.cons 1 (Dn [75]) (.cons 1 (.done (.tup [J 1,75])) .nil)))<|Iq 64 8 72 (.callF 216 VI [64,65,66] 73 (.cons 1 (Dn [76]) (.cons 1 (.done (.tup [J 1,76])) .nil)))<|Cf 202 CD [J 4] 73 1<|.done (.tup [J 1,74])
def uO:VC:=⟨⟨[],[]⟩,[(201,[none,none]),(203,[none]),(199,[none]),(165,[none])],[],0,true,[(202,CD),(204,Cy)]⟩
def mI:VT:=.call 201 [64,65,66] 67 [none,none]<|Iq 64 13 69 (.call 203 [64,65,66] 70 [none]<|.done (.tup [70,J 0]))<|Iq 64 14 70 (.call 203 [64,65,66] 71 [none]<|.done (.tup [71,J 0]))<|Iq 64 15 71 (.call 203 [64,65,66] 72 [none]<|.done (.tup [72,J 0]))<|It Q1 [64,J 9] 72 (It Q1 [64,J 10] 73 (Cf 202 CD [J 4] 74 1<|Dn [75])<|.ite 67 (.call 199 [68] 74 [none]<|.done (.tup [74,J 0]))<|.callF 204 Cy [64,65,66] 74 (.cons 1 (.call 165 [J 1,77] 78 [none]<|.done (.tup [78,J 0])) (.cons 1 (Dn [77]) .nil)))<|.ite 67 (.call 199 [68] 73 [none]<|.done (.tup [73,J 0]))<|.callF 204 Cy [64,65,66] 73 (.cons 1 (.call 165 [J 1,76] 77 [none]<|.done (.tup [77,J 0])) (.cons 1 (Dn [76]) .nil))
def qp:VC:=⟨⟨[],[]⟩,[(201,[none,none]),(203,[none]),(199,[none]),(165,[none])],[],0,true,[(202,CD),(204,Cy)]⟩
def nS:VT:=.call 201 [64,65,66] 67 [none,none]<|.ite 67 (.call 199 [68] 69 [none]<|.done (.tup [69,J 0]))<|.callF 204 Cy [64,65,66] 69 (.cons 1 (.call 165 [J 2,72] 73 [none]<|.done (.tup [73,J 0])) (.cons 1 (Dn [72]) .nil))
def qU:VC:=⟨⟨[],[]⟩,[(201,[none,none]),(203,[none]),(199,[none]),(165,[none])],[],0,true,[(202,CD),(204,Cy)]⟩
def dQ:VT:=.call 201 [64,65,66] 67 [none,none]<|.ite 67 (.call 199 [68] 69 [none]<|.done (.tup [69,J 0]))<|.callF 204 Cy [64,65,66] 69 (.cons 1 (.call 165 [J 3,72] 73 [none]<|.done (.tup [73,J 0])) (.cons 1 (Dn [72]) .nil))
def ur:VC:=⟨⟨[],[]⟩,[(201,[none,none]),(203,[none]),(199,[none]),(165,[none])],[],0,true,[(202,CD),(204,Cy)]⟩
def om:VT:=.call 201 [64,65,66] 67 [none,none]<|.ite 67 (.call 199 [68] 69 [none]<|.done (.tup [69,J 0]))<|.callF 204 Cy [64,65,66] 69 (.cons 1 (.call 165 [J 4,72] 73 [none]<|.done (.tup [73,J 0])) (.cons 1 (Dn [72]) .nil))
def HM (b:Bool):AJ 199 [.bool b] (.int .i64 (tI b)):=by refine Bx [none] [.bool b] HQ_ fR rfl rfl rfl rfl rfl (by kernel_rfl) λY hf hg=>?_;unfold fR;cases b;exact Ax (t:=false) rfl (λh=>by cases h) (λh=>Ap rfl);exact Ax (t:=true) rfl (λh=>Ap rfl) (λh=>by cases h)
def LR (op a b:Int):Bool:=if op=9 then decide (a=b)else if op=10 then decide (¬a=b)else if op=11 then decide (a<b)else if op=12 then decide (a<=b)else false
def Tp (op a b:Int):AJ 201 [.int .i64 op,.int .i64 a,.int .i64 b] (.tup [.bool (decide (9<=op/\op<=12)),.bool (LR op a b)]):=by
 refine Bx [none,none,none] [.int .i64 op,.int .i64 a,.int .i64 b] rU gU rfl rfl rfl rfl rfl (by kernel_rfl) λY hf hg=>?_;unfold gU
 (refine b_ rfl rfl ?_ ?_<;>intro h<;>try omega)
 subst h;exact Aa (Am ..) rfl (Ap (by rfl))
 (refine b_ rfl rfl ?_ ?_<;>intro h<;>try omega)
 subst h;exact Aa (Al ..) rfl (Ap (by rw [show LR 10 a b=decide (¬a=b) from rfl];simp;rfl))
 (refine b_ rfl rfl ?_ ?_<;>intro h<;>try omega)
 subst h;exact Aa (AX ..) rfl (Ap (by rfl))
 (refine b_ rfl rfl ?_ ?_<;>intro h<;>try omega)
 subst h;exact Aa (Bq ..) rfl (Ap (by rfl));refine Ap ?_;have e1:decide (9<=op/\op<=12)=false:=A4 (by omega);have e2:LR op a b=false:=by unfold LR;simp only [*,if_false]
 rw [e1,e2];rfl
def ZO (op a b:Int) (ho:13<=op/\op<=15):AJ 203 [.int .i64 op,.int .i64 a,.int .i64 b] (.int .i64 (Dk op 1 a b)):=by
 refine Bx [none,none,none] [.int .i64 op,.int .i64 a,.int .i64 b] zP lc rfl rfl rfl rfl rfl (by kernel_rfl) λY hf hg=>?_;unfold lc
 (refine b_ rfl rfl ?_ ?_<;>intro h<;>try omega)
 .subst h;have e:Dk 13 1 a b=tI (decide (¬a=0)&&decide (¬b=0)):=rfl;rw [e]
  (refine b_ rfl rfl ?_ ?_<;>intro h<;>try omega)
  .refine Aa (Al ..) rfl (Aq (HM _) rfl rfl (Ap ?_));rw [AD h,Bool.true_and];by_cases hb:b=0<;>simp [hb]<;>rfl
  rw [A4 (by omega),Bool.false_and];exact Aq (HM false) rfl rfl (Ap rfl)
 (refine b_ rfl rfl ?_ ?_<;>intro h<;>try omega)
 .subst h;have e:Dk 14 1 a b=tI (decide (¬a=0)||decide (¬b=0)):=rfl;rw [e]
  (refine b_ rfl rfl ?_ ?_<;>intro h<;>try omega)
  rw [AD h,Bool.true_or];exact Aq (HM true) rfl rfl (Ap rfl)
  .refine Aa (Al ..) rfl (Aq (HM _) rfl rfl (Ap ?_));rw [A4 (p:=¬a=0) (by omega),Bool.false_or];by_cases hb:b=0<;>simp [hb]<;>rfl
 (refine b_ rfl rfl ?_ ?_<;>intro h<;>try omega)
 subst h;exact Aa (Am ..) rfl (Aq (HM _) rfl rfl (Ap rfl))
def qm (i:Int):(XOp.conv 2 219).run Tryz.prog [.int .i64 i]=some (.int .i16 (IntKind.i16.wrap i)):=Hb Tryz.underlying2 Tryz.underlying219 i
def uR (i:Int):(XOp.conv 219 2).run Tryz.prog [.int .i16 (IntKind.i16.wrap i)]=some (.int .i64 (IntKind.i16.wrap i)):=by have:=Yn i;rw [Hb Tryz.underlying219 Tryz.underlying2,CS (by omega) (by omega)]
def ue (i:Int):(XOp.conv 2 21).run Tryz.prog [.int .i64 i]=some (.int .i32 (IntKind.i32.wrap i)):=Hb Tryz.underlying2 Tryz.underlying21 i
def xi (i:Int):(XOp.conv 21 2).run Tryz.prog [.int .i32 (IntKind.i32.wrap i)]=some (.int .i64 (IntKind.i32.wrap i)):=by have:=aG i;rw [Hb Tryz.underlying21 Tryz.underlying2,CS (by omega) (by omega)]
def Kr (k i:Int):AJ 165 [.int .i64 k,.int .i64 i] (.int .i64 (F_ k i)):=by
 refine Bx [none,none] [.int .i64 k,.int .i64 i] yD dk rfl rfl rfl rfl rfl (by kernel_rfl) λY hf hg=>?_;unfold dk
 (refine b_ rfl rfl ?_ ?_<;>intro h<;>try omega)
 .subst h;refine Aa (Al ..) rfl (Aq (HM _) rfl rfl (Ap ?_));by_cases hi:i=0<;>simp [hi,F_,tI]<;>rfl
 (refine b_ rfl rfl ?_ ?_<;>intro h<;>try omega)
 subst h;exact Aa (qm i) rfl (Aa (uR i) rfl (Ap rfl))
 (refine b_ rfl rfl ?_ ?_<;>intro h<;>try omega)
 subst h;exact Aa (ue i) rfl (Aa (xi i) rfl (Ap rfl))
 (refine b_ rfl rfl ?_ ?_<;>intro h<;>try omega)
 subst h;exact Ap rfl;refine Ap ?_;have:F_ k i=0:=(by unfold F_;simp only [*,if_false]);rw [this];rfl
def RF (e:Int):Nat->List AV->Prop:=λj ws=>j=0/\ws=[.int .i64 e]
def vt (e:Int):Bl 202 CD [.int .i64 e] (RF e):=by refine B3 qV gv rfl rfl (by kernel_rfl) λY hf hg=>?_;unfold gv;exact Ai rfl ⟨rfl,rfl⟩
def Gd (op a b:Int):Int:=if op=4 then FX (a+b)else if op=5 then FX (a-b)else if op=6 then FX (a*b)else if op=16 then FX (0-a)else if op=7 then FX (a.tdiv b)else a.tmod b
def Np {op k a b:Int} (h:(4<=op/\op<=8)\/op=16):Dk op k a b=F_ k (Gd op a b):=by rcases (by omega:op=4\/op=5\/op=6\/op=7\/op=8\/op=16)with rfl|rfl|rfl|rfl|rfl|rfl<;>rfl
def RO (op a b:Int):Nat->List AV->Prop:=λj ws=>(j=0/\CU op b=0/\ws=[.int .i64 (Gd op a b)])\/(j=1/\CU op b=5/\ws=[.int .i64 5])
def kw (op a b:Int) (ho:op=7\/op=8):Bl 216 VI [.int .i64 op,.int .i64 a,.int .i64 b] (RO op a b):=by
 refine B3 xK gP rfl rfl (by kernel_rfl) λY hf hg=>?_;unfold gP
 (refine b_ rfl rfl ?_ ?_<;>intro h<;>try omega)
 subst h;refine BL (vt 5) rfl ⟨?_,trivial⟩;rintro ws ⟨_,rfl⟩;refine Ai rfl (.inr ⟨rfl,?_,rfl⟩);unfold CU;rw [Ad ⟨ho,rfl⟩];have hb:CU op b=0:=by unfold CU;rw [Ab (by omega)]
 (refine b_ rfl rfl ?_ ?_<;>intro h<;>try omega)
 subst h;exact Aa (S7 (by omega) ..) rfl (Ai rfl (.inl ⟨rfl,hb,rfl⟩));obtain rfl:op=7:=(by omega);exact Aa (dj (by omega) ..) rfl (Ai rfl (.inl ⟨rfl,hb,rfl⟩))
def Yo (op a b:Int) (ho:(4<=op/\op<=8)\/op=16):Bl 204 Cy [.int .i64 op,.int .i64 a,.int .i64 b] (RO op a b):=by
 refine B3 HU_ mr rfl rfl (by kernel_rfl) λY hf hg=>?_;unfold mr
 (refine b_ rfl rfl ?_ ?_<;>intro h<;>try omega)
 subst h;exact Aa (AM ..) rfl (Ai rfl (.inl ⟨rfl,rfl,rfl⟩))
 (refine b_ rfl rfl ?_ ?_<;>intro h<;>try omega)
 subst h;exact Aa (Bn ..) rfl (Ai rfl (.inl ⟨rfl,rfl,rfl⟩))
 (refine b_ rfl rfl ?_ ?_<;>intro h<;>try omega)
 subst h;exact Aa (F2 ..) rfl (Ai rfl (.inl ⟨rfl,rfl,rfl⟩))
 (refine b_ rfl rfl ?_ ?_<;>intro h<;>try omega)
 subst h;exact Aa (Xn ..) rfl (Ai rfl (.inl ⟨rfl,rfl,rfl⟩))
 (refine b_ rfl rfl ?_ ?_<;>intro h<;>try omega)
 subst h;refine BL (kw 7 a b (.inl rfl)) rfl ⟨?_,?_,trivial⟩;rintro ws (⟨_,h1,rfl⟩|⟨h0,_⟩);exact Ai rfl (.inl ⟨rfl,h1,rfl⟩);cases h0;rintro ws (⟨h0,_⟩|⟨_,h1,rfl⟩);cases h0;exact Ai rfl (.inr ⟨rfl,h1,rfl⟩)
 (refine b_ rfl rfl ?_ ?_<;>intro h<;>try omega)
 subst h;refine BL (kw 8 a b (.inr rfl)) rfl ⟨?_,?_,trivial⟩;rintro ws (⟨_,h1,rfl⟩|⟨h0,_⟩);exact Ai rfl (.inl ⟨rfl,h1,rfl⟩);cases h0;rintro ws (⟨h0,_⟩|⟨_,h1,rfl⟩);cases h0;exact Ai rfl (.inr ⟨rfl,h1,rfl⟩)
def E_ (op k a b:Int):Int:=if CU op b=0 then Dk op k a b else 0
def Lz {op k a b:Int} (h:9<=op/\op<=12):Dk op k a b=tI (LR op a b):=by rcases (by omega:op=9\/op=10\/op=11\/op=12)with rfl|rfl|rfl|rfl<;>rfl
def Ez {op b:Int} (h:op≠7/\op≠8):CU op b=0:=by unfold CU;rw [Ab (by omega)]
def bU (op k a b:Int) (ho:Do op k) (hk:k≠5):AJ 168 [.int .i64 op,.int .i64 k,.int .i64 a,.int .i64 b] (.tup [.int .i64 (E_ op k a b),.int .i64 (CU op b)]):=by
 obtain ⟨h1,h2,h3,h4,h5,h6,h7⟩:=ho;rcases (by omega:k=1\/k=2\/k=3\/k=4)with hk|hk|hk|hk
 ·(refine Fb (args':=[.sym 64,.int .i64 k,.sym 65,.sym 66]) (ls:=[.int .i64 op,.int .i64 a,.int .i64 b]) (c:=uO) (n:=300) (t:=mI) mo ov rfl rfl rfl rfl (λY _=>rfl) (λY _=>Cn _) rfl (by subst hk;kernel_rfl) λY hf hg=>?_)
  unfold mI;refine Aq (Tp op a b) rfl rfl ?_
  (refine b_ rfl rfl ?_ ?_<;>intro h<;>try omega)
  subst h;refine Aq (ZO 13 a b (by omega)) rfl rfl (Ap ?_);rw [E_,Ad (Ez (by omega)),Ez (by omega),hk];rfl
  (refine b_ rfl rfl ?_ ?_<;>intro h<;>try omega)
  subst h;refine Aq (ZO 14 a b (by omega)) rfl rfl (Ap ?_);rw [E_,Ad (Ez (by omega)),Ez (by omega),hk];rfl
  (refine b_ rfl rfl ?_ ?_<;>intro h<;>try omega)
  subst h;refine Aq (ZO 15 a b (by omega)) rfl rfl (Ap ?_);rw [E_,Ad (Ez (by omega)),Ez (by omega),hk];rfl
  (refine b_ rfl rfl ?_ ?_<;>intro h<;>try omega)
  ·(refine b_ rfl rfl ?_ ?_<;>intro h<;>try omega)
   refine Iv rfl (λh=>?_) (λh=>?_)
   ·(
     refine Aq (HM _) rfl rfl (Ap ?_);rw [E_,Ad (Ez (by omega)),Ez (by omega),Lz (by omega)];rfl)
   exfalso;omega
  .refine Iv rfl (λh=>?_) (λh=>?_)
   ·(
     refine Aq (HM _) rfl rfl (Ap ?_);rw [E_,Ad (Ez (by omega)),Ez (by omega),Lz (by omega)];rfl)
   exfalso;omega
 all_goals have hk1:k≠1:=by omega
 ·(refine Fb (args':=[.sym 64,.int .i64 k,.sym 65,.sym 66]) (ls:=[.int .i64 op,.int .i64 a,.int .i64 b]) (c:=qp) (n:=300) (t:=nS) mo ov rfl rfl rfl rfl (λY _=>rfl) (λY _=>Cn _) rfl (by subst hk;kernel_rfl) λY hf hg=>?_)
  unfold nS;refine Aq (Tp op a b) rfl rfl (Iv rfl (λh=>?_) (λh=>?_))
  ·(
    refine Aq (HM _) rfl rfl (Ap ?_);rw [E_,Ad (Ez (by omega)),Ez (by omega),Lz (by omega)];rfl)
  ·(
    refine BL (Yo op a b (by omega)) rfl ⟨?_,?_,trivial⟩;rintro ws (⟨_,h1,rfl⟩|⟨h0,_⟩);refine Aq (Kr _ _) rfl rfl (Ap ?_);rw [E_,Ad h1,h1,Np (by omega),hk];rfl;cases h0
    .rintro ws (⟨h0,_⟩|⟨_,h1,rfl⟩);cases h0
     .refine Ap ?_;rw [E_,Ab (by omega),h1];rfl)
 ·(refine Fb (args':=[.sym 64,.int .i64 k,.sym 65,.sym 66]) (ls:=[.int .i64 op,.int .i64 a,.int .i64 b]) (c:=qU) (n:=300) (t:=dQ) mo ov rfl rfl rfl rfl (λY _=>rfl) (λY _=>Cn _) rfl (by subst hk;kernel_rfl) λY hf hg=>?_)
  unfold dQ;refine Aq (Tp op a b) rfl rfl (Iv rfl (λh=>?_) (λh=>?_))
  ·(
    refine Aq (HM _) rfl rfl (Ap ?_);rw [E_,Ad (Ez (by omega)),Ez (by omega),Lz (by omega)];rfl)
  ·(
    refine BL (Yo op a b (by omega)) rfl ⟨?_,?_,trivial⟩;rintro ws (⟨_,h1,rfl⟩|⟨h0,_⟩);refine Aq (Kr _ _) rfl rfl (Ap ?_);rw [E_,Ad h1,h1,Np (by omega),hk];rfl;cases h0
    .rintro ws (⟨h0,_⟩|⟨_,h1,rfl⟩);cases h0
     .refine Ap ?_;rw [E_,Ab (by omega),h1];rfl)
 ·(refine Fb (args':=[.sym 64,.int .i64 k,.sym 65,.sym 66]) (ls:=[.int .i64 op,.int .i64 a,.int .i64 b]) (c:=ur) (n:=300) (t:=om) mo ov rfl rfl rfl rfl (λY _=>rfl) (λY _=>Cn _) rfl (by subst hk;kernel_rfl) λY hf hg=>?_)
  unfold om;refine Aq (Tp op a b) rfl rfl (Iv rfl (λh=>?_) (λh=>?_))
  ·(
    refine Aq (HM _) rfl rfl (Ap ?_);rw [E_,Ad (Ez (by omega)),Ez (by omega),Lz (by omega)];rfl)
  ·(
    refine BL (Yo op a b (by omega)) rfl ⟨?_,?_,trivial⟩;rintro ws (⟨_,h1,rfl⟩|⟨h0,_⟩);refine Aq (Kr _ _) rfl rfl (Ap ?_);rw [E_,Ad h1,h1,Np (by omega),hk];rfl;cases h0
    .rintro ws (⟨h0,_⟩|⟨_,h1,rfl⟩);cases h0
     .refine Ap ?_;rw [E_,Ab (by omega),h1];rfl)
end Go.Proofs.YtelnbodnjmldeaaGreat.vars
