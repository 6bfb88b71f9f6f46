/-
  The check of expressions: names, numbers, elements.
-/
import Derived.Test.YtelnbodnjmldeaaGreatFA
import Derived.Test.YtelnbodnjmldeaaGreatSyK
set_option linter.all false
set_option maxHeartbeats 1000000
set_option maxRecDepth 100000
open List renaming not_mem_nil→za',getElem_mem→zc',mem_cons_self→ze',mem_cons_of_mem→zf'
open Nat renaming zero_le→zb',mul_le_mul_right→zd'
open Int renaming tmod_nonneg→zg'
namespace Go.Proofs.YtelnbodnjmldeaaGreat.vars
open Go Go.Sx
def VARS:AV:=.vsl 12 10 [.str [97],.int .i64 1,.int .i64 2,.int .i64 0,.int .i64 2,.int .i64 0,.flt .f64 0,.int .i64 0,.int .i64 0,.flt .f64 0,.str [98],.int .i64 1,.int .i64 1,.int .i64 0,.int .i64 1,.int .i64 0,.flt .f64 0,.int .i64 0,.int .i64 0,.flt .f64 0,.str [111],.int .i64 2,.int .i64 2,.int .i64 0,.int .i64 2,.int .i64 0,.flt .f64 0,.int .i64 2,.int .i64 7,.flt .f64 0,.str [113],.int .i64 2,.int .i64 1,.int .i64 0,.int .i64 1,.int .i64 0,.flt .f64 0,.int .i64 1,.int .i64 1,.flt .f64 0,.str [120],.int .i64 3,.int .i64 2,.int .i64 0,.int .i64 2,.int .i64 5,.flt .f64 0,.int .i64 0,.int .i64 0,.flt .f64 0,.str [121],.int .i64 3,.int .i64 3,.int .i64 0,.int .i64 3,.int .i64 0,.flt .f64 0,.int .i64 0,.int .i64 0,.flt .f64 0,.str [122],.int .i64 3,.int .i64 5,.int .i64 0,.int .i64 5,.int .i64 0,.flt .f64 0,.int .i64 0,.int .i64 0,.flt .f64 0,.str [119],.int .i64 3,.int .i64 4,.int .i64 0,.int .i64 4,.int .i64 0,.flt .f64 0,.int .i64 0,.int .i64 0,.flt .f64 0,.str [107],.int .i64 3,.int .i64 2,.int .i64 4,.int .i64 2,.int .i64 0,.flt .f64 0,.int .i64 0,.int .i64 0,.flt .f64 0,.str [116,109],.int .i64 3,.int .i64 6,.int .i64 0,.int .i64 0,.int .i64 0,.flt .f64 0,.int .i64 0,.int .i64 0,.flt .f64 0,.str [99],.int .i64 3,.int .i64 9,.int .i64 0,.int .i64 0,.int .i64 0,.flt .f64 0,.int .i64 0,.int .i64 0,.flt .f64 0,.str [101],.int .i64 3,.int .i64 11,.int .i64 0,.int .i64 0,.int .i64 0,.flt .f64 0,.int .i64 0,.int .i64 0,.flt .f64 0]
def gZ:AQ 182 [VARS,.str [97]] (.tup [.agg [.str [97],.int .i64 1,.int .i64 2,.int .i64 0,.int .i64 2,.int .i64 0,.flt .f64 0,.int .i64 0,.int .i64 0,.flt .f64 0],.int .i64 0,.bool true]):=Cj mo ov (n:=3000) (by kernel_rfl)
def oW:AQ 182 [VARS,.str [98]] (.tup [.agg [.str [98],.int .i64 1,.int .i64 1,.int .i64 0,.int .i64 1,.int .i64 0,.flt .f64 0,.int .i64 0,.int .i64 0,.flt .f64 0],.int .i64 1,.bool true]):=Cj mo ov (n:=3000) (by kernel_rfl)
def jU:AQ 182 [VARS,.str [111]] (.tup [.agg [.str [111],.int .i64 2,.int .i64 2,.int .i64 0,.int .i64 2,.int .i64 0,.flt .f64 0,.int .i64 2,.int .i64 7,.flt .f64 0],.int .i64 2,.bool true]):=Cj mo ov (n:=3000) (by kernel_rfl)
def oq:AQ 182 [VARS,.str [113]] (.tup [.agg [.str [113],.int .i64 2,.int .i64 1,.int .i64 0,.int .i64 1,.int .i64 0,.flt .f64 0,.int .i64 1,.int .i64 1,.flt .f64 0],.int .i64 3,.bool true]):=Cj mo ov (n:=3000) (by kernel_rfl)
def eN:AQ 182 [VARS,.str [120]] (.tup [.agg [.str [120],.int .i64 3,.int .i64 2,.int .i64 0,.int .i64 2,.int .i64 5,.flt .f64 0,.int .i64 0,.int .i64 0,.flt .f64 0],.int .i64 4,.bool true]):=Cj mo ov (n:=3000) (by kernel_rfl)
def kJ:AQ 182 [VARS,.str [121]] (.tup [.agg [.str [121],.int .i64 3,.int .i64 3,.int .i64 0,.int .i64 3,.int .i64 0,.flt .f64 0,.int .i64 0,.int .i64 0,.flt .f64 0],.int .i64 5,.bool true]):=Cj mo ov (n:=3000) (by kernel_rfl)
def oQ:AQ 182 [VARS,.str [122]] (.tup [.agg [.str [122],.int .i64 3,.int .i64 5,.int .i64 0,.int .i64 5,.int .i64 0,.flt .f64 0,.int .i64 0,.int .i64 0,.flt .f64 0],.int .i64 6,.bool true]):=Cj mo ov (n:=3000) (by kernel_rfl)
def cF:AQ 182 [VARS,.str [119]] (.tup [.agg [.str [119],.int .i64 3,.int .i64 4,.int .i64 0,.int .i64 4,.int .i64 0,.flt .f64 0,.int .i64 0,.int .i64 0,.flt .f64 0],.int .i64 7,.bool true]):=Cj mo ov (n:=3000) (by kernel_rfl)
def XM:AQ 182 [VARS,.str [107]] (.tup [.agg [.str [107],.int .i64 3,.int .i64 2,.int .i64 4,.int .i64 2,.int .i64 0,.flt .f64 0,.int .i64 0,.int .i64 0,.flt .f64 0],.int .i64 8,.bool true]):=Cj mo ov (n:=3000) (by kernel_rfl)
def Us:AQ 182 [VARS,.str [116,109]] (.tup [.agg [.str [116,109],.int .i64 3,.int .i64 6,.int .i64 0,.int .i64 0,.int .i64 0,.flt .f64 0,.int .i64 0,.int .i64 0,.flt .f64 0],.int .i64 12,.bool true]):=Cj mo ov (n:=3000) (by kernel_rfl)
def WY:AQ 182 [VARS,.str [99]] (.tup [.agg [.str [99],.int .i64 3,.int .i64 9,.int .i64 0,.int .i64 0,.int .i64 0,.flt .f64 0,.int .i64 0,.int .i64 0,.flt .f64 0],.int .i64 16,.bool true]):=Cj mo ov (n:=3000) (by kernel_rfl)
def xE:AQ 182 [VARS,.str [101]] (.tup [.agg [.str [101],.int .i64 3,.int .i64 11,.int .i64 0,.int .i64 0,.int .i64 0,.flt .f64 0,.int .i64 0,.int .i64 0,.flt .f64 0],.int .i64 19,.bool true]):=Cj mo ov (n:=3000) (by kernel_rfl)
def uR:AQ 208 [VARS,.str [116,109,46,113]] (.tup [.agg [.str [116,109,46,113],.int .i64 12,.int .i64 1,.int .i64 3],.bool true]):=Cj mo ov (n:=3000) (by kernel_rfl)
def zY:AQ 208 [VARS,.str [99,46,99,118]] (.tup [.agg [.str [99,46,99,118],.int .i64 17,.int .i64 2,.int .i64 3],.bool true]):=Cj mo ov (n:=3000) (by kernel_rfl)
def wn_:AQ 208 [VARS,.str [116,109,46,101,116]] (.tup [.agg [.str [116,109,46,101,116],.int .i64 13,.int .i64 4,.int .i64 3],.bool true]):=Cj mo ov (n:=3000) (by kernel_rfl)
def yi:AQ 33 [VARS] (.int .i64 0):=Cj mo ov (n:=3000) (by kernel_rfl)
def w7:AQ 45 [] VARS:=Cj mo ov (n:=3000) (by kernel_rfl)
def wJ (v:Nat) (h:v<50):AQ 130 [.int .i64 2,.int .i64 (v:Int)] (.int .i64 (v:Int)):=by
 have:∀v∈List.range 50,AQ 130 [.int .i64 2,.int .i64 (v:Int)] (.int .i64 (v:Int)):=by
  simp only [List.range,List.range.loop,List.forall_mem_cons];repeat' apply And.intro
  all_goals first|exact (λx hx=>(za' hx).elim)|exact Cj mo ov (n:=3000) (by kernel_rfl)
 exact this v (List.mem_range.2 h)
def uP:AQ 74 [.int .i64 1] (.int .i64 1):=Cj mo ov (n:=3000) (by kernel_rfl)
def vy:AQ 74 [.int .i64 2] (.int .i64 1):=Cj mo ov (n:=3000) (by kernel_rfl)
def tH:AQ 74 [.int .i64 3] (.int .i64 1):=Cj mo ov (n:=3000) (by kernel_rfl)
def se:AQ 74 [.int .i64 4] (.int .i64 1):=Cj mo ov (n:=3000) (by kernel_rfl)
def sb:AQ 74 [.int .i64 5] (.int .i64 1):=Cj mo ov (n:=3000) (by kernel_rfl)
def kH:AQ 74 [.int .i64 6] (.int .i64 4):=Cj mo ov (n:=3000) (by kernel_rfl)
def ct:AQ 74 [.int .i64 9] (.int .i64 3):=Cj mo ov (n:=3000) (by kernel_rfl)
def vr:AQ 74 [.int .i64 11] (.int .i64 2):=Cj mo ov (n:=3000) (by kernel_rfl)
def It_:VC:=⟨⟨[],[]⟩,[],[],0,true,[]⟩
def iJ:VT:=.ite 64 (.done (J 0))<|.done (J 4)
def pY:VC:=⟨⟨[],[]⟩,[],[],0,true,[]⟩
def gr:VT:=Iq 64 2 65 (.done (.bool true))<|Iq 64 3 66 (.done (.bool true))<|Li Q0 [64,J 4] 67<|.done (67)
def oE:VC:=⟨⟨[],[]⟩,[(130,[none])],[],0,true,[]⟩
def To:VT:=Iq 74 2 75 (Iq 64 1 76 (Iq 65 3 77 (.call 130 [J 2,71] 78 [none]<|.done (.agg [64,J 2,66,67,68,69,J 2,78,.flt .f64 0,73]))<|.done (.agg (Af 64 10)))<|.done (.agg (Af 64 10)))<|.done (.agg (Af 64 10))
def wC:VC:=⟨⟨[],[]⟩,[(182,[(some 10),none,none]),(208,[(some 4),none]),(74,[none]),(186,[none])],[],0,true,[]⟩
def lm:VT:=.call 182 [64,67] 75 [(some 10),none,none]<|It Q6 [86] 87 (Dn (Af 65 10++[J 3]))<|It (.bin .eql 9 false true) [68,.str []] 88 (.call 74 [77] 89 [none]<|Iq 89 1 90 (Li Q0 [78,J 0] 91<|.call 186 [91] 92 [none]<|Dn [65,77,67,68,85,70,71,72,73,74,92])<|.call 186 [.bool false] 91 [none]<|Dn [65,77,67,68,85,70,71,72,73,74,91])<|.call 74 [77] 89 [none]<|It Qa [89,J 2] 90 (Dn (Af 65 10++[J 4]))<|Li (.bin .add 9 false true) [67,.str [46]] 91<|Li (.bin .add 9 false false) [91,68] 92<|.call 208 [64,92] 93 [(some 4),none]<|It Q6 [97] 98 (Dn (Af 65 10++[J 3]))<|Dn [65,95,67,68,94,70,71,72,73,74,J 0]
def zV:VC:=⟨⟨[],[]⟩,[(182,[(some 10),none,none]),(186,[none])],[],0,true,[]⟩
def kF:VT:=.call 182 [64,67] 76 [(some 10),none,none]<|It Q6 [87] 88 (Dn (Af 65 10++[J 3]))<|It Qb [79,J 0] 89 (Li Qg [75,J 0] 90<|Li Ze [90] 91<|Li Qn [91] 92<|Iq 92 2 93 (.call 186 [.bool true] 94 [none]<|Dn [65,78,67,68,86,79,71,72,73,75,94])<|Li Qg [75,J 0] 94<|Li Ze [94] 95<|Li Qn [95] 96<|Li Q0 [96,J 3] 97<|.call 186 [97] 98 [none]<|Dn [65,78,67,68,86,79,71,72,73,75,98])<|.call 186 [.bool false] 90 [none]<|Dn [65,78,67,68,86,79,71,72,73,75,90]
def Wj (b:Bool):AQ 186 [.bool b] (.int .i64 (if b=true then 0 else 4)):=by refine BV [none] [.bool b] It_ iJ rfl rfl rfl rfl rfl (by kernel_rfl) λY hf hg=>?_;unfold iJ;refine AC rfl (λh=>As ?_) (λh=>As ?_);rw [h];rfl;rw [h];rfl
section
variable {P:Program} {Q:AV->Prop} {L:List (Nat->List AV->Prop)} {Y:Sy} {t:TypeId} {cx cy:Bool} {ag:List AV} {n:Nat} {A B:VT} {k:IntKind} {a b:Int}
def Md (h0:Am Y.v ag=[.int k a,.int k b]) (h1:a=b->AB P Q L (Y.put n (.bool (decide (a=b)))) A) (h2:¬a=b->AB P Q L (Y.put n (.bool (decide (a=b)))) B):AB P Q L Y (.lt (.bin .eql t cx cy) ag n none (.ite n A B)):=
 Aa (by rw [h0];exact Aw ..) rfl (AC (t:=decide (a=b)) (by rw [bn,Ad rfl]) (λh=>h1 (AR h)) (λh=>h2 (Cy h)))
def CA:BinOp->Int->Int->Prop
 | .eql,a,b=>a=b
 | .neq,a,b=>¬a=b
 | .lss,a,b=>a<b
 | .gtr,a,b=>b<a
 | .leq,a,b=>a<=b
 | .geq,a,b=>b<=a
 |_,_,_=>False
open Classical in
def i_ {op:BinOp} (h0:Am Y.v ag=[.int k a,.int k b]) (ho:(match op with| .eql=>true| .neq=>true| .lss=>true| .gtr=>true| .leq=>true| .geq=>true|_=>false)=true)
  (h1:CA op a b->AB P Q L (Y.put n (.bool (decide (CA op a b)))) A) (h2:¬CA op a b->AB P Q L (Y.put n (.bool (decide (CA op a b)))) B):AB P Q L Y (.lt (.bin op t cx cy) ag n none (.ite n A B)):=by
 have hr:(XOp.bin op t cx cy).run P [.int k a,.int k b]=some (.bool (decide (CA op a b))):=by
  cases op<;>simp only at ho<;>first|(cases ho;done)|skip
  .rw [Aw];refine congrArg (λx=>some (AV.bool x)) ?_;by_cases h:a=b<;>simp [CA,h]
  .rw [Av];refine congrArg (λx=>some (AV.bool x)) ?_;by_cases h:a=b<;>simp [CA,h]
  .rw [Bn];refine congrArg (λx=>some (AV.bool x)) ?_;by_cases h:a<b<;>simp [CA,h]
  .rw [BN];refine congrArg (λx=>some (AV.bool x)) ?_;by_cases h:a<=b<;>simp [CA,h]
  .rw [BF];refine congrArg (λx=>some (AV.bool x)) ?_;by_cases h:b<a<;>simp [CA,h]
  .rw [Ba];refine congrArg (λx=>some (AV.bool x)) ?_;by_cases h:b<=a<;>simp [CA,h]
 exact Aa (by rw [h0];exact hr) rfl (AC (t:=decide (CA op a b)) (by rw [bn,Ad rfl]) (λh=>h1 (AR h)) (λh=>h2 (Cy h)))
end
theorem nc:(∀a b,CA .eql a b=(a=b))/\(∀a b,CA .neq a b=¬a=b)/\(∀a b,CA .lss a b=(a<b))/\(∀a b,CA .gtr a b=(b<a))/\(∀a b,CA .leq a b=(a<=b))/\(∀a b,CA .geq a b=(b<=a))/\(∀p:Prop,(¬¬p)=p)/\(∀a b:Int,(¬a<b)=(b<=a))/\(∀a b:Int,(¬a<=b)=(b<a))/\(¬True)=False:=
 ⟨λ_ _=>rfl,λ_ _=>rfl,λ_ _=>rfl,λ_ _=>rfl,λ_ _=>rfl,λ_ _=>rfl,λp=>propext ⟨Classical.not_not.1,λh k=>k h⟩,λ_ _=>propext Int.not_lt,λ_ _=>propext Int.not_le,propext ⟨λh=>h trivial,False.elim⟩⟩
class Nm (p:Prop) (q:outParam Prop):Prop where
 h:p->q
section
variable {a b:Int}
instance :Nm (CA .eql a b) (a=b):=⟨id⟩
instance :Nm (CA .neq a b) (¬a=b):=⟨id⟩
instance :Nm (CA .lss a b) (a<b):=⟨id⟩
instance :Nm (CA .gtr a b) (b<a):=⟨id⟩
instance :Nm (CA .leq a b) (a<=b):=⟨id⟩
instance :Nm (CA .geq a b) (b<=a):=⟨id⟩
instance :Nm (¬CA .eql a b) (¬a=b):=⟨id⟩
instance :Nm (¬CA .neq a b) (a=b):=⟨Classical.not_not.1⟩
instance :Nm (¬CA .lss a b) (b<=a):=⟨Int.not_lt.1⟩
instance :Nm (¬CA .gtr a b) (a<=b):=⟨Int.not_lt.1⟩
instance :Nm (¬CA .leq a b) (b<a):=⟨Int.not_le.1⟩
instance :Nm (¬CA .geq a b) (a<b):=⟨Int.not_le.1⟩
variable {P:Program} {Q:AV->Prop} {L:List (Nat->List AV->Prop)} {Y:Sy} {ag:List AV} {k:IntKind} {n:Nat} {t:TypeId} {cx cy:Bool} {A B:VT}
open Classical in
def d_ {op:BinOp} {p q:Prop} [e1:Nm (CA op a b) p] [e2:Nm (¬CA op a b) q] (h0:Am Y.v ag=[.int k a,.int k b]) (ho:(match op with| .eql=>true| .neq=>true| .lss=>true| .gtr=>true| .leq=>true| .geq=>true|_=>false)=true)
  (h1:p->AB P Q L (Y.put n (.bool (decide (CA op a b)))) A) (h2:q->AB P Q L (Y.put n (.bool (decide (CA op a b)))) B):AB P Q L Y (.lt (.bin op t cx cy) ag n none (.ite n A B)):=
 i_ h0 ho (λh=>h1 (e1.h h)) (λh=>h2 (e2.h h))
end
def IF:List (Int×Int):=[(1,1),(3,1),(12,1),(0,2),(4,2),(2,2),(17,2),(5,3),(13,4),(7,4),(6,5)]
def Wc:List (List UInt8×List UInt8×Int×Int):=[([98],[],1,1),([113],[],3,1),([116,109],[113],12,1),([97],[],0,2),([120],[],4,2),([111],[],2,2),([99],[99,118],17,2),([121],[],5,3),([116,109],[101,116],13,4),([119],[],7,4),([122],[],6,5)]
def lg:List (List UInt8×Int):=[([98],1),([113],2),([116,109],3),([97],1),([120],3),([111],2),([99],3),([121],3),([119],3),([122],3),([107],3)]
def Jw:List (Int×Int):=[(3,1),(4,2),(2,2),(5,3),(7,4),(6,5)]
def GM:∀t∈Wc,(t.2.2.1,t.2.2.2)∈IF:=by decide
def MH:∀t∈Wc,∀q∈lg,t.2.1=[]->t.1=q.1->q.2≠1->(t.2.2.1,t.2.2.2)∈Jw:=by decide
def GX.ad:GX->Int| .mk _ _ _ _ ad .. =>ad
def NT (x y:GX):Prop:=match x,y with
 | .mk op _ nm fd ..,.mk _ kd _ _ ad .. =>op=2->(nm,fd,ad,kd)∈Wc
def KX (op kd ad n vk vi:Int) (vf:Nat) (ks:List Int):Prop:=
 (op=1->kd=vk/\1<=vk/\vk<=5/\0<=vi/\vi<50/\(vk=1->vi<=1)/\(vk=5->vi=0)/\(vk≠5->vf=0))/\
 (op=2->(ad,kd)∈IF)/\
 (op=3->ad=8/\n=4/\kd=2/\∃k,ks=[k]/\(k=2\/k=3))/\
 (4<=op/\op<=14->∃k,ks=[k,k]/\1<=k/\k<=5/\(op<=8->kd=k/\k≠1)/\(9<=op->kd=1)/\(op=8->k≠5)/\(op=11\/op=12->k≠1)/\(13<=op->k=1))/\
 (op=15->kd=1/\ks=[1])/\
 (op=16->ks=[kd]/\2<=kd/\kd<=5)/\
 (op=17->2<=kd/\kd<=5/\∃k,ks=[k]/\2<=k/\k<=5)
def TX:Nat->GX->Prop
 |0,_=>False
 |d+1,.mk op kd nm fd ad n vk vi vf ag=>Cz op ag.length/\NZ vf/\1<=kd/\kd<=5/\KX op kd ad n vk vi vf (ag.map GX.kd)/\∀a∈ag,TX d a
def bO:∀{d e:Nat} {x:GX},d<=e->TX d x->TX e x
 |0,_,_,_,h=>h.elim
 |d+1,0,_,h,_=>by omega
 |d+1,e+1,.mk ..,h,⟨h1,h2,h3,h4,h5,h6⟩=>⟨h1,h2,h3,h4,h5,λa ha=>bO (by omega) (h6 a ha)⟩
def pj:∀{d:Nat} {x:GX},TX d x->1<=x.kd/\x.kd<=5
 |0,_,h=>h.elim
 |d+1,.mk ..,h=>⟨h.2.2.1,h.2.2.2.1⟩
def WN {l:List AV} (h:Ak l=true):BP (.agg l)=true:=by simp only [BP];exact J4 h
def RH {d:Nat} (x:GX) (k:Int) (hx:TX d x):∃y,AQ 183 [.agg (v_ x),.int .i64 k] (.agg (v_ y))/\TX d y:=by
 obtain ⟨op,kd,nm,fd,ad,n,vk,vi,vf,ag⟩:=x;obtain ⟨d,rfl⟩:∃e,d=e+1:=by cases d with|zero=>exact hx.elim|succ d=>exact ⟨d,rfl⟩
 by_cases hc:k=2/\op=1/\kd=3
 .obtain ⟨rfl,rfl,rfl⟩:=hc;obtain ⟨h1,h2,h3,h4,h5,h6⟩:=hx;obtain ⟨q1,q2,q3,q4,q5,q6,q7,q8⟩:=h5.1 rfl;obtain ⟨v,rfl⟩:∃v:Nat,vi=(v:Int):=⟨vi.toNat,by omega⟩;refine ⟨.mk 1 2 nm fd ad n 2 v 0 ag,?_,h1,.inl rfl,by decide,by decide,⟨λ_=>⟨rfl,by decide,by decide,q4,q5,λh=>by omega,λh=>by omega,λ_=>rfl⟩,λh=>by omega,λh=>by omega,λh=>by omega,λh=>by omega,λh=>by omega,λh=>by omega⟩,h6⟩;refine BV [some 10,none] (v_ (.mk 1 3 nm fd ad n vk v vf ag)++[.int .i64 2]) oE To rfl (K4 _ _) (WN (BT _)) rfl rfl (by kernel_rfl) λY hf hg=>?_;unfold To
  (refine d_ rfl rfl ?_ ?_<;>intro h<;>try omega);(refine d_ rfl rfl ?_ ?_<;>intro h<;>try omega);(refine d_ rfl rfl ?_ ?_<;>intro h<;>try omega)
  refine Ar (wJ v (by omega)) rfl rfl (As rfl)
 .refine ⟨_,?_,hx⟩;refine BV [some 10,none] (v_ (.mk op kd nm fd ad n vk vi vf ag)++[.int .i64 k]) oE To rfl (K4 _ _) (WN (BT _)) rfl rfl (by kernel_rfl) λY hf hg=>?_;unfold To
  (refine d_ rfl rfl ?_ ?_<;>intro h<;>try omega)
  ·(refine d_ rfl rfl ?_ ?_<;>intro h<;>try omega)
   ·(refine d_ rfl rfl ?_ ?_<;>intro h<;>try omega)
    exact As rfl
   exact As rfl
  exact As rfl
def GX.nm:GX->List UInt8| .mk _ _ nm .. =>nm
def GX.fd:GX->List UInt8| .mk _ _ _ fd .. =>fd
def RL (x:GX):Nat->List AV->Prop:=λ_ ws=>∃ad kd:Int,ws=(match x with| .mk op _ nm fd _ n vk vi vf ag=>v_ (.mk op kd nm fd ad n vk vi vf ag))++[.int .i64 0]/\(x.nm,x.fd,ad,kd)∈Wc
def JG_ (op kd:Int) (nm fd:List UInt8) (ad n vk vi:Int) (vf:Nat) (ag:List GX) (h:(nm,fd)∈Mq):A6 184 ZX (VARS::v_ (.mk op kd nm fd ad n vk vi vf ag)) (RL (.mk op kd nm fd ad n vk vi vf ag)):=by
 refine BU wC lm rfl rfl (by kernel_rfl) λY hf hg=>?_;unfold lm;simp only [Mq,CJ,Prod.mk.injEq,List.not_mem_nil,or_false]at h;rcases h with ⟨rfl,rfl⟩|⟨rfl,rfl⟩|⟨rfl,rfl⟩|⟨rfl,rfl⟩|⟨rfl,rfl⟩|⟨rfl,rfl⟩|⟨rfl,rfl⟩|⟨rfl,rfl⟩|⟨rfl,rfl⟩|⟨rfl,rfl⟩|⟨rfl,rfl⟩;all_goals
  first|refine Ar oW rfl rfl ?_|refine Ar oq rfl rfl ?_|refine Ar Us rfl rfl ?_|refine Ar gZ rfl rfl ?_|refine Ar eN rfl rfl ?_|refine Ar jU rfl rfl ?_|refine Ar WY rfl rfl ?_|refine Ar kJ rfl rfl ?_|refine Ar cF rfl rfl ?_|refine Ar oQ rfl rfl ?_
  refine Aa rfl rfl (AC rfl (λh=>by cases h) (λ_=>Aa rfl rfl ?_));first|refine AC (t:=true) rfl (λ_=>?_) (λh=>by cases h)|refine AC (t:=false) rfl (λh=>by cases h) (λ_=>?_)
  first|refine Ar uP rfl rfl ?_|refine Ar vy rfl rfl ?_|refine Ar tH rfl rfl ?_|refine Ar se rfl rfl ?_|refine Ar sb rfl rfl ?_|refine Ar kH rfl rfl ?_|refine Ar ct rfl rfl ?_
  refine Aa rfl rfl ?_;first
   |exact AC (t:=true) rfl (λ_=>Aa rfl rfl (Ar (Wj true) rfl rfl (Ai (K4 (.mk _ _ _ _ _ _ _ _ _ ag) _) ⟨_,_,rfl,by simp only [GX.nm,GX.fd];decide⟩))) (λh=>by cases h)
   |refine AC (t:=false) rfl (λh=>by cases h) (λ_=>Aa rfl rfl (Aa rfl rfl ?_))
    first|refine Ar uR rfl rfl ?_|refine Ar zY rfl rfl ?_|refine Ar wn_ rfl rfl ?_
    exact Aa rfl rfl (AC rfl (λh=>by cases h) (λ_=>Ai (K4 (.mk _ _ _ _ _ _ _ _ _ ag) _) ⟨_,_,rfl,by simp only [GX.nm,GX.fd];decide⟩))
def tT:VC:=⟨⟨[],[]⟩,[(182,[(some 10),none,none]),(183,[(some 10)]),(186,[none]),(120,[none])],[(1,[⟨[(4,.ptr 1 0),(3,.ptr 0 0),(9,.slx 2 10 0),(10,.slx 1 0 0),(0,64)],[(1,[J 0,J 0,.str [],.str [],J 0,J 0,J 0,J 0,.flt .f64 0,.nsl]),(0,[65,66,67,68,69,70,71,72,73,74])],3,2,[⟨2,10,0,9,none⟩],[],[]⟩])],0,true,[(149,Bs),(184,ZX),(185,Gu)]⟩
def gS:VT:=Iq 65 1 75 (Dn ([65,71]++Af 67 8++[J 0]))<|Iq 65 2 76 (Cf 184 ZX (Af 64 11) 77 11<|Dn (Af 88 11))<|Iq 65 3 77 (.call 182 [64,67] 78 [(some 10),none,none]<|It Q6 [89] 90 (Dn (Af 65 10++[J 3]))<|Iq 81 0 91 (Dn (Af 65 10++[J 4]))<|.loop 92 0 [.nsl,J 0] (.cons 2 (Li Qh [74] 94<|It Q5 [93,94] 95 (Li Qg [74,93] 96<|.lt Qm [96] 97 (some 10)<|Cf 149 Bs ([64]++Af 97 10) 107 11<|It Q7 [128,J 0] 129 (Dn (Af 65 10++[128]))<|Li Qo [92,.agg (Af 118 10)] 130<|Li Q3 [93,J 1] 131<|.again 0 0 [130,131])<|Iq 65 3 96 (Cf 185 Gu (Af 64 11++[92]) 97 11<|Dn (Af 109 11))<|Li Q2 [92,J 0] 97<|Li Ql [92,97] 98<|Iq 65 17 99 (Iq 98 1 100 (Dn (Af 65 10++[J 4]))<|Iq 66 1 101 (Dn (Af 65 10++[J 4]))<|Dn (Af 65 9++[92,J 0]))<|Iq 65 15 100 (Li Q0 [98,J 1] 101<|.call 186 [101] 102 [none]<|Dn ([65,J 1]++Af 67 7++[92,102]))<|Iq 65 16 101 (Li Q1 [98,J 1] 102<|.call 186 [102] 103 [none]<|Dn ([65,98]++Af 67 7++[92,103]))<|It Q4 [65,J 4] 102 (It Q8 [65,J 12] 103 (Li Q2 [92,J 0] 104<|.lt Zq [92,104] 105 (some 10)<|Li Q2 [92,J 1] 115<|Li Ql [92,115] 116<|.call 183 [.agg (Af 105 10),116] 117 [(some 10)]<|Li Q2 [92,J 1] 127<|.lt Zq [92,127] 128 (some 10)<|Li Q2 [92,J 0] 138<|Li Ql [92,138] 139<|.call 183 [.agg (Af 128 10),139] 140 [(some 10)]<|Li Q2 [92,J 0] 150<|Li Zr [92,150,.agg (Af 117 10)] 151<|Li Q2 [92,J 1] 152<|Li Zr [151,152,.agg (Af 140 10)] 153<|Li Q2 [92,J 0] 154<|Li Ql [153,154] 155<|Li Q2 [92,J 1] 156<|Li Ql [153,156] 157<|Li Q9 [155,157] 158<|Iq 65 4 159 (.ite 158 (Li Q1 [155,J 1] 160<|.call 186 [160] 161 [none]<|.chk (.same 92 153)<|Dn ([65,155]++Af 67 7++[153,161]))<|.call 186 [.bool false] 160 [none]<|.chk (.same 92 153)<|Dn ([65,155]++Af 67 7++[153,160]))<|Iq 65 5 160 (.ite 158 (Li Q1 [155,J 1] 161<|.call 186 [161] 162 [none]<|.chk (.same 92 153)<|Dn ([65,155]++Af 67 7++[153,162]))<|.call 186 [.bool false] 161 [none]<|.chk (.same 92 153)<|Dn ([65,155]++Af 67 7++[153,161]))<|Iq 65 6 161 (.ite 158 (Li Q1 [155,J 1] 162<|.call 186 [162] 163 [none]<|.chk (.same 92 153)<|Dn ([65,155]++Af 67 7++[153,163]))<|.call 186 [.bool false] 162 [none]<|.chk (.same 92 153)<|Dn ([65,155]++Af 67 7++[153,162]))<|Iq 65 7 162 (.ite 158 (Li Q1 [155,J 1] 163<|.call 186 [163] 164 [none]<|.chk (.same 92 153)<|Dn ([65,155]++Af 67 7++[153,164]))<|.call 186 [.bool false] 163 [none]<|.chk (.same 92 153)<|Dn ([65,155]++Af 67 7++[153,163]))<|Iq 65 8 163 (.ite 158 (.call 120 [155] 164 [none]<|.call 186 [164] 165 [none]<|.chk (.same 92 153)<|Dn ([65,155]++Af 67 7++[153,165]))<|.call 186 [.bool false] 164 [none]<|.chk (.same 92 153)<|Dn ([65,155]++Af 67 7++[153,164]))<|Iq 65 9 164 (.call 186 [158] 165 [none]<|.chk (.same 92 153)<|Dn ([65,J 1]++Af 67 7++[153,165]))<|Iq 65 10 165 (.call 186 [158] 166 [none]<|.chk (.same 92 153)<|Dn ([65,J 1]++Af 67 7++[153,166]))<|Iq 65 11 166 (.ite 158 (Li Q1 [155,J 1] 167<|.call 186 [167] 168 [none]<|.chk (.same 92 153)<|Dn ([65,J 1]++Af 67 7++[153,168]))<|.call 186 [.bool false] 167 [none]<|.chk (.same 92 153)<|Dn ([65,J 1]++Af 67 7++[153,167]))<|Iq 65 12 167 (.ite 158 (Li Q1 [155,J 1] 168<|.call 186 [168] 169 [none]<|.chk (.same 92 153)<|Dn ([65,J 1]++Af 67 7++[153,169]))<|.call 186 [.bool false] 168 [none]<|.chk (.same 92 153)<|Dn ([65,J 1]++Af 67 7++[153,168]))<|.ite 158 (Li Q0 [155,J 1] 168<|.call 186 [168] 169 [none]<|.chk (.same 92 153)<|Dn ([65,J 1]++Af 67 7++[153,169]))<|.call 186 [.bool false] 168 [none]<|.chk (.same 92 153)<|Dn ([65,J 1]++Af 67 7++[153,168]))<|Li Q2 [92,J 1] 104<|Li Ql [92,104] 105<|Li Q9 [98,105] 106<|Iq 65 4 107 (.ite 106 (Li Q1 [98,J 1] 108<|.call 186 [108] 109 [none]<|Dn ([65,98]++Af 67 7++[92,109]))<|.call 186 [.bool false] 108 [none]<|Dn ([65,98]++Af 67 7++[92,108]))<|Iq 65 5 108 (.ite 106 (Li Q1 [98,J 1] 109<|.call 186 [109] 110 [none]<|Dn ([65,98]++Af 67 7++[92,110]))<|.call 186 [.bool false] 109 [none]<|Dn ([65,98]++Af 67 7++[92,109]))<|Iq 65 6 109 (.ite 106 (Li Q1 [98,J 1] 110<|.call 186 [110] 111 [none]<|Dn ([65,98]++Af 67 7++[92,111]))<|.call 186 [.bool false] 110 [none]<|Dn ([65,98]++Af 67 7++[92,110]))<|Iq 65 7 110 (.ite 106 (Li Q1 [98,J 1] 111<|.call 186 [111] 112 [none]<|Dn ([65,98]++Af 67 7++[92,112]))<|.call 186 [.bool false] 111 [none]<|Dn ([65,98]++Af 67 7++[92,111]))<|Iq 65 8 111 (.ite 106 (.call 120 [98] 112 [none]<|.call 186 [112] 113 [none]<|Dn ([65,98]++Af 67 7++[92,113]))<|.call 186 [.bool false] 112 [none]<|Dn ([65,98]++Af 67 7++[92,112]))<|Iq 65 9 112 (.call 186 [106] 113 [none]<|Dn ([65,J 1]++Af 67 7++[92,113]))<|Iq 65 10 113 (.call 186 [106] 114 [none]<|Dn ([65,J 1]++Af 67 7++[92,114]))<|Iq 65 11 114 (.ite 106 (Li Q1 [98,J 1] 115<|.call 186 [115] 116 [none]<|Dn ([65,J 1]++Af 67 7++[92,116]))<|.call 186 [.bool false] 115 [none]<|Dn ([65,J 1]++Af 67 7++[92,115]))<|Iq 65 12 115 (.ite 106 (Li Q1 [98,J 1] 116<|.call 186 [116] 117 [none]<|Dn ([65,J 1]++Af 67 7++[92,117]))<|.call 186 [.bool false] 116 [none]<|Dn ([65,J 1]++Af 67 7++[92,116]))<|.ite 106 (Li Q0 [98,J 1] 116<|.call 186 [116] 117 [none]<|Dn ([65,J 1]++Af 67 7++[92,117]))<|.call 186 [.bool false] 116 [none]<|Dn ([65,J 1]++Af 67 7++[92,116]))<|Li Q2 [92,J 1] 103<|Li Ql [92,103] 104<|Li Q9 [98,104] 105<|Iq 65 4 106 (.ite 105 (Li Q1 [98,J 1] 107<|.call 186 [107] 108 [none]<|Dn ([65,98]++Af 67 7++[92,108]))<|.call 186 [.bool false] 107 [none]<|Dn ([65,98]++Af 67 7++[92,107]))<|Iq 65 5 107 (.ite 105 (Li Q1 [98,J 1] 108<|.call 186 [108] 109 [none]<|Dn ([65,98]++Af 67 7++[92,109]))<|.call 186 [.bool false] 108 [none]<|Dn ([65,98]++Af 67 7++[92,108]))<|Iq 65 6 108 (.ite 105 (Li Q1 [98,J 1] 109<|.call 186 [109] 110 [none]<|Dn ([65,98]++Af 67 7++[92,110]))<|.call 186 [.bool false] 109 [none]<|Dn ([65,98]++Af 67 7++[92,109]))<|Iq 65 7 109 (.ite 105 (Li Q1 [98,J 1] 110<|.call 186 [110] 111 [none]<|Dn ([65,98]++Af 67 7++[92,111]))<|.call 186 [.bool false] 110 [none]<|Dn ([65,98]++Af 67 7++[92,110]))<|Iq 65 8 110 (.ite 105 (.call 120 [98] 111 [none]<|.call 186 [111] 112 [none]<|Dn ([65,98]++Af 67 7++[92,112]))<|.call 186 [.bool false] 111 [none]<|Dn ([65,98]++Af 67 7++[92,111]))<|Iq 65 9 111 (.call 186 [105] 112 [none]<|Dn ([65,J 1]++Af 67 7++[92,112]))<|Iq 65 10 112 (.call 186 [105] 113 [none]<|Dn ([65,J 1]++Af 67 7++[92,113]))<|Iq 65 11 113 (.ite 105 (Li Q1 [98,J 1] 114<|.call 186 [114] 115 [none]<|Dn ([65,J 1]++Af 67 7++[92,115]))<|.call 186 [.bool false] 114 [none]<|Dn ([65,J 1]++Af 67 7++[92,114]))<|Iq 65 12 114 (.ite 105 (Li Q1 [98,J 1] 115<|.call 186 [115] 116 [none]<|Dn ([65,J 1]++Af 67 7++[92,116]))<|.call 186 [.bool false] 115 [none]<|Dn ([65,J 1]++Af 67 7++[92,115]))<|.ite 105 (Li Q0 [98,J 1] 115<|.call 186 [115] 116 [none]<|Dn ([65,J 1]++Af 67 7++[92,116]))<|.call 186 [.bool false] 115 [none]<|Dn ([65,J 1]++Af 67 7++[92,115])) .nil))<|.loop 78 0 [.nsl,J 0] (.cons 2 (Li Qh [74] 80<|It Q5 [79,80] 81 (Li Qg [74,79] 82<|.lt Qm [82] 83 (some 10)<|Cf 149 Bs ([64]++Af 83 10) 93 11<|It Q7 [114,J 0] 115 (Dn (Af 65 10++[114]))<|Li Qo [78,.agg (Af 104 10)] 116<|Li Q3 [79,J 1] 117<|.again 0 0 [116,117])<|Iq 65 3 82 (Cf 185 Gu (Af 64 11++[78]) 83 11<|Dn (Af 95 11))<|Li Q2 [78,J 0] 83<|Li Ql [78,83] 84<|Iq 65 17 85 (Iq 84 1 86 (Dn (Af 65 10++[J 4]))<|Iq 66 1 87 (Dn (Af 65 10++[J 4]))<|Dn (Af 65 9++[78,J 0]))<|Iq 65 15 86 (Li Q0 [84,J 1] 87<|.call 186 [87] 88 [none]<|Dn ([65,J 1]++Af 67 7++[78,88]))<|Iq 65 16 87 (Li Q1 [84,J 1] 88<|.call 186 [88] 89 [none]<|Dn ([65,84]++Af 67 7++[78,89]))<|It Q4 [65,J 4] 88 (It Q8 [65,J 12] 89 (Li Q2 [78,J 0] 90<|.lt Zq [78,90] 91 (some 10)<|Li Q2 [78,J 1] 101<|Li Ql [78,101] 102<|.call 183 [.agg (Af 91 10),102] 103 [(some 10)]<|Li Q2 [78,J 1] 113<|.lt Zq [78,113] 114 (some 10)<|Li Q2 [78,J 0] 124<|Li Ql [78,124] 125<|.call 183 [.agg (Af 114 10),125] 126 [(some 10)]<|Li Q2 [78,J 0] 136<|Li Zr [78,136,.agg (Af 103 10)] 137<|Li Q2 [78,J 1] 138<|Li Zr [137,138,.agg (Af 126 10)] 139<|Li Q2 [78,J 0] 140<|Li Ql [139,140] 141<|Li Q2 [78,J 1] 142<|Li Ql [139,142] 143<|Li Q9 [141,143] 144<|Iq 65 4 145 (.ite 144 (Li Q1 [141,J 1] 146<|.call 186 [146] 147 [none]<|.chk (.same 78 139)<|Dn ([65,141]++Af 67 7++[139,147]))<|.call 186 [.bool false] 146 [none]<|.chk (.same 78 139)<|Dn ([65,141]++Af 67 7++[139,146]))<|Iq 65 5 146 (.ite 144 (Li Q1 [141,J 1] 147<|.call 186 [147] 148 [none]<|.chk (.same 78 139)<|Dn ([65,141]++Af 67 7++[139,148]))<|.call 186 [.bool false] 147 [none]<|.chk (.same 78 139)<|Dn ([65,141]++Af 67 7++[139,147]))<|Iq 65 6 147 (.ite 144 (Li Q1 [141,J 1] 148<|.call 186 [148] 149 [none]<|.chk (.same 78 139)<|Dn ([65,141]++Af 67 7++[139,149]))<|.call 186 [.bool false] 148 [none]<|.chk (.same 78 139)<|Dn ([65,141]++Af 67 7++[139,148]))<|Iq 65 7 148 (.ite 144 (Li Q1 [141,J 1] 149<|.call 186 [149] 150 [none]<|.chk (.same 78 139)<|Dn ([65,141]++Af 67 7++[139,150]))<|.call 186 [.bool false] 149 [none]<|.chk (.same 78 139)<|Dn ([65,141]++Af 67 7++[139,149]))<|Iq 65 8 149 (.ite 144 (.call 120 [141] 150 [none]<|.call 186 [150] 151 [none]<|.chk (.same 78 139)<|Dn ([65,141]++Af 67 7++[139,151]))<|.call 186 [.bool false] 150 [none]<|.chk (.same 78 139)<|Dn ([65,141]++Af 67 7++[139,150]))<|Iq 65 9 150 (.call 186 [144] 151 [none]<|.chk (.same 78 139)<|Dn ([65,J 1]++Af 67 7++[139,151]))<|Iq 65 10 151 (.call 186 [144] 152 [none]<|.chk (.same 78 139)<|Dn ([65,J 1]++Af 67 7++[139,152]))<|Iq 65 11 152 (.ite 144 (Li Q1 [141,J 1] 153<|.call 186 [153] 154 [none]<|.chk (.same 78 139)<|Dn ([65,J 1]++Af 67 7++[139,154]))<|.call 186 [.bool false] 153 [none]<|.chk (.same 78 139)<|Dn ([65,J 1]++Af 67 7++[139,153]))<|Iq 65 12 153 (.ite 144 (Li Q1 [141,J 1] 154<|.call 186 [154] 155 [none]<|.chk (.same 78 139)<|Dn ([65,J 1]++Af 67 7++[139,155]))<|.call 186 [.bool false] 154 [none]<|.chk (.same 78 139)<|Dn ([65,J 1]++Af 67 7++[139,154]))<|.ite 144 (Li Q0 [141,J 1] 154<|.call 186 [154] 155 [none]<|.chk (.same 78 139)<|Dn ([65,J 1]++Af 67 7++[139,155]))<|.call 186 [.bool false] 154 [none]<|.chk (.same 78 139)<|Dn ([65,J 1]++Af 67 7++[139,154]))<|Li Q2 [78,J 1] 90<|Li Ql [78,90] 91<|Li Q9 [84,91] 92<|Iq 65 4 93 (.ite 92 (Li Q1 [84,J 1] 94<|.call 186 [94] 95 [none]<|Dn ([65,84]++Af 67 7++[78,95]))<|.call 186 [.bool false] 94 [none]<|Dn ([65,84]++Af 67 7++[78,94]))<|Iq 65 5 94 (.ite 92 (Li Q1 [84,J 1] 95<|.call 186 [95] 96 [none]<|Dn ([65,84]++Af 67 7++[78,96]))<|.call 186 [.bool false] 95 [none]<|Dn ([65,84]++Af 67 7++[78,95]))<|Iq 65 6 95 (.ite 92 (Li Q1 [84,J 1] 96<|.call 186 [96] 97 [none]<|Dn ([65,84]++Af 67 7++[78,97]))<|.call 186 [.bool false] 96 [none]<|Dn ([65,84]++Af 67 7++[78,96]))<|Iq 65 7 96 (.ite 92 (Li Q1 [84,J 1] 97<|.call 186 [97] 98 [none]<|Dn ([65,84]++Af 67 7++[78,98]))<|.call 186 [.bool false] 97 [none]<|Dn ([65,84]++Af 67 7++[78,97]))<|Iq 65 8 97 (.ite 92 (.call 120 [84] 98 [none]<|.call 186 [98] 99 [none]<|Dn ([65,84]++Af 67 7++[78,99]))<|.call 186 [.bool false] 98 [none]<|Dn ([65,84]++Af 67 7++[78,98]))<|Iq 65 9 98 (.call 186 [92] 99 [none]<|Dn ([65,J 1]++Af 67 7++[78,99]))<|Iq 65 10 99 (.call 186 [92] 100 [none]<|Dn ([65,J 1]++Af 67 7++[78,100]))<|Iq 65 11 100 (.ite 92 (Li Q1 [84,J 1] 101<|.call 186 [101] 102 [none]<|Dn ([65,J 1]++Af 67 7++[78,102]))<|.call 186 [.bool false] 101 [none]<|Dn ([65,J 1]++Af 67 7++[78,101]))<|Iq 65 12 101 (.ite 92 (Li Q1 [84,J 1] 102<|.call 186 [102] 103 [none]<|Dn ([65,J 1]++Af 67 7++[78,103]))<|.call 186 [.bool false] 102 [none]<|Dn ([65,J 1]++Af 67 7++[78,102]))<|.ite 92 (Li Q0 [84,J 1] 102<|.call 186 [102] 103 [none]<|Dn ([65,J 1]++Af 67 7++[78,103]))<|.call 186 [.bool false] 102 [none]<|Dn ([65,J 1]++Af 67 7++[78,102]))<|Li Q2 [78,J 1] 89<|Li Ql [78,89] 90<|Li Q9 [84,90] 91<|Iq 65 4 92 (.ite 91 (Li Q1 [84,J 1] 93<|.call 186 [93] 94 [none]<|Dn ([65,84]++Af 67 7++[78,94]))<|.call 186 [.bool false] 93 [none]<|Dn ([65,84]++Af 67 7++[78,93]))<|Iq 65 5 93 (.ite 91 (Li Q1 [84,J 1] 94<|.call 186 [94] 95 [none]<|Dn ([65,84]++Af 67 7++[78,95]))<|.call 186 [.bool false] 94 [none]<|Dn ([65,84]++Af 67 7++[78,94]))<|Iq 65 6 94 (.ite 91 (Li Q1 [84,J 1] 95<|.call 186 [95] 96 [none]<|Dn ([65,84]++Af 67 7++[78,96]))<|.call 186 [.bool false] 95 [none]<|Dn ([65,84]++Af 67 7++[78,95]))<|Iq 65 7 95 (.ite 91 (Li Q1 [84,J 1] 96<|.call 186 [96] 97 [none]<|Dn ([65,84]++Af 67 7++[78,97]))<|.call 186 [.bool false] 96 [none]<|Dn ([65,84]++Af 67 7++[78,96]))<|Iq 65 8 96 (.ite 91 (.call 120 [84] 97 [none]<|.call 186 [97] 98 [none]<|Dn ([65,84]++Af 67 7++[78,98]))<|.call 186 [.bool false] 97 [none]<|Dn ([65,84]++Af 67 7++[78,97]))<|Iq 65 9 97 (.call 186 [91] 98 [none]<|Dn ([65,J 1]++Af 67 7++[78,98]))<|Iq 65 10 98 (.call 186 [91] 99 [none]<|Dn ([65,J 1]++Af 67 7++[78,99]))<|Iq 65 11 99 (.ite 91 (Li Q1 [84,J 1] 100<|.call 186 [100] 101 [none]<|Dn ([65,J 1]++Af 67 7++[78,101]))<|.call 186 [.bool false] 100 [none]<|Dn ([65,J 1]++Af 67 7++[78,100]))<|Iq 65 12 100 (.ite 91 (Li Q1 [84,J 1] 101<|.call 186 [101] 102 [none]<|Dn ([65,J 1]++Af 67 7++[78,102]))<|.call 186 [.bool false] 101 [none]<|Dn ([65,J 1]++Af 67 7++[78,101]))<|.ite 91 (Li Q0 [84,J 1] 101<|.call 186 [101] 102 [none]<|Dn ([65,J 1]++Af 67 7++[78,102]))<|.call 186 [.bool false] 101 [none]<|Dn ([65,J 1]++Af 67 7++[78,101])) .nil)
def P8 (k:Int):AQ 120 [.int .i64 k] (.bool (decide (k=2\/k=3\/k=4))):=by
 refine BV [none] [.int .i64 k] pY gr rfl rfl rfl rfl rfl (by kernel_rfl) λY hf hg=>?_;unfold gr
 (refine d_ rfl rfl ?_ ?_<;>intro h<;>try omega)
 .refine As ?_;show AV.bool _=_
  congr 1;symm;simp only [AJ];omega
 (refine d_ rfl rfl ?_ ?_<;>intro h<;>try omega)
 .refine As ?_;show AV.bool _=_
  congr 1;symm;simp only [AJ];omega
 refine Aa (Aw ..) rfl (As ?_);show AV.bool _=_
 congr 1
 refine decide_eq_decide.2 ?_;omega
def gD {b:Bool} (h:(if b=true then (0:Int)else 4)=0):b=true:=by
 cases b with
 |true=>rfl
 |false=>simp at h
section
variable {P:Program} {Q:AV->Prop} {L:List (Nat->List AV->Prop)} {Y:Sy} {i:Nat} {A B:VT}
def Jb {p:Prop} [Decidable p] (h0:Y.v i=some (.bool (decide p))) (h1:p->AB P Q L Y A) (h2:¬p->AB P Q L Y B):AB P Q L Y (.ite i A B):=
 AC h0 (λh=>h1 (AR h)) (λh=>h2 (Cy h))
end
def RE (d:Nat) (x:GX):Nat->List AV->Prop:=λ_ ws=>∃(y:GX) (e:Int),ws=v_ y++[.int .i64 e]/\(e=0->TX d y/\y.op=x.op/\NT x y)
def Fm {d j:Nat} {x y:GX} {e:Int} {hv:List AV} {Y:Sy} {L:List (Nat->List AV->Prop)} (h:Am Y.v hv=v_ y++[.int .i64 e]) (hw:e=0->TX d y/\y.op=x.op/\NT x y):AB Tryz.prog (QF (RE d x)) L Y (.done (.tup (.int .i64 (.ofNat j)::hv))):=
 Ai (by rw [h];exact K4 y e) ⟨y,e,h,hw⟩
def RM (x:GX) (k:Int):Nat->List AV->Prop:=λ_ ws=>∃e:Int,ws=(match x with| .mk op _ nm fd _ _ vk vi vf ag=>v_ (.mk op 2 nm fd 8 4 vk vi vf ag))++[.int .i64 e]/\(e=0->k=2\/k=3)
def sf (op kd:Int) (nm fd:List UInt8) (ad n vk vi:Int) (vf:Nat) (ag:List GX) (y:GX) (h:nm=[107]):A6 185 Gu (VARS::(v_ (.mk op kd nm fd ad n vk vi vf ag)++[Db [y]])) (RM (.mk op kd nm fd ad n vk vi vf [y]) y.kd):=by
 subst h;obtain ⟨yo,yk,ynm,yfd,yad,yn,yvk,yvi,yvf,ya⟩:=y;refine BU zV kF rfl rfl (by kernel_rfl) λY hf hg=>?_;unfold kF;refine Ar XM rfl rfl (Aa rfl rfl (AC rfl (λh=>by cases h) (λ_=>Aa rfl rfl (AC rfl (λ_=>?_) (λh=>by cases h)))));refine Aa (r:=.vptr (v_ (.mk yo yk ynm yfd yad yn yvk yvi yvf ya)++G2 [])) rfl (by show Ak _=true;exact A5.okL_join (BT _) (K5 _)) ?_;refine Aa (r:=.vptr [.int .i64 yk,.str ynm,.str yfd,.int .i64 yad,.int .i64 yn,.int .i64 yvk,.int .i64 yvi,.flt .f64 yvf,Db ya]) rfl (by simp only [okC,Ak,D4]) (Aa (r:=.int .i64 yk) rfl rfl ?_)
 (refine d_ rfl rfl ?_ ?_<;>intro h<;>try omega)
 refine Ar (Wj true) rfl rfl (Ai (by show Ak (v_ (.mk op 2 [107] fd 8 4 vk vi vf [_])++[_])=true;exact K4 _ _) ⟨_,rfl,λ_=>.inl h⟩);refine Aa (r:=.vptr (v_ (.mk yo yk ynm yfd yad yn yvk yvi yvf ya)++G2 [])) rfl (by show Ak _=true;exact A5.okL_join (BT _) (K5 _)) ?_;refine Aa (r:=.vptr [.int .i64 yk,.str ynm,.str yfd,.int .i64 yad,.int .i64 yn,.int .i64 yvk,.int .i64 yvi,.flt .f64 yvf,Db ya]) rfl (by simp only [okC,Ak,D4]) (Aa (r:=.int .i64 yk) rfl rfl ?_);refine Aa (Aw ..) rfl (Ar (Wj _) rfl rfl (Ai (by show Ak (v_ (.mk op 2 [107] fd 8 4 vk vi vf [_])++[_])=true;exact K4 _ _) ⟨_,rfl,λh=>.inr ?_⟩));exact AR (gD h)
def I_ (l:List GX):(XOp.len 106).run Tryz.prog [Db l]=some (.int .i64 (l.length:Int)):=by rw [OY];exact Uo Tryz.underlying106 l
def O_ (l:List GX) {i:Nat} (h:i<l.length):(XOp.iaddr 106).run Tryz.prog [Db l,.int .i64 (i:Int)]=some (.vptr (Ay v_ (l.drop i))):=by rw [OY];exact Bb (e:=108) (ti:=(Tryz.prog.info? 108).get!) Tryz.underlying106 (by kernel_rfl) (by kernel_rfl) Fa h .i64
def Jf (l:List GX) {i:Nat} (h:i<l.length):(XOp.load 108).run Tryz.prog [.vptr (Ay v_ (l.drop i))]=some (.agg (v_ l[i])):=
 Bv (ti:=(Tryz.prog.info? 108).get!) Tryz.underlying108 rfl (by kernel_rfl) (by kernel_rfl) Fa h
def N5 (l:List GX) (s:GX) (hl:l.length<=100000):(XOp.app 10 112).run Tryz.prog [Db l,.agg (v_ s)]=some (Db (l++[s])):=by rw [OY,OY];exact SZ Fa (by decide) (by decide) l s (by omega)
def pE (l:List GX) {i:Nat} (hi:i<l.length) (y:GX) (k:IntKind):(XOp.stx 108 10 0).run Tryz.prog [Db l,.int k (i:Int),.agg (v_ y)]=some (Db (l.set i y)):=by rw [OY,OY];exact EL (ti:=(Tryz.prog.info? 108).get!) Fa hi (p:=[]) (q:=v_ l[i]) (r:=[]) (xs:=v_ y) rfl (.inl rfl) (by kernel_rfl) (by rw [Fa];kernel_rfl) (Yp (BT _)) (by simp) rfl (by rw [Fa,Fa]) (by simp) k
def QZ (x:GX):Ak (v_ x++[])=true:=by rw [List.append_nil];exact BT x
def typ (b:Bool):Int:=if b=true then 0 else 4
def Sj {b:Bool} (h:typ b=0):b=true:=gD h
def RY (b:Bool):AQ 186 [.bool b] (.int .i64 (typ b)):=Wj b
attribute [irreducible] typ
def Nj {d:Nat} {op kd ad n vk vi:Int} {nm fd:List UInt8} {vf:Nat} {y:GX} (hf:NZ vf) (hy:TX d y) (ho:op=15/\kd=1/\y.kd=1\/op=16/\kd=y.kd/\y.kd≠1\/op=17/\2<=kd/\kd<=5/\y.kd≠1):TX (d+1) (.mk op kd nm fd ad n vk vi vf [y]):=by have hk:=pj hy;refine ⟨.inr (.inl ⟨by omega,rfl⟩),hf,by omega,by omega,⟨λh=>by omega,λh=>by omega,λh=>by omega,λh=>by omega,λh=>?_,λh=>?_,λh=>?_⟩,λa ha=>by cases List.mem_singleton.1 ha;exact hy⟩;exact ⟨by omega,by show [y.kd]=[1];congr 1;omega⟩;exact ⟨by show [y.kd]=[kd];congr 1;omega,by omega,by omega⟩;exact ⟨by omega,by omega,y.kd,rfl,by omega,by omega⟩
def kO {d:Nat} {op kd ad n vk vi:Int} {nm fd:List UInt8} {vf:Nat} {y z:GX} (hf:NZ vf) (hy:TX d y) (hz:TX d z) (ho:4<=op/\op<=14) (hk:y.kd=z.kd) (h1:op<=8->kd=y.kd/\y.kd≠1) (h2:9<=op->kd=1) (h3:op=8->y.kd≠5) (h4:op=11\/op=12->y.kd≠1) (h5:13<=op->y.kd=1):TX (d+1) (.mk op kd nm fd ad n vk vi vf [y,z]):=by
 have hy1:=pj hy
 refine ⟨.inr (.inr ⟨ho,rfl⟩),hf,by omega,by omega,⟨λh=>by omega,λh=>by omega,λh=>by omega,λh=>?_,λh=>by omega,λh=>by omega,λh=>by omega⟩,λa ha=>by
  rcases List.mem_cons.1 ha with rfl|ha;exact hy
  .cases List.mem_singleton.1 ha;exact hz⟩
 exact ⟨y.kd,by show [y.kd,z.kd]=_;rw [←hk],hy1.1,hy1.2,h1,h2,h3,h4,h5⟩
def Oo:∀(d:Nat) (x:GX),WX d x->A6 149 Bs (VARS::v_ x) (RE d x)
 |0,_,h=>h.elim
 |d+1,.mk op kd nm fd ad n vk vi vf ag,hx=>by
  obtain ⟨hA,hF,⟨n1,n2,n3,n4⟩,hW⟩:=hx;have ih:=λ(z:GX) (hz:z∈ag)=>Oo d z (hW z hz);have hal:ag.length<=2:=(by unfold Cz at hA;omega);refine BU tT gS rfl rfl (by kernel_rfl) λY hf hg=>?_;unfold gS
  (refine d_ rfl rfl ?_ ?_<;>intro h<;>try omega)
  .subst h;have hl:ag=[]:=(by unfold Cz at hA;exact List.length_eq_zero_iff.1 (by omega));subst hl;refine Fm (y:=.mk 1 vk nm fd ad n vk vi vf []) rfl (λ_=>⟨⟨hA,hF,?_,?_,?_,λa ha=>(za' ha).elim⟩,rfl,λh=>by omega⟩);all_goals obtain ⟨m1,m2,m3,m4,m5,m6⟩:=n1 rfl
   omega;omega;exact ⟨λ_=>⟨rfl,by omega,by omega,m2,m3,m4,m5,m6⟩,λh=>by omega,λh=>by omega,λh=>by omega,λh=>by omega,λh=>by omega,λh=>by omega⟩
  (refine d_ rfl rfl ?_ ?_<;>intro h<;>try omega)
  subst h;have hl:ag=[]:=(by unfold Cz at hA;exact List.length_eq_zero_iff.1 (by omega));subst hl;refine a_ (JG_ 2 kd nm fd ad n vk vi vf [] (n2 rfl)) rfl (by show Ak (VARS::v_ (.mk 2 kd nm fd ad n vk vi vf []))=true;rw [CL];exact BT _) ⟨?_,trivial⟩;rintro ws ⟨ad1,kd1,rfl,hc⟩;have hc':(ad1,kd1)∈IF:=GM _ hc;refine Fm (y:=.mk 2 kd1 nm fd ad1 n vk vi vf []) rfl (λ_=>⟨⟨hA,hF,?_,?_,⟨λh=>by omega,λ_=>hc',λh=>by omega,λh=>by omega,λh=>by omega,λh=>by omega,λh=>by omega⟩,λa ha=>(za' ha).elim⟩,rfl,λ_=>hc⟩);simp [IF]at hc';omega;simp [IF]at hc';omega
  (refine d_ rfl rfl ?_ ?_<;>intro h<;>try omega)
  .subst h;cases n3 rfl;refine Ar XM rfl rfl (Aa rfl rfl (AC rfl (λh=>by cases h) (λ_=>Aa rfl rfl (AC rfl (λh=>by cases h) (λ_=>?_)))));refine D3 (ι:=List GX×Nat) (λs=>[Db s.1,.int .i64 (s.2:Int)]) (λs=>s.1.length=s.2/\s.2<=ag.length/\∀a∈s.1,TX d a) (λs=>ag.length-s.2) ([],0) ⟨rfl,zb' _,λa ha=>(za' ha).elim⟩ rfl (λs _=>by simp only [Ak,okC,D4]) (λs s' _ _ h=>by simp at h;omega) (λs hs=>?_);obtain ⟨acc,i⟩:=s;obtain ⟨h1,h2,h3⟩:=hs;simp only at h1 h2 h3⊢;refine Aa (I_ ag) rfl ?_
   (refine d_ rfl rfl ?_ ?_<;>intro h<;>try omega)
   .have hi:i<ag.length:=(by omega);have hld:=Jf ag hi;have hz:=ih ag[i] (zc' hi);rcases hzz:ag[i]with ⟨zo,zk,znm,zfd,zad,zn,zvk,zvi,zvf,za⟩;rw [hzz]at hld hz;refine Aa (O_ ag hi) (A5 BT _) (B3 hld rfl (BT _) ?_);refine a_ hz rfl (by show Ak (VARS::v_ (.mk zo zk znm zfd zad zn zvk zvi zvf za))=true;rw [CL];exact BT _) ⟨?_,trivial⟩;rintro ws ⟨⟨yo,yk,ynm,yfd,yad,yn,yvk,yvi,yvf,ya⟩,e,rfl,hy⟩
    (refine d_ rfl rfl ?_ ?_<;>intro h<;>try omega)
    exact Fm (y:=.mk ..) rfl (λhe=>absurd he h);refine Aa (N5 acc (.mk yo yk ynm yfd yad yn yvk yvi yvf ya) (by omega)) (D4 _) (Aa (q_ (by omega) (by omega)) rfl (CX rfl ⟨(acc++[_],i+1),⟨by simp;omega,hi,?_⟩,rfl,by simp only;omega⟩));intro a ha;rcases List.mem_append.1 ha with ha|ha;exact h3 a ha;cases List.mem_singleton.1 ha;exact (hy h).1
   have hi:i=ag.length:=(by omega);subst hi;have ha1:acc.length=1:=(by unfold Cz at hA;omega);obtain ⟨y,rfl⟩:=List.length_eq_one_iff.1 ha1;have hy:=h3 y (List.mem_singleton.2 rfl);obtain ⟨yo,yk,ynm,yfd,yad,yn,yvk,yvi,yvf,ya⟩:=y
   (refine d_ rfl rfl ?_ ?_<;>intro h<;>try omega)
   refine a_ (sf 3 kd [107] fd ad n vk vi vf ag _ rfl) rfl (by show Ak (VARS::(v_ (.mk 3 kd [107] fd ad n vk vi vf ag)++[Db _]))=true;rw [CL];exact A5.okL_join (BT _) (by simp only [Ak,D4])) ⟨?_,trivial⟩;rintro ws ⟨e,rfl,he⟩;refine Fm (y:=.mk 3 2 [107] fd 8 4 vk vi vf [.mk ..]) rfl (λh=>⟨⟨.inr (.inl ⟨.inl rfl,rfl⟩),hF,by decide,by decide,⟨λh=>by omega,λh=>by omega,λ_=>⟨rfl,rfl,rfl,_,rfl,he h⟩,λh=>by omega,λh=>by omega,λh=>by omega,λh=>by omega⟩,λa ha=>by cases List.mem_singleton.1 ha;exact hy⟩,rfl,λh=>by omega⟩)
  .refine D3 (ι:=List GX×Nat) (λs=>[Db s.1,.int .i64 (s.2:Int)]) (λs=>s.1.length=s.2/\s.2<=ag.length/\∀a∈s.1,TX d a) (λs=>ag.length-s.2) ([],0) ⟨rfl,zb' _,λa ha=>(za' ha).elim⟩ rfl (λs _=>by simp only [Ak,okC,D4]) (λs s' _ _ h=>by simp at h;omega) (λs hs=>?_);obtain ⟨acc,i⟩:=s;obtain ⟨h1,h2,h3⟩:=hs;simp only at h1 h2 h3⊢;refine Aa (I_ ag) rfl ?_
   (refine d_ rfl rfl ?_ ?_<;>intro h<;>try omega)
   .have hi:i<ag.length:=(by omega);have hld:=Jf ag hi;have hz:=ih ag[i] (zc' hi);rcases hzz:ag[i]with ⟨zo,zk,znm,zfd,zad,zn,zvk,zvi,zvf,za⟩;rw [hzz]at hld hz;refine Aa (O_ ag hi) (A5 BT _) (B3 hld rfl (BT _) ?_);refine a_ hz rfl (by show Ak (VARS::v_ (.mk zo zk znm zfd zad zn zvk zvi zvf za))=true;rw [CL];exact BT _) ⟨?_,trivial⟩;rintro ws ⟨⟨yo,yk,ynm,yfd,yad,yn,yvk,yvi,yvf,ya⟩,e,rfl,hy⟩
    (refine d_ rfl rfl ?_ ?_<;>intro h<;>try omega)
    exact Fm (y:=.mk ..) rfl (λhe=>absurd he h);refine Aa (N5 acc (.mk yo yk ynm yfd yad yn yvk yvi yvf ya) (by omega)) (D4 _) (Aa (q_ (by omega) (by omega)) rfl (CX rfl ⟨(acc++[_],i+1),⟨by simp;omega,hi,?_⟩,rfl,by simp only;omega⟩));intro a ha;rcases List.mem_append.1 ha with ha|ha;exact h3 a ha;cases List.mem_singleton.1 ha;exact (hy h).1
   have hi:i=ag.length:=(by omega);subst hi;by_cases hop:15<=op
   .have hop2:op=15\/op=16\/op=17:=(by unfold Cz at hA;omega);have ha1:acc.length=1:=(by unfold Cz at hA;omega);obtain ⟨y,rfl⟩:=List.length_eq_one_iff.1 ha1;have hy:=h3 y (List.mem_singleton.2 rfl);obtain ⟨yo,yk,ynm,yfd,yad,yn,yvk,yvi,yvf,ya⟩:=y;have n4':op=17->2<=kd/\kd<=5:=n4;rcases hop2 with rfl|rfl|rfl
    ·(refine d_ rfl rfl ?_ ?_<;>intro h<;>try omega)
     refine Aa (r:=.int .i64 0) rfl rfl (Aa (r:=.int .i64 yk) rfl rfl ?_);repeat' (first
               |(refine d_ rfl rfl ?_ ?_<;>intro h<;>try omega)
               |refine Ar (RY _) rfl rfl ?_
               |refine Ar (P8 _) rfl rfl ?_
               |refine Cg (.inr ⟨_,_,_,_,rfl,rfl⟩) ?_
               |refine Jb rfl (λh=>?_) (λh=>?_)
               |refine Aa (Aw ..) rfl ?_
               |refine Aa (Av ..) rfl ?_)
     all_goals (first
                 |exact Fm (y:=.mk ..) rfl (λhe=>absurd he (by decide))
                 |(refine Fm (y:=.mk _ _ _ _ _ _ _ _ _ [.mk ..]) rfl (λhe=>?_)
                   have he2:=Sj he;simp only [AJ,Bool.not_eq_true',AP]at he2;refine ⟨Nj hF hy ?_,rfl,λh=>by omega⟩;dsimp only [GX.kd];omega)
                 |(refine Fm (y:=.mk _ _ _ _ _ _ _ _ _ [.mk ..]) rfl (λhe=>?_)
                   refine ⟨Nj hF hy ?_,rfl,λh=>by omega⟩;dsimp only [GX.kd];omega))
    ·(refine d_ rfl rfl ?_ ?_<;>intro h<;>try omega)
     refine Aa (r:=.int .i64 0) rfl rfl (Aa (r:=.int .i64 yk) rfl rfl ?_);repeat' (first
               |(refine d_ rfl rfl ?_ ?_<;>intro h<;>try omega)
               |refine Ar (RY _) rfl rfl ?_
               |refine Ar (P8 _) rfl rfl ?_
               |refine Cg (.inr ⟨_,_,_,_,rfl,rfl⟩) ?_
               |refine Jb rfl (λh=>?_) (λh=>?_)
               |refine Aa (Aw ..) rfl ?_
               |refine Aa (Av ..) rfl ?_)
     all_goals (first
                 |exact Fm (y:=.mk ..) rfl (λhe=>absurd he (by decide))
                 |(refine Fm (y:=.mk _ _ _ _ _ _ _ _ _ [.mk ..]) rfl (λhe=>?_)
                   have he2:=Sj he;simp only [AJ,Bool.not_eq_true',AP]at he2;refine ⟨Nj hF hy ?_,rfl,λh=>by omega⟩;dsimp only [GX.kd];omega)
                 |(refine Fm (y:=.mk _ _ _ _ _ _ _ _ _ [.mk ..]) rfl (λhe=>?_)
                   refine ⟨Nj hF hy ?_,rfl,λh=>by omega⟩;dsimp only [GX.kd];omega))
    ·(refine d_ rfl rfl ?_ ?_<;>intro h<;>try omega)
     have n5:=n4 rfl;refine Aa (r:=.int .i64 0) rfl rfl (Aa (r:=.int .i64 yk) rfl rfl ?_);repeat' (first
               |(refine d_ rfl rfl ?_ ?_<;>intro h<;>try omega)
               |refine Ar (RY _) rfl rfl ?_
               |refine Ar (P8 _) rfl rfl ?_
               |refine Cg (.inr ⟨_,_,_,_,rfl,rfl⟩) ?_
               |refine Jb rfl (λh=>?_) (λh=>?_)
               |refine Aa (Aw ..) rfl ?_
               |refine Aa (Av ..) rfl ?_)
     all_goals (first
                 |exact Fm (y:=.mk ..) rfl (λhe=>absurd he (by decide))
                 |(refine Fm (y:=.mk _ _ _ _ _ _ _ _ _ [.mk ..]) rfl (λhe=>?_)
                   have he2:=Sj he;simp only [AJ,Bool.not_eq_true',AP]at he2;refine ⟨Nj hF hy ?_,rfl,λh=>by omega⟩;dsimp only [GX.kd];omega)
                 |(refine Fm (y:=.mk _ _ _ _ _ _ _ _ _ [.mk ..]) rfl (λhe=>?_)
                   refine ⟨Nj hF hy ?_,rfl,λh=>by omega⟩;dsimp only [GX.kd];omega))
   .have hop2:4<=op/\op<=14:=(by unfold Cz at hA;omega);have ha1:acc.length=2:=(by unfold Cz at hA;omega);obtain ⟨y,z,rfl⟩:∃y z,acc=[y,z]:=by
     rcases acc with _|⟨y,_|⟨z,_|⟨w,t⟩⟩⟩<;>simp at ha1
     exact ⟨y,z,rfl⟩
    have hy:=h3 y (ze' ..);have hz:=h3 z (zf' _ (List.mem_singleton.2 rfl));obtain ⟨yo,yk,ynm,yfd,yad,yn,yvk,yvi,yvf,ya⟩:=y;obtain ⟨zo,zk,znm,zfd,zad,zn,zvk,zvi,zvf,za⟩:=z
    (refine d_ rfl rfl ?_ ?_<;>intro h<;>try omega)
    refine Aa (r:=.int .i64 0) rfl rfl (Aa (r:=.int .i64 yk) rfl rfl ?_)
    (refine d_ rfl rfl ?_ ?_<;>intro h<;>try omega);(refine d_ rfl rfl ?_ ?_<;>intro h<;>try omega);(refine d_ rfl rfl ?_ ?_<;>intro h<;>try omega);(refine d_ rfl rfl ?_ ?_<;>intro h<;>try omega)
    (refine d_ rfl rfl ?_ ?_<;>intro h<;>try omega)
    .refine Aa (r:=.int .i64 0) rfl rfl (B3 (cs:=v_ (.mk yo yk ynm yfd yad yn yvk yvi yvf ya)) rfl rfl (BT _) (Aa (r:=.int .i64 1) rfl rfl (Aa (r:=.int .i64 zk) rfl rfl ?_)));obtain ⟨⟨yo1,yk1,ynm1,yfd1,yad1,yn1,yvk1,yvi1,yvf1,ya1⟩,hp1,hy1⟩:=RH _ zk hy;refine Ar hp1 rfl (QZ _) ?_;refine Aa (r:=.int .i64 1) rfl rfl (B3 (cs:=v_ (.mk zo zk znm zfd zad zn zvk zvi zvf za)) rfl rfl (BT _) (Aa (r:=.int .i64 0) rfl rfl (Aa (r:=.int .i64 yk) rfl rfl ?_)));obtain ⟨⟨zo1,zk1,znm1,zfd1,zad1,zn1,zvk1,zvi1,zvf1,za1⟩,hp2,hz1⟩:=RH _ yk hz;refine Ar hp2 rfl (QZ _) ?_;clear hy hz;have hy:=hy1;have hz:=hz1;refine Aa (r:=.int .i64 0) rfl rfl (Aa (r:=Db [.mk yo1 yk1 ynm1 yfd1 yad1 yn1 yvk1 yvi1 yvf1 ya1,.mk zo zk znm zfd zad zn zvk zvi zvf za]) (pE [(.mk yo yk ynm yfd yad yn yvk yvi yvf ya),(.mk zo zk znm zfd zad zn zvk zvi zvf za)] (i:=0) (by simp) (.mk yo1 yk1 ynm1 yfd1 yad1 yn1 yvk1 yvi1 yvf1 ya1) .i64) (D4 _) (Aa (r:=.int .i64 1) rfl rfl (Aa (r:=Db [.mk yo1 yk1 ynm1 yfd1 yad1 yn1 yvk1 yvi1 yvf1 ya1,.mk zo1 zk1 znm1 zfd1 zad1 zn1 zvk1 zvi1 zvf1 za1]) (pE [(.mk yo1 yk1 ynm1 yfd1 yad1 yn1 yvk1 yvi1 yvf1 ya1),(.mk zo zk znm zfd zad zn zvk zvi zvf za)] (i:=1) (by simp) (.mk zo1 zk1 znm1 zfd1 zad1 zn1 zvk1 zvi1 zvf1 za1) .i64) (D4 _) ?_)));refine Aa (r:=.int .i64 0) rfl rfl (Aa (r:=.int .i64 yk1) rfl rfl (Aa (r:=.int .i64 1) rfl rfl (Aa (r:=.int .i64 zk1) rfl rfl ?_)));repeat' (first
               |(refine d_ rfl rfl ?_ ?_<;>intro h<;>try omega)
               |refine Ar (RY _) rfl rfl ?_
               |refine Ar (P8 _) rfl rfl ?_
               |refine Cg (.inr ⟨_,_,_,_,rfl,rfl⟩) ?_
               |refine Jb rfl (λh=>?_) (λh=>?_)
               |refine Aa (Aw ..) rfl ?_
               |refine Aa (Av ..) rfl ?_)
     all_goals (
                refine Fm (y:=.mk _ _ _ _ _ _ _ _ _ [.mk ..,.mk ..]) rfl (λhe=>?_);have he2:=Sj he;first
                 |(exact absurd he2 (by decide))
                 |(simp only [AJ,Bool.not_eq_true',AP]at he2
                   exact ⟨kO hF hy hz (by omega) (by dsimp only [GX.kd];omega) (by dsimp only [GX.kd];omega) (by omega) (by dsimp only [GX.kd];omega) (by dsimp only [GX.kd];omega) (by dsimp only [GX.kd];omega),rfl,λh=>by omega⟩))
    .refine Aa (r:=.int .i64 1) rfl rfl (Aa (r:=.int .i64 zk) rfl rfl ?_);repeat' (first
               |(refine d_ rfl rfl ?_ ?_<;>intro h<;>try omega)
               |refine Ar (RY _) rfl rfl ?_
               |refine Ar (P8 _) rfl rfl ?_
               |refine Cg (.inr ⟨_,_,_,_,rfl,rfl⟩) ?_
               |refine Jb rfl (λh=>?_) (λh=>?_)
               |refine Aa (Aw ..) rfl ?_
               |refine Aa (Av ..) rfl ?_)
     all_goals (
                refine Fm (y:=.mk _ _ _ _ _ _ _ _ _ [.mk ..,.mk ..]) rfl (λhe=>?_);have he2:=Sj he;first
                 |(exact absurd he2 (by decide))
                 |(simp only [AJ,Bool.not_eq_true',AP]at he2
                   exact ⟨kO hF hy hz (by omega) (by dsimp only [GX.kd];omega) (by dsimp only [GX.kd];omega) (by omega) (by dsimp only [GX.kd];omega) (by dsimp only [GX.kd];omega) (by dsimp only [GX.kd];omega),rfl,λh=>by omega⟩))
def sg:VC:=⟨⟨[],[]⟩,[(182,[(some 10),none,none]),(183,[(some 10)])],[],0,true,[(149,Bs)]⟩
def ge:VT:=Cf 149 Bs ([64]++Af 76 10) 92 11<|It Q7 [113,J 0] 114 (Dn (Af 65 27++[113]))<|Cf 149 Bs ([64]++Af 66 10) 115 11<|It Q7 [136,J 0] 137 (Dn (Af 65 27++[136]))<|.call 182 [64,68] 138 [(some 10),none,none]<|It (.bin .neq 9 false true) [69,.str []] 150 (Dn (Af 65 27++[J 4]))<|Iq 139 1 151 (Dn (Af 65 27++[J 13]))<|.call 183 [.agg (Af 103 10),127] 152 [(some 10)]<|It Qd [153,127] 162 (Dn (Af 65 27++[J 4]))<|Dn ([65]++Af 126 10++Af 152 10++Af 86 6++[J 0])
def qX:VC:=⟨⟨[],[]⟩,[(182,[(some 10),none,none]),(183,[(some 10)]),(74,[none])],[(0,[⟨[(4,.ptr 1 0),(3,.ptr 0 0),(9,.slx 3 1 0),(10,.slx 4 10 1),(11,.slx 2 0 0),(0,64),(7,102),(6,.ptr 2 0)],[(1,[J 0,J 0,J 0,.str [],.str [],J 0,J 0,J 0,J 0,.flt .f64 0,.nsl,J 0,J 0,.str [],.str [],J 0,J 0,J 0,J 0,.flt .f64 0,.nsl,.nsl,.nsl,.str [],J 0,J 0,.nsl]),(0,[65,66,67,68,69,70,71,72,73,74,75,76,77,78,79,80,81,82,83,84,85,86,87,88,89,90,91]),(2,[92,93,94,95,96,97,98,99,100,101])],5,3,[⟨3,1,0,9,none⟩,⟨4,10,1,10,none⟩],[],[]⟩]),(2,[⟨[(4,.ptr 1 0),(3,.ptr 0 0),(14,.slx 0 0 0),(9,.slx 3 1 1),(10,.slx 4 10 2),(6,.ptr 2 0),(7,102)],[(1,[J 0,J 0,J 0,.str [],.str [],J 0,J 0,J 0,J 0,.flt .f64 0,.nsl,J 0,J 0,.str [],.str [],J 0,J 0,J 0,J 0,.flt .f64 0,.nsl,.nsl,.nsl,.str [],J 0,J 0,.nsl]),(0,[65,66,67,68,69,70,71,72,73,74,75,76,77,78,79,80,81,82,83,84,85,86,87,88,89,90,91]),(2,[92,93,94,95,96,97,98,99,100,101])],5,3,[⟨3,1,1,9,none⟩,⟨4,10,2,10,none⟩],[],[]⟩])],0,true,[(149,Bs)]⟩
def gL:VT:=.call 182 [64,88] 92 [(some 10),none,none]<|It Q6 [103] 104 (Dn (Af 65 27++[J 3]))<|.call 74 [94] 105 [none]<|It Qa [105,J 2] 106 (Dn (Af 65 27++[J 4]))<|Iq 94 9 107 (Iq 94 11 108 (.loop 109 0 [.vsl 1 1 [J 1],.nsl,J 0] (.cons 3 (Li Qh [91] 112<|It Q5 [111,112] 113 (Li Qg [91,111] 114<|.lt Qm [114] 115 (some 10)<|Cf 149 Bs ([64]++Af 115 10) 125 11<|It Q7 [146,J 0] 147 (Dn (Af 65 27++[146]))<|Li Qf [109] 148<|It Q5 [111,148] 149 (Li Q2 [109,111] 150<|Li Qp [109,150] 151<|.call 183 [.agg (Af 136 10),151] 152 [(some 10)]<|Li Qo [110,.agg (Af 152 10)] 162<|Li Q3 [111,J 1] 163<|.again 0 0 [109,162,163])<|Li Qo [110,.agg (Af 136 10)] 150<|Li Q3 [111,J 1] 151<|.again 0 0 [109,150,151])<|Li Qh [110] 114<|Li Qf [109] 115<|It Qd [114,115] 116 (Dn (Af 65 27++[J 4]))<|.loop 117 0 [J 0,109,110] (.cons 3 (Li Qf [118] 120<|It Q5 [117,120] 121 (Li Q2 [119,117] 122<|Li Ql [119,122] 123<|Li Q2 [118,117] 124<|Li Qp [118,124] 125<|It Qd [123,125] 126 (Dn (Af 65 27++[J 4]))<|Li Q3 [117,J 1] 127<|.again 1 0 [127,118,119])<|Dn (Af 65 24++[94,102,119,J 0])) .nil)) .nil))<|Iq 94 12 109 (.loop 110 0 [.vsl 1 1 [J 1],.nsl,J 0] (.cons 3 (Li Qh [91] 113<|It Q5 [112,113] 114 (Li Qg [91,112] 115<|.lt Qm [115] 116 (some 10)<|Cf 149 Bs ([64]++Af 116 10) 126 11<|It Q7 [147,J 0] 148 (Dn (Af 65 27++[147]))<|Li Qf [110] 149<|It Q5 [112,149] 150 (Li Q2 [110,112] 151<|Li Qp [110,151] 152<|.call 183 [.agg (Af 137 10),152] 153 [(some 10)]<|Li Qo [111,.agg (Af 153 10)] 163<|Li Q3 [112,J 1] 164<|.again 0 0 [110,163,164])<|Li Qo [111,.agg (Af 137 10)] 151<|Li Q3 [112,J 1] 152<|.again 0 0 [110,151,152])<|Li Qh [111] 115<|Li Qf [110] 116<|It Qd [115,116] 117 (Dn (Af 65 27++[J 4]))<|.loop 118 0 [J 0,110,111] (.cons 3 (Li Qf [119] 121<|It Q5 [118,121] 122 (Li Q2 [120,118] 123<|Li Ql [120,123] 124<|Li Q2 [119,118] 125<|Li Qp [119,125] 126<|It Qd [124,126] 127 (Dn (Af 65 27++[J 4]))<|Li Q3 [118,J 1] 128<|.again 1 0 [128,119,120])<|Dn (Af 65 24++[94,102,120,J 0])) .nil)) .nil))<|.loop 110 0 [.vsl 2 1 [J 1,J 2],.nsl,J 0] (.cons 3 (Li Qh [91] 113<|It Q5 [112,113] 114 (Li Qg [91,112] 115<|.lt Qm [115] 116 (some 10)<|Cf 149 Bs ([64]++Af 116 10) 126 11<|It Q7 [147,J 0] 148 (Dn (Af 65 27++[147]))<|Li Qf [110] 149<|It Q5 [112,149] 150 (Li Q2 [110,112] 151<|Li Qp [110,151] 152<|.call 183 [.agg (Af 137 10),152] 153 [(some 10)]<|Li Qo [111,.agg (Af 153 10)] 163<|Li Q3 [112,J 1] 164<|.again 0 0 [110,163,164])<|Li Qo [111,.agg (Af 137 10)] 151<|Li Q3 [112,J 1] 152<|.again 0 0 [110,151,152])<|Li Qh [111] 115<|Li Qf [110] 116<|It Qd [115,116] 117 (Dn (Af 65 27++[J 4]))<|.loop 118 0 [J 0,110,111] (.cons 3 (Li Qf [119] 121<|It Q5 [118,121] 122 (Li Q2 [120,118] 123<|Li Ql [120,123] 124<|Li Q2 [119,118] 125<|Li Qp [119,125] 126<|It Qd [124,126] 127 (Dn (Af 65 27++[J 4]))<|Li Q3 [118,J 1] 128<|.again 1 0 [128,119,120])<|Dn (Af 65 24++[94,102,120,J 0])) .nil)) .nil))<|Iq 94 10 108 (Iq 94 11 109 (.loop 110 0 [.vsl 1 1 [J 1],.nsl,J 0] (.cons 3 (Li Qh [91] 113<|It Q5 [112,113] 114 (Li Qg [91,112] 115<|.lt Qm [115] 116 (some 10)<|Cf 149 Bs ([64]++Af 116 10) 126 11<|It Q7 [147,J 0] 148 (Dn (Af 65 27++[147]))<|Li Qf [110] 149<|It Q5 [112,149] 150 (Li Q2 [110,112] 151<|Li Qp [110,151] 152<|.call 183 [.agg (Af 137 10),152] 153 [(some 10)]<|Li Qo [111,.agg (Af 153 10)] 163<|Li Q3 [112,J 1] 164<|.again 0 0 [110,163,164])<|Li Qo [111,.agg (Af 137 10)] 151<|Li Q3 [112,J 1] 152<|.again 0 0 [110,151,152])<|Li Qh [111] 115<|Li Qf [110] 116<|It Qd [115,116] 117 (Dn (Af 65 27++[J 4]))<|.loop 118 0 [J 0,110,111] (.cons 3 (Li Qf [119] 121<|It Q5 [118,121] 122 (Li Q2 [120,118] 123<|Li Ql [120,123] 124<|Li Q2 [119,118] 125<|Li Qp [119,125] 126<|It Qd [124,126] 127 (Dn (Af 65 27++[J 4]))<|Li Q3 [118,J 1] 128<|.again 1 0 [128,119,120])<|Dn (Af 65 24++[94,102,120,J 0])) .nil)) .nil))<|Iq 94 12 110 (.loop 111 0 [.vsl 1 1 [J 1],.nsl,J 0] (.cons 3 (Li Qh [91] 114<|It Q5 [113,114] 115 (Li Qg [91,113] 116<|.lt Qm [116] 117 (some 10)<|Cf 149 Bs ([64]++Af 117 10) 127 11<|It Q7 [148,J 0] 149 (Dn (Af 65 27++[148]))<|Li Qf [111] 150<|It Q5 [113,150] 151 (Li Q2 [111,113] 152<|Li Qp [111,152] 153<|.call 183 [.agg (Af 138 10),153] 154 [(some 10)]<|Li Qo [112,.agg (Af 154 10)] 164<|Li Q3 [113,J 1] 165<|.again 0 0 [111,164,165])<|Li Qo [112,.agg (Af 138 10)] 152<|Li Q3 [113,J 1] 153<|.again 0 0 [111,152,153])<|Li Qh [112] 116<|Li Qf [111] 117<|It Qd [116,117] 118 (Dn (Af 65 27++[J 4]))<|.loop 119 0 [J 0,111,112] (.cons 3 (Li Qf [120] 122<|It Q5 [119,122] 123 (Li Q2 [121,119] 124<|Li Ql [121,124] 125<|Li Q2 [120,119] 126<|Li Qp [120,126] 127<|It Qd [125,127] 128 (Dn (Af 65 27++[J 4]))<|Li Q3 [119,J 1] 129<|.again 1 0 [129,120,121])<|Dn (Af 65 24++[94,102,121,J 0])) .nil)) .nil))<|.loop 111 0 [.vsl 2 1 [J 1,J 2],.nsl,J 0] (.cons 3 (Li Qh [91] 114<|It Q5 [113,114] 115 (Li Qg [91,113] 116<|.lt Qm [116] 117 (some 10)<|Cf 149 Bs ([64]++Af 117 10) 127 11<|It Q7 [148,J 0] 149 (Dn (Af 65 27++[148]))<|Li Qf [111] 150<|It Q5 [113,150] 151 (Li Q2 [111,113] 152<|Li Qp [111,152] 153<|.call 183 [.agg (Af 138 10),153] 154 [(some 10)]<|Li Qo [112,.agg (Af 154 10)] 164<|Li Q3 [113,J 1] 165<|.again 0 0 [111,164,165])<|Li Qo [112,.agg (Af 138 10)] 152<|Li Q3 [113,J 1] 153<|.again 0 0 [111,152,153])<|Li Qh [112] 116<|Li Qf [111] 117<|It Qd [116,117] 118 (Dn (Af 65 27++[J 4]))<|.loop 119 0 [J 0,111,112] (.cons 3 (Li Qf [120] 122<|It Q5 [119,122] 123 (Li Q2 [121,119] 124<|Li Ql [121,124] 125<|Li Q2 [120,119] 126<|Li Qp [120,126] 127<|It Qd [125,127] 128 (Dn (Af 65 27++[J 4]))<|Li Q3 [119,J 1] 129<|.again 1 0 [129,120,121])<|Dn (Af 65 24++[94,102,121,J 0])) .nil)) .nil))<|Iq 94 11 109 (.loop 110 0 [.vsl 1 1 [J 1],.nsl,J 0] (.cons 3 (Li Qh [91] 113<|It Q5 [112,113] 114 (Li Qg [91,112] 115<|.lt Qm [115] 116 (some 10)<|Cf 149 Bs ([64]++Af 116 10) 126 11<|It Q7 [147,J 0] 148 (Dn (Af 65 27++[147]))<|Li Qf [110] 149<|It Q5 [112,149] 150 (Li Q2 [110,112] 151<|Li Qp [110,151] 152<|.call 183 [.agg (Af 137 10),152] 153 [(some 10)]<|Li Qo [111,.agg (Af 153 10)] 163<|Li Q3 [112,J 1] 164<|.again 0 0 [110,163,164])<|Li Qo [111,.agg (Af 137 10)] 151<|Li Q3 [112,J 1] 152<|.again 0 0 [110,151,152])<|Li Qh [111] 115<|Li Qf [110] 116<|It Qd [115,116] 117 (Dn (Af 65 27++[J 4]))<|.loop 118 0 [J 0,110,111] (.cons 3 (Li Qf [119] 121<|It Q5 [118,121] 122 (Li Q2 [120,118] 123<|Li Ql [120,123] 124<|Li Q2 [119,118] 125<|Li Qp [119,125] 126<|It Qd [124,126] 127 (Dn (Af 65 27++[J 4]))<|Li Q3 [118,J 1] 128<|.again 1 0 [128,119,120])<|Dn (Af 65 24++[94,102,120,J 0])) .nil)) .nil))<|Iq 94 12 110 (.loop 111 0 [.vsl 1 1 [J 1],.nsl,J 0] (.cons 3 (Li Qh [91] 114<|It Q5 [113,114] 115 (Li Qg [91,113] 116<|.lt Qm [116] 117 (some 10)<|Cf 149 Bs ([64]++Af 117 10) 127 11<|It Q7 [148,J 0] 149 (Dn (Af 65 27++[148]))<|Li Qf [111] 150<|It Q5 [113,150] 151 (Li Q2 [111,113] 152<|Li Qp [111,152] 153<|.call 183 [.agg (Af 138 10),153] 154 [(some 10)]<|Li Qo [112,.agg (Af 154 10)] 164<|Li Q3 [113,J 1] 165<|.again 0 0 [111,164,165])<|Li Qo [112,.agg (Af 138 10)] 152<|Li Q3 [113,J 1] 153<|.again 0 0 [111,152,153])<|Li Qh [112] 116<|Li Qf [111] 117<|It Qd [116,117] 118 (Dn (Af 65 27++[J 4]))<|.loop 119 0 [J 0,111,112] (.cons 3 (Li Qf [120] 122<|It Q5 [119,122] 123 (Li Q2 [121,119] 124<|Li Ql [121,124] 125<|Li Q2 [120,119] 126<|Li Qp [120,126] 127<|It Qd [125,127] 128 (Dn (Af 65 27++[J 4]))<|Li Q3 [119,J 1] 129<|.again 1 0 [129,120,121])<|Dn (Af 65 24++[94,102,121,J 0])) .nil)) .nil))<|.loop 111 0 [.vsl 2 1 [J 1,J 4],.nsl,J 0] (.cons 3 (Li Qh [91] 114<|It Q5 [113,114] 115 (Li Qg [91,113] 116<|.lt Qm [116] 117 (some 10)<|Cf 149 Bs ([64]++Af 117 10) 127 11<|It Q7 [148,J 0] 149 (Dn (Af 65 27++[148]))<|Li Qf [111] 150<|It Q5 [113,150] 151 (Li Q2 [111,113] 152<|Li Qp [111,152] 153<|.call 183 [.agg (Af 138 10),153] 154 [(some 10)]<|Li Qo [112,.agg (Af 154 10)] 164<|Li Q3 [113,J 1] 165<|.again 0 0 [111,164,165])<|Li Qo [112,.agg (Af 138 10)] 152<|Li Q3 [113,J 1] 153<|.again 0 0 [111,152,153])<|Li Qh [112] 116<|Li Qf [111] 117<|It Qd [116,117] 118 (Dn (Af 65 27++[J 4]))<|.loop 119 0 [J 0,111,112] (.cons 3 (Li Qf [120] 122<|It Q5 [119,122] 123 (Li Q2 [121,119] 124<|Li Ql [121,124] 125<|Li Q2 [120,119] 126<|Li Qp [120,126] 127<|It Qd [125,127] 128 (Dn (Af 65 27++[J 4]))<|Li Q3 [119,J 1] 129<|.again 1 0 [129,120,121])<|Dn (Af 65 24++[94,102,121,J 0])) .nil)) .nil)
def c97:VC:=⟨⟨[],[]⟩,[],[],0,true,[(149,Bs),(147,aj),(148,af),(54,Gz)]⟩
def jh:VT:=Iq 65 1 92 (Cf 147 aj (Af 64 28) 93 28<|Dn (Af 121 28))<|Iq 65 4 93 (Cf 148 af (Af 64 28) 94 28<|Dn (Af 122 28))<|Cf 149 Bs ([64]++Af 76 10) 94 11<|It Q7 [115,J 0] 116 (Dn (Af 65 27++[115]))<|It Q1 [106,J 1] 117 (Dn (Af 65 27++[J 4]))<|Cf 54 Gz [64,86] 118 2<|It Q7 [121,J 0] 122 (Dn (Af 65 11++Af 105 10++[120]++Af 87 5++[121]))<|Cf 54 Gz [64,87] 123 2<|Dn (Af 65 11++Af 105 10++[120,125,88,89,90,91,126])
def c54:VC:=⟨⟨[],[]⟩,[],[(0,[⟨[(6,.slx 0 27 0),(7,.slx 1 0 0),(1,65),(0,64)],[],1,2,[⟨0,27,0,6,none⟩],[],[]⟩])],0,true,[(97,Im)]⟩
def pq:VT:=.loop 66 0 [.nsl,J 0] (.cons 2 (Li Zs [65] 68<|It Q5 [67,68] 69 (Li U4 [65,67] 70<|.lt U5 [70] 71 (some 27)<|Cf 97 Im ([64]++Af 71 27) 98 28<|It Q7 [153,J 0] 154 (Dn [.nsl,153])<|Li Zm [66,.agg (Af 126 27)] 155<|Li Q3 [67,J 1] 156<|.again 0 0 [155,156])<|Dn [66,J 0]) .nil)
def sc {nm fd:List UInt8} (h:(nm,fd)∈Mq\/nm=[107]):∃(s:List UInt8) (r k z a b:Int) (c:Nat) (d e:Int) (f:Nat) (g:Int),AQ 182 [VARS,.str nm] (.tup [.agg [.str s,.int .i64 r,.int .i64 k,.int .i64 z,.int .i64 a,.int .i64 b,.flt .f64 c,.int .i64 d,.int .i64 e,.flt .f64 f],.int .i64 g,.bool true])/\(nm,r)∈lg:=by rcases h with h|rfl;simp only [Mq,CJ,Prod.mk.injEq,List.not_mem_nil,or_false]at h;rcases h with ⟨rfl,rfl⟩|⟨rfl,rfl⟩|⟨rfl,rfl⟩|⟨rfl,rfl⟩|⟨rfl,rfl⟩|⟨rfl,rfl⟩|⟨rfl,rfl⟩|⟨rfl,rfl⟩|⟨rfl,rfl⟩|⟨rfl,rfl⟩|⟨rfl,rfl⟩;exact ⟨_,_,_,_,_,_,_,_,_,_,_,oW,by decide⟩;exact ⟨_,_,_,_,_,_,_,_,_,_,_,oq,by decide⟩;exact ⟨_,_,_,_,_,_,_,_,_,_,_,Us,by decide⟩;exact ⟨_,_,_,_,_,_,_,_,_,_,_,gZ,by decide⟩;exact ⟨_,_,_,_,_,_,_,_,_,_,_,eN,by decide⟩;exact ⟨_,_,_,_,_,_,_,_,_,_,_,jU,by decide⟩;exact ⟨_,_,_,_,_,_,_,_,_,_,_,WY,by decide⟩;exact ⟨_,_,_,_,_,_,_,_,_,_,_,kJ,by decide⟩;exact ⟨_,_,_,_,_,_,_,_,_,_,_,Us,by decide⟩;exact ⟨_,_,_,_,_,_,_,_,_,_,_,cF,by decide⟩;exact ⟨_,_,_,_,_,_,_,_,_,_,_,oQ,by decide⟩;exact ⟨_,_,_,_,_,_,_,_,_,_,_,XM,by decide⟩
def M0 (kd ad:Int) (ks:List Int):Prop:=(kd=6/\ad=12/\ks=[1,4])\/(kd=9/\ad=16/\ks=[1,2])\/(kd=11/\ad=19/\ks=[1])
def TS:Nat->GS->Prop
 |0,_=>False
 |d+1,.mk op to e thn els nm kd ad ag=>
  (op=1/\TX 5 to/\(to.op=2/\(to.ad,to.kd)∈Jw\/to.op=3)/\TX 6 e/\e.kd=to.kd/\thn=[]/\els=[])\/
  ((op=2\/op=3)/\TX 5 e/\e.kd=1/\thn.length<=5/\els.length<=5/\(∀s∈thn,TS d s)/\∀s∈els,TS d s)\/
  (op=4/\M0 kd ad (ag.map GX.kd)/\(∀a∈ag,TX 5 a)/\thn=[]/\els=[])
def LK (x y:GS):Prop:=match x,y with
 | .mk op to ..,.mk op' to' .. =>op=1->op'=1/\NT to to'
def RT (d:Nat) (x:GS):Nat->List AV->Prop:=λ_ ws=>∃(y:GS) (e:Int),ws=CY y++[.int .i64 e]/\(e=0->TS d y/\LK x y)
def XA (l y:List GS):Prop:=∀(j:Nat) (h1:j<l.length) (h2:j<y.length),LK l[j] y[j]
def RU (d:Nat) (l:List GS):Nat->List AV->Prop:=λ_ ws=>∃(y:List GS) (e:Int),ws=[Y_ y,.int .i64 e]/\(e=0->y.length=l.length/\(∀s∈y,TS d s)/\XA l y)
def DW {d j:Nat} {x y:GS} {e:Int} {hv:List AV} {Y:Sy} {L:List (Nat->List AV->Prop)} (h:Am Y.v hv=CY y++[.int .i64 e]) (hw:e=0->TS d y/\LK x y):AB Tryz.prog (QF (RT d x)) L Y (.done (.tup (.int .i64 (.ofNat j)::hv))):=
 Ai (by rw [h];exact kT y e) ⟨y,e,h,hw⟩
def Rf (x:GX):Ak (VARS::v_ x)=true:=by rw [CL];exact BT x
def X0 (x:GS):Ak (VARS::CY x)=true:=by rw [CL];exact Hr x
def wl (d:Nat) (to e:GX) (thn els:List GS) (nm:List UInt8) (kd ad:Int) (ag:List GX) (ht:WX 5 to) (ho:to.op=2\/to.op=3) (he:WX 6 e) (AD:thn=[]/\els=[]):
  A6 147 aj (VARS::CY (.mk 1 to e thn els nm kd ad ag)) (RT (d+1) (.mk 1 to e thn els nm kd ad ag)):=by
 have h1:=Oo 5 to ht;have h2:=Oo 6 e he;obtain ⟨to1,to2,to3,to4,to5,to6,to7,to8,to9,to10⟩:=to;obtain ⟨e1,e2,e3,e4,e5,e6,e7,e8,e9,e10⟩:=e;refine BU sg ge rfl rfl (by kernel_rfl) λY hf hg=>?_;unfold ge;refine a_ h2 rfl (Rf _) ⟨?_,trivial⟩;rintro ws ⟨⟨y1,y2,y3,y4,y5,y6,y7,y8,y9,y10⟩,er,rfl,hy⟩
 (refine d_ rfl rfl ?_ ?_<;>intro h<;>try omega)
 ·(exact DW (y:=.mk _ (.mk ..) (.mk ..) _ _ _ _ _ _) rfl (λhe=>absurd he (by first|assumption|decide)))
 have hy:=(hy h).1;refine a_ h1 rfl (Rf _) ⟨?_,trivial⟩;rintro ws ⟨⟨z1,z2,z3,z4,z5,z6,z7,z8,z9,z10⟩,er2,rfl,hz⟩
 (refine d_ rfl rfl ?_ ?_<;>intro h<;>try omega)
 ·(exact DW (y:=.mk _ (.mk ..) (.mk ..) _ _ _ _ _ _) rfl (λhe=>absurd he (by first|assumption|decide)))
 have hz:=hz h;obtain ⟨s,r,k,z,a,b,c,d',e',f,g,hp,hro⟩:=sc (nm:=to3) (fd:=to4) (by
  have ht':om to1 to2 to3 to4 to7 to8 to9:=ht.2.2.1;rcases ho with ho|ho;exact .inl (ht'.2.1 ho)
  .exact .inr (ht'.2.2.1 ho))
 refine Ar hp rfl rfl ?_;refine Aa (vL_ ..) rfl (AC rfl (λh=>?_) (λhfd=>?_))
 ·(exact DW (y:=.mk _ (.mk ..) (.mk ..) _ _ _ _ _ _) rfl (λhe=>absurd he (by first|assumption|decide)))
 (refine d_ rfl rfl ?_ ?_<;>intro h<;>try omega)
 ·(exact DW (y:=.mk _ (.mk ..) (.mk ..) _ _ _ _ _ _) rfl (λhe=>absurd he (by first|assumption|decide)))
 have hr1:=h;obtain ⟨⟨yo1,yk1,ynm1,yfd1,yad1,yn1,yvk1,yvi1,yvf1,ya1⟩,hp1,hy1⟩:=RH _ z2 hy;refine Ar hp1 rfl (QZ _) ?_
 (refine d_ rfl rfl ?_ ?_<;>intro h<;>try omega)
 ·(exact DW (y:=.mk _ (.mk ..) (.mk ..) _ _ _ _ _ _) rfl (λhe=>absurd he (by first|assumption|decide)))
 rcases ho with ho|ho;exact DW (y:=.mk 1 (.mk ..) (.mk ..) _ _ _ _ _ _) rfl (λ_=>⟨.inl ⟨rfl,hz.1,.inl ⟨hz.2.1.trans ho,MH _ (hz.2.2 ho) _ hro (by simpa using hfd) rfl hr1⟩,hy1,h,AD⟩,λ_=>⟨rfl,hz.2.2⟩⟩);exact DW (y:=.mk 1 (.mk ..) (.mk ..) _ _ _ _ _ _) rfl (λ_=>⟨.inl ⟨rfl,hz.1,.inr (hz.2.1.trans ho),hy1,h,AD⟩,λ_=>⟨rfl,hz.2.2⟩⟩)
def SY {d:Nat} {acc:List GX} {y:GX} (h:∀a∈acc,TX d a) (hy:TX d y):∀a∈acc++[y],TX d a:=λa ha=>by rcases List.mem_append.1 ha with ha|ha;exact h a ha;cases List.mem_singleton.1 ha;exact hy
def xw (d:Nat) (to e:GX) (thn els:List GS) (nm:List UInt8) (kd ad:Int) (ag:List GX) (hn:nm=[116,109]\/nm=[99]\/nm=[101]) (hl:ag.length<=2) (hW:∀a∈ag,WX 5 a) (AD:thn=[]/\els=[]):
  A6 148 af (VARS::CY (.mk 4 to e thn els nm kd ad ag)) (RT (d+1) (.mk 4 to e thn els nm kd ad ag)):=by
 obtain ⟨to1,to2,to3,to4,to5,to6,to7,to8,to9,to10⟩:=to;obtain ⟨e1,e2,e3,e4,e5,e6,e7,e8,e9,e10⟩:=e;refine BU qX gL rfl rfl (by kernel_rfl) λY hf hg=>?_;unfold gL;rcases hn with rfl|rfl|rfl
 case' inl=>
  refine Ar Us rfl rfl (Aa rfl rfl (AC rfl (λh=>by cases h) (λ_=>Ar kH rfl rfl ?_)))
  (refine d_ rfl rfl ?_ ?_<;>intro h<;>try omega);(refine d_ rfl rfl ?_ ?_<;>intro h<;>try omega);(refine d_ rfl rfl ?_ ?_<;>intro h<;>try omega);(refine d_ rfl rfl ?_ ?_<;>intro h<;>try omega);(refine d_ rfl rfl ?_ ?_<;>intro h<;>try omega)
  obtain ⟨kk,hkk⟩:∃kk:Int,kk=4:=⟨_,rfl⟩
 case' inr.inl=>
  refine Ar WY rfl rfl (Aa rfl rfl (AC rfl (λh=>by cases h) (λ_=>Ar ct rfl rfl ?_)));repeat (refine d_ rfl rfl ?_ ?_<;>intro h<;>try omega)
  obtain ⟨kk,hkk⟩:∃kk:Int,kk=2:=⟨_,rfl⟩
 case inr.inr=>
  refine Ar xE rfl rfl (Aa rfl rfl (AC rfl (λh=>by cases h) (λ_=>Ar vr rfl rfl ?_)));repeat (refine d_ rfl rfl ?_ ?_<;>intro h<;>try omega)
  (
   refine D3 (ι:=List GX×Nat) (λs=>[(.vsl 1 1 [.int .i64 1]),Db s.1,.int .i64 (s.2:Int)]) (λs=>s.1.length=s.2/\s.2<=ag.length/\∀a∈s.1,TX 5 a) (λs=>ag.length-s.2) ([],0) ⟨rfl,zb' _,λa ha=>(za' ha).elim⟩ (by first|rfl|(rw [hkk];rfl)) (λs _=>by simp only [Ak,okC,D4]) (λs s' _ _ h=>by simp at h;omega) (λs hs=>?_);obtain ⟨acc,i⟩:=s;obtain ⟨h1,h2,h3⟩:=hs;simp only at h1 h2 h3⊢;refine Aa (I_ ag) rfl ?_
   (refine d_ rfl rfl ?_ ?_<;>intro h<;>try omega)
   .have hi:i<ag.length:=(by omega);have hld:=Jf ag hi;have hz:=Oo 5 ag[i] (hW _ (zc' hi));rcases hzz:ag[i]with ⟨zo,zk,znm,zfd,zad,zn,zvk,zvi,zvf,za⟩;rw [hzz]at hld hz;refine Aa (O_ ag hi) (A5 BT _) (B3 hld rfl (BT _) ?_);refine a_ hz rfl (Rf _) ⟨?_,trivial⟩;rintro ws ⟨⟨yo,yk,ynm,yfd,yad,yn,yvk,yvi,yvf,ya⟩,e,rfl,hy⟩
    (refine d_ rfl rfl ?_ ?_<;>intro h<;>try omega)
    ·(exact DW (y:=.mk _ (.mk ..) (.mk ..) _ _ _ _ _ _) rfl (λhe=>absurd he (by first|assumption|decide)))
    have hy:=(hy h).1;refine Aa (r:=.int .i64 1) rfl rfl ?_
    (refine d_ rfl rfl ?_ ?_<;>intro h<;>try omega)
    all_goals first
     |(have hi2:i=0\/i=1:=by omega
       rcases hi2 with rfl|rfl;all_goals try (exfalso;omega)
       all_goals
        refine Aa rfl rfl (Aa rfl rfl ?_);obtain ⟨⟨yo1,yk1,ynm1,yfd1,yad1,yn1,yvk1,yvi1,yvf1,ya1⟩,hp1,hy1⟩:=RH _ _ hy;refine Ar hp1 rfl (QZ _) ?_;refine Aa (N5 acc (.mk yo1 yk1 ynm1 yfd1 yad1 yn1 yvk1 yvi1 yvf1 ya1) (by omega)) (D4 _) (Aa (q_ (by omega) (by omega)) rfl (CX rfl ⟨(acc++[_],_),⟨by rw [List.length_append,h1];rfl,hi,SY h3 hy1⟩,rfl,by simp only;omega⟩)))
     |exact Aa (N5 acc (.mk yo yk ynm yfd yad yn yvk yvi yvf ya) (by omega)) (D4 _) (Aa (q_ (by omega) (by omega)) rfl (CX rfl ⟨(acc++[_],i+1),⟨by rw [List.length_append,h1];rfl,hi,SY h3 hy⟩,rfl,by simp only;omega⟩))
   have hi:i=ag.length:=(by omega);subst hi;refine Aa (I_ acc) rfl (Aa (r:=.int .i64 1) rfl rfl ?_))
  (refine d_ rfl rfl ?_ ?_<;>intro h<;>try omega)
  ·(exact DW (y:=.mk _ (.mk ..) (.mk ..) _ _ _ _ _ _) rfl (λhe=>absurd he (by first|assumption|decide)))
  have ha:acc.length=1:=(by have h':(acc.length:Int)=1:=h;omega);obtain ⟨y,rfl⟩:=List.length_eq_one_iff.1 ha;obtain ⟨y1,y2,y3,y4,y5,y6,y7,y8,y9,y10⟩:=y;refine D3 (ι:=Nat) (λi=>[.int .i64 (i:Int),.vsl 1 1 [.int .i64 1],Db [.mk y1 y2 y3 y4 y5 y6 y7 y8 y9 y10]]) (λi=>i<=1/\(1<=i->y2=1)) (λi=>1-i) 0 ⟨by decide,λh=>by omega⟩ rfl (λs _=>by simp only [Ak,okC,D4]) (λs s' _ _ h=>by simp at h;omega) (λi hi=>?_);obtain ⟨i1,i2⟩:=hi;refine Aa (r:=.int .i64 1) rfl rfl ?_
  (refine d_ rfl rfl ?_ ?_<;>intro h<;>try omega)
  .have hi2:i=0:=(by omega);subst hi2;refine Aa (r:=.int .i64 0) rfl rfl (Aa (r:=.int .i64 y2) rfl rfl (Aa (r:=.int .i64 0) rfl rfl (Aa (r:=.int .i64 1) rfl rfl ?_)))
   (refine d_ rfl rfl ?_ ?_<;>intro h<;>try omega)
   ·(exact DW (y:=.mk _ (.mk ..) (.mk ..) _ _ _ _ _ _) rfl (λhe=>absurd he (by first|assumption|decide)))
   exact Aa (q_ (by omega) (by omega)) rfl (CX rfl ⟨1,⟨by decide,λ_=>h⟩,rfl,by decide⟩)
  refine DW (y:=.mk 4 (.mk ..) (.mk ..) _ _ _ _ _ [.mk ..]) rfl (λ_=>⟨.inr (.inr ⟨rfl,?_,h3,AD⟩),λh=>by omega⟩);cases i2 (by omega);exact .inr (.inr ⟨rfl,rfl,rfl⟩)
 all_goals
  (
   refine D3 (ι:=List GX×Nat) (λs=>[(.vsl 2 1 [.int .i64 1,.int .i64 kk]),Db s.1,.int .i64 (s.2:Int)]) (λs=>s.1.length=s.2/\s.2<=ag.length/\∀a∈s.1,TX 5 a) (λs=>ag.length-s.2) ([],0) ⟨rfl,zb' _,λa ha=>(za' ha).elim⟩ (by first|rfl|(rw [hkk];rfl)) (λs _=>by simp only [Ak,okC,D4]) (λs s' _ _ h=>by simp at h;omega) (λs hs=>?_);obtain ⟨acc,i⟩:=s;obtain ⟨h1,h2,h3⟩:=hs;simp only at h1 h2 h3⊢;refine Aa (I_ ag) rfl ?_
   (refine d_ rfl rfl ?_ ?_<;>intro h<;>try omega)
   .have hi:i<ag.length:=(by omega);have hld:=Jf ag hi;have hz:=Oo 5 ag[i] (hW _ (zc' hi));rcases hzz:ag[i]with ⟨zo,zk,znm,zfd,zad,zn,zvk,zvi,zvf,za⟩;rw [hzz]at hld hz;refine Aa (O_ ag hi) (A5 BT _) (B3 hld rfl (BT _) ?_);refine a_ hz rfl (Rf _) ⟨?_,trivial⟩;rintro ws ⟨⟨yo,yk,ynm,yfd,yad,yn,yvk,yvi,yvf,ya⟩,e,rfl,hy⟩
    (refine d_ rfl rfl ?_ ?_<;>intro h<;>try omega)
    ·(exact DW (y:=.mk _ (.mk ..) (.mk ..) _ _ _ _ _ _) rfl (λhe=>absurd he (by first|assumption|decide)))
    have hy:=(hy h).1;refine Aa (r:=.int .i64 2) rfl rfl ?_
    (refine d_ rfl rfl ?_ ?_<;>intro h<;>try omega)
    all_goals first
     |(have hi2:i=0\/i=1:=by omega
       rcases hi2 with rfl|rfl;all_goals try (exfalso;omega)
       all_goals
        refine Aa rfl rfl (Aa rfl rfl ?_);obtain ⟨⟨yo1,yk1,ynm1,yfd1,yad1,yn1,yvk1,yvi1,yvf1,ya1⟩,hp1,hy1⟩:=RH _ _ hy;refine Ar hp1 rfl (QZ _) ?_;refine Aa (N5 acc (.mk yo1 yk1 ynm1 yfd1 yad1 yn1 yvk1 yvi1 yvf1 ya1) (by omega)) (D4 _) (Aa (q_ (by omega) (by omega)) rfl (CX rfl ⟨(acc++[_],_),⟨by rw [List.length_append,h1];rfl,hi,SY h3 hy1⟩,rfl,by simp only;omega⟩)))
     |exact Aa (N5 acc (.mk yo yk ynm yfd yad yn yvk yvi yvf ya) (by omega)) (D4 _) (Aa (q_ (by omega) (by omega)) rfl (CX rfl ⟨(acc++[_],i+1),⟨by rw [List.length_append,h1];rfl,hi,SY h3 hy⟩,rfl,by simp only;omega⟩))
   have hi:i=ag.length:=(by omega);subst hi;refine Aa (I_ acc) rfl (Aa (r:=.int .i64 2) rfl rfl ?_))
  (refine d_ rfl rfl ?_ ?_<;>intro h<;>try omega)
  ·(exact DW (y:=.mk _ (.mk ..) (.mk ..) _ _ _ _ _ _) rfl (λhe=>absurd he (by first|assumption|decide)))
  have ha:acc.length=2:=(by have h':(acc.length:Int)=2:=h;omega);obtain ⟨y,z,rfl⟩:∃y z,acc=[y,z]:=by
   rcases acc with _|⟨y,_|⟨z,_|⟨w,t⟩⟩⟩<;>simp at ha
   exact ⟨y,z,rfl⟩
  obtain ⟨y1,y2,y3,y4,y5,y6,y7,y8,y9,y10⟩:=y;obtain ⟨z1,z2,z3,z4,z5,z6,z7,z8,z9,z10⟩:=z;refine D3 (ι:=Nat) (λi=>[.int .i64 (i:Int),.vsl 2 1 [.int .i64 1,.int .i64 kk],Db [.mk y1 y2 y3 y4 y5 y6 y7 y8 y9 y10,.mk z1 z2 z3 z4 z5 z6 z7 z8 z9 z10]]) (λi=>i<=2/\(1<=i->y2=1)/\(2<=i->z2=kk)) (λi=>2-i) 0 ⟨by decide,λh=>by omega,λh=>by omega⟩ rfl (λs _=>by simp only [Ak,okC,D4]) (λs s' _ _ h=>by simp at h;omega) (λi hi=>?_);obtain ⟨i1,i2,i3⟩:=hi;refine Aa (r:=.int .i64 2) rfl rfl ?_
  (refine d_ rfl rfl ?_ ?_<;>intro h<;>try omega)
  .have hi2:i=0\/i=1:=(by omega);rcases hi2 with rfl|rfl
   .refine Aa (r:=.int .i64 0) rfl rfl (Aa (r:=.int .i64 y2) rfl rfl (Aa (r:=.int .i64 0) rfl rfl (Aa (r:=.int .i64 1) rfl rfl ?_)))
    (refine d_ rfl rfl ?_ ?_<;>intro h<;>try omega)
    ·(exact DW (y:=.mk _ (.mk ..) (.mk ..) _ _ _ _ _ _) rfl (λhe=>absurd he (by first|assumption|decide)))
    exact Aa (q_ (by omega) (by omega)) rfl (CX rfl ⟨1,⟨by decide,λ_=>h,λh=>by omega⟩,rfl,by decide⟩)
   .refine Aa (r:=.int .i64 1) rfl rfl (Aa (r:=.int .i64 z2) rfl rfl (Aa (r:=.int .i64 1) rfl rfl (Aa (r:=.int .i64 kk) rfl rfl ?_)))
    (refine d_ rfl rfl ?_ ?_<;>intro h<;>try omega)
    ·(exact DW (y:=.mk _ (.mk ..) (.mk ..) _ _ _ _ _ _) rfl (λhe=>absurd he (by first|assumption|decide)))
    exact Aa (q_ (by omega) (by omega)) rfl (CX rfl ⟨2,⟨by decide,λ_=>i2 (by decide),λ_=>h⟩,rfl,by decide⟩)
  .refine DW (y:=.mk 4 (.mk ..) (.mk ..) _ _ _ _ _ [.mk ..,.mk ..]) rfl (λ_=>⟨.inr (.inr ⟨rfl,?_,h3,AD⟩),λh=>by omega⟩);cases i2 (by omega);subst hkk;cases i3 (by omega);first|exact .inl ⟨rfl,rfl,rfl⟩|exact .inr (.inl ⟨rfl,rfl,rfl⟩)
def UJ (l:List GS):(XOp.len 25).run Tryz.prog [Y_ l]=some (.int .i64 (l.length:Int)):=by rw [TF];exact Uo Tryz.underlying25 l
def bW (l:List GS) {i:Nat} (h:i<l.length):(XOp.iaddr 25).run Tryz.prog [Y_ l,.int .i64 (i:Int)]=some (.vptr (Ay CY (l.drop i))):=by rw [TF];exact Bb (e:=110) (ti:=(Tryz.prog.info? 110).get!) Tryz.underlying25 (by kernel_rfl) (by kernel_rfl) YG h .i64
def YY (l:List GS) {i:Nat} (h:i<l.length):(XOp.load 110).run Tryz.prog [.vptr (Ay CY (l.drop i))]=some (.agg (CY l[i])):=
 Bv (ti:=(Tryz.prog.info? 110).get!) Tryz.underlying110 rfl (by kernel_rfl) (by kernel_rfl) YG h
def PT (d:Nat):Prop:=∀x:GS,WS d x->A6 97 Im (VARS::CY x) (RT d x)
def oT (d:Nat) (hT:PT d) (l:List GS) (hl:l.length<=5) (hW:∀s∈l,WS d s):A6 54 Gz [VARS,Y_ l] (RU d l):=by
 refine BU c54 pq rfl rfl (by kernel_rfl) λY hf hg=>?_;unfold pq;refine D3 (ι:=List GS×Nat) (λs=>[Y_ s.1,.int .i64 (s.2:Int)]) (λs=>s.1.length=s.2/\s.2<=l.length/\(∀a∈s.1,TS d a)/\XA l s.1) (λs=>l.length-s.2) ([],0) ⟨rfl,zb' _,λa ha=>(za' ha).elim,λj _ h=>absurd h (Nat.not_lt_zero j)⟩ rfl (λs _=>by simp only [Ak,okC,EE]) (λs s' _ _ h=>by simp at h;omega) (λs hs=>?_);obtain ⟨acc,i⟩:=s;obtain ⟨h1,h2,h3,h5⟩:=hs;simp only at h1 h2 h3 h5⊢;refine Aa (UJ l) rfl ?_
 (refine d_ rfl rfl ?_ ?_<;>intro h<;>try omega)
 .have hi:i<l.length:=(by omega);have hld:=YY l hi;have hz:=hT l[i] (hW _ (zc' hi));rcases hzz:l[i]with ⟨op,⟨to1,to2,to3,to4,to5,to6,to7,to8,to9,to10⟩,⟨e1,e2,e3,e4,e5,e6,e7,e8,e9,e10⟩,thn,els,nm,kd,ad,ag⟩;rw [hzz]at hld hz;refine Aa (bW l hi) (A5 Hr _) (B3 hld rfl (Hr _) ?_);refine a_ hz rfl (X0 _) ⟨?_,trivial⟩;rintro ws ⟨⟨op',⟨so1,so2,so3,so4,so5,so6,so7,so8,so9,so10⟩,⟨f1,f2,f3,f4,f5,f6,f7,f8,f9,f10⟩,thn',els',nm',kd',ad',args'⟩,e,rfl,hy⟩
  (refine d_ rfl rfl ?_ ?_<;>intro h<;>try omega)
  exact Ai rfl ⟨[],e,rfl,λhe=>absurd he h⟩;rename_i hh;refine Aa (SQ acc (.mk op' (.mk so1 so2 so3 so4 so5 so6 so7 so8 so9 so10) (.mk f1 f2 f3 f4 f5 f6 f7 f8 f9 f10) thn' els' nm' kd' ad' args') (by omega)) (EE _) (Aa (q_ (by omega) (by omega)) rfl (CX rfl ⟨(acc++[_],i+1),⟨by rw [List.length_append,h1];rfl,hi,?_,?_⟩,rfl,by simp only;omega⟩));intro a ha;rcases List.mem_append.1 ha with ha|ha;exact h3 a ha;cases List.mem_singleton.1 ha;exact (hy (by assumption)).1;intro j g1 g2;by_cases e:j<acc.length;rw [List.getElem_append_left e];exact h5 j g1 e;have e:j=acc.length:=(by rw [List.length_append,List.length_singleton]at g2;omega);have e2:j=i:=(by omega);subst e2;rw [List.getElem_append_right (by omega)];simp only [hzz];have:∀(k:Nat) (h:k<1),k=0:=λk h=>(by omega);simp only [e,Nat.sub_self,List.getElem_singleton];exact (hy (by assumption)).2
 exact Ai (by show Ak [Y_ acc,.int .i64 0]=true;simp only [Ak,okC,EE]) ⟨acc,0,rfl,λ_=>⟨by omega,h3,h5⟩⟩
def Vx (l:List GS):Ak [VARS,Y_ l]=true:=by rw [CL];simp only [Ak,okC,EE];rfl
def fq:∀d:Nat,PT d
 |0,_,h=>h.elim
 |d+1,.mk op to e thn els nm kd ad ag,hx=>by
  have ih:=oT d (fq d);have h1:op=1->_:=λh=>wl d to e thn els nm kd ad ag;have h4:=xw d to e thn els nm kd ad ag;have h2:=Oo 5 e;obtain ⟨to1,to2,to3,to4,to5,to6,to7,to8,to9,to10⟩:=to;obtain ⟨e1,e2,e3,e4,e5,e6,e7,e8,e9,e10⟩:=e;refine BU c97 jh rfl rfl (by kernel_rfl) λY hf hg=>?_;unfold jh;rcases hx with ⟨rfl,a1,a2,a3,a4⟩|⟨ho,b1,b2,b3,b4,b5⟩|⟨rfl,a1,a2,a3,a4⟩
  ·(refine d_ rfl rfl ?_ ?_<;>intro h<;>try omega)
   refine a_ (h1 rfl a1 a2 a3 a4) rfl (X0 _) ⟨?_,trivial⟩;rintro ws ⟨⟨op',⟨so1,so2,so3,so4,so5,so6,so7,so8,so9,so10⟩,⟨f1,f2,f3,f4,f5,f6,f7,f8,f9,f10⟩,thn',els',nm',kd',ad',args'⟩,e,rfl,hy⟩;exact DW (y:=.mk _ (.mk ..) (.mk ..) _ _ _ _ _ _) rfl hy
  ·(refine d_ rfl rfl ?_ ?_<;>intro h<;>try omega);(refine d_ rfl rfl ?_ ?_<;>intro h<;>try omega)
   refine a_ (h2 b1) rfl (Rf _) ⟨?_,trivial⟩;rintro ws ⟨⟨y1,y2,y3,y4,y5,y6,y7,y8,y9,y10⟩,er,rfl,hy⟩
   (refine d_ rfl rfl ?_ ?_<;>intro h<;>try omega)
   ·(exact DW (y:=.mk _ (.mk ..) (.mk ..) _ _ _ _ _ _) rfl (λhe=>absurd he (by first|assumption|decide)))
   have hy:=(hy h).1
   (refine d_ rfl rfl ?_ ?_<;>intro h<;>try omega)
   ·(exact DW (y:=.mk _ (.mk ..) (.mk ..) _ _ _ _ _ _) rfl (λhe=>absurd he (by first|assumption|decide)))
   have hk:=h;refine a_ (ih thn b2 b4) rfl (Vx _) ⟨?_,trivial⟩;rintro ws ⟨thn',er1,rfl,ht⟩
   (refine d_ rfl rfl ?_ ?_<;>intro h<;>try omega)
   ·(exact DW (y:=.mk _ (.mk ..) (.mk ..) _ _ _ _ _ _) rfl (λhe=>absurd he (by first|assumption|decide)))
   have ht:=ht h;refine a_ (ih els b3 b5) rfl (Vx _) ⟨?_,trivial⟩;rintro ws ⟨els',er2,rfl,hs⟩;refine DW (y:=.mk _ (.mk ..) (.mk ..) _ _ _ _ _ _) rfl (λh0=>⟨.inr (.inl ⟨ho,hy,hk,by rw [ht.1];exact b2,by rw [(hs h0).1];exact b3,ht.2.1,(hs h0).2.1⟩),λh=>by omega⟩)
  ·(refine d_ rfl rfl ?_ ?_<;>intro h<;>try omega);(refine d_ rfl rfl ?_ ?_<;>intro h<;>try omega)
   refine a_ (h4 a1 a2 a3 a4) rfl (X0 _) ⟨?_,trivial⟩;rintro ws ⟨⟨op',⟨so1,so2,so3,so4,so5,so6,so7,so8,so9,so10⟩,⟨f1,f2,f3,f4,f5,f6,f7,f8,f9,f10⟩,thn',els',nm',kd',ad',args'⟩,e,rfl,hy⟩;exact DW (y:=.mk _ (.mk ..) (.mk ..) _ _ _ _ _ _) rfl hy
def c24:VC:=⟨⟨[],[]⟩,[(45,[none])],[],1,true,[(55,E9)]⟩
def lK:VT:=.call 45 [] 66 [none]<|Cf 55 E9 [64,65,J 5,J 2] 67 2<|Dn [66,71,72]
def Ly:VC:=⟨⟨[],[]⟩,[],[],0,true,[]⟩
def Fj:VT:=Dn []
def yr:VC:=⟨⟨[],[]⟩,[(33,[none])],[],0,true,[(54,Gz)]⟩
def Jd:VT:=.call 33 [64] 66 [none]<|It Q7 [66,J 0] 67 (Dn [.nsl,.nsl,66])<|Cf 54 Gz [64,65] 68 2<|It Q7 [71,J 0] 72 (Dn [.nsl,.nsl,71])<|Li (.app 10 88) [.vsl 0 10 [],64] 73<|Dn [73,70,J 0]
def c8:VC:=⟨⟨[],[]⟩,[],[],0,true,[(17,Ig),(24,Mt),(23,LI)]⟩
def t8:VT:=Cf 17 Ig [64] 65 0<|Cf 24 Mt [64,J 0] 66 3<|Cf 23 LI [68,69] 71 3<|Li Z3 [75,J 0] 76<|Dn [73,74,76]
def v7 (l:List UInt8):Nat->List AV->Prop:=λ_ ws=>∃(b:List GS) (n:Nat),ws=[VARS,Y_ b,.int .i64 (n:Int)]/\b.length<=5/\∀s∈b,WS 3 s
def rx {l:List UInt8} {a:AV} (hp:Pk l a):A6 24 Mt [a,.int .i64 0] (v7 l):=by have hA:=hp.1.ok Gv;refine BU c24 lK rfl rfl (by kernel_rfl) λY hf hg=>?_;unfold lK;refine Ar w7 rfl rfl ?_;refine a_ ((pS hp 2 (by decide)).2 0 5 (zb' _) (by decide) (by decide)) rfl (Pt hA) ⟨?_,trivial⟩;rintro ws ⟨b,n,rfl,⟨h1,h2⟩,h3⟩;exact Ai (by show Ak [VARS,Y_ b,.int .i64 (n:Int)]=true;rw [CL];simp only [Ak,okC,EE];rfl) ⟨b,n,rfl,h1,h2⟩
def cU (a:AV) (h:okC a=true):A6 17 Ig [a] (λ_ ws=>ws=[]):=by refine BU Ly Fj rfl rfl (by kernel_rfl) λY hf hg=>?_;unfold Fj;exact Ai rfl rfl
def RC (l:List GS):Nat->List AV->Prop:=λ_ ws=>∃(v:AV) (b:List GS) (e:Int),ws=[v,Y_ b,.int .i64 e]/\okC v=true/\(e≠0->b=[])/\(e=0->v=VARS/\b.length=l.length/\(∀s∈b,TS 3 s)/\XA l b)
def eg {v:AV} (hv:okC v=true) (b:List GS) {x:AV} (hx:okC x=true):Ak [v,Y_ b,x]=true:=by simp only [Ak,hv,EE,hx]
def p23 (b:List GS) (hl:b.length<=5) (h:∀s∈b,WS 3 s):A6 23 LI [VARS,Y_ b] (RC b):=by
 refine BU yr Jd rfl rfl (by kernel_rfl) λY hf hg=>?_;unfold Jd;refine Ar yi rfl rfl ?_
 (refine i_ rfl rfl ?_ ?_<;>intro h<;>simp only [nc]at h<;>try omega)
 refine a_ (oT 3 (fq 3) b hl (by assumption)) rfl (Vx _) ⟨?_,trivial⟩;rintro ws ⟨b',e,rfl,hb⟩
 (refine i_ rfl rfl ?_ ?_<;>intro h<;>simp only [nc]at h<;>try omega)
 exact Ai rfl ⟨.nsl,[],e,rfl,rfl,λ_=>rfl,λhe=>absurd he (by assumption)⟩;have hb:=hb (by assumption);refine Aa (r:=VARS) rfl rfl (Ai (eg (v:=VARS) rfl b' (x:=.int .i64 0) rfl) ⟨VARS,b',0,rfl,rfl,λhe=>absurd rfl he,λ_=>⟨rfl,hb⟩⟩)
def R7:Nat->List AV->Prop:=λ_ ws=>∃(v:AV) (b:List GS) (e:Bool),ws=[v,Y_ b,.bool e]/\okC v=true/\(e=false->b=[])/\(e=true->v=VARS/\b.length<=5/\∀s∈b,TS 3 s)
def p8 {l:List UInt8} {a:AV} (hp:Pk l a):A6 8 WR [a] R7:=by have hA:=hp.1.ok Gv;refine BU c8 t8 rfl rfl (by kernel_rfl) λY hf hg=>?_;unfold t8;refine a_ (cU a hA) rfl (by simp only [Ak,hA]) ⟨?_,trivial⟩;rintro ws rfl;refine a_ (rx hp) rfl (by simp only [Ak,hA,okC]) ⟨?_,trivial⟩;rintro ws ⟨b,n,rfl,h1,h2⟩;refine a_ (p23 b h1 h2) rfl (Vx _) ⟨?_,trivial⟩;rintro ws ⟨v,b',e,rfl,hv,h0,hb⟩;refine Aa (Aw ..) rfl (Ai (eg hv b' (x:=.bool _) rfl) ⟨v,b',decide (e=0),rfl,hv,λhe=>h0 (by simpa using he),λhe=>by obtain ⟨q1,q2,q3,_⟩:=hb (AR he);exact ⟨q1,by omega,q3⟩⟩)
structure GI where
 op:Int
 kd:Int
 ad:Int
 n:Int
 vk:Int
 vi:Int
 vf:Nat
def n_ (i:GI):List AV:=[.int .i64 i.op,.int .i64 i.kd,.int .i64 i.ad,.int .i64 i.n,.int .i64 i.vk,.int .i64 i.vi,.flt .f64 i.vf]
def JO (i:GI):(n_ i).length=7:=rfl
def Cx (i:GI):Ak (n_ i)=true:=rfl
abbrev m_ (l:List GI):AV:=Cr n_ 7 l
theorem okI (l:List GI):okC (m_ l)=true:=SK Cx l
def l_ (op kd ad n:Int):GI:=⟨op,kd,ad,n,0,0,0⟩
def Eu:List GX->Int
 |[]=>0
 |a::_=>a.kd
def F_ (op kd ad n vk vi:Int) (vf:Nat) (ag:List GX):GI:=
 if op=1 then ⟨1,vk,0,0,vk,vi,vf⟩else if op=2 then l_ 2 0 ad 0 else if op=3 then l_ 3 0 ad n else if op=17 then l_ 17 kd 0 (Eu ag)else l_ op (Eu ag) 0 0
mutual
def c_:GX->List GI
 | .mk op kd nm fd ad n vk vi vf ag=>g_ ag++[F_ op kd ad n vk vi vf ag]
def g_:List GX->List GI
 |[]=>[]
 |a::r=>c_ a++g_ r
end
theorem RW:∀a b:List GX,g_ (a++b)=g_ a++g_ b
 |[],b=>rfl
 |x::a,b=>by simp only [Bl,g_,RW a b,Be]
def Xc {d:Nat} {M:Nat}:∀{l:List GX},(∀x∈l,(c_ x).length<=M)->(g_ l).length<=l.length*M
 |[],_=>by simp [g_]
 |a::r,h=>by have h1:=h a (ze' ..);have h2:=Xc (d:=d) (M:=M) (l:=r) λx hx=>h x (zf' _ hx);simp only [g_,Ax,List.length_cons,Nat.add_mul,Nat.one_mul];omega
def UA:∀{d:Nat} {x:GX},TX d x->(c_ x).length+1<=2^d
 |0,_,h=>h.elim
 |d+1,.mk op kd nm fd ad n vk vi vf ag,⟨h1,_,_,_,_,h6⟩=>by have hl:ag.length<=2:=(by unfold Cz at h1;omega);have hp:1<=2^d:=Nat.one_le_two_pow;have:=Xc (d:=d) (M:=2^d-1) (l:=ag) λx hx=>(by have:=UA (h6 x hx);omega);have h2:ag.length*(2^d-1)<=2*(2^d-1):=zd' _ hl;simp only [c_,Ax,List.length_cons,AH,Nat.pow_succ];omega
def Ey:GX->List GI
 | .mk op _ _ _ ad n _ _ _ ag=>if op=3 then g_ ag++[l_ 19 0 ad n]else [l_ 18 0 ad 0]
mutual
def w_:Nat->GS->List GI
 |b,.mk op to e thn els nm kd ad ag=>
  if op=1 then c_ e++Ey to
  else if op=2 then
   let c:=c_ e
   let t:=h_ (b+c.length+1) thn
   if els=[]then c++[l_ 21 0 ((b+c.length+1+t.length:Nat):Int) 0]++t
   else
    let q:=h_ (b+c.length+1+t.length+1) els
    c++[l_ 21 0 ((b+c.length+1+t.length+1:Nat):Int) 0]++t++[l_ 20 0 ((b+c.length+1+t.length+1+q.length:Nat):Int) 0]++q
  else if op=3 then
   let c:=c_ e
   let t:=h_ (b+c.length+1) thn
   c++[l_ 21 0 ((b+c.length+1+t.length+1:Nat):Int) 0]++t++[l_ 20 0 (b:Int) 0]
  else g_ ag++[l_ 22 kd ad (ag.length:Int)]
def h_:Nat->List GS->List GI
 |_,[]=>[]
 |b,s::r=>w_ b s++h_ (b+(w_ b s).length) r
end
def r_ (x:List GS):List GI:=h_ 0 x++[l_ 23 0 0 0]
def pl (x:List GS):AV:=if (r_ x).length<=400 then m_ (r_ x)else .nsl
def pe (x:List GS):Int:=if (r_ x).length<=400 then 0 else 12
def Py (x:List GS):AV:=.tup [pl x,.int .i64 (pe x)]
theorem lz (x:List GS):okC (pl x)=true:=by unfold pl;split;exact okI _;rfl
def yw (x:List GS):BP (Py x)=true:=by have:=Mc (lz x);simp only [Py,BP,Gh,this]
def oI {x:GX} (h:TX 5 x):(c_ x).length<=31:=by have:=UA h;omega
def kE {l:List GX} (h:∀x∈l,TX 5 x):(g_ l).length<=l.length*31:=Xc (d:=0) λx hx=>oI (h x hx)
def wF {x:GX} (h:TX 5 x):(Ey x).length<=63:=by
 obtain ⟨op,kd,nm,fd,ad,n,vk,vi,vf,ag⟩:=x;have hal:ag.length<=2:=by have:=h.1;unfold Cz at this;omega
 have h2:(g_ ag).length<=ag.length*31:=kE λx hx=>bO (by decide) (h.2.2.2.2.2 x hx);simp only [Ey];split;simp only [Ax,List.length_cons,AH];omega;simp
def FD_ {x:GX} (h:TX 6 x):(c_ x).length<=63:=by have:=UA h;omega
def GT:Nat->Nat
 |0=>0
 |d+1=>130+10*GT d
def Td {M:Nat}:∀{l:List GS} (b:Nat),(∀s∈l,∀b,(w_ b s).length<=M)->(h_ b l).length<=l.length*M
 |[],b,_=>by simp [h_]
 |a::r,b,h=>by have h1:=h a (ze' ..) b;have h2:=Td (M:=M) (l:=r) (b+(w_ b a).length) λx hx=>h x (zf' _ hx);simp only [h_,Ax,List.length_cons,Nat.add_mul,Nat.one_mul];omega
def iA:∀(d:Nat) (s:GS),TS d s->∀b,(w_ b s).length<=GT d
 |0,_,h,_=>h.elim
 |d+1,.mk op to e thn els nm kd ad ag,h,b=>by have ih:=iA d;simp only [w_,GT];rcases h with ⟨rfl,a1,a2,a3,a4,_⟩|⟨ho,b1,b2,b3,b4,b5,b6⟩|⟨rfl,c1,c2,_⟩;have h1:=FD_ a3;have h2:=wF a1;simp only [Ad,Ax];omega;have h1:=oI b1;have h2:∀b,(h_ b thn).length<=thn.length*GT d:=λb=>Td b λs hs=>ih s (b5 s hs);have h3:∀b,(h_ b els).length<=els.length*GT d:=λb=>Td b λs hs=>ih s (b6 s hs);have h4:thn.length*GT d<=5*GT d:=zd' _ b3;have h5:els.length*GT d<=5*GT d:=zd' _ b4;rcases ho with rfl|rfl;rw [Ab (by decide),Ad rfl];have q1:=h2 (b+(c_ e).length+1);have q2:=h3 (b+(c_ e).length+1+(h_ (b+(c_ e).length+1) thn).length+1);split;simp only [Ax,List.length_cons,AH];omega;simp only [Ax,List.length_cons,AH];omega;rw [Ab (by decide),Ab (by decide),Ad rfl];have q1:=h2 (b+(c_ e).length+1);simp only [Ax,List.length_cons,AH];omega;have hal:ag.length<=2:=(by rcases c1 with ⟨_,_,c1⟩|⟨_,_,c1⟩|⟨_,_,c1⟩<;>(have:=congrArg List.length c1;simp at this;omega));have h1:=kE c2;rw [Ab (by decide),Ab (by decide),Ab (by decide)];simp only [Ax,List.length_cons,AH];omega
def tR {l:List GS} (h5:l.length<=5) (h:∀s∈l,TS 3 s) (b:Nat):(h_ b l).length<=80000:=by have h1:(h_ b l).length<=l.length*GT 3:=Td b λs hs=>iA 3 s (h s hs);have h2:l.length*GT 3<=5*GT 3:=zd' _ h5;have h3:GT 3=14430:=rfl;omega
structure FV where
 k:Int
 i:Int
 f:Option Nat
def FV.z:FV:=⟨0,0,some 0⟩
def f_ (v:FV):List AV:=[.int .i64 v.k,.int .i64 v.i,fv v.f]
theorem FL (v:FV):(f_ v).length=3:=rfl
def B2 (v:FV):Ak (f_ v)=true:=by simp only [f_,Ak,okC,C3]
def Do (k i:Int):Prop:=(k=1/\0<=i/\i<=1)\/(k=2/\ -32768<=i/\i<=32767)\/(k=3/\ -2147483648<=i/\i<=2147483647)\/(k=4/\ -9223372036854775808<=i/\i<=9223372036854775807)\/(k=5/\i=0)
def TV (v:FV):Prop:=Do v.k v.i/\(v.k≠5->v.f=some 0)
theorem Do.kd {k i:Int} (h:Do k i):1<=k/\k<=5:=by rcases h with h|h|h|h|h<;>omega
def Do.i64 {k i:Int} (h:Do k i): -9223372036854775808<=i/\i<=9223372036854775807:=by rcases h with h|h|h|h|h<;>omega
def K_ (k i:Int):Int:=if k=1 then (if i=0 then 0 else 1)else if k=2 then IntKind.i16.wrap i else if k=3 then IntKind.i32.wrap i else if k=4 then i else 0
def fm (i:Int): -32768<=IntKind.i16.wrap i/\IntKind.i16.wrap i<=32767:=by simp [IntKind.wrap,IntKind.bits,IntKind.signed];omega
def gQ (i:Int): -2147483648<=IntKind.i32.wrap i/\IntKind.i32.wrap i<=2147483647:=by simp [IntKind.wrap,IntKind.bits,IntKind.signed];omega
def mJ (i:Int): -9223372036854775808<=IntKind.i64.wrap i/\IntKind.i64.wrap i<=9223372036854775807:=by simp [IntKind.wrap,IntKind.bits,IntKind.signed];omega
theorem rl {i:Int} (h1: -32768<=i) (h2:i<=32767):IntKind.i16.wrap i=i:=by simp [IntKind.wrap,IntKind.bits,IntKind.signed];omega
theorem rR {i:Int} (h1: -2147483648<=i) (h2:i<=2147483647):IntKind.i32.wrap i=i:=by simp [IntKind.wrap,IntKind.bits,IntKind.signed];omega
def Wz {k i:Int} (h1:1<=k) (h2:k<=4) (h3: -9223372036854775808<=i) (h4:i<=9223372036854775807):Do k (K_ k i):=by have a:=fm i;have b:=gQ i;unfold Do K_;rcases (by omega:k=1\/k=2\/k=3\/k=4)with rfl|rfl|rfl|rfl;simp only [if_true];split;exact .inl ⟨trivial,by decide,by decide⟩;exact .inl ⟨trivial,by decide,by decide⟩;exact .inr (.inl ⟨rfl,a⟩);exact .inr (.inr (.inl ⟨rfl,b⟩));exact .inr (.inr (.inr (.inl ⟨rfl,h3,h4⟩)))
def Mx {k i:Int} (h:Do k i) (hk:k≠5):K_ k i=i:=by
 unfold K_;rcases h with ⟨rfl,h,h'⟩|⟨rfl,h,h'⟩|⟨rfl,h,h'⟩|⟨rfl,h,h'⟩|⟨rfl,h⟩
 .simp only [if_true];split<;>omega
 simp [rl h h'];simp [rR h h'];simp;exact absurd rfl hk
def tI (b:Bool):Int:=if b=true then 1 else 0
def FQ (i:Int):Int:=IntKind.i64.wrap i
def Dr (op k a b:Int):Int:=
 if op=4 then K_ k (FQ (a+b))else if op=5 then K_ k (FQ (a-b))else if op=6 then K_ k (FQ (a*b))else if op=7 then K_ k (FQ (a.tdiv b))else if op=8 then K_ k (a.tmod b)
 else if op=9 then tI (decide (a=b))else if op=10 then tI (decide (¬a=b))else if op=11 then tI (decide (a<b))else if op=12 then tI (decide (a<=b))
 else if op=13 then tI (decide (¬a=0)&&decide (¬b=0))else if op=14 then tI (decide (¬a=0)||decide (¬b=0))else if op=15 then tI (decide (a=0))else K_ k (FQ (0-a))
def CH (op b:Int):Int:=if (op=7\/op=8)/\b=0 then 5 else 0
def CS (op k:Int):Prop:=4<=op/\op<=16/\1<=k/\k<=5/\(op<=8\/op=16\/op=11\/op=12->k≠1)/\(op=8->k≠5)/\(13<=op/\op<=15->k=1)
def JI (b:Bool):Do 1 (tI b):=by cases b;exact .inl ⟨rfl,by decide,by decide⟩;exact .inl ⟨rfl,by decide,by decide⟩
def mi {k a b:Int} (h:Do k a) (hk:k≠5) (hk1:k≠1):Do k (a.tmod b):=by
 have h1:(a.tmod b).natAbs<=a.natAbs:=by rw [Int.natAbs_tmod];exact Nat.mod_le _ _
 have h2:0<=a->0<=a.tmod b:=λh=>zg' _ h;have h3:¬(a<0/\0<a.tmod b):=λ⟨p,q⟩=>by have:=zg' (a:= -a) b (by omega);rw [Int.neg_tmod]at this;omega
 rcases h with h|h|h|h|h;omega;exact .inr (.inl (by omega));exact .inr (.inr (.inl (by omega)));exact .inr (.inr (.inr (.inl (by omega))));omega
def CY_ {op k a b:Int} (h:CS op k) (hk:k≠5) (ha:Do k a):Do (if 9<=op/\op<=12 then 1 else k) (Dr op k a b):=by obtain ⟨h1,h2,h3,h4,h5,h6,h7⟩:=h;have hw:∀i,Do k (K_ k (FQ i)):=λi=>Wz h3 (by omega) (mJ i).1 (mJ i).2;unfold Dr;by_cases c4:op=4;subst c4;simp only [if_true,if_false,show ¬((9:Int)<=4/\(4:Int)<=12) by omega];exact hw _;rw [Ab c4];by_cases c5:op=5;subst c5;simp only [if_true,if_false,show ¬((9:Int)<=5/\(5:Int)<=12) by omega];exact hw _;rw [Ab c5];by_cases c6:op=6;subst c6;simp only [if_true,if_false,show ¬((9:Int)<=6/\(6:Int)<=12) by omega];exact hw _;rw [Ab c6];by_cases c7:op=7;subst c7;simp only [if_true,if_false,show ¬((9:Int)<=7/\(7:Int)<=12) by omega];exact hw _;rw [Ab c7];by_cases c8:op=8;subst c8;simp only [if_true,if_false,show ¬((9:Int)<=8/\(8:Int)<=12) by omega];have:=mi (b:=b) ha hk (h5 (by omega));rw [Mx this hk];exact this;rw [Ab c8];by_cases c9:op=9;subst c9;simp only [if_true,show ((9:Int)<=9/\(9:Int)<=12) by omega];exact JI _;rw [Ab c9];by_cases Wn:op=10;subst Wn;simp only [if_true,show ((9:Int)<=10/\(10:Int)<=12) by omega];exact JI _;rw [Ab Wn];by_cases c11:op=11;subst c11;simp only [if_true,show ((9:Int)<=11/\(11:Int)<=12) by omega];exact JI _;rw [Ab c11];by_cases c12:op=12;subst c12;simp only [if_true,show ((9:Int)<=12/\(12:Int)<=12) by omega];exact JI _;rw [Ab c12,Ab (show ¬(9<=op/\op<=12) by omega)];by_cases c8:op=13;rw [Ad c8,h7 (by omega)];exact JI _;rw [Ab c8];by_cases Ly:op=14;rw [Ad Ly,h7 (by omega)];exact JI _;rw [Ab Ly];by_cases Wb:op=15;rw [Ad Wb,h7 (by omega)];exact JI _;rw [Ab Wb];exact hw _
theorem wN (a:Int):a.tdiv (-1)= -a:=by rw [Int.tdiv_neg,Int.tdiv_one]
theorem zS (a:Int):a.tmod (-1)=0:=by rw [Int.tmod_neg,Int.tmod_one]
def vQ {k a b:Int} (h:Do k a) (hk:k≠5) (hk1:k≠1) (hb:b≠ -1):Do k (a.tdiv b):=by
 have h1:(a.tdiv b).natAbs<=a.natAbs:=by rw [Int.natAbs_tdiv];exact Nat.div_le_self _ _
 have key:a.tdiv b= -a->0<=a\/a.tdiv b=a:=λe=>by
  by_cases ha:0<=a;exact .inl ha
  .exfalso;have h2:(a.tdiv b).natAbs=a.natAbs:=(by rw [e,Int.natAbs_neg]);rw [Int.natAbs_tdiv]at h2;have h3:b.natAbs=1:=by have h4:0<a.natAbs:=(by omega);rcases Nat.lt_trichotomy b.natAbs 1 with h5|h5|h5;have:b.natAbs=0:=(by omega);rw [this]at h2;have:a.natAbs.div 0=0:=Nat.div_zero _;omega;exact h5;have:a.natAbs.div b.natAbs<a.natAbs:=Nat.div_lt_self h4 h5;omega
   have h6:b=1:=(by omega);rw [h6,Int.tdiv_one]at e;omega
 rcases h with h|h|h|h|h;omega;refine .inr (.inl ⟨h.1,?_⟩);have:a.tdiv b≠ -a\/0<=a\/a.tdiv b=a:=(by by_cases e:a.tdiv b= -a;exact .inr (key e);exact .inl e);omega;refine .inr (.inr (.inl ⟨h.1,?_⟩));have:a.tdiv b≠ -a\/0<=a\/a.tdiv b=a:=(by by_cases e:a.tdiv b= -a;exact .inr (key e);exact .inl e);omega;refine .inr (.inr (.inr (.inl ⟨h.1,?_⟩)));have:a.tdiv b≠ -a\/0<=a\/a.tdiv b=a:=(by by_cases e:a.tdiv b= -a;exact .inr (key e);exact .inl e);omega;omega
def jI (op:Int) (o:Option Ordering):Bool:=if op=9 then o==some .eq else if op=10 then o !=some .eq else if op=11 then o==some .lt else o==some .lt||o==some .eq
def KF (op:Int) (a b:Option Nat):FV:=
 if op=4 then ⟨5,0,EA FloatKind.f64.format.add a b⟩else if op=5 then ⟨5,0,EA FloatKind.f64.format.sub a b⟩else if op=6 then ⟨5,0,EA FloatKind.f64.format.mul a b⟩else if op=7 then ⟨5,0,EA FloatKind.f64.format.div a b⟩
 else if op=16 then ⟨5,0,a.map (Op.negFloat .f64)⟩else ⟨1,tI (jI op (Bw a b)),some 0⟩
def E6 (op k:Int) (a b:FV):FV:=if k=5 then KF op a.f b.f else ⟨if 9<=op/\op<=12 then 1 else k,Dr op k a.i b.i,some 0⟩
def C9 (op k:Int) (b:FV):Int:=if k=5 then 0 else CH op b.i
def Cf_ (op:Int) (a b:Option Nat):TV (KF op a b):=by
 have r:∀f,TV ⟨5,0,f⟩:=λf=>⟨.inr (.inr (.inr (.inr ⟨rfl,rfl⟩))),λh=>absurd rfl h⟩;unfold KF;split;· exact r _
 split;· exact r _
 split;· exact r _
 split;· exact r _
 split;· exact r _
 exact ⟨JI _,λ_=>rfl⟩
def mr {op k:Int} {a b:FV} (h:CS op k) (ha:TV a) (hk:a.k=k):TV (E6 op k a b):=by unfold E6;split;exact Cf_ ..;rename_i h5;exact ⟨CY_ h h5 (hk▸ha.1),λ_=>rfl⟩
def nS {op k:Int} {a b:FV} (h:CS op k):(E6 op k a b).k=if (9<=op/\op<=12)then 1 else k:=by
 obtain ⟨h1,h2,h3,h4,h5,h6,h7⟩:=h;unfold E6;split
 .rename_i e;unfold KF;split;· rw [Ab (by omega),e]
  split;· rw [Ab (by omega),e]
  split;· rw [Ab (by omega),e]
  split;· rw [Ab (by omega),e]
  split;· rw [Ab (by omega),e]
  rw [Ad (by omega)]
 rfl
def GD (k:Int):Nat:=if k=2 then 4674736413210574848 else if k=3 then 4746794007248502784 else 4890909195324358656
def Fo (k:Int):Nat:=if k=2 then 13898108450065350656 else if k=3 then 13970166044103278592 else 14114281232179134464
def N_ (k:Int) (f:Option Nat):Option Int:=
 if DV f=true then none else if Bw (DX f) (some (Fo k))=some .lt then none else if Bw (DX f) (some (GD k))=some .lt then ZG (DX f)else none
def fQ {k:Int} {f:Option Nat} {n:Int} (hk:2<=k/\k<=4) (h:N_ k f=some n):Do k n:=by
 unfold N_ at h;split at h;· cases h
 split at h;· cases h
 rename_i h1;split at h;rename_i h2;rcases (by omega:k=2\/k=3\/k=4)with rfl|rfl|rfl;obtain ⟨m,e,a,b⟩:=N6 (k:=15) (j:= -37) rfl (by kernel_rfl) (by kernel_rfl) h1 h2;rw [h]at e;cases e;exact .inr (.inl ⟨rfl,by omega,by omega⟩);obtain ⟨m,e,a,b⟩:=N6 (k:=31) (j:= -21) rfl (by kernel_rfl) (by kernel_rfl) h1 h2;rw [h]at e;cases e;exact .inr (.inr (.inl ⟨rfl,by omega,by omega⟩));obtain ⟨m,e,a,b⟩:=N6 (k:=63) (j:=11) rfl (by kernel_rfl) (by kernel_rfl) h1 h2;rw [h]at e;cases e;exact .inr (.inr (.inr (.inl ⟨rfl,by omega,by omega⟩)));cases h
def J_ (kd:Int) (v:FV):Except Int FV:=
 if kd=5 then (if v.k=5 then .ok v else .ok ⟨5,0,some (FloatKind.f64.nearest v.i)⟩)
 else if v.k=5 then (match N_ kd v.f with|some n=>.ok ⟨kd,n,some 0⟩|none=>.error 7)
 else .ok ⟨kd,K_ kd v.i,some 0⟩
def dW {kd:Int} {v w:FV} (hk:2<=kd/\kd<=5) (hv:TV v) (h:J_ kd v=.ok w):TV w/\w.k=kd:=by unfold J_ at h;split at h;rename_i e;split at h;rename_i e';cases h;exact ⟨hv,by omega⟩;cases h;exact ⟨⟨.inr (.inr (.inr (.inr ⟨rfl,rfl⟩))),λh=>absurd rfl h⟩,e.symm⟩;split at h;split at h;rename_i n hn;cases h;exact ⟨⟨fQ (k:=kd) (by omega) hn,λ_=>rfl⟩,rfl⟩;cases h;cases h;have:=hv.1.i64;exact ⟨⟨Wz (k:=kd) (by omega) (by omega) this.1 this.2,λ_=>rfl⟩,rfl⟩
def rV:VC:=⟨⟨[],[]⟩,[],[],0,true,[]⟩
def jl:VT:=.ite 64 (.done (J 1))<|.done (J 0)
def sw:VC:=⟨⟨[],[]⟩,[],[],0,true,[]⟩
def kA:VT:=Iq 64 9 67 (Li Qq [65,66] 68<|.done (.tup [.bool true,68]))<|Iq 64 10 68 (Li Ua [65,66] 69<|.done (.tup [.bool true,69]))<|Iq 64 11 69 (Li Uu [65,66] 70<|.done (.tup [.bool true,70]))<|Iq 64 12 70 (Li Zy [65,66] 71<|.done (.tup [.bool true,71]))<|.done (.tup [.bool false,.bool false])
def xU:VC:=⟨⟨[],[]⟩,[(199,[none])],[],0,true,[]⟩
def iS:VT:=Iq 64 13 67 (It Qc [65,J 0] 68 (Li Qc [66,J 0] 69<|.call 199 [69] 70 [none]<|.done (70))<|.call 199 [.bool false] 69 [none]<|.done (69))<|Iq 64 14 68 (It Qc [65,J 0] 69 (.call 199 [.bool true] 70 [none]<|.done (70))<|Li Qc [66,J 0] 70<|.call 199 [70] 71 [none]<|.done (71))<|Iq 64 15 69 (Li Qt [65,J 0] 70<|.call 199 [70] 71 [none]<|.done (71))<|.done (J 0)
def zp:VC:=⟨⟨[],[]⟩,[(199,[none])],[],0,true,[]⟩
def fx:VT:=Iq 64 1 66 (Li Qc [65,J 0] 67<|.call 199 [67] 68 [none]<|.done (68))<|Iq 64 2 67 (Li (.conv 2 219) [65] 68<|Li (.conv 219 2) [68] 69<|.done (69))<|Iq 64 3 68 (Li (.conv 2 21) [65] 69<|Li (.conv 21 2) [69] 70<|.done (70))<|Iq 64 4 69 (.done (65))<|.done (J 0)
def sM:VC:=⟨⟨[],[]⟩,[],[],0,true,[]⟩
def cV:VT:=Dn [64]
def IC_:VC:=⟨⟨[],[]⟩,[],[],0,true,[(202,CK)]⟩
def pQ:VT:=It Qt [66,J 0] 67 (Cf 202 CK [J 5] 68 1<|.done (.tup [J 1,69]))<|Iq 64 8 68 (Li Zl [65,66] 69<|Dn [69])<|Li Ub [65,66] 69<|Dn [69]
def Iz_:VC:=⟨⟨[],[]⟩,[],[],0,true,[(202,CK),(216,Tu)]⟩
def gz:VT:=Iq 64 4 67 (Li Zk [65,66] 68<|Dn [68])<|Iq 64 5 68 (Li Zh [65,66] 69<|Dn [69])<|Iq 64 6 69 (Li Uv [65,66] 70<|Dn [70])<|Iq 64 16 70 (Li Zb [65] 71<|Dn [71])<|Iq 64 7 71 (.callF 216 Tu [64,65,66] 72 (.cons 1 (Dn [75]) (.cons 1 (.done (.tup [J 1,75])) .nil)))<|Iq 64 8 72 (.callF 216 Tu [64,65,66] 73 (.cons 1 (Dn [76]) (.cons 1 (.done (.tup [J 1,76])) .nil)))<|Cf 202 CK [J 4] 73 1<|.done (.tup [J 1,74])
def Ef_:VC:=⟨⟨[],[]⟩,[(201,[none,none]),(203,[none]),(199,[none]),(165,[none])],[],0,true,[(202,CK),(204,Cv)]⟩
def mj:VT:=.call 201 [64,65,66] 67 [none,none]<|Iq 64 13 69 (.call 203 [64,65,66] 70 [none]<|.done (.tup [70,J 0]))<|Iq 64 14 70 (.call 203 [64,65,66] 71 [none]<|.done (.tup [71,J 0]))<|Iq 64 15 71 (.call 203 [64,65,66] 72 [none]<|.done (.tup [72,J 0]))<|It Q1 [64,J 9] 72 (It Q1 [64,J 10] 73 (Cf 202 CK [J 4] 74 1<|Dn [75])<|.ite 67 (.call 199 [68] 74 [none]<|.done (.tup [74,J 0]))<|.callF 204 Cv [64,65,66] 74 (.cons 1 (.call 165 [J 1,77] 78 [none]<|.done (.tup [78,J 0])) (.cons 1 (Dn [77]) .nil)))<|.ite 67 (.call 199 [68] 73 [none]<|.done (.tup [73,J 0]))<|.callF 204 Cv [64,65,66] 73 (.cons 1 (.call 165 [J 1,76] 77 [none]<|.done (.tup [77,J 0])) (.cons 1 (Dn [76]) .nil))
def Eg_:VC:=⟨⟨[],[]⟩,[(201,[none,none]),(203,[none]),(199,[none]),(165,[none])],[],0,true,[(202,CK),(204,Cv)]⟩
def lu:VT:=.call 201 [64,65,66] 67 [none,none]<|.ite 67 (.call 199 [68] 69 [none]<|.done (.tup [69,J 0]))<|.callF 204 Cv [64,65,66] 69 (.cons 1 (.call 165 [J 2,72] 73 [none]<|.done (.tup [73,J 0])) (.cons 1 (Dn [72]) .nil))
def xM:VC:=⟨⟨[],[]⟩,[(201,[none,none]),(203,[none]),(199,[none]),(165,[none])],[],0,true,[(202,CK),(204,Cv)]⟩
def oi:VT:=.call 201 [64,65,66] 67 [none,none]<|.ite 67 (.call 199 [68] 69 [none]<|.done (.tup [69,J 0]))<|.callF 204 Cv [64,65,66] 69 (.cons 1 (.call 165 [J 3,72] 73 [none]<|.done (.tup [73,J 0])) (.cons 1 (Dn [72]) .nil))
def vK:VC:=⟨⟨[],[]⟩,[(201,[none,none]),(203,[none]),(199,[none]),(165,[none])],[],0,true,[(202,CK),(204,Cv)]⟩
def cj:VT:=.call 201 [64,65,66] 67 [none,none]<|.ite 67 (.call 199 [68] 69 [none]<|.done (.tup [69,J 0]))<|.callF 204 Cv [64,65,66] 69 (.cons 1 (.call 165 [J 4,72] 73 [none]<|.done (.tup [73,J 0])) (.cons 1 (Dn [72]) .nil))
def Ir (b:Bool):AQ 199 [.bool b] (.int .i64 (tI b)):=by refine BV [none] [.bool b] rV jl rfl rfl rfl rfl rfl (by kernel_rfl) λY hf hg=>?_;unfold jl;cases b;exact AC (t:=false) rfl (λh=>by cases h) (λh=>As rfl);exact AC (t:=true) rfl (λh=>As rfl) (λh=>by cases h)
def MG (op a b:Int):Bool:=if op=9 then decide (a=b)else if op=10 then decide (¬a=b)else if op=11 then decide (a<b)else if op=12 then decide (a<=b)else false
def Vh (op a b:Int):AQ 201 [.int .i64 op,.int .i64 a,.int .i64 b] (.tup [.bool (decide (9<=op/\op<=12)),.bool (MG op a b)]):=by
 refine BV [none,none,none] [.int .i64 op,.int .i64 a,.int .i64 b] sw kA rfl rfl rfl rfl rfl (by kernel_rfl) λY hf hg=>?_;unfold kA
 (refine d_ rfl rfl ?_ ?_<;>intro h<;>try omega)
 subst h;exact Aa (Aw ..) rfl (As (by rfl))
 (refine d_ rfl rfl ?_ ?_<;>intro h<;>try omega)
 subst h;exact Aa (Av ..) rfl (As (by rw [show MG 10 a b=decide (¬a=b) from rfl];simp;rfl))
 (refine d_ rfl rfl ?_ ?_<;>intro h<;>try omega)
 subst h;exact Aa (Bn ..) rfl (As (by rfl))
 (refine d_ rfl rfl ?_ ?_<;>intro h<;>try omega)
 subst h;exact Aa (BN ..) rfl (As (by rfl));refine As ?_;have e1:decide (9<=op/\op<=12)=false:=Bk (by omega);have e2:MG op a b=false:=by unfold MG;simp only [*,if_false]
 rw [e1,e2];rfl
def aA (op a b:Int) (ho:13<=op/\op<=15):AQ 203 [.int .i64 op,.int .i64 a,.int .i64 b] (.int .i64 (Dr op 1 a b)):=by
 refine BV [none,none,none] [.int .i64 op,.int .i64 a,.int .i64 b] xU iS rfl rfl rfl rfl rfl (by kernel_rfl) λY hf hg=>?_;unfold iS
 (refine d_ rfl rfl ?_ ?_<;>intro h<;>try omega)
 .subst h;have e:Dr 13 1 a b=tI (decide (¬a=0)&&decide (¬b=0)):=rfl;rw [e]
  (refine d_ rfl rfl ?_ ?_<;>intro h<;>try omega)
  .refine Aa (Av ..) rfl (Ar (Ir _) rfl rfl (As ?_));rw [AX h,Bool.true_and];by_cases hb:b=0<;>simp [hb]<;>rfl
  rw [Bk (by omega),Bool.false_and];exact Ar (Ir false) rfl rfl (As rfl)
 (refine d_ rfl rfl ?_ ?_<;>intro h<;>try omega)
 .subst h;have e:Dr 14 1 a b=tI (decide (¬a=0)||decide (¬b=0)):=rfl;rw [e]
  (refine d_ rfl rfl ?_ ?_<;>intro h<;>try omega)
  rw [AX h,Bool.true_or];exact Ar (Ir true) rfl rfl (As rfl)
  .refine Aa (Av ..) rfl (Ar (Ir _) rfl rfl (As ?_));rw [Bk (p:=¬a=0) (by omega),Bool.false_or];by_cases hb:b=0<;>simp [hb]<;>rfl
 (refine d_ rfl rfl ?_ ?_<;>intro h<;>try omega)
 subst h;exact Aa (Aw ..) rfl (Ar (Ir _) rfl rfl (As rfl))
def vq (i:Int):(XOp.conv 2 219).run Tryz.prog [.int .i64 i]=some (.int .i16 (IntKind.i16.wrap i)):=HE Tryz.underlying2 Tryz.underlying219 i
def qV (i:Int):(XOp.conv 219 2).run Tryz.prog [.int .i16 (IntKind.i16.wrap i)]=some (.int .i64 (IntKind.i16.wrap i)):=by have:=fm i;rw [HE Tryz.underlying219 Tryz.underlying2,DU (by omega) (by omega)]
def sO (i:Int):(XOp.conv 2 21).run Tryz.prog [.int .i64 i]=some (.int .i32 (IntKind.i32.wrap i)):=HE Tryz.underlying2 Tryz.underlying21 i
def Fu_ (i:Int):(XOp.conv 21 2).run Tryz.prog [.int .i32 (IntKind.i32.wrap i)]=some (.int .i64 (IntKind.i32.wrap i)):=by have:=gQ i;rw [HE Tryz.underlying21 Tryz.underlying2,DU (by omega) (by omega)]
def Kp (k i:Int):AQ 165 [.int .i64 k,.int .i64 i] (.int .i64 (K_ k i)):=by
 refine BV [none,none] [.int .i64 k,.int .i64 i] zp fx rfl rfl rfl rfl rfl (by kernel_rfl) λY hf hg=>?_;unfold fx
 (refine d_ rfl rfl ?_ ?_<;>intro h<;>try omega)
 .subst h;refine Aa (Av ..) rfl (Ar (Ir _) rfl rfl (As ?_));by_cases hi:i=0<;>simp [hi,K_,tI]<;>rfl
 (refine d_ rfl rfl ?_ ?_<;>intro h<;>try omega)
 subst h;exact Aa (vq i) rfl (Aa (qV i) rfl (As rfl))
 (refine d_ rfl rfl ?_ ?_<;>intro h<;>try omega)
 subst h;exact Aa (sO i) rfl (Aa (Fu_ i) rfl (As rfl))
 (refine d_ rfl rfl ?_ ?_<;>intro h<;>try omega)
 subst h;exact As rfl;refine As ?_;have:K_ k i=0:=(by unfold K_;simp only [*,if_false]);rw [this];rfl
def RF (e:Int):Nat->List AV->Prop:=λj ws=>j=0/\ws=[.int .i64 e]
def yp (e:Int):A6 202 CK [.int .i64 e] (RF e):=by refine BU sM cV rfl rfl (by kernel_rfl) λY hf hg=>?_;unfold cV;exact Ai rfl ⟨rfl,rfl⟩
def Gc (op a b:Int):Int:=if op=4 then FQ (a+b)else if op=5 then FQ (a-b)else if op=6 then FQ (a*b)else if op=16 then FQ (0-a)else if op=7 then FQ (a.tdiv b)else a.tmod b
def NW {op k a b:Int} (h:(4<=op/\op<=8)\/op=16):Dr op k a b=K_ k (Gc op a b):=by rcases (by omega:op=4\/op=5\/op=6\/op=7\/op=8\/op=16)with rfl|rfl|rfl|rfl|rfl|rfl<;>rfl
def RO (op a b:Int):Nat->List AV->Prop:=λj ws=>(j=0/\CH op b=0/\ws=[.int .i64 (Gc op a b)])\/(j=1/\CH op b=5/\ws=[.int .i64 5])
def kL (op a b:Int) (ho:op=7\/op=8):A6 216 Tu [.int .i64 op,.int .i64 a,.int .i64 b] (RO op a b):=by
 refine BU IC_ pQ rfl rfl (by kernel_rfl) λY hf hg=>?_;unfold pQ
 (refine d_ rfl rfl ?_ ?_<;>intro h<;>try omega)
 subst h;refine Bo (yp 5) rfl ⟨?_,trivial⟩;rintro ws ⟨_,rfl⟩;refine Ai rfl (.inr ⟨rfl,?_,rfl⟩);unfold CH;rw [Ad ⟨ho,rfl⟩];have hb:CH op b=0:=by unfold CH;rw [Ab (by omega)]
 (refine d_ rfl rfl ?_ ?_<;>intro h<;>try omega)
 subst h;exact Aa (TM (by omega) ..) rfl (Ai rfl (.inl ⟨rfl,hb,rfl⟩));obtain rfl:op=7:=(by omega);exact Aa (ip (by omega) ..) rfl (Ai rfl (.inl ⟨rfl,hb,rfl⟩))
def bz (op a b:Int) (ho:(4<=op/\op<=8)\/op=16):A6 204 Cv [.int .i64 op,.int .i64 a,.int .i64 b] (RO op a b):=by
 refine BU Iz_ gz rfl rfl (by kernel_rfl) λY hf hg=>?_;unfold gz
 (refine d_ rfl rfl ?_ ?_<;>intro h<;>try omega)
 subst h;exact Aa (A9 ..) rfl (Ai rfl (.inl ⟨rfl,rfl,rfl⟩))
 (refine d_ rfl rfl ?_ ?_<;>intro h<;>try omega)
 subst h;exact Aa (Bu ..) rfl (Ai rfl (.inl ⟨rfl,rfl,rfl⟩))
 (refine d_ rfl rfl ?_ ?_<;>intro h<;>try omega)
 subst h;exact Aa (F7 ..) rfl (Ai rfl (.inl ⟨rfl,rfl,rfl⟩))
 (refine d_ rfl rfl ?_ ?_<;>intro h<;>try omega)
 subst h;exact Aa (YL ..) rfl (Ai rfl (.inl ⟨rfl,rfl,rfl⟩))
 (refine d_ rfl rfl ?_ ?_<;>intro h<;>try omega)
 subst h;refine Bo (kL 7 a b (.inl rfl)) rfl ⟨?_,?_,trivial⟩;rintro ws (⟨_,h1,rfl⟩|⟨h0,_⟩);exact Ai rfl (.inl ⟨rfl,h1,rfl⟩);cases h0;rintro ws (⟨h0,_⟩|⟨_,h1,rfl⟩);cases h0;exact Ai rfl (.inr ⟨rfl,h1,rfl⟩)
 (refine d_ rfl rfl ?_ ?_<;>intro h<;>try omega)
 subst h;refine Bo (kL 8 a b (.inr rfl)) rfl ⟨?_,?_,trivial⟩;rintro ws (⟨_,h1,rfl⟩|⟨h0,_⟩);exact Ai rfl (.inl ⟨rfl,h1,rfl⟩);cases h0;rintro ws (⟨h0,_⟩|⟨_,h1,rfl⟩);cases h0;exact Ai rfl (.inr ⟨rfl,h1,rfl⟩)
def H_ (op k a b:Int):Int:=if CH op b=0 then Dr op k a b else 0
def My {op k a b:Int} (h:9<=op/\op<=12):Dr op k a b=tI (MG op a b):=by rcases (by omega:op=9\/op=10\/op=11\/op=12)with rfl|rfl|rfl|rfl<;>rfl
def EH {op b:Int} (h:op≠7/\op≠8):CH op b=0:=by unfold CH;rw [Ab (by omega)]
def lT (op k a b:Int) (ho:CS op k) (hk:k≠5):AQ 168 [.int .i64 op,.int .i64 k,.int .i64 a,.int .i64 b] (.tup [.int .i64 (H_ op k a b),.int .i64 (CH op b)]):=by
 obtain ⟨h1,h2,h3,h4,h5,h6,h7⟩:=ho;rcases (by omega:k=1\/k=2\/k=3\/k=4)with hk|hk|hk|hk
 ·(refine EY (args':=[.sym 64,.int .i64 k,.sym 65,.sym 66]) (ls:=[.int .i64 op,.int .i64 a,.int .i64 b]) (c:=Ef_) (n:=300) (t:=mj) mo ov rfl rfl rfl rfl (λY _=>rfl) (λY _=>Ck _) rfl (by subst hk;kernel_rfl) λY hf hg=>?_)
  unfold mj;refine Ar (Vh op a b) rfl rfl ?_
  (refine d_ rfl rfl ?_ ?_<;>intro h<;>try omega)
  subst h;refine Ar (aA 13 a b (by omega)) rfl rfl (As ?_);rw [H_,Ad (EH (by omega)),EH (by omega),hk];rfl
  (refine d_ rfl rfl ?_ ?_<;>intro h<;>try omega)
  subst h;refine Ar (aA 14 a b (by omega)) rfl rfl (As ?_);rw [H_,Ad (EH (by omega)),EH (by omega),hk];rfl
  (refine d_ rfl rfl ?_ ?_<;>intro h<;>try omega)
  subst h;refine Ar (aA 15 a b (by omega)) rfl rfl (As ?_);rw [H_,Ad (EH (by omega)),EH (by omega),hk];rfl
  (refine d_ rfl rfl ?_ ?_<;>intro h<;>try omega)
  ·(refine d_ rfl rfl ?_ ?_<;>intro h<;>try omega)
   refine Jb rfl (λh=>?_) (λh=>?_)
   ·(
     refine Ar (Ir _) rfl rfl (As ?_);rw [H_,Ad (EH (by omega)),EH (by omega),My (by omega)];rfl)
   exfalso;omega
  .refine Jb rfl (λh=>?_) (λh=>?_)
   ·(
     refine Ar (Ir _) rfl rfl (As ?_);rw [H_,Ad (EH (by omega)),EH (by omega),My (by omega)];rfl)
   exfalso;omega
 all_goals have hk1:k≠1:=by omega
 ·(refine EY (args':=[.sym 64,.int .i64 k,.sym 65,.sym 66]) (ls:=[.int .i64 op,.int .i64 a,.int .i64 b]) (c:=Eg_) (n:=300) (t:=lu) mo ov rfl rfl rfl rfl (λY _=>rfl) (λY _=>Ck _) rfl (by subst hk;kernel_rfl) λY hf hg=>?_)
  unfold lu;refine Ar (Vh op a b) rfl rfl (Jb rfl (λh=>?_) (λh=>?_))
  ·(
    refine Ar (Ir _) rfl rfl (As ?_);rw [H_,Ad (EH (by omega)),EH (by omega),My (by omega)];rfl)
  ·(
    refine Bo (bz op a b (by omega)) rfl ⟨?_,?_,trivial⟩;rintro ws (⟨_,h1,rfl⟩|⟨h0,_⟩);refine Ar (Kp _ _) rfl rfl (As ?_);rw [H_,Ad h1,h1,NW (by omega),hk];rfl;cases h0
    .rintro ws (⟨h0,_⟩|⟨_,h1,rfl⟩);cases h0
     .refine As ?_;rw [H_,Ab (by omega),h1];rfl)
 ·(refine EY (args':=[.sym 64,.int .i64 k,.sym 65,.sym 66]) (ls:=[.int .i64 op,.int .i64 a,.int .i64 b]) (c:=xM) (n:=300) (t:=oi) mo ov rfl rfl rfl rfl (λY _=>rfl) (λY _=>Ck _) rfl (by subst hk;kernel_rfl) λY hf hg=>?_)
  unfold oi;refine Ar (Vh op a b) rfl rfl (Jb rfl (λh=>?_) (λh=>?_))
  ·(
    refine Ar (Ir _) rfl rfl (As ?_);rw [H_,Ad (EH (by omega)),EH (by omega),My (by omega)];rfl)
  ·(
    refine Bo (bz op a b (by omega)) rfl ⟨?_,?_,trivial⟩;rintro ws (⟨_,h1,rfl⟩|⟨h0,_⟩);refine Ar (Kp _ _) rfl rfl (As ?_);rw [H_,Ad h1,h1,NW (by omega),hk];rfl;cases h0
    .rintro ws (⟨h0,_⟩|⟨_,h1,rfl⟩);cases h0
     .refine As ?_;rw [H_,Ab (by omega),h1];rfl)
 ·(refine EY (args':=[.sym 64,.int .i64 k,.sym 65,.sym 66]) (ls:=[.int .i64 op,.int .i64 a,.int .i64 b]) (c:=vK) (n:=300) (t:=cj) mo ov rfl rfl rfl rfl (λY _=>rfl) (λY _=>Ck _) rfl (by subst hk;kernel_rfl) λY hf hg=>?_)
  unfold cj;refine Ar (Vh op a b) rfl rfl (Jb rfl (λh=>?_) (λh=>?_))
  ·(
    refine Ar (Ir _) rfl rfl (As ?_);rw [H_,Ad (EH (by omega)),EH (by omega),My (by omega)];rfl)
  ·(
    refine Bo (bz op a b (by omega)) rfl ⟨?_,?_,trivial⟩;rintro ws (⟨_,h1,rfl⟩|⟨h0,_⟩);refine Ar (Kp _ _) rfl rfl (As ?_);rw [H_,Ad h1,h1,NW (by omega),hk];rfl;cases h0
    .rintro ws (⟨h0,_⟩|⟨_,h1,rfl⟩);cases h0
     .refine As ?_;rw [H_,Ab (by omega),h1];rfl)
end Go.Proofs.YtelnbodnjmldeaaGreat.vars
