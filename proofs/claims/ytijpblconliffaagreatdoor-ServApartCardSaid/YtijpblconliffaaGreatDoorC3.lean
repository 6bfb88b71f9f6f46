/-
  What is the same as itself: values, what waits; ServApart.
-/
import Derived.Test.YtijpblconliffaaGreatDoorA8
import Derived.Test.YtijpblconliffaaGreatDoorFA
import Derived.Test.YtijpblconliffaaGreatDoorSyK
set_option maxRecDepth 100000
set_option linter.unusedVariables false
set_option linter.unusedSimpArgs false
namespace Go.Proofs.YtijpblconliffaaGreatDoor.vars
open Go Go.Sx
def xd_:VC:=⟨⟨[],[]⟩,[],[],0,true,[]⟩
def wP_:VT:=
 (K (.bin .neq 36 false false) [64,64] 65
 (.ite 65
 (.done (.int .u64 9221120237041090561))
 (K (.ext 143) [64] 66
 (.done (66)))))
def xc_:VC:=⟨⟨[],[]⟩,[(119,[none])],[],0,true,[]⟩
def wO_:VT:=
 (.call 119 [64] 66 [none]
 (.call 119 [65] 67 [none]
 (K (.bin .eql 199 false false) [66,67] 68
 (.done (68)))))
def c63:VC:=⟨⟨[],[]⟩,[(103,[none])],[],0,true,[]⟩
def t63:VT:=
 (K Qr [64,67] 70
 (.ite 70
 (K (.bin .eql 2 false false) [65,68] 71
 (.ite 71
 (.call 103 [66,69] 72 [none]
 (.done (72)))
 (.done (.bool false))))
 (.done (.bool false))))
def c35:VC:=⟨⟨[],[]⟩,[(63,[none])],[(0,[⟨[(5,.slx 0 0 0),(1,65),(0,64)],[],0,1,[],[],[]⟩])],0,true,[]⟩
def t35:VT:=
 (K Qo [64] 66
 (K Qo [65] 67
 (K Q3 [66,67] 68
 (.ite 68
 (.done (.bool false))
 (.loop 69 0 [J 0]
 (.cons 1
 (K Qo [64] 70
 (K Q2 [69,70] 71
 (.ite 71
 (K Qi [64,69] 72
 (.lt Qx [72] 73 (some 3)
 (K Qi [65,69] 76
 (.lt Qx [76] 77 (some 3)
 (.call 63 [.agg [73,74,75],.agg [77,78,79]] 80 [none]
 (K Q6 [80] 81
 (.ite 81
 (.done (.bool false))
 (K Q0 [69,J 1] 82
 (.again 0 0 [82])))))))))
 (.done (.bool true)))))
 .nil))))))
def c16:VC:=⟨⟨[],[]⟩,[(35,[none])],[(0,[⟨[(5,.slx 0 0 0),(1,65),(0,64)],[],0,1,[],[],[]⟩]),(2,[⟨[(6,.slx 0 0 0),(5,69),(1,65),(0,64)],[],0,1,[],[],[]⟩])],0,true,[]⟩
def t16:VT:=
 (K Qa [64] 66
 (K Qa [65] 67
 (K Q3 [66,67] 68
 (.ite 68
 (.done (.bool false))
 (.loop 69 0 [J 0]
 (.cons 1
 (K Qa [64] 70
 (K Q2 [69,70] 71
 (.ite 71
 (K Q8 [64,69] 72
 (K Z5 [72] 73
 (K Q4 [73] 74
 (K Q8 [65,69] 75
 (K Z5 [75] 76
 (K Q4 [76] 77
 (K Q3 [74,77] 78
 (.ite 78
 (.done (.bool false))
 (K Q8 [64,69] 79
 (K Qz [79] 80
 (K Q4 [80] 81
 (K Q8 [65,69] 82
 (K Qz [82] 83
 (K Q4 [83] 84
 (K Q3 [81,84] 85
 (.ite 85
 (.done (.bool false))
 (K Q8 [64,69] 86
 (K Z0 [86] 87
 (K Z1 [87] 88
 (K (.len 49) [88] 89
 (K Q8 [65,69] 90
 (K Z0 [90] 91
 (K Z1 [91] 92
 (K (.len 49) [92] 93
 (K Q3 [89,93] 94
 (.ite 94
 (.done (.bool false))
 (K Q8 [64,69] 95
 (K (.faddr 51 3) [95] 96
 (K (.load 26) [96] 97
 (K Q8 [65,69] 98
 (K (.faddr 51 3) [98] 99
 (K (.load 26) [99] 100
 (.call 35 [97,100] 101 [none]
 (K Q6 [101] 102
 (.ite 102
 (.done (.bool false))
 (.loop 103 0 [J 0]
 (.cons 1
 (K Q8 [64,69] 104
 (K Z0 [104] 105
 (K Z1 [105] 106
 (K (.len 49) [106] 107
 (K Q2 [103,107] 108
 (.ite 108
 (K Q8 [64,69] 109
 (K Z0 [109] 110
 (K Z1 [110] 111
 (K (.iaddr 49) [111,103] 112
 (K Q4 [112] 113
 (K Q8 [65,69] 114
 (K Z0 [114] 115
 (K Z1 [115] 116
 (K (.iaddr 49) [116,103] 117
 (K Q4 [117] 118
 (K Q3 [113,118] 119
 (.ite 119
 (.done (.bool false))
 (K Q0 [103,J 1] 120
 (.again 1 0 [120]))))))))))))))
 (K Q0 [69,J 1] 109
 (.again 0 0 [109]))))))))
 .nil)))))))))))))))))))))))))))))))))))))
 (.done (.bool true)))))
 .nil))))))
def wv_:Option Nat->Int
 |none=>9221120237041090561
 |some n=>if pT_ n=true then 9221120237041090561 else (n:Int)
theorem v9_ (n:Nat):(XOp.ext 143).run Tryz.prog [.flt .f64 n]=some (.int .u64 (n:Int)):=by kernel_rfl
theorem wJ_ (o:Option Nat):ju_ Tryz.prog 119 [fv o] (.int .u64 (wv_ o)):=by
 refine t1_ (sh:=[none]) (ls:=[fv o]) (c:=xd_) (n:=300) (t:=wP_) mo ov rfl (by simp only [okL,vG_]) rfl (λY _=>vv_ _) rfl (by kernel_rfl) λY hf hg=>?_;unfold wP_;cases o with
 |none=>exact vo_ (r:=.bool true) (by kernel_rfl) rfl (u7_ (t:=true) rfl (λ_=>uy_ rfl) (λh=>by cases h))
 |some n=>refine vo_ (ut_ ..) rfl (u7_ rfl (λh=>uy_ ?_) (λh=>vo_ (v9_ n) rfl (uy_ ?_)));have h:pT_ n=true:=h;exact congrArg (AV.int .u64) (if_pos h).symm;have h:pT_ n=false:=h;exact congrArg (AV.int .u64) (if_neg (by rw [h];exact Bool.false_ne_true)).symm
theorem vr_ {t:TypeId} {cx cy:Bool} {k:IntKind} {x y:Int} (h:x≠y):(XOp.bin .eql t cx cy).run Tryz.prog [.int k x,.int k y]=some (.bool false):=by rw [run_eql,decide_eq_false h]
theorem v_ {t:TypeId} {cx cy:Bool} {k:IntKind} {e:Int}:(XOp.bin .eql t cx cy).run Tryz.prog [.int k e,.int k e]=some (.bool true):=by rw [run_eql,decide_eq_true rfl]
theorem xJ_ (o:Option Nat):ju_ Tryz.prog 103 [fv o,fv o] (.bool true):=by refine t1_ (sh:=[none,none]) (ls:=[fv o,fv o]) (c:=xc_) (n:=300) (t:=wO_) mo ov rfl (by simp only [okL,vG_]) rfl (λY _=>vv_ _) rfl (by kernel_rfl) λY hf hg=>?_;unfold wO_;exact ux_ (wJ_ o) rfl rfl (ux_ (wJ_ o) rfl rfl (vo_ v_ rfl (uy_ rfl)))
theorem p63 (v:FV):ju_ Tryz.prog 63 [.agg (f_ v),.agg (f_ v)] (.bool true):=by refine t1_ (sh:=[some 3,some 3]) (ls:=f_ v++f_ v) (c:=c63) (n:=300) (t:=t63) mo ov rfl (kN_.okL_join (m_ v) (m_ v)) rfl (λY _=>vv_ _) rfl (by kernel_rfl) λY hf hg=>?_;unfold t63;exact vo_ v_ rfl (u7_ (t:=true) rfl (λ_=>vo_ v_ rfl (u7_ (t:=true) rfl (λ_=>ux_ (xJ_ v.f) rfl rfl (uy_ rfl)) (λh=>by cases h))) (λh=>by cases h))
theorem p35 {l:List FV} {x y:AV} (hx:SlV f_ 3 l x) (hy:SlV f_ 3 l y) (hl:l.length<=1000):ju_ Tryz.prog 35 [x,y] (.bool true):=by
 refine t1_ (sh:=[none,none]) (ls:=[x,y]) (c:=c35) (n:=300) (t:=t35) mo ov (by rcases hx with rfl|⟨_,rfl⟩<;>rcases hy with rfl|⟨_,rfl⟩<;>rfl) (by simp only [okL,hx.ok m_,hy.ok m_]) rfl (λY _=>vv_ _) rfl (by kernel_rfl) λY hf hg=>?_;unfold t35;refine vo_ (hx.len Tryz.underlying26) rfl (vo_ (hy.len Tryz.underlying26) rfl (vo_ h_ rfl (u7_ (t:=false) rfl (λh=>by cases h) (λ_=>?_))));refine uz_ (ι:=Nat) (λi=>[.int .i64 (i:Int)]) (λi=>i<=l.length) (λi=>l.length-i) 0 (Nat.zero_le _) rfl (λ_ _=>rfl) (λi j _ _ h=>?_) (λi hi=>?_)
 .have h:=(List.cons.inj h).1;injection h with _ h
  omega
 refine vo_ (hx.len Tryz.underlying26) rfl (vo_ (run_lss ..) rfl (u7_ rfl (λhc=>?_) (λ_=>uy_ rfl)));have hc:(i:Int)<(l.length:Int):=dT hc;have hc:i<l.length:=by omega
 refine vo_ (iaV ⟨l,x,hx⟩ hc) (kN_ m_ _) (u8_ (ldV hc) rfl (m_ _) (vo_ (iaV ⟨l,y,hy⟩ hc) (kN_ m_ _) (u8_ (ldV hc) rfl (m_ _) (ux_ (p63 l[i]) rfl rfl ?_))));exact vo_ (vk_ ..) rfl (u7_ (t:=false) rfl (λh=>by cases h) (λ_=>vo_ (e_ (by omega) (by omega)) rfl (un_ rfl ⟨i+1,hc,rfl,by omega⟩)))
theorem fR0 (l:List GR) {i:Nat} (h:i<l.length):(XOp.faddr 51 0).run Tryz.prog [.vptr (bq_ encR (l.drop i))]=some (.vptr (.int .i64 l[i].sess::([.int .i64 l[i].id,l[i].addrs.x,l[i].vals.x]++bq_ encR (l.drop (i+1))))):=by rw [List.drop_eq_getElem_cons h];kernel_rfl
theorem oR0 {l:List GR} {i:Nat} (h:i<l.length):okC (.vptr (.int .i64 l[i].sess::([.int .i64 l[i].id,l[i].addrs.x,l[i].vals.x]++bq_ encR (l.drop (i+1)))))=true:=kN_.okL_join (a:=encR l[i]) (k_ _) (kN_ k_ _)
theorem fR1 (l:List GR) {i:Nat} (h:i<l.length):(XOp.faddr 51 1).run Tryz.prog [.vptr (bq_ encR (l.drop i))]=some (.vptr (.int .i64 l[i].id::([l[i].addrs.x,l[i].vals.x]++bq_ encR (l.drop (i+1))))):=by rw [List.drop_eq_getElem_cons h];kernel_rfl
theorem oR1 {l:List GR} {i:Nat} (h:i<l.length):okC (.vptr (.int .i64 l[i].id::([l[i].addrs.x,l[i].vals.x]++bq_ encR (l.drop (i+1)))))=true:=kN_.okL_join (a:=[.int .i64 l[i].id,l[i].addrs.x,l[i].vals.x]) (by simp only [okL,okC,l[i].addrs.ok okI,l[i].vals.ok m_]) (kN_ k_ _)
theorem fR2 (l:List GR) {i:Nat} (h:i<l.length):(XOp.faddr 51 2).run Tryz.prog [.vptr (bq_ encR (l.drop i))]=some (.vptr (l[i].addrs.x::([l[i].vals.x]++bq_ encR (l.drop (i+1))))):=by rw [List.drop_eq_getElem_cons h];kernel_rfl
theorem oR2 {l:List GR} {i:Nat} (h:i<l.length):okC (.vptr (l[i].addrs.x::([l[i].vals.x]++bq_ encR (l.drop (i+1)))))=true:=kN_.okL_join (a:=[l[i].addrs.x,l[i].vals.x]) (by simp only [okL,okC,l[i].addrs.ok okI,l[i].vals.ok m_]) (kN_ k_ _)
theorem fR3 (l:List GR) {i:Nat} (h:i<l.length):(XOp.faddr 51 3).run Tryz.prog [.vptr (bq_ encR (l.drop i))]=some (.vptr (l[i].vals.x::([]++bq_ encR (l.drop (i+1))))):=by rw [List.drop_eq_getElem_cons h];kernel_rfl
theorem oR3 {l:List GR} {i:Nat} (h:i<l.length):okC (.vptr (l[i].vals.x::([]++bq_ encR (l.drop (i+1)))))=true:=kN_.okL_join (a:=[l[i].vals.x]) (by simp only [okL,okC,l[i].vals.ok m_]) (kN_ k_ _)
theorem v2_ (s:SV J_ 1) {i:Nat} (h:i<s.l.length):(XOp.iaddr 49).run Tryz.prog [s.x,.int .i64 (i:Int)]=some (.vptr (bq_ J_ (s.l.drop i))):=s.h.ia (e:=3) Tryz.underlying49 (ti:=(Tryz.prog.info? 3).get!) (by kernel_rfl) (by kernel_rfl) vT_ h .i64
theorem wC_ {l:List Int} {i:Nat} (h:i<l.length):(XOp.load 3).run Tryz.prog [.vptr (bq_ J_ (l.drop i))]=some (.int .i64 l[i]):=by rw [List.drop_eq_getElem_cons h];exact sT_ Tryz.underlying3 rfl _ _
theorem p16 {l:List GR} {x y:AV} (hx:SlV encR 4 l x) (hy:SlV encR 4 l y) (hl:l.length<=1000) (hr:∀r∈l,r.Sm):ju_ Tryz.prog 16 [x,y] (.bool true):=by
 refine t1_ (sh:=[none,none]) (ls:=[x,y]) (c:=c16) (n:=300) (t:=t16) mo ov (by rcases hx with rfl|⟨_,rfl⟩<;>rcases hy with rfl|⟨_,rfl⟩<;>rfl) (by simp only [okL,hx.ok k_,hy.ok k_]) rfl (λY _=>vv_ _) rfl (by kernel_rfl) λY hf hg=>?_;unfold t16;refine vo_ (hx.len Tryz.underlying47) rfl (vo_ (hy.len Tryz.underlying47) rfl (vo_ h_ rfl (u7_ (t:=false) rfl (λh=>by cases h) (λ_=>?_))));refine uz_ (ι:=Nat) (λi=>[.int .i64 (i:Int)]) (λi=>i<=l.length) (λi=>l.length-i) 0 (Nat.zero_le _) rfl (λ_ _=>rfl) (λi j _ _ h=>?_) (λi hi=>?_)
 .have h:=(List.cons.inj h).1;injection h with _ h
  omega
 refine vo_ (hx.len Tryz.underlying47) rfl (vo_ (run_lss ..) rfl (u7_ rfl (λhc=>?_) (λ_=>uy_ rfl)));have hc:(i:Int)<(l.length:Int):=dT hc;have hc:i<l.length:=by omega
 have hsm:=hr _ (List.getElem_mem hc)
 (refine vo_ (iaR ⟨l,x,hx⟩ hc) (kN_ k_ _) (vo_ (fR0 _ hc) (oR0 hc) (vo_ (sT_ Tryz.underlying3 rfl _ _) (by first|rfl|exact l[i].addrs.ok okI|exact l[i].vals.ok m_) ?_)))
 (refine vo_ (iaR ⟨l,y,hy⟩ hc) (kN_ k_ _) (vo_ (fR0 _ hc) (oR0 hc) (vo_ (sT_ Tryz.underlying3 rfl _ _) (by first|rfl|exact l[i].addrs.ok okI|exact l[i].vals.ok m_) ?_)))
 refine vo_ h_ rfl (u7_ (t:=false) rfl (λh=>by cases h) (λ_=>?_))
 (refine vo_ (iaR ⟨l,x,hx⟩ hc) (kN_ k_ _) (vo_ (fR1 _ hc) (oR1 hc) (vo_ (sT_ Tryz.underlying3 rfl _ _) (by first|rfl|exact l[i].addrs.ok okI|exact l[i].vals.ok m_) ?_)))
 (refine vo_ (iaR ⟨l,y,hy⟩ hc) (kN_ k_ _) (vo_ (fR1 _ hc) (oR1 hc) (vo_ (sT_ Tryz.underlying3 rfl _ _) (by first|rfl|exact l[i].addrs.ok okI|exact l[i].vals.ok m_) ?_)))
 refine vo_ h_ rfl (u7_ (t:=false) rfl (λh=>by cases h) (λ_=>?_))
 (refine vo_ (iaR ⟨l,x,hx⟩ hc) (kN_ k_ _) (vo_ (fR2 _ hc) (oR2 hc) (vo_ (sT_ Tryz.underlying49 rfl _ _) (by first|rfl|exact l[i].addrs.ok okI|exact l[i].vals.ok m_) ?_)))
 refine vo_ (l[i].addrs.h.len Tryz.underlying49) rfl ?_
 (refine vo_ (iaR ⟨l,y,hy⟩ hc) (kN_ k_ _) (vo_ (fR2 _ hc) (oR2 hc) (vo_ (sT_ Tryz.underlying49 rfl _ _) (by first|rfl|exact l[i].addrs.ok okI|exact l[i].vals.ok m_) ?_)))
 refine vo_ (l[i].addrs.h.len Tryz.underlying49) rfl ?_;refine vo_ h_ rfl (u7_ (t:=false) rfl (λh=>by cases h) (λ_=>?_))
 (refine vo_ (iaR ⟨l,x,hx⟩ hc) (kN_ k_ _) (vo_ (fR3 _ hc) (oR3 hc) (vo_ (sT_ Tryz.underlying26 rfl _ _) (by first|rfl|exact l[i].addrs.ok okI|exact l[i].vals.ok m_) ?_)))
 (refine vo_ (iaR ⟨l,y,hy⟩ hc) (kN_ k_ _) (vo_ (fR3 _ hc) (oR3 hc) (vo_ (sT_ Tryz.underlying26 rfl _ _) (by first|rfl|exact l[i].addrs.ok okI|exact l[i].vals.ok m_) ?_)))
 refine ux_ (p35 l[i].vals.h l[i].vals.h hsm.2) rfl rfl (vo_ (vk_ ..) rfl (u7_ (t:=false) rfl (λh=>by cases h) (λ_=>?_)));have hal:=hsm.1;refine uz_ (ι:=Nat) (λk=>[.int .i64 (k:Int)]) (λk=>k<=l[i].addrs.l.length) (λk=>l[i].addrs.l.length-k) 0 (Nat.zero_le _) rfl (λ_ _=>rfl) (λi j _ _ h=>?_) (λk hk=>?_)
 .have h:=(List.cons.inj h).1;injection h with _ h
  omega
 (refine vo_ (iaR ⟨l,x,hx⟩ hc) (kN_ k_ _) (vo_ (fR2 _ hc) (oR2 hc) (vo_ (sT_ Tryz.underlying49 rfl _ _) (by first|rfl|exact l[i].addrs.ok okI|exact l[i].vals.ok m_) ?_)))
 refine vo_ (l[i].addrs.h.len Tryz.underlying49) rfl (vo_ (run_lss ..) rfl (u7_ rfl (λhkc=>?_) (λ_=>?_)))
 .have hkc:(k:Int)<(l[i].addrs.l.length:Int):=dT hkc;have hkc:k<l[i].addrs.l.length:=by omega
  (refine vo_ (iaR ⟨l,x,hx⟩ hc) (kN_ k_ _) (vo_ (fR2 _ hc) (oR2 hc) (vo_ (sT_ Tryz.underlying49 rfl _ _) (by first|rfl|exact l[i].addrs.ok okI|exact l[i].vals.ok m_) ?_)))
  refine vo_ (v2_ l[i].addrs hkc) (kN_ okI _) (vo_ (wC_ hkc) rfl ?_)
  (refine vo_ (iaR ⟨l,y,hy⟩ hc) (kN_ k_ _) (vo_ (fR2 _ hc) (oR2 hc) (vo_ (sT_ Tryz.underlying49 rfl _ _) (by first|rfl|exact l[i].addrs.ok okI|exact l[i].vals.ok m_) ?_)))
  refine vo_ (v2_ l[i].addrs hkc) (kN_ okI _) (vo_ (wC_ hkc) rfl ?_);exact vo_ h_ rfl (u7_ (t:=false) rfl (λh=>by cases h) (λ_=>vo_ (e_ (by omega) (by omega)) rfl (un_ rfl ⟨k+1,hkc,rfl,by omega⟩)))
 exact vo_ (e_ (by omega) (by omega)) rfl (un_ rfl ⟨i+1,hc,rfl,by omega⟩)
def r0:GR:=⟨9,1,.v [4],.v [⟨2,3,some 0⟩]⟩
theorem r0_Sm:r0.Sm:=⟨by show 1<=1000;decide,by show 1<=1000;decide⟩
structure Apt (i:Nat) (s:GS) (mail:SV encR 4):Prop where
 on:s.on=true
 sm:s.Sm
 msm:∀w∈mail.l,w.Sm
 inl:s.inn.l.length+i=6
 ids:∀j (h:j<s.inn.l.length),s.inn.l[j].id=((i+j:Nat):Int)
 sum:s.out.l.length+mail.l.length=i+1
 subs:s.subs.l.length<=i
 first:∃r,mail.l=r0::r
theorem Apt.may {i:Nat} {s:GS} {mail:SV encR 4} (h:Apt i s mail) (hi:i<6) {who:Int} (hw:who≠9):qQ_ who s mail.l:=by refine ⟨h.on,λe=>?_,?_⟩;have:=h.inl;rw [e]at this;simp at this;omega;obtain ⟨r,hr⟩:=h.first;have hs:=h.sum;have e:y_ who mail.l=y_ who r:=(by unfold y_;rw [hr,List.countP_cons,if_neg (by show ¬decide ((9:Int)=who)=true;simpa using λe=>hw e.symm),Nat.add_zero]);have h1:y_ who r<=r.length:=List.countP_le_length;rw [hr,List.length_cons]at hs;omega
structure Apn (i:Nat) (s:GS) (mail:SV encR 4) (who:Int) (t:SV encM 12) (an:AN):Prop where
 next:Apt (i+1) (d_ s t an) an.mail
 inl:s.inn.l.length=t.l.length+1
 yes:an.waits=true->∃w:GR,an.mail.l=mail.l++[w]/\w.id=(i:Int)/\w.sess=who/\(d_ s t an).out.l=s.out.l
 no:an.waits=false->an.mail.l=mail.l/\(d_ s t an).out.l=s.out.l++[an.a]/\an.a.id=(i:Int)
theorem Apt.next {i:Nat} {s:GS} {mail:SV encR 4} (h:Apt i s mail) (hi:i<6) {q:ST} {who now:Int} {t:SV encM 12} {m:GM} (ht:s.inn.l=m::t.l):
  Apn i s mail who t (b_ q who s (.of mail.l) now m):=by
 have hin:=h.inl;have hids:=h.ids;have hm:m.Sm:=h.sm.inM m (by rw [ht];exact List.mem_cons_self ..);have hid:m.id=(i:Int):=by have:=hids 0 (by rw [ht];simp);simp only [ht,List.getElem_cons_zero]at this;exact this
 have ha:=uc_ q who s h.sm.subM (.of mail.l) now m hm;have hsum:=h.sum;have hsub:=h.subs;have hsm:=uZ_ h.sm ht ha (by omega) (by omega);have hso:=rk_ s t (b_ q who s (.of mail.l) now m);generalize b_ q who s (.of mail.l) now m=an at*;have hlen:=ha.len;rw [ht]at hin;have hids':∀j (h:j<t.l.length),t.l[j].id=((i+1+j:Nat):Int):=λj hj=>by have:=hids (j+1) (by rw [ht];simpa using hj);simp only [ht,List.getElem_cons_succ]at this;rw [this];omega
 obtain ⟨r,hr⟩:=h.first;cases hw:an.waits with
 |true=>obtain ⟨w,e1,e2,e3,e4⟩:=ha.yes hw;rw [wN_]at e1;rw [hw,if_pos rfl]at hso;refine ⟨⟨h.on,hsm,λx hx=>?_,by show t.l.length+(i+1)=6;simp at hin;omega,hids',?_,by show an.subs.l.length<=i+1;omega,⟨r++[w],by rw [e1,hr];rfl⟩⟩,by rw [ht];rfl,λ_=>⟨w,e1,by rw [e2,hid],e3,hso⟩,λh=>by rw [hw]at h;cases h⟩;rw [e1]at hx;rcases List.mem_append.1 hx with hx|hx;exact h.msm x hx;rw [List.mem_singleton.1 hx];exact e4;rw [hso,e1,List.length_append,List.length_singleton];omega
 |false=>have e1:=ha.no hw;rw [hw,if_neg (by decide)]at hso;have e1':an.mail.l=mail.l:=(by rw [e1];rfl);refine ⟨⟨h.on,hsm,λx hx=>h.msm x (by rw [e1']at hx;exact hx),by show t.l.length+(i+1)=6;simp at hin;omega,hids',?_,by show an.subs.l.length<=i+1;omega,⟨r,by rw [e1',hr]⟩⟩,by rw [ht];rfl,(λh=>by rw [hw]at h;cases h),λ_=>⟨e1',hso,by rw [ha.id,hid]⟩⟩;rw [hso,e1',List.length_append,List.length_singleton];omega
theorem xb_ {ms:List GM} (h:Asks 0 6 ms):Apt 0 (vH_ ms) (.v [r0]):=
 ⟨rfl,vI_ h (by decide),λx hx=>by rw [List.mem_singleton.1 hx];exact r0_Sm,by show ms.length+0=6;rw [h.len],λj hj=>by have:=h.id j hj;show ms[j].id=_;rw [this];omega,rfl,Nat.zero_le _,⟨[],rfl⟩⟩
theorem eo_ {x y:Int} (h:x=y) {t:TypeId} {cx cy:Bool}:(XOp.bin .neq t cx cy).run Tryz.prog [.int .i64 x,.int .i64 y]=some (.bool false):=by rw [h];exact h_
theorem v4_ {α:Type} {l:List α} {a:α}:(l++[a])[l.length]'(by simp)=a:=by simp
def c4:VC:=⟨⟨[],[]⟩,[(6,[none]),(7,[none,(some 13)]),(13,[(some 8),none,none]),(16,[none])],[(10013,[⟨[],[],0,0,[],[],[(8,4)]⟩]),(0,[⟨[(10,.slx 0 0 0),(8,.ptr 3 0),(7,.ptr 1 0),(1,65),(9,.sl 6 0 1 4 (some 1)),(6,.ptr 0 0),(5,70)],[(3,[.bool true,J 0,.nsl,.bool false,.slx 7 12 1,.nsl,.nsl,J 0]),(1,[64,.slx 2 0 0]),(6,[J 9,J 1,.vsl 1 1 [J 4],.vsl 1 3 [J 2,J 3,.flt .f64 0]]),(0,[71,72,73,74,75,76,77,78,79,80,81,82,83])],8,3,[⟨7,12,1,3,(some 4)⟩],[],[]⟩]),(2,[⟨[(1,65),(9,.slx 0 0 0),(11,.slx 1 0 0),(8,.ptr 3 0),(6,.ptr 0 0),(5,70)],[(3,[.slx 2 0 0,.slx 3 0 0,.slx 4 0 0,.slx 5 0 0,.slx 6 0 0,.slx 7 0 0,.slx 8 0 0,.slx 9 0 0]),(0,[71,72,73,74,75,76,77,78,79,80,81,82,83])],4,10,[],[],[]⟩])],0,true,[(8,ft8),(12,ft12)]⟩
def t4:VT:=
 (.call 6 [] 66 [none]
 (K Q6 [66] 67
 (.ite 67
 (.done (.bool false))
 (K (.len 22) [64] 68
 (K Qk [68,J 60] 69
 (.ite 69
 (.done (.bool true))
 (.call 7 [] 70 [none,(some 13)]
 (.callF 8 ft8 [64] 84
 (.cons 0
 (.loop 85 0 [J 0,.nsl,J 0]
 (.cons 3
 (K Qf [85,J 6] 88
 (.ite 88
 (.callF 12 ft12 [64,87,85] 89
 (.cons 13
 (K Qd [86,.agg [92,93,94,95,96,97,98,99,100,101,102,103]] 105
 (K Q0 [85,J 1] 106
 (.again 0 0 [106,105,104])))
 .nil))
 (.loop 89 0 [.vsl 1 4 [J 9,J 1,.vsl 1 1 [J 4],.vsl 1 3 [J 2,J 3,.flt .f64 0]],J 0,.bool true,J 0,.nsl,.bool false,86,.nsl,.nsl,J 0]
 (.cons 10
 (K Qf [90,J 6] 99
 (.ite 99
 (K Zu [65,.int .u8 4] 100
 (K Zh [100] 101
 (.call 13 [70,.agg [71,72,73,74,75,76,77,78,79,80,81,82,83],101,.agg [91,92,93,94,95,96,97,98],89,J 5] 102 [(some 8),none,none]
 (K Q6 [111] 112
 (.ite 112
 (.done (.bool false))
 (K Qb [106] 113
 (K Qb [95] 114
 (K Qy [114,J 1] 115
 (K Q3 [113,115] 116
 (.ite 116
 (.done (.bool false))
 (K Qa [110] 117
 (K Qa [89] 118
 (K Q2 [117,118] 119
 (.ite 119
 (.done (.bool false))
 (K Qa [89] 120
 (K (.slc 47 false true) [110,120] 121
 (.call 16 [121,89] 122 [none]
 (K Q6 [122] 123
 (.ite 123
 (.done (.bool false))
 (K Qa [110] 124
 (K Qa [89] 125
 (K Zv [124,125] 126
 (K Qb [107] 127
 (K Qb [96] 128
 (K Zv [127,128] 129
 (K Zi [129,126] 130
 (K Ql [130,J 1] 131
 (.ite 131
 (.done (.bool false))
 (K Q1 [126,J 1] 132
 (.ite 132
 (K Qa [89] 133
 (K Q8 [110,133] 134
 (K Z5 [134] 135
 (K Q4 [135] 136
 (K Zu [65,.int .u8 4] 137
 (K Zh [137] 138
 (K Q3 [136,138] 139
 (.ite 139
 (.done (.bool false))
 (K Qa [89] 140
 (K Q8 [110,140] 141
 (K Qz [141] 142
 (K Q4 [142] 143
 (K Q3 [143,90] 144
 (.ite 144
 (.done (.bool false))
 (K Q1 [126,J 0] 145
 (.ite 145
 (K Qb [96] 146
 (K Qg [107,146] 147
 (K Z4 [147] 148
 (K Q4 [148] 149
 (K Q3 [149,90] 150
 (.ite 150
 (.done (.bool false))
 (K Q0 [90,J 1] 151
 (.again 1 0 [110,151,102,103,104,105,106,107,108,109]))))))))
 (K Q0 [90,J 1] 146
 (.again 1 0 [110,146,102,103,104,105,106,107,108,109]))))))))))))))))))
 (K Q1 [126,J 0] 133
 (.ite 133
 (K Qb [96] 134
 (K Qg [107,134] 135
 (K Z4 [135] 136
 (K Q4 [136] 137
 (K Q3 [137,90] 138
 (.ite 138
 (.done (.bool false))
 (K Q0 [90,J 1] 139
 (.again 1 0 [110,139,102,103,104,105,106,107,108,109]))))))))
 (K Q0 [90,J 1] 134
 (.again 1 0 [110,134,102,103,104,105,106,107,108,109]))))))))))))))))))))))))))))))))))
 (.done (.bool true))))
 .nil))))
 .nil))
 .nil)))))))))
theorem p4 {l:List UInt8} {a:AV} (hp:Pk l a) (w:Nat) (hw:w<256):ju_ Tryz.prog 4 [a,.int .u8 (w:Int)] (.bool true):=by
 have hA:=hp.1.ok R_;refine t1_ (sh:=[none,none]) (ls:=[a,.int .u8 (w:Int)]) (c:=c4) (n:=300) (t:=t4) mo ov rfl (by simp only [okL,okC,hA]) rfl (λY _=>vv_ _) rfl (by kernel_rfl) λY hf hg=>?_;unfold t4;obtain ⟨wq,hwq⟩:∃wq,wq=w%4:=⟨_,rfl⟩;have hR:∀(t:TypeId) (cx cy:Bool),(XOp.bin .rem t cx cy).run Tryz.prog [.int .u8 (w:Int),.int .u8 4]=some (.int .u8 (wq:Int)):=λt cx cy=>by have e:(w:Int).tmod 4=(wq:Int):=(by rw [Int.tmod_eq_emod_of_nonneg (by omega),hwq];rfl);rw [←e];exact uX_ (by decide) ..
 have hwq4:wq<4:=by omega
 have hw9:(wq:Int)≠9:=by omega
 refine ux_ k6 rfl rfl (vo_ (vk_ ..) rfl (u7_ (t:=false) rfl (λh=>by cases h) (λ_=>?_)));refine vo_ (v3_ hp) rfl (vo_ (run_gtr ..) rfl (u7_ rfl (λ_=>uy_ rfl) (λ_=>?_)));refine ux_ rF_ rfl xF_ ?_;refine a_ (p8 a hA) rfl (by simp only [okL,hA]) ⟨?_,trivial⟩;rintro ws rfl;refine uz_ (ι:=Nat×List GM×Nat) (λx=>[.int .i64 (x.1:Int),cs_ encM 12 x.2.1,.int .i64 (x.2.2:Int)]) (λx=>x.1<=6/\Asks 0 x.1 x.2.1/\x.2.2<=l.length) (λx=>6-x.1) (0,[],0) ⟨Nat.zero_le _,⟨rfl,λj h=>absurd h (Nat.not_lt_zero _),λ_ h=>(List.not_mem_nil h).elim⟩,Nat.zero_le _⟩ rfl (λ_ _=>by simp only [okL,okC,t9_ B_]) (λx y _ _ h=>?_) (λx hx=>?_)
 .have h:=(List.cons.inj h).1;injection h with _ h
  omega
 obtain ⟨i,ms,n⟩:=x;obtain ⟨h5,hms,hn⟩:=hx;simp only at h5 hms hn⊢;have hml:=hms.len;refine vo_ (run_lss ..) rfl (u7_ rfl (λhc=>?_) (λhc=>?_));have hc:(i:Int)<6:=dT hc;refine a_ (p12 hp hn (i:Int)) rfl (j_ hA) ⟨?_,trivial⟩;rintro ws ⟨m,n',rfl,hm,hn'⟩;refine vo_ (t4_ uG_ (by decide) (by decide) ms m (by omega)) (t9_ B_ _) (vo_ (e_ (by omega) (by omega)) rfl (un_ rfl ⟨(i+1,ms++[m],n'),⟨by show i+1<=6;omega,hms.next (by rw [Int.zero_add];exact hm),hn'⟩,rfl,by show 6-(i+1)<6-i;omega⟩));have hc:¬(i:Int)<6:=dF hc;obtain rfl:i=6:=by omega
 clear hn;refine uz_ (ι:=SV encR 4×Nat×GS) (λx=>x.1.x::.int .i64 (x.2.1:Int)::n_ x.2.2) (λx=>x.2.1<=6/\Apt x.2.1 x.2.2 x.1) (λx=>6-x.2.1) (.v [r0],0,vH_ ms) ⟨Nat.zero_le _,xb_ hms⟩ rfl (λx _=>by rw [aY_,aY_,x.1.ok k_,okS];rfl) (λx y _ _ h=>?_) (λx hx=>?_)
 .have h:=(List.cons.inj (List.cons.inj h).2).1;injection h with _ h
  omega
 obtain ⟨mail,i,s⟩:=x;obtain ⟨h5,ho⟩:=hx;simp only at h5 ho⊢;have hsum:=ho.sum;obtain ⟨s1,s2⟩:=p13 q0 (wq:Int) s ho.sm mail (by omega) ho.msm 5;refine vo_ (run_lss ..) rfl (u7_ rfl (λhc=>?_) (λ_=>uy_ rfl));have hc:(i:Int)<6:=dT hc;have hi:i<6:=by omega
 obtain ⟨t,m,ht,h13⟩:=s2 (ho.may hi hw9);have hnx:=ho.next hi (q:=q0) (who:=(wq:Int)) (now:=5) ht;have okan:=(b_ q0 (wq:Int) s (.of mail.l) 5 m).mail.ok k_;refine vo_ (hR ..) rfl (vo_ (vi_ wq (by omega)) rfl ?_);refine ux_ h13 rfl (wG_ _ _ _ okan) (vo_ (vk_ ..) rfl (u7_ (t:=false) rfl (λh=>by cases h) (λ_=>?_)));generalize b_ q0 (wq:Int) s (.of mail.l) 5 m=an at*;have hil:=hnx.inl;have hnxs:=hnx.next.sum;have hin:=ho.inl;refine vo_ ((d_ s t an).inn.h.len Tryz.underlying42) rfl (vo_ (s.inn.h.len Tryz.underlying42) rfl (vo_ (F_ (z:=(t.l.length:Int)) (by omega) (by omega) (by omega)) rfl (vo_ h_ rfl (u7_ (t:=false) rfl (λh=>by cases h) (λ_=>?_)))));have hle:mail.l.length<=an.mail.l.length/\an.mail.l.take mail.l.length=mail.l:=by
  cases hwt:an.waits with
  |true=>obtain ⟨w',e1,_⟩:=hnx.yes hwt;rw [e1];exact ⟨by rw [List.length_append];omega,by rw [List.take_left]⟩
  |false=>obtain ⟨e1,_⟩:=hnx.no hwt;rw [e1];exact ⟨Nat.le_refl _,List.take_length⟩
 obtain ⟨r,hr1,hr2⟩:=SlV.slc01 (P:=Tryz.prog) (ti:=(Tryz.prog.info? 51).get!) Tryz.underlying47 (by kernel_rfl) (by kernel_rfl) uQ_ an.mail.h (k:=.i64) (j:=mail.l.length) hle.1;rw [hle.2]at hr2;refine vo_ (an.mail.h.len Tryz.underlying47) rfl (vo_ (mail.h.len Tryz.underlying47) rfl (vo_ (run_lss ..) rfl (u7_ rfl (λh=>?_) (λ_=>?_))));have h:(an.mail.l.length:Int)<(mail.l.length:Int):=dT h;omega;refine vo_ (mail.h.len Tryz.underlying47) rfl (vo_ hr1 (hr2.ok k_) (ux_ (p16 hr2 mail.h (by omega) ho.msm) rfl rfl (vo_ (vk_ ..) rfl (u7_ (t:=false) rfl (λh=>by cases h) (λ_=>?_)))));refine vo_ (an.mail.h.len Tryz.underlying47) rfl (vo_ (mail.h.len Tryz.underlying47) rfl ?_);have again:∃i':SV encR 4×Nat×GS,(i'.2.1<=6/\Apt i'.2.1 i'.2.2 i'.1)/\an.mail.x::AV.int .i64 ((i:Int)+1)::n_ (d_ s t an)=i'.1.x::AV.int .i64 (i'.2.1:Int)::n_ i'.2.2/\6-i'.2.1<6-i:=⟨(an.mail,i+1,d_ s t an),⟨by show i+1<=6;omega,hnx.next⟩,rfl,by show 6-(i+1)<6-i;omega⟩;cases hwt:an.waits with
 |true=>obtain ⟨w',e1,e2,e3,e4⟩:=hnx.yes hwt;have hml1:an.mail.l.length=mail.l.length+1:=(by rw [e1,List.length_append,List.length_singleton]);have hat:mail.l.length<an.mail.l.length:=(by omega);have hg:an.mail.l[mail.l.length]=w':=(by simp only [e1,v4_]);refine vo_ (F_ (z:=1) (by omega) (by omega) (by omega)) rfl ?_;refine vo_ ((d_ s t an).out.h.len Tryz.underlying42) rfl (vo_ (s.out.h.len Tryz.underlying42) rfl (vo_ (F_ (z:=0) (by rw [e4];omega) (by omega) (by omega)) rfl (vo_ (e_ (by omega) (by omega)) rfl (vo_ (eo_ (by omega)) rfl (u7_ (t:=false) rfl (λh=>by cases h) (λ_=>?_))))));refine vo_ v_ rfl (u7_ (t:=true) rfl (λ_=>?_) (λh=>by cases h));refine vo_ (mail.h.len Tryz.underlying47) rfl (vo_ (iaR an.mail hat) (kN_ k_ _) (vo_ (fR0 _ hat) (oR0 hat) (vo_ (sT_ Tryz.underlying3 rfl _ _) rfl ?_)));refine vo_ (hR ..) rfl (vo_ (vi_ wq (by omega)) rfl (vo_ (eo_ (by rw [hg,e3])) rfl (u7_ (t:=false) rfl (λh=>by cases h) (λ_=>?_))));refine vo_ (mail.h.len Tryz.underlying47) rfl (vo_ (iaR an.mail hat) (kN_ k_ _) (vo_ (fR1 _ hat) (oR1 hat) (vo_ (sT_ Tryz.underlying3 rfl _ _) rfl ?_)));refine vo_ (eo_ (by rw [hg,e2])) rfl (u7_ (t:=false) rfl (λh=>by cases h) (λ_=>?_));refine vo_ (vr_ (by decide)) rfl (u7_ (t:=false) rfl (λh=>by cases h) (λ_=>?_));exact vo_ (e_ (by omega) (by omega)) rfl (un_ rfl again)
 |false=>obtain ⟨e1,e2,e3⟩:=hnx.no hwt;have hol:(d_ s t an).out.l.length=s.out.l.length+1:=(by rw [e2,List.length_append,List.length_singleton]);have hat:s.out.l.length<(d_ s t an).out.l.length:=(by omega);have hg:(d_ s t an).out.l[s.out.l.length]=an.a:=(by simp only [e2,v4_]);refine vo_ (F_ (z:=0) (by rw [e1];omega) (by omega) (by omega)) rfl ?_;refine vo_ ((d_ s t an).out.h.len Tryz.underlying42) rfl (vo_ (s.out.h.len Tryz.underlying42) rfl (vo_ (F_ (z:=1) (by omega) (by omega) (by omega)) rfl (vo_ (e_ (by omega) (by omega)) rfl (vo_ (eo_ (by omega)) rfl (u7_ (t:=false) rfl (λh=>by cases h) (λ_=>?_))))));refine vo_ (vr_ (by decide)) rfl (u7_ (t:=false) rfl (λh=>by cases h) (λ_=>?_));refine vo_ v_ rfl (u7_ (t:=true) rfl (λ_=>?_) (λh=>by cases h));refine vo_ (s.out.h.len Tryz.underlying42) rfl (vo_ (iaM (d_ s t an).out hat) (kN_ B_ _) (vo_ (faM _ hat) (xC_ _ hat) (vo_ (sT_ Tryz.underlying3 rfl _ _) rfl ?_)));refine vo_ (eo_ (by rw [hg,e3])) rfl (u7_ (t:=false) rfl (λh=>by cases h) (λ_=>?_));exact vo_ (e_ (by omega) (by omega)) rfl (un_ rfl again)
theorem q4 {c:Int} (wc:(Lit.int .u8 c).wf=true) {l:List UInt8} {a:AV} (sl:SlV A_ 1 l a) (m:l.length<=maxLen):ju_ Tryz.prog 4 [a,.int .u8 c] (.bool true):=by
 have hw:0<=c/\c<=255:=by simpa [Lit.wf,IntKind.min,IntKind.max,IntKind.bits,IntKind.signed]using wc
 obtain ⟨n,rfl⟩:=Int.eq_ofNat_of_zero_le hw.1;simp only [maxLen]at m;exact p4 ⟨sl,by omega⟩ n (by omega)
end Go.Proofs.YtijpblconliffaaGreatDoor.vars
