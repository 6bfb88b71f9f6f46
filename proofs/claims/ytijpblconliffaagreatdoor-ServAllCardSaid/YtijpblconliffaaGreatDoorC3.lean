/-
  What is the same as itself: values, what waits; ServApart.
-/
import Derived.Test.YtijpblconliffaaGreatDoorA8
import Derived.Test.YtijpblconliffaaGreatDoorFA
import Derived.Test.YtijpblconliffaaGreatDoorSyK
set_option maxRecDepth 100000
set_option linter.unusedVariables false
set_option linter.unusedSimpArgs false
namespace Go.Proofs.YtijpblconliffaaGreatDoor.vars
open Go Go.Sx
def x6_:VC:=⟨⟨[],[]⟩,[],[],0,true,[]⟩
def xJ_:VT:=
 (K (.bin .neq 36 false false) [64,64] 65
 (.ite 65
 (.done (.int .u64 9221120237041090561))
 (K (.ext 143) [64] 66
 (.done (66)))))
def x5_:VC:=⟨⟨[],[]⟩,[(119,[none])],[],0,true,[]⟩
def xI_:VT:=
 (.call 119 [64] 66 [none]
 (.call 119 [65] 67 [none]
 (K (.bin .eql 199 false false) [66,67] 68
 (.done (68)))))
def c63:VC:=⟨⟨[],[]⟩,[(103,[none])],[],0,true,[]⟩
def t63:VT:=
 (K Qw [64,67] 70
 (.ite 70
 (K (.bin .eql 2 false false) [65,68] 71
 (.ite 71
 (.call 103 [66,69] 72 [none]
 (.done (72)))
 (.done (.bool false))))
 (.done (.bool false))))
def c35:VC:=⟨⟨[],[]⟩,[(63,[none])],[(0,[⟨[(5,.slx 0 0 0),(1,65),(0,64)],[],0,1,[],[],[]⟩])],0,true,[]⟩
def t35:VT:=
 (K Qo [64] 66
 (K Qo [65] 67
 (K Q4 [66,67] 68
 (.ite 68
 (.done (.bool false))
 (.loop 69 0 [J 0]
 (.cons 1
 (K Qo [64] 70
 (K Q2 [69,70] 71
 (.ite 71
 (K Qu [64,69] 72
 (.lt Z4 [72] 73 (some 3)
 (K Qu [65,69] 76
 (.lt Z4 [76] 77 (some 3)
 (.call 63 [.agg [73,74,75],.agg [77,78,79]] 80 [none]
 (K Q3 [80] 81
 (.ite 81
 (.done (.bool false))
 (K Q0 [69,J 1] 82
 (.again 0 0 [82])))))))))
 (.done (.bool true)))))
 .nil))))))
def c16:VC:=⟨⟨[],[]⟩,[(35,[none])],[(0,[⟨[(5,.slx 0 0 0),(1,65),(0,64)],[],0,1,[],[],[]⟩]),(2,[⟨[(6,.slx 0 0 0),(5,69),(1,65),(0,64)],[],0,1,[],[],[]⟩])],0,true,[]⟩
def t16:VT:=
 (K Qc [64] 66
 (K Qc [65] 67
 (K Q4 [66,67] 68
 (.ite 68
 (.done (.bool false))
 (.loop 69 0 [J 0]
 (.cons 1
 (K Qc [64] 70
 (K Q2 [69,70] 71
 (.ite 71
 (K Qb [64,69] 72
 (K Zc [72] 73
 (K Q5 [73] 74
 (K Qb [65,69] 75
 (K Zc [75] 76
 (K Q5 [76] 77
 (K Q4 [74,77] 78
 (.ite 78
 (.done (.bool false))
 (K Qb [64,69] 79
 (K Z6 [79] 80
 (K Q5 [80] 81
 (K Qb [65,69] 82
 (K Z6 [82] 83
 (K Q5 [83] 84
 (K Q4 [81,84] 85
 (.ite 85
 (.done (.bool false))
 (K Qb [64,69] 86
 (K Z7 [86] 87
 (K Z8 [87] 88
 (K (.len 49) [88] 89
 (K Qb [65,69] 90
 (K Z7 [90] 91
 (K Z8 [91] 92
 (K (.len 49) [92] 93
 (K Q4 [89,93] 94
 (.ite 94
 (.done (.bool false))
 (K Qb [64,69] 95
 (K (.faddr 51 3) [95] 96
 (K (.load 26) [96] 97
 (K Qb [65,69] 98
 (K (.faddr 51 3) [98] 99
 (K (.load 26) [99] 100
 (.call 35 [97,100] 101 [none]
 (K Q3 [101] 102
 (.ite 102
 (.done (.bool false))
 (.loop 103 0 [J 0]
 (.cons 1
 (K Qb [64,69] 104
 (K Z7 [104] 105
 (K Z8 [105] 106
 (K (.len 49) [106] 107
 (K Q2 [103,107] 108
 (.ite 108
 (K Qb [64,69] 109
 (K Z7 [109] 110
 (K Z8 [110] 111
 (K (.iaddr 49) [111,103] 112
 (K Q5 [112] 113
 (K Qb [65,69] 114
 (K Z7 [114] 115
 (K Z8 [115] 116
 (K (.iaddr 49) [116,103] 117
 (K Q5 [117] 118
 (K Q4 [113,118] 119
 (.ite 119
 (.done (.bool false))
 (K Q0 [103,J 1] 120
 (.again 1 0 [120]))))))))))))))
 (K Q0 [69,J 1] 109
 (.again 0 0 [109]))))))))
 .nil)))))))))))))))))))))))))))))))))))))
 (.done (.bool true)))))
 .nil))))))
def xk_:Option Nat->Int
 |none=>9221120237041090561
 |some n=>if pV_ n=true then 9221120237041090561 else (n:Int)
theorem wU_ (n:Nat):(XOp.ext 143).run Tryz.prog [.flt .f64 n]=some (.int .u64 (n:Int)):=by kernel_rfl
theorem xC_ (o:Option Nat):ju_ Tryz.prog 119 [fv o] (.int .u64 (xk_ o)):=by
 refine t3_ (sh:=[none]) (ls:=[fv o]) (c:=x6_) (n:=300) (t:=xJ_) mo ov rfl (by simp only [okL,vK_]) rfl (λY _=>vy_ _) rfl (by kernel_rfl) λY hf hg=>?_;unfold xJ_;cases o with
 |none=>exact vr_ (r:=.bool true) (by kernel_rfl) rfl (u9_ (t:=true) rfl (λ_=>uA_ rfl) (λh=>by cases h))
 |some n=>refine vr_ (uv_ ..) rfl (u9_ rfl (λh=>uA_ ?_) (λh=>vr_ (wU_ n) rfl (uA_ ?_)));have h:pV_ n=true:=h;exact congrArg (AV.int .u64) (if_pos h).symm;have h:pV_ n=false:=h;exact congrArg (AV.int .u64) (if_neg (by rw [h];exact Bool.false_ne_true)).symm
theorem wc_ {t:TypeId} {cx cy:Bool} {k:IntKind} {x y:Int} (h:x≠y):(XOp.bin .eql t cx cy).run Tryz.prog [.int k x,.int k y]=some (.bool false):=by rw [run_eql,decide_eq_false h]
theorem U_ {t:TypeId} {cx cy:Bool} {k:IntKind} {e:Int}:(XOp.bin .eql t cx cy).run Tryz.prog [.int k e,.int k e]=some (.bool true):=by rw [run_eql,decide_eq_true rfl]
theorem yD_ (o:Option Nat):ju_ Tryz.prog 103 [fv o,fv o] (.bool true):=by refine t3_ (sh:=[none,none]) (ls:=[fv o,fv o]) (c:=x5_) (n:=300) (t:=xI_) mo ov rfl (by simp only [okL,vK_]) rfl (λY _=>vy_ _) rfl (by kernel_rfl) λY hf hg=>?_;unfold xI_;exact uz_ (xC_ o) rfl rfl (uz_ (xC_ o) rfl rfl (vr_ U_ rfl (uA_ rfl)))
theorem p63 (v:FV):ju_ Tryz.prog 63 [.agg (k_ v),.agg (k_ v)] (.bool true):=by refine t3_ (sh:=[some 3,some 3]) (ls:=k_ v++k_ v) (c:=c63) (n:=300) (t:=t63) mo ov rfl (kN_.okL_join (A_ v) (A_ v)) rfl (λY _=>vy_ _) rfl (by kernel_rfl) λY hf hg=>?_;unfold t63;exact vr_ U_ rfl (u9_ (t:=true) rfl (λ_=>vr_ U_ rfl (u9_ (t:=true) rfl (λ_=>uz_ (yD_ v.f) rfl rfl (uA_ rfl)) (λh=>by cases h))) (λh=>by cases h))
theorem p35 {l:List FV} {x y:AV} (hx:SlV k_ 3 l x) (hy:SlV k_ 3 l y) (hl:l.length<=1000):ju_ Tryz.prog 35 [x,y] (.bool true):=by
 refine t3_ (sh:=[none,none]) (ls:=[x,y]) (c:=c35) (n:=300) (t:=t35) mo ov (by rcases hx with rfl|⟨_,rfl⟩<;>rcases hy with rfl|⟨_,rfl⟩<;>rfl) (by simp only [okL,hx.ok A_,hy.ok A_]) rfl (λY _=>vy_ _) rfl (by kernel_rfl) λY hf hg=>?_;unfold t35;refine vr_ (hx.len Tryz.underlying26) rfl (vr_ (hy.len Tryz.underlying26) rfl (vr_ c_ rfl (u9_ (t:=false) rfl (λh=>by cases h) (λ_=>?_))));refine uB_ (ι:=Nat) (λi=>[.int .i64 (i:Int)]) (λi=>i<=l.length) (λi=>l.length-i) 0 (Nat.zero_le _) rfl (λ_ _=>rfl) (λi j _ _ h=>?_) (λi hi=>?_)
 .have h:=(List.cons.inj h).1;injection h with _ h
  omega
 refine vr_ (hx.len Tryz.underlying26) rfl (vr_ (run_lss ..) rfl (u9_ rfl (λhc=>?_) (λ_=>uA_ rfl)));have hc:(i:Int)<(l.length:Int):=dT hc;have hc:i<l.length:=by omega
 refine vr_ (iaV ⟨l,x,hx⟩ hc) (kN_ A_ _) (va_ (ldV hc) rfl (A_ _) (vr_ (iaV ⟨l,y,hy⟩ hc) (kN_ A_ _) (va_ (ldV hc) rfl (A_ _) (uz_ (p63 l[i]) rfl rfl ?_))));exact vr_ (vn_ ..) rfl (u9_ (t:=false) rfl (λh=>by cases h) (λ_=>vr_ (d_ (by omega) (by omega)) rfl (up_ rfl ⟨i+1,hc,rfl,by omega⟩)))
theorem fR0 (l:List GR) {i:Nat} (h:i<l.length):(XOp.faddr 51 0).run Tryz.prog [.vptr (bq_ encR (l.drop i))]=some (.vptr (.int .i64 l[i].sess::([.int .i64 l[i].id,l[i].addrs.x,l[i].vals.x]++bq_ encR (l.drop (i+1))))):=by rw [List.drop_eq_getElem_cons h];kernel_rfl
theorem oR0 {l:List GR} {i:Nat} (h:i<l.length):okC (.vptr (.int .i64 l[i].sess::([.int .i64 l[i].id,l[i].addrs.x,l[i].vals.x]++bq_ encR (l.drop (i+1)))))=true:=kN_.okL_join (a:=encR l[i]) (r_ _) (kN_ r_ _)
theorem fR1 (l:List GR) {i:Nat} (h:i<l.length):(XOp.faddr 51 1).run Tryz.prog [.vptr (bq_ encR (l.drop i))]=some (.vptr (.int .i64 l[i].id::([l[i].addrs.x,l[i].vals.x]++bq_ encR (l.drop (i+1))))):=by rw [List.drop_eq_getElem_cons h];kernel_rfl
theorem oR1 {l:List GR} {i:Nat} (h:i<l.length):okC (.vptr (.int .i64 l[i].id::([l[i].addrs.x,l[i].vals.x]++bq_ encR (l.drop (i+1)))))=true:=kN_.okL_join (a:=[.int .i64 l[i].id,l[i].addrs.x,l[i].vals.x]) (by simp only [okL,okC,l[i].addrs.ok okI,l[i].vals.ok A_]) (kN_ r_ _)
theorem fR2 (l:List GR) {i:Nat} (h:i<l.length):(XOp.faddr 51 2).run Tryz.prog [.vptr (bq_ encR (l.drop i))]=some (.vptr (l[i].addrs.x::([l[i].vals.x]++bq_ encR (l.drop (i+1))))):=by rw [List.drop_eq_getElem_cons h];kernel_rfl
theorem oR2 {l:List GR} {i:Nat} (h:i<l.length):okC (.vptr (l[i].addrs.x::([l[i].vals.x]++bq_ encR (l.drop (i+1)))))=true:=kN_.okL_join (a:=[l[i].addrs.x,l[i].vals.x]) (by simp only [okL,okC,l[i].addrs.ok okI,l[i].vals.ok A_]) (kN_ r_ _)
theorem fR3 (l:List GR) {i:Nat} (h:i<l.length):(XOp.faddr 51 3).run Tryz.prog [.vptr (bq_ encR (l.drop i))]=some (.vptr (l[i].vals.x::([]++bq_ encR (l.drop (i+1))))):=by rw [List.drop_eq_getElem_cons h];kernel_rfl
theorem oR3 {l:List GR} {i:Nat} (h:i<l.length):okC (.vptr (l[i].vals.x::([]++bq_ encR (l.drop (i+1)))))=true:=kN_.okL_join (a:=[l[i].vals.x]) (by simp only [okL,okC,l[i].vals.ok A_]) (kN_ r_ _)
theorem wM_ (s:SV am_ 1) {i:Nat} (h:i<s.l.length):(XOp.iaddr 49).run Tryz.prog [s.x,.int .i64 (i:Int)]=some (.vptr (bq_ am_ (s.l.drop i))):=s.h.ia (e:=3) Tryz.underlying49 (ti:=(Tryz.prog.info? 3).get!) (by kernel_rfl) (by kernel_rfl) wh_ h .i64
theorem xw_ {l:List Int} {i:Nat} (h:i<l.length):(XOp.load 3).run Tryz.prog [.vptr (bq_ am_ (l.drop i))]=some (.int .i64 l[i]):=by rw [List.drop_eq_getElem_cons h];exact sT_ Tryz.underlying3 rfl _ _
theorem p16 {l:List GR} {x y:AV} (hx:SlV encR 4 l x) (hy:SlV encR 4 l y) (hl:l.length<=1000) (hr:∀r∈l,r.Sm):ju_ Tryz.prog 16 [x,y] (.bool true):=by
 refine t3_ (sh:=[none,none]) (ls:=[x,y]) (c:=c16) (n:=300) (t:=t16) mo ov (by rcases hx with rfl|⟨_,rfl⟩<;>rcases hy with rfl|⟨_,rfl⟩<;>rfl) (by simp only [okL,hx.ok r_,hy.ok r_]) rfl (λY _=>vy_ _) rfl (by kernel_rfl) λY hf hg=>?_;unfold t16;refine vr_ (hx.len Tryz.underlying47) rfl (vr_ (hy.len Tryz.underlying47) rfl (vr_ c_ rfl (u9_ (t:=false) rfl (λh=>by cases h) (λ_=>?_))));refine uB_ (ι:=Nat) (λi=>[.int .i64 (i:Int)]) (λi=>i<=l.length) (λi=>l.length-i) 0 (Nat.zero_le _) rfl (λ_ _=>rfl) (λi j _ _ h=>?_) (λi hi=>?_)
 .have h:=(List.cons.inj h).1;injection h with _ h
  omega
 refine vr_ (hx.len Tryz.underlying47) rfl (vr_ (run_lss ..) rfl (u9_ rfl (λhc=>?_) (λ_=>uA_ rfl)));have hc:(i:Int)<(l.length:Int):=dT hc;have hc:i<l.length:=by omega
 have hsm:=hr _ (List.getElem_mem hc)
 (refine vr_ (iaR ⟨l,x,hx⟩ hc) (kN_ r_ _) (vr_ (fR0 _ hc) (oR0 hc) (vr_ (sT_ Tryz.underlying3 rfl _ _) (by first|rfl|exact l[i].addrs.ok okI|exact l[i].vals.ok A_) ?_)))
 (refine vr_ (iaR ⟨l,y,hy⟩ hc) (kN_ r_ _) (vr_ (fR0 _ hc) (oR0 hc) (vr_ (sT_ Tryz.underlying3 rfl _ _) (by first|rfl|exact l[i].addrs.ok okI|exact l[i].vals.ok A_) ?_)))
 refine vr_ c_ rfl (u9_ (t:=false) rfl (λh=>by cases h) (λ_=>?_))
 (refine vr_ (iaR ⟨l,x,hx⟩ hc) (kN_ r_ _) (vr_ (fR1 _ hc) (oR1 hc) (vr_ (sT_ Tryz.underlying3 rfl _ _) (by first|rfl|exact l[i].addrs.ok okI|exact l[i].vals.ok A_) ?_)))
 (refine vr_ (iaR ⟨l,y,hy⟩ hc) (kN_ r_ _) (vr_ (fR1 _ hc) (oR1 hc) (vr_ (sT_ Tryz.underlying3 rfl _ _) (by first|rfl|exact l[i].addrs.ok okI|exact l[i].vals.ok A_) ?_)))
 refine vr_ c_ rfl (u9_ (t:=false) rfl (λh=>by cases h) (λ_=>?_))
 (refine vr_ (iaR ⟨l,x,hx⟩ hc) (kN_ r_ _) (vr_ (fR2 _ hc) (oR2 hc) (vr_ (sT_ Tryz.underlying49 rfl _ _) (by first|rfl|exact l[i].addrs.ok okI|exact l[i].vals.ok A_) ?_)))
 refine vr_ (l[i].addrs.h.len Tryz.underlying49) rfl ?_
 (refine vr_ (iaR ⟨l,y,hy⟩ hc) (kN_ r_ _) (vr_ (fR2 _ hc) (oR2 hc) (vr_ (sT_ Tryz.underlying49 rfl _ _) (by first|rfl|exact l[i].addrs.ok okI|exact l[i].vals.ok A_) ?_)))
 refine vr_ (l[i].addrs.h.len Tryz.underlying49) rfl ?_;refine vr_ c_ rfl (u9_ (t:=false) rfl (λh=>by cases h) (λ_=>?_))
 (refine vr_ (iaR ⟨l,x,hx⟩ hc) (kN_ r_ _) (vr_ (fR3 _ hc) (oR3 hc) (vr_ (sT_ Tryz.underlying26 rfl _ _) (by first|rfl|exact l[i].addrs.ok okI|exact l[i].vals.ok A_) ?_)))
 (refine vr_ (iaR ⟨l,y,hy⟩ hc) (kN_ r_ _) (vr_ (fR3 _ hc) (oR3 hc) (vr_ (sT_ Tryz.underlying26 rfl _ _) (by first|rfl|exact l[i].addrs.ok okI|exact l[i].vals.ok A_) ?_)))
 refine uz_ (p35 l[i].vals.h l[i].vals.h hsm.2) rfl rfl (vr_ (vn_ ..) rfl (u9_ (t:=false) rfl (λh=>by cases h) (λ_=>?_)));have hal:=hsm.1;refine uB_ (ι:=Nat) (λk=>[.int .i64 (k:Int)]) (λk=>k<=l[i].addrs.l.length) (λk=>l[i].addrs.l.length-k) 0 (Nat.zero_le _) rfl (λ_ _=>rfl) (λi j _ _ h=>?_) (λk hk=>?_)
 .have h:=(List.cons.inj h).1;injection h with _ h
  omega
 (refine vr_ (iaR ⟨l,x,hx⟩ hc) (kN_ r_ _) (vr_ (fR2 _ hc) (oR2 hc) (vr_ (sT_ Tryz.underlying49 rfl _ _) (by first|rfl|exact l[i].addrs.ok okI|exact l[i].vals.ok A_) ?_)))
 refine vr_ (l[i].addrs.h.len Tryz.underlying49) rfl (vr_ (run_lss ..) rfl (u9_ rfl (λhkc=>?_) (λ_=>?_)))
 .have hkc:(k:Int)<(l[i].addrs.l.length:Int):=dT hkc;have hkc:k<l[i].addrs.l.length:=by omega
  (refine vr_ (iaR ⟨l,x,hx⟩ hc) (kN_ r_ _) (vr_ (fR2 _ hc) (oR2 hc) (vr_ (sT_ Tryz.underlying49 rfl _ _) (by first|rfl|exact l[i].addrs.ok okI|exact l[i].vals.ok A_) ?_)))
  refine vr_ (wM_ l[i].addrs hkc) (kN_ okI _) (vr_ (xw_ hkc) rfl ?_)
  (refine vr_ (iaR ⟨l,y,hy⟩ hc) (kN_ r_ _) (vr_ (fR2 _ hc) (oR2 hc) (vr_ (sT_ Tryz.underlying49 rfl _ _) (by first|rfl|exact l[i].addrs.ok okI|exact l[i].vals.ok A_) ?_)))
  refine vr_ (wM_ l[i].addrs hkc) (kN_ okI _) (vr_ (xw_ hkc) rfl ?_);exact vr_ c_ rfl (u9_ (t:=false) rfl (λh=>by cases h) (λ_=>vr_ (d_ (by omega) (by omega)) rfl (up_ rfl ⟨k+1,hkc,rfl,by omega⟩)))
 exact vr_ (d_ (by omega) (by omega)) rfl (up_ rfl ⟨i+1,hc,rfl,by omega⟩)
def r0:GR:=⟨9,1,.v [4],.v [⟨2,3,some 0⟩]⟩
structure Apt (i:Nat) (s:GS) (mail:SV encR 4):Prop where
 on:s.on=true
 sm:s.Sm
 msm:∀w∈mail.l,w.Sm
 inl:s.inn.l.length+i=6
 ids:∀j (h:j<s.inn.l.length),s.inn.l[j].id=((i+j:Nat):Int)
 sum:s.out.l.length+mail.l.length=i+1
 subs:s.subs.l.length<=i
 first:∃r,mail.l=r0::r
theorem k60:ju_ Tryz.prog 60 [VARS] (K_ TL):=vg_ mo ov (n:=3000) (by kernel_rfl)
theorem qR_ (s:List UInt8):∀(T:List GG) (i:Nat),(∀j (h:j<i) (h':j<T.length),T[j].path≠s)->j_ s T=j_ s (T.drop i)
 |T,0,_=>by rw [List.drop_zero]
 |[],i+1,_=>rfl
 |t::r,i+1,h=>by have h0:¬t.path=s:=h 0 (by omega) (by simp);rw [List.drop_succ_cons,←qR_ s r i λj hj h'=>h (j+1) (by omega) (by simpa using h')];simp only [j_,if_neg h0]
theorem xt_ (T:List GG) {i:Nat} (h:i<T.length):(XOp.faddr 91 0).run Tryz.prog [.vptr (bq_ u_ (T.drop i))]=some (.vptr (.str T[i].path::([.int .i64 T[i].addr,.int .i64 T[i].kind,.int .i64 T[i].role]++bq_ u_ (T.drop (i+1))))):=by rw [List.drop_eq_getElem_cons h];kernel_rfl
theorem oG0 (T:List GG) {i:Nat} (h:i<T.length):okC (.vptr (.str T[i].path::([.int .i64 T[i].addr,.int .i64 T[i].kind,.int .i64 T[i].role]++bq_ u_ (T.drop (i+1)))))=true:=kN_.okL_join (a:=u_ T[i]) (L_ _) (kN_ L_ _)
theorem oG1 (T:List GG) {i:Nat} (h:i<T.length):okC (.vptr (.int .i64 T[i].addr::([.int .i64 T[i].kind,.int .i64 T[i].role]++bq_ u_ (T.drop (i+1)))))=true:=kN_.okL_join (a:=[.int .i64 T[i].addr,.int .i64 T[i].kind,.int .i64 T[i].role]) rfl (kN_ L_ _)
theorem yi_ (T:List GG) {i:Nat} (h:i<T.length):(XOp.faddr 91 2).run Tryz.prog [.vptr (bq_ u_ (T.drop i))]=some (.vptr (.int .i64 T[i].kind::([.int .i64 T[i].role]++bq_ u_ (T.drop (i+1))))):=by rw [List.drop_eq_getElem_cons h];kernel_rfl
theorem oG2 (T:List GG) {i:Nat} (h:i<T.length):okC (.vptr (.int .i64 T[i].kind::([.int .i64 T[i].role]++bq_ u_ (T.drop (i+1)))))=true:=kN_.okL_join (a:=[.int .i64 T[i].kind,.int .i64 T[i].role]) rfl (kN_ L_ _)
theorem yj_ (T:List GG) {i:Nat} (h:i<T.length):(XOp.faddr 91 3).run Tryz.prog [.vptr (bq_ u_ (T.drop i))]=some (.vptr (.int .i64 T[i].role::([]++bq_ u_ (T.drop (i+1))))):=by rw [List.drop_eq_getElem_cons h];kernel_rfl
theorem oG3 (T:List GG) {i:Nat} (h:i<T.length):okC (.vptr (.int .i64 T[i].role::([]++bq_ u_ (T.drop (i+1)))))=true:=kN_.okL_join (a:=[.int .i64 T[i].role]) rfl (kN_ L_ _)
theorem C_ {α:Type} {enc:α->List AV} {w:Nat} {l:List α} {a:AV} (h:SlV enc w l a):(XOp.emp).run Tryz.prog [a]=some (.bool l.isEmpty):=by
 rcases h with rfl|⟨rfl,rfl⟩
 .cases l<;>rfl
 rfl
theorem wH_ {P:Program} (k:IntKind) (a b:Int):(XOp.mm false).run P [.int k a,.int k b]=some (.int k (min a b)):=by show (match Nat.beq (kix k) (kix k)with|true=>some (AV.int k (min a b))|false=>none)=_;rw [kix_self]
theorem Z_ {α:Type} {enc:α->List AV} {w b:Nat} (hw:∀a,(enc a).length=w) (hwp:0<w) (hb:0<b) (l:List α) (a:α) (hl:(l.length+1)*b<=1073741824):(XOp.app w b).run Tryz.prog [dq_ enc w l,.vsl 1 w (enc a)]=some (ct_ enc w (l++[a])):=by
 obtain ⟨r,h1,h2⟩:=(SlV.v l).app (P:=Tryz.prog) (bytes:=b) hw hwp hb (SlV.v [a]) hl;have e:dq_ enc w [a]=.vsl 1 w (enc a):=by simp [dq_,bq_]
 rw [←e,h1,h2.eq (by simp)]
def c57:VC:=⟨⟨[],[]⟩,[(60,[none])],[(0,[⟨[(4,.ptr 0 0),(7,.slx 0 0 0),(6,66),(1,65)],[(0,[.str [],J 0,J 0,J 0])],1,1,[],[],[]⟩])],0,true,[]⟩
def t57:VT:=
 (.call 60 [64] 66 [none]
 (.loop 67 0 [J 0]
 (.cons 1
 (K Q8 [66] 68
 (K Q2 [67,68] 69
 (.ite 69
 (K Qd [66,67] 70
 (K (.faddr 91 0) [70] 71
 (K Q6 [71] 72
 (K Zi [72,65] 73
 (.ite 73
 (K Qd [66,67] 74
 (.lt Qv [74] 75 (some 4)
 (.done (.tup [.agg [75,76,77,78],.bool true]))))
 (K Q0 [67,J 1] 74
 (.again 0 0 [74])))))))
 (.done (.tup [.agg [.str [],J 0,J 0,J 0],.bool false])))))
 .nil)))
theorem p57 (s:List UInt8):ju_ Tryz.prog 57 [VARS,.str s] (.tup [.agg (u_ (j_ s TL).1),.bool (j_ s TL).2]):=by
 refine t3_ (sh:=[none,none]) (ls:=[VARS,.str s]) (c:=c57) (n:=300) (t:=t57) mo ov rfl (by simp only [okL,z_,okC]) rfl (λY _=>vy_ _) rfl (by kernel_rfl) λY hf hg=>?_;unfold t57;have hT:TL.length<=1000:=by decide
 refine uz_ k60 rfl (vd_ (p_ _)) ?_;generalize TL=T at*;refine uB_ (ι:=Nat) (λi=>[.int .i64 (i:Int)]) (λi=>i<=T.length/\∀j (h:j<i) (h':j<T.length),T[j].path≠s) (λi=>T.length-i) 0 ⟨Nat.zero_le _,λj h=>absurd h (Nat.not_lt_zero _)⟩ rfl (λ_ _=>rfl) (λi j _ _ h=>?_) (λi hi=>?_)
 .have h:=(List.cons.inj h).1;injection h with _ h
  omega
 obtain ⟨hi,hne⟩:=hi;rw [qR_ s T i hne];refine vr_ (t_ T) rfl (vr_ (run_lss ..) rfl (u9_ rfl (λhc=>?_) (λhc=>?_)));have hc:(i:Int)<(T.length:Int):=dT hc;have hc:i<T.length:=(by omega);refine vr_ (iaG (SlV.of T) hc) (kN_ L_ _) (vr_ (xt_ T hc) (oG0 T hc) (vr_ (sT_ Tryz.underlying9 rfl _ _) rfl (vr_ (vl_ ..) rfl (u9_ rfl (λhe=>?_) (λhe=>?_)))));have he:T[i].path=s:=dT he;refine vr_ (iaG (SlV.of T) hc) (kN_ L_ _) (va_ (ldG hc) rfl (L_ _) (uA_ ?_));rw [List.drop_eq_getElem_cons hc];simp only [j_,if_pos he];rfl;have he:¬T[i].path=s:=dF he;refine vr_ (d_ (by omega) (by omega)) rfl (up_ rfl ⟨i+1,⟨hc,λj hj h'=>?_⟩,rfl,by omega⟩);rcases Nat.lt_or_ge j i with h|h;exact hne j h h';have e:j=i:=(by omega);subst e;exact he;have hc:¬(i:Int)<(T.length:Int):=dF hc;have e:i=T.length:=(by omega);rw [e,List.drop_length];exact uA_ rfl
def xa_ (o:Except Int (List GG)):AV:=match o with
 | .ok ts=>.tup [K_ ts,.int .i64 0]
 | .error e=>.tup [.nsl,.int .i64 e]
theorem sQ_ {l:List (List UInt8)} (h:x_ [] l=none):e_ l=.error 11:=by
 unfold e_ W_;cases l with
 |nil=>rfl
 |cons a r=>simp only [h]
def c28:VC:=⟨⟨[],[]⟩,[(57,[(some 4),none])],[(0,[⟨[(6,.slx 0 4 0),(7,.slx 1 0 0),(1,65),(0,64)],[],1,2,[⟨0,4,0,6,none⟩],[],[]⟩])],0,true,[]⟩
def t28:VT:=
 (.loop 66 0 [.nsl,J 0]
 (.cons 2
 (K Qr [65] 68
 (K Q2 [67,68] 69
 (.ite 69
 (K Qg [65,67] 70
 (K Q6 [70] 71
 (.call 57 [64,71] 72 [(some 4),none]
 (K Q3 [76] 77
 (.ite 77
 (.done (.tup [.nsl,J 11]))
 (K Za [66,.agg [72,73,74,75]] 78
 (K Q0 [67,J 1] 79
 (.again 0 0 [78,79]))))))))
 (K Qr [65] 70
 (K Q1 [70,J 0] 71
 (.ite 71
 (.done (.tup [.nsl,J 11]))
 (K Qr [65] 72
 (K Q9 [72,J 4] 73
 (.ite 73
 (.done (.tup [.nsl,J 1]))
 (.done (.tup [66,J 0])))))))))))
 .nil))
theorem p28 (s:SV I_ 1) (hl:s.l.length<=1000):ju_ Tryz.prog 28 [VARS,s.x] (xa_ (e_ s.l)):=by
 refine t3_ (sh:=[none,none]) (ls:=[VARS,s.x]) (c:=c28) (n:=300) (t:=t28) mo ov rfl (by simp only [okL,z_,s.ok okP]) (by
  unfold xa_;split;exact O_ (p1_ (p_ _)) rfl
  .rfl) (λY _=>vy_ _) rfl (by kernel_rfl) λY hf hg=>?_
 unfold t28;refine uB_ (ι:=Nat×List GG) (λx=>[K_ x.2,.int .i64 (x.1:Int)]) (λx=>x.1<=s.l.length/\x.2.length=x.1/\x_ x.2 (s.l.drop x.1)=x_ [] s.l) (λx=>s.l.length-x.1) (0,[]) ⟨Nat.zero_le _,rfl,by rw [List.drop_zero]⟩ rfl (λ_ _=>by simp only [okL,okC,p_]) (λi j _ _ h=>?_) (λx hx=>?_)
 .have h:=(List.cons.inj (List.cons.inj h).2).1;injection h with _ h
  omega
 obtain ⟨i,acc⟩:=x;obtain ⟨hi,ha,hI⟩:=hx;simp only at hi ha hI⊢;refine vr_ (s.h.len Tryz.underlying52) rfl (vr_ (run_lss ..) rfl (u9_ rfl (λhc=>?_) (λhc=>?_)))
 .have hc:(i:Int)<(s.l.length:Int):=dT hc;have hc:i<s.l.length:=(by omega);refine vr_ (iaP s hc) (kN_ okP _) (vr_ (ldP hc) rfl (uz_ (p57 _) rfl rfl ?_));have hd:s.l.drop i=s.l[i]::s.l.drop (i+1):=List.drop_eq_getElem_cons hc;rw [hd]at hI;refine vr_ (vn_ ..) rfl (u9_ rfl (λhf=>?_) (λhf=>?_));have hf:(j_ s.l[i] TL).2=false:=(by simpa using hf);have e:x_ [] s.l=none:=(by rw [←hI];unfold x_;rw [hf];rfl);rw [sQ_ e];exact uA_ rfl
  .have hf:(j_ s.l[i] TL).2=true:=(by simpa using hf);have e:x_ acc (s.l[i]::s.l.drop (i+1))=x_ (acc++[(j_ s.l[i] TL).1]) (s.l.drop (i+1)):=by
    conv=>lhs;unfold x_
    rw [if_pos hf]
   exact vr_ (t6_ un_ (by decide) (by decide) acc (j_ s.l[i] TL).1 (by omega)) (p_ _) (vr_ (d_ (by omega) (by omega)) rfl (up_ rfl ⟨(i+1,acc++[(j_ s.l[i] TL).1]),⟨hc,by show (acc++[_]).length=i+1;rw [List.length_append,List.length_singleton,ha],by show x_ (acc++[_]) (s.l.drop (i+1))=_;rw [←e,hI]⟩,rfl,by show s.l.length-(i+1)<s.l.length-i;omega⟩))
 .have hc:¬(i:Int)<(s.l.length:Int):=dF hc;have e:i=s.l.length:=(by omega);rw [e,List.drop_length]at hI;have hI:some acc=x_ [] s.l:=hI;have hg:e_ s.l=if s.l=[]then .error 11 else if 4<acc.length then .error 1 else .ok acc:=by
   unfold e_ W_;cases e:s.l with
   |nil=>rfl
   |cons a r=>rw [e]at hI;simp only [←hI];rfl
  refine vr_ (s.h.len Tryz.underlying52) rfl (vr_ (run_eql ..) rfl (u9_ rfl (λh=>?_) (λh=>?_)));have h:=pv_.1 (dT h);rw [hg,if_pos h];exact uA_ rfl;have h:=λe=>dF h (pv_.2 e);rw [if_neg h]at hg;refine vr_ (s.h.len Tryz.underlying52) rfl (vr_ (run_gtr ..) rfl (u9_ rfl (λh=>?_) (λh=>?_)));have h:(4:Int)<(s.l.length:Int):=dT h;rw [hg,if_pos (by omega)];exact uA_ rfl;have h:¬(4:Int)<(s.l.length:Int):=dF h;rw [hg,if_neg (by omega)];exact uA_ rfl
theorem vf_:∀(l:List (List UInt8)) (acc ts:List GG),x_ acc l=some ts->∀s∈l,(j_ s TL).2=true
 |[],_,_,_=>λs h=>(List.not_mem_nil h).elim
 |a::r,acc,ts,h=>λs hs=>by unfold x_ at h;split at h;rename_i hf;rcases List.mem_cons.1 hs with rfl|hs;exact hf;exact vf_ r _ _ h s hs;cases h
theorem vB_ {l:List (List UInt8)} {ts:List GG} (h:e_ l=.ok ts):∀s∈l,(j_ s TL).2=true:=by
 intro s hs;cases e:x_ [] l with
 |none=>rw [sQ_ e]at h;cases h
 |some ts=>exact vf_ l _ _ e s hs
theorem TL_dot:∀t∈TL,∀c∈t.path,c≠46:=by decide
theorem vV_ {s:List UInt8} (h:(j_ s TL).2=true):∀c∈s,c≠46:=by rcases V_ s TL with ⟨i,hi,h1,_,_⟩|⟨_,e⟩;exact h1▸TL_dot _ (List.getElem_mem hi);rw [e]at h;cases h
def c58:VC:=⟨⟨[],[]⟩,[],[(0,[⟨[(3,.slx 0 0 0),(0,64)],[],0,1,[],[],[]⟩])],0,true,[]⟩
def t58:VT:=
 (.loop 65 0 [J 0]
 (.cons 1
 (K (.len 9) [64] 66
 (K Q2 [65,66] 67
 (.ite 67
 (K (.idx 9) [64,65] 68
 (K (.bin .eql 5 false true) [68,.int .u8 46] 69
 (.ite 69
 (.done (.bool true))
 (K Q0 [65,J 1] 70
 (.again 0 0 [70])))))
 (.done (.bool false)))))
 .nil))
theorem p58 (s:List UInt8) (hl:s.length<=1000) (h:∀c∈s,c≠46):ju_ Tryz.prog 58 [.str s] (.bool false):=by
 refine t3_ (sh:=[none]) (ls:=[.str s]) (c:=c58) (n:=300) (t:=t58) mo ov rfl rfl rfl (λY _=>vy_ _) rfl (by kernel_rfl) λY hf hg=>?_;unfold t58;refine uB_ (ι:=Nat) (λi=>[.int .i64 (i:Int)]) (λi=>i<=s.length) (λi=>s.length-i) 0 (Nat.zero_le _) rfl (λ_ _=>rfl) (λi j _ _ h=>?_) (λi hi=>?_)
 .have h:=(List.cons.inj h).1;injection h with _ h
  omega
 refine vr_ (tB_ Tryz.underlying9 s) rfl (vr_ (run_lss ..) rfl (u9_ rfl (λhc=>?_) (λhc=>uA_ rfl)));have hc:(i:Int)<(s.length:Int):=dT hc;have hc:i<s.length:=by omega
 refine vr_ (tA_ Tryz.underlying9 s .i64 i hc) rfl (vr_ (wc_ (y:=46) ?_) rfl (u9_ (t:=false) rfl (λh=>by cases h) (λ_=>vr_ (d_ (by omega) (by omega)) rfl (up_ rfl ⟨i+1,hc,rfl,by omega⟩))));intro e;refine h _ (List.getElem_mem hc) (UInt8.toNat_inj.1 ?_);show s[i].toNat=46;omega
theorem TL_len:∀t∈TL,t.path.length<=1000:=by decide
theorem u1_ {s:List UInt8} (h:(j_ s TL).2=true):ju_ Tryz.prog 58 [.str s] (.bool false):=by refine p58 s ?_ (vV_ h);rcases V_ s TL with ⟨i,hi,h1,_,_⟩|⟨_,e⟩;exact h1▸TL_len _ (List.getElem_mem hi);rw [e]at h;cases h
def c59:VC:=⟨⟨[],[]⟩,[],[],0,true,[]⟩
def t59:VT:=
 (K Qc [64] 69
 (K Qt [69,J 3] 70
 (.ite 70
 (.done (.tup [64,J 10]))
 (.lt .emp [64] 71 none
 (.ite 71
 (.done (.tup [.vsl 1 4 [65,66,67,68],J 0]))
 (K Ql [.vsl 0 4 [],64] 72
 (K Ql [72,.vsl 1 4 [65,66,67,68]] 73
 (.done (.tup [73,J 0])))))))))
theorem p59 (s:SV encR 4) (hl:s.l.length<=1000) (w:GR):ju_ Tryz.prog 59 [s.x,.agg (encR w)] (if 3<=s.l.length then .tup [s.x,.int .i64 10]else .tup [ct_ encR 4 (s.l++[w]),.int .i64 0]):=by
 have hx:=s.ok r_
 refine t3_ (sh:=[none,some 4]) (ls:=s.x::encR w) (c:=c59) (n:=300) (t:=t59) mo ov rfl (kN_.okL_join (a:=[s.x]) (by simp only [okL,hx]) (r_ w)) (by
  split;exact O_ (p1_ hx) rfl
  .exact O_ (p1_ (ub_ r_ _)) rfl) (λY _=>vy_ _) rfl (by kernel_rfl) λY hf hg=>?_
 unfold t59;refine vr_ (s.h.len Tryz.underlying47) rfl (vr_ (run_geq ..) rfl (u9_ rfl (λh=>?_) (λh=>?_)));have h:(3:Int)<=(s.l.length:Int):=dT h;rw [if_pos (by omega)];exact uA_ rfl;have h:¬(3:Int)<=(s.l.length:Int):=dF h;rw [if_neg (by omega)];refine vr_ (C_ s.h) rfl (u9_ rfl (λh0=>?_) (λ_=>?_));have h0:s.l.isEmpty=true:=(by simpa using h0);have h0:s.l=[]:=List.isEmpty_iff.1 h0;refine uA_ ?_;rw [h0];rfl;exact vr_ (N_ uo_ (by decide) (by decide) s.h (by omega)) (r9_ r_ _) (vr_ (Z_ uo_ (by decide) (by decide) s.l w (by omega)) (ub_ r_ _) (uA_ rfl))
def c61:VC:=⟨⟨[],[]⟩,[],[],0,true,[]⟩
def t61:VT:=.done (.agg [64,65,66,67,68,69,70,71,.bool false,.bool false,J 0,J 0,.flt .f64 0,J 0,.nsl])
theorem p61 (num addr every now:Int) (band:FV) (most:Int):ju_ Tryz.prog 61 [.int .i64 num,.int .i64 addr,.int .i64 every,.int .i64 now,.agg (k_ band),.int .i64 most] (.agg (g_ (v1_ num addr every now band most))):=by refine t3_ (sh:=[none,none,none,none,some 3,none]) (ls:=[.int .i64 num,.int .i64 addr,.int .i64 every,.int .i64 now]++k_ band++[.int .i64 most]) (c:=c61) (n:=300) (t:=t61) mo ov rfl (by simp only [k_,okL,okC,vK_,List.cons_append,List.nil_append]) (s_ (M_ _)) (λY _=>vy_ _) rfl (by kernel_rfl) λY hf hg=>?_;unfold t61;exact uA_ rfl
def c30:VC:=⟨⟨[],[]⟩,[(60,[none])],[],0,true,[]⟩
def t30:VT:=
 (.call 60 [64] 66 [none]
 (K Qe [65,J 0] 67
 (.ite 67
 (.done (.tup [.nsl,J 0,J 1]))
 (K Q8 [66] 68
 (K Zp [65,68] 69
 (.ite 69
 (.done (.tup [.nsl,J 0,J 1]))
 (K Q0 [65,J 5] 70
 (K Q8 [66] 71
 (K (.mm false) [70,71] 72
 (K Q8 [66] 73
 (K Qw [72,73] 74
 (.ite 74
 (K Zk [66,65,72] 75
 (K Za [.vsl 0 4 [],75] 76
 (.done (.tup [76,J 0,J 0]))))
 (K Zk [66,65,72] 75
 (K Za [.vsl 0 4 [],75] 76
 (.done (.tup [76,72,J 0]))))))))))))))))
theorem p30 {n:Int} (h:Q_ n=true):ju_ Tryz.prog 30 [VARS,.int .i64 n] (.tup [dq_ u_ 4 (w_ TL n.toNat),.int .i64 (H_ TL n.toNat),.int .i64 0]):=by
 obtain ⟨h1,h2⟩:=of_decide_eq_true h;obtain ⟨k,rfl⟩:=Int.eq_ofNat_of_zero_le h1;have hT:TL.length<=1000:=by decide
 have hk:k<=TL.length:=by omega
 have hp:=hK_ k;have k60':=k60;show ju_ Tryz.prog 30 [VARS,.int .i64 (k:Int)] (.tup [dq_ u_ 4 (w_ TL k),.int .i64 (H_ TL k),.int .i64 0]);generalize TL=T at*;obtain ⟨e,he⟩:∃e,e=min (k+5) T.length:=⟨_,rfl⟩;obtain ⟨q,hq,hqv⟩:=SlV.slc11 (P:=Tryz.prog) (ti:=(Tryz.prog.info? 91).get!) Tryz.underlying87 (by kernel_rfl) (by kernel_rfl) un_ (SlV.of (w:=4) T) (k:=.i64) (k':=.i64) (i:=k) (j:=e) (by omega) (by omega);have hpg:(T.take e).drop k=w_ T k:=by
  unfold w_;rw [he,List.drop_take];by_cases h5:k+5<=T.length
  .rw [Nat.min_eq_left h5];congr 1;omega
  rw [Nat.min_eq_right (by omega),List.take_of_length_le (by rw [List.length_drop];omega),List.take_of_length_le (by rw [List.length_drop];omega)]
 rw [hpg]at hqv;have hmn:(XOp.mm false).run Tryz.prog [.int .i64 ((k:Int)+5),.int .i64 (T.length:Int)]=some (.int .i64 (e:Int)):=by rw [wH_,he];congr 2;omega
 have okp:okC (dq_ u_ 4 (w_ T k))=true:=r9_ L_ _;refine t3_ (sh:=[none,none]) (ls:=[VARS,.int .i64 k]) (c:=c30) (n:=300) (t:=t30) mo ov rfl (by simp only [okL,z_,okC]) (by simp only [aX_,cC_,p1_ okp]) (λY _=>vy_ _) rfl (by kernel_rfl) λY hf hg=>?_;unfold t30;refine uz_ k60' rfl (vd_ (p_ _)) (vr_ (run_lss ..) rfl (u9_ rfl (λh=>?_) (λ_=>vr_ (t_ T) rfl (vr_ (run_gtr ..) rfl (u9_ rfl (λh=>?_) (λ_=>vr_ (d_ (by omega) (by omega)) rfl (vr_ (t_ T) rfl (vr_ hmn rfl (vr_ (t_ T) rfl (vr_ (run_eql ..) rfl (u9_ rfl (λh=>vr_ hq (hqv.ok L_) (vr_ (N_ un_ (by decide) (by decide) hqv (by omega)) okp (uA_ ?_))) (λh=>vr_ hq (hqv.ok L_) (vr_ (N_ un_ (by decide) (by decide) hqv (by omega)) okp (uA_ ?_))))))))))))));have h:(k:Int)<0:=dT h;omega;have h:(T.length:Int)<(k:Int):=dT h;omega;have h:(e:Int)=(T.length:Int):=dT h;show AV.tup [_,.int .i64 0,.int .i64 0]=_;unfold H_;rw [if_pos (by omega)];rfl;have h:¬(e:Int)=(T.length:Int):=dF h;show AV.tup [_,.int .i64 (e:Int),.int .i64 0]=_;unfold H_;rw [if_neg (by omega),show e=k+5 by omega];rfl
theorem yO_ {n:Int} (h:Q_ n=false):ju_ Tryz.prog 30 [VARS,.int .i64 n] (.tup [.nsl,.int .i64 0,.int .i64 1]):=by have hk:=of_decide_eq_false h;refine t3_ (sh:=[none,none]) (ls:=[VARS,.int .i64 n]) (c:=c30) (n:=300) (t:=t30) mo ov rfl (by simp only [okL,z_,okC]) rfl (λY _=>vy_ _) rfl (by kernel_rfl) λY hf hg=>?_;unfold t30;refine uz_ k60 rfl (vd_ (p_ _)) (vr_ (run_lss ..) rfl (u9_ rfl (λh=>uA_ rfl) (λh=>vr_ (t_ TL) rfl (vr_ (run_gtr ..) rfl (u9_ rfl (λh=>uA_ rfl) (λh'=>?_))))));have h:¬n<0:=dF h;have h':¬(TL.length:Int)<n:=dF h';omega
theorem SV.eqv {α:Type} {enc:α->List AV} {w:Nat} (s:SV enc w) (h:s.l≠[]):s=.v s.l:=by obtain ⟨l,x,hx⟩:=s;rcases hx with rfl|⟨h',_⟩;rfl;exact absurd h' h
theorem wT_ {α:Type} {enc:α->List AV} {w b:Nat} (hw:∀a,(enc a).length=w) (hwp:0<w) (hb:0<b) (l:List α) (a:α) (hl:(l.length+1)*b<=1073741824):(XOp.app w b).run Tryz.prog [dq_ enc w l,.agg (enc a)]=some (ct_ enc w (l++[a])):=
 vJ_ hw hwp hb (SV.v l) a hl
theorem nc_ {l:List (List UInt8)} {e:Int} (h:e_ l=.error e):e≠0:=by unfold e_ at h;split at h;split at h;cases h;decide;cases h;rename_i h2;cases h;unfold W_ at h2;split at h2;cases h2;decide;split at h2;cases h2;cases h2;decide
theorem vX_ {l:List (List UInt8)} {ts:List GG} (h:e_ l=.ok ts):0<ts.length:=by
 have h1:=(y_ h).1;cases l with
 |nil=>cases h
 |cons a r=>rw [h1];simp
def uu_ (q:ST) (who:Int) (mail:SV encR 4) (m:GM):AV:=match n_ q who mail.l m with
 | .ok l=>.tup [ct_ encR 4 l,.int .i64 0]
 | .error e=>.tup [mail.x,.int .i64 e]
theorem wF_ {q:ST} {who:Int} {mail:SV encR 4} {m:GM} {e:Int} (h:n_ q who mail.l m=.error e):uu_ q who mail m=.tup [mail.x,.int .i64 e]:=by unfold uu_;rw [h]
theorem wG_ {q:ST} {who:Int} {mail:SV encR 4} {m:GM} {l:List GR} (h:n_ q who mail.l m=.ok l):uu_ q who mail m=.tup [ct_ encR 4 l,.int .i64 0]:=by unfold uu_;rw [h]
def c29:VC:=⟨⟨[],[]⟩,[(28,[none,none]),(57,[(some 4),none]),(58,[none]),(59,[none,none])],[(10007,[⟨[],[],0,0,[],[],[(14,3)]⟩]),(10022,[⟨[],[],0,0,[],[],[(14,2)]⟩]),(0,[⟨[(15,.slx 0 0 0),(14,.ptr 2 0),(4,91),(12,92),(8,.ptr 1 0),(0,64),(6,.ptr 0 0)],[(2,[78,80,.slx 3 1 1,98]),(1,[79,80,81,82,83,84,85,86,87,88,89,90]),(0,[65,66,67,68,69,70,71,72,73,74,75,76,77])],4,2,[⟨3,1,1,2,(some 2)⟩],[],[]⟩]),(2,[⟨[(18,.slx 0 0 0),(14,.ptr 2 0),(4,91),(12,92),(8,.ptr 1 0),(6,.ptr 0 0)],[(2,[78,80,.slx 3 1 1,98]),(1,[79,80,81,82,83,84,85,86,87,88,89,90]),(0,[65,66,67,68,69,70,71,72,73,74,75,76,77])],4,2,[⟨3,1,1,2,(some 2)⟩],[],[]⟩])],0,true,[]⟩
def t29:VT:=
 (.call 28 [64,89] 92 [none,none]
 (K Qz [93,J 0] 94
 (.ite 94
 (.done (.tup [91,93]))
 (K Qo [90] 95
 (K Q8 [92] 96
 (K Q4 [95,96] 97
 (.ite 97
 (.done (.tup [91,J 1]))
 (K Qq [.vsl 0 3 [],90] 98
 (.loop 99 0 [J 0,.nsl]
 (.cons 2
 (K Q8 [92] 101
 (K Q2 [99,101] 102
 (.ite 102
 (K Qg [89,99] 103
 (K Q6 [103] 104
 (.call 57 [64,104] 105 [(some 4),none]
 (.ite 109
 (K Qg [89,99] 110
 (K Q6 [110] 111
 (.call 58 [111] 112 [none]
 (K Qd [92,99] 113
 (K (.faddr 91 3) [113] 114
 (K Q5 [114] 115
 (K Qy [115,J 3] 116
 (.ite 116
 (.done (.tup [91,J 13]))
 (.ite 112
 (.done (.tup [91,J 13]))
 (K Qd [92,99] 117
 (K Z0 [117] 118
 (K Q5 [118] 119
 (K Z9 [100,.agg [119]] 120
 (K Q0 [99,J 1] 121
 (.again 0 0 [121,120])))))))))))))))
 (K Qd [92,99] 110
 (K (.faddr 91 3) [110] 111
 (K Q5 [111] 112
 (K Qy [112,J 3] 113
 (.ite 113
 (.done (.tup [91,J 13]))
 (K Qd [92,99] 114
 (K Z0 [114] 115
 (K Q5 [115] 116
 (K Z9 [100,.agg [116]] 117
 (K Q0 [99,J 1] 118
 (.again 0 0 [118,117])))))))))))))))
 (.loop 103 0 [J 0,100]
 (.cons 2
 (K Q8 [92] 105
 (K Q2 [103,105] 106
 (.ite 106
 (K Qu [90,103] 107
 (K (.faddr 38 0) [107] 108
 (K Q5 [108] 109
 (K Qd [92,103] 110
 (K (.faddr 91 2) [110] 111
 (K Q5 [111] 112
 (K Q4 [109,112] 113
 (.ite 113
 (.done (.tup [91,J 4]))
 (K Q0 [103,J 1] 114
 (.again 1 0 [114,104]))))))))))
 (K Qz [76,J 0] 107
 (.ite 107
 (.done (.tup [91,J 9]))
 (.call 59 [91,.agg [78,80,104,98]] 108 [none,none]
 (.done (.tup [108,109]))))))))
 .nil)))))
 .nil))))))))))
theorem p29 (q:ST) (who:Int) (m:GM) (hm:m.Sm) (mail:SV encR 4) (hl:mail.l.length<=1000):ju_ Tryz.prog 29 [VARS,.agg (S_ q),.int .i64 who,.agg (f_ m),mail.x] (uu_ q who mail m):=by
 have hx:=mail.ok r_;have hm2:=hm.2;have nr:aX_ (uu_ q who mail m)=true:=by unfold uu_;split;exact O_ (p1_ (ub_ r_ _)) rfl;exact O_ (p1_ hx) rfl
 refine t3_ (sh:=[none,some 13,none,some 12,none]) (ls:=VARS::(S_ q++([.int .i64 who]++(f_ m++[mail.x])))) (c:=c29) (n:=300) (t:=t29) mo ov rfl (by rw [aY_,z_];exact kN_.okL_join (okQ q) (kN_.okL_join (a:=[_]) rfl (kN_.okL_join (v_ m) (by simp only [okL,hx])))) nr (λY _=>vy_ _) rfl (by kernel_rfl) λY hf hg=>?_;unfold t29;have h28:=p28 m.paths hm.1;have fin:∀{v:AV} {e:Int},n_ q who mail.l m=.error e->v=.tup [mail.x,.int .i64 e]->v=uu_ q who mail m:=λh hv=>by rw [wF_ h,hv]
 cases e:e_ m.paths.l with
 |error e'=>rw [e]at h28;refine uz_ h28 rfl rfl (vr_ (run_neq ..) rfl (u9_ rfl (λ_=>uA_ (fin (e:=e') (by unfold n_;rw [e]) rfl)) (λh=>?_)));have h:(!decide (e'=0))=false:=h;have h:e'=0:=(by simpa using h);exact absurd h (nc_ e)
 |ok ts=>
  rw [e]at h28;obtain ⟨hts,h4,hT⟩:=y_ e;have hne:=vX_ e;have hall:=vB_ e;refine uz_ h28 rfl (by simp only [okL,okC,p_]) (vr_ c_ rfl (u9_ (t:=false) rfl (λh=>by cases h) (λ_=>?_)));have e0:n_ q who mail.l m=if ts.length≠m.vals.l.length then .error 1 else if ts.all (λt=>decide (t.role=3))=false then .error 13
   else if (ts.zip m.vals.l).all (λx=>decide (x.2.k=x.1.kind))=false then .error 4 else if q.err≠0 then .error 9 else qi_ mail.l (wOf who m ts):=by unfold n_;rw [e]
  refine vr_ (m.vals.h.len Tryz.underlying26) rfl (vr_ (t_ ts) rfl (vr_ (run_neq ..) rfl (u9_ rfl (λh=>?_) (λh=>?_))));have h:(!decide ((m.vals.l.length:Int)=(ts.length:Int)))=true:=h;have h:¬(m.vals.l.length:Int)=(ts.length:Int):=(by simpa using h);exact uA_ (fin (by rw [e0,if_pos (by omega)]) rfl);have h:(!decide ((m.vals.l.length:Int)=(ts.length:Int)))=false:=h;have h:(m.vals.l.length:Int)=(ts.length:Int):=(by simpa using h);have hlen:ts.length=m.vals.l.length:=(by omega);rw [if_neg (by omega)]at e0;have hve:m.vals=.v m.vals.l:=SV.eqv _ (λh0=>by rw [h0,List.length_nil]at hlen;omega);refine vr_ (N_ rl_ (by decide) (by decide) m.vals.h (by omega)) (r9_ A_ _) ?_;refine uB_ (ι:=Nat) (λi=>[.int .i64 (i:Int),ct_ am_ 1 ((ts.take i).map GG.addr)]) (λi=>i<=ts.length/\(ts.take i).all (λt=>decide (t.role=3))=true) (λi=>ts.length-i) 0 ⟨Nat.zero_le _,rfl⟩ rfl (λ_ _=>by simp only [okL,okC,ub_ okI]) (λi j _ _ h=>?_) (λi hi=>?_)
  .have h:=(List.cons.inj h).1;injection h with _ h
   omega
  obtain ⟨hi,hall3⟩:=hi;refine vr_ (t_ ts) rfl (vr_ (run_lss ..) rfl (u9_ rfl (λhc=>?_) (λhc=>?_)))
  .have hc:(i:Int)<(ts.length:Int):=dT hc;have hc:i<ts.length:=(by omega);have hcp:i<m.paths.l.length:=(by omega);have hfd:(j_ m.paths.l[i] TL).2=true:=hall _ (List.getElem_mem hcp);refine vr_ (iaP m.paths hcp) (kN_ okP _) (vr_ (ldP hcp) rfl (uz_ (p57 _) rfl rfl (u9_ rfl (λ_=>?_) (λh=>?_))))
   .refine vr_ (iaP m.paths hcp) (kN_ okP _) (vr_ (ldP hcp) rfl (uz_ (u1_ hfd) rfl rfl ?_))
    (refine vr_ (iaG (SlV.of ts) hc) (kN_ L_ _) (vr_ (yj_ ts hc) (oG3 ts hc) (vr_ (sT_ Tryz.underlying3 rfl _ _) rfl ?_)))
    refine vr_ (run_neq ..) rfl (u9_ rfl (λhr3=>?_) (λhr3=>?_));have hr3:(!decide (ts[i].role=3))=true:=hr3;have hr3:¬ts[i].role=3:=(by simpa using hr3);exact uA_ (fin (by rw [e0,if_pos (Y_ hc (decide_eq_false hr3))]) rfl);have hr3:(!decide (ts[i].role=3))=false:=hr3;have hr3:ts[i].role=3:=(by simpa using hr3);refine u9_ (t:=false) rfl (λh=>by cases h) (λ_=>?_)
    (refine vr_ (iaG (SlV.of ts) hc) (kN_ L_ _) (vr_ (faG ts hc) (oG1 ts hc) (vr_ (sT_ Tryz.underlying3 rfl _ _) rfl ?_)))
    refine vr_ (t6_ wh_ (by decide) (by decide) ((ts.take i).map GG.addr) ts[i].addr (by rw [List.length_map,List.length_take];omega)) (ub_ okI _) (vr_ (d_ (by omega) (by omega)) rfl (up_ rfl ⟨i+1,⟨hc,?_⟩,?_,by omega⟩));rw [aL_ hc,hall3,decide_eq_true hr3];rfl;rw [h_ hc,List.map_append];rfl
   have h:(j_ m.paths.l[i] TL).2=false:=(by simpa using h);rw [hfd]at h;cases h
  .have hc:¬(i:Int)<(ts.length:Int):=dF hc;have ei:i=ts.length:=(by omega);subst ei;rw [List.take_length]at hall3⊢;rw [if_neg (by rw [hall3];decide)]at e0;refine uB_ (ι:=Nat) (λi=>[.int .i64 (i:Int),ct_ am_ 1 (ts.map GG.addr)]) (λi=>i<=ts.length/\((ts.zip m.vals.l).take i).all (λx=>decide (x.2.k=x.1.kind))=true) (λi=>ts.length-i) 0 ⟨Nat.zero_le _,rfl⟩ rfl (λ_ _=>by simp only [okL,okC,ub_ okI]) (λi j _ _ h=>?_) (λi hi=>?_)
   .have h:=(List.cons.inj h).1;injection h with _ h
    omega
   obtain ⟨hi,hall2⟩:=hi;have hzl:(ts.zip m.vals.l).length=ts.length:=(by rw [List.length_zip];omega);refine vr_ (t_ ts) rfl (vr_ (run_lss ..) rfl (u9_ rfl (λhc=>?_) (λhc=>?_)))
   .have hc:(i:Int)<(ts.length:Int):=dT hc;have hc:i<ts.length:=(by omega);have hcv:i<m.vals.l.length:=(by omega);have hz:i<(ts.zip m.vals.l).length:=(by omega);have ez:(ts.zip m.vals.l)[i]=(ts[i],m.vals.l[i]):=List.getElem_zip;refine vr_ (iaV m.vals hcv) (kN_ A_ _) (vr_ (fa0 m.vals.l hcv) (by simp only [okC,okL,List.cons_append,vK_,List.nil_append];exact kN_ A_ _) (vr_ (sT_ Tryz.underlying3 rfl _ _) rfl ?_))
    (refine vr_ (iaG (SlV.of ts) hc) (kN_ L_ _) (vr_ (yi_ ts hc) (oG2 ts hc) (vr_ (sT_ Tryz.underlying3 rfl _ _) rfl ?_)))
    refine vr_ (run_neq ..) rfl (u9_ rfl (λhk=>?_) (λhk=>?_));have hk:(!decide (m.vals.l[i].k=ts[i].kind))=true:=hk;have hk:¬m.vals.l[i].k=ts[i].kind:=(by simpa using hk);exact uA_ (fin (by rw [e0,if_pos (Y_ hz (by rw [ez];exact decide_eq_false hk))]) rfl);have hk:(!decide (m.vals.l[i].k=ts[i].kind))=false:=hk;have hk:m.vals.l[i].k=ts[i].kind:=(by simpa using hk);refine vr_ (d_ (by omega) (by omega)) rfl (up_ rfl ⟨i+1,⟨hc,?_⟩,rfl,by omega⟩);rw [aL_ hz,hall2,ez,decide_eq_true hk];rfl
   have hc:¬(i:Int)<(ts.length:Int):=dF hc;have ei:i=ts.length:=(by omega);subst ei;rw [←hzl,List.take_length]at hall2;rw [if_neg (by rw [hall2];decide)]at e0;refine vr_ (run_neq ..) rfl (u9_ rfl (λhe=>?_) (λhe=>?_));have he:(!decide (q.err=0))=true:=he;have he:¬q.err=0:=(by simpa using he);exact uA_ (fin (by rw [e0,if_pos he]) rfl);have he:(!decide (q.err=0))=false:=he;have he:q.err=0:=(by simpa using he);rw [if_neg (λh=>h he)]at e0;have hw:wOf who m ts=⟨who,m.id,.of (ts.map GG.addr),.v m.vals.l⟩:=(by unfold wOf;rw [←hve]);rw [hw]at e0;have h59:=p59 mail hl ⟨who,m.id,.of (ts.map GG.addr),.v m.vals.l⟩;unfold qi_ at e0;by_cases h3:3<=mail.l.length;rw [if_pos h3]at h59 e0;exact uz_ h59 rfl (by simp only [okL,okC,hx]) (uA_ (fin e0 rfl));rw [if_neg h3]at h59 e0;refine uz_ h59 rfl (by simp only [okL,okC,ub_ r_]) (uA_ ?_);rw [wG_ e0];rfl
def ut_ (s:GS) (now:Int) (m:GM):AV:=match G_ s.subs.l s.num now m with
 | .ok w=>.tup [.agg (i_ { s with subs:=.of (s.subs.l++[w]),num:=IntKind.i64.wrap (s.num+1) }),.agg (f_ (m_ m.id 0 (IntKind.i64.wrap (s.num+1)) .nil .nil))]
 | .error e=>.tup [.agg (i_ s),.agg (f_ (m_ m.id e 0 .nil .nil))]
theorem wD_ {s:GS} {now:Int} {m:GM} {e:Int} (h:G_ s.subs.l s.num now m=.error e):ut_ s now m=.tup [.agg (i_ s),.agg (f_ (m_ m.id e 0 .nil .nil))]:=by unfold ut_;rw [h]
theorem wK_ {l:List GW} {num now:Int} {m:GM} {e:Int} (h:e_ m.paths.l=.error e):G_ l num now m=.error e:=by unfold e_ at h;unfold G_;split at h;rename_i ts ht;rw [ht];split at h;cases h;exact if_pos (.inl (by omega));cases h;rename_i ht;cases h;rw [ht]
theorem wq_ {l:List (List UInt8)} {ts:List GG} (h:e_ l=.ok ts):W_ l=.ok ts:=by unfold e_ at h;split at h;rename_i ht;split at h;cases h;cases h;exact ht;cases h
def c31:VC:=⟨⟨[],[]⟩,[(28,[none,none]),(61,[(some 15)])],[],0,true,[]⟩
def t31:VT:=
 (.call 28 [64,83] 98 [none,none]
 (K Qz [99,J 0] 100
 (.ite 100
 (.done (.tup [.agg [65,66,67,68,69,70,71,72],.agg [85,86,99,88,89,90,91,92,93,94,95,96]]))
 (K Q8 [98] 101
 (K Qy [101,J 1] 102
 (.ite 102
 (.done (.tup [.agg [65,66,67,68,69,70,71,72],.agg [85,86,J 1,88,89,90,91,92,93,94,95,96]]))
 (K Qe [76,J 1] 103
 (.ite 103
 (.done (.tup [.agg [65,66,67,68,69,70,71,72],.agg [85,86,J 1,88,89,90,91,92,93,94,95,96]]))
 (K Q9 [76,J 8] 104
 (.ite 104
 (.done (.tup [.agg [65,66,67,68,69,70,71,72],.agg [85,86,J 1,88,89,90,91,92,93,94,95,96]]))
 (K Zr [79,J 0] 105
 (.ite 105
 (.done (.tup [.agg [65,66,67,68,69,70,71,72],.agg [85,86,J 1,88,89,90,91,92,93,94,95,96]]))
 (K Qm [71] 106
 (K Qt [106,J 3] 107
 (.ite 107
 (.done (.tup [.agg [65,66,67,68,69,70,71,72],.agg [85,86,J 12,88,89,90,91,92,93,94,95,96]]))
 (K Q0 [72,J 1] 108
 (.lt .emp [71] 109 none
 (.ite 109
 (K Qd [98,J 0] 110
 (K Z0 [110] 111
 (K Q5 [111] 112
 (.call 61 [108,112,79,97,.agg [80,81,82],76] 113 [(some 15)]
 (.done (.tup [.agg [65,66,67,68,69,70,.vsl 1 15 [113,114,115,116,117,118,119,120,121,122,123,124,125,126,127],108],.agg [85,86,87,108,89,90,91,92,93,94,95,96]]))))))
 (K Z2 [.vsl 0 15 [],71] 110
 (K Qd [98,J 0] 111
 (K Z0 [111] 112
 (K Q5 [112] 113
 (.call 61 [108,113,79,97,.agg [80,81,82],76] 114 [(some 15)]
 (K Z2 [110,.agg [114,115,116,117,118,119,120,121,122,123,124,125,126,127,128]] 129
 (.done (.tup [.agg [65,66,67,68,69,70,129,108],.agg [85,86,87,108,89,90,91,92,93,94,95,96]]))))))))))))))))))))))))))
theorem p31 (s:GS) (hs:s.subs.l.length<=1000) (m:GM) (hm:m.Sm) (now:Int):ju_ Tryz.prog 31 [VARS,.agg (i_ s),.agg (f_ m),.agg (f_ (m_ m.id 0 0 .nil .nil)),.int .i64 now] (ut_ s now m):=by
 have nr:aX_ (ut_ s now m)=true:=by unfold ut_;split<;>exact O_ (s_ (okS _)) (s_ (v_ _))
 refine t3_ (sh:=[none,some 8,some 12,some 12,none]) (ls:=VARS::(i_ s++(f_ m++(f_ (m_ m.id 0 0 .nil .nil)++[.int .i64 now])))) (c:=c31) (n:=300) (t:=t31) mo ov rfl (by rw [aY_,z_];exact kN_.okL_join (okS s) (kN_.okL_join (v_ m) (kN_.okL_join (v_ _) rfl))) nr (λY _=>vy_ _) rfl (by kernel_rfl) λY hf hg=>?_;unfold t31;have h28:=p28 m.paths hm.1;have fin:∀{v:AV} {e:Int},G_ s.subs.l s.num now m=.error e->v=.tup [.agg (i_ s),.agg (f_ (m_ m.id e 0 .nil .nil))]->v=ut_ s now m:=λh hv=>by rw [wD_ h,hv]
 cases e:e_ m.paths.l with
 |error e'=>rw [e]at h28;refine uz_ h28 rfl rfl (vr_ (run_neq ..) rfl (u9_ rfl (λ_=>uA_ (fin (e:=e') (wK_ e) rfl)) (λh=>?_)));have h:(!decide (e'=0))=false:=h;have h:e'=0:=(by simpa using h);exact absurd h (nc_ e)
 |ok ts=>
  rw [e]at h28;have e0:G_ s.subs.l s.num now m=if ts.length≠1\/m.n<1\/8<m.n\/m.every<0 then .error 1 else if 3<=s.subs.l.length then .error 12
   else .ok (v1_ (IntKind.i64.wrap (s.num+1)) (ts.headD ⟨[],0,0,0⟩).addr m.every now m.band m.n):=by unfold G_;rw [wq_ e]
  refine uz_ h28 rfl (by simp only [okL,okC,p_]) (vr_ c_ rfl (u9_ (t:=false) rfl (λh=>by cases h) (λ_=>?_)));refine vr_ (t_ ts) rfl (vr_ (run_neq ..) rfl (u9_ rfl (λh=>?_) (λh=>?_)));have h:(!decide ((ts.length:Int)=1))=true:=h;have h:¬(ts.length:Int)=1:=(by simpa using h);exact uA_ (fin (by rw [e0,if_pos (.inl (by omega))]) rfl);have h:(!decide ((ts.length:Int)=1))=false:=h;have h1:(ts.length:Int)=1:=(by simpa using h);refine vr_ (run_lss ..) rfl (u9_ rfl (λh=>uA_ (fin (by rw [e0,if_pos (.inr (.inl (dT h)))]) rfl)) (λh2=>?_));refine vr_ (run_gtr ..) rfl (u9_ rfl (λh=>uA_ (fin (by rw [e0,if_pos (.inr (.inr (.inl (dT h))))]) rfl)) (λh3=>?_));refine vr_ (run_lss ..) rfl (u9_ rfl (λh=>uA_ (fin (by rw [e0,if_pos (.inr (.inr (.inr (dT h))))]) rfl)) (λh4=>?_));rw [if_neg (by rintro (h|h|h|h);omega;exact dF h2 h;exact dF h3 h;exact dF h4 h)]at e0;refine vr_ (s.subs.h.len Tryz.underlying43) rfl (vr_ (run_geq ..) rfl (u9_ rfl (λh=>?_) (λh=>?_)));have h:(3:Int)<=(s.subs.l.length:Int):=dT h;exact uA_ (fin (by rw [e0,if_pos (by omega)]) rfl);have h:¬(3:Int)<=(s.subs.l.length:Int):=dF h;rw [if_neg (by omega)]at e0;have hc:0<ts.length:=(by omega);have hd:ts.headD ⟨[],0,0,0⟩=ts[0]:=by
   cases ts with
   |nil=>cases hc
   |cons a r=>rfl
  rw [hd]at e0;have er:ut_ s now m=.tup [.agg (i_ { s with subs:=.of (s.subs.l++[v1_ (IntKind.i64.wrap (s.num+1)) ts[0].addr m.every now m.band m.n]),num:=IntKind.i64.wrap (s.num+1) }),.agg (f_ (m_ m.id 0 (IntKind.i64.wrap (s.num+1)) .nil .nil))]:=by unfold ut_;rw [e0]
  rw [er];refine vr_ (run_add ..) rfl (vr_ (C_ s.subs.h) rfl (u9_ rfl (λh0=>?_) (λ_=>?_)))
  .have h0:s.subs.l.isEmpty=true:=(by simpa using h0);have h0:s.subs.l=[]:=List.isEmpty_iff.1 h0;rw [h0]
   (refine vr_ (iaG (SlV.of ts) hc) (kN_ L_ _) (vr_ (faG ts hc) (oG1 ts hc) (vr_ (sT_ Tryz.underlying3 rfl _ _) rfl ?_)))
   exact uz_ (p61 (IntKind.i64.wrap (s.num+1)) ts[0].addr m.every now m.band m.n) rfl (M_ _) (uA_ rfl)
  .refine vr_ (N_ oo_ (by decide) (by decide) s.subs.h (by omega)) (r9_ M_ _) ?_
   (refine vr_ (iaG (SlV.of ts) hc) (kN_ L_ _) (vr_ (faG ts hc) (oG1 ts hc) (vr_ (sT_ Tryz.underlying3 rfl _ _) rfl ?_)))
   exact uz_ (p61 (IntKind.i64.wrap (s.num+1)) ts[0].addr m.every now m.band m.n) rfl (M_ _) (vr_ (wT_ oo_ (by decide) (by decide) s.subs.l _ (by omega)) (ub_ M_ _) (uA_ rfl))
theorem iaS (s:SV g_ 15) {i:Nat} (h:i<s.l.length):(XOp.iaddr 43).run Tryz.prog [s.x,.int .i64 (i:Int)]=some (.vptr (bq_ g_ (s.l.drop i))):=s.h.ia (e:=100) Tryz.underlying43 (ti:=(Tryz.prog.info? 100).get!) (by kernel_rfl) (by kernel_rfl) oo_ h .i64
theorem ldS {l:List GW} {i:Nat} (h:i<l.length):(XOp.load 100).run Tryz.prog [.vptr (bq_ g_ (l.drop i))]=some (.agg (g_ l[i])):=sS_ (ti:=(Tryz.prog.info? 100).get!) Tryz.underlying100 rfl (by kernel_rfl) (by kernel_rfl) oo_ h
theorem faS (l:List GW) {i:Nat} (h:i<l.length):(XOp.faddr 100 0).run Tryz.prog [.vptr (bq_ g_ (l.drop i))]=some (.vptr (.int .i64 l[i].num::((g_ l[i]).drop 1++bq_ g_ (l.drop (i+1))))):=by rw [List.drop_eq_getElem_cons h];kernel_rfl
theorem oS (l:List GW) {i:Nat} (h:i<l.length):okC (.vptr (.int .i64 l[i].num::((g_ l[i]).drop 1++bq_ g_ (l.drop (i+1)))))=true:=kN_.okL_join (a:=g_ l[i]) (M_ _) (kN_ M_ _)
def gT (o:Except Int (List GG)):List GG×Int:=match o with
 | .ok ts=>(ts,0)
 | .error e=>([],e)
theorem wE_ (o:Except Int (List GG)):xa_ o=.tup [K_ (gT o).1,.int .i64 (gT o).2]:=by cases o<;>rfl
theorem w3_ {l:List (List UInt8)}:(gT (e_ l)).1.length<=4/\∀t∈(gT (e_ l)).1,t∈TL:=by
 cases e:e_ l with
 |ok ts=>exact (y_ e).2
 |error e=>exact ⟨Nat.zero_le _,λt h=>(List.not_mem_nil h).elim⟩
theorem v5_ {q:ST} {who:Int} {l:List GR} {m:GM} {e:Int} (h:n_ q who l m=.error e):e≠0:=by unfold n_ at h;split at h;rename_i e' he;cases h;exact nc_ he;split at h;cases h;decide;split at h;cases h;decide;split at h;cases h;decide;split at h;cases h;decide;unfold qi_ at h;split at h;cases h;decide;cases h
def pgF (n:Int):List GG×Int×Int:=if Q_ n=true then (w_ TL n.toNat,H_ TL n.toNat,0)else ([],0,1)
theorem xH_ (n:Int):(pgF n).1.length<=5/\∃r,TgV (pgF n).1 r/\ju_ Tryz.prog 30 [VARS,.int .i64 n] (.tup [r,.int .i64 (pgF n).2.1,.int .i64 (pgF n).2.2]):=by
 unfold pgF;cases h:Q_ n with
 |true=>exact ⟨hK_ _,_,.inl rfl,p30 h⟩
 |false=>exact ⟨Nat.zero_le _,_,.inr ⟨rfl,rfl⟩,yO_ h⟩
def o_ (s:GS) (rest:List GM) (subs:SV g_ 15) (num:Int) (a:GM) (mail:SV encR 4):AV:=.tup [.agg (i_ { s with inn:=.v rest,out:=.of (s.out.l++[a]),subs:=subs,num:=num }),mail.x,.bool true]
def eo_ (n:Int) (l:List GW):Int:=if l.any (λw=>decide (w.num=n))=true then 0 else 11
def T_ (n:Int) (l:List GW):List GW:=l.filter λw=> !decide (w.num=n)
def l_ (q:ST) (who:Int) (s:GS) (mail:SV encR 4) (now:Int) (m:GM) (rest:List GM):AV:=
 if m.kind=1 then o_ s rest s.subs s.num (m_ m.id (gT (e_ m.paths.l)).2 0 .nil (.of ((gT (e_ m.paths.l)).1.map (B_ q.im.l)))) mail
 else if m.kind=2 then match n_ q who mail.l m with
  | .ok l=>.tup [.agg (i_ { s with inn:=.v rest }),ct_ encR 4 l,.bool true]
  | .error e=>o_ s rest s.subs s.num (m_ m.id e 0 .nil .nil) mail
 else if m.kind=3 then o_ s rest s.subs s.num (m_ m.id (pgF m.n).2.2 (pgF m.n).2.1 (.of ((pgF m.n).1.map GG.path)) .nil) mail
 else if m.kind=4 then match G_ s.subs.l s.num now m with
  | .ok w=>o_ s rest (.of (s.subs.l++[w])) (IntKind.i64.wrap (s.num+1)) (m_ m.id 0 (IntKind.i64.wrap (s.num+1)) .nil .nil) mail
  | .error e=>o_ s rest s.subs s.num (m_ m.id e 0 .nil .nil) mail
 else o_ s rest (.of (T_ m.n s.subs.l)) s.num (m_ m.id (eo_ m.n s.subs.l) 0 .nil .nil) mail
theorem nrO (s:GS) (l:AV) (b:Bool) (h:okC l=true):aX_ (.tup [.agg (i_ s),l,.bool b])=true:=by have h1:cC_ (i_ s)=true:=s_ (okS s);have h2:=p1_ h;simp only [aX_,cC_,h1,h2]
theorem wA_ (q:ST) (who:Int) (s:GS) (mail:SV encR 4) (now:Int) (m:GM) (rest:List GM):aX_ (l_ q who s mail now m rest)=true:=by
 have ho:∀(subs:SV g_ 15) (num:Int) (a:GM),aX_ (o_ s rest subs num a mail)=true:=λ_ _ _=>nrO _ _ _ (mail.ok r_);unfold l_;split;exact ho _ _ _;split;split;exact nrO _ _ _ (ub_ r_ _);exact ho _ _ _;split;exact ho _ _ _;split
 .split<;>exact ho _ _ _
 exact ho _ _ _
def c14:VC:=⟨⟨[],[]⟩,[(28,[none,none]),(29,[none,none]),(30,[none,none,none]),(31,[(some 8),(some 12)])],[(10044,[⟨[],[],0,0,[],[],[(19,11),(19,10)]⟩]),(0,[⟨[(16,.slx 0 0 0),(15,.slx 1 0 0),(2,78),(4,87),(7,.ptr 0 0),(0,64),(5,88),(9,.ptr 1 0),(12,.ptr 2 0)],[(0,[65,66,67,68,69,70,71,72,73,74,75,76,77]),(1,[79,80,81,82,83,84,85,86]),(2,[.bool false,J 0,.nsl,.bool false,.nsl,.nsl,.nsl,J 0])],3,2,[],[],[]⟩]),(5,[⟨[(22,.slx 0 0 0),(19,.ptr 7 0),(20,115),(7,.ptr 0 0),(17,.ptr 3 0),(4,87),(12,.ptr 2 0)],[(7,[J 6,101,116,J 0,J 0,.bool false,J 0,J 0,J 0,.flt .f64 0,.nsl,.slx 8 3 1]),(0,[65,66,67,68,69,70,71,72,73,74,75,76,77]),(3,[79,80,81,82,.ptx 6 113 12 0,84,85,86]),(2,[.bool false,J 0,.nsl,.bool false,.nsl,.nsl,.nsl,J 0])],9,2,[⟨8,3,1,7,(some 11)⟩],[],[(6,113)]⟩]),(7,[⟨[(28,.slx 0 0 0),(19,.ptr 7 0),(25,117),(17,.ptr 3 0),(4,87),(12,.ptr 2 0)],[(7,[J 6,101,119,118,J 0,.bool false,J 0,J 0,J 0,.flt .f64 0,.slx 8 1 1,.nsl]),(3,[79,80,81,82,.ptx 6 113 12 0,84,85,86]),(2,[.bool false,J 0,.nsl,.bool false,.nsl,.nsl,.nsl,J 0])],9,2,[⟨8,1,1,7,(some 10)⟩],[],[(6,113)]⟩]),(3,[⟨[(30,.slx 0 0 0),(19,.ptr 7 0),(29,.slx 8 15 1),(17,.ptr 3 0),(18,.ptr 4 0),(4,87),(12,.ptr 2 0)],[(7,[J 6,101,.slx 2 0 0,J 0,J 0,.bool false,J 0,J 0,J 0,.flt .f64 0,.nsl,.nsl]),(3,[79,80,81,82,.ptx 6 113 12 0,84,85,86]),(4,[100,101,102,103,104,105,106,107,108,109,110,111]),(2,[.bool false,J 0,.nsl,.bool false,.nsl,.nsl,.nsl,J 0])],9,3,[⟨8,15,1,29,none⟩],[],[(6,113)]⟩])],0,true,[]⟩
def t14:VT:=
 (.loop 89 0 [J 0,J 0]
 (.cons 2
 (K Qc [87] 91
 (K Q2 [89,91] 92
 (.ite 92
 (K Qb [87,89] 93
 (K Zc [93] 94
 (K Q5 [94] 95
 (K Qw [95,78] 96
 (.ite 96
 (K Q0 [90,J 1] 97
 (K Q0 [89,J 1] 98
 (.again 0 0 [98,97])))
 (K Q0 [89,J 1] 97
 (.again 0 0 [97,90])))))))
 (K Q7 [83] 93
 (K Q1 [93,J 0] 94
 (.ite 94
 (.done (.tup [.agg [79,80,81,82,83,84,85,86],87,.bool false]))
 (K Q3 [79] 95
 (.ite 95
 (.done (.tup [.agg [79,80,81,82,83,84,85,86],87,.bool false]))
 (K Q7 [84] 96
 (K Zl [96,90] 97
 (K Qt [97,J 6] 98
 (.ite 98
 (.done (.tup [.agg [79,80,81,82,83,84,85,86],87,.bool false]))
 (K Qk [83,J 0] 99
 (.lt Z3 [99] 100 (some 12)
 (K Qi [83,J 1] 112
 (K Qa [.vsl 0 12 [],112] 113
 (K Q1 [100,J 1] 114
 (.ite 114
 (.call 28 [64,110] 115 [none,none]
 (.loop 117 0 [J 0,.nsl]
 (.cons 2
 (K Q8 [115] 119
 (K Q2 [117,119] 120
 (.ite 120
 (K Qd [115,117] 121
 (K Z0 [121] 122
 (K Q5 [122] 123
 (K Qu [68,123] 124
 (.lt Z4 [124] 125 (some 3)
 (K Qq [118,.agg [125,126,127]] 128
 (K Q0 [117,J 1] 129
 (.again 1 0 [129,128]))))))))
 (.lt .emp [84] 121 none
 (.ite 121
 (.done (.tup [.agg [79,80,81,82,113,.vsl 1 12 [J 6,101,116,J 0,J 0,.bool false,J 0,J 0,J 0,.flt .f64 0,.nsl,118],85,86],87,.bool true]))
 (K Qa [.vsl 0 12 [],84] 122
 (K Qa [122,.vsl 1 12 [J 6,101,116,J 0,J 0,.bool false,J 0,J 0,J 0,.flt .f64 0,.nsl,118]] 123
 (.done (.tup [.agg [79,80,81,82,113,123,85,86],87,.bool true])))))))))
 .nil)))
 (K Q1 [100,J 2] 115
 (.ite 115
 (.call 29 [64,.agg [65,66,67,68,69,70,71,72,73,74,75,76,77],78,.agg [100,101,102,103,104,105,106,107,108,109,110,111],87] 116 [none,none]
 (K (.bin .eql 27 false true) [117,J 0] 118
 (.ite 118
 (.done (.tup [.agg [79,80,81,82,113,84,85,86],116,.bool true]))
 (.lt .emp [84] 119 none
 (.ite 119
 (.done (.tup [.agg [79,80,81,82,113,.vsl 1 12 [J 6,101,117,J 0,J 0,.bool false,J 0,J 0,J 0,.flt .f64 0,.nsl,.nsl],85,86],87,.bool true]))
 (K Qa [.vsl 0 12 [],84] 120
 (K Qa [120,.vsl 1 12 [J 6,101,117,J 0,J 0,.bool false,J 0,J 0,J 0,.flt .f64 0,.nsl,.nsl]] 121
 (.done (.tup [.agg [79,80,81,82,113,121,85,86],87,.bool true])))))))))
 (K Q1 [100,J 3] 116
 (.ite 116
 (.call 30 [64,103] 117 [none,none,none]
 (.loop 120 0 [J 0,.nsl]
 (.cons 2
 (K Q8 [117] 122
 (K Q2 [120,122] 123
 (.ite 123
 (K Qd [117,120] 124
 (K (.faddr 91 0) [124] 125
 (K Q6 [125] 126
 (K Z1 [121,.agg [126]] 127
 (K Q0 [120,J 1] 128
 (.again 1 0 [128,127]))))))
 (.lt .emp [84] 124 none
 (.ite 124
 (.done (.tup [.agg [79,80,81,82,113,.vsl 1 12 [J 6,101,119,118,J 0,.bool false,J 0,J 0,J 0,.flt .f64 0,121,.nsl],85,86],87,.bool true]))
 (K Qa [.vsl 0 12 [],84] 125
 (K Qa [125,.vsl 1 12 [J 6,101,119,118,J 0,.bool false,J 0,J 0,J 0,.flt .f64 0,121,.nsl]] 126
 (.done (.tup [.agg [79,80,81,82,113,126,85,86],87,.bool true])))))))))
 .nil)))
 (K Q1 [100,J 4] 117
 (.ite 117
 (.call 31 [64,.agg [79,80,81,82,113,84,85,86],.agg [100,101,102,103,104,105,106,107,108,109,110,111],.agg [J 6,101,J 0,J 0,J 0,.bool false,J 0,J 0,J 0,.flt .f64 0,.nsl,.nsl],88] 118 [(some 8),(some 12)]
 (.lt .emp [123] 138 none
 (.ite 138
 (.done (.tup [.agg [118,119,120,121,122,.vsl 1 12 [126,127,128,129,130,131,132,133,134,135,136,137],124,125],87,.bool true]))
 (K Qa [.vsl 0 12 [],123] 139
 (K Qa [139,.vsl 1 12 [126,127,128,129,130,131,132,133,134,135,136,137]] 140
 (.done (.tup [.agg [118,119,120,121,122,140,124,125],87,.bool true])))))))
 (.loop 118 0 [J 0,.nsl,J 11]
 (.cons 3
 (K Qm [85] 121
 (K Q2 [118,121] 122
 (.ite 122
 (K Zd [85,118] 123
 (K (.faddr 100 0) [123] 124
 (K Q5 [124] 125
 (K Qw [125,103] 126
 (.ite 126
 (K Q0 [118,J 1] 127
 (.again 1 0 [127,119,J 0]))
 (K Zd [85,118] 127
 (.lt Zn [127] 128 (some 15)
 (K Z2 [119,.agg [128,129,130,131,132,133,134,135,136,137,138,139,140,141,142]] 143
 (K Q0 [118,J 1] 144
 (.again 1 0 [144,143,120]))))))))))
 (.lt .emp [84] 123 none
 (.ite 123
 (.done (.tup [.agg [79,80,81,82,113,.vsl 1 12 [J 6,101,120,J 0,J 0,.bool false,J 0,J 0,J 0,.flt .f64 0,.nsl,.nsl],119,86],87,.bool true]))
 (K Qa [.vsl 0 12 [],84] 124
 (K Qa [124,.vsl 1 12 [J 6,101,120,J 0,J 0,.bool false,J 0,J 0,J 0,.flt .f64 0,.nsl,.nsl]] 125
 (.done (.tup [.agg [79,80,81,82,113,125,119,86],87,.bool true])))))))))
 .nil))))))))))))))))))))))))))
 .nil))
theorem p14 (q:ST) (hq:9<=q.im.l.length) (who:Int) (s:GS) (hs:s.Sm) (mail:SV encR 4) (hl:mail.l.length<=1000) (now:Int):
  (¬ep_ who s mail.l->ju_ Tryz.prog 14 [VARS,.agg (S_ q),.int .i64 who,.agg (i_ s),mail.x,.int .i64 now] (.tup [.agg (i_ s),mail.x,.bool false]))/\
  (∀m rest,ep_ who s mail.l->s.inn.l=m::rest->ju_ Tryz.prog 14 [VARS,.agg (S_ q),.int .i64 who,.agg (i_ s),mail.x,.int .i64 now] (l_ q who s mail now m rest)):=by
 have hx:=mail.ok r_;have ho:=hs.out;have hi:=hs.inn;have hsb:=hs.subs;have walk:∀v:AV,aX_ v=true->(¬ep_ who s mail.l->v=.tup [.agg (i_ s),mail.x,.bool false])->
   (ep_ who s mail.l->∃m rest,s.inn.l=m::rest/\v=l_ q who s mail now m rest)->
   ju_ Tryz.prog 14 [VARS,.agg (S_ q),.int .i64 who,.agg (i_ s),mail.x,.int .i64 now] v:=by
  intro v hv h1 h2;refine t3_ (sh:=[none,some 13,none,some 8,none,none]) (ls:=VARS::(S_ q++([.int .i64 who]++(i_ s++[mail.x,.int .i64 now])))) (c:=c14) (n:=300) (t:=t14) mo ov rfl (by rw [aY_,z_];exact kN_.okL_join (okQ q) (kN_.okL_join (a:=[_]) rfl (kN_.okL_join (okS s) (by simp only [okL,okC,hx])))) hv (λY _=>vy_ _) rfl (by kernel_rfl) λY hf hg=>?_;unfold t14;refine uB_ (ι:=Nat) (λi=>[.int .i64 (i:Int),.int .i64 ((E_ who (mail.l.take i):Nat):Int)]) (λi=>i<=mail.l.length) (λi=>mail.l.length-i) 0 (Nat.zero_le _) rfl (λ_ _=>rfl) (λi j _ _ h=>?_) (λi hi'=>?_)
  .have h:=(List.cons.inj h).1;injection h with _ h
   omega
  refine vr_ (mail.h.len Tryz.underlying47) rfl (vr_ (run_lss ..) rfl (u9_ rfl (λhc=>?_) (λhc=>?_)));have hc:(i:Int)<(mail.l.length:Int):=dT hc;have hc:i<mail.l.length:=(by omega);have hcl:E_ who (mail.l.take i)<=i:=(by unfold E_;exact Nat.le_trans List.countP_le_length (by rw [List.length_take];omega));refine vr_ (iaR mail hc) (kN_ r_ _) (vr_ (fR0 _ hc) (oR0 hc) (vr_ (sT_ Tryz.underlying3 rfl _ _) rfl (vr_ (run_eql ..) rfl (u9_ rfl (λhe=>?_) (λhe=>?_)))));have he:mail.l[i].sess=who:=dT he;refine vr_ (d_ (by omega) (by omega)) rfl (vr_ (d_ (by omega) (by omega)) rfl (up_ rfl ⟨i+1,hc,?_,by omega⟩));have e:E_ who (mail.l.take (i+1))=E_ who (mail.l.take i)+1:=(by unfold E_;rw [h_ hc,List.countP_append,List.countP_singleton,if_pos (decide_eq_true he)]);rw [e];rfl;have he:¬mail.l[i].sess=who:=dF he;refine vr_ (d_ (by omega) (by omega)) rfl (up_ rfl ⟨i+1,hc,?_,by omega⟩);have e:E_ who (mail.l.take (i+1))=E_ who (mail.l.take i):=(by unfold E_;rw [h_ hc,List.countP_append,List.countP_singleton,if_neg (by rw [decide_eq_false he];decide),Nat.add_zero]);rw [e];rfl;have hc:¬(i:Int)<(mail.l.length:Int):=dF hc;have ei:i=mail.l.length:=(by omega);subst ei;rw [List.take_length];have hcw:E_ who mail.l<=mail.l.length:=List.countP_le_length;refine vr_ (s.inn.h.len Tryz.underlying42) rfl (vr_ (run_eql ..) rfl (u9_ rfl (λh0=>?_) (λh0=>?_)));have h0:(s.inn.l.length:Int)=0:=dT h0;have h0:s.inn.l=[]:=List.length_eq_zero_iff.1 (by omega);exact uA_ (h1 λh=>h.2.1 h0).symm;have h0:¬(s.inn.l.length:Int)=0:=dF h0;refine vr_ (vn_ ..) rfl (u9_ rfl (λhon=>?_) (λhon=>?_));have hon:s.on=false:=(by simpa using hon);exact uA_ (h1 λh=>by have h:=h.1;rw [hon]at h;cases h).symm;have hon:s.on=true:=(by simpa using hon);refine vr_ (s.out.h.len Tryz.underlying42) rfl (vr_ (d_ (by omega) (by omega)) rfl (vr_ (run_geq ..) rfl (u9_ rfl (λh6=>?_) (λh6=>?_))));have h6:(6:Int)<=(s.out.l.length:Int)+((E_ who mail.l:Nat):Int):=dT h6;exact uA_ (h1 λh=>by have:=h.2.2;omega).symm;have h6:¬(6:Int)<=(s.out.l.length:Int)+((E_ who mail.l:Nat):Int):=dF h6;obtain ⟨m,rest,hin,rfl⟩:=h2 ⟨hon,λh=>h0 (by rw [h];rfl),by omega⟩;have hlt:0<s.inn.l.length:=(by omega);have hm0:s.inn.l[0]'(by omega)=m:=(by simp only [hin,List.getElem_cons_zero]);have hm:m.Sm:=hs.inM m (by rw [hin];exact List.mem_cons_self ..);obtain ⟨r,hr1,hr2⟩:=SlV.slc10 (P:=Tryz.prog) (ti:=(Tryz.prog.info? 54).get!) Tryz.underlying42 (by kernel_rfl) (by kernel_rfl) D_ s.inn.h (k:=.i64) (i:=1) (by omega);have hd:s.inn.l.drop 1=rest:=(by rw [hin];rfl);rw [hd]at hr2;have hrl:rest.length<=1000:=(by rw [hin]at hi;simp at hi;omega);refine vr_ (iaM s.inn (i:=0) hlt) (kN_ v_ _) (va_ (ldM (l:=s.inn.l) (i:=0) (by omega)) rfl (v_ _) (vr_ hr1 (hr2.ok v_) (vr_ (N_ D_ (by decide) (by decide) hr2 (by omega)) (r9_ v_ _) ?_)));rw [hm0];refine vr_ (run_eql ..) rfl (u9_ rfl (λk1=>?_) (λk1=>?_))
  .have k1:m.kind=1:=dT k1;have er:l_ q who s mail now m rest=o_ s rest s.subs s.num (m_ m.id (gT (e_ m.paths.l)).2 0 .nil (.of ((gT (e_ m.paths.l)).1.map (B_ q.im.l)))) mail:=(by unfold l_;rw [if_pos k1]);have h28:=p28 m.paths hm.1;rw [wE_]at h28;obtain ⟨h4,hT⟩:=w3_ (l:=m.paths.l);rw [er];generalize (gT (e_ m.paths.l)).1=ts at*;generalize (gT (e_ m.paths.l)).2=e at*;refine uz_ h28 rfl (by simp only [okL,okC,p_]) ?_;refine uB_ (ι:=Nat) (λi=>[.int .i64 (i:Int),ct_ k_ 3 ((ts.take i).map (B_ q.im.l))]) (λi=>i<=ts.length) (λi=>ts.length-i) 0 (Nat.zero_le _) rfl (λ_ _=>by simp only [okL,okC,ub_ A_]) (λi j _ _ h=>?_) (λi hi'=>?_)
   .have h:=(List.cons.inj h).1;injection h with _ h
    omega
   refine vr_ (t_ ts) rfl (vr_ (run_lss ..) rfl (u9_ rfl (λhc=>?_) (λhc=>?_)))
   .have hc:(i:Int)<(ts.length:Int):=dT hc;have hc:i<ts.length:=(by omega);obtain ⟨ha1,ha2⟩:=TL_addr _ (hT _ (List.getElem_mem hc));obtain ⟨a,ha⟩:=Int.eq_ofNat_of_zero_le ha1;have hai:a<q.im.l.length:=(by omega);have hcell:B_ q.im.l ts[i]=q.im.l[a]:=by unfold B_;rw [ha];show q.im.l.getD a FV.z=_;rw [List.getD_eq_getElem?_getD,List.getElem?_eq_getElem hai];rfl
    (refine vr_ (iaG (SlV.of ts) hc) (kN_ L_ _) (vr_ (faG ts hc) (oG1 ts hc) (vr_ (sT_ Tryz.underlying3 rfl _ _) rfl ?_)))
    have ia:(XOp.iaddr 26).run Tryz.prog [q.im.x,.int .i64 ts[i].addr]=some (.vptr (bq_ k_ (q.im.l.drop a))):=(by rw [ha];exact iaV q.im hai);refine vr_ ia (kN_ A_ _) (va_ (ldV hai) rfl (A_ _) ?_);refine vr_ (t6_ rl_ (by decide) (by decide) ((ts.take i).map (B_ q.im.l)) q.im.l[a] (by rw [List.length_map,List.length_take];omega)) (ub_ A_ _) (vr_ (d_ (by omega) (by omega)) rfl (up_ rfl ⟨i+1,hc,?_,by omega⟩));rw [h_ hc,List.map_append,List.map_singleton,hcell];rfl
   .have hc:¬(i:Int)<(ts.length:Int):=dF hc;have ei:i=ts.length:=(by omega);subst ei;rw [List.take_length]
    (
     refine vr_ (C_ s.out.h) rfl (u9_ rfl (λh0=>?_) (λ_=>?_));have h0:s.out.l.isEmpty=true:=(by simpa using h0);have h0:s.out.l=[]:=List.isEmpty_iff.1 h0;refine uA_ ?_;unfold o_;rw [h0];rfl
     .exact vr_ (N_ D_ (by decide) (by decide) s.out.h (by omega)) (r9_ v_ _) (vr_ (Z_ D_ (by decide) (by decide) s.out.l (m_ m.id e 0 .nil (.of (ts.map (B_ q.im.l)))) (by omega)) (ub_ v_ _) (uA_ rfl)))
  have k1:¬m.kind=1:=dF k1;refine vr_ (run_eql ..) rfl (u9_ rfl (λk2=>?_) (λk2=>?_))
  .have k2:m.kind=2:=dT k2;have h29:=p29 q who m hm mail hl;have er:l_ q who s mail now m rest=match n_ q who mail.l m with
    | .ok l=>.tup [.agg (i_ { s with inn:=.v rest }),ct_ encR 4 l,.bool true]
    | .error e=>o_ s rest s.subs s.num (m_ m.id e 0 .nil .nil) mail:=by unfold l_;rw [if_neg k1,if_pos k2]
   rw [er];unfold uu_ at h29;cases e:n_ q who mail.l m with
   |ok l=>rw [e]at h29;exact uz_ h29 rfl (by simp only [okL,okC,ub_ r_]) (vr_ U_ rfl (u9_ (t:=true) rfl (λ_=>uA_ rfl) (λh=>by cases h)))
   |error e'=>
    rw [e]at h29;refine uz_ h29 rfl (by simp only [okL,okC,hx]) (vr_ (wc_ (v5_ e)) rfl (u9_ (t:=false) rfl (λh=>by cases h) (λ_=>?_)))
    (
     refine vr_ (C_ s.out.h) rfl (u9_ rfl (λh0=>?_) (λ_=>?_));have h0:s.out.l.isEmpty=true:=(by simpa using h0);have h0:s.out.l=[]:=List.isEmpty_iff.1 h0;refine uA_ ?_;unfold o_;rw [h0];rfl
     .exact vr_ (N_ D_ (by decide) (by decide) s.out.h (by omega)) (r9_ v_ _) (vr_ (Z_ D_ (by decide) (by decide) s.out.l (m_ m.id e' 0 .nil .nil) (by omega)) (ub_ v_ _) (uA_ rfl)))
  have k2:¬m.kind=2:=dF k2;refine vr_ (run_eql ..) rfl (u9_ rfl (λk3=>?_) (λk3=>?_))
  .have k3:m.kind=3:=dT k3;obtain ⟨h5,r,hr,h30⟩:=xH_ m.n;have er:l_ q who s mail now m rest=o_ s rest s.subs s.num (m_ m.id (pgF m.n).2.2 (pgF m.n).2.1 (.of ((pgF m.n).1.map GG.path)) .nil) mail:=(by unfold l_;rw [if_neg k1,if_neg k2,if_pos k3]);rw [er];generalize (pgF m.n).1=ts at*;generalize (pgF m.n).2.1=nx at*;generalize (pgF m.n).2.2=e at*;refine uz_ h30 rfl (by simp only [okL,okC,hr.ok L_]) ?_;refine uB_ (ι:=Nat) (λi=>[.int .i64 (i:Int),ct_ I_ 1 ((ts.take i).map GG.path)]) (λi=>i<=ts.length) (λi=>ts.length-i) 0 (Nat.zero_le _) rfl (λ_ _=>by simp only [okL,okC,ub_ okP]) (λi j _ _ h=>?_) (λi hi'=>?_)
   .have h:=(List.cons.inj h).1;injection h with _ h
    omega
   refine vr_ (wN_ hr) rfl (vr_ (run_lss ..) rfl (u9_ rfl (λhc=>?_) (λhc=>?_)));have hc:(i:Int)<(ts.length:Int):=dT hc;have hc:i<ts.length:=(by omega);refine vr_ (iaG hr hc) (kN_ L_ _) (vr_ (xt_ ts hc) (oG0 ts hc) (vr_ (sT_ Tryz.underlying9 rfl _ _) rfl ?_));refine vr_ (t6_ vZ_ (by decide) (by decide) ((ts.take i).map GG.path) ts[i].path (by rw [List.length_map,List.length_take];omega)) (ub_ okP _) (vr_ (d_ (by omega) (by omega)) rfl (up_ rfl ⟨i+1,hc,?_,by omega⟩));rw [h_ hc,List.map_append];rfl
   .have hc:¬(i:Int)<(ts.length:Int):=dF hc;have ei:i=ts.length:=(by omega);subst ei;rw [List.take_length]
    (
     refine vr_ (C_ s.out.h) rfl (u9_ rfl (λh0=>?_) (λ_=>?_));have h0:s.out.l.isEmpty=true:=(by simpa using h0);have h0:s.out.l=[]:=List.isEmpty_iff.1 h0;refine uA_ ?_;unfold o_;rw [h0];rfl
     .exact vr_ (N_ D_ (by decide) (by decide) s.out.h (by omega)) (r9_ v_ _) (vr_ (Z_ D_ (by decide) (by decide) s.out.l (m_ m.id e nx (.of (ts.map GG.path)) .nil) (by omega)) (ub_ v_ _) (uA_ rfl)))
  have k3:¬m.kind=3:=dF k3;refine vr_ (run_eql ..) rfl (u9_ rfl (λk4=>?_) (λk4=>?_))
  .have k4:m.kind=4:=dT k4;have h31:=p31 { s with inn:=.v rest } hsb m hm now;have er:l_ q who s mail now m rest=match G_ s.subs.l s.num now m with
    | .ok w=>o_ s rest (.of (s.subs.l++[w])) (IntKind.i64.wrap (s.num+1)) (m_ m.id 0 (IntKind.i64.wrap (s.num+1)) .nil .nil) mail
    | .error e=>o_ s rest s.subs s.num (m_ m.id e 0 .nil .nil) mail:=by unfold l_;rw [if_neg k1,if_neg k2,if_neg k3,if_pos k4]
   rw [er];unfold ut_ at h31;cases e:G_ s.subs.l s.num now m with
   |ok w=>
    have e':G_ { s with inn:=.v rest }.subs.l { s with inn:=SV.v (enc:=f_) (w:=12) rest }.num now m=.ok w:=e;rw [e']at h31;refine uz_ h31 rfl (kN_.okL_join (okS _) (v_ _)) ?_
    (
     refine vr_ (C_ s.out.h) rfl (u9_ rfl (λh0=>?_) (λ_=>?_));have h0:s.out.l.isEmpty=true:=(by simpa using h0);have h0:s.out.l=[]:=List.isEmpty_iff.1 h0;refine uA_ ?_;unfold o_;rw [h0];rfl
     .exact vr_ (N_ D_ (by decide) (by decide) s.out.h (by omega)) (r9_ v_ _) (vr_ (Z_ D_ (by decide) (by decide) s.out.l (m_ m.id 0 (IntKind.i64.wrap (s.num+1)) .nil .nil) (by omega)) (ub_ v_ _) (uA_ rfl)))
   |error e1=>
    have e':G_ { s with inn:=.v rest }.subs.l { s with inn:=SV.v (enc:=f_) (w:=12) rest }.num now m=.error e1:=e;rw [e']at h31;refine uz_ h31 rfl (kN_.okL_join (okS _) (v_ _)) ?_
    (
     refine vr_ (C_ s.out.h) rfl (u9_ rfl (λh0=>?_) (λ_=>?_));have h0:s.out.l.isEmpty=true:=(by simpa using h0);have h0:s.out.l=[]:=List.isEmpty_iff.1 h0;refine uA_ ?_;unfold o_;rw [h0];rfl
     .exact vr_ (N_ D_ (by decide) (by decide) s.out.h (by omega)) (r9_ v_ _) (vr_ (Z_ D_ (by decide) (by decide) s.out.l (m_ m.id e1 0 .nil .nil) (by omega)) (ub_ v_ _) (uA_ rfl)))
  have k4:¬m.kind=4:=dF k4;have er:l_ q who s mail now m rest=o_ s rest (.of (T_ m.n s.subs.l)) s.num (m_ m.id (eo_ m.n s.subs.l) 0 .nil .nil) mail:=(by unfold l_;rw [if_neg k1,if_neg k2,if_neg k3,if_neg k4]);rw [er];refine uB_ (ι:=Nat) (λi=>[.int .i64 (i:Int),ct_ g_ 15 (T_ m.n (s.subs.l.take i)),.int .i64 (eo_ m.n (s.subs.l.take i))]) (λi=>i<=s.subs.l.length) (λi=>s.subs.l.length-i) 0 (Nat.zero_le _) rfl (λ_ _=>by simp only [okL,okC,ub_ M_]) (λi j _ _ h=>?_) (λi hi'=>?_)
  .have h:=(List.cons.inj h).1;injection h with _ h
   omega
  refine vr_ (s.subs.h.len Tryz.underlying43) rfl (vr_ (run_lss ..) rfl (u9_ rfl (λhc=>?_) (λhc=>?_)));have hc:(i:Int)<(s.subs.l.length:Int):=dT hc;have hc:i<s.subs.l.length:=(by omega);have hel:(T_ m.n (s.subs.l.take i)).length<=i:=(by unfold T_;exact Nat.le_trans (List.length_filter_le ..) (by rw [List.length_take];omega));refine vr_ (iaS s.subs hc) (kN_ M_ _) (vr_ (faS _ hc) (oS _ hc) (vr_ (sT_ Tryz.underlying3 rfl _ _) rfl (vr_ (run_eql ..) rfl (u9_ rfl (λhe=>?_) (λhe=>?_)))));have he:s.subs.l[i].num=m.n:=dT he;have e1:T_ m.n (s.subs.l.take (i+1))=T_ m.n (s.subs.l.take i):=(by unfold T_;rw [h_ hc,List.filter_append];simp [he]);have e2:eo_ m.n (s.subs.l.take (i+1))=0:=(by unfold eo_;rw [h_ hc,List.any_append];simp [he]);refine vr_ (d_ (by omega) (by omega)) rfl (up_ rfl ⟨i+1,hc,?_,by omega⟩);rw [e1,e2];rfl;have he:¬s.subs.l[i].num=m.n:=dF he;have e1:T_ m.n (s.subs.l.take (i+1))=T_ m.n (s.subs.l.take i)++[s.subs.l[i]]:=(by unfold T_;rw [h_ hc,List.filter_append];simp [he]);have e2:eo_ m.n (s.subs.l.take (i+1))=eo_ m.n (s.subs.l.take i):=(by unfold eo_;rw [h_ hc,List.any_append];simp [he]);refine vr_ (iaS s.subs hc) (kN_ M_ _) (va_ (ldS hc) rfl (M_ _) (vr_ (t6_ oo_ (by decide) (by decide) (T_ m.n (s.subs.l.take i)) s.subs.l[i] (by omega)) (ub_ M_ _) (vr_ (d_ (by omega) (by omega)) rfl (up_ rfl ⟨i+1,hc,?_,by omega⟩))));rw [e1,e2];rfl
  .have hc:¬(i:Int)<(s.subs.l.length:Int):=dF hc;have ei:i=s.subs.l.length:=(by omega);subst ei;rw [List.take_length]
   (
    refine vr_ (C_ s.out.h) rfl (u9_ rfl (λh0=>?_) (λ_=>?_));have h0:s.out.l.isEmpty=true:=(by simpa using h0);have h0:s.out.l=[]:=List.isEmpty_iff.1 h0;refine uA_ ?_;unfold o_;rw [h0];rfl
    .exact vr_ (N_ D_ (by decide) (by decide) s.out.h (by omega)) (r9_ v_ _) (vr_ (Z_ D_ (by decide) (by decide) s.out.l (m_ m.id (eo_ m.n s.subs.l) 0 .nil .nil) (by omega)) (ub_ v_ _) (uA_ rfl)))
 refine ⟨λh=>walk _ (nrO _ _ _ hx) (λ_=>rfl) (λh'=>absurd h' h),λm rest h hin=>walk _ (wA_ ..) (λh'=>absurd h h') λ_=>⟨m,rest,hin,rfl⟩⟩
theorem v0_ {cx cy:Bool} {b:Bool}:(XOp.bin .neq 4 cx cy).run Tryz.prog [.bool b,.bool b]=some (.bool false):=by cases b<;>rfl
theorem xq_ {cx cy:Bool} {b:Bool}:(XOp.bin .eql 4 cx cy).run Tryz.prog [.bool b,.bool b]=some (.bool true):=by cases b<;>rfl
theorem yt_ {cx cy:Bool} {s:List UInt8}:(XOp.bin .neq 9 cx cy).run Tryz.prog [.str s,.str s]=some (.bool false):=by rw [vm_,decide_eq_true rfl];rfl
theorem iaT (s:SV bt_ 5) {i:Nat} (h:i<s.l.length):(XOp.iaddr 98).run Tryz.prog [s.x,.int .i64 (i:Int)]=some (.vptr (bq_ bt_ (s.l.drop i))):=s.h.ia (e:=150) Tryz.underlying98 (ti:=(Tryz.prog.info? 150).get!) (by kernel_rfl) (by kernel_rfl) w8_ h .i64
theorem ldT {l:List GT} {i:Nat} (h:i<l.length):(XOp.load 150).run Tryz.prog [.vptr (bq_ bt_ (l.drop i))]=some (.agg (bt_ l[i])):=sS_ (ti:=(Tryz.prog.info? 150).get!) Tryz.underlying150 rfl (by kernel_rfl) (by kernel_rfl) w8_ h
def c64:VC:=⟨⟨[],[]⟩,[(63,[none])],[],0,true,[]⟩
def t64:VT:=
 (K Qw [64,69] 74
 (.ite 74
 (K Zz [68,73] 75
 (.ite 75
 (.call 63 [.agg [65,66,67],.agg [70,71,72]] 76 [none]
 (.done (76)))
 (.done (.bool false))))
 (.done (.bool false))))
def c34:VC:=⟨⟨[],[]⟩,[(63,[none]),(64,[none])],[(0,[⟨[(5,.slx 0 0 0),(3,.ptr 1 0),(2,.ptr 0 0)],[(1,[79,80,81,82,83,84,85,86,87,88,89,90,91,92,93]),(0,[64,65,66,67,68,69,70,71,72,73,74,75,76,77,78])],2,1,[],[],[]⟩])],0,true,[]⟩
def t34:VT:=
 (K Q4 [64,79] 94
 (.ite 94
 (.done (.bool false))
 (K Q4 [65,80] 95
 (.ite 95
 (.done (.bool false))
 (K Ze [66,81] 96
 (.ite 96
 (.done (.bool false))
 (K Ze [67,82] 97
 (.ite 97
 (.done (.bool false))
 (.call 63 [.agg [68,69,70],.agg [83,84,85]] 98 [none]
 (K Q3 [98] 99
 (.ite 99
 (.done (.bool false))
 (K Q4 [71,86] 100
 (.ite 100
 (.done (.bool false))
 (K Qs [72,87] 101
 (.ite 101
 (.done (.bool false))
 (K Qs [73,88] 102
 (.ite 102
 (.done (.bool false))
 (.call 63 [.agg [74,75,76],.agg [89,90,91]] 103 [none]
 (K Q3 [103] 104
 (.ite 104
 (.done (.bool false))
 (K Q4 [77,92] 105
 (.ite 105
 (.done (.bool false))
 (K (.len 98) [78] 106
 (K (.len 98) [93] 107
 (K Q4 [106,107] 108
 (.ite 108
 (.done (.bool false))
 (.loop 109 0 [J 0]
 (.cons 1
 (K (.len 98) [78] 110
 (K Q2 [109,110] 111
 (.ite 111
 (K (.iaddr 98) [78,109] 112
 (.lt (.load 150) [112] 113 (some 5)
 (K (.iaddr 98) [93,109] 118
 (.lt (.load 150) [118] 119 (some 5)
 (.call 64 [.agg [113,114,115,116,117],.agg [119,120,121,122,123]] 124 [none]
 (K Q3 [124] 125
 (.ite 125
 (.done (.bool false))
 (K Q0 [109,J 1] 126
 (.again 0 0 [126])))))))))
 (.done (.bool true)))))
 .nil))))))))))))))))))))))))))))
def c62:VC:=⟨⟨[],[]⟩,[(63,[none]),(35,[none])],[(0,[⟨[(5,.slx 0 0 0),(3,.ptr 1 0),(2,.ptr 0 0)],[(1,[76,77,78,79,80,81,82,83,84,85,86,87]),(0,[64,65,66,67,68,69,70,71,72,73,74,75])],2,1,[],[],[]⟩])],0,true,[]⟩
def t62:VT:=
 (K Q4 [64,76] 88
 (.ite 88
 (.done (.bool false))
 (K Q4 [65,77] 89
 (.ite 89
 (.done (.bool false))
 (K (.bin .neq 27 false false) [66,78] 90
 (.ite 90
 (.done (.bool false))
 (K Q4 [67,79] 91
 (.ite 91
 (.done (.bool false))
 (K Q4 [68,80] 92
 (.ite 92
 (.done (.bool false))
 (K Qs [69,81] 93
 (.ite 93
 (.done (.bool false))
 (K Ze [70,82] 94
 (.ite 94
 (.done (.bool false))
 (.call 63 [.agg [71,72,73],.agg [83,84,85]] 95 [none]
 (K Q3 [95] 96
 (.ite 96
 (.done (.bool false))
 (.call 35 [75,87] 97 [none]
 (K Q3 [97] 98
 (.ite 98
 (.done (.bool false))
 (K Qr [74] 99
 (K Qr [86] 100
 (K Q4 [99,100] 101
 (.ite 101
 (.done (.bool false))
 (.loop 102 0 [J 0]
 (.cons 1
 (K Qr [74] 103
 (K Q2 [102,103] 104
 (.ite 104
 (K Qg [74,102] 105
 (K Q6 [105] 106
 (K Qg [86,102] 107
 (K Q6 [107] 108
 (K (.bin .neq 9 false false) [106,108] 109
 (.ite 109
 (.done (.bool false))
 (K Q0 [102,J 1] 110
 (.again 0 0 [110]))))))))
 (.done (.bool true)))))
 .nil))))))))))))))))))))))))))
def c33:VC:=⟨⟨[],[]⟩,[(62,[none])],[(0,[⟨[(5,.slx 0 0 0),(1,65),(0,64)],[],0,1,[],[],[]⟩])],0,true,[]⟩
def t33:VT:=
 (K Q7 [64] 66
 (K Q7 [65] 67
 (K Q4 [66,67] 68
 (.ite 68
 (.done (.bool false))
 (.loop 69 0 [J 0]
 (.cons 1
 (K Q7 [64] 70
 (K Q2 [69,70] 71
 (.ite 71
 (K Qk [64,69] 72
 (.lt Z3 [72] 73 (some 12)
 (K Qk [65,69] 85
 (.lt Z3 [85] 86 (some 12)
 (.call 62 [.agg [73,74,75,76,77,78,79,80,81,82,83,84],.agg [86,87,88,89,90,91,92,93,94,95,96,97]] 98 [none]
 (K Q3 [98] 99
 (.ite 99
 (.done (.bool false))
 (K Q0 [69,J 1] 100
 (.again 0 0 [100])))))))))
 (.done (.bool true)))))
 .nil))))))
def c32:VC:=⟨⟨[],[]⟩,[],[],0,true,[]⟩
def t32:VT:=
 (K Zz [65,67] 68
 (.ite 68
 (K (.conv 22 9) [64] 69
 (K (.conv 22 9) [66] 70
 (K Zi [69,70] 71
 (.done (71)))))
 (.done (.bool false))))
def c15:VC:=⟨⟨[],[]⟩,[(32,[none]),(33,[none]),(34,[none])],[(0,[⟨[(5,.slx 0 0 0),(3,.ptr 1 0),(2,.ptr 0 0)],[(1,[72,73,74,75,76,77,78,79]),(0,[64,65,66,67,68,69,70,71])],2,1,[],[],[]⟩])],0,true,[]⟩
def t15:VT:=
 (K Qs [64,72] 80
 (.ite 80
 (.done (.bool false))
 (K Ze [65,73] 81
 (.ite 81
 (.done (.bool false))
 (.call 32 [.agg [66,67],.agg [74,75]] 82 [none]
 (K Q3 [82] 83
 (.ite 83
 (.done (.bool false))
 (.call 33 [68,76] 84 [none]
 (K Q3 [84] 85
 (.ite 85
 (.done (.bool false))
 (.call 33 [69,77] 86 [none]
 (K Q3 [86] 87
 (.ite 87
 (.done (.bool false))
 (K Q4 [71,79] 88
 (.ite 88
 (.done (.bool false))
 (K Qm [70] 89
 (K Qm [78] 90
 (K Q4 [89,90] 91
 (.ite 91
 (.done (.bool false))
 (.loop 92 0 [J 0]
 (.cons 1
 (K Qm [70] 93
 (K Q2 [92,93] 94
 (.ite 94
 (K Zd [70,92] 95
 (.lt Zn [95] 96 (some 15)
 (K Zd [78,92] 111
 (.lt Zn [111] 112 (some 15)
 (.call 34 [.agg [96,97,98,99,100,101,102,103,104,105,106,107,108,109,110],.agg [112,113,114,115,116,117,118,119,120,121,122,123,124,125,126]] 127 [none]
 (K Q3 [127] 128
 (.ite 128
 (.done (.bool false))
 (K Q0 [92,J 1] 129
 (.again 0 0 [129])))))))))
 (.done (.bool true)))))
 .nil)))))))))))))))))))))
theorem p64 (t:GT):ju_ Tryz.prog 64 [.agg (bt_ t),.agg (bt_ t)] (.bool true):=by refine t3_ (sh:=[some 5,some 5]) (ls:=bt_ t++bt_ t) (c:=c64) (n:=300) (t:=t64) mo ov rfl (kN_.okL_join (okT t) (okT t)) rfl (λY _=>vy_ _) rfl (by kernel_rfl) λY hf hg=>?_;unfold t64;exact vr_ U_ rfl (u9_ (t:=true) rfl (λ_=>vr_ xq_ rfl (u9_ (t:=true) rfl (λ_=>uz_ (p63 t.v) rfl rfl (uA_ rfl)) (λh=>by cases h))) (λh=>by cases h))
theorem p34 (w:GW) (hw:w.Sm):ju_ Tryz.prog 34 [.agg (g_ w),.agg (g_ w)] (.bool true):=by
 refine t3_ (sh:=[some 15,some 15]) (ls:=g_ w++g_ w) (c:=c34) (n:=300) (t:=t34) mo ov rfl (kN_.okL_join (M_ w) (M_ w)) rfl (λY _=>vy_ _) rfl (by kernel_rfl) λY hf hg=>?_;have hw:w.queue.l.length<=1000:=hw;unfold t34
 (refine vr_ c_ rfl (u9_ (t:=false) rfl (λh=>by cases h) (λ_=>?_)))
 (refine vr_ c_ rfl (u9_ (t:=false) rfl (λh=>by cases h) (λ_=>?_)))
 (refine vr_ c_ rfl (u9_ (t:=false) rfl (λh=>by cases h) (λ_=>?_)))
 (refine vr_ c_ rfl (u9_ (t:=false) rfl (λh=>by cases h) (λ_=>?_)))
 refine uz_ (p63 w.band) rfl rfl ?_
 (refine vr_ (vn_ ..) rfl (u9_ (t:=false) rfl (λh=>by cases h) (λ_=>?_)))
 (refine vr_ c_ rfl (u9_ (t:=false) rfl (λh=>by cases h) (λ_=>?_)))
 (refine vr_ v0_ rfl (u9_ (t:=false) rfl (λh=>by cases h) (λ_=>?_)))
 (refine vr_ v0_ rfl (u9_ (t:=false) rfl (λh=>by cases h) (λ_=>?_)))
 refine uz_ (p63 w.last) rfl rfl ?_
 (refine vr_ (vn_ ..) rfl (u9_ (t:=false) rfl (λh=>by cases h) (λ_=>?_)))
 (refine vr_ c_ rfl (u9_ (t:=false) rfl (λh=>by cases h) (λ_=>?_)))
 refine vr_ (w.queue.h.len Tryz.underlying98) rfl (vr_ (w.queue.h.len Tryz.underlying98) rfl ?_)
 (refine vr_ c_ rfl (u9_ (t:=false) rfl (λh=>by cases h) (λ_=>?_)))
 (
  refine uB_ (ι:=Nat) (λi=>[.int .i64 (i:Int)]) (λi=>i<=(w.queue.l).length) (λi=>(w.queue.l).length-i) 0 (Nat.zero_le _) rfl (λ_ _=>rfl) (λi j _ _ h=>?_) (λi hi=>?_)
  .have h:=(List.cons.inj h).1;injection h with _ h
   omega)
 refine vr_ (w.queue.h.len Tryz.underlying98) rfl (vr_ (run_lss ..) rfl (u9_ rfl (λhc=>?_) (λ_=>uA_ rfl)));have hc:(i:Int)<(w.queue.l.length:Int):=dT hc;have hc:i<w.queue.l.length:=by omega
 refine vr_ (iaT w.queue hc) (kN_ okT _) (va_ (ldT hc) rfl (okT _) (vr_ (iaT w.queue hc) (kN_ okT _) (va_ (ldT hc) rfl (okT _) (uz_ (p64 _) rfl rfl ?_))))
 (refine vr_ (vn_ ..) rfl (u9_ (t:=false) rfl (λh=>by cases h) (λ_=>?_)))
 exact vr_ (d_ (by omega) (by omega)) rfl (up_ rfl ⟨i+1,hc,rfl,by omega⟩)
theorem p62 (m:GM) (hm:m.Sm):ju_ Tryz.prog 62 [.agg (f_ m),.agg (f_ m)] (.bool true):=by
 refine t3_ (sh:=[some 12,some 12]) (ls:=f_ m++f_ m) (c:=c62) (n:=300) (t:=t62) mo ov rfl (kN_.okL_join (v_ m) (v_ m)) rfl (λY _=>vy_ _) rfl (by kernel_rfl) λY hf hg=>?_;have hp:=hm.1;unfold t62
 (refine vr_ c_ rfl (u9_ (t:=false) rfl (λh=>by cases h) (λ_=>?_)))
 (refine vr_ c_ rfl (u9_ (t:=false) rfl (λh=>by cases h) (λ_=>?_)))
 (refine vr_ c_ rfl (u9_ (t:=false) rfl (λh=>by cases h) (λ_=>?_)))
 (refine vr_ c_ rfl (u9_ (t:=false) rfl (λh=>by cases h) (λ_=>?_)))
 (refine vr_ c_ rfl (u9_ (t:=false) rfl (λh=>by cases h) (λ_=>?_)))
 (refine vr_ v0_ rfl (u9_ (t:=false) rfl (λh=>by cases h) (λ_=>?_)))
 (refine vr_ c_ rfl (u9_ (t:=false) rfl (λh=>by cases h) (λ_=>?_)))
 refine uz_ (p63 m.band) rfl rfl ?_
 (refine vr_ (vn_ ..) rfl (u9_ (t:=false) rfl (λh=>by cases h) (λ_=>?_)))
 refine uz_ (p35 m.vals.h m.vals.h hm.2) rfl rfl ?_
 (refine vr_ (vn_ ..) rfl (u9_ (t:=false) rfl (λh=>by cases h) (λ_=>?_)))
 refine vr_ (m.paths.h.len Tryz.underlying52) rfl (vr_ (m.paths.h.len Tryz.underlying52) rfl ?_)
 (refine vr_ c_ rfl (u9_ (t:=false) rfl (λh=>by cases h) (λ_=>?_)))
 (
  refine uB_ (ι:=Nat) (λi=>[.int .i64 (i:Int)]) (λi=>i<=(m.paths.l).length) (λi=>(m.paths.l).length-i) 0 (Nat.zero_le _) rfl (λ_ _=>rfl) (λi j _ _ h=>?_) (λi hi=>?_)
  .have h:=(List.cons.inj h).1;injection h with _ h
   omega)
 refine vr_ (m.paths.h.len Tryz.underlying52) rfl (vr_ (run_lss ..) rfl (u9_ rfl (λhc=>?_) (λ_=>uA_ rfl)));have hc:(i:Int)<(m.paths.l.length:Int):=dT hc;have hc:i<m.paths.l.length:=by omega
 refine vr_ (iaP m.paths hc) (kN_ okP _) (vr_ (ldP hc) rfl (vr_ (iaP m.paths hc) (kN_ okP _) (vr_ (ldP hc) rfl ?_)))
 (refine vr_ yt_ rfl (u9_ (t:=false) rfl (λh=>by cases h) (λ_=>?_)))
 exact vr_ (d_ (by omega) (by omega)) rfl (up_ rfl ⟨i+1,hc,rfl,by omega⟩)
theorem p33 {l:List GM} {x y:AV} (hx:SlV f_ 12 l x) (hy:SlV f_ 12 l y) (hl:l.length<=1000) (hr:∀r∈l,r.Sm):ju_ Tryz.prog 33 [x,y] (.bool true):=by
 refine t3_ (sh:=[none,none]) (ls:=[x,y]) (c:=c33) (n:=300) (t:=t33) mo ov (by rcases hx with rfl|⟨_,rfl⟩<;>rcases hy with rfl|⟨_,rfl⟩<;>rfl) (by simp only [okL,hx.ok v_,hy.ok v_]) rfl (λY _=>vy_ _) rfl (by kernel_rfl) λY hf hg=>?_;unfold t33;refine vr_ (hx.len Tryz.underlying42) rfl (vr_ (hy.len Tryz.underlying42) rfl ?_)
 (refine vr_ c_ rfl (u9_ (t:=false) rfl (λh=>by cases h) (λ_=>?_)))
 (
  refine uB_ (ι:=Nat) (λi=>[.int .i64 (i:Int)]) (λi=>i<=(l).length) (λi=>(l).length-i) 0 (Nat.zero_le _) rfl (λ_ _=>rfl) (λi j _ _ h=>?_) (λi hi=>?_)
  .have h:=(List.cons.inj h).1;injection h with _ h
   omega)
 refine vr_ (hx.len Tryz.underlying42) rfl (vr_ (run_lss ..) rfl (u9_ rfl (λhc=>?_) (λ_=>uA_ rfl)));have hc:(i:Int)<(l.length:Int):=dT hc;have hc:i<l.length:=by omega
 refine vr_ (iaM ⟨l,x,hx⟩ hc) (kN_ v_ _) (va_ (ldM hc) rfl (v_ _) (vr_ (iaM ⟨l,y,hy⟩ hc) (kN_ v_ _) (va_ (ldM hc) rfl (v_ _) (uz_ (p62 l[i] (hr _ (List.getElem_mem hc))) rfl rfl ?_))))
 (refine vr_ (vn_ ..) rfl (u9_ (t:=false) rfl (λh=>by cases h) (λ_=>?_)))
 exact vr_ (d_ (by omega) (by omega)) rfl (up_ rfl ⟨i+1,hc,rfl,by omega⟩)
theorem cvN:(XOp.conv 22 9).run Tryz.prog [.nsl]=some (.str []):=by kernel_rfl
theorem p32 (b:Bool):ju_ Tryz.prog 32 [.agg [.nsl,.bool b],.agg [.nsl,.bool b]] (.bool true):=by refine t3_ (sh:=[some 2,some 2]) (ls:=[.nsl,.bool b,.nsl,.bool b]) (c:=c32) (n:=300) (t:=t32) mo ov rfl rfl rfl (λY _=>vy_ _) rfl (by kernel_rfl) λY hf hg=>?_;unfold t32;exact vr_ xq_ rfl (u9_ (t:=true) rfl (λ_=>vr_ cvN rfl (vr_ cvN rfl (vr_ (vl_ ..) rfl (uA_ rfl)))) (λh=>by cases h))
structure LEq (s t:GS):Prop where
 on:t.on=s.on
 seen:t.seen=s.seen
 b:s.b=.nil
 b2:t.b=.nil
 bad:t.bad=s.bad
 inn:t.inn.l=s.inn.l
 out:t.out.l=s.out.l
 subs:t.subs.l=s.subs.l
 num:t.num=s.num
theorem p15 {s t:GS} (h:LEq s t) (hs:s.Sm):ju_ Tryz.prog 15 [.agg (i_ s),.agg (i_ t)] (.bool true):=by
 obtain ⟨on,seen,b,bad,inn,out,subs,num⟩:=s;obtain ⟨on',seen',b',bad',⟨li,xi,hi⟩,⟨lo,xo,ho⟩,⟨ls,xs,hsb⟩,num'⟩:=t;obtain ⟨h1,h2,h3,h3',h4,h5,h6,h7,h8⟩:=h;simp only at h1 h2 h3 h3' h4 h5 h6 h7 h8;subst h1 h2 h3 h3' h4 h5 h6 h7 h8;have k1:inn.l.length<=1000:=hs.inn;have k2:out.l.length<=1000:=hs.out;have k3:subs.l.length<=1000:=hs.subs;refine t3_ (sh:=[some 8,some 8]) (ls:=i_ ⟨on',seen',.nil,bad',inn,out,subs,num'⟩++i_ ⟨on',seen',.nil,bad',⟨_,xi,hi⟩,⟨_,xo,ho⟩,⟨_,xs,hsb⟩,num'⟩) (c:=c15) (n:=300) (t:=t15) mo ov rfl (kN_.okL_join (okS _) (okS _)) rfl (λY _=>vy_ _) rfl (by kernel_rfl) λY hf hg=>?_;unfold t15
 (refine vr_ v0_ rfl (u9_ (t:=false) rfl (λh=>by cases h) (λ_=>?_)))
 (refine vr_ c_ rfl (u9_ (t:=false) rfl (λh=>by cases h) (λ_=>?_)))
 refine uz_ (p32 bad') rfl rfl ?_
 (refine vr_ (vn_ ..) rfl (u9_ (t:=false) rfl (λh=>by cases h) (λ_=>?_)))
 refine uz_ (p33 inn.h hi k1 hs.inM) rfl rfl ?_
 (refine vr_ (vn_ ..) rfl (u9_ (t:=false) rfl (λh=>by cases h) (λ_=>?_)))
 refine uz_ (p33 out.h ho k2 hs.outM) rfl rfl ?_
 (refine vr_ (vn_ ..) rfl (u9_ (t:=false) rfl (λh=>by cases h) (λ_=>?_)))
 (refine vr_ c_ rfl (u9_ (t:=false) rfl (λh=>by cases h) (λ_=>?_)))
 refine vr_ (subs.h.len Tryz.underlying43) rfl (vr_ (hsb.len Tryz.underlying43) rfl ?_)
 (refine vr_ c_ rfl (u9_ (t:=false) rfl (λh=>by cases h) (λ_=>?_)))
 (
  refine uB_ (ι:=Nat) (λi=>[.int .i64 (i:Int)]) (λi=>i<=(subs.l).length) (λi=>(subs.l).length-i) 0 (Nat.zero_le _) rfl (λ_ _=>rfl) (λi j _ _ h=>?_) (λi hi=>?_)
  .have h:=(List.cons.inj h).1;injection h with _ h
   omega)
 refine vr_ (subs.h.len Tryz.underlying43) rfl (vr_ (run_lss ..) rfl (u9_ rfl (λhc=>?_) (λ_=>uA_ rfl)));have hc:(i:Int)<(subs.l.length:Int):=dT hc;have hc:i<subs.l.length:=by omega
 refine vr_ (iaS subs hc) (kN_ M_ _) (va_ (ldS hc) rfl (M_ _) (vr_ (iaS ⟨subs.l,xs,hsb⟩ hc) (kN_ M_ _) (va_ (ldS hc) rfl (M_ _) (uz_ (p34 subs.l[i] (hs.subM _ (List.getElem_mem hc))) rfl rfl ?_))))
 (refine vr_ (vn_ ..) rfl (u9_ (t:=false) rfl (λh=>by cases h) (λ_=>?_)))
 exact vr_ (d_ (by omega) (by omega)) rfl (up_ rfl ⟨i+1,hc,rfl,by omega⟩)
structure AF where
 a:GM
 waits:Bool
 subs:List GW
 num:Int
 mail:List GR
def anF (q:ST) (who:Int) (subs:List GW) (num:Int) (mail:List GR) (now:Int) (m:GM):AF:=
 if m.kind=1 then match e_ m.paths.l with
  | .ok ts=>⟨m_ m.id 0 0 .nil (.of (ts.map (B_ q.im.l))),false,subs,num,mail⟩
  | .error e=>⟨m_ m.id e 0 .nil .nil,false,subs,num,mail⟩
 else if m.kind=2 then match n_ q who mail m with
  | .ok l=>⟨m_ m.id 0 0 .nil .nil,true,subs,num,l⟩
  | .error e=>⟨m_ m.id e 0 .nil .nil,false,subs,num,mail⟩
 else if m.kind=3 then if Q_ m.n=true then ⟨m_ m.id 0 (H_ TL m.n.toNat) (.of ((w_ TL m.n.toNat).map GG.path)) .nil,false,subs,num,mail⟩else ⟨m_ m.id 1 0 .nil .nil,false,subs,num,mail⟩
 else if m.kind=4 then match G_ subs num now m with
  | .ok w=>⟨m_ m.id 0 (IntKind.i64.wrap (num+1)) .nil .nil,false,subs++[w],IntKind.i64.wrap (num+1),mail⟩
  | .error e=>⟨m_ m.id e 0 .nil .nil,false,subs,num,mail⟩
 else if m.kind=5 then match F_ m.n subs with
  |some i=>⟨m_ m.id 0 0 .nil .nil,false,subs.eraseIdx i,num,mail⟩
  |none=>⟨m_ m.id 11 0 .nil .nil,false,subs,num,mail⟩
 else ⟨m_ m.id 0 0 .nil .nil,false,subs,num,mail⟩
structure Left (s x:GS) (rest:List GM) (ml:SV encR 4) (f:AF):Prop where
 on:x.on=s.on
 seen:x.seen=s.seen
 b:x.b=s.b
 bad:x.bad=s.bad
 inn:x.inn.l=rest
 out:x.out.l=if f.waits=true then s.out.l else s.out.l++[f.a]
 subs:x.subs.l=f.subs
 num:x.num=f.num
 mail:ml.l=f.mail
theorem wu_ (q:ST) (who:Int) (s:GS) (mail:SV encR 4) (now:Int) (m:GM):(b_ q who s mail now m).a=(anF q who s.subs.l s.num mail.l now m).a/\(b_ q who s mail now m).waits=(anF q who s.subs.l s.num mail.l now m).waits/\(b_ q who s mail now m).subs.l=(anF q who s.subs.l s.num mail.l now m).subs/\(b_ q who s mail now m).num=(anF q who s.subs.l s.num mail.l now m).num/\(b_ q who s mail now m).mail.l=(anF q who s.subs.l s.num mail.l now m).mail:=by
 unfold b_ anF;by_cases k1:m.kind=1
 .simp only [if_pos k1];cases e_ m.paths.l<;>exact ⟨rfl,rfl,rfl,rfl,rfl⟩
 simp only [if_neg k1];by_cases k2:m.kind=2
 .simp only [if_pos k2];cases n_ q who mail.l m<;>exact ⟨rfl,rfl,rfl,rfl,rfl⟩
 simp only [if_neg k2];by_cases k3:m.kind=3
 .simp only [if_pos k3];cases Q_ m.n<;>exact ⟨rfl,rfl,rfl,rfl,rfl⟩
 simp only [if_neg k3];by_cases k4:m.kind=4
 .simp only [if_pos k4];cases G_ s.subs.l s.num now m<;>exact ⟨rfl,rfl,rfl,rfl,rfl⟩
 simp only [if_neg k4];by_cases k5:m.kind=5
 .simp only [if_pos k5];cases F_ m.n s.subs.l<;>exact ⟨rfl,rfl,rfl,rfl,rfl⟩
 simp only [if_neg k5];refine ⟨?_,?_,?_,?_,?_⟩<;>first|rfl|trivial
theorem vY_ (q:ST) (who:Int) (s:GS) (t:SV f_ 12) (mail:SV encR 4) (now:Int) (m:GM):Left s (P_ s t (b_ q who s (.of mail.l) now m)) t.l (b_ q who s (.of mail.l) now m).mail (anF q who s.subs.l s.num mail.l now m):=by obtain ⟨h1,h2,h3,h4,h5⟩:=wu_ q who s (.of mail.l) now m;have e:(SV.of (enc:=encR) (w:=4) mail.l).l=mail.l:=rfl;rw [e]at h1 h2 h3 h4 h5;exact ⟨rfl,rfl,rfl,rfl,rfl,by rw [sb_,h1,h2],h3,h4,h5⟩
theorem u6_ (n:Int):∀l:List GW,F_ n l=none->T_ n l=l/\eo_ n l=11
 |[],_=>⟨rfl,rfl⟩
 |w::r,h=>by
  unfold F_ at h;split at h;cases h
  .rename_i hw;have h':F_ n r=none:=by
    cases e:F_ n r with
    |none=>rfl
    |some j=>rw [e]at h;cases h
   obtain ⟨h1,h2⟩:=u6_ n r h';unfold T_ eo_ at*;simp [hw,h1];simpa using h2
theorem u7_ (n:Int):∀(l:List GW) (i:Nat),(l.map GW.num).Nodup->F_ n l=some i->T_ n l=l.eraseIdx i/\eo_ n l=0
 |[],_,_,h=>by cases h
 |w::r,i,hd,h=>by
  rw [List.map_cons,List.nodup_cons]at hd;unfold F_ at h;split at h;rename_i hw;cases h;refine ⟨?_,by unfold eo_;simp [hw]⟩;have:∀x∈r,¬x.num=n:=λx hx e=>hd.1 (by rw [hw,←e];exact List.mem_map_of_mem hx);unfold T_;simp [hw];exact this
  .rename_i hw;cases e:F_ n r with
   |none=>rw [e]at h;cases h
   |some j=>rw [e]at h;cases h;obtain ⟨h1,h2⟩:=u7_ n r j hd.2 e;unfold T_ eo_ at*;simp [hw,h1];simpa using h2
theorem wf_ (q:ST) (who:Int) (s:GS) (mail:SV encR 4) (now:Int) (m:GM) (rest:List GM) (hk:1<=m.kind/\m.kind<=5) (hn:(s.subs.l.map GW.num).Nodup):
  ∃(x:GS) (b:SV encR 4),l_ q who s mail now m rest=.tup [.agg (i_ x),b.x,.bool true]/\Left s x rest b (anF q who s.subs.l s.num mail.l now m):=by
 unfold l_ anF;by_cases k1:m.kind=1
 .simp only [if_pos k1];cases e_ m.paths.l<;>exact ⟨_,_,rfl,rfl,rfl,rfl,rfl,rfl,rfl,rfl,rfl,rfl⟩
 simp only [if_neg k1];by_cases k2:m.kind=2
 .simp only [if_pos k2];cases n_ q who mail.l m with
  |ok l=>exact ⟨_,.of l,rfl,rfl,rfl,rfl,rfl,rfl,rfl,rfl,rfl,rfl⟩
  |error e=>exact ⟨_,_,rfl,rfl,rfl,rfl,rfl,rfl,rfl,rfl,rfl,rfl⟩
 simp only [if_neg k2];by_cases k3:m.kind=3
 .simp only [if_pos k3];unfold pgF;cases Q_ m.n<;>exact ⟨_,_,rfl,rfl,rfl,rfl,rfl,rfl,rfl,rfl,rfl,rfl⟩
 simp only [if_neg k3];by_cases k4:m.kind=4
 .simp only [if_pos k4];cases G_ s.subs.l s.num now m<;>exact ⟨_,_,rfl,rfl,rfl,rfl,rfl,rfl,rfl,rfl,rfl,rfl⟩
 simp only [if_neg k4];have k5:m.kind=5:=by omega
 simp only [if_pos k5];cases e:F_ m.n s.subs.l with
 |none=>obtain ⟨h1,h2⟩:=u6_ _ _ e;rw [h1,h2];exact ⟨_,_,rfl,rfl,rfl,rfl,rfl,rfl,rfl,rfl,rfl,rfl⟩
 |some i=>obtain ⟨h1,h2⟩:=u7_ _ _ _ hn e;rw [h1,h2];exact ⟨_,_,rfl,rfl,rfl,rfl,rfl,rfl,rfl,rfl,rfl,rfl⟩
theorem Left.leq {s t x y:GS} {rest:List GM} {a b:SV encR 4} {f:AF} (h:LEq s t) (h1:Left s x rest a f) (h2:Left t y rest b f):LEq x y/\b.l=a.l:=
 ⟨⟨by rw [h2.on,h.on,h1.on],by rw [h2.seen,h.seen,h1.seen],by rw [h1.b,h.b],by rw [h2.b,h.b2],by rw [h2.bad,h.bad,h1.bad],by rw [h2.inn,h1.inn],by rw [h2.out,h.out,h1.out],by rw [h2.subs,h1.subs],by rw [h2.num,h1.num]⟩,by rw [h2.mail,h1.mail]⟩
theorem yr_ (l:List FV) {i:Nat} (hi:i<l.length):(XOp.ldx 3 3 0).run Tryz.prog [ct_ k_ 3 l,.int .i64 (i:Int)]=some (.int .i64 l[i].k):=
 wl_ Tryz.underlying3 rfl rl_ hi (off:=0) (p:=[]) (r:=[.int .i64 l[i].i,fv l[i].f]) rfl rfl .i64
theorem yT_ (l:List FV) {i:Nat} (hi:i<l.length) (y:FV):(XOp.stx 38 3 0).run Tryz.prog [ct_ k_ 3 l,.int .i64 (i:Int),.agg (k_ y)]=some (ct_ k_ 3 (l.set i y)):=
 run_stx (ti:=(Tryz.prog.info? 38).get!) rl_ hi (off:=0) (v:=.agg (k_ y)) (p:=[]) (q:=k_ l[i]) (r:=[]) (xs:=k_ y) (y:=y) rfl (λe=>by cases e) (by kernel_rfl) (by kernel_rfl) (X_ (A_ y)) (by rw [List.append_nil];rfl) rfl rfl (by rw [List.append_nil];rfl) .i64
theorem wn_ {a b:List FV} (h:a.length=b.length):(some (ct_ k_ 3 a)=some .nsl/\some (ct_ k_ 3 b)=some .nsl)\/∃n z cs ds,some (ct_ k_ 3 a)=some (.vsl n z cs)/\some (ct_ k_ 3 b)=some (.vsl n z ds):=by
 cases a with
 |nil=>cases b with
  |nil=>exact .inl ⟨rfl,rfl⟩
  |cons y s=>cases h
 |cons x r=>cases b with
  |nil=>cases h
  |cons y s=>refine .inr ⟨r.length+1,3,bq_ k_ (x::r),bq_ k_ (y::s),rfl,?_⟩;show some (AV.vsl (s.length+1) 3 _)=_;rw [show s.length=r.length from (Nat.succ.inj h).symm]
theorem uV_ {α:Type}:∀(l:List α) (i:Nat) (a:α),(l.set i a).drop (i+1)=l.drop (i+1)
 |[],_,_=>rfl
 |x::r,0,a=>rfl
 |x::r,i+1,a=>by show (r.set i a).drop (i+1)=r.drop (i+1);exact uV_ r i a
def qe (im:List FV) (e:Int):ST:={ q0 with im:=.of im,err:=e }
structure Nums (l:List GW) (n:Int):Prop where
 nd:(l.map GW.num).Nodup
 le:∀w∈l,w.num<=n
theorem wt_ {q:ST} {who:Int} {subs:List GW} {num:Int} {mail:List GR} {now:Int} {m:GM} (h:Nums subs num) (h0:0<=num/\num<=1000):Nums (anF q who subs num mail now m).subs (anF q who subs num mail now m).num/\num<=(anF q who subs num mail now m).num/\(anF q who subs num mail now m).num<=num+1:=by
 have same:Nums subs num/\num<=num/\num<=num+1:=⟨h,by omega,by omega⟩;unfold anF;split
 .split<;>exact same
 split
 .split<;>exact same
 split
 .split<;>exact same
 split
 .split
  .rename_i w e;have hw:w.num=num+1:=by unfold G_ at e;split at e;cases e;split at e;cases e;split at e;cases e;cases e;show IntKind.i64.wrap (num+1)=num+1;rw [vI_ (by omega) (by omega)]
   have e1:IntKind.i64.wrap (num+1)=num+1:=(by rw [vI_ (by omega) (by omega)]);simp only [e1];refine ⟨⟨?_,λx hx=>?_⟩,by omega,by omega⟩;rw [List.map_append,List.nodup_append];refine ⟨h.nd,by simp,λa ha b hb=>?_⟩;obtain ⟨x,hx,rfl⟩:=List.mem_map.1 ha;simp only [List.map_cons,List.map_nil,List.mem_singleton]at hb;have:=h.le x hx;omega;rcases List.mem_append.1 hx with hx|hx;have:=h.le x hx;omega;rw [List.mem_singleton.1 hx];omega
  exact same
 split;split;rename_i i e;exact ⟨⟨h.nd.sublist ((List.eraseIdx_sublist ..).map _),λw hw=>h.le w (List.mem_of_mem_eraseIdx hw)⟩,by show num<=num;omega,by show num<=num+1;omega⟩;exact same;exact same
structure Inv (i:Nat) (s t:GS) (m n:SV encR 4):Prop where
 le:LEq s t
 mm:n.l=m.l
 sm:s.Sm
 msm:∀w∈m.l,w.Sm
 ks:∀x∈s.inn.l,1<=x.kind/\x.kind<=5
 nd:Nums s.subs.l s.num
 nm:0<=s.num/\s.num<=(i:Int)
 ml:m.l.length<=2+i
 ol:s.out.l.length<=i
 sl:s.subs.l.length<=i
theorem LEq.smT {s t:GS} (h:LEq s t) (hs:s.Sm):t.Sm:=
 ⟨by rw [h.b2];exact Nat.zero_le _,by rw [h.inn];exact hs.inn,by rw [h.out];exact hs.out,by rw [h.subs];exact hs.subs,by rw [h.inn];exact hs.inM,by rw [h.out];exact hs.outM,by rw [h.subs];exact hs.subM⟩
theorem wz_ {s t:GS} (h:LEq s t) {m n:SV encR 4} (hm:n.l=m.l) (who:Int):ep_ who t n.l↔ep_ who s m.l:=by unfold ep_;rw [h.on,h.inn,h.out,hm]
theorem Inv.turn {i:Nat} {s t:GS} {m n:SV encR 4} (h:Inv i s t m n) (hi:i<12) {q:ST} (hq:9<=q.im.l.length) (who:Int):
  ∃(x y:GS) (a b:SV encR 4) (ok:Bool),ju_ Tryz.prog 13 [VARS,.agg (S_ q),.int .i64 who,.agg (i_ s),m.x,.int .i64 (i:Int)] (.tup [.agg (i_ x),a.x,.bool ok])/\
   ju_ Tryz.prog 14 [VARS,.agg (S_ q),.int .i64 who,.agg (i_ t),n.x,.int .i64 (i:Int)] (.tup [.agg (i_ y),b.x,.bool ok])/\Inv (i+1) x y a b:=by
 have hml:=h.ml;have hol:=h.ol;have hsl:=h.sl;have ht:=h.le.smT h.sm;have hnl:n.l.length<=1000:=by rw [h.mm];omega
 obtain ⟨s1,s2⟩:=p13 q who s h.sm m (by omega) h.msm (i:Int);obtain ⟨t1,t2⟩:=p14 q hq who t ht n hnl (i:Int);have hmm:=wz_ h.le h.mm who;by_cases hmay:ep_ who s m.l
 .obtain ⟨tt,mm,hin,h13⟩:=s2 hmay;have hin':t.inn.l=mm::tt.l:=(by rw [h.le.inn,hin]);have h14:=t2 mm tt.l (hmm.2 hmay) hin';have hk:=h.ks mm (by rw [hin];exact List.mem_cons_self ..);obtain ⟨y,b,e,hl2⟩:=wf_ q who t n (i:Int) mm tt.l hk (by rw [h.le.subs];exact h.nd.nd);rw [e]at h14;have hl1:=vY_ q who s tt m (i:Int) mm;have hao:=vR_ q who s h.sm.subM (.of m.l) (i:Int) mm (h.sm.inM _ (by rw [hin];exact List.mem_cons_self ..));rw [h.le.subs,h.le.num,h.mm]at hl2;obtain ⟨n1,n2,n3⟩:=wt_ (q:=q) (who:=who) (mail:=m.l) (now:=(i:Int)) (m:=mm) h.nd (by have:=h.nm;omega);have hsub:=hl1.subs;have hnum:=hl1.num;have hsm:=v2_ h.sm hin hao (by omega) (by omega);have hlen:=hao.len;have hout:=sb_ s tt (b_ q who s (.of m.l) (i:Int) mm);rw [←hsub,←hnum]at n1;rw [←hnum]at n2 n3;obtain ⟨g1,g2⟩:=hl1.leq h.le hl2;have hnm:=h.nm;generalize b_ q who s (.of m.l) (i:Int) mm=an at*;refine ⟨_,y,_,b,true,h13,h14,g1,g2,hsm,λw hw=>?_,λx hx=>h.ks x (by rw [hin];exact List.mem_cons_of_mem _ hx),n1,by omega,?_,?_,by show an.subs.l.length<=i+1;omega⟩
  .cases hwt:an.waits with
   |true=>obtain ⟨w',e1,_,_,e4⟩:=hao.yes hwt;rw [e1]at hw;rcases List.mem_append.1 hw with hw|hw;exact h.msm w hw;rw [List.mem_singleton.1 hw];exact e4
   |false=>rw [hao.no hwt]at hw;exact h.msm w hw
  .cases hwt:an.waits with
   |true=>obtain ⟨w',e1,_,_,e4⟩:=hao.yes hwt;rw [e1,List.length_append,List.length_singleton];show m.l.length+1<=_;omega
   |false=>rw [hao.no hwt];show m.l.length<=_;omega
  rw [hout];split;omega;rw [List.length_append,List.length_singleton];omega
 refine ⟨_,t,.of m.l,n,false,s1 hmay,t1 (λh'=>hmay (hmm.1 h')),⟨h.le.on,h.le.seen,h.le.b,h.le.b2,h.le.bad,h.le.inn,h.le.out,h.le.subs,h.le.num⟩,h.mm,⟨h.sm.b,h.sm.inn,h.sm.out,h.sm.subs,h.sm.inM,h.sm.outM,h.sm.subM⟩,h.msm,h.ks,h.nd,?_,?_,?_,?_⟩;have:=h.nm;show 0<=s.num/\s.num<=((i+1:Nat):Int);omega;show m.l.length<=_;omega;show s.out.l.length<=_;omega;show s.subs.l.length<=_;omega
theorem Inv.drop {i:Nat} {s t:GS} {m n:SV encR 4} (h:Inv i s t m n) {a b:SV f_ 12} (ha:a.l=s.out.l.drop 1) (hb:b.l=t.out.l.drop 1):Inv i { s with out:=a } { t with out:=b } m n:=by
 have hol:=h.ol;have hso:=h.sm.out;have hal:a.l.length<=s.out.l.length:=by rw [ha,List.length_drop];omega
 refine ⟨⟨h.le.on,h.le.seen,h.le.b,h.le.b2,h.le.bad,h.le.inn,by show b.l=a.l;rw [ha,hb,h.le.out],h.le.subs,h.le.num⟩,h.mm,⟨h.sm.b,h.sm.inn,by show a.l.length<=1000;omega,h.sm.subs,h.sm.inM,λx hx=>h.sm.outM x ?_,h.sm.subM⟩,h.msm,h.ks,h.nd,h.nm,h.ml,by show a.l.length<=i;omega,h.sl⟩;have hx:x∈a.l:=hx;rw [ha]at hx;exact List.mem_of_mem_drop hx
structure Asked (i:Nat) (ms:List GM):Prop where
 len:ms.length=i
 ok:∀m∈ms,m.Sm/\1<=m.kind/\m.kind<=5
theorem Asked.next {i:Nat} {ms:List GM} (h:Asked i ms) {id:Int} {m:GM} (hm:Ask id m):Asked (i+1) (ms++[m]):=by refine ⟨by rw [List.length_append,List.length_singleton,h.len],λx hx=>?_⟩;rcases List.mem_append.1 hx with hx|hx;exact h.ok x hx;rw [List.mem_singleton.1 hx];exact hm.2
theorem xv_ {ms:List GM} (h:Asked 10 ms) {l:List GR} (hl:l.length<=2) (hr:∀w∈l,w.Sm):Inv 0 (tm_ ms) (tm_ ms) (.of l) (.of l):=
 ⟨⟨rfl,rfl,rfl,rfl,rfl,rfl,rfl,rfl,rfl⟩,rfl,⟨Nat.zero_le _,by show ms.length<=1000;rw [h.len];decide,Nat.zero_le _,Nat.zero_le _,λx hx=>(h.ok x hx).1,λ_ h=>(List.not_mem_nil h).elim,λ_ h=>(List.not_mem_nil h).elim⟩,hr,λx hx=>(h.ok x hx).2,⟨List.nodup_nil,λ_ h=>(List.not_mem_nil h).elim⟩,⟨by show (0:Int)<=0;omega,by show (0:Int)<=0;omega⟩,hl,Nat.zero_le _,Nat.zero_le _⟩
theorem xA_ (m n:SV encR 4) (s t:GS) (i:Int):okL (.int .i64 i::n.x::m.x::(i_ s++i_ t))=true:=by rw [aY_,aY_,aY_,n.ok r_,m.ok r_,kN_.okL_join (okS s) (okS t)];rfl
theorem k_im0:∀f∈im0,f.k=1\/f.k=2\/f.k=5:=by decide
def c3:VC:=⟨⟨[],[]⟩,[(6,[none]),(7,[none,(some 13)]),(13,[(some 8),none,none]),(14,[(some 8),none,none]),(15,[none]),(16,[none])],[(10012,[⟨[],[],0,0,[],[],[(10,3)]⟩]),(10021,[⟨[],[],0,0,[],[],[(15,0)]⟩]),(10025,[⟨[],[],0,0,[],[],[(14,4)]⟩]),(0,[⟨[(12,.slx 0 0 0),(10,.ptr 0 0),(11,.ptr 1 0),(2,66),(0,64),(3,67),(9,74)],[(0,[75,76,77,.slx 2 3 1,79,80,81,82,83,84,85,86,87]),(1,[65,.slx 2 0 0])],3,3,[⟨2,3,1,0,(some 3)⟩],[],[]⟩]),(2,[⟨[(16,.slx 0 0 0),(13,.ptr 3 0),(15,.slx 6 4 1),(14,.ptr 5 0),(3,67),(10,.ptr 0 0),(9,74)],[(3,[64,.slx 2 0 0]),(5,[.bool true,J 0,.nsl,.bool false,.nsl,.nsl,.nsl,J 0]),(0,[75,76,77,91,79,80,81,82,83,84,85,.slx 3 0 0,87])],7,4,[⟨6,4,1,15,none⟩],[],[]⟩]),(4,[⟨[(17,.slx 0 0 0),(14,.ptr 5 0),(13,.ptr 3 0),(3,67),(10,.ptr 0 0),(9,74),(15,102)],[(5,[.bool true,J 0,.nsl,.bool false,.slx 6 12 1,.nsl,.nsl,J 0]),(3,[64,.slx 2 0 0]),(0,[75,76,77,91,79,80,81,82,83,84,85,104,87])],7,3,[⟨6,12,1,5,(some 4)⟩],[],[]⟩]),(6,[⟨[(14,.ptr 5 0),(18,.ptr 7 0),(20,.slx 0 0 0),(19,.slx 1 0 0),(3,67),(10,.ptr 0 0),(9,74),(15,.slx 2 0 0)],[(5,[.slx 3 0 0,.slx 4 0 0,.slx 5 0 0,.slx 6 0 0,.slx 7 0 0,.slx 8 0 0,.slx 9 0 0,.slx 10 0 0]),(7,[.slx 11 0 0,.slx 12 0 0,.slx 13 0 0,.slx 14 0 0,.slx 15 0 0,.slx 16 0 0,.slx 17 0 0,.slx 18 0 0]),(0,[75,76,77,91,79,80,81,82,83,84,85,104,87])],8,19,[],[],[]⟩])],0,true,[(8,ft8),(9,ft9),(11,ft11),(12,ft12)]⟩
def t3:VT:=
 (.call 6 [] 68 [none]
 (K Q3 [68] 69
 (.ite 69
 (.done (.bool false))
 (K Qx [64] 70
 (K Q9 [70,J 100] 71
 (.ite 71
 (.done (.bool true))
 (K Qx [65] 72
 (K Q9 [72,J 20] 73
 (.ite 73
 (.done (.bool true))
 (.call 7 [] 74 [none,(some 13)]
 (.callF 8 ft8 [65] 88
 (.cons 0
 (K Qq [.vsl 0 3 [],78] 89
 (.loop 90 0 [J 0,89,J 0]
 (.cons 3
 (K Qo [91] 93
 (K Q2 [90,93] 94
 (.ite 94
 (K .inb [91,90] 95
 (K (.ldx 3 3 0) [91,95] 96
 (.callF 9 ft9 [65,92,96] 97
 (.cons 4
 (K .inb [91,90] 104
 (K (.stx 38 3 0) [91,104,.agg [100,101,102]] 105
 (K Q0 [90,J 1] 106
 (.chk (.same 91 105)
 (.again 0 0 [106,105,103])))))
 .nil))))
 (.ite 66
 (.callF 8 ft8 [64] 95
 (.cons 0
 (.callF 11 ft11 [64,J 0,J 3] 96
 (.cons 2
 (.loop 101 0 [99,.nsl,100,J 5]
 (.cons 4
 (K Q9 [101,J 0] 105
 (.ite 105
 (.callF 11 ft11 [64,103,J 4] 106
 (.cons 2
 (K Z5 [J 40,101] 111
 (K Ql [102,.agg [109,111,.nsl,.nsl]] 112
 (K Qp [101,J 1] 113
 (.again 1 0 [113,112,110,104]))))
 .nil))
 (.loop 106 0 [J 0,.nsl,103]
 (.cons 3
 (K Qe [106,J 10] 109
 (.ite 109
 (.callF 12 ft12 [64,108,106] 110
 (.cons 13
 (K Qa [107,.agg [113,114,115,116,117,118,119,120,121,122,123,124]] 126
 (K Q0 [106,J 1] 127
 (.again 2 0 [127,126,125])))
 .nil))
 (.loop 110 0 [J 0,102,102,.bool true,J 0,.nsl,.bool false,107,.nsl,.nsl,J 0,.bool true,J 0,.nsl,.bool false,107,.nsl,.nsl,J 0]
 (.cons 19
 (K Qe [110,J 12] 129
 (.ite 129
 (K Qj [67,.int .u8 4] 130
 (K Qh [130] 131
 (.call 13 [74,.agg [75,76,77,91,79,80,81,82,83,84,85,104,87],131,.agg [113,114,115,116,117,118,119,120],112,110] 132 [(some 8),none,none]
 (K Qj [67,.int .u8 4] 142
 (K Qh [142] 143
 (.call 14 [74,.agg [75,76,77,91,79,80,81,82,83,84,85,104,87],143,.agg [121,122,123,124,125,126,127,128],111,110] 144 [(some 8),none,none]
 (K Qs [141,153] 154
 (.ite 154
 (.done (.bool false))
 (.call 15 [.agg [132,133,134,135,136,137,138,139],.agg [144,145,146,147,148,149,150,151]] 155 [none]
 (K Q3 [155] 156
 (.ite 156
 (.done (.bool false))
 (.call 16 [140,152] 157 [none]
 (K Q3 [157] 158
 (.ite 158
 (.done (.bool false))
 (K Zf [110,J 4] 159
 (K Q1 [159,J 3] 160
 (.ite 160
 (K Q7 [149] 161
 (K Q9 [161,J 1] 162
 (.ite 162
 (K Qi [137,J 1] 163
 (K Qi [149,J 1] 164
 (K Q0 [110,J 1] 165
 (.again 3 0 [165,152,140,132,133,134,135,136,163,138,139,144,145,146,147,148,164,150,151]))))
 (K Q0 [110,J 1] 163
 (.again 3 0 [163,152,140,132,133,134,135,136,137,138,139,144,145,146,147,148,149,150,151])))))
 (K Q0 [110,J 1] 161
 (.again 3 0 [161,152,140,132,133,134,135,136,137,138,139,144,145,146,147,148,149,150,151])))))))))))))))))))
 (.done (.bool true))))
 .nil))))
 .nil))))
 .nil))
 .nil))
 .nil))
 (.callF 8 ft8 [64] 95
 (.cons 0
 (.callF 11 ft11 [64,J 0,J 3] 96
 (.cons 2
 (.loop 101 0 [99,.nsl,100,86]
 (.cons 4
 (K Q9 [101,J 0] 105
 (.ite 105
 (.callF 11 ft11 [64,103,J 4] 106
 (.cons 2
 (K Z5 [J 40,101] 111
 (K Ql [102,.agg [109,111,.nsl,.nsl]] 112
 (K Qp [101,J 1] 113
 (.again 1 0 [113,112,110,104]))))
 .nil))
 (.loop 106 0 [J 0,.nsl,103]
 (.cons 3
 (K Qe [106,J 10] 109
 (.ite 109
 (.callF 12 ft12 [64,108,106] 110
 (.cons 13
 (K Qa [107,.agg [113,114,115,116,117,118,119,120,121,122,123,124]] 126
 (K Q0 [106,J 1] 127
 (.again 2 0 [127,126,125])))
 .nil))
 (.loop 110 0 [J 0,102,102,.bool true,J 0,.nsl,.bool false,107,.nsl,.nsl,J 0,.bool true,J 0,.nsl,.bool false,107,.nsl,.nsl,J 0]
 (.cons 19
 (K Qe [110,J 12] 129
 (.ite 129
 (K Qj [67,.int .u8 4] 130
 (K Qh [130] 131
 (.call 13 [74,.agg [75,76,77,91,79,80,81,82,83,84,85,104,87],131,.agg [113,114,115,116,117,118,119,120],112,110] 132 [(some 8),none,none]
 (K Qj [67,.int .u8 4] 142
 (K Qh [142] 143
 (.call 14 [74,.agg [75,76,77,91,79,80,81,82,83,84,85,104,87],143,.agg [121,122,123,124,125,126,127,128],111,110] 144 [(some 8),none,none]
 (K Qs [141,153] 154
 (.ite 154
 (.done (.bool false))
 (.call 15 [.agg [132,133,134,135,136,137,138,139],.agg [144,145,146,147,148,149,150,151]] 155 [none]
 (K Q3 [155] 156
 (.ite 156
 (.done (.bool false))
 (.call 16 [140,152] 157 [none]
 (K Q3 [157] 158
 (.ite 158
 (.done (.bool false))
 (K Zf [110,J 4] 159
 (K Q1 [159,J 3] 160
 (.ite 160
 (K Q7 [149] 161
 (K Q9 [161,J 1] 162
 (.ite 162
 (K Qi [137,J 1] 163
 (K Qi [149,J 1] 164
 (K Q0 [110,J 1] 165
 (.again 3 0 [165,152,140,132,133,134,135,136,163,138,139,144,145,146,147,148,164,150,151]))))
 (K Q0 [110,J 1] 163
 (.again 3 0 [163,152,140,132,133,134,135,136,137,138,139,144,145,146,147,148,149,150,151])))))
 (K Q0 [110,J 1] 161
 (.again 3 0 [161,152,140,132,133,134,135,136,137,138,139,144,145,146,147,148,149,150,151])))))))))))))))))))
 (.done (.bool true))))
 .nil))))
 .nil))))
 .nil))
 .nil))
 .nil))))))
 .nil)))
 .nil))))))))))))
theorem p3 {l l2:List UInt8} {a a2:AV} (hp:Pk l a) (hp2:Pk l2 a2) (st:Bool) (w:Nat) (hw:w<256):ju_ Tryz.prog 3 [a,a2,.bool st,.int .u8 (w:Int)] (.bool true):=by
 have hA:=hp.1.ok oH_;have hA2:=hp2.1.ok oH_;refine t3_ (sh:=[none,none,none,none]) (ls:=[a,a2,.bool st,.int .u8 (w:Int)]) (c:=c3) (n:=300) (t:=t3) mo ov rfl (by simp only [okL,okC,hA,hA2]) rfl (λY _=>vy_ _) rfl (by kernel_rfl) λY hf hg=>?_;unfold t3;obtain ⟨wq,hwq⟩:∃wq,wq=w%4:=⟨_,rfl⟩;have hR:∀(t:TypeId) (cx cy:Bool),(XOp.bin .rem t cx cy).run Tryz.prog [.int .u8 (w:Int),.int .u8 4]=some (.int .u8 (wq:Int)):=λt cx cy=>by have e:(w:Int).tmod 4=(wq:Int):=(by rw [Int.tmod_eq_emod_of_nonneg (by omega),hwq];rfl);rw [←e];exact uZ_ (by decide) ..
 have hwq4:wq<4:=by omega
 refine uz_ k6 rfl rfl (vr_ (vn_ ..) rfl (u9_ (t:=false) rfl (λh=>by cases h) (λ_=>?_)));refine vr_ (wg_ hp) rfl (vr_ (run_gtr ..) rfl (u9_ rfl (λ_=>uA_ rfl) (λ_=>?_)));refine vr_ (wg_ hp2) rfl (vr_ (run_gtr ..) rfl (u9_ rfl (λ_=>uA_ rfl) (λ_=>?_)));refine uz_ rG_ rfl yz_ ?_;refine a_ (p8 a2 hA2) rfl (by simp only [okL,hA2]) ⟨?_,trivial⟩;rintro ws rfl;refine vr_ (N_ rl_ (by decide) (by decide) (SlV.v im0) (by decide)) (r9_ A_ _) ?_;refine uB_ (ι:=Nat×List FV×Nat) (λx=>[.int .i64 (x.1:Int),ct_ k_ 3 x.2.1,.int .i64 (x.2.2:Int)]) (λx=>x.1<=9/\x.2.1.length=9/\x.2.1.drop x.1=im0.drop x.1/\x.2.2<=l2.length) (λx=>9-x.1) (0,im0,0) ⟨Nat.zero_le _,rfl,rfl,Nat.zero_le _⟩ rfl (λ_ _=>by simp only [okL,okC,ub_ A_]) (λx y _ _ h=>?_) (λx hx=>?_)
 .have h:=(List.cons.inj h).1;injection h with _ h
  omega
 obtain ⟨i,im,n⟩:=x;obtain ⟨h9,himl,hdr,hn⟩:=hx;simp only at h9 himl hdr hn⊢;refine vr_ (t8_ Tryz.underlying26 im) rfl (vr_ (run_lss ..) rfl (u9_ rfl (λhc=>?_) (λ_=>?_)));have hc:(i:Int)<(im.length:Int):=dT hc;have hc:i<im.length:=(by omega);have hc0:i<im0.length:=(by show i<9;omega);have hk:im[i].k=1\/im[i].k=2\/im[i].k=5:=(by rw [List.drop_eq_getElem_cons hc,List.drop_eq_getElem_cons hc0]at hdr;rw [(List.cons.inj hdr).1];exact k_im0 _ (List.getElem_mem hc0));refine vr_ (uw_ hc .i64) rfl (vr_ (yr_ im hc) rfl ?_);refine a_ (p9 hp2 hn hk) rfl (q_ hA2) ⟨?_,trivial⟩;rintro ws ⟨v,n',rfl,hn'⟩;refine vr_ (uw_ hc .i64) rfl (vr_ (yT_ im hc v) (ub_ A_ _) (vr_ (d_ (by omega) (by omega)) rfl (u8_ (wn_ (List.length_set ..).symm) (up_ rfl ⟨(i+1,im.set i v,n'),⟨by show i+1<=9;omega,by show (im.set i v).length=9;rw [List.length_set,himl],?_,hn'⟩,rfl,by show 9-(i+1)<9-i;omega⟩))));show (im.set i v).drop (i+1)=im0.drop (i+1);rw [uV_,←List.drop_drop,hdr,List.drop_drop];clear hn hdr h9;refine u9_ rfl (λ_=>?_) (λ_=>?_)
 ·(
   refine a_ (p8 a hA) rfl (by simp only [okL,hA]) ⟨?_,trivial⟩;rintro ws rfl;refine a_ (p11 (n:=0) (m:=3) hp (Nat.zero_le _) (by decide) (by decide)) rfl (q_ hA) ⟨?_,trivial⟩;rintro ws ⟨v,n,rfl,hv,hn⟩;refine uB_ (ι:=Nat×List GR×Nat) (λx=>[.int .i64 (x.1:Int),ct_ encR 4 x.2.1,.int .i64 (x.2.2:Int),.int .i64 5]) (λx=>x.1+x.2.1.length<=2/\x.2.2<=l.length/\∀w∈x.2.1,w.Sm) (λx=>x.1) (v,[],n) ⟨by show v+0<=2;omega,hn,λ_ h=>(List.not_mem_nil h).elim⟩ rfl (λ_ _=>by simp only [okL,okC,ub_ r_]) (λx y _ _ h=>?_) (λx hx=>?_)
   .have h:=(List.cons.inj h).1;injection h with _ h
    omega
   clear hn hv;obtain ⟨i,ml,n⟩:=x;obtain ⟨hi,hn,hml⟩:=hx;simp only at hi hn hml⊢;refine vr_ (run_gtr ..) rfl (u9_ rfl (λhc=>?_) (λhc=>?_));have hc:(0:Int)<(i:Int):=dT hc;refine a_ (p11 (m:=4) hp hn (by decide) (by decide)) rfl (q_ hA) ⟨?_,trivial⟩;rintro ws ⟨v,n',rfl,hv,hn'⟩;refine vr_ (d_ (by omega) (by omega)) rfl (vr_ (t6_ uo_ (by decide) (by decide) ml ⟨(v:Int),40+(i:Int),.nil,.nil⟩ (by omega)) (ub_ r_ _) (vr_ (tP_ (z:=((i-1:Nat):Int)) (by omega) (by omega) (by omega)) rfl (up_ rfl ⟨(i-1,ml++[_],n'),⟨?_,hn',λw hw=>?_⟩,rfl,by show i-1<i;omega⟩)));show i-1+(ml++[_]).length<=2;rw [List.length_append,List.length_singleton];omega;rcases List.mem_append.1 hw with hw|hw;exact hml w hw;rw [List.mem_singleton.1 hw];exact ⟨Nat.zero_le _,Nat.zero_le _⟩;have hc:¬(0:Int)<(i:Int):=dF hc;obtain rfl:i=0:=(by omega);refine uB_ (ι:=Nat×List GM×Nat) (λx=>[.int .i64 (x.1:Int),ct_ f_ 12 x.2.1,.int .i64 (x.2.2:Int)]) (λx=>x.1<=10/\Asked x.1 x.2.1/\x.2.2<=l.length) (λx=>10-x.1) (0,[],n) ⟨Nat.zero_le _,⟨rfl,λ_ h=>(List.not_mem_nil h).elim⟩,hn⟩ rfl (λ_ _=>by simp only [okL,okC,ub_ v_]) (λx y _ _ h=>?_) (λx hx=>?_)
   .have h:=(List.cons.inj h).1;injection h with _ h
    omega
   clear hn hc;obtain ⟨i,ms,n⟩:=x;obtain ⟨h10,hms,hn⟩:=hx;simp only at h10 hms hn⊢;have hmsl:=hms.len;refine vr_ (run_lss ..) rfl (u9_ rfl (λhc=>?_) (λhc=>?_));have hc:(i:Int)<10:=dT hc;refine a_ (p12 hp hn (i:Int)) rfl (q_ hA) ⟨?_,trivial⟩;rintro ws ⟨m,n',rfl,hm,hn'⟩;exact vr_ (t6_ D_ (by decide) (by decide) ms m (by omega)) (ub_ v_ _) (vr_ (d_ (by omega) (by omega)) rfl (up_ rfl ⟨(i+1,ms++[m],n'),⟨by show i+1<=10;omega,hms.next hm,hn'⟩,rfl,by show 10-(i+1)<10-i;omega⟩));have hc:¬(i:Int)<10:=dF hc;obtain rfl:i=10:=(by omega);clear hn;refine uB_ (ι:=Nat×SV encR 4×SV encR 4×GS×GS) (λx=>.int .i64 (x.1:Int)::x.2.1.x::x.2.2.1.x::(i_ x.2.2.2.1++i_ x.2.2.2.2)) (λx=>x.1<=12/\Inv x.1 x.2.2.2.1 x.2.2.2.2 x.2.2.1 x.2.1) (λx=>12-x.1) (0,.of ml,.of ml,tm_ ms,tm_ ms) ⟨Nat.zero_le _,xv_ hms (by omega) hml⟩ rfl (λx _=>xA_ _ _ _ _ _) (λx y _ _ h=>?_) (λx hx=>?_)
   .have h:=(List.cons.inj h).1;injection h with _ h
    omega
   clear hc;obtain ⟨i,n2,m2,s,t⟩:=x;obtain ⟨h12,hv⟩:=hx;simp only at h12 hv⊢;refine vr_ (run_lss ..) rfl (u9_ rfl (λhc=>?_) (λ_=>uA_ rfl));have hc:(i:Int)<12:=dT hc;obtain ⟨x,y,a',b',ok,h13,h14,hvn⟩:=hv.turn (by omega) (q:=qe im 5) (by show 9<=im.length;omega) (wq:Int);have hol:=hvn.ol;have hml2:=hvn.ml;have hyl:y.out.l=x.out.l:=hvn.le.out;refine vr_ (hR ..) rfl (vr_ (uS_ wq (by omega)) rfl (uz_ h13 rfl (vP_ _ _ _ (a'.ok r_)) ?_));refine vr_ (hR ..) rfl (vr_ (uS_ wq (by omega)) rfl (uz_ h14 rfl (vP_ _ _ _ (b'.ok r_)) ?_))
   (refine vr_ v0_ rfl (u9_ (t:=false) rfl (λh=>by cases h) (λ_=>?_)))
   refine uz_ (p15 hvn.le hvn.sm) rfl rfl ?_
   (refine vr_ (vn_ ..) rfl (u9_ (t:=false) rfl (λh=>by cases h) (λ_=>?_)))
   refine uz_ (p16 a'.h (hvn.mm▸b'.h) (by omega) hvn.msm) rfl rfl ?_
   (refine vr_ (vn_ ..) rfl (u9_ (t:=false) rfl (λh=>by cases h) (λ_=>?_)))
   have again:∀(x y:GS),Inv (i+1) x y a' b'->∃i':Nat×SV encR 4×SV encR 4×GS×GS,(i'.1<=12/\Inv i'.1 i'.2.2.2.1 i'.2.2.2.2 i'.2.2.1 i'.2.1)/\AV.int .i64 ((i:Int)+1)::b'.x::a'.x::(i_ x++i_ y)=AV.int .i64 (i'.1:Int)::i'.2.1.x::i'.2.2.1.x::(i_ i'.2.2.2.1++i_ i'.2.2.2.2)/\12-i'.1<12-i:=λx y h=>⟨(i+1,b',a',x,y),⟨by show i+1<=12;omega,h⟩,rfl,by show 12-(i+1)<12-i;omega⟩;refine vr_ (uZ_ (by decide) ..) rfl (vr_ (run_eql ..) rfl (u9_ rfl (λ_=>?_) (λ_=>?_)));refine vr_ (y.out.h.len Tryz.underlying42) rfl (vr_ (run_gtr ..) rfl (u9_ rfl (λhg=>?_) (λ_=>?_)));have hg:(1:Int)<(y.out.l.length:Int):=dT hg;obtain ⟨r,hr1,hr2⟩:=SlV.slc10 (P:=Tryz.prog) (ti:=(Tryz.prog.info? 54).get!) Tryz.underlying42 (by kernel_rfl) (by kernel_rfl) D_ x.out.h (k:=.i64) (i:=1) (by rw [←hyl];omega);obtain ⟨r',hr1',hr2'⟩:=SlV.slc10 (P:=Tryz.prog) (ti:=(Tryz.prog.info? 54).get!) Tryz.underlying42 (by kernel_rfl) (by kernel_rfl) D_ y.out.h (k:=.i64) (i:=1) (by omega);exact vr_ hr1 (hr2.ok v_) (vr_ hr1' (hr2'.ok v_) (vr_ (d_ (by omega) (by omega)) rfl (up_ rfl (again _ _ (hvn.drop (a:=⟨_,r,hr2⟩) (b:=⟨_,r',hr2'⟩) rfl rfl)))));exact vr_ (d_ (by omega) (by omega)) rfl (up_ rfl (again x y hvn))
   .exact vr_ (d_ (by omega) (by omega)) rfl (up_ rfl (again x y hvn)))
 ·(
   refine a_ (p8 a hA) rfl (by simp only [okL,hA]) ⟨?_,trivial⟩;rintro ws rfl;refine a_ (p11 (n:=0) (m:=3) hp (Nat.zero_le _) (by decide) (by decide)) rfl (q_ hA) ⟨?_,trivial⟩;rintro ws ⟨v,n,rfl,hv,hn⟩;refine uB_ (ι:=Nat×List GR×Nat) (λx=>[.int .i64 (x.1:Int),ct_ encR 4 x.2.1,.int .i64 (x.2.2:Int),.int .i64 0]) (λx=>x.1+x.2.1.length<=2/\x.2.2<=l.length/\∀w∈x.2.1,w.Sm) (λx=>x.1) (v,[],n) ⟨by show v+0<=2;omega,hn,λ_ h=>(List.not_mem_nil h).elim⟩ rfl (λ_ _=>by simp only [okL,okC,ub_ r_]) (λx y _ _ h=>?_) (λx hx=>?_)
   .have h:=(List.cons.inj h).1;injection h with _ h
    omega
   clear hn hv;obtain ⟨i,ml,n⟩:=x;obtain ⟨hi,hn,hml⟩:=hx;simp only at hi hn hml⊢;refine vr_ (run_gtr ..) rfl (u9_ rfl (λhc=>?_) (λhc=>?_));have hc:(0:Int)<(i:Int):=dT hc;refine a_ (p11 (m:=4) hp hn (by decide) (by decide)) rfl (q_ hA) ⟨?_,trivial⟩;rintro ws ⟨v,n',rfl,hv,hn'⟩;refine vr_ (d_ (by omega) (by omega)) rfl (vr_ (t6_ uo_ (by decide) (by decide) ml ⟨(v:Int),40+(i:Int),.nil,.nil⟩ (by omega)) (ub_ r_ _) (vr_ (tP_ (z:=((i-1:Nat):Int)) (by omega) (by omega) (by omega)) rfl (up_ rfl ⟨(i-1,ml++[_],n'),⟨?_,hn',λw hw=>?_⟩,rfl,by show i-1<i;omega⟩)));show i-1+(ml++[_]).length<=2;rw [List.length_append,List.length_singleton];omega;rcases List.mem_append.1 hw with hw|hw;exact hml w hw;rw [List.mem_singleton.1 hw];exact ⟨Nat.zero_le _,Nat.zero_le _⟩;have hc:¬(0:Int)<(i:Int):=dF hc;obtain rfl:i=0:=(by omega);refine uB_ (ι:=Nat×List GM×Nat) (λx=>[.int .i64 (x.1:Int),ct_ f_ 12 x.2.1,.int .i64 (x.2.2:Int)]) (λx=>x.1<=10/\Asked x.1 x.2.1/\x.2.2<=l.length) (λx=>10-x.1) (0,[],n) ⟨Nat.zero_le _,⟨rfl,λ_ h=>(List.not_mem_nil h).elim⟩,hn⟩ rfl (λ_ _=>by simp only [okL,okC,ub_ v_]) (λx y _ _ h=>?_) (λx hx=>?_)
   .have h:=(List.cons.inj h).1;injection h with _ h
    omega
   clear hn hc;obtain ⟨i,ms,n⟩:=x;obtain ⟨h10,hms,hn⟩:=hx;simp only at h10 hms hn⊢;have hmsl:=hms.len;refine vr_ (run_lss ..) rfl (u9_ rfl (λhc=>?_) (λhc=>?_));have hc:(i:Int)<10:=dT hc;refine a_ (p12 hp hn (i:Int)) rfl (q_ hA) ⟨?_,trivial⟩;rintro ws ⟨m,n',rfl,hm,hn'⟩;exact vr_ (t6_ D_ (by decide) (by decide) ms m (by omega)) (ub_ v_ _) (vr_ (d_ (by omega) (by omega)) rfl (up_ rfl ⟨(i+1,ms++[m],n'),⟨by show i+1<=10;omega,hms.next hm,hn'⟩,rfl,by show 10-(i+1)<10-i;omega⟩));have hc:¬(i:Int)<10:=dF hc;obtain rfl:i=10:=(by omega);clear hn;refine uB_ (ι:=Nat×SV encR 4×SV encR 4×GS×GS) (λx=>.int .i64 (x.1:Int)::x.2.1.x::x.2.2.1.x::(i_ x.2.2.2.1++i_ x.2.2.2.2)) (λx=>x.1<=12/\Inv x.1 x.2.2.2.1 x.2.2.2.2 x.2.2.1 x.2.1) (λx=>12-x.1) (0,.of ml,.of ml,tm_ ms,tm_ ms) ⟨Nat.zero_le _,xv_ hms (by omega) hml⟩ rfl (λx _=>xA_ _ _ _ _ _) (λx y _ _ h=>?_) (λx hx=>?_)
   .have h:=(List.cons.inj h).1;injection h with _ h
    omega
   clear hc;obtain ⟨i,n2,m2,s,t⟩:=x;obtain ⟨h12,hv⟩:=hx;simp only at h12 hv⊢;refine vr_ (run_lss ..) rfl (u9_ rfl (λhc=>?_) (λ_=>uA_ rfl));have hc:(i:Int)<12:=dT hc;obtain ⟨x,y,a',b',ok,h13,h14,hvn⟩:=hv.turn (by omega) (q:=qe im 0) (by show 9<=im.length;omega) (wq:Int);have hol:=hvn.ol;have hml2:=hvn.ml;have hyl:y.out.l=x.out.l:=hvn.le.out;refine vr_ (hR ..) rfl (vr_ (uS_ wq (by omega)) rfl (uz_ h13 rfl (vP_ _ _ _ (a'.ok r_)) ?_));refine vr_ (hR ..) rfl (vr_ (uS_ wq (by omega)) rfl (uz_ h14 rfl (vP_ _ _ _ (b'.ok r_)) ?_))
   (refine vr_ v0_ rfl (u9_ (t:=false) rfl (λh=>by cases h) (λ_=>?_)))
   refine uz_ (p15 hvn.le hvn.sm) rfl rfl ?_
   (refine vr_ (vn_ ..) rfl (u9_ (t:=false) rfl (λh=>by cases h) (λ_=>?_)))
   refine uz_ (p16 a'.h (hvn.mm▸b'.h) (by omega) hvn.msm) rfl rfl ?_
   (refine vr_ (vn_ ..) rfl (u9_ (t:=false) rfl (λh=>by cases h) (λ_=>?_)))
   have again:∀(x y:GS),Inv (i+1) x y a' b'->∃i':Nat×SV encR 4×SV encR 4×GS×GS,(i'.1<=12/\Inv i'.1 i'.2.2.2.1 i'.2.2.2.2 i'.2.2.1 i'.2.1)/\AV.int .i64 ((i:Int)+1)::b'.x::a'.x::(i_ x++i_ y)=AV.int .i64 (i'.1:Int)::i'.2.1.x::i'.2.2.1.x::(i_ i'.2.2.2.1++i_ i'.2.2.2.2)/\12-i'.1<12-i:=λx y h=>⟨(i+1,b',a',x,y),⟨by show i+1<=12;omega,h⟩,rfl,by show 12-(i+1)<12-i;omega⟩;refine vr_ (uZ_ (by decide) ..) rfl (vr_ (run_eql ..) rfl (u9_ rfl (λ_=>?_) (λ_=>?_)));refine vr_ (y.out.h.len Tryz.underlying42) rfl (vr_ (run_gtr ..) rfl (u9_ rfl (λhg=>?_) (λ_=>?_)));have hg:(1:Int)<(y.out.l.length:Int):=dT hg;obtain ⟨r,hr1,hr2⟩:=SlV.slc10 (P:=Tryz.prog) (ti:=(Tryz.prog.info? 54).get!) Tryz.underlying42 (by kernel_rfl) (by kernel_rfl) D_ x.out.h (k:=.i64) (i:=1) (by rw [←hyl];omega);obtain ⟨r',hr1',hr2'⟩:=SlV.slc10 (P:=Tryz.prog) (ti:=(Tryz.prog.info? 54).get!) Tryz.underlying42 (by kernel_rfl) (by kernel_rfl) D_ y.out.h (k:=.i64) (i:=1) (by omega);exact vr_ hr1 (hr2.ok v_) (vr_ hr1' (hr2'.ok v_) (vr_ (d_ (by omega) (by omega)) rfl (up_ rfl (again _ _ (hvn.drop (a:=⟨_,r,hr2⟩) (b:=⟨_,r',hr2'⟩) rfl rfl)))));exact vr_ (d_ (by omega) (by omega)) rfl (up_ rfl (again x y hvn))
   .exact vr_ (d_ (by omega) (by omega)) rfl (up_ rfl (again x y hvn)))
theorem q3 {c:Int} (wc:(Lit.int .u8 c).wf=true) {l l2:List UInt8} {a a2:AV} (b:Bool) (sl:SlV R_ 1 l a) (m:l.length<=maxLen) (sl2:SlV R_ 1 l2 a2) (m2:l2.length<=maxLen):ju_ Tryz.prog 3 [a,a2,.bool b,.int .u8 c] (.bool true):=by
 have hw:0<=c/\c<=255:=by simpa [Lit.wf,IntKind.min,IntKind.max,IntKind.bits,IntKind.signed]using wc
 obtain ⟨n,rfl⟩:=Int.eq_ofNat_of_zero_le hw.1;simp only [maxLen]at m m2;exact p3 ⟨sl,by omega⟩ ⟨sl2,by omega⟩ b n (by omega)
end Go.Proofs.YtijpblconliffaaGreatDoor.vars
