/-
  Tags by their paths, pages of them.
-/
import Derived.Test.YtijpblconliffaaGreatDoorFA
import Derived.Test.YtijpblconliffaaGreatDoorRows
import Derived.Shelf.RegionOpenPlain
import Derived.WalkKit
import Derived.Deep.LoopGhost
import Derived.Deep.RegionLaw
import Derived.Lib.Walk
import Derived.Sort.WalkB12
import Derived.Lib.SliceRun
set_option maxRecDepth 100000
set_option linter.unusedVariables false
set_option linter.unusedSimpArgs false
namespace Go.Proofs.YtijpblconliffaaGreatDoor.vars
open Go Go.Sx
abbrev K_ (T:List GG):AV:=ct_ u_ 4 T
abbrev TgV (T:List GG) (a:AV):Prop:=SlV u_ 4 T a
theorem p_ (T:List GG):okC (K_ T)=true:=ub_ L_ T
theorem vd_ {a:AV} (h:okC a=true):okL [a]=true:=by simp only [okL,h]
theorem wi_ (T:List GG):Go.Sx.okI (K_ T)=true:=sH_ (p_ T)
theorem t_ (T:List GG):(XOp.len 87).run Tryz.prog [K_ T]=some (.int .i64 (T.length:Int)):=t8_ Tryz.underlying87 T
theorem iaG {T:List GG} {a:AV} (hx:TgV T a) {i:Nat} (h:i<T.length):(XOp.iaddr 87).run Tryz.prog [a,.int .i64 (i:Int)]=some (.vptr (bq_ u_ (T.drop i))):=hx.ia (e:=91) Tryz.underlying87 (ti:=(Tryz.prog.info? 91).get!) (by kernel_rfl) (by kernel_rfl) un_ h .i64
theorem ldG {T:List GG} {i:Nat} (h:i<T.length):(XOp.load 91).run Tryz.prog [.vptr (bq_ u_ (T.drop i))]=some (.agg (u_ T[i])):=sS_ (ti:=(Tryz.prog.info? 91).get!) Tryz.underlying91 rfl (by kernel_rfl) (by kernel_rfl) un_ h
theorem xY_ {i n:Nat} (h:i<n) (hn:n<=1000):IntKind.i64.wrap ((i:Int)+1)=((i+1:Nat):Int):=by rw [vI_ (by omega) (by omega)];rfl
theorem v9_ {P:Program} {Q:AV->Prop} {L:List (Nat->List AV->Prop)} {Y:Sy} {i:Nat} {a b:VT} (h:Y.v i=some (.bool true)) (h1:VOK P Q L Y a):VOK P Q L Y (.ite i a b):=u9_ h (λ_=>h1) (λh=>by cases h)
theorem v8_ {P:Program} {Q:AV->Prop} {L:List (Nat->List AV->Prop)} {Y:Sy} {i:Nat} {a b:VT} (h:Y.v i=some (.bool false)) (h1:VOK P Q L Y b):VOK P Q L Y (.ite i a b):=u9_ h (λh=>by cases h) (λ_=>h1)
def j_ (s:List UInt8):List GG->GG×Bool
 |[]=>(⟨[],0,0,0⟩,false)
 |t::r=>if t.path=s then (t,true)else j_ s r
theorem V_ (s:List UInt8):∀T:List GG,(∃i,∃h:i<T.length,T[i].path=s/\(∀j (h':j<i),T[j].path≠s)/\j_ s T=(T[i],true))\/((∀j (h:j<T.length),T[j].path≠s)/\j_ s T=(⟨[],0,0,0⟩,false))
 |[]=>.inr ⟨λj h=>by simp at h,rfl⟩
 |t::r=>by
  by_cases ht:t.path=s;exact .inl ⟨0,by simp,ht,λj h=>absurd h (Nat.not_lt_zero _),by simp [j_,ht]⟩
  .rcases V_ s r with ⟨i,h,h1,h2,h3⟩|⟨h1,h2⟩
   .refine .inl ⟨i+1,by simpa using h,h1,λj hj=>?_,by simp only [j_,if_neg ht,h3];rfl⟩;cases j with
    |zero=>exact ht
    |succ j=>exact h2 j (by omega)
   .refine .inr ⟨λj h=>?_,by simp only [j_,if_neg ht,h2]⟩;cases j with
    |zero=>exact ht
    |succ j=>exact h1 j (by simpa using h)
def xn_:VC:=⟨⟨[],[]⟩,[],[],0,true,[]⟩
def wR_:VT:=
 (K Zi [64,68] 69
 (.done (69)))
theorem yL_ (t:GG) (s:List UInt8):ju_ Tryz.prog 152 [.agg (u_ t),.vptr [.str s]] (.bool (decide (t.path=s))):=by refine uU_ (args':=[.agg [.sym 64,.sym 65,.sym 66,.sym 67],.vptr [.sym 68]]) (ls:=u_ t++[.str s]) (c:=xn_) (n:=300) (m:=69) (t:=wR_) mo ov rfl rfl rfl rfl (λY _=>rfl) (λY _=>vy_ _) rfl (by kernel_rfl) λY hf hg=>?_;unfold wR_;exact vr_ (vl_ ..) rfl (uA_ rfl)
def cQ151:VC:=⟨⟨[],[]⟩,[(152,[none])],[(0,[⟨[(8,.slx 0 0 0),(0,64),(1,.fn 152 [.vptr [65]]),(7,66)],[],0,1,[],[],[]⟩])],0,true,[]⟩
def wQ_:VT:=
 (K Q8 [64] 66
 (.loop 67 0 [J 0]
 (.cons 1
 (K Q2 [67,66] 68
 (.ite 68
 (K Qd [64,67] 69
 (.lt Qv [69] 70 (some 4)
 (.call 152 [.agg [70,71,72,73],.vptr [65]] 74 [none]
 (.ite 74
 (.done (67))
 (K Q0 [67,J 1] 75
 (.again 0 0 [75]))))))
 (.done (.int .i64 (-1)))))
 .nil)))
theorem yK_ (T:List GG) (hT:T.length<=1000) (s:List UInt8):((∃i,∃h:i<T.length,T[i].path=s/\(∀j (h':j<i),T[j].path≠s)/\j_ s T=(T[i],true))->∃i,∃h:i<T.length,j_ s T=(T[i],true)/\ju_ Tryz.prog 151 [K_ T,.fn 152 [.vptr [.str s]]] (.int .i64 (i:Int)))/\
  (((∀j (h:j<T.length),T[j].path≠s)/\j_ s T=(⟨[],0,0,0⟩,false))->ju_ Tryz.prog 151 [K_ T,.fn 152 [.vptr [.str s]]] (.int .i64 (-1))):=by
 have key:∀(m:Nat) (hm:m<=T.length) (hne:∀j (h':j<m),T[j].path≠s) (v:Int),((h:m<T.length)->T[m].path=s/\v=m)->(m=T.length->v= -1)->ju_ Tryz.prog 151 [K_ T,.fn 152 [.vptr [.str s]]] (.int .i64 v):=by
  intro m hm hne v h1 h2;refine uU_ (args':=[.sym 64,.fn 152 [.vptr [.sym 65]]]) (ls:=[K_ T,.str s]) (c:=cQ151) (n:=300) (t:=wQ_) mo ov (by simp only [mD_,wi_];rfl) rfl (by simp only [okL,okC,p_]) rfl (λY _=>rfl) (λY _=>vy_ _) rfl (by kernel_rfl) λY hf hg=>?_;unfold wQ_;refine vr_ (t_ T) rfl ?_;refine uB_ (ι:=Nat) (λi=>[.int .i64 i]) (λi=>i<=m) (λi=>T.length-i) 0 (Nat.zero_le _) rfl
   (λi _=>rfl) (λi j _ _ h=>?_) (λi hi=>?_)
  .simp at h;have h:i=j:=by omega
   rw [h]
  refine vr_ (run_lss ..) rfl (u9_ rfl (λhlt=>?_) (λhlt=>uA_ ?_));have hlt:i<T.length:=(by simp only [decide_eq_true_eq]at hlt;omega);refine vr_ (iaG (SlV.of T) hlt) (kN_ L_ _) (va_ (ldG hlt) rfl rfl (uz_ (yL_ T[i] s) rfl rfl (u9_ rfl (λhe=>uA_ ?_) (λhe=>vr_ (run_add ..) rfl (up_ rfl ⟨i+1,?_,?_,by omega⟩)))));have he:T[i].path=s:=of_decide_eq_true he;have him:i=m:=(by rcases Nat.lt_or_ge i m with h|h;exact absurd he (hne i h);omega);subst him;rw [(h1 hlt).2];rfl;have he:¬T[i].path=s:=of_decide_eq_false he;rcases Nat.lt_or_ge i m with h|h;omega;have him:i=m:=(by omega);subst him;exact absurd (h1 hlt).1 he;rw [←xY_ hlt hT];rfl;have he:i=T.length:=(by simp only [decide_eq_false_iff_not]at hlt;omega);rw [h2 (by omega)];rfl
 refine ⟨λ⟨i,h,h1,h2,h3⟩=>⟨i,h,h3,key i (by omega) (λj h'=>h2 j h') i (λ_=>⟨h1,rfl⟩) (λe=>absurd e (Nat.ne_of_lt h))⟩,λ⟨h1,_⟩=>key T.length (Nat.le_refl _) (λj h'=>h1 j h') (-1) (λh=>absurd h (by omega)) (λ_=>rfl)⟩
def yd_:VC:=⟨⟨[],[]⟩,[(135,[none]),(151,[none])],[],0,true,[]⟩
def xU_:VT:=
 (.call 135 [64] 66 [none]
 (.call 151 [66,.fn 152 [.vptr [65]]] 67 [none]
 (K Qe [67,J 0] 68
 (.ite 68
 (.done (.tup [.agg [.str [],J 0,J 0,J 0],.bool false]))
 (K Qd [66,67] 69
 (.lt Qv [69] 70 (some 4)
 (.done (.tup [.agg [70,71,72,73],.bool true]))))))))
theorem yI_ {a:AV} (ha:okC a=true) {T:List GG} (hT:T.length<=1000) (h10:ju_ Tryz.prog 135 [a] (K_ T)) (s:List UInt8):ju_ Tryz.prog 136 [a,.str s] (.tup [.agg (u_ (j_ s T).1),.bool (j_ s T).2]):=by obtain ⟨k1,k2⟩:=yK_ T hT s;refine t3_ (sh:=[none,none]) (ls:=[a,.str s]) (c:=yd_) (n:=300) (t:=xU_) mo ov rfl (by simp only [okL,ha,okC]) rfl (λY _=>vy_ _) rfl (by kernel_rfl) λY hf hg=>?_;unfold xU_;refine uz_ h10 rfl (vd_ (p_ _)) ?_;rcases V_ s T with h|h;obtain ⟨i,hi,hf,p151'⟩:=k1 h;rw [hf];have hlss:(XOp.bin .lss 3 false true).run Tryz.prog [.int .i64 (i:Int),.int .i64 0]=some (.bool false):=(by rw [run_lss,decide_eq_false (by omega)]);exact uz_ p151' rfl rfl (vr_ hlss rfl (v8_ rfl (vr_ (iaG (SlV.of T) hi) (kN_ L_ _) (va_ (ldG hi) rfl rfl (uA_ rfl)))));have p151':=k2 h;rw [h.2];exact uz_ p151' rfl rfl (vr_ (r:=.bool true) (by kernel_rfl) rfl (v9_ rfl (uA_ rfl)))
def c96:VC:=⟨⟨[],[]⟩,[(135,[none])],[],0,true,[]⟩
def t96:VT:=
 (.call 135 [64] 66 [none]
 (K Qe [65,J 0] 67
 (.ite 67
 (.done (.tup [.nsl,J 0,J 1]))
 (K Q8 [66] 68
 (K Zp [65,68] 69
 (.ite 69
 (.done (.tup [.nsl,J 0,J 1]))
 (K Q0 [65,J 5] 70
 (K Q8 [66] 71
 (K Zj [70,71] 72
 (.ite 72
 (K (.slc 87 true false) [66,65] 73
 (.done (.tup [73,J 0,J 0])))
 (K Zk [66,65,70] 73
 (.done (.tup [73,70,J 0])))))))))))))
def H_ (T:List GG) (k:Nat):Int:=if T.length<=k+5 then 0 else ((k+5:Nat):Int)
def w_ (T:List GG) (k:Nat):List GG:=(T.drop k).take 5
theorem p96 {a:AV} (ha:okC a=true) {T:List GG} (hT:T.length<=1000) (p135':ju_ Tryz.prog 135 [a] (K_ T)) {k:Nat} (hk:k<=T.length):
  ∃r,TgV (w_ T k) r/\ju_ Tryz.prog 96 [a,.int .i64 (k:Int)] (.tup [r,.int .i64 (H_ T k),.int .i64 0]):=by
 have hw:IntKind.i64.wrap ((k:Int)+5)=((k+5:Nat):Int):=by rw [vI_ (by omega) (by omega)];rfl
 have hs1:=SlV.slc10 (P:=Tryz.prog) (ti:=(Tryz.prog.info? 91).get!) Tryz.underlying87 (by kernel_rfl) (by kernel_rfl) un_ (SlV.of (w:=4) T) (k:=.i64) (i:=k) hk;by_cases h5:T.length<=k+5;obtain ⟨r,hr,hv⟩:=hs1;have e:T.drop k=w_ T k:=(by unfold w_;rw [List.take_of_length_le];rw [List.length_drop];omega);rw [e]at hv;refine ⟨r,hv,?_⟩;refine t3_ (sh:=[none,none]) (ls:=[a,.int .i64 k]) (c:=c96) (n:=300) (t:=t96) mo ov rfl (by simp only [okL,ha,okC]) (by simp only [aX_,cC_,p1_ (hv.ok L_)]) (λY _=>vy_ _) rfl (by kernel_rfl) λY hf hg=>?_;unfold t96;refine uz_ p135' rfl (vd_ (p_ _)) (vr_ (run_lss ..) rfl (u9_ rfl (λh=>?_) (λ_=>vr_ (t_ T) rfl (vr_ (run_gtr ..) rfl (u9_ rfl (λh=>?_) (λ_=>vr_ (run_add ..) rfl (vr_ (t_ T) rfl (vr_ (run_geq ..) rfl (u9_ rfl (λh=>vr_ hr (hv.ok L_) (uA_ ?_)) (λh=>?_))))))))));simp only [decide_eq_true_eq]at h;omega;simp only [decide_eq_true_eq]at h;omega;show AV.tup [r,.int .i64 0,.int .i64 0]=_;unfold H_;rw [if_pos h5];rw [hw]at h;simp only [decide_eq_false_iff_not]at h;omega;obtain ⟨r,hr,hv⟩:=SlV.slc11 (P:=Tryz.prog) (ti:=(Tryz.prog.info? 91).get!) Tryz.underlying87 (by kernel_rfl) (by kernel_rfl) un_ (SlV.of (w:=4) T) (k:=.i64) (k':=.i64) (i:=k) (j:=k+5) (by omega) (by omega);have e:(T.take (k+5)).drop k=w_ T k:=(by unfold w_;rw [List.drop_take];congr 1;omega);rw [e]at hv;rw [←hw]at hr;refine ⟨r,hv,?_⟩;refine t3_ (sh:=[none,none]) (ls:=[a,.int .i64 k]) (c:=c96) (n:=300) (t:=t96) mo ov rfl (by simp only [okL,ha,okC]) (by simp only [aX_,cC_,p1_ (hv.ok L_)]) (λY _=>vy_ _) rfl (by kernel_rfl) λY hf hg=>?_;unfold t96;refine uz_ p135' rfl (vd_ (p_ _)) (vr_ (run_lss ..) rfl (u9_ rfl (λh=>?_) (λ_=>vr_ (t_ T) rfl (vr_ (run_gtr ..) rfl (u9_ rfl (λh=>?_) (λ_=>vr_ (run_add ..) rfl (vr_ (t_ T) rfl (vr_ (run_geq ..) rfl (u9_ rfl (λh=>?_) (λh=>vr_ hr (hv.ok L_) (uA_ ?_)))))))))));simp only [decide_eq_true_eq]at h;omega;simp only [decide_eq_true_eq]at h;omega;rw [hw]at h;simp only [decide_eq_true_eq]at h;omega;show AV.tup [r,.int .i64 (IntKind.i64.wrap ((k:Int)+5)),.int .i64 0]=_;unfold H_;rw [if_neg h5,hw]
theorem yQ_ {a:AV} (ha:okC a=true) {T:List GG} (p135':ju_ Tryz.prog 135 [a] (K_ T)) {k:Int} (hk:k<0\/(T.length:Int)<k):ju_ Tryz.prog 96 [a,.int .i64 k] (.tup [.nsl,.int .i64 0,.int .i64 1]):=by refine t3_ (sh:=[none,none]) (ls:=[a,.int .i64 k]) (c:=c96) (n:=300) (t:=t96) mo ov rfl (by simp only [okL,ha,okC]) rfl (λY _=>vy_ _) rfl (by kernel_rfl) λY hf hg=>?_;unfold t96;refine uz_ p135' rfl (vd_ (p_ _)) (vr_ (run_lss ..) rfl (u9_ rfl (λh=>uA_ rfl) (λh=>vr_ (t_ T) rfl (vr_ (run_gtr ..) rfl (u9_ rfl (λh=>uA_ rfl) (λh'=>?_))))));simp only [decide_eq_false_iff_not]at h h';omega
structure ST where
 a0:AV
 a1:AV
 a2:AV
 im:SV k_ 3
 a4:AV
 a5:AV
 a6:AV
 a7:AV
 a8:AV
 a9:AV
 a10:AV
 err:Int
 a12:AV
 ok:okL [a0,a1,a2,a4,a5,a6,a7,a8,a9,a10,a12]=true
def bk_ (q:ST) (who:Int) (s:GS) (mail:SV encR 4) (now:Int):List AV:=[VARS,q.a0,q.a1,q.a2,q.im.x,q.a4,q.a5,q.a6,q.a7,q.a8,q.a9,q.a10,.int .i64 q.err,q.a12,.int .i64 who,.bool s.on,.int .i64 s.seen,s.b.x,.bool s.bad,s.inn.x,s.out.x,s.subs.x,.int .i64 s.num,mail.x,.int .i64 now]
theorem z_:okC VARS=true:=by kernel_rfl
theorem okK (q:ST) (who:Int) (s:GS) (mail:SV encR 4) (now:Int):okL (bk_ q who s mail now)=true:=by have h:=q.ok;simp only [okL,Bool.and_eq_true]at h;simp only [bk_,okL,okC,z_,q.im.ok A_,s.b.ok oH_,s.inn.ok v_,s.out.ok v_,s.subs.ok M_,mail.ok r_,h,Bool.and_self]
theorem ve_ (q:ST) (who:Int) (s:GS) (mail:SV encR 4) (now:Int) (m:GM):okL (bk_ q who s mail now++f_ m)=true:=kN_.okL_join (okK ..) (v_ m)
def TL:List GG:=[⟨[97],0,2,1⟩,⟨[98],1,1,1⟩,⟨[111],2,2,2⟩,⟨[110],3,2,3⟩,⟨[120],4,2,3⟩,⟨[114],5,5,3⟩,⟨[107,91,48,93],6,2,3⟩,⟨[107,91,49,93],7,2,3⟩,⟨[107,91,50,93],8,2,3⟩]
theorem w5_:ju_ Tryz.prog 135 [VARS] (K_ TL):=vg_ mo ov (n:=3000) (by kernel_rfl)
theorem find (s:List UInt8):ju_ Tryz.prog 136 [VARS,.str s] (.tup [.agg (u_ (j_ s TL).1),.bool (j_ s TL).2]):=yI_ z_ (by decide) w5_ s
def x_ (acc:List GG):List (List UInt8)->Option (List GG)
 |[]=>some acc
 |s::r=>if (j_ s TL).2=true then x_ (acc++[(j_ s TL).1]) r else none
def W_ (l:List (List UInt8)):Except Int (List GG):=match l with
 |[]=>.error 11
 |_::_=>match x_ [] l with
  |some ts=>.ok ts
  |none=>.error 11
def e_ (l:List (List UInt8)):Except Int (List GG):=match W_ l with
 | .ok ts=>if 4<ts.length then .error 1 else .ok ts
 | .error e=>.error e
def RTg (o:Except Int (List GG)):Nat->List AV->Prop:=λj ws=>match o with
 | .ok ts=>j=0/\ws=[K_ ts]
 | .error e=>j=1/\ws=[.int .i64 e]
theorem RTg.ok {o:Except Int (List GG)} {ws:List AV} (h:RTg o 0 ws):∃ts,o=.ok ts/\ws=[K_ ts]:=by
 cases o with
 |ok ts=>exact ⟨ts,rfl,h.2⟩
 |error e=>exact absurd h.1 (by decide)
theorem RTg.er {o:Except Int (List GG)} {ws:List AV} (h:RTg o 1 ws):∃e,o=.error e/\ws=[.int .i64 e]:=by
 cases o with
 |ok ts=>exact absurd h.1 (by decide)
 |error e=>exact ⟨e,rfl,h.2⟩
theorem v6_ (ts:List GG):RTg (.ok ts) 0 [K_ ts]:=⟨rfl,rfl⟩
theorem ue_ (e:Int):RTg (.error e) 1 [.int .i64 e]:=⟨rfl,rfl⟩
theorem vh_:∀(l:List (List UInt8)) (acc ts:List GG),x_ acc l=some ts->ts.length=acc.length+l.length
 |[],acc,ts,h=>by cases h;rfl
 |s::r,acc,ts,h=>by unfold x_ at h;split at h;have:=vh_ r _ ts h;simp only [List.length_append,List.length_cons,List.length_nil]at this⊢;omega;cases h
theorem vi_:∀(l:List (List UInt8)) (acc ts:List GG),x_ acc l=some ts->(∀t∈acc,t∈TL)->∀t∈ts,t∈TL
 |[],acc,ts,h,h0=>by cases h;exact h0
 |s::r,acc,ts,h,h0=>by unfold x_ at h;split at h;rename_i hf;refine vi_ r _ ts h λt ht=>?_;rcases List.mem_append.1 ht with ht|ht;exact h0 t ht;rw [List.mem_singleton.1 ht];rcases V_ s TL with ⟨i,hi,_,_,e⟩|⟨_,e⟩;rw [e];exact List.getElem_mem hi;rw [e]at hf;cases hf;cases h
theorem vk_ {l:List (List UInt8)} {ts:List GG} (h:W_ l=.ok ts):ts.length=l.length/\∀t∈ts,t∈TL:=by unfold W_ at h;split at h;cases h;split at h;rename_i ht;cases h;exact ⟨by have:=vh_ _ _ _ ht;simpa using this,vi_ _ _ _ ht (λt ht=>(List.not_mem_nil ht).elim)⟩;cases h
theorem y_ {l:List (List UInt8)} {ts:List GG} (h:e_ l=.ok ts):ts.length=l.length/\ts.length<=4/\∀t∈ts,t∈TL:=by unfold e_ at h;split at h;rename_i ht;split at h;cases h;cases h;obtain ⟨a,b⟩:=vk_ ht;exact ⟨a,by omega,b⟩;cases h
theorem TL_addr:∀t∈TL,0<=t.addr/\t.addr<=8:=by decide
theorem xB_ (ts:List GG):okL [K_ ts]=true:=vd_ (p_ ts)
theorem iaP (s:SV I_ 1) {i:Nat} (h:i<s.l.length):(XOp.iaddr 52).run Tryz.prog [s.x,.int .i64 (i:Int)]=some (.vptr (bq_ I_ (s.l.drop i))):=s.h.ia (e:=9) Tryz.underlying52 (ti:=(Tryz.prog.info? 9).get!) (by kernel_rfl) (by kernel_rfl) vZ_ h .i64
theorem ldP {l:List (List UInt8)} {i:Nat} (h:i<l.length):(XOp.load 9).run Tryz.prog [.vptr (bq_ I_ (l.drop i))]=some (.str l[i]):=by rw [List.drop_eq_getElem_cons h];exact sT_ Tryz.underlying9 rfl _ _
theorem pv_ {l:List (List UInt8)}:(l.length:Int)=0↔l=[]:=by
 cases l with
 |nil=>simp
 |cons a r=>simp;omega
def c97:VC:=⟨⟨[],[]⟩,[(136,[(some 4),none])],[(0,[⟨[(17,.slx 0 0 0),(4,.slx 3 4 1),(0,.ptr 0 0),(15,99),(16,103)],[(0,[64,65,66,67,68,69,70,71,72,73,74,75,76,77,78,79,80,81,82,83,.ptx 1 84 12 0,.ptx 2 85 15 0,86,87,88])],4,2,[⟨3,4,1,4,none⟩],[],[(1,84),(2,85)]⟩])],3,true,[]⟩
def t97:VT:=
 (K Qr [99] 101
 (K Q1 [101,J 0] 102
 (.ite 102
 (.done (.tup [J 1,J 11]))
 (K Qr [99] 103
 (.loop 104 0 [J 0,.nsl]
 (.cons 2
 (K Q2 [104,103] 106
 (.ite 106
 (K Qg [99,104] 107
 (K Q6 [107] 108
 (.call 136 [64,108] 109 [(some 4),none]
 (K Q3 [113] 114
 (.ite 114
 (.done (.tup [J 1,J 11]))
 (K Za [105,.agg [109,110,111,112]] 115
 (K Q0 [104,J 1] 116
 (.again 0 0 [116,115]))))))))
 (.done (.tup [J 0,105]))))
 .nil))))))
theorem p97 (q:ST) (who:Int) (s:GS) (mail:SV encR 4) (now:Int) (m:GM) (hm:m.Sm):CF Tryz.prog 97 vW_ (bk_ q who s mail now++f_ m) (RTg (W_ m.paths.l)):=by
 have hl:=hm.1;refine vc_ (c:=c97) (n:=300) (t:=t97) mo ov rfl (λY _=>vy_ _) (by kernel_rfl) λY hf hg=>?_;unfold t97;refine vr_ (m.paths.h.len Tryz.underlying52) rfl (vr_ (run_eql ..) rfl (u9_ rfl (λh=>?_) (λh=>?_)));have h:=pv_.1 (dT h);rw [h];exact VOK_fin rfl (ue_ 11);have h:=λe=>dF h (pv_.2 e);have hne:W_ m.paths.l=match x_ [] m.paths.l with
   |some ts=>.ok ts
   |none=>.error 11:=by
  unfold W_;cases e:m.paths.l with
  |nil=>exact absurd e h
  |cons a r=>rfl
 rw [hne];refine vr_ (m.paths.h.len Tryz.underlying52) rfl ?_;refine uB_ (ι:=Nat×List GG) (λx=>[.int .i64 (x.1:Int),K_ x.2]) (λx=>x.1<=m.paths.l.length/\x.2.length=x.1/\x_ x.2 (m.paths.l.drop x.1)=x_ [] m.paths.l) (λx=>m.paths.l.length-x.1) (0,[]) ⟨Nat.zero_le _,rfl,by rw [List.drop_zero]⟩ rfl (λ_ _=>by simp only [okL,okC,p_]) (λi j _ _ h=>?_) (λx hx=>?_)
 .have h:=(List.cons.inj h).1;injection h with _ h
  omega
 obtain ⟨i,acc⟩:=x;obtain ⟨hi,ha,hI⟩:=hx;simp only at hi ha hI⊢;rw [←hI];refine vr_ (run_lss ..) rfl (u9_ rfl (λhc=>?_) (λhc=>?_))
 .have hc:(i:Int)<(m.paths.l.length:Int):=dT hc;have hc:i<m.paths.l.length:=(by omega);refine vr_ (iaP m.paths hc) (kN_ okP _) (vr_ (ldP hc) rfl (uz_ (find _) rfl rfl ?_));have hd:m.paths.l.drop i=m.paths.l[i]::m.paths.l.drop (i+1):=List.drop_eq_getElem_cons hc;rw [hd];refine vr_ (vn_ ..) rfl (u9_ rfl (λhf=>?_) (λhf=>?_));have hf:(j_ m.paths.l[i] TL).2=false:=(by simpa using hf);have e:x_ acc (m.paths.l[i]::m.paths.l.drop (i+1))=none:=(by unfold x_;rw [hf];rfl);rw [e];exact VOK_fin rfl (ue_ 11)
  .have hf:(j_ m.paths.l[i] TL).2=true:=(by simpa using hf);have e:x_ acc (m.paths.l[i]::m.paths.l.drop (i+1))=x_ (acc++[(j_ m.paths.l[i] TL).1]) (m.paths.l.drop (i+1)):=by
    conv=>lhs;unfold x_
    rw [if_pos hf]
   refine vr_ (t6_ un_ (by decide) (by decide) acc (j_ m.paths.l[i] TL).1 (by omega)) (p_ _) (vr_ (d_ (by omega) (by omega)) rfl (up_ rfl ⟨(i+1,acc++[(j_ m.paths.l[i] TL).1]),⟨hc,by show (acc++[_]).length=i+1;rw [List.length_append,List.length_singleton,ha],?_⟩,rfl,by show m.paths.l.length-(i+1)<m.paths.l.length-i;omega⟩));show x_ (acc++[_]) (m.paths.l.drop (i+1))=_;rw [←e,←hd,hI]
 have hc:¬(i:Int)<(m.paths.l.length:Int):=dF hc;have e:i=m.paths.l.length:=(by omega);rw [e,List.drop_length];exact VOK_fin (xB_ acc) (v6_ acc)
def c91:VC:=⟨⟨[],[]⟩,[],[],3,true,[(97,vW_)]⟩
def t91:VT:=
 (.callF 97 vW_ [64,65,66,67,68,69,70,71,72,73,74,75,76,77,78,79,80,81,82,83,84,85,86,87,88,89,90,91,92,93,94,95,96,97,98,99,100] 101
 (.cons 1
 (K Q8 [138] 139
 (K Q9 [139,J 4] 140
 (.ite 140
 (.done (.tup [J 1,J 1]))
 (.done (.tup [J 0,138])))))
 (.cons 1
 (.done (.tup [J 1,138]))
 .nil)))
theorem p91 (q:ST) (who:Int) (s:GS) (mail:SV encR 4) (now:Int) (m:GM) (hm:m.Sm):CF Tryz.prog 91 we_ (bk_ q who s mail now++f_ m) (RTg (e_ m.paths.l)):=by have hl:=hm.1;refine vc_ (c:=c91) (n:=300) (t:=t91) mo ov rfl (λY _=>vy_ _) (by kernel_rfl) λY hf hg=>?_;unfold t91;refine a_ (p97 q who s mail now m hm) rfl (ve_ ..) ⟨?_,?_,trivial⟩;intro ws h;obtain ⟨ts,e,rfl⟩:=h.ok;have hts:=vk_ e;unfold e_;rw [e];refine vr_ (t_ ts) rfl (vr_ (run_gtr ..) rfl (u9_ rfl (λh=>?_) (λh=>?_)));have h:(4:Int)<(ts.length:Int):=dT h;show VOK _ (QF (RTg (if 4<ts.length then .error 1 else .ok ts))) _ _ _;rw [if_pos (by omega)];exact VOK_fin rfl (ue_ 1);have h:¬(4:Int)<(ts.length:Int):=dF h;show VOK _ (QF (RTg (if 4<ts.length then .error 1 else .ok ts))) _ _ _;rw [if_neg (by omega)];exact VOK_fin (xB_ ts) (v6_ ts);intro ws h;obtain ⟨e',e,rfl⟩:=h.er;unfold e_;rw [e];exact VOK_fin rfl (ue_ e')
def B_ (im:List FV) (t:GG):FV:=im.getD t.addr.toNat FV.z
theorem iaV (s:SV k_ 3) {i:Nat} (h:i<s.l.length):(XOp.iaddr 26).run Tryz.prog [s.x,.int .i64 (i:Int)]=some (.vptr (bq_ k_ (s.l.drop i))):=s.h.ia (e:=38) Tryz.underlying26 (ti:=(Tryz.prog.info? 38).get!) (by kernel_rfl) (by kernel_rfl) rl_ h .i64
theorem ldV {l:List FV} {i:Nat} (h:i<l.length):(XOp.load 38).run Tryz.prog [.vptr (bq_ k_ (l.drop i))]=some (.agg (k_ l[i])):=sS_ (ti:=(Tryz.prog.info? 38).get!) Tryz.underlying38 rfl (by kernel_rfl) (by kernel_rfl) rl_ h
def c92:VC:=⟨⟨[],[]⟩,[],[],3,true,[]⟩
def t92:VT:=
 (K Qo [68] 93
 (K Zj [90,93] 94
 (.ite 94
 (.done (.tup [J 0,J 0,J 0,.flt .f64 0]))
 (K Qu [68,90] 95
 (.lt Z4 [95] 96 (some 3)
 (.done (.tup [J 0,96,97,98])))))))
theorem p92 (q:ST) (who:Int) (s:GS) (mail:SV encR 4) (now:Int) (t:GG) (ht:0<=t.addr):CF Tryz.prog 92 w1_ (bk_ q who s mail now++u_ t) (λ_ ws=>ws=k_ (B_ q.im.l t)):=by
 refine vc_ (c:=c92) (n:=300) (t:=t92) mo ov rfl (λY _=>vy_ _) (by kernel_rfl) λY hf hg=>?_;unfold t92;obtain ⟨a,ha⟩:=Int.eq_ofNat_of_zero_le ht;have hcell:B_ q.im.l t=q.im.l.getD a FV.z:=by unfold B_;rw [ha];rfl
 refine vr_ (q.im.h.len Tryz.underlying26) rfl (vr_ (run_geq ..) rfl (u9_ rfl (λh=>?_) (λh=>?_)));have h:(q.im.l.length:Int)<=t.addr:=dT h;rw [hcell,List.getD_eq_getElem?_getD,List.getElem?_eq_none (by omega)];exact VOK_fin rfl rfl;have h:¬(q.im.l.length:Int)<=t.addr:=dF h;have hi:a<q.im.l.length:=(by omega);have ia:(XOp.iaddr 26).run Tryz.prog [q.im.x,.int .i64 t.addr]=some (.vptr (bq_ k_ (q.im.l.drop a))):=(by rw [ha];exact iaV q.im hi);rw [hcell,List.getD_eq_getElem?_getD,List.getElem?_eq_getElem hi];exact vr_ ia (kN_ A_ _) (va_ (ldV hi) rfl (A_ _) (VOK_fin (A_ _) rfl))
def RRd (im:List FV) (o:Except Int (List GG)):Nat->List AV->Prop:=λj ws=>match o with
 | .ok ts=>j=0/\ws=[ct_ k_ 3 (ts.map (B_ im))]
 | .error e=>j=1/\ws=[.int .i64 e]
def c52:VC:=⟨⟨[],[]⟩,[],[(0,[⟨[(12,.slx 0 0 0),(0,.ptr 0 0),(2,.ptr 3 0),(10,139),(11,140)],[(0,[64,65,66,67,68,69,70,71,72,73,74,75,76,77,78,79,80,81,82,83,.ptx 1 84 12 0,.ptx 2 85 15 0,86,87,88]),(3,[J 6,101,J 0,J 0,J 0,.bool false,J 0,J 0,J 0,.flt .f64 0,.nsl,.slx 4 3 1])],5,2,[⟨4,3,1,3,(some 11)⟩],[],[(1,84),(2,85)]⟩])],4,true,[(91,we_),(92,w1_)]⟩
def t52:VT:=
 (.callF 91 we_ [64,65,66,67,68,69,70,71,72,73,74,75,76,77,78,79,80,81,82,83,84,85,86,87,88,89,90,91,92,93,94,95,96,97,98,99,100] 102
 (.cons 1
 (K Q8 [139] 140
 (.loop 141 0 [J 0,.nsl]
 (.cons 2
 (K Q2 [141,140] 143
 (.ite 143
 (K Qd [139,141] 144
 (.lt Qv [144] 145 (some 4)
 (.callF 92 w1_ [64,65,66,67,68,69,70,71,72,73,74,75,76,77,78,79,80,81,82,83,84,85,86,87,88,145,146,147,148] 149
 (.cons 3
 (K Qq [142,.agg [178,179,180]] 181
 (K Q0 [141,J 1] 182
 (.again 0 0 [182,181])))
 .nil))))
 (.done (.tup [J 0,142]))))
 .nil)))
 (.cons 1
 (.done (.tup [J 1,139]))
 .nil)))
theorem p52 (q:ST) (who:Int) (s:GS) (mail:SV encR 4) (now:Int) (m:GM) (hm:m.Sm) (id:Int):CF Tryz.prog 52 wZ_ (bk_ q who s mail now++f_ m++[.int .i64 id]) (RRd q.im.l (e_ m.paths.l)):=by
 refine vc_ (c:=c52) (n:=300) (t:=t52) mo ov rfl (λY _=>vy_ _) (by kernel_rfl) λY hf hg=>?_;unfold t52;refine a_ (p91 q who s mail now m hm) rfl (ve_ ..) ⟨?_,?_,trivial⟩
 .intro ws h;obtain ⟨ts,e,rfl⟩:=h.ok;obtain ⟨_,h4,hT⟩:=y_ e;rw [e];refine vr_ (t_ ts) rfl ?_;refine uB_ (ι:=Nat) (λi=>[.int .i64 (i:Int),ct_ k_ 3 ((ts.take i).map (B_ q.im.l))]) (λi=>i<=ts.length) (λi=>ts.length-i) 0 (Nat.zero_le _) rfl (λ_ _=>by simp only [okL,okC,ub_ A_]) (λi j _ _ h=>?_) (λi hi=>?_)
  .have h:=(List.cons.inj h).1;injection h with _ h
   omega
  refine vr_ (run_lss ..) rfl (u9_ rfl (λhc=>?_) (λhc=>?_));have hc:(i:Int)<(ts.length:Int):=dT hc;have hc:i<ts.length:=(by omega);refine vr_ (iaG (SlV.of ts) hc) (kN_ L_ _) (va_ (ldG hc) rfl (L_ _) ?_);refine a_ (p92 q who s mail now ts[i] (TL_addr _ (hT _ (List.getElem_mem hc))).1) rfl (kN_.okL_join (okK ..) (L_ _)) ⟨?_,trivial⟩;rintro ws rfl;refine vr_ (t6_ rl_ (by decide) (by decide) ((ts.take i).map (B_ q.im.l)) (B_ q.im.l ts[i]) (by rw [List.length_map,List.length_take];omega)) (ub_ A_ _) (vr_ (d_ (by omega) (by omega)) rfl (up_ rfl ⟨i+1,hc,?_,by omega⟩));rw [h_ hc,List.map_append];rfl;have hc:¬(i:Int)<(ts.length:Int):=dF hc;have e:i=ts.length:=(by omega);subst e;refine VOK_fin (by show okL [ct_ k_ 3 _]=true;simp only [okL,ub_ A_]) ?_;rw [List.take_length];exact ⟨rfl,rfl⟩
 intro ws h;obtain ⟨e',e,rfl⟩:=h.er;rw [e];exact VOK_fin rfl ⟨rfl,rfl⟩
def xm_:VC:=⟨⟨[],[]⟩,[],[],0,true,[]⟩
def wP_:VT:=.done (.bool false)
theorem yH_ (t:GG):ju_ Tryz.prog 129 [VARS,.fn 130 [.vptr (u_ t)]] (.bool false):=by refine uU_ (args':=[VARS,.fn 130 [.vptr [.sym 64,.sym 65,.sym 66,.sym 67]]]) (ls:=u_ t) (c:=xm_) (n:=300) (m:=68) (t:=wP_) mo ov (by kernel_rfl) (by kernel_rfl) (L_ t) rfl (λY _=>by kernel_rfl) (λY _=>vy_ _) rfl (by kernel_rfl) λY hf hg=>?_;unfold wP_;exact uA_ rfl
def c94:VC:=⟨⟨[],[]⟩,[(129,[none])],[],3,true,[]⟩
def t94:VT:=
 (.call 129 [64,.fn 130 [.vptr [89,90,91,92]]] 93 [none]
 (K Q3 [93] 94
 (.done (.tup [J 0,94]))))
theorem p94 (q:ST) (who:Int) (s:GS) (mail:SV encR 4) (now:Int) (t:GG):CF Tryz.prog 94 w2_ (bk_ q who s mail now++u_ t) (λ_ ws=>ws=[.bool true]):=by refine vc_ (c:=c94) (n:=300) (t:=t94) mo ov rfl (λY _=>vy_ _) (by kernel_rfl) λY hf hg=>?_;unfold t94;exact uz_ (yH_ t) rfl rfl (vr_ (vn_ ..) rfl (VOK_fin rfl rfl))
theorem vJ_ {α:Type} {enc:α->List AV} {w b:Nat} (hw:∀a,(enc a).length=w) (hwp:0<w) (hb:0<b) (s:SV enc w) (a:α) (hl:(s.l.length+1)*b<=1073741824):(XOp.app w b).run Tryz.prog [s.x,.agg (enc a)]=some (ct_ enc w (s.l++[a])):=by obtain ⟨r,h1,h2⟩:=s.h.app1 (P:=Tryz.prog) (bytes:=b) hw hwp hb a hl;rw [h1,h2.eq (by simp)]
def qi_ (l:List GR) (w:GR):Except Int (List GR):=if 3<=l.length then .error 10 else .ok (l++[w])
def vu_ (l:List GR) (w:GR):AV:=match qi_ l w with
 | .ok l'=>.tup [ct_ encR 4 l',.int .i64 0]
 | .error e=>.tup [ct_ encR 4 l,.int .i64 e]
def c95:VC:=⟨⟨[],[]⟩,[(133,[(some 4)])],[],0,true,[(132,vN_)]⟩
def t95:VT:=
 (K Qc [64] 69
 (K Qt [69,J 3] 70
 (.ite 70
 (.callF 132 vN_ [64] 71
 (.cons 1
 (.done (.tup [72,J 10]))
 .nil))
 (.callF 132 vN_ [64] 71
 (.cons 1
 (.call 133 [.agg [65,66,67,68]] 73 [(some 4)]
 (K Ql [72,.agg [73,74,75,76]] 77
 (.done (.tup [77,J 0]))))
 .nil)))))
theorem p95 (s:SV encR 4) (hl:s.l.length<=1000) (hm:∀m∈s.l,m.Sm) (w:GR) (hw:w.Sm):ju_ Tryz.prog 95 [s.x,.agg (encR w)] (vu_ s.l w):=by have hx:=s.ok r_;refine t3_ (sh:=[none,some 4]) (ls:=s.x::encR w) (c:=c95) (n:=300) (t:=t95) mo ov rfl (kN_.okL_join (a:=[s.x]) (by simp only [okL,hx]) (r_ w)) (by unfold vu_;split<;>exact O_ (p1_ (ub_ r_ _)) rfl) (λY _=>vy_ _) rfl (by kernel_rfl) λY hf hg=>?_;unfold t95;refine vr_ (s.h.len Tryz.underlying47) rfl (vr_ (run_geq ..) rfl (u9_ rfl (λh=>?_) (λh=>?_)));have h:(3:Int)<=(s.l.length:Int):=dT h;have e:vu_ s.l w=.tup [ct_ encR 4 s.l,.int .i64 10]:=(by unfold vu_ qi_;rw [if_pos (by omega)]);rw [e];refine a_ (xE_ s hl hm) rfl (by simp only [okL,hx]) ⟨?_,trivial⟩;rintro ws rfl;exact uA_ rfl;have h:¬(3:Int)<=(s.l.length:Int):=dF h;have e:vu_ s.l w=.tup [ct_ encR 4 (s.l++[w]),.int .i64 0]:=(by unfold vu_ qi_;rw [if_neg (by omega)]);rw [e];refine a_ (xE_ s hl hm) rfl (by simp only [okL,hx]) ⟨?_,trivial⟩;rintro ws rfl;exact uz_ (xF_ w hw) rfl (r_ w) (vr_ (t6_ uo_ (by decide) (by decide) s.l w (by omega)) (ub_ r_ _) (uA_ rfl))
def wOf (who:Int) (m:GM) (ts:List GG):GR:=⟨who,m.id,.of (ts.map GG.addr),m.vals⟩
def n_ (q:ST) (who:Int) (mail:List GR) (m:GM):Except Int (List GR):=match e_ m.paths.l with
 | .error e=>.error e
 | .ok ts=>if ts.length≠m.vals.l.length then .error 1 else if ts.all (λt=>decide (t.role=3))=false then .error 13
   else if (ts.zip m.vals.l).all (λx=>decide (x.2.k=x.1.kind))=false then .error 4 else if q.err≠0 then .error 9 else qi_ mail (wOf who m ts)
def RWr (o:Except Int (List GR)):Nat->List AV->Prop:=λj ws=>match o with
 | .ok l=>j=0/\ws=[ct_ encR 4 l]
 | .error e=>j=1/\ws=[.int .i64 e]
theorem pT_ {o:Except Int (List GR)} {e:Int} (h:o=.error e):RWr o 1 [.int .i64 e]:=by rw [h];exact ⟨rfl,rfl⟩
theorem aL_ {α:Type} {p:α->Bool} {l:List α} {i:Nat} (h:i<l.length):(l.take (i+1)).all p=((l.take i).all p&&p l[i]):=by rw [h_ h,List.all_append];simp
theorem Y_ {α:Type} {p:α->Bool} {l:List α} {i:Nat} (h:i<l.length) (hp:p l[i]=false):l.all p=false:=by rw [List.all_eq_false];exact ⟨l[i],List.getElem_mem h,by rw [hp];decide⟩
theorem fa0 (l:List FV) {i:Nat} (h:i<l.length):(XOp.faddr 38 0).run Tryz.prog [.vptr (bq_ k_ (l.drop i))]=some (.vptr (.int .i64 l[i].k::([.int .i64 l[i].i,fv l[i].f]++bq_ k_ (l.drop (i+1))))):=by rw [List.drop_eq_getElem_cons h];kernel_rfl
def c53:VC:=⟨⟨[],[]⟩,[(95,[none,none])],[(10016,[⟨[],[],0,0,[],[],[(5,2)]⟩]),(0,[⟨[(33,.slx 0 0 0),(5,.ptr 4 0),(0,.ptr 0 0),(31,138),(4,138),(3,.ptr 3 0),(32,142)],[(4,[78,90,.slx 5 1 1,100]),(0,[64,65,66,67,68,69,70,71,72,73,74,75,76,77,78,79,80,81,82,83,.ptx 1 84 12 0,.ptx 2 85 15 0,86,87,88]),(3,[89,90,91,92,93,94,95,96,97,98,99,100])],6,2,[⟨5,1,1,4,(some 2)⟩],[],[(1,84),(2,85)]⟩]),(2,[⟨[(57,.slx 0 0 0),(3,.ptr 3 0),(55,138),(5,.ptr 4 0),(0,.ptr 0 0),(56,.slx 2 0 0)],[(3,[89,90,91,92,93,94,95,96,97,98,99,100]),(4,[78,90,.slx 5 1 1,100]),(0,[64,65,66,67,68,69,70,71,72,73,74,75,76,77,78,79,80,81,82,83,.ptx 1 84 12 0,.ptx 2 85 15 0,86,87,88])],6,3,[⟨5,1,1,4,(some 2)⟩],[],[(1,84),(2,85)]⟩])],3,true,[(91,we_),(94,w2_)]⟩
def t53:VT:=
 (.callF 91 we_ [64,65,66,67,68,69,70,71,72,73,74,75,76,77,78,79,80,81,82,83,84,85,86,87,88,89,90,91,92,93,94,95,96,97,98,99,100] 101
 (.cons 1
 (K Q8 [138] 139
 (K Qo [100] 140
 (K Q4 [139,140] 141
 (.ite 141
 (.done (.tup [J 1,J 1]))
 (K Q8 [138] 142
 (.loop 143 0 [J 0,.nsl]
 (.cons 2
 (K Q2 [143,142] 145
 (.ite 145
 (K Qd [138,143] 146
 (.lt Qv [146] 147 (some 4)
 (K Qy [150,J 3] 151
 (.ite 151
 (.done (.tup [J 1,J 13]))
 (.callF 94 w2_ [64,65,66,67,68,69,70,71,72,73,74,75,76,77,78,79,80,81,82,83,84,85,86,87,88,147,148,149,150] 152
 (.cons 1
 (K Q3 [181] 182
 (.ite 182
 (.done (.tup [J 1,J 13]))
 (K Z9 [144,.agg [148]] 183
 (K Q0 [143,J 1] 184
 (.again 0 0 [184,183])))))
 .nil))))))
 (K Q8 [138] 146
 (.loop 147 0 [J 0,144,146]
 (.cons 3
 (K Q2 [147,149] 150
 (.ite 150
 (K Qd [138,147] 151
 (.lt Qv [151] 152 (some 4)
 (K Qu [100,147] 156
 (K (.faddr 38 0) [156] 157
 (K Q5 [157] 158
 (K Q4 [158,154] 159
 (.ite 159
 (.done (.tup [J 1,J 4]))
 (K Q0 [147,J 1] 160
 (.again 1 0 [160,148,149])))))))))
 (K Qz [76,J 0] 151
 (.ite 151
 (.done (.tup [J 1,J 9]))
 (.call 95 [87,.agg [78,90,148,100]] 152 [none,none]
 (K Qz [153,J 0] 154
 (.ite 154
 (.done (.tup [J 1,153]))
 (.done (.tup [J 0,152])))))))))
 .nil)))))
 .nil)))))))
 (.cons 1
 (.done (.tup [J 1,138]))
 .nil)))
theorem p53 (q:ST) (who:Int) (s:GS) (mail:SV encR 4) (now:Int) (m:GM) (hm:m.Sm) (hl:mail.l.length<=1000) (hr:∀w∈mail.l,w.Sm):CF Tryz.prog 53 ft53 (bk_ q who s mail now++f_ m) (RWr (n_ q who mail.l m)):=by
 have hx:=mail.ok r_;refine vc_ (c:=c53) (n:=300) (t:=t53) mo ov rfl (λY _=>vy_ _) (by kernel_rfl) λY hf hg=>?_;unfold t53;refine a_ (p91 q who s mail now m hm) rfl (ve_ ..) ⟨?_,?_,trivial⟩
 .intro ws h;obtain ⟨ts,e,rfl⟩:=h.ok;obtain ⟨_,h4,hT⟩:=y_ e;have e0:n_ q who mail.l m=if ts.length≠m.vals.l.length then .error 1 else if ts.all (λt=>decide (t.role=3))=false then .error 13
   else if (ts.zip m.vals.l).all (λx=>decide (x.2.k=x.1.kind))=false then .error 4 else if q.err≠0 then .error 9 else qi_ mail.l (wOf who m ts):=by unfold n_;rw [e]
  refine vr_ (t_ ts) rfl (vr_ (m.vals.h.len Tryz.underlying26) rfl (vr_ (run_neq ..) rfl (u9_ rfl (λh=>?_) (λh=>?_))));have h:(!decide ((ts.length:Int)=(m.vals.l.length:Int)))=true:=h;have h:¬(ts.length:Int)=(m.vals.l.length:Int):=(by simpa using h);exact VOK_fin rfl (pT_ (by rw [e0,if_pos (by omega)]));have h:(!decide ((ts.length:Int)=(m.vals.l.length:Int)))=false:=h;have h:(ts.length:Int)=(m.vals.l.length:Int):=(by simpa using h);have hlen:ts.length=m.vals.l.length:=(by omega);rw [if_neg (by omega)]at e0;refine vr_ (t_ ts) rfl ?_;refine uB_ (ι:=Nat) (λi=>[.int .i64 (i:Int),ct_ am_ 1 ((ts.take i).map GG.addr)]) (λi=>i<=ts.length/\(ts.take i).all (λt=>decide (t.role=3))=true) (λi=>ts.length-i) 0 ⟨Nat.zero_le _,rfl⟩ rfl (λ_ _=>by simp only [okL,okC,ub_ okI]) (λi j _ _ h=>?_) (λi hi=>?_)
  .have h:=(List.cons.inj h).1;injection h with _ h
   omega
  obtain ⟨hi,hall⟩:=hi;refine vr_ (run_lss ..) rfl (u9_ rfl (λhc=>?_) (λhc=>?_));have hc:(i:Int)<(ts.length:Int):=dT hc;have hc:i<ts.length:=(by omega);refine vr_ (iaG (SlV.of ts) hc) (kN_ L_ _) (va_ (ldG hc) rfl (L_ _) (vr_ (run_neq ..) rfl (u9_ rfl (λhr3=>?_) (λhr3=>?_))));have hr3:(!decide (ts[i].role=3))=true:=hr3;have hr3:¬ts[i].role=3:=(by simpa using hr3);exact VOK_fin rfl (pT_ (by rw [e0,if_pos (Y_ hc (decide_eq_false hr3))]));have hr3:(!decide (ts[i].role=3))=false:=hr3;have hr3:ts[i].role=3:=(by simpa using hr3);refine a_ (p94 q who s mail now ts[i]) rfl (kN_.okL_join (okK ..) (L_ _)) ⟨?_,trivial⟩;rintro ws rfl;refine vr_ (vn_ ..) rfl (u9_ (t:=false) rfl (λh=>by cases h) (λ_=>?_));refine vr_ (t6_ wh_ (by decide) (by decide) ((ts.take i).map GG.addr) ts[i].addr (by rw [List.length_map,List.length_take];omega)) (ub_ okI _) (vr_ (d_ (by omega) (by omega)) rfl (up_ rfl ⟨i+1,⟨hc,?_⟩,?_,by omega⟩));rw [aL_ hc,hall,decide_eq_true hr3];rfl;rw [h_ hc,List.map_append];rfl
  .have hc:¬(i:Int)<(ts.length:Int):=dF hc;have ei:i=ts.length:=(by omega);subst ei;rw [List.take_length]at hall⊢;rw [if_neg (by rw [hall];decide)]at e0;refine vr_ (t_ ts) rfl ?_;refine uB_ (ι:=Nat) (λi=>[.int .i64 (i:Int),ct_ am_ 1 (ts.map GG.addr),.int .i64 (ts.length:Int)]) (λi=>i<=ts.length/\((ts.zip m.vals.l).take i).all (λx=>decide (x.2.k=x.1.kind))=true) (λi=>ts.length-i) 0 ⟨Nat.zero_le _,rfl⟩ rfl (λ_ _=>by simp only [okL,okC,ub_ okI]) (λi j _ _ h=>?_) (λi hi=>?_)
   .have h:=(List.cons.inj h).1;injection h with _ h
    omega
   obtain ⟨hi,hall2⟩:=hi;have hzl:(ts.zip m.vals.l).length=ts.length:=(by rw [List.length_zip];omega);refine vr_ (run_lss ..) rfl (u9_ rfl (λhc=>?_) (λhc=>?_));have hc:(i:Int)<(ts.length:Int):=dT hc;have hc:i<ts.length:=(by omega);have hcv:i<m.vals.l.length:=(by omega);have hz:i<(ts.zip m.vals.l).length:=(by omega);have ez:(ts.zip m.vals.l)[i]=(ts[i],m.vals.l[i]):=List.getElem_zip;refine vr_ (iaG (SlV.of ts) hc) (kN_ L_ _) (va_ (ldG hc) rfl (L_ _) ?_);refine vr_ (iaV m.vals hcv) (kN_ A_ _) (vr_ (fa0 m.vals.l hcv) (by simp only [okC,okL,List.cons_append,vK_,List.nil_append];exact kN_ A_ _) (vr_ (sT_ Tryz.underlying3 rfl _ _) rfl (vr_ (run_neq ..) rfl (u9_ rfl (λhk=>?_) (λhk=>?_)))));have hk:(!decide (m.vals.l[i].k=ts[i].kind))=true:=hk;have hk:¬m.vals.l[i].k=ts[i].kind:=(by simpa using hk);exact VOK_fin rfl (pT_ (by rw [e0,if_pos (Y_ hz (by rw [ez];exact decide_eq_false hk))]));have hk:(!decide (m.vals.l[i].k=ts[i].kind))=false:=hk;have hk:m.vals.l[i].k=ts[i].kind:=(by simpa using hk);refine vr_ (d_ (by omega) (by omega)) rfl (up_ rfl ⟨i+1,⟨hc,?_⟩,rfl,by omega⟩);rw [aL_ hz,hall2,ez,decide_eq_true hk];rfl
   .have hc:¬(i:Int)<(ts.length:Int):=dF hc;have ei:i=ts.length:=(by omega);subst ei;rw [←hzl,List.take_length]at hall2;rw [if_neg (by rw [hall2];decide)]at e0;refine vr_ (run_neq ..) rfl (u9_ rfl (λhe=>?_) (λhe=>?_));have he:(!decide (q.err=0))=true:=he;have he:¬q.err=0:=(by simpa using he);exact VOK_fin rfl (pT_ (by rw [e0,if_pos he]));have he:(!decide (q.err=0))=false:=he;have he:q.err=0:=(by simpa using he);rw [if_neg (λh=>h he)]at e0;rw [e0];have h95:=p95 mail hl hr (wOf who m ts) ⟨by show (ts.map GG.addr).length<=1000;rw [List.length_map];omega,hm.2⟩;unfold vu_ at h95;cases ha:qi_ mail.l (wOf who m ts)with
    |ok l'=>rw [ha]at h95;refine uz_ h95 rfl (by simp only [okL,okC,ub_ r_]) (vr_ c_ rfl (u9_ (t:=false) rfl (λh=>by cases h) (λ_=>?_)));exact VOK_fin (by show okL [ct_ encR 4 _]=true;simp only [okL,ub_ r_]) ⟨rfl,rfl⟩
    |error e'=>
     rw [ha]at h95;have he':e'=10:=by unfold qi_ at ha;split at ha;cases ha;rfl;cases ha
     subst he';refine uz_ h95 rfl (by simp only [okL,okC,ub_ r_]) (vr_ (r:=.bool true) (by kernel_rfl) rfl (u9_ (t:=true) rfl (λ_=>?_) (λh=>by cases h)));exact VOK_fin rfl ⟨rfl,rfl⟩
 intro ws h;obtain ⟨e',e,rfl⟩:=h.er;exact VOK_fin rfl (pT_ (by unfold n_;rw [e]))
def Q_ (n:Int):Bool:=decide (0<=n/\n<=(TL.length:Int))
theorem wC_ {n:Int} (h:Q_ n=true):∃r,TgV (w_ TL n.toNat) r/\ju_ Tryz.prog 96 [VARS,.int .i64 n] (.tup [r,.int .i64 (H_ TL n.toNat),.int .i64 0]):=by obtain ⟨h1,h2⟩:=of_decide_eq_true h;obtain ⟨k,rfl⟩:=Int.eq_ofNat_of_zero_le h1;exact p96 z_ (by decide) w5_ (by omega)
theorem wB_ {n:Int} (h:Q_ n=false):ju_ Tryz.prog 96 [VARS,.int .i64 n] (.tup [.nsl,.int .i64 0,.int .i64 1]):=
 yQ_ z_ w5_ (by have:=of_decide_eq_false h;omega)
def RPg (n:Int):Nat->List AV->Prop:=λj ws=>if Q_ n=true then j=0/\ws=[.int .i64 (H_ TL n.toNat),ct_ I_ 1 ((w_ TL n.toNat).map GG.path)]else j=1/\ws=[.int .i64 1]
theorem hK_ (k:Nat):(w_ TL k).length<=5:=by unfold w_;rw [List.length_take];omega
theorem wN_ {T:List GG} {a:AV} (h:TgV T a):(XOp.len 87).run Tryz.prog [a]=some (.int .i64 (T.length:Int)):=h.len Tryz.underlying87
def c54:VC:=⟨⟨[],[]⟩,[(96,[none,none,none])],[(0,[⟨[(28,.slx 0 0 0),(0,.ptr 0 0),(2,.ptr 3 0),(26,102),(7,103),(27,106)],[(0,[64,65,66,67,68,69,70,71,72,73,74,75,76,77,78,79,80,81,82,83,.ptx 1 84 12 0,.ptx 2 85 15 0,86,87,88]),(3,[J 6,101,J 0,J 0,J 0,.bool false,J 0,J 0,J 0,.flt .f64 0,.slx 4 1 1,.nsl])],5,2,[⟨4,1,1,3,(some 10)⟩],[],[(1,84),(2,85)]⟩])],4,true,[]⟩
def t54:VT:=
 (.call 96 [64,92] 102 [none,none,none]
 (K Qz [104,J 0] 105
 (.ite 105
 (.done (.tup [J 1,104]))
 (K Q8 [102] 106
 (.loop 107 0 [J 0,.nsl]
 (.cons 2
 (K Q2 [107,106] 109
 (.ite 109
 (K Qd [102,107] 110
 (.lt Qv [110] 111 (some 4)
 (K Z1 [108,.agg [111]] 115
 (K Q0 [107,J 1] 116
 (.again 0 0 [116,115])))))
 (.done (.tup [J 0,103,108]))))
 .nil))))))
theorem p54 (q:ST) (who:Int) (s:GS) (mail:SV encR 4) (now:Int) (m:GM) (id:Int):CF Tryz.prog 54 w0_ (bk_ q who s mail now++f_ m++[.int .i64 id]) (RPg m.n):=by
 refine vc_ (c:=c54) (n:=300) (t:=t54) mo ov rfl (λY _=>vy_ _) (by kernel_rfl) λY hf hg=>?_;unfold t54;cases hp:Q_ m.n with
 |true=>
  obtain ⟨r,hr,h96⟩:=wC_ hp;have okr:okC r=true:=hr.ok L_;have h5:=hK_ m.n.toNat;have hfin:∀ws,ws=[.int .i64 (H_ TL m.n.toNat),ct_ I_ 1 ((w_ TL m.n.toNat).map GG.path)]->RPg m.n 0 ws:=λws e=>(by unfold RPg;rw [if_pos hp];exact ⟨rfl,e⟩);generalize w_ TL m.n.toNat=T at*;refine uz_ h96 rfl (by simp only [okL,okC,okr]) (vr_ c_ rfl (u9_ (t:=false) rfl (λh=>by cases h) (λ_=>?_)));refine vr_ (wN_ hr) rfl ?_;refine uB_ (ι:=Nat) (λi=>[.int .i64 (i:Int),ct_ I_ 1 ((T.take i).map GG.path)]) (λi=>i<=T.length) (λi=>T.length-i) 0 (Nat.zero_le _) rfl (λ_ _=>by simp only [okL,okC,ub_ okP]) (λi j _ _ h=>?_) (λi hi=>?_)
  .have h:=(List.cons.inj h).1;injection h with _ h
   omega
  refine vr_ (run_lss ..) rfl (u9_ rfl (λhc=>?_) (λhc=>?_));have hc:(i:Int)<(T.length:Int):=dT hc;have hc:i<T.length:=(by omega);refine vr_ (iaG hr hc) (kN_ L_ _) (va_ (ldG hc) rfl (L_ _) ?_);refine vr_ (t6_ vZ_ (by decide) (by decide) ((T.take i).map GG.path) T[i].path (by rw [List.length_map,List.length_take];omega)) (ub_ okP _) (vr_ (d_ (by omega) (by omega)) rfl (up_ rfl ⟨i+1,hc,?_,by omega⟩));rw [h_ hc,List.map_append];rfl;have hc:¬(i:Int)<(T.length:Int):=dF hc;have ei:i=T.length:=(by omega);subst ei;refine VOK_fin (by show okL [.int .i64 (H_ TL m.n.toNat),ct_ I_ 1 _]=true;simp only [okL,okC,ub_ okP]) (hfin _ ?_);rw [List.take_length];rfl
 |false=>refine uz_ (wB_ hp) rfl rfl (vr_ (r:=.bool true) (by kernel_rfl) rfl (u9_ (t:=true) rfl (λ_=>?_) (λh=>by cases h)));refine VOK_fin rfl ?_;unfold RPg;rw [if_neg (by rw [hp];decide)];exact ⟨rfl,rfl⟩
def c98:VC:=⟨⟨[],[]⟩,[],[],0,true,[]⟩
def t98:VT:=.done (.agg [64,65,66,67,68,69,70,71,.bool false,.bool false,J 0,J 0,.flt .f64 0,J 0,.nsl])
def v1_ (num addr every now:Int) (band:FV) (most:Int):GW:=⟨num,addr,every,now,band,most,false,false,FV.z,0,.nil⟩
theorem p98 (num addr every now:Int) (band:FV) (most:Int):ju_ Tryz.prog 98 [.int .i64 num,.int .i64 addr,.int .i64 every,.int .i64 now,.agg (k_ band),.int .i64 most] (.agg (g_ (v1_ num addr every now band most))):=by refine t3_ (sh:=[none,none,none,none,some 3,none]) (ls:=[.int .i64 num,.int .i64 addr,.int .i64 every,.int .i64 now]++k_ band++[.int .i64 most]) (c:=c98) (n:=300) (t:=t98) mo ov rfl (by simp only [k_,okL,okC,vK_,List.cons_append,List.nil_append]) (s_ (M_ _)) (λY _=>vy_ _) rfl (by kernel_rfl) λY hf hg=>?_;unfold t98;exact uA_ rfl
def G_ (subs:List GW) (num now:Int) (m:GM):Except Int GW:=match W_ m.paths.l with
 | .error e=>.error e
 | .ok ts=>if ts.length≠1\/m.n<1\/8<m.n\/m.every<0 then .error 1 else if 3<=subs.length then .error 12
   else .ok (v1_ (IntKind.i64.wrap (num+1)) (ts.headD ⟨[],0,0,0⟩).addr m.every now m.band m.n)
def RSb (subs:SV g_ 15) (num now:Int) (m:GM):Nat->List AV->Prop:=λj ws=>match G_ subs.l num now m with
 | .ok w=>j=0/\ws=[ct_ g_ 15 (subs.l++[w]),.int .i64 (IntKind.i64.wrap (num+1)),.int .i64 (IntKind.i64.wrap (num+1))]
 | .error e=>j=1/\ws=[subs.x,.int .i64 num,.int .i64 e]
theorem lB_ {subs:SV g_ 15} {num now:Int} {m:GM} {e:Int} (h:G_ subs.l num now m=.error e):RSb subs num now m 1 [subs.x,.int .i64 num,.int .i64 e]:=by unfold RSb;rw [h];exact ⟨rfl,rfl⟩
theorem faG (T:List GG) {i:Nat} (h:i<T.length):(XOp.faddr 91 1).run Tryz.prog [.vptr (bq_ u_ (T.drop i))]=some (.vptr (.int .i64 T[i].addr::([.int .i64 T[i].kind,.int .i64 T[i].role]++bq_ u_ (T.drop (i+1))))):=by rw [List.drop_eq_getElem_cons h];kernel_rfl
def c55:VC:=⟨⟨[],[]⟩,[(98,[(some 15)])],[],3,true,[(97,vW_)]⟩
def t55:VT:=
 (.callF 97 vW_ [64,65,66,67,68,69,70,71,72,73,74,75,76,77,78,79,80,81,82,83,84,85,86,87,88,89,90,91,92,93,94,95,96,97,98,99,100] 102
 (.cons 1
 (K Q8 [139] 140
 (K Qy [140,J 1] 141
 (.ite 141
 (.done (.tup [J 1,85,86,J 1]))
 (K Qe [92,J 1] 142
 (.ite 142
 (.done (.tup [J 1,85,86,J 1]))
 (K Q9 [92,J 8] 143
 (.ite 143
 (.done (.tup [J 1,85,86,J 1]))
 (K Zr [95,J 0] 144
 (.ite 144
 (.done (.tup [J 1,85,86,J 1]))
 (K Qm [85] 145
 (K Qt [145,J 3] 146
 (.ite 146
 (.done (.tup [J 1,85,86,J 12]))
 (K Q0 [86,J 1] 147
 (K Qd [139,J 0] 148
 (K Z0 [148] 149
 (K Q5 [149] 150
 (.call 98 [147,150,95,88,.agg [96,97,98],92] 151 [(some 15)]
 (K Z2 [85,.agg [151,152,153,154,155,156,157,158,159,160,161,162,163,164,165]] 166
 (.done (.tup [J 0,166,147,147]))))))))))))))))))))
 (.cons 1
 (.done (.tup [J 1,85,86,139]))
 .nil)))
theorem p55 (q:ST) (who:Int) (s:GS) (mail:SV encR 4) (now:Int) (m:GM) (hm:m.Sm) (hs:s.subs.l.length<=1000) (id:Int):CF Tryz.prog 55 ft55 (bk_ q who s mail now++f_ m++[.int .i64 id]) (RSb s.subs s.num now m):=by
 have okw:=s.subs.ok M_;refine vc_ (c:=c55) (n:=300) (t:=t55) mo ov rfl (λY _=>vy_ _) (by kernel_rfl) λY hf hg=>?_;unfold t55;have okE:∀e:Int,okL [s.subs.x,.int .i64 s.num,.int .i64 e]=true:=λe=>by simp only [okL,okC,okw]
 refine a_ (p97 q who s mail now m hm) rfl (ve_ ..) ⟨?_,?_,trivial⟩
 .intro ws h;obtain ⟨ts,e,rfl⟩:=h.ok;have e0:G_ s.subs.l s.num now m=if ts.length≠1\/m.n<1\/8<m.n\/m.every<0 then .error 1 else if 3<=s.subs.l.length then .error 12
   else .ok (v1_ (IntKind.i64.wrap (s.num+1)) (ts.headD ⟨[],0,0,0⟩).addr m.every now m.band m.n):=by unfold G_;rw [e]
  refine vr_ (t_ ts) rfl (vr_ (run_neq ..) rfl (u9_ rfl (λh=>?_) (λh=>?_)));have h:(!decide ((ts.length:Int)=1))=true:=h;have h:¬(ts.length:Int)=1:=(by simpa using h);exact VOK_fin (okE 1) (lB_ (by rw [e0,if_pos (.inl (by omega))]));have h:(!decide ((ts.length:Int)=1))=false:=h;have h1:(ts.length:Int)=1:=(by simpa using h);refine vr_ (run_lss ..) rfl (u9_ rfl (λh=>VOK_fin (okE 1) (lB_ (by rw [e0,if_pos (.inr (.inl (dT h)))]))) (λh2=>?_));refine vr_ (run_gtr ..) rfl (u9_ rfl (λh=>VOK_fin (okE 1) (lB_ (by rw [e0,if_pos (.inr (.inr (.inl (dT h))))]))) (λh3=>?_));refine vr_ (run_lss ..) rfl (u9_ rfl (λh=>VOK_fin (okE 1) (lB_ (by rw [e0,if_pos (.inr (.inr (.inr (dT h))))]))) (λh4=>?_));rw [if_neg (by rintro (h|h|h|h);omega;exact dF h2 h;exact dF h3 h;exact dF h4 h)]at e0;refine vr_ (s.subs.h.len Tryz.underlying43) rfl (vr_ (run_geq ..) rfl (u9_ rfl (λh=>?_) (λh=>?_)));have h:(3:Int)<=(s.subs.l.length:Int):=dT h;exact VOK_fin (okE 12) (lB_ (by rw [e0,if_pos (by omega)]));have h:¬(3:Int)<=(s.subs.l.length:Int):=dF h;rw [if_neg (by omega)]at e0;have h0:0<ts.length:=(by omega);have hd:ts.headD ⟨[],0,0,0⟩=ts[0]:=by
   cases ts with
   |nil=>cases h0
   |cons a r=>rfl
  rw [hd]at e0;refine vr_ (run_add ..) rfl ?_;refine vr_ (iaG (SlV.of ts) h0) (kN_ L_ _) (vr_ (faG ts h0) (by simp only [okC,okL,List.cons_append,List.nil_append];exact kN_ L_ _) (vr_ (sT_ Tryz.underlying3 rfl _ _) rfl ?_));refine uz_ (p98 (IntKind.i64.wrap (s.num+1)) ts[0].addr m.every now m.band m.n) rfl (M_ _) (vr_ (vJ_ oo_ (by decide) (by decide) s.subs _ (by omega)) (ub_ M_ _) ?_);refine VOK_fin (by show okL [ct_ g_ 15 _,.int .i64 (IntKind.i64.wrap (s.num+1)),.int .i64 (IntKind.i64.wrap (s.num+1))]=true;simp only [okL,okC,ub_ M_]) ?_;unfold RSb;rw [e0];exact ⟨rfl,rfl⟩
 intro ws h;obtain ⟨e',e,rfl⟩:=h.er;exact VOK_fin (okE e') (lB_ (by unfold G_;rw [e]))
end Go.Proofs.YtijpblconliffaaGreatDoor.vars
set_option maxRecDepth 1000000
set_option linter.unusedVariables false
set_option linter.unusedSimpArgs false
namespace Go.Proofs.YtijpblconliffaaGreatDoor.vars
open Go Go.Shelf Go.RowKit Go.Lib Go.Sort
theorem sp_ {P:Program} (w:World) (t e ty:TypeId) (z:Value) (zs:List Value) (ht:P.underlying t=some (.slice e)) (hv:∀w,(zeroValue e).run P w=.ok z w) (hz:z.cells=zs.toArray) (h1:∀v∈zs,v.oneCell'=true) (b o c:Nat)
  (hc:∀j,j<zs.length->(w.cell? ⟨b,o+j,none⟩).isSome=true) (hf:∀j,j<zs.length->w.frozen? ⟨b,o+j,none⟩=false):
  (Builtin.clear_ #[t] ty #[.slice (some ⟨b,o,none⟩) 1 c]).run P w=.ok (.tuple #[]) (w.setCells b o zs):=by
 have hzc:(Builtin.zeroCells z.cells 1).toList=zs:=by rw [hz];simp [Builtin.zeroCells];apply List.ext_getElem;simp;intro i h1 h2;simp [Nat.mod_eq_of_lt h2,List.getElem?_eq_getElem h2]
 have hst:=run_storeCells_cells (P:=P) b o zs 0 w (by simpa using hc) (by simpa using hf) h1;simp only [Nat.add_zero]at hst;simp [Builtin.clear_,run_underlying ht,hv,hzc,hst]
def zW:List Value:=[.int .i64 0,.int .i64 0,.int .i64 0,.int .i64 0,.int .i64 0,.int .i64 0,.float .f64 0,.int .i64 0,.bool false,.bool false,.int .i64 0,.int .i64 0,.float .f64 0,.int .i64 0,.slice none 0 0]
theorem info100:Tryz.prog.info? 100=some (Tryz.prog.info? 100).get! :=by kernel_rfl
theorem size100:(Tryz.prog.info? 100).get!.size=15:=by kernel_rfl
theorem wL_:∃z,(∀w,(zeroValue 100).run Tryz.prog w=.ok z w)/\z.cells=zW.toArray:=by obtain ⟨ti,hi,z,hz,hc⟩:∃ti,Tryz.prog.info? 100=some ti/\∃z,ti.zero=some z/\z.cells=zW.toArray:=⟨_,info100,((Tryz.prog.info? 100).get!.zero).get!,by kernel_rfl,by kernel_rfl⟩;refine ⟨z,λw=>?_,hc⟩;simp [zeroValue,typeInfo,hi,hz]
theorem zW_one:∀v∈zW,v.oneCell'=true:=by decide
set_option maxHeartbeats 4000000 in
theorem vA_ (w:World) (blk off cap n i j:Nat) (news:List Value) (hj:j=i+1) (hjn:j<=n) (hcap:n<=cap)
  (hn:news.length=(n-j)*15) (hsrc:∀t u,news[t]? =some u->w.cell? ⟨blk,off+j*15+t,none⟩=some u) (hone:∀u∈news,u.oneCell'=true)
  (hcell:∀t,t<n*15->(w.cell? ⟨blk,off+t,none⟩).isSome=true/\w.frozen? ⟨blk,off+t,none⟩=false)
  (hW:∀t,t<15->((w.drew.setCells blk (off+i*15) news).cell? ⟨blk,off+(n-1)*15+t,none⟩).isSome=true/\(w.drew.setCells blk (off+i*15) news).frozen? ⟨blk,off+(n-1)*15+t,none⟩=false):
  Calls Tryz.prog 101 #[.slice (some ⟨blk,off,none⟩) n cap,.int .i64 i,.int .i64 j] w λe w'=>e=.returned (.slice (some ⟨blk,off,none⟩) (n-1) cap)/\w'=(w.drew.setCells blk (off+i*15) news).setCells blk (off+(n-1)*15) zW:=by
 have mixed:Tryz.prog.follows .mixedOrders=true:=by kernel_rfl
 obtain ⟨z,hz1,hz2⟩:=wL_;have hi0:=info100;have hsz:=size100;generalize (Tryz.prog.info? 100).get! =ti at hi0 hsz;have hlt:i<j:=by omega
 obtain ⟨A,hA,hA2⟩:∃A:Addr,(if cap=j then some (⟨blk,off,none⟩:Addr)else some ⟨blk,off+j*15,none⟩)=some A/\Hid (∀t u,news[t]? =some u->w.drew.cell? (A.add t)=some u):=by by_cases h:cap=j;refine ⟨⟨blk,off,none⟩,by simp [h],λt u hu=>?_⟩;have h0:n-j=0:=(by omega);rw [h0,Nat.zero_mul]at hn;rw [List.length_eq_zero_iff.1 hn]at hu;simp at hu;refine ⟨⟨blk,off+j*15,none⟩,by simp [h],λt u hu=>?_⟩;rw [Addr.add_lit];exact hsrc t u hu
 have s1:Hid (news.length=(n-j)*15):=hn;have s2:Hid (∀u∈news,u.oneCell'=true):=hone;have s3:Hid (∀t,t<news.length->(w.drew.cell? ⟨blk,off+i*15+t,none⟩).isSome=true/\w.drew.frozen? ⟨blk,off+i*15+t,none⟩=false):=by intro t ht;have:=hcell (i*15+t) (by omega);rw [←Nat.add_assoc]at this;exact this
 obtain ⟨W1,hW1⟩:∃W1,W1=w.drew.setCells blk (off+i*15) news:=⟨_,rfl⟩;rw [←hW1]at hW;have hcl:∀ty,(Builtin.clear_ #[43] ty #[.slice (some ⟨blk,off+(i+(n-j))*15,none⟩) (n-(i+(n-j))) (cap-(i+(n-j)))]).run Tryz.prog W1=.ok (.tuple #[]) (W1.setCells blk (off+(n-1)*15) zW):=by intro ty;rw [show n-(i+(n-j))=1 by omega,show i+(n-j)=n-1 by omega];exact sp_ W1 43 100 ty z zW Tryz.underlying43 hz1 hz2 zW_one blk (off+(n-1)*15) _ (λt ht=>(hW t ht).1) (λt ht=>(hW t ht).2)
 have hW':Hid (W1=w.drew.setCells blk (off+i*15) news):=hW1;have hic:i<=cap:=by omega
 have hjc:j<=cap:=by omega
 have hj':Hid (j=i+1):=hj;clear hW1 hn hsrc hone hcell hW hj
 go_enter Tryz.func101,Tryz.ntmps101
 go_wp2_with fail
 go_region_law_o (refine step_append_room rfl (.tmp 22) (.tmp 25) 43 rfl 100 ti 15 Tryz.underlying43 hi0 hsz blk off i cap (by simp [Act.eval,Act.put]) A (n-j) (cap-j) news (by simp [Act.eval,Act.put]) s1.out hA2.out s2.out (by omega) s3.out ?_;rw [←hW'.out])
 go_wp2
 go_ret
 exact ⟨by rw [show n-1=i+(n-j) by have:=hj'.out;omega];rfl,by rw [hW'.out]⟩
end Go.Proofs.YtijpblconliffaaGreatDoor.vars
set_option maxRecDepth 1000000
set_option linter.unusedVariables false
set_option linter.unusedSimpArgs false
namespace Go.Proofs.YtijpblconliffaaGreatDoor.vars
open Go Go.Sx
theorem vL_ {E:Env}:∀(cs:List AV) (vs:List Value),vs.length=cs.length->(∀(i:Nat) (a:AV) (v:Value),cs[i]? =some a->vs[i]? =some v->Con E a v)->ConL E cs vs
 |[],vs,h,_=>by simpa [ConL]using h
 |a::r,[],h,_=>by simp at h
 |a::r,v::vs,h,h1=>⟨v,vs,rfl,h1 0 a v rfl rfl,vL_ r vs (by simpa using h) λi a v ha hv=>h1 (i+1) a v ha hv⟩
theorem sx_ {E:Env}:∀(k:Nat) (cs:List AV) (vs:List Value),ConL E cs vs->ConL E (cs.drop k) (vs.drop k)
 |0,cs,vs,h=>h
 |k+1,[],vs,h=>by have h:vs=[]:=h;subst h;exact h
 |k+1,a::r,vs,h=>by obtain ⟨v,r',rfl,_,h⟩:=h;exact sx_ k r r' h
theorem sZ_:∀(k:Nat) (l:List AV),okL l=true->okL (l.drop k)=true
 |0,l,h=>h
 |k+1,[],h=>h
 |k+1,a::r,h=>sZ_ k r (by rw [aY_]at h;exact (aa_ h).2)
def zA:List AV:=[.int .i64 0,.int .i64 0,.int .i64 0,.int .i64 0,.int .i64 0,.int .i64 0,.flt .f64 0,.int .i64 0,.bool false,.bool false,.int .i64 0,.int .i64 0,.flt .f64 0,.int .i64 0,.nsl]
theorem wr_ (E:Env):ConL E zA zW:=by simp [zA,zW,ConL,Con]
theorem ws_:a8_ zA=true:=rfl
theorem vT_ (l:List GW) {i:Nat} (hi:i<l.length):bq_ g_ (l.eraseIdx i)=(bq_ g_ l).take (i*15)++(bq_ g_ l).drop ((i+1)*15):=by
 have e1:l=l.take i++l.drop i:=(List.take_append_drop ..).symm;have e2:l=l.take (i+1)++l.drop (i+1):=(List.take_append_drop ..).symm;have h1:(bq_ g_ (l.take i)).length=i*15:=by rw [bC_ oo_,List.length_take];congr 1;omega
 have h2:(bq_ g_ (l.take (i+1))).length=(i+1)*15:=by rw [bC_ oo_,List.length_take];congr 1;omega
 have t1:(bq_ g_ l).take (i*15)=bq_ g_ (l.take i):=by
  conv=>lhs;rw [e1,dh_]
  rw [←h1,List.take_left]
 have t2:(bq_ g_ l).drop ((i+1)*15)=bq_ g_ (l.drop (i+1)):=by
  conv=>lhs;rw [e2,dh_]
  rw [←h2,List.drop_left]
 rw [t1,t2,←dh_,List.eraseIdx_eq_take_drop_succ]
theorem yC_ (s:SV g_ 15) {i:Nat} (hi:i<s.l.length):CF Tryz.prog 101 ft101 [s.x,.int .i64 (i:Int),.int .i64 ((i+1:Nat):Int)] (λ_ ws=>ws=[dq_ g_ 15 (s.l.eraseIdx i)]):=
 ⟨rfl,λY hf B pr E w us hy hg hr hcon=>by
   have hat:=bB_ [s.x,.int .i64 (i:Int),.int .i64 ((i+1:Nat):Int)] hf;have h64:E.sy 64=some s.x:=(by rw [hy.v];exact hat 0 _ rfl);have h65:E.sy 65=some (.int .i64 (i:Int)):=(by rw [hy.v];exact hat 1 _ rfl);have h66:E.sy 66=some (.int .i64 ((i+1:Nat):Int)):=(by rw [hy.v];exact hat 2 _ rfl);have hx:s.x=.vsl s.l.length 15 (bq_ g_ s.l):=(by rcases s.h with h|⟨h,_⟩;exact h;rw [h]at hi;cases hi);have oks:okL (bq_ g_ s.l)=true:=kN_ M_ s.l;have hcl:(bq_ g_ s.l).length=s.l.length*15:=bC_ oo_ s.l;obtain ⟨n,hn⟩:∃n,n=s.l.length:=⟨_,rfl⟩;have her:=vT_ s.l hi;have hel:(s.l.eraseIdx i).length=n-1:=(by rw [List.length_eraseIdx_of_lt hi,hn]);have okE:okL (bq_ g_ (s.l.eraseIdx i))=true:=kN_ M_ _;have hlE:(bq_ g_ (s.l.eraseIdx i)).length=(n-1)*15:=(by rw [bC_ oo_,hel]);have okws:okL [dq_ g_ 15 (s.l.eraseIdx i)]=true:=(by simp only [okL,r9_ M_]);have hws:dq_ g_ 15 (s.l.eraseIdx i)=.vsl (n-1) 15 (bq_ g_ (s.l.eraseIdx i)):=(by unfold dq_;rw [hel]);rw [hx,←hn]at h64;rw [←hn]at hi hcl;generalize bq_ g_ s.l=cells at*;generalize bq_ g_ (s.l.eraseIdx i)=left at*;have e:bo_ 64 (ci_ ft101.ent.slots)=[.slx 0 15 64,.sym 65,.sym 66]:=(by kernel_rfl);rw [e]at hcon;obtain ⟨v0,r0,rfl,c0,v1,r1,rfl,c1,v2,r2,rfl,c2,rfl⟩:=hcon;obtain ⟨a1,q1,_,c1⟩:=c1;rw [h65]at q1;cases q1;obtain rfl:v1=.int .i64 (i:Int):=c1;obtain ⟨a2,q2,_,c2⟩:=c2;rw [h66]at q2;cases q2;obtain rfl:v2=.int .i64 ((i+1:Nat):Int):=c2;obtain ⟨a0,q0,c0⟩:=c0;rw [h64]at q0;cases q0;rcases c0 with ⟨c0,_⟩|⟨len,cs,c0,b,o,m,c,off',hφ,hsz,rfl,hoff,hle,hfit⟩;cases c0;cases c0;obtain rfl:=hoff (by omega);have hk0:(ft101.ent.heap 64).get 0=some (.syl 64):=(by kernel_rfl);obtain ⟨hr1,_⟩:=hr.expand hk0 h64;have hk1:((ft101.ent.heap 64).set 0 (.cells cells)).get 0=some (.cells cells):=AHeap.get_set_same _ (by decide) _;obtain ⟨H1,hH1⟩:∃H1,H1=(ft101.ent.heap 64).set 0 (.cells cells):=⟨_,rfl⟩;rw [←hH1]at hr1 hk1;obtain ⟨arr,t,g1,g2,g3,g4⟩:=hr1.blk hk1 hφ;obtain ⟨vals,hvals⟩:∃vals,vals=(arr.toList.drop o).take cells.length:=⟨_,rfl⟩;have hvl:vals.length=cells.length:=(by have:arr.toList.length=arr.size:=Array.length_toList;rw [hvals,List.length_take,List.length_drop];omega);have hvg:∀j,j<cells.length->vals[j]? =arr[o+j]? :=λj hj=>(by rw [hvals,List.getElem?_take,if_pos hj,List.getElem?_drop,Array.getElem?_toList]);have hcv:ConL E cells vals:=vL_ cells vals hvl λj a v ha hv=>(by have hj:j<cells.length:=(List.getElem?_eq_some_iff.1 ha).1;obtain ⟨v',k1,k2⟩:=g4 j a ha;rw [hvg j hj,k1]at hv;cases hv;exact k2);have hcell:∀j,w.cell? ⟨b,o+j,none⟩=arr[o+j]? :=λj=>(by simp [World.cell?,g1]);have hfr:∀j,w.frozen? ⟨b,o+j,none⟩=false:=λj=>(by simp [World.frozen?,g1]);have hiso:∀j,j<n*15->(w.cell? ⟨b,o+j,none⟩).isSome=true:=λj hj=>(by rw [hcell,←hvg j (by omega),List.getElem?_eq_getElem (by omega)];rfl);obtain ⟨X,hX⟩:∃X,X=cells.drop ((i+1)*15):=⟨_,rfl⟩;obtain ⟨news,hnews⟩:∃news,news=vals.drop ((i+1)*15):=⟨_,rfl⟩;have hXl:X.length=(n-(i+1))*15:=(by rw [hX,List.length_drop,hcl,Nat.sub_mul]);have hnl:news.length=(n-(i+1))*15:=(by rw [hnews,List.length_drop,hvl,hcl,Nat.sub_mul]);have hXn:ConL E X news:=(by rw [hX,hnews];exact sx_ _ _ _ hcv);have okX:okL X=true:=(by rw [hX];exact sZ_ _ _ oks);have hone:=X_ okX;have hL:(cells.take (i*15)).length=i*15:=(by rw [List.length_take];omega);obtain ⟨M,hM⟩:∃M,M=(cells.drop (i*15)).take X.length:=⟨_,rfl⟩;obtain ⟨Z,hZ⟩:∃Z,Z=(cells.drop (i*15)).drop X.length:=⟨_,rfl⟩;have hMl:M.length=X.length:=(by rw [hM,List.length_take,List.length_drop];omega);have hZl:Z.length=15:=(by rw [hZ,List.length_drop,List.length_drop];omega);have hcut:cells=cells.take (i*15)++(M++Z):=(by rw [hM,hZ,List.take_append_drop,List.take_append_drop]);have hset1:c9_ (i*15) X cells=some (cells.take (i*15)++(X++Z)):=(by have:=J_ (cells.take (i*15)) X M Z hMl;rw [hL,←hcut]at this;exact this);have hset2:c9_ ((n-1)*15) zA (cells.take (i*15)++(X++Z))=some (left++zA):=(by have:=J_ (cells.take (i*15)++X) zA Z [] (by rw [hZl];rfl);rw [List.append_nil,List.append_nil,List.length_append,hL,List.append_assoc]at this;rw [show (n-1)*15=i*15+X.length by omega,this,her,hX]);have hrd:=hr1.drew;obtain ⟨w1,s1,s2⟩:=g8_ (P:=Tryz.prog) hrd hk1 hφ (off:=i*15) hXn hone hset1;have hw1:=run_storeCells_cells (P:=Tryz.prog) b (o+i*15) news 0 w.drew (λj hj=>by
    have:=hiso (i*15+j) (by omega);rw [←Nat.add_assoc]at this;exact this) (λj hj=>by
    have:=hfr (i*15+j);rw [←Nat.add_assoc]at this;exact this) (fX_ hXn hone)
   rw [Nat.add_zero,s1]at hw1;injection hw1 with _ hw1
   have hk2:(H1.set 0 (.cells (cells.take (i*15)++(X++Z)))).get 0=some (.cells (cells.take (i*15)++(X++Z))):=AHeap.get_set_same _ (by decide) _;obtain ⟨w2,s3,s4⟩:=g8_ (P:=Tryz.prog) s2 hk2 hφ (off:=(n-1)*15) (wr_ E) ws_ hset2;obtain ⟨arr1,t1,f1,f2,f3,f4⟩:=s2.blk hk2 hφ;have hl1:(cells.take (i*15)++(X++Z)).length=n*15:=(by rw [List.length_append,List.length_append,hL,hZl];omega);have hcell1:∀j,j<15->(w1.cell? ⟨b,o+(n-1)*15+j,none⟩).isSome=true/\w1.frozen? ⟨b,o+(n-1)*15+j,none⟩=false:=λj hj=>(by refine ⟨?_,by simp [World.frozen?,f1]⟩;have hb:o+(n-1)*15+j<arr1.size:=(by omega);simp [World.cell?,f1,hb]);have hw2:=run_storeCells_cells (P:=Tryz.prog) b (o+(n-1)*15) zW 0 w1 (λj hj=>(hcell1 j hj).1) (λj hj=>(hcell1 j hj).2) (fX_ (wr_ E) ws_);rw [Nat.add_zero,s3]at hw2;injection hw2 with _ hw2
   have hrun:=vA_ w b o c n i (i+1) news rfl hi hle hnl (λj u hu=>by have hj:j<news.length:=(List.getElem?_eq_some_iff.1 hu).1;rw [Nat.add_assoc,hcell,←hvg _ (by omega)];rw [hnews,List.getElem?_drop]at hu;exact hu) (fX_ hXn hone) (λj hj=>⟨hiso j hj,hfr j⟩) (λj hj=>by rw [←hw1];exact hcell1 j hj);refine Calls.mono hrun λe w' he=>?_;obtain ⟨rfl,rfl⟩:=he;rw [←hw1,←hw2];have h4:=s4.trim (AHeap.get_set_same _ (by decide) _) ((n-1)*15);have h4t:(left++zA).take ((n-1)*15)=left:=(by rw [←hlE,List.take_left]);rw [h4t]at h4;obtain ⟨ws,hws'⟩:∃ws,ws=dq_ g_ 15 (s.l.eraseIdx i):=⟨_,rfl⟩;obtain ⟨p1,p2,p3,p4⟩:=hf.puts [s.x,.int .i64 (i:Int),.int .i64 ((i+1:Nat):Int)];obtain ⟨q1,q2,q3,q4⟩:=p1.puts [ws];have hae:=bB_ [ws] p1;have hv:∀k a,E.sy k=some a->((Y.puts 64 [s.x,.int .i64 (i:Int),.int .i64 ((i+1:Nat):Int)]).puts 67 [ws]).v k=some a:=λk a ha=>(by rw [hy.v]at ha;exact q2 _ _ ha);have hl:∀k l,E.syl k=some l->((Y.puts 64 [s.x,.int .i64 (i:Int),.int .i64 ((i+1:Nat):Int)]).puts 67 [ws]).l k=some l:=λk l ha=>(by rw [hy.l]at ha;exact (congrFun q3 k).trans ha);have h67:((Y.puts 64 [s.x,.int .i64 (i:Int),.int .i64 ((i+1:Nat):Int)]).puts 67 [ws]).v 67=some (.vsl (n-1) 15 left):=(by have:=hae 0 ws rfl;rw [hws',hws]at this;rw [hws',hws];exact this);have h5:=h4.with (Y:=((Y.puts 64 [s.x,.int .i64 (i:Int),.int .i64 ((i+1:Nat):Int)]).puts 67 [ws])) hv hl;have h6:=h5.collapse (n:=67) (AHeap.get_set_same _ (by decide) _) (at_ okE) (by rw [a1_ _ okE];exact h67) (by rw [a1_ _ okE];exact okE) hlE;refine ⟨_,.ret (.slx 0 15 67) _,⟨0,[ws],false,_,rfl,hws'▸rfl,hws'▸okws,rfl,rfl,rfl⟩,E.with ((Y.puts 64 [s.x,.int .i64 (i:Int),.int .i64 ((i+1:Nat):Int)]).puts 67 [ws]),Env.with_leF 0 λk hk=>by rw [hy.v];exact q4 k (by omega),⟨rfl,rfl,hy.res⟩,_,rfl,?_,?_⟩;exact ⟨_,h67,.inr ⟨n-1,left,rfl,b,o,m,c,0,hφ,hsz,rfl,λ_=>rfl,by omega,hfit⟩⟩
   .rw [hH1]at h6;exact h6⟩
def xl_:VC:=⟨⟨[],[]⟩,[],[],0,true,[]⟩
def wO_:VT:=
 (K Qw [64,82] 91
 (.done (91)))
theorem yB_ (w:GW) (m:GM):ju_ Tryz.prog 100 [.agg (g_ w),.vptr (f_ m)] (.bool (decide (w.num=m.n))):=by have okw:=M_ w;have okm:=v_ m;refine uU_ (args':=[.agg (aj_ 64 15),.vptr (aj_ 79 12)]) (ls:=g_ w++f_ m) (c:=xl_) (n:=300) (m:=91) (t:=wO_) mo ov (by simp only [mD_,Go.Sx.okI,okw,okm,Bool.and_self]) (by kernel_rfl) (kN_.okL_join okw okm) rfl (λY _=>rfl) (λY _=>vy_ _) rfl (by kernel_rfl) λY hf hg=>?_;unfold wO_;exact vr_ (run_eql ..) rfl (uA_ rfl)
def F_ (n:Int):List GW->Option Nat
 |[]=>none
 |w::r=>if w.num=n then some 0 else (F_ n r).map (· +1)
def vD_ (n:Int) (l:List GW):Int:=match F_ n l with
 |some i=>(i:Int)
 |none=> -1
theorem sY_ (n:Int):∀(l:List GW) (i:Nat),(∀j (h:j<i) (h':j<l.length),l[j].num≠n)->F_ n l=(F_ n (l.drop i)).map (· +i)
 |l,0,_=>by simp
 |[],i+1,_=>by simp [F_]
 |w::r,i+1,h=>by
  have h0:w.num≠n:=h 0 (by omega) (by simp);have ih:=sY_ n r i λj hj h'=>h (j+1) (by omega) (by simpa using h');simp only [F_,if_neg h0,List.drop_succ_cons,ih,Option.map_map]
  congr 1
theorem qj_ {E:Env}:∀(cs:List AV) (vs:List Value) (k:Nat),Con0L E cs vs->okL cs=true->(∀(i:Nat) (a:AV),cs[i]? =some a->E.sy (k+i)=some a)->ConL E (aj_ k cs.length) vs
 |[],vs,k,h,_,_=>by simpa [Con0L,ConL,aj_]using h
 |a::r,vs,k,h,ho,hs=>by
  obtain ⟨v,r',rfl,h1,h2⟩:=h;rw [aY_]at ho;obtain ⟨o1,o2⟩:=aa_ ho;refine ⟨v,r',rfl,⟨a,hs 0 a rfl,bj_ o1,h1⟩,qj_ r r' (k+1) h2 o2 λi b hb=>?_⟩;have:=hs (i+1) b hb
  rwa [show k+1+i=k+(i+1) by omega]
theorem w9_ {m:GM} {x:AV} {B:World} {pr:Nat->Prop} {E:Env} {w:World} {us:List Value} (h:∀(i:Nat) (a:AV),[x,.fn 100 [.vptr (f_ m)]][i]? =some a->E.sy (64+i)=some a) (h2:∀(i:Nat) (a:AV),(f_ m)[i]? =some a->E.sy (66+i)=some a)
  (hr:Rel B pr E (ft99.ent.heap 64) w) (hc:ConL E (bo_ 64 (ci_ ft99.ent.slots)) us):Rel B pr E (ft99.ent.heap 64) w/\ConL E [.slx 0 15 64,.fn 100 [.vptr (aj_ 66 12)]] us:=by
 refine ⟨hr,?_⟩;have e:bo_ 64 (ci_ ft99.ent.slots)=[.slx 0 15 64,.sym 65]:=by kernel_rfl
 rw [e]at hc;obtain ⟨v0,r0,rfl,c0,v1,r1,rfl,c1,rfl⟩:=hc;refine ⟨v0,_,rfl,c0,v1,_,rfl,?_,rfl⟩;obtain ⟨a,q1,_,q2⟩:=c1;have:=h 1 _ rfl;rw [q1]at this;cases this;simp only [Con0]at q2;obtain ⟨vs,e1,e2⟩:=q2;simp only [Con0L]at e2;obtain ⟨u,r,e3,e4,e5⟩:=e2;subst e3 e5;simp only [Con0]at e4;obtain ⟨b,o,vs',k1,k2,k3⟩:=e4;simp only [Con];refine ⟨_,e1,u,[],rfl,?_,rfl⟩;simp only [Con];exact ⟨b,o,vs',k1,qj_ (f_ m) vs' 66 k2 (v_ m) h2,k3⟩
def cQ99:VC:=⟨⟨[],[]⟩,[(100,[none])],[(0,[⟨[(8,.slx 0 0 0),(0,.ptx 0 64 15 0),(1,.fn 100 [.vptr [66,67,68,69,70,71,72,73,74,75,76,77]]),(7,78)],[],1,1,[],[],[(0,64)]⟩])],1,true,[]⟩
def xX_:VT:=
 (K Qm [64] 78
 (.loop 79 0 [J 0]
 (.cons 1
 (K Q2 [79,78] 80
 (.ite 80
 (K .inb [64,79] 81
 (.lt Zh [64,81] 82 (some 15)
 (.call 100 [.agg [82,83,84,85,86,87,88,89,90,91,92,93,94,95,96],.vptr [66,67,68,69,70,71,72,73,74,75,76,77]] 97 [none]
 (.ite 97
 (.done (.tup [J 0,79]))
 (K Q0 [79,J 1] 98
 (.again 0 0 [98]))))))
 (.done (.tup [J 0,.int .i64 (-1)]))))
 .nil)))
theorem p99 (s:SV g_ 15) (hl:s.l.length<=1000) (m:GM):CF Tryz.prog 99 ft99 [s.x,.fn 100 [.vptr (f_ m)]] (λ_ ws=>ws=[.int .i64 (vD_ m.n s.l)]):=by
 refine vb_ (c:=cQ99) (ex:=f_ m) (args:=[.slx 0 15 64,.fn 100 [.vptr (aj_ 66 12)]]) (H:=ft99.ent.heap 64) (n:=300) (t:=xX_) mo ov rfl (λY=>vy_ _) rfl (λB pr E w us h h2 hr hc=>w9_ h h2 hr hc) (by kernel_rfl) λY hf hg=>?_;unfold xX_;refine vr_ (s.h.len Tryz.underlying43) rfl ?_;refine uB_ (ι:=Nat) (λi=>[.int .i64 (i:Int)]) (λi=>i<=s.l.length/\∀j (h:j<i) (h':j<s.l.length),s.l[j].num≠m.n) (λi=>s.l.length-i) 0 ⟨Nat.zero_le _,λj h=>absurd h (Nat.not_lt_zero _)⟩ rfl (λ_ _=>rfl) (λi j _ _ h=>?_) (λi hi=>?_)
 .have h:=(List.cons.inj h).1;injection h with _ h
  omega
 obtain ⟨hi,hne⟩:=hi;have hd:=sY_ m.n s.l i hne;refine vr_ (run_lss ..) rfl (u9_ rfl (λhc=>?_) (λhc=>?_));have hc:(i:Int)<(s.l.length:Int):=dT hc;have hc:i<s.l.length:=(by omega);refine vr_ (wx_ s hc) rfl (va_ (w7_ s hc) rfl (M_ _) (uz_ (yB_ s.l[i] m) rfl rfl (u9_ rfl (λhe=>?_) (λhe=>?_))));have he:s.l[i].num=m.n:=dT he;refine VOK_fin rfl ?_;unfold vD_;rw [hd,List.drop_eq_getElem_cons hc];simp only [F_,if_pos he,Option.map_some,Nat.zero_add];rfl;have he:¬s.l[i].num=m.n:=dF he;refine vr_ (d_ (by omega) (by omega)) rfl (up_ rfl ⟨i+1,⟨hc,λj hj h'=>?_⟩,rfl,by omega⟩);rcases Nat.lt_or_ge j i with h|h;exact hne j h h';have e:j=i:=(by omega);subst e;exact he;have hc:¬(i:Int)<(s.l.length:Int):=dF hc;have e:i=s.l.length:=(by omega);refine VOK_fin rfl ?_;unfold vD_;rw [hd,e,List.drop_length];rfl
theorem vO_ (n:Int):∀(l:List GW) (i:Nat),F_ n l=some i->i<l.length
 |[],i,h=>by cases h
 |w::r,i,h=>by
  unfold F_ at h;split at h;cases h;simp
  .cases e:F_ n r with
   |none=>rw [e]at h;cases h
   |some j=>rw [e]at h;cases h;have:=vO_ n r j e;simp;omega
def REn (subs:SV g_ 15) (num:Int) (n:Int):Nat->List AV->Prop:=λj ws=>match F_ n subs.l with
 |some i=>j=0/\ws=[dq_ g_ 15 (subs.l.eraseIdx i),.int .i64 num]
 |none=>j=1/\ws=[subs.x,.int .i64 num,.int .i64 11]
def c56:VC:=⟨⟨[],[]⟩,[],[],2,true,[(99,ft99),(101,ft101)]⟩
def t56:VT:=
 (.callF 99 ft99 [85,.fn 100 [.vptr [89,90,91,92,93,94,95,96,97,98,99,100]]] 101
 (.cons 1
 (K Qe [103,J 0] 104
 (.ite 104
 (.done (.tup [J 1,85,86,J 11]))
 (K Q0 [103,J 1] 105
 (.callF 101 ft101 [85,103,105] 106
 (.cons 1
 (.done (.tup [J 0,109,86]))
 .nil)))))
 .nil))
theorem p56 (q:ST) (who:Int) (s:GS) (mail:SV encR 4) (now:Int) (m:GM) (hs:s.subs.l.length<=1000):CF Tryz.prog 56 ft56 (bk_ q who s mail now++f_ m) (REn s.subs s.num m.n):=by
 have okw:=s.subs.ok M_;have okm:=v_ m;refine vc_ (c:=c56) (n:=300) (t:=t56) mo ov rfl (λY _=>vy_ _) (by kernel_rfl) λY hf hg=>?_;unfold t56;refine a_ (p99 s.subs hs m) rfl (by simp only [okL,okC,okw,okm]) ⟨?_,trivial⟩;rintro ws rfl;cases hx:F_ m.n s.subs.l with
 |none=>have e:vD_ m.n s.subs.l= -1:=(by unfold vD_;rw [hx]);rw [e];refine vr_ (r:=.bool true) (by kernel_rfl) rfl (u9_ (t:=true) rfl (λ_=>VOK_fin (by show okL [s.subs.x,.int .i64 s.num,.int .i64 11]=true;simp only [okL,okC,okw]) ?_) (λh=>by cases h));unfold REn;rw [hx];exact ⟨rfl,rfl⟩
 |some i=>have e:vD_ m.n s.subs.l=(i:Int):=(by unfold vD_;rw [hx]);have hi:=vO_ _ _ _ hx;rw [e];refine vr_ (run_lss ..) rfl (u9_ rfl (λh=>?_) (λ_=>?_));have h:(i:Int)<0:=dT h;omega;refine vr_ (d_ (by omega) (by omega)) rfl ?_;refine a_ (yC_ s.subs hi) rfl (by simp only [okL,okC,okw]) ⟨?_,trivial⟩;rintro ws rfl;refine VOK_fin (by show okL [dq_ g_ 15 _,.int .i64 s.num]=true;simp only [okL,okC,r9_ M_]) ?_;unfold REn;rw [hx];exact ⟨rfl,rfl⟩
end Go.Proofs.YtijpblconliffaaGreatDoor.vars
