/-
  Tags by their paths, pages of them.
-/
import Derived.Test.YtijpblconliffaaGreatDoorFA
import Derived.Test.YtijpblconliffaaGreatDoorRows
import Derived.Shelf.RegionOpenPlain
import Derived.WalkKit
import Derived.Deep.LoopGhost
import Derived.Deep.RegionLaw
import Derived.Lib.Walk
import Derived.Sort.WalkB12
import Derived.Lib.SliceRun
set_option maxRecDepth 100000
set_option linter.unusedVariables false
set_option linter.unusedSimpArgs false
namespace Go.Proofs.YtijpblconliffaaGreatDoor.vars
open Go Go.Sx
abbrev w_ (T:List GG):AV:=cs_ t_ 4 T
abbrev TgV (T:List GG) (a:AV):Prop:=SlV t_ 4 T a
theorem o_ (T:List GG):okC (w_ T)=true:=t5_ S_ T
theorem vw_ {a:AV} (h:okC a=true):okL [a]=true:=by simp only [okL,h]
theorem vx_ (T:List GG):Go.Sx.okI (w_ T)=true:=sE_ (o_ T)
theorem q_ (T:List GG):(XOp.len 87).run Tryz.prog [w_ T]=some (.int .i64 (T.length:Int)):=t2_ Tryz.underlying87 T
theorem iaG {T:List GG} {a:AV} (hx:TgV T a) {i:Nat} (h:i<T.length):(XOp.iaddr 87).run Tryz.prog [a,.int .i64 (i:Int)]=some (.vptr (bq_ t_ (T.drop i))):=hx.ia (e:=91) Tryz.underlying87 (ti:=(Tryz.prog.info? 91).get!) (by kernel_rfl) (by kernel_rfl) vs_ h .i64
theorem ldG {T:List GG} {i:Nat} (h:i<T.length):(XOp.load 91).run Tryz.prog [.vptr (bq_ t_ (T.drop i))]=some (.agg (t_ T[i])):=sO_ (ti:=(Tryz.prog.info? 91).get!) Tryz.underlying91 rfl (by kernel_rfl) (by kernel_rfl) vs_ h
theorem wS_ {i n:Nat} (h:i<n) (hn:n<=1000):IntKind.i64.wrap ((i:Int)+1)=((i+1:Nat):Int):=by rw [vz_ (by omega) (by omega)];rfl
theorem u9_ {P:Program} {Q:AV->Prop} {L:List (Nat->List AV->Prop)} {Y:Sy} {i:Nat} {a b:VT} (h:Y.v i=some (.bool true)) (h1:VOK P Q L Y a):VOK P Q L Y (.ite i a b):=u1_ h (λ_=>h1) (λh=>by cases h)
theorem u7_ {P:Program} {Q:AV->Prop} {L:List (Nat->List AV->Prop)} {Y:Sy} {i:Nat} {a b:VT} (h:Y.v i=some (.bool false)) (h1:VOK P Q L Y b):VOK P Q L Y (.ite i a b):=u1_ h (λh=>by cases h) (λ_=>h1)
def g_ (s:List UInt8):List GG->GG×Bool
 |[]=>(⟨[],0,0,0⟩,false)
 |t::r=>if t.path=s then (t,true)else g_ s r
theorem N_ (s:List UInt8):∀T:List GG,(∃i,∃h:i<T.length,T[i].path=s/\(∀j (h':j<i),T[j].path≠s)/\g_ s T=(T[i],true))\/((∀j (h:j<T.length),T[j].path≠s)/\g_ s T=(⟨[],0,0,0⟩,false))
 |[]=>.inr ⟨λj h=>by simp at h,rfl⟩
 |t::r=>by
  by_cases ht:t.path=s;exact .inl ⟨0,by simp,ht,λj h=>absurd h (Nat.not_lt_zero _),by simp [g_,ht]⟩
  .rcases N_ s r with ⟨i,h,h1,h2,h3⟩|⟨h1,h2⟩
   .refine .inl ⟨i+1,by simpa using h,h1,λj hj=>?_,by simp only [g_,if_neg ht,h3];rfl⟩;cases j with
    |zero=>exact ht
    |succ j=>exact h2 j (by omega)
   .refine .inr ⟨λj h=>?_,by simp only [g_,if_neg ht,h2]⟩;cases j with
    |zero=>exact ht
    |succ j=>exact h1 j (by simpa using h)
def wo_:VC:=⟨⟨[],[]⟩,[],[],0,true,[]⟩
def vZ_:VT:=
 (K (.bin .eql 9 false false) [64,68] 69
 (.done (69)))
theorem xu_ (t:GG) (s:List UInt8):jv_ Tryz.prog 152 [.agg (t_ t),.vptr [.str s]] (.bool (decide (t.path=s))):=by refine uN_ (args':=[.agg [.sym 64,.sym 65,.sym 66,.sym 67],.vptr [.sym 68]]) (ls:=t_ t++[.str s]) (c:=wo_) (n:=300) (m:=69) (t:=vZ_) mo ov rfl rfl rfl rfl (λY _=>rfl) (λY _=>vq_ _) rfl (by kernel_rfl) λY hf hg=>?_;unfold vZ_;exact vj_ (ve_ ..) rfl (us_ rfl)
def cQ151:VC:=⟨⟨[],[]⟩,[(152,[none])],[(0,[⟨[(8,.slx 0 0 0),(0,64),(1,.fn 152 [.vptr [65]]),(7,66)],[],0,1,[],[],[]⟩])],0,true,[]⟩
def vY_:VT:=
 (K Qb [64] 66
 (.loop 67 0 [J 0]
 (.cons 1
 (K Q2 [67,66] 68
 (.ite 68
 (K Qd [64,67] 69
 (.lt Qg [69] 70 (some 4)
 (.call 152 [.agg [70,71,72,73],.vptr [65]] 74 [none]
 (.ite 74
 (.done (67))
 (K Q1 [67,J 1] 75
 (.again 0 0 [75]))))))
 (.done (.int .i64 (-1)))))
 .nil)))
theorem xt_ (T:List GG) (hT:T.length<=1000) (s:List UInt8):((∃i,∃h:i<T.length,T[i].path=s/\(∀j (h':j<i),T[j].path≠s)/\g_ s T=(T[i],true))->∃i,∃h:i<T.length,g_ s T=(T[i],true)/\jv_ Tryz.prog 151 [w_ T,.fn 152 [.vptr [.str s]]] (.int .i64 (i:Int)))/\
  (((∀j (h:j<T.length),T[j].path≠s)/\g_ s T=(⟨[],0,0,0⟩,false))->jv_ Tryz.prog 151 [w_ T,.fn 152 [.vptr [.str s]]] (.int .i64 (-1))):=by
 have key:∀(m:Nat) (hm:m<=T.length) (hne:∀j (h':j<m),T[j].path≠s) (v:Int),((h:m<T.length)->T[m].path=s/\v=m)->(m=T.length->v= -1)->jv_ Tryz.prog 151 [w_ T,.fn 152 [.vptr [.str s]]] (.int .i64 v):=by
  intro m hm hne v h1 h2;refine uN_ (args':=[.sym 64,.fn 152 [.vptr [.sym 65]]]) (ls:=[w_ T,.str s]) (c:=cQ151) (n:=300) (t:=vY_) mo ov (by simp only [mC_,vx_];rfl) rfl (by simp only [okL,okC,o_]) rfl (λY _=>rfl) (λY _=>vq_ _) rfl (by kernel_rfl) λY hf hg=>?_;unfold vY_;refine vj_ (q_ T) rfl ?_;refine ut_ (ι:=Nat) (λi=>[.int .i64 i]) (λi=>i<=m) (λi=>T.length-i) 0 (Nat.zero_le _) rfl
   (λi _=>rfl) (λi j _ _ h=>?_) (λi hi=>?_)
  .simp at h;have h:i=j:=by omega
   rw [h]
  refine vj_ (run_lss ..) rfl (u1_ rfl (λhlt=>?_) (λhlt=>us_ ?_));have hlt:i<T.length:=(by simp only [decide_eq_true_eq]at hlt;omega);refine vj_ (iaG (SlV.of T) hlt) (kO_ S_ _) (u2_ (ldG hlt) rfl rfl (ur_ (xu_ T[i] s) rfl rfl (u1_ rfl (λhe=>us_ ?_) (λhe=>vj_ (run_add ..) rfl (uj_ rfl ⟨i+1,?_,?_,by omega⟩)))));have he:T[i].path=s:=of_decide_eq_true he;have him:i=m:=(by rcases Nat.lt_or_ge i m with h|h;exact absurd he (hne i h);omega);subst him;rw [(h1 hlt).2];rfl;have he:¬T[i].path=s:=of_decide_eq_false he;rcases Nat.lt_or_ge i m with h|h;omega;have him:i=m:=(by omega);subst him;exact absurd (h1 hlt).1 he;rw [←wS_ hlt hT];rfl;have he:i=T.length:=(by simp only [decide_eq_false_iff_not]at hlt;omega);rw [h2 (by omega)];rfl
 refine ⟨λ⟨i,h,h1,h2,h3⟩=>⟨i,h,h3,key i (by omega) (λj h'=>h2 j h') i (λ_=>⟨h1,rfl⟩) (λe=>absurd e (Nat.ne_of_lt h))⟩,λ⟨h1,_⟩=>key T.length (Nat.le_refl _) (λj h'=>h1 j h') (-1) (λh=>absurd h (by omega)) (λ_=>rfl)⟩
def w4_:VC:=⟨⟨[],[]⟩,[(135,[none]),(151,[none])],[],0,true,[]⟩
def wN_:VT:=
 (.call 135 [64] 66 [none]
 (.call 151 [66,.fn 152 [.vptr [65]]] 67 [none]
 (K Qc [67,J 0] 68
 (.ite 68
 (.done (.tup [.agg [.str [],J 0,J 0,J 0],.bool false]))
 (K Qd [66,67] 69
 (.lt Qg [69] 70 (some 4)
 (.done (.tup [.agg [70,71,72,73],.bool true]))))))))
theorem xr_ {a:AV} (ha:okC a=true) {T:List GG} (hT:T.length<=1000) (h10:jv_ Tryz.prog 135 [a] (w_ T)) (s:List UInt8):jv_ Tryz.prog 136 [a,.str s] (.tup [.agg (t_ (g_ s T).1),.bool (g_ s T).2]):=by obtain ⟨k1,k2⟩:=xt_ T hT s;refine tX_ (sh:=[none,none]) (ls:=[a,.str s]) (c:=w4_) (n:=300) (t:=wN_) mo ov rfl (by simp only [okL,ha,okC]) rfl (λY _=>vq_ _) rfl (by kernel_rfl) λY hf hg=>?_;unfold wN_;refine ur_ h10 rfl (vw_ (o_ _)) ?_;rcases N_ s T with h|h;obtain ⟨i,hi,hf,p151'⟩:=k1 h;rw [hf];have hlss:(XOp.bin .lss 3 false true).run Tryz.prog [.int .i64 (i:Int),.int .i64 0]=some (.bool false):=(by rw [run_lss,decide_eq_false (by omega)]);exact ur_ p151' rfl rfl (vj_ hlss rfl (u7_ rfl (vj_ (iaG (SlV.of T) hi) (kO_ S_ _) (u2_ (ldG hi) rfl rfl (us_ rfl)))));have p151':=k2 h;rw [h.2];exact ur_ p151' rfl rfl (vj_ (r:=.bool true) (by kernel_rfl) rfl (u9_ rfl (us_ rfl)))
def c96:VC:=⟨⟨[],[]⟩,[(135,[none])],[],0,true,[]⟩
def t96:VT:=
 (.call 135 [64] 66 [none]
 (K Qc [65,J 0] 67
 (.ite 67
 (.done (.tup [.nsl,J 0,J 1]))
 (K Qb [66] 68
 (K (.bin .gtr 3 false false) [65,68] 69
 (.ite 69
 (.done (.tup [.nsl,J 0,J 1]))
 (K Q1 [65,J 5] 70
 (K Qb [66] 71
 (K Qz [70,71] 72
 (.ite 72
 (K (.slc 87 true false) [66,65] 73
 (.done (.tup [73,J 0,J 0])))
 (K (.slc 87 true true) [66,65,70] 73
 (.done (.tup [73,70,J 0])))))))))))))
def J_ (T:List GG) (k:Nat):Int:=if T.length<=k+5 then 0 else ((k+5:Nat):Int)
def k_ (T:List GG) (k:Nat):List GG:=(T.drop k).take 5
theorem p96 {a:AV} (ha:okC a=true) {T:List GG} (hT:T.length<=1000) (p135':jv_ Tryz.prog 135 [a] (w_ T)) {k:Nat} (hk:k<=T.length):
  ∃r,TgV (k_ T k) r/\jv_ Tryz.prog 96 [a,.int .i64 (k:Int)] (.tup [r,.int .i64 (J_ T k),.int .i64 0]):=by
 have hw:IntKind.i64.wrap ((k:Int)+5)=((k+5:Nat):Int):=by rw [vz_ (by omega) (by omega)];rfl
 have hs1:=SlV.slc10 (P:=Tryz.prog) (ti:=(Tryz.prog.info? 91).get!) Tryz.underlying87 (by kernel_rfl) (by kernel_rfl) vs_ (SlV.of (w:=4) T) (k:=.i64) (i:=k) hk;by_cases h5:T.length<=k+5;obtain ⟨r,hr,hv⟩:=hs1;have e:T.drop k=k_ T k:=(by unfold k_;rw [List.take_of_length_le];rw [List.length_drop];omega);rw [e]at hv;refine ⟨r,hv,?_⟩;refine tX_ (sh:=[none,none]) (ls:=[a,.int .i64 k]) (c:=c96) (n:=300) (t:=t96) mo ov rfl (by simp only [okL,ha,okC]) (by simp only [aX_,cA_,pW_ (hv.ok S_)]) (λY _=>vq_ _) rfl (by kernel_rfl) λY hf hg=>?_;unfold t96;refine ur_ p135' rfl (vw_ (o_ _)) (vj_ (run_lss ..) rfl (u1_ rfl (λh=>?_) (λ_=>vj_ (q_ T) rfl (vj_ (run_gtr ..) rfl (u1_ rfl (λh=>?_) (λ_=>vj_ (run_add ..) rfl (vj_ (q_ T) rfl (vj_ (run_geq ..) rfl (u1_ rfl (λh=>vj_ hr (hv.ok S_) (us_ ?_)) (λh=>?_))))))))));simp only [decide_eq_true_eq]at h;omega;simp only [decide_eq_true_eq]at h;omega;show AV.tup [r,.int .i64 0,.int .i64 0]=_;unfold J_;rw [if_pos h5];rw [hw]at h;simp only [decide_eq_false_iff_not]at h;omega;obtain ⟨r,hr,hv⟩:=SlV.slc11 (P:=Tryz.prog) (ti:=(Tryz.prog.info? 91).get!) Tryz.underlying87 (by kernel_rfl) (by kernel_rfl) vs_ (SlV.of (w:=4) T) (k:=.i64) (k':=.i64) (i:=k) (j:=k+5) (by omega) (by omega);have e:(T.take (k+5)).drop k=k_ T k:=(by unfold k_;rw [List.drop_take];congr 1;omega);rw [e]at hv;rw [←hw]at hr;refine ⟨r,hv,?_⟩;refine tX_ (sh:=[none,none]) (ls:=[a,.int .i64 k]) (c:=c96) (n:=300) (t:=t96) mo ov rfl (by simp only [okL,ha,okC]) (by simp only [aX_,cA_,pW_ (hv.ok S_)]) (λY _=>vq_ _) rfl (by kernel_rfl) λY hf hg=>?_;unfold t96;refine ur_ p135' rfl (vw_ (o_ _)) (vj_ (run_lss ..) rfl (u1_ rfl (λh=>?_) (λ_=>vj_ (q_ T) rfl (vj_ (run_gtr ..) rfl (u1_ rfl (λh=>?_) (λ_=>vj_ (run_add ..) rfl (vj_ (q_ T) rfl (vj_ (run_geq ..) rfl (u1_ rfl (λh=>?_) (λh=>vj_ hr (hv.ok S_) (us_ ?_)))))))))));simp only [decide_eq_true_eq]at h;omega;simp only [decide_eq_true_eq]at h;omega;rw [hw]at h;simp only [decide_eq_true_eq]at h;omega;show AV.tup [r,.int .i64 (IntKind.i64.wrap ((k:Int)+5)),.int .i64 0]=_;unfold J_;rw [if_neg h5,hw]
theorem xx_ {a:AV} (ha:okC a=true) {T:List GG} (p135':jv_ Tryz.prog 135 [a] (w_ T)) {k:Int} (hk:k<0\/(T.length:Int)<k):jv_ Tryz.prog 96 [a,.int .i64 k] (.tup [.nsl,.int .i64 0,.int .i64 1]):=by refine tX_ (sh:=[none,none]) (ls:=[a,.int .i64 k]) (c:=c96) (n:=300) (t:=t96) mo ov rfl (by simp only [okL,ha,okC]) rfl (λY _=>vq_ _) rfl (by kernel_rfl) λY hf hg=>?_;unfold t96;refine ur_ p135' rfl (vw_ (o_ _)) (vj_ (run_lss ..) rfl (u1_ rfl (λh=>us_ rfl) (λh=>vj_ (q_ T) rfl (vj_ (run_gtr ..) rfl (u1_ rfl (λh=>us_ rfl) (λh'=>?_))))));simp only [decide_eq_false_iff_not]at h h';omega
structure ST where
 a0:AV
 a1:AV
 a2:AV
 im:SV h_ 3
 a4:AV
 a5:AV
 a6:AV
 a7:AV
 a8:AV
 a9:AV
 a10:AV
 err:Int
 a12:AV
 ok:okL [a0,a1,a2,a4,a5,a6,a7,a8,a9,a10,a12]=true
def B_ (q:ST) (who:Int) (s:GS) (mail:SV encR 4) (now:Int):List AV:=[VARS,q.a0,q.a1,q.a2,q.im.x,q.a4,q.a5,q.a6,q.a7,q.a8,q.a9,q.a10,.int .i64 q.err,q.a12,.int .i64 who,.bool s.on,.int .i64 s.seen,s.b.x,.bool s.bad,s.inn.x,s.out.x,s.subs.x,.int .i64 s.num,mail.x,.int .i64 now]
theorem I_:okC VARS=true:=by kernel_rfl
theorem okK (q:ST) (who:Int) (s:GS) (mail:SV encR 4) (now:Int):okL (B_ q who s mail now)=true:=by have h:=q.ok;simp only [okL,Bool.and_eq_true]at h;simp only [B_,okL,okC,I_,q.im.ok T_,s.b.ok O_,s.inn.ok x_,s.out.ok x_,s.subs.ok Q_,mail.ok r_,h,Bool.and_self]
theorem hK_ (q:ST) (who:Int) (s:GS) (mail:SV encR 4) (now:Int) (m:GM):okL (B_ q who s mail now++c_ m)=true:=kO_.okL_join (okK ..) (x_ m)
def TL:List GG:=[⟨[97],0,2,1⟩,⟨[98],1,1,1⟩,⟨[111],2,2,2⟩,⟨[110],3,2,3⟩,⟨[120],4,2,3⟩,⟨[114],5,5,3⟩,⟨[107,91,48,93],6,2,3⟩,⟨[107,91,49,93],7,2,3⟩,⟨[107,91,50,93],8,2,3⟩]
theorem v9_:jv_ Tryz.prog 135 [VARS] (w_ TL):=u8_ mo ov (n:=3000) (by kernel_rfl)
theorem find (s:List UInt8):jv_ Tryz.prog 136 [VARS,.str s] (.tup [.agg (t_ (g_ s TL).1),.bool (g_ s TL).2]):=xr_ I_ (by decide) v9_ s
def z_ (acc:List GG):List (List UInt8)->Option (List GG)
 |[]=>some acc
 |s::r=>if (g_ s TL).2=true then z_ (acc++[(g_ s TL).1]) r else none
def P_ (l:List (List UInt8)):Except Int (List GG):=match l with
 |[]=>.error 11
 |_::_=>match z_ [] l with
  |some ts=>.ok ts
  |none=>.error 11
def j_ (l:List (List UInt8)):Except Int (List GG):=match P_ l with
 | .ok ts=>if 4<ts.length then .error 1 else .ok ts
 | .error e=>.error e
def RTg (o:Except Int (List GG)):Nat->List AV->Prop:=λj ws=>match o with
 | .ok ts=>j=0/\ws=[w_ ts]
 | .error e=>j=1/\ws=[.int .i64 e]
theorem RTg.ok {o:Except Int (List GG)} {ws:List AV} (h:RTg o 0 ws):∃ts,o=.ok ts/\ws=[w_ ts]:=by
 cases o with
 |ok ts=>exact ⟨ts,rfl,h.2⟩
 |error e=>exact absurd h.1 (by decide)
theorem RTg.er {o:Except Int (List GG)} {ws:List AV} (h:RTg o 1 ws):∃e,o=.error e/\ws=[.int .i64 e]:=by
 cases o with
 |ok ts=>exact absurd h.1 (by decide)
 |error e=>exact ⟨e,rfl,h.2⟩
theorem u5_ (ts:List GG):RTg (.ok ts) 0 [w_ ts]:=⟨rfl,rfl⟩
theorem Z_ (e:Int):RTg (.error e) 1 [.int .i64 e]:=⟨rfl,rfl⟩
theorem nb_:∀(l:List (List UInt8)) (acc ts:List GG),z_ acc l=some ts->ts.length=acc.length+l.length
 |[],acc,ts,h=>by cases h;rfl
 |s::r,acc,ts,h=>by unfold z_ at h;split at h;have:=nb_ r _ ts h;simp only [List.length_append,List.length_cons,List.length_nil]at this⊢;omega;cases h
theorem ol_:∀(l:List (List UInt8)) (acc ts:List GG),z_ acc l=some ts->(∀t∈acc,t∈TL)->∀t∈ts,t∈TL
 |[],acc,ts,h,h0=>by cases h;exact h0
 |s::r,acc,ts,h,h0=>by unfold z_ at h;split at h;rename_i hf;refine ol_ r _ ts h λt ht=>?_;rcases List.mem_append.1 ht with ht|ht;exact h0 t ht;rw [List.mem_singleton.1 ht];rcases N_ s TL with ⟨i,hi,_,_,e⟩|⟨_,e⟩;rw [e];exact List.getElem_mem hi;rw [e]at hf;cases hf;cases h
theorem oD_ {l:List (List UInt8)} {ts:List GG} (h:P_ l=.ok ts):ts.length=l.length/\∀t∈ts,t∈TL:=by unfold P_ at h;split at h;cases h;split at h;rename_i ht;cases h;exact ⟨by have:=nb_ _ _ _ ht;simpa using this,ol_ _ _ _ ht (λt ht=>(List.not_mem_nil ht).elim)⟩;cases h
theorem v_ {l:List (List UInt8)} {ts:List GG} (h:j_ l=.ok ts):ts.length=l.length/\ts.length<=4/\∀t∈ts,t∈TL:=by unfold j_ at h;split at h;rename_i ht;split at h;cases h;cases h;obtain ⟨a,b⟩:=oD_ ht;exact ⟨a,by omega,b⟩;cases h
theorem TL_addr:∀t∈TL,0<=t.addr/\t.addr<=8:=by decide
theorem wy_ (ts:List GG):okL [w_ ts]=true:=vw_ (o_ ts)
theorem iaP (s:SV m_ 1) {i:Nat} (h:i<s.l.length):(XOp.iaddr 52).run Tryz.prog [s.x,.int .i64 (i:Int)]=some (.vptr (bq_ m_ (s.l.drop i))):=s.h.ia (e:=9) Tryz.underlying52 (ti:=(Tryz.prog.info? 9).get!) (by kernel_rfl) (by kernel_rfl) vt_ h .i64
theorem ldP {l:List (List UInt8)} {i:Nat} (h:i<l.length):(XOp.load 9).run Tryz.prog [.vptr (bq_ m_ (l.drop i))]=some (.str l[i]):=by rw [List.drop_eq_getElem_cons h];exact sP_ Tryz.underlying9 rfl _ _
theorem sV_ {l:List (List UInt8)}:(l.length:Int)=0↔l=[]:=by
 cases l with
 |nil=>simp
 |cons a r=>simp;omega
def c97:VC:=⟨⟨[],[]⟩,[(136,[(some 4),none])],[(0,[⟨[(17,.slx 0 0 0),(4,.slx 3 4 1),(0,.ptr 0 0),(15,99),(16,103)],[(0,[64,65,66,67,68,69,70,71,72,73,74,75,76,77,78,79,80,81,82,83,.ptx 1 84 12 0,.ptx 2 85 15 0,86,87,88])],4,2,[⟨3,4,1,4,none⟩],[],[(1,84),(2,85)]⟩])],3,true,[]⟩
def t97:VT:=
 (K (.len 52) [99] 101
 (K Q0 [101,J 0] 102
 (.ite 102
 (.done (.tup [J 1,J 11]))
 (K (.len 52) [99] 103
 (.loop 104 0 [J 0,.nsl]
 (.cons 2
 (K Q2 [104,103] 106
 (.ite 106
 (K Qh [99,104] 107
 (K Q4 [107] 108
 (.call 136 [64,108] 109 [(some 4),none]
 (K Q8 [113] 114
 (.ite 114
 (.done (.tup [J 1,J 11]))
 (K (.app 4 40) [105,.agg [109,110,111,112]] 115
 (K Q1 [104,J 1] 116
 (.again 0 0 [116,115]))))))))
 (.done (.tup [J 0,105]))))
 .nil))))))
theorem p97 (q:ST) (who:Int) (s:GS) (mail:SV encR 4) (now:Int) (m:GM) (hm:m.Sm):CF Tryz.prog 97 uL_ (B_ q who s mail now++c_ m) (RTg (P_ m.paths.l)):=by
 have hl:=hm.1;refine u4_ (c:=c97) (n:=300) (t:=t97) mo ov rfl (λY _=>vq_ _) (by kernel_rfl) λY hf hg=>?_;unfold t97;refine vj_ (m.paths.h.len Tryz.underlying52) rfl (vj_ (run_eql ..) rfl (u1_ rfl (λh=>?_) (λh=>?_)));have h:=sV_.1 (dT h);rw [h];exact VOK_fin rfl (Z_ 11);have h:=λe=>dF h (sV_.2 e);have hne:P_ m.paths.l=match z_ [] m.paths.l with
   |some ts=>.ok ts
   |none=>.error 11:=by
  unfold P_;cases e:m.paths.l with
  |nil=>exact absurd e h
  |cons a r=>rfl
 rw [hne];refine vj_ (m.paths.h.len Tryz.underlying52) rfl ?_;refine ut_ (ι:=Nat×List GG) (λx=>[.int .i64 (x.1:Int),w_ x.2]) (λx=>x.1<=m.paths.l.length/\x.2.length=x.1/\z_ x.2 (m.paths.l.drop x.1)=z_ [] m.paths.l) (λx=>m.paths.l.length-x.1) (0,[]) ⟨Nat.zero_le _,rfl,by rw [List.drop_zero]⟩ rfl (λ_ _=>by simp only [okL,okC,o_]) (λi j _ _ h=>?_) (λx hx=>?_)
 .have h:=(List.cons.inj h).1;injection h with _ h
  omega
 obtain ⟨i,acc⟩:=x;obtain ⟨hi,ha,hI⟩:=hx;simp only at hi ha hI⊢;rw [←hI];refine vj_ (run_lss ..) rfl (u1_ rfl (λhc=>?_) (λhc=>?_))
 .have hc:(i:Int)<(m.paths.l.length:Int):=dT hc;have hc:i<m.paths.l.length:=(by omega);refine vj_ (iaP m.paths hc) (kO_ okP _) (vj_ (ldP hc) rfl (ur_ (find _) rfl rfl ?_));have hd:m.paths.l.drop i=m.paths.l[i]::m.paths.l.drop (i+1):=List.drop_eq_getElem_cons hc;rw [hd];refine vj_ (vf_ ..) rfl (u1_ rfl (λhf=>?_) (λhf=>?_));have hf:(g_ m.paths.l[i] TL).2=false:=(by simpa using hf);have e:z_ acc (m.paths.l[i]::m.paths.l.drop (i+1))=none:=(by unfold z_;rw [hf];rfl);rw [e];exact VOK_fin rfl (Z_ 11)
  .have hf:(g_ m.paths.l[i] TL).2=true:=(by simpa using hf);have e:z_ acc (m.paths.l[i]::m.paths.l.drop (i+1))=z_ (acc++[(g_ m.paths.l[i] TL).1]) (m.paths.l.drop (i+1)):=by
    conv=>lhs;unfold z_
    rw [if_pos hf]
   refine vj_ (t0_ vs_ (by decide) (by decide) acc (g_ m.paths.l[i] TL).1 (by omega)) (o_ _) (vj_ (e_ (by omega) (by omega)) rfl (uj_ rfl ⟨(i+1,acc++[(g_ m.paths.l[i] TL).1]),⟨hc,by show (acc++[_]).length=i+1;rw [List.length_append,List.length_singleton,ha],?_⟩,rfl,by show m.paths.l.length-(i+1)<m.paths.l.length-i;omega⟩));show z_ (acc++[_]) (m.paths.l.drop (i+1))=_;rw [←e,←hd,hI]
 have hc:¬(i:Int)<(m.paths.l.length:Int):=dF hc;have e:i=m.paths.l.length:=(by omega);rw [e,List.drop_length];exact VOK_fin (wy_ acc) (u5_ acc)
def c91:VC:=⟨⟨[],[]⟩,[],[],3,true,[(97,uL_)]⟩
def t91:VT:=
 (.callF 97 uL_ [64,65,66,67,68,69,70,71,72,73,74,75,76,77,78,79,80,81,82,83,84,85,86,87,88,89,90,91,92,93,94,95,96,97,98,99,100] 101
 (.cons 1
 (K Qb [138] 139
 (K Qi [139,J 4] 140
 (.ite 140
 (.done (.tup [J 1,J 1]))
 (.done (.tup [J 0,138])))))
 (.cons 1
 (.done (.tup [J 1,138]))
 .nil)))
theorem p91 (q:ST) (who:Int) (s:GS) (mail:SV encR 4) (now:Int) (m:GM) (hm:m.Sm):CF Tryz.prog 91 vr_ (B_ q who s mail now++c_ m) (RTg (j_ m.paths.l)):=by have hl:=hm.1;refine u4_ (c:=c91) (n:=300) (t:=t91) mo ov rfl (λY _=>vq_ _) (by kernel_rfl) λY hf hg=>?_;unfold t91;refine a_ (p97 q who s mail now m hm) rfl (hK_ ..) ⟨?_,?_,trivial⟩;intro ws h;obtain ⟨ts,e,rfl⟩:=h.ok;have hts:=oD_ e;unfold j_;rw [e];refine vj_ (q_ ts) rfl (vj_ (run_gtr ..) rfl (u1_ rfl (λh=>?_) (λh=>?_)));have h:(4:Int)<(ts.length:Int):=dT h;show VOK _ (QF (RTg (if 4<ts.length then .error 1 else .ok ts))) _ _ _;rw [if_pos (by omega)];exact VOK_fin rfl (Z_ 1);have h:¬(4:Int)<(ts.length:Int):=dF h;show VOK _ (QF (RTg (if 4<ts.length then .error 1 else .ok ts))) _ _ _;rw [if_neg (by omega)];exact VOK_fin (wy_ ts) (u5_ ts);intro ws h;obtain ⟨e',e,rfl⟩:=h.er;unfold j_;rw [e];exact VOK_fin rfl (Z_ e')
def A_ (im:List FV) (t:GG):FV:=im.getD t.addr.toNat FV.z
theorem iaV (s:SV h_ 3) {i:Nat} (h:i<s.l.length):(XOp.iaddr 26).run Tryz.prog [s.x,.int .i64 (i:Int)]=some (.vptr (bq_ h_ (s.l.drop i))):=s.h.ia (e:=38) Tryz.underlying26 (ti:=(Tryz.prog.info? 38).get!) (by kernel_rfl) (by kernel_rfl) uT_ h .i64
theorem ldV {l:List FV} {i:Nat} (h:i<l.length):(XOp.load 38).run Tryz.prog [.vptr (bq_ h_ (l.drop i))]=some (.agg (h_ l[i])):=sO_ (ti:=(Tryz.prog.info? 38).get!) Tryz.underlying38 rfl (by kernel_rfl) (by kernel_rfl) uT_ h
def c92:VC:=⟨⟨[],[]⟩,[],[],3,true,[]⟩
def t92:VT:=
 (K Qf [68] 93
 (K Qz [90,93] 94
 (.ite 94
 (.done (.tup [J 0,J 0,J 0,.flt .f64 0]))
 (K Qk [68,90] 95
 (.lt Qu [95] 96 (some 3)
 (.done (.tup [J 0,96,97,98])))))))
theorem p92 (q:ST) (who:Int) (s:GS) (mail:SV encR 4) (now:Int) (t:GG) (ht:0<=t.addr):CF Tryz.prog 92 v6_ (B_ q who s mail now++t_ t) (λ_ ws=>ws=h_ (A_ q.im.l t)):=by
 refine u4_ (c:=c92) (n:=300) (t:=t92) mo ov rfl (λY _=>vq_ _) (by kernel_rfl) λY hf hg=>?_;unfold t92;obtain ⟨a,ha⟩:=Int.eq_ofNat_of_zero_le ht;have hcell:A_ q.im.l t=q.im.l.getD a FV.z:=by unfold A_;rw [ha];rfl
 refine vj_ (q.im.h.len Tryz.underlying26) rfl (vj_ (run_geq ..) rfl (u1_ rfl (λh=>?_) (λh=>?_)));have h:(q.im.l.length:Int)<=t.addr:=dT h;rw [hcell,List.getD_eq_getElem?_getD,List.getElem?_eq_none (by omega)];exact VOK_fin rfl rfl;have h:¬(q.im.l.length:Int)<=t.addr:=dF h;have hi:a<q.im.l.length:=(by omega);have ia:(XOp.iaddr 26).run Tryz.prog [q.im.x,.int .i64 t.addr]=some (.vptr (bq_ h_ (q.im.l.drop a))):=(by rw [ha];exact iaV q.im hi);rw [hcell,List.getD_eq_getElem?_getD,List.getElem?_eq_getElem hi];exact vj_ ia (kO_ T_ _) (u2_ (ldV hi) rfl (T_ _) (VOK_fin (T_ _) rfl))
def RRd (im:List FV) (o:Except Int (List GG)):Nat->List AV->Prop:=λj ws=>match o with
 | .ok ts=>j=0/\ws=[cs_ h_ 3 (ts.map (A_ im))]
 | .error e=>j=1/\ws=[.int .i64 e]
def c52:VC:=⟨⟨[],[]⟩,[],[(0,[⟨[(12,.slx 0 0 0),(0,.ptr 0 0),(2,.ptr 3 0),(10,139),(11,140)],[(0,[64,65,66,67,68,69,70,71,72,73,74,75,76,77,78,79,80,81,82,83,.ptx 1 84 12 0,.ptx 2 85 15 0,86,87,88]),(3,[J 6,101,J 0,J 0,J 0,.bool false,J 0,J 0,J 0,.flt .f64 0,.nsl,.slx 4 3 1])],5,2,[⟨4,3,1,3,(some 11)⟩],[],[(1,84),(2,85)]⟩])],4,true,[(91,vr_),(92,v6_)]⟩
def t52:VT:=
 (.callF 91 vr_ [64,65,66,67,68,69,70,71,72,73,74,75,76,77,78,79,80,81,82,83,84,85,86,87,88,89,90,91,92,93,94,95,96,97,98,99,100] 102
 (.cons 1
 (K Qb [139] 140
 (.loop 141 0 [J 0,.nsl]
 (.cons 2
 (K Q2 [141,140] 143
 (.ite 143
 (K Qd [139,141] 144
 (.lt Qg [144] 145 (some 4)
 (.callF 92 v6_ [64,65,66,67,68,69,70,71,72,73,74,75,76,77,78,79,80,81,82,83,84,85,86,87,88,145,146,147,148] 149
 (.cons 3
 (K Qp [142,.agg [178,179,180]] 181
 (K Q1 [141,J 1] 182
 (.again 0 0 [182,181])))
 .nil))))
 (.done (.tup [J 0,142]))))
 .nil)))
 (.cons 1
 (.done (.tup [J 1,139]))
 .nil)))
theorem p52 (q:ST) (who:Int) (s:GS) (mail:SV encR 4) (now:Int) (m:GM) (hm:m.Sm) (id:Int):CF Tryz.prog 52 v4_ (B_ q who s mail now++c_ m++[.int .i64 id]) (RRd q.im.l (j_ m.paths.l)):=by
 refine u4_ (c:=c52) (n:=300) (t:=t52) mo ov rfl (λY _=>vq_ _) (by kernel_rfl) λY hf hg=>?_;unfold t52;refine a_ (p91 q who s mail now m hm) rfl (hK_ ..) ⟨?_,?_,trivial⟩
 .intro ws h;obtain ⟨ts,e,rfl⟩:=h.ok;obtain ⟨_,h4,hT⟩:=v_ e;rw [e];refine vj_ (q_ ts) rfl ?_;refine ut_ (ι:=Nat) (λi=>[.int .i64 (i:Int),cs_ h_ 3 ((ts.take i).map (A_ q.im.l))]) (λi=>i<=ts.length) (λi=>ts.length-i) 0 (Nat.zero_le _) rfl (λ_ _=>by simp only [okL,okC,t5_ T_]) (λi j _ _ h=>?_) (λi hi=>?_)
  .have h:=(List.cons.inj h).1;injection h with _ h
   omega
  refine vj_ (run_lss ..) rfl (u1_ rfl (λhc=>?_) (λhc=>?_));have hc:(i:Int)<(ts.length:Int):=dT hc;have hc:i<ts.length:=(by omega);refine vj_ (iaG (SlV.of ts) hc) (kO_ S_ _) (u2_ (ldG hc) rfl (S_ _) ?_);refine a_ (p92 q who s mail now ts[i] (TL_addr _ (hT _ (List.getElem_mem hc))).1) rfl (kO_.okL_join (okK ..) (S_ _)) ⟨?_,trivial⟩;rintro ws rfl;refine vj_ (t0_ uT_ (by decide) (by decide) ((ts.take i).map (A_ q.im.l)) (A_ q.im.l ts[i]) (by rw [List.length_map,List.length_take];omega)) (t5_ T_ _) (vj_ (e_ (by omega) (by omega)) rfl (uj_ rfl ⟨i+1,hc,?_,by omega⟩));rw [f_ hc,List.map_append];rfl;have hc:¬(i:Int)<(ts.length:Int):=dF hc;have e:i=ts.length:=(by omega);subst e;refine VOK_fin (by show okL [cs_ h_ 3 _]=true;simp only [okL,t5_ T_]) ?_;rw [List.take_length];exact ⟨rfl,rfl⟩
 intro ws h;obtain ⟨e',e,rfl⟩:=h.er;rw [e];exact VOK_fin rfl ⟨rfl,rfl⟩
def wn_:VC:=⟨⟨[],[]⟩,[],[],0,true,[]⟩
def vX_:VT:=.done (.bool false)
theorem xq_ (t:GG):jv_ Tryz.prog 129 [VARS,.fn 130 [.vptr (t_ t)]] (.bool false):=by refine uN_ (args':=[VARS,.fn 130 [.vptr [.sym 64,.sym 65,.sym 66,.sym 67]]]) (ls:=t_ t) (c:=wn_) (n:=300) (m:=68) (t:=vX_) mo ov (by kernel_rfl) (by kernel_rfl) (S_ t) rfl (λY _=>by kernel_rfl) (λY _=>vq_ _) rfl (by kernel_rfl) λY hf hg=>?_;unfold vX_;exact us_ rfl
def c94:VC:=⟨⟨[],[]⟩,[(129,[none])],[],3,true,[]⟩
def t94:VT:=
 (.call 129 [64,.fn 130 [.vptr [89,90,91,92]]] 93 [none]
 (K Q8 [93] 94
 (.done (.tup [J 0,94]))))
theorem p94 (q:ST) (who:Int) (s:GS) (mail:SV encR 4) (now:Int) (t:GG):CF Tryz.prog 94 v7_ (B_ q who s mail now++t_ t) (λ_ ws=>ws=[.bool true]):=by refine u4_ (c:=c94) (n:=300) (t:=t94) mo ov rfl (λY _=>vq_ _) (by kernel_rfl) λY hf hg=>?_;unfold t94;exact ur_ (xq_ t) rfl rfl (vj_ (vf_ ..) rfl (VOK_fin rfl rfl))
theorem vJ_ {α:Type} {enc:α->List AV} {w b:Nat} (hw:∀a,(enc a).length=w) (hwp:0<w) (hb:0<b) (s:SV enc w) (a:α) (hl:(s.l.length+1)*b<=1073741824):(XOp.app w b).run Tryz.prog [s.x,.agg (enc a)]=some (cs_ enc w (s.l++[a])):=by obtain ⟨r,h1,h2⟩:=s.h.app1 (P:=Tryz.prog) (bytes:=b) hw hwp hb a hl;rw [h1,h2.eq (by simp)]
def aL_ (l:List GR) (w:GR):Except Int (List GR):=if 3<=l.length then .error 10 else .ok (l++[w])
def pP_ (l:List GR) (w:GR):AV:=match aL_ l w with
 | .ok l'=>.tup [cs_ encR 4 l',.int .i64 0]
 | .error e=>.tup [cs_ encR 4 l,.int .i64 e]
def c95:VC:=⟨⟨[],[]⟩,[(133,[(some 4)])],[],0,true,[(132,su_)]⟩
def t95:VT:=
 (K Q5 [64] 69
 (K Qt [69,J 3] 70
 (.ite 70
 (.callF 132 su_ [64] 71
 (.cons 1
 (.done (.tup [72,J 10]))
 .nil))
 (.callF 132 su_ [64] 71
 (.cons 1
 (.call 133 [.agg [65,66,67,68]] 73 [(some 4)]
 (K Qx [72,.agg [73,74,75,76]] 77
 (.done (.tup [77,J 0]))))
 .nil)))))
theorem p95 (s:SV encR 4) (hl:s.l.length<=1000) (hm:∀m∈s.l,m.Sm) (w:GR) (hw:w.Sm):jv_ Tryz.prog 95 [s.x,.agg (encR w)] (pP_ s.l w):=by have hx:=s.ok r_;refine tX_ (sh:=[none,some 4]) (ls:=s.x::encR w) (c:=c95) (n:=300) (t:=t95) mo ov rfl (kO_.okL_join (a:=[s.x]) (by simp only [okL,hx]) (r_ w)) (by unfold pP_;split<;>exact vM_ (pW_ (t5_ r_ _)) rfl) (λY _=>vq_ _) rfl (by kernel_rfl) λY hf hg=>?_;unfold t95;refine vj_ (s.h.len Tryz.underlying47) rfl (vj_ (run_geq ..) rfl (u1_ rfl (λh=>?_) (λh=>?_)));have h:(3:Int)<=(s.l.length:Int):=dT h;have e:pP_ s.l w=.tup [cs_ encR 4 s.l,.int .i64 10]:=(by unfold pP_ aL_;rw [if_pos (by omega)]);rw [e];refine a_ (wA_ s hl hm) rfl (by simp only [okL,hx]) ⟨?_,trivial⟩;rintro ws rfl;exact us_ rfl;have h:¬(3:Int)<=(s.l.length:Int):=dF h;have e:pP_ s.l w=.tup [cs_ encR 4 (s.l++[w]),.int .i64 0]:=(by unfold pP_ aL_;rw [if_neg (by omega)]);rw [e];refine a_ (wA_ s hl hm) rfl (by simp only [okL,hx]) ⟨?_,trivial⟩;rintro ws rfl;exact ur_ (wB_ w hw) rfl (r_ w) (vj_ (t0_ vu_ (by decide) (by decide) s.l w (by omega)) (t5_ r_ _) (us_ rfl))
def wOf (who:Int) (m:GM) (ts:List GG):GR:=⟨who,m.id,.of (ts.map GG.addr),m.vals⟩
def u_ (q:ST) (who:Int) (mail:List GR) (m:GM):Except Int (List GR):=match j_ m.paths.l with
 | .error e=>.error e
 | .ok ts=>if ts.length≠m.vals.l.length then .error 1 else if ts.all (λt=>decide (t.role=3))=false then .error 13
   else if (ts.zip m.vals.l).all (λx=>decide (x.2.k=x.1.kind))=false then .error 4 else if q.err≠0 then .error 9 else aL_ mail (wOf who m ts)
def RWr (o:Except Int (List GR)):Nat->List AV->Prop:=λj ws=>match o with
 | .ok l=>j=0/\ws=[cs_ encR 4 l]
 | .error e=>j=1/\ws=[.int .i64 e]
theorem L_ {o:Except Int (List GR)} {e:Int} (h:o=.error e):RWr o 1 [.int .i64 e]:=by rw [h];exact ⟨rfl,rfl⟩
theorem bk_ {α:Type} {p:α->Bool} {l:List α} {i:Nat} (h:i<l.length):(l.take (i+1)).all p=((l.take i).all p&&p l[i]):=by rw [f_ h,List.all_append];simp
theorem V_ {α:Type} {p:α->Bool} {l:List α} {i:Nat} (h:i<l.length) (hp:p l[i]=false):l.all p=false:=by rw [List.all_eq_false];exact ⟨l[i],List.getElem_mem h,by rw [hp];decide⟩
theorem fa0 (l:List FV) {i:Nat} (h:i<l.length):(XOp.faddr 38 0).run Tryz.prog [.vptr (bq_ h_ (l.drop i))]=some (.vptr (.int .i64 l[i].k::([.int .i64 l[i].i,fv l[i].f]++bq_ h_ (l.drop (i+1))))):=by rw [List.drop_eq_getElem_cons h];kernel_rfl
def c53:VC:=⟨⟨[],[]⟩,[(95,[none,none])],[(10016,[⟨[],[],0,0,[],[],[(5,2)]⟩]),(0,[⟨[(33,.slx 0 0 0),(5,.ptr 4 0),(0,.ptr 0 0),(31,138),(4,138),(3,.ptr 3 0),(32,142)],[(4,[78,90,.slx 5 1 1,100]),(0,[64,65,66,67,68,69,70,71,72,73,74,75,76,77,78,79,80,81,82,83,.ptx 1 84 12 0,.ptx 2 85 15 0,86,87,88]),(3,[89,90,91,92,93,94,95,96,97,98,99,100])],6,2,[⟨5,1,1,4,(some 2)⟩],[],[(1,84),(2,85)]⟩]),(2,[⟨[(57,.slx 0 0 0),(3,.ptr 3 0),(55,138),(5,.ptr 4 0),(0,.ptr 0 0),(56,.slx 2 0 0)],[(3,[89,90,91,92,93,94,95,96,97,98,99,100]),(4,[78,90,.slx 5 1 1,100]),(0,[64,65,66,67,68,69,70,71,72,73,74,75,76,77,78,79,80,81,82,83,.ptx 1 84 12 0,.ptx 2 85 15 0,86,87,88])],6,3,[⟨5,1,1,4,(some 2)⟩],[],[(1,84),(2,85)]⟩])],3,true,[(91,vr_),(94,v7_)]⟩
def t53:VT:=
 (.callF 91 vr_ [64,65,66,67,68,69,70,71,72,73,74,75,76,77,78,79,80,81,82,83,84,85,86,87,88,89,90,91,92,93,94,95,96,97,98,99,100] 101
 (.cons 1
 (K Qb [138] 139
 (K Qf [100] 140
 (K Q9 [139,140] 141
 (.ite 141
 (.done (.tup [J 1,J 1]))
 (K Qb [138] 142
 (.loop 143 0 [J 0,.nsl]
 (.cons 2
 (K Q2 [143,142] 145
 (.ite 145
 (K Qd [138,143] 146
 (.lt Qg [146] 147 (some 4)
 (K Z0 [150,J 3] 151
 (.ite 151
 (.done (.tup [J 1,J 13]))
 (.callF 94 v7_ [64,65,66,67,68,69,70,71,72,73,74,75,76,77,78,79,80,81,82,83,84,85,86,87,88,147,148,149,150] 152
 (.cons 1
 (K Q8 [181] 182
 (.ite 182
 (.done (.tup [J 1,J 13]))
 (K (.app 1 8) [144,.agg [148]] 183
 (K Q1 [143,J 1] 184
 (.again 0 0 [184,183])))))
 .nil))))))
 (K Qb [138] 146
 (.loop 147 0 [J 0,144,146]
 (.cons 3
 (K Q2 [147,149] 150
 (.ite 150
 (K Qd [138,147] 151
 (.lt Qg [151] 152 (some 4)
 (K Qk [100,147] 156
 (K (.faddr 38 0) [156] 157
 (K Q6 [157] 158
 (K Q9 [158,154] 159
 (.ite 159
 (.done (.tup [J 1,J 4]))
 (K Q1 [147,J 1] 160
 (.again 1 0 [160,148,149])))))))))
 (K Z1 [76,J 0] 151
 (.ite 151
 (.done (.tup [J 1,J 9]))
 (.call 95 [87,.agg [78,90,148,100]] 152 [none,none]
 (K Z1 [153,J 0] 154
 (.ite 154
 (.done (.tup [J 1,153]))
 (.done (.tup [J 0,152])))))))))
 .nil)))))
 .nil)))))))
 (.cons 1
 (.done (.tup [J 1,138]))
 .nil)))
theorem p53 (q:ST) (who:Int) (s:GS) (mail:SV encR 4) (now:Int) (m:GM) (hm:m.Sm) (hl:mail.l.length<=1000) (hr:∀w∈mail.l,w.Sm):CF Tryz.prog 53 ft53 (B_ q who s mail now++c_ m) (RWr (u_ q who mail.l m)):=by
 have hx:=mail.ok r_;refine u4_ (c:=c53) (n:=300) (t:=t53) mo ov rfl (λY _=>vq_ _) (by kernel_rfl) λY hf hg=>?_;unfold t53;refine a_ (p91 q who s mail now m hm) rfl (hK_ ..) ⟨?_,?_,trivial⟩
 .intro ws h;obtain ⟨ts,e,rfl⟩:=h.ok;obtain ⟨_,h4,hT⟩:=v_ e;have e0:u_ q who mail.l m=if ts.length≠m.vals.l.length then .error 1 else if ts.all (λt=>decide (t.role=3))=false then .error 13
   else if (ts.zip m.vals.l).all (λx=>decide (x.2.k=x.1.kind))=false then .error 4 else if q.err≠0 then .error 9 else aL_ mail.l (wOf who m ts):=by unfold u_;rw [e]
  refine vj_ (q_ ts) rfl (vj_ (m.vals.h.len Tryz.underlying26) rfl (vj_ (run_neq ..) rfl (u1_ rfl (λh=>?_) (λh=>?_))));have h:(!decide ((ts.length:Int)=(m.vals.l.length:Int)))=true:=h;have h:¬(ts.length:Int)=(m.vals.l.length:Int):=(by simpa using h);exact VOK_fin rfl (L_ (by rw [e0,if_pos (by omega)]));have h:(!decide ((ts.length:Int)=(m.vals.l.length:Int)))=false:=h;have h:(ts.length:Int)=(m.vals.l.length:Int):=(by simpa using h);have hlen:ts.length=m.vals.l.length:=(by omega);rw [if_neg (by omega)]at e0;refine vj_ (q_ ts) rfl ?_;refine ut_ (ι:=Nat) (λi=>[.int .i64 (i:Int),cs_ R_ 1 ((ts.take i).map GG.addr)]) (λi=>i<=ts.length/\(ts.take i).all (λt=>decide (t.role=3))=true) (λi=>ts.length-i) 0 ⟨Nat.zero_le _,rfl⟩ rfl (λ_ _=>by simp only [okL,okC,t5_ okI]) (λi j _ _ h=>?_) (λi hi=>?_)
  .have h:=(List.cons.inj h).1;injection h with _ h
   omega
  obtain ⟨hi,hall⟩:=hi;refine vj_ (run_lss ..) rfl (u1_ rfl (λhc=>?_) (λhc=>?_));have hc:(i:Int)<(ts.length:Int):=dT hc;have hc:i<ts.length:=(by omega);refine vj_ (iaG (SlV.of ts) hc) (kO_ S_ _) (u2_ (ldG hc) rfl (S_ _) (vj_ (run_neq ..) rfl (u1_ rfl (λhr3=>?_) (λhr3=>?_))));have hr3:(!decide (ts[i].role=3))=true:=hr3;have hr3:¬ts[i].role=3:=(by simpa using hr3);exact VOK_fin rfl (L_ (by rw [e0,if_pos (V_ hc (decide_eq_false hr3))]));have hr3:(!decide (ts[i].role=3))=false:=hr3;have hr3:ts[i].role=3:=(by simpa using hr3);refine a_ (p94 q who s mail now ts[i]) rfl (kO_.okL_join (okK ..) (S_ _)) ⟨?_,trivial⟩;rintro ws rfl;refine vj_ (vf_ ..) rfl (u1_ (t:=false) rfl (λh=>by cases h) (λ_=>?_));refine vj_ (t0_ wb_ (by decide) (by decide) ((ts.take i).map GG.addr) ts[i].addr (by rw [List.length_map,List.length_take];omega)) (t5_ okI _) (vj_ (e_ (by omega) (by omega)) rfl (uj_ rfl ⟨i+1,⟨hc,?_⟩,?_,by omega⟩));rw [bk_ hc,hall,decide_eq_true hr3];rfl;rw [f_ hc,List.map_append];rfl
  .have hc:¬(i:Int)<(ts.length:Int):=dF hc;have ei:i=ts.length:=(by omega);subst ei;rw [List.take_length]at hall⊢;rw [if_neg (by rw [hall];decide)]at e0;refine vj_ (q_ ts) rfl ?_;refine ut_ (ι:=Nat) (λi=>[.int .i64 (i:Int),cs_ R_ 1 (ts.map GG.addr),.int .i64 (ts.length:Int)]) (λi=>i<=ts.length/\((ts.zip m.vals.l).take i).all (λx=>decide (x.2.k=x.1.kind))=true) (λi=>ts.length-i) 0 ⟨Nat.zero_le _,rfl⟩ rfl (λ_ _=>by simp only [okL,okC,t5_ okI]) (λi j _ _ h=>?_) (λi hi=>?_)
   .have h:=(List.cons.inj h).1;injection h with _ h
    omega
   obtain ⟨hi,hall2⟩:=hi;have hzl:(ts.zip m.vals.l).length=ts.length:=(by rw [List.length_zip];omega);refine vj_ (run_lss ..) rfl (u1_ rfl (λhc=>?_) (λhc=>?_));have hc:(i:Int)<(ts.length:Int):=dT hc;have hc:i<ts.length:=(by omega);have hcv:i<m.vals.l.length:=(by omega);have hz:i<(ts.zip m.vals.l).length:=(by omega);have ez:(ts.zip m.vals.l)[i]=(ts[i],m.vals.l[i]):=List.getElem_zip;refine vj_ (iaG (SlV.of ts) hc) (kO_ S_ _) (u2_ (ldG hc) rfl (S_ _) ?_);refine vj_ (iaV m.vals hcv) (kO_ T_ _) (vj_ (fa0 m.vals.l hcv) (by simp only [okC,okL,List.cons_append,C_,List.nil_append];exact kO_ T_ _) (vj_ (sP_ Tryz.underlying3 rfl _ _) rfl (vj_ (run_neq ..) rfl (u1_ rfl (λhk=>?_) (λhk=>?_)))));have hk:(!decide (m.vals.l[i].k=ts[i].kind))=true:=hk;have hk:¬m.vals.l[i].k=ts[i].kind:=(by simpa using hk);exact VOK_fin rfl (L_ (by rw [e0,if_pos (V_ hz (by rw [ez];exact decide_eq_false hk))]));have hk:(!decide (m.vals.l[i].k=ts[i].kind))=false:=hk;have hk:m.vals.l[i].k=ts[i].kind:=(by simpa using hk);refine vj_ (e_ (by omega) (by omega)) rfl (uj_ rfl ⟨i+1,⟨hc,?_⟩,rfl,by omega⟩);rw [bk_ hz,hall2,ez,decide_eq_true hk];rfl
   .have hc:¬(i:Int)<(ts.length:Int):=dF hc;have ei:i=ts.length:=(by omega);subst ei;rw [←hzl,List.take_length]at hall2;rw [if_neg (by rw [hall2];decide)]at e0;refine vj_ (run_neq ..) rfl (u1_ rfl (λhe=>?_) (λhe=>?_));have he:(!decide (q.err=0))=true:=he;have he:¬q.err=0:=(by simpa using he);exact VOK_fin rfl (L_ (by rw [e0,if_pos he]));have he:(!decide (q.err=0))=false:=he;have he:q.err=0:=(by simpa using he);rw [if_neg (λh=>h he)]at e0;rw [e0];have h95:=p95 mail hl hr (wOf who m ts) ⟨by show (ts.map GG.addr).length<=1000;rw [List.length_map];omega,hm.2⟩;unfold pP_ at h95;cases ha:aL_ mail.l (wOf who m ts)with
    |ok l'=>rw [ha]at h95;refine ur_ h95 rfl (by simp only [okL,okC,t5_ r_]) (vj_ eo_ rfl (u1_ (t:=false) rfl (λh=>by cases h) (λ_=>?_)));exact VOK_fin (by show okL [cs_ encR 4 _]=true;simp only [okL,t5_ r_]) ⟨rfl,rfl⟩
    |error e'=>
     rw [ha]at h95;have he':e'=10:=by unfold aL_ at ha;split at ha;cases ha;rfl;cases ha
     subst he';refine ur_ h95 rfl (by simp only [okL,okC,t5_ r_]) (vj_ (r:=.bool true) (by kernel_rfl) rfl (u1_ (t:=true) rfl (λ_=>?_) (λh=>by cases h)));exact VOK_fin rfl ⟨rfl,rfl⟩
 intro ws h;obtain ⟨e',e,rfl⟩:=h.er;exact VOK_fin rfl (L_ (by unfold u_;rw [e]))
def hN_ (n:Int):Bool:=decide (0<=n/\n<=(TL.length:Int))
theorem vO_ {n:Int} (h:hN_ n=true):∃r,TgV (k_ TL n.toNat) r/\jv_ Tryz.prog 96 [VARS,.int .i64 n] (.tup [r,.int .i64 (J_ TL n.toNat),.int .i64 0]):=by obtain ⟨h1,h2⟩:=of_decide_eq_true h;obtain ⟨k,rfl⟩:=Int.eq_ofNat_of_zero_le h1;exact p96 I_ (by decide) v9_ (by omega)
theorem vN_ {n:Int} (h:hN_ n=false):jv_ Tryz.prog 96 [VARS,.int .i64 n] (.tup [.nsl,.int .i64 0,.int .i64 1]):=
 xx_ I_ v9_ (by have:=of_decide_eq_false h;omega)
def RPg (n:Int):Nat->List AV->Prop:=λj ws=>if hN_ n=true then j=0/\ws=[.int .i64 (J_ TL n.toNat),cs_ m_ 1 ((k_ TL n.toNat).map GG.path)]else j=1/\ws=[.int .i64 1]
theorem lA_ (k:Nat):(k_ TL k).length<=5:=by unfold k_;rw [List.length_take];omega
theorem wu_ {T:List GG} {a:AV} (h:TgV T a):(XOp.len 87).run Tryz.prog [a]=some (.int .i64 (T.length:Int)):=h.len Tryz.underlying87
def c54:VC:=⟨⟨[],[]⟩,[(96,[none,none,none])],[(0,[⟨[(28,.slx 0 0 0),(0,.ptr 0 0),(2,.ptr 3 0),(26,102),(7,103),(27,106)],[(0,[64,65,66,67,68,69,70,71,72,73,74,75,76,77,78,79,80,81,82,83,.ptx 1 84 12 0,.ptx 2 85 15 0,86,87,88]),(3,[J 6,101,J 0,J 0,J 0,.bool false,J 0,J 0,J 0,.flt .f64 0,.slx 4 1 1,.nsl])],5,2,[⟨4,1,1,3,(some 10)⟩],[],[(1,84),(2,85)]⟩])],4,true,[]⟩
def t54:VT:=
 (.call 96 [64,92] 102 [none,none,none]
 (K Z1 [104,J 0] 105
 (.ite 105
 (.done (.tup [J 1,104]))
 (K Qb [102] 106
 (.loop 107 0 [J 0,.nsl]
 (.cons 2
 (K Q2 [107,106] 109
 (.ite 109
 (K Qd [102,107] 110
 (.lt Qg [110] 111 (some 4)
 (K Qq [108,.agg [111]] 115
 (K Q1 [107,J 1] 116
 (.again 0 0 [116,115])))))
 (.done (.tup [J 0,103,108]))))
 .nil))))))
theorem p54 (q:ST) (who:Int) (s:GS) (mail:SV encR 4) (now:Int) (m:GM) (id:Int):CF Tryz.prog 54 v5_ (B_ q who s mail now++c_ m++[.int .i64 id]) (RPg m.n):=by
 refine u4_ (c:=c54) (n:=300) (t:=t54) mo ov rfl (λY _=>vq_ _) (by kernel_rfl) λY hf hg=>?_;unfold t54;cases hp:hN_ m.n with
 |true=>
  obtain ⟨r,hr,h96⟩:=vO_ hp;have okr:okC r=true:=hr.ok S_;have h5:=lA_ m.n.toNat;have hfin:∀ws,ws=[.int .i64 (J_ TL m.n.toNat),cs_ m_ 1 ((k_ TL m.n.toNat).map GG.path)]->RPg m.n 0 ws:=λws e=>(by unfold RPg;rw [if_pos hp];exact ⟨rfl,e⟩);generalize k_ TL m.n.toNat=T at*;refine ur_ h96 rfl (by simp only [okL,okC,okr]) (vj_ eo_ rfl (u1_ (t:=false) rfl (λh=>by cases h) (λ_=>?_)));refine vj_ (wu_ hr) rfl ?_;refine ut_ (ι:=Nat) (λi=>[.int .i64 (i:Int),cs_ m_ 1 ((T.take i).map GG.path)]) (λi=>i<=T.length) (λi=>T.length-i) 0 (Nat.zero_le _) rfl (λ_ _=>by simp only [okL,okC,t5_ okP]) (λi j _ _ h=>?_) (λi hi=>?_)
  .have h:=(List.cons.inj h).1;injection h with _ h
   omega
  refine vj_ (run_lss ..) rfl (u1_ rfl (λhc=>?_) (λhc=>?_));have hc:(i:Int)<(T.length:Int):=dT hc;have hc:i<T.length:=(by omega);refine vj_ (iaG hr hc) (kO_ S_ _) (u2_ (ldG hc) rfl (S_ _) ?_);refine vj_ (t0_ vt_ (by decide) (by decide) ((T.take i).map GG.path) T[i].path (by rw [List.length_map,List.length_take];omega)) (t5_ okP _) (vj_ (e_ (by omega) (by omega)) rfl (uj_ rfl ⟨i+1,hc,?_,by omega⟩));rw [f_ hc,List.map_append];rfl;have hc:¬(i:Int)<(T.length:Int):=dF hc;have ei:i=T.length:=(by omega);subst ei;refine VOK_fin (by show okL [.int .i64 (J_ TL m.n.toNat),cs_ m_ 1 _]=true;simp only [okL,okC,t5_ okP]) (hfin _ ?_);rw [List.take_length];rfl
 |false=>refine ur_ (vN_ hp) rfl rfl (vj_ (r:=.bool true) (by kernel_rfl) rfl (u1_ (t:=true) rfl (λ_=>?_) (λh=>by cases h)));refine VOK_fin rfl ?_;unfold RPg;rw [if_neg (by rw [hp];decide)];exact ⟨rfl,rfl⟩
def c98:VC:=⟨⟨[],[]⟩,[],[],0,true,[]⟩
def t98:VT:=.done (.agg [64,65,66,67,68,69,70,71,.bool false,.bool false,J 0,J 0,.flt .f64 0,J 0,.nsl])
def wc_ (num addr every now:Int) (band:FV) (most:Int):GW:=⟨num,addr,every,now,band,most,false,false,FV.z,0,.nil⟩
theorem p98 (num addr every now:Int) (band:FV) (most:Int):jv_ Tryz.prog 98 [.int .i64 num,.int .i64 addr,.int .i64 every,.int .i64 now,.agg (h_ band),.int .i64 most] (.agg (d_ (wc_ num addr every now band most))):=by refine tX_ (sh:=[none,none,none,none,some 3,none]) (ls:=[.int .i64 num,.int .i64 addr,.int .i64 every,.int .i64 now]++h_ band++[.int .i64 most]) (c:=c98) (n:=300) (t:=t98) mo ov rfl (by simp only [h_,okL,okC,C_,List.cons_append,List.nil_append]) (n_ (Q_ _)) (λY _=>vq_ _) rfl (by kernel_rfl) λY hf hg=>?_;unfold t98;exact us_ rfl
def rh_ (subs:List GW) (num now:Int) (m:GM):Except Int GW:=match P_ m.paths.l with
 | .error e=>.error e
 | .ok ts=>if ts.length≠1\/m.n<1\/8<m.n\/m.every<0 then .error 1 else if 3<=subs.length then .error 12
   else .ok (wc_ (IntKind.i64.wrap (num+1)) (ts.headD ⟨[],0,0,0⟩).addr m.every now m.band m.n)
def RSb (subs:SV d_ 15) (num now:Int) (m:GM):Nat->List AV->Prop:=λj ws=>match rh_ subs.l num now m with
 | .ok w=>j=0/\ws=[cs_ d_ 15 (subs.l++[w]),.int .i64 (IntKind.i64.wrap (num+1)),.int .i64 (IntKind.i64.wrap (num+1))]
 | .error e=>j=1/\ws=[subs.x,.int .i64 num,.int .i64 e]
theorem E_ {subs:SV d_ 15} {num now:Int} {m:GM} {e:Int} (h:rh_ subs.l num now m=.error e):RSb subs num now m 1 [subs.x,.int .i64 num,.int .i64 e]:=by unfold RSb;rw [h];exact ⟨rfl,rfl⟩
theorem faG (T:List GG) {i:Nat} (h:i<T.length):(XOp.faddr 91 1).run Tryz.prog [.vptr (bq_ t_ (T.drop i))]=some (.vptr (.int .i64 T[i].addr::([.int .i64 T[i].kind,.int .i64 T[i].role]++bq_ t_ (T.drop (i+1))))):=by rw [List.drop_eq_getElem_cons h];kernel_rfl
def c55:VC:=⟨⟨[],[]⟩,[(98,[(some 15)])],[],3,true,[(97,uL_)]⟩
def t55:VT:=
 (.callF 97 uL_ [64,65,66,67,68,69,70,71,72,73,74,75,76,77,78,79,80,81,82,83,84,85,86,87,88,89,90,91,92,93,94,95,96,97,98,99,100] 102
 (.cons 1
 (K Qb [139] 140
 (K Z0 [140,J 1] 141
 (.ite 141
 (.done (.tup [J 1,85,86,J 1]))
 (K Qc [92,J 1] 142
 (.ite 142
 (.done (.tup [J 1,85,86,J 1]))
 (K Qi [92,J 8] 143
 (.ite 143
 (.done (.tup [J 1,85,86,J 1]))
 (K (.bin .lss 2 false true) [95,J 0] 144
 (.ite 144
 (.done (.tup [J 1,85,86,J 1]))
 (K Qs [85] 145
 (K Qt [145,J 3] 146
 (.ite 146
 (.done (.tup [J 1,85,86,J 12]))
 (K Q1 [86,J 1] 147
 (K Qd [139,J 0] 148
 (K (.faddr 91 1) [148] 149
 (K Q6 [149] 150
 (.call 98 [147,150,95,88,.agg [96,97,98],92] 151 [(some 15)]
 (K (.app 15 128) [85,.agg [151,152,153,154,155,156,157,158,159,160,161,162,163,164,165]] 166
 (.done (.tup [J 0,166,147,147]))))))))))))))))))))
 (.cons 1
 (.done (.tup [J 1,85,86,139]))
 .nil)))
theorem p55 (q:ST) (who:Int) (s:GS) (mail:SV encR 4) (now:Int) (m:GM) (hm:m.Sm) (hs:s.subs.l.length<=1000) (id:Int):CF Tryz.prog 55 ft55 (B_ q who s mail now++c_ m++[.int .i64 id]) (RSb s.subs s.num now m):=by
 have okw:=s.subs.ok Q_;refine u4_ (c:=c55) (n:=300) (t:=t55) mo ov rfl (λY _=>vq_ _) (by kernel_rfl) λY hf hg=>?_;unfold t55;have okE:∀e:Int,okL [s.subs.x,.int .i64 s.num,.int .i64 e]=true:=λe=>by simp only [okL,okC,okw]
 refine a_ (p97 q who s mail now m hm) rfl (hK_ ..) ⟨?_,?_,trivial⟩
 .intro ws h;obtain ⟨ts,e,rfl⟩:=h.ok;have e0:rh_ s.subs.l s.num now m=if ts.length≠1\/m.n<1\/8<m.n\/m.every<0 then .error 1 else if 3<=s.subs.l.length then .error 12
   else .ok (wc_ (IntKind.i64.wrap (s.num+1)) (ts.headD ⟨[],0,0,0⟩).addr m.every now m.band m.n):=by unfold rh_;rw [e]
  refine vj_ (q_ ts) rfl (vj_ (run_neq ..) rfl (u1_ rfl (λh=>?_) (λh=>?_)));have h:(!decide ((ts.length:Int)=1))=true:=h;have h:¬(ts.length:Int)=1:=(by simpa using h);exact VOK_fin (okE 1) (E_ (by rw [e0,if_pos (.inl (by omega))]));have h:(!decide ((ts.length:Int)=1))=false:=h;have h1:(ts.length:Int)=1:=(by simpa using h);refine vj_ (run_lss ..) rfl (u1_ rfl (λh=>VOK_fin (okE 1) (E_ (by rw [e0,if_pos (.inr (.inl (dT h)))]))) (λh2=>?_));refine vj_ (run_gtr ..) rfl (u1_ rfl (λh=>VOK_fin (okE 1) (E_ (by rw [e0,if_pos (.inr (.inr (.inl (dT h))))]))) (λh3=>?_));refine vj_ (run_lss ..) rfl (u1_ rfl (λh=>VOK_fin (okE 1) (E_ (by rw [e0,if_pos (.inr (.inr (.inr (dT h))))]))) (λh4=>?_));rw [if_neg (by rintro (h|h|h|h);omega;exact dF h2 h;exact dF h3 h;exact dF h4 h)]at e0;refine vj_ (s.subs.h.len Tryz.underlying43) rfl (vj_ (run_geq ..) rfl (u1_ rfl (λh=>?_) (λh=>?_)));have h:(3:Int)<=(s.subs.l.length:Int):=dT h;exact VOK_fin (okE 12) (E_ (by rw [e0,if_pos (by omega)]));have h:¬(3:Int)<=(s.subs.l.length:Int):=dF h;rw [if_neg (by omega)]at e0;have h0:0<ts.length:=(by omega);have hd:ts.headD ⟨[],0,0,0⟩=ts[0]:=by
   cases ts with
   |nil=>cases h0
   |cons a r=>rfl
  rw [hd]at e0;refine vj_ (run_add ..) rfl ?_;refine vj_ (iaG (SlV.of ts) h0) (kO_ S_ _) (vj_ (faG ts h0) (by simp only [okC,okL,List.cons_append,List.nil_append];exact kO_ S_ _) (vj_ (sP_ Tryz.underlying3 rfl _ _) rfl ?_));refine ur_ (p98 (IntKind.i64.wrap (s.num+1)) ts[0].addr m.every now m.band m.n) rfl (Q_ _) (vj_ (vJ_ en_ (by decide) (by decide) s.subs _ (by omega)) (t5_ Q_ _) ?_);refine VOK_fin (by show okL [cs_ d_ 15 _,.int .i64 (IntKind.i64.wrap (s.num+1)),.int .i64 (IntKind.i64.wrap (s.num+1))]=true;simp only [okL,okC,t5_ Q_]) ?_;unfold RSb;rw [e0];exact ⟨rfl,rfl⟩
 intro ws h;obtain ⟨e',e,rfl⟩:=h.er;exact VOK_fin (okE e') (E_ (by unfold rh_;rw [e]))
end Go.Proofs.YtijpblconliffaaGreatDoor.vars
set_option maxRecDepth 1000000
set_option linter.unusedVariables false
set_option linter.unusedSimpArgs false
namespace Go.Proofs.YtijpblconliffaaGreatDoor.vars
open Go Go.Shelf Go.RowKit Go.Lib Go.Sort
theorem U_ {P:Program} (w:World) (t e ty:TypeId) (z:Value) (zs:List Value) (ht:P.underlying t=some (.slice e)) (hv:∀w,(zeroValue e).run P w=.ok z w) (hz:z.cells=zs.toArray) (h1:∀v∈zs,v.oneCell'=true) (b o c:Nat)
  (hc:∀j,j<zs.length->(w.cell? ⟨b,o+j,none⟩).isSome=true) (hf:∀j,j<zs.length->w.frozen? ⟨b,o+j,none⟩=false):
  (Builtin.clear_ #[t] ty #[.slice (some ⟨b,o,none⟩) 1 c]).run P w=.ok (.tuple #[]) (w.setCells b o zs):=by
 have hzc:(Builtin.zeroCells z.cells 1).toList=zs:=by rw [hz];simp [Builtin.zeroCells];apply List.ext_getElem;simp;intro i h1 h2;simp [Nat.mod_eq_of_lt h2,List.getElem?_eq_getElem h2]
 have hst:=run_storeCells_cells (P:=P) b o zs 0 w (by simpa using hc) (by simpa using hf) h1;simp only [Nat.add_zero]at hst;simp [Builtin.clear_,run_underlying ht,hv,hzc,hst]
def zW:List Value:=[.int .i64 0,.int .i64 0,.int .i64 0,.int .i64 0,.int .i64 0,.int .i64 0,.float .f64 0,.int .i64 0,.bool false,.bool false,.int .i64 0,.int .i64 0,.float .f64 0,.int .i64 0,.slice none 0 0]
theorem info100:Tryz.prog.info? 100=some (Tryz.prog.info? 100).get! :=by kernel_rfl
theorem size100:(Tryz.prog.info? 100).get!.size=15:=by kernel_rfl
theorem vT_:∃z,(∀w,(zeroValue 100).run Tryz.prog w=.ok z w)/\z.cells=zW.toArray:=by obtain ⟨ti,hi,z,hz,hc⟩:∃ti,Tryz.prog.info? 100=some ti/\∃z,ti.zero=some z/\z.cells=zW.toArray:=⟨_,info100,((Tryz.prog.info? 100).get!.zero).get!,by kernel_rfl,by kernel_rfl⟩;refine ⟨z,λw=>?_,hc⟩;simp [zeroValue,typeInfo,hi,hz]
theorem zW_one:∀v∈zW,v.oneCell'=true:=by decide
set_option maxHeartbeats 4000000 in
theorem qd_ (w:World) (blk off cap n i j:Nat) (news:List Value) (hj:j=i+1) (hjn:j<=n) (hcap:n<=cap)
  (hn:news.length=(n-j)*15) (hsrc:∀t u,news[t]? =some u->w.cell? ⟨blk,off+j*15+t,none⟩=some u) (hone:∀u∈news,u.oneCell'=true)
  (hcell:∀t,t<n*15->(w.cell? ⟨blk,off+t,none⟩).isSome=true/\w.frozen? ⟨blk,off+t,none⟩=false)
  (hW:∀t,t<15->((w.drew.setCells blk (off+i*15) news).cell? ⟨blk,off+(n-1)*15+t,none⟩).isSome=true/\(w.drew.setCells blk (off+i*15) news).frozen? ⟨blk,off+(n-1)*15+t,none⟩=false):
  Calls Tryz.prog 101 #[.slice (some ⟨blk,off,none⟩) n cap,.int .i64 i,.int .i64 j] w λe w'=>e=.returned (.slice (some ⟨blk,off,none⟩) (n-1) cap)/\w'=(w.drew.setCells blk (off+i*15) news).setCells blk (off+(n-1)*15) zW:=by
 have mixed:Tryz.prog.follows .mixedOrders=true:=by kernel_rfl
 obtain ⟨z,hz1,hz2⟩:=vT_;have hi0:=info100;have hsz:=size100;generalize (Tryz.prog.info? 100).get! =ti at hi0 hsz;have hlt:i<j:=by omega
 obtain ⟨A,hA,hA2⟩:∃A:Addr,(if cap=j then some (⟨blk,off,none⟩:Addr)else some ⟨blk,off+j*15,none⟩)=some A/\Hid (∀t u,news[t]? =some u->w.drew.cell? (A.add t)=some u):=by by_cases h:cap=j;refine ⟨⟨blk,off,none⟩,by simp [h],λt u hu=>?_⟩;have h0:n-j=0:=(by omega);rw [h0,Nat.zero_mul]at hn;rw [List.length_eq_zero_iff.1 hn]at hu;simp at hu;refine ⟨⟨blk,off+j*15,none⟩,by simp [h],λt u hu=>?_⟩;rw [Addr.add_lit];exact hsrc t u hu
 have s1:Hid (news.length=(n-j)*15):=hn;have s2:Hid (∀u∈news,u.oneCell'=true):=hone;have s3:Hid (∀t,t<news.length->(w.drew.cell? ⟨blk,off+i*15+t,none⟩).isSome=true/\w.drew.frozen? ⟨blk,off+i*15+t,none⟩=false):=by intro t ht;have:=hcell (i*15+t) (by omega);rw [←Nat.add_assoc]at this;exact this
 obtain ⟨W1,hW1⟩:∃W1,W1=w.drew.setCells blk (off+i*15) news:=⟨_,rfl⟩;rw [←hW1]at hW;have hcl:∀ty,(Builtin.clear_ #[43] ty #[.slice (some ⟨blk,off+(i+(n-j))*15,none⟩) (n-(i+(n-j))) (cap-(i+(n-j)))]).run Tryz.prog W1=.ok (.tuple #[]) (W1.setCells blk (off+(n-1)*15) zW):=by intro ty;rw [show n-(i+(n-j))=1 by omega,show i+(n-j)=n-1 by omega];exact U_ W1 43 100 ty z zW Tryz.underlying43 hz1 hz2 zW_one blk (off+(n-1)*15) _ (λt ht=>(hW t ht).1) (λt ht=>(hW t ht).2)
 have hW':Hid (W1=w.drew.setCells blk (off+i*15) news):=hW1;have hic:i<=cap:=by omega
 have hjc:j<=cap:=by omega
 have hj':Hid (j=i+1):=hj;clear hW1 hn hsrc hone hcell hW hj
 go_enter Tryz.func101,Tryz.ntmps101
 go_wp2_with fail
 go_region_law_o (refine step_append_room rfl (.tmp 22) (.tmp 25) 43 rfl 100 ti 15 Tryz.underlying43 hi0 hsz blk off i cap (by simp [Act.eval,Act.put]) A (n-j) (cap-j) news (by simp [Act.eval,Act.put]) s1.out hA2.out s2.out (by omega) s3.out ?_;rw [←hW'.out])
 go_wp2
 go_ret
 exact ⟨by rw [show n-1=i+(n-j) by have:=hj'.out;omega];rfl,by rw [hW'.out]⟩
end Go.Proofs.YtijpblconliffaaGreatDoor.vars
set_option maxRecDepth 1000000
set_option linter.unusedVariables false
set_option linter.unusedSimpArgs false
namespace Go.Proofs.YtijpblconliffaaGreatDoor.vars
open Go Go.Sx
theorem r7_ {E:Env}:∀(cs:List AV) (vs:List Value),vs.length=cs.length->(∀(i:Nat) (a:AV) (v:Value),cs[i]? =some a->vs[i]? =some v->Con E a v)->ConL E cs vs
 |[],vs,h,_=>by simpa [ConL]using h
 |a::r,[],h,_=>by simp at h
 |a::r,v::vs,h,h1=>⟨v,vs,rfl,h1 0 a v rfl rfl,r7_ r vs (by simpa using h) λi a v ha hv=>h1 (i+1) a v ha hv⟩
theorem W_ {E:Env}:∀(k:Nat) (cs:List AV) (vs:List Value),ConL E cs vs->ConL E (cs.drop k) (vs.drop k)
 |0,cs,vs,h=>h
 |k+1,[],vs,h=>by have h:vs=[]:=h;subst h;exact h
 |k+1,a::r,vs,h=>by obtain ⟨v,r',rfl,_,h⟩:=h;exact W_ k r r' h
theorem Y_:∀(k:Nat) (l:List AV),okL l=true->okL (l.drop k)=true
 |0,l,h=>h
 |k+1,[],h=>h
 |k+1,a::r,h=>Y_ k r (by rw [aY_]at h;exact (aa_ h).2)
def zA:List AV:=[.int .i64 0,.int .i64 0,.int .i64 0,.int .i64 0,.int .i64 0,.int .i64 0,.flt .f64 0,.int .i64 0,.bool false,.bool false,.int .i64 0,.int .i64 0,.flt .f64 0,.int .i64 0,.nsl]
theorem vG_ (E:Env):ConL E zA zW:=by simp [zA,zW,ConL,Con]
theorem vH_:a8_ zA=true:=rfl
theorem uA_ (l:List GW) {i:Nat} (hi:i<l.length):bq_ d_ (l.eraseIdx i)=(bq_ d_ l).take (i*15)++(bq_ d_ l).drop ((i+1)*15):=by
 have e1:l=l.take i++l.drop i:=(List.take_append_drop ..).symm;have e2:l=l.take (i+1)++l.drop (i+1):=(List.take_append_drop ..).symm;have h1:(bq_ d_ (l.take i)).length=i*15:=by rw [bC_ en_,List.length_take];congr 1;omega
 have h2:(bq_ d_ (l.take (i+1))).length=(i+1)*15:=by rw [bC_ en_,List.length_take];congr 1;omega
 have t1:(bq_ d_ l).take (i*15)=bq_ d_ (l.take i):=by
  conv=>lhs;rw [e1,dh_]
  rw [←h1,List.take_left]
 have t2:(bq_ d_ l).drop ((i+1)*15)=bq_ d_ (l.drop (i+1)):=by
  conv=>lhs;rw [e2,dh_]
  rw [←h2,List.drop_left]
 rw [t1,t2,←dh_,List.eraseIdx_eq_take_drop_succ]
theorem xm_ (s:SV d_ 15) {i:Nat} (hi:i<s.l.length):CF Tryz.prog 101 ft101 [s.x,.int .i64 (i:Int),.int .i64 ((i+1:Nat):Int)] (λ_ ws=>ws=[dq_ d_ 15 (s.l.eraseIdx i)]):=
 ⟨rfl,λY hf B pr E w us hy hg hr hcon=>by
   have hat:=bB_ [s.x,.int .i64 (i:Int),.int .i64 ((i+1:Nat):Int)] hf;have h64:E.sy 64=some s.x:=(by rw [hy.v];exact hat 0 _ rfl);have h65:E.sy 65=some (.int .i64 (i:Int)):=(by rw [hy.v];exact hat 1 _ rfl);have h66:E.sy 66=some (.int .i64 ((i+1:Nat):Int)):=(by rw [hy.v];exact hat 2 _ rfl);have hx:s.x=.vsl s.l.length 15 (bq_ d_ s.l):=(by rcases s.h with h|⟨h,_⟩;exact h;rw [h]at hi;cases hi);have oks:okL (bq_ d_ s.l)=true:=kO_ Q_ s.l;have hcl:(bq_ d_ s.l).length=s.l.length*15:=bC_ en_ s.l;obtain ⟨n,hn⟩:∃n,n=s.l.length:=⟨_,rfl⟩;have her:=uA_ s.l hi;have hel:(s.l.eraseIdx i).length=n-1:=(by rw [List.length_eraseIdx_of_lt hi,hn]);have okE:okL (bq_ d_ (s.l.eraseIdx i))=true:=kO_ Q_ _;have hlE:(bq_ d_ (s.l.eraseIdx i)).length=(n-1)*15:=(by rw [bC_ en_,hel]);have okws:okL [dq_ d_ 15 (s.l.eraseIdx i)]=true:=(by simp only [okL,r5_ Q_]);have hws:dq_ d_ 15 (s.l.eraseIdx i)=.vsl (n-1) 15 (bq_ d_ (s.l.eraseIdx i)):=(by unfold dq_;rw [hel]);rw [hx,←hn]at h64;rw [←hn]at hi hcl;generalize bq_ d_ s.l=cells at*;generalize bq_ d_ (s.l.eraseIdx i)=left at*;have e:bo_ 64 (ci_ ft101.ent.slots)=[.slx 0 15 64,.sym 65,.sym 66]:=(by kernel_rfl);rw [e]at hcon;obtain ⟨v0,r0,rfl,c0,v1,r1,rfl,c1,v2,r2,rfl,c2,rfl⟩:=hcon;obtain ⟨a1,q1,_,c1⟩:=c1;rw [h65]at q1;cases q1;obtain rfl:v1=.int .i64 (i:Int):=c1;obtain ⟨a2,q2,_,c2⟩:=c2;rw [h66]at q2;cases q2;obtain rfl:v2=.int .i64 ((i+1:Nat):Int):=c2;obtain ⟨a0,q0,c0⟩:=c0;rw [h64]at q0;cases q0;rcases c0 with ⟨c0,_⟩|⟨len,cs,c0,b,o,m,c,off',hφ,hsz,rfl,hoff,hle,hfit⟩;cases c0;cases c0;obtain rfl:=hoff (by omega);have hk0:(ft101.ent.heap 64).get 0=some (.syl 64):=(by kernel_rfl);obtain ⟨hr1,_⟩:=hr.expand hk0 h64;have hk1:((ft101.ent.heap 64).set 0 (.cells cells)).get 0=some (.cells cells):=AHeap.get_set_same _ (by decide) _;obtain ⟨H1,hH1⟩:∃H1,H1=(ft101.ent.heap 64).set 0 (.cells cells):=⟨_,rfl⟩;rw [←hH1]at hr1 hk1;obtain ⟨arr,t,g1,g2,g3,g4⟩:=hr1.blk hk1 hφ;obtain ⟨vals,hvals⟩:∃vals,vals=(arr.toList.drop o).take cells.length:=⟨_,rfl⟩;have hvl:vals.length=cells.length:=(by have:arr.toList.length=arr.size:=Array.length_toList;rw [hvals,List.length_take,List.length_drop];omega);have hvg:∀j,j<cells.length->vals[j]? =arr[o+j]? :=λj hj=>(by rw [hvals,List.getElem?_take,if_pos hj,List.getElem?_drop,Array.getElem?_toList]);have hcv:ConL E cells vals:=r7_ cells vals hvl λj a v ha hv=>(by have hj:j<cells.length:=(List.getElem?_eq_some_iff.1 ha).1;obtain ⟨v',k1,k2⟩:=g4 j a ha;rw [hvg j hj,k1]at hv;cases hv;exact k2);have hcell:∀j,w.cell? ⟨b,o+j,none⟩=arr[o+j]? :=λj=>(by simp [World.cell?,g1]);have hfr:∀j,w.frozen? ⟨b,o+j,none⟩=false:=λj=>(by simp [World.frozen?,g1]);have hiso:∀j,j<n*15->(w.cell? ⟨b,o+j,none⟩).isSome=true:=λj hj=>(by rw [hcell,←hvg j (by omega),List.getElem?_eq_getElem (by omega)];rfl);obtain ⟨X,hX⟩:∃X,X=cells.drop ((i+1)*15):=⟨_,rfl⟩;obtain ⟨news,hnews⟩:∃news,news=vals.drop ((i+1)*15):=⟨_,rfl⟩;have hXl:X.length=(n-(i+1))*15:=(by rw [hX,List.length_drop,hcl,Nat.sub_mul]);have hnl:news.length=(n-(i+1))*15:=(by rw [hnews,List.length_drop,hvl,hcl,Nat.sub_mul]);have hXn:ConL E X news:=(by rw [hX,hnews];exact W_ _ _ _ hcv);have okX:okL X=true:=(by rw [hX];exact Y_ _ _ oks);have hone:=F_ okX;have hL:(cells.take (i*15)).length=i*15:=(by rw [List.length_take];omega);obtain ⟨M,hM⟩:∃M,M=(cells.drop (i*15)).take X.length:=⟨_,rfl⟩;obtain ⟨Z,hZ⟩:∃Z,Z=(cells.drop (i*15)).drop X.length:=⟨_,rfl⟩;have hMl:M.length=X.length:=(by rw [hM,List.length_take,List.length_drop];omega);have hZl:Z.length=15:=(by rw [hZ,List.length_drop,List.length_drop];omega);have hcut:cells=cells.take (i*15)++(M++Z):=(by rw [hM,hZ,List.take_append_drop,List.take_append_drop]);have hset1:c9_ (i*15) X cells=some (cells.take (i*15)++(X++Z)):=(by have:=l_ (cells.take (i*15)) X M Z hMl;rw [hL,←hcut]at this;exact this);have hset2:c9_ ((n-1)*15) zA (cells.take (i*15)++(X++Z))=some (left++zA):=(by have:=l_ (cells.take (i*15)++X) zA Z [] (by rw [hZl];rfl);rw [List.append_nil,List.append_nil,List.length_append,hL,List.append_assoc]at this;rw [show (n-1)*15=i*15+X.length by omega,this,her,hX]);have hrd:=hr1.drew;obtain ⟨w1,s1,s2⟩:=g8_ (P:=Tryz.prog) hrd hk1 hφ (off:=i*15) hXn hone hset1;have hw1:=run_storeCells_cells (P:=Tryz.prog) b (o+i*15) news 0 w.drew (λj hj=>by
    have:=hiso (i*15+j) (by omega);rw [←Nat.add_assoc]at this;exact this) (λj hj=>by
    have:=hfr (i*15+j);rw [←Nat.add_assoc]at this;exact this) (fX_ hXn hone)
   rw [Nat.add_zero,s1]at hw1;injection hw1 with _ hw1
   have hk2:(H1.set 0 (.cells (cells.take (i*15)++(X++Z)))).get 0=some (.cells (cells.take (i*15)++(X++Z))):=AHeap.get_set_same _ (by decide) _;obtain ⟨w2,s3,s4⟩:=g8_ (P:=Tryz.prog) s2 hk2 hφ (off:=(n-1)*15) (vG_ E) vH_ hset2;obtain ⟨arr1,t1,f1,f2,f3,f4⟩:=s2.blk hk2 hφ;have hl1:(cells.take (i*15)++(X++Z)).length=n*15:=(by rw [List.length_append,List.length_append,hL,hZl];omega);have hcell1:∀j,j<15->(w1.cell? ⟨b,o+(n-1)*15+j,none⟩).isSome=true/\w1.frozen? ⟨b,o+(n-1)*15+j,none⟩=false:=λj hj=>(by refine ⟨?_,by simp [World.frozen?,f1]⟩;have hb:o+(n-1)*15+j<arr1.size:=(by omega);simp [World.cell?,f1,hb]);have hw2:=run_storeCells_cells (P:=Tryz.prog) b (o+(n-1)*15) zW 0 w1 (λj hj=>(hcell1 j hj).1) (λj hj=>(hcell1 j hj).2) (fX_ (vG_ E) vH_);rw [Nat.add_zero,s3]at hw2;injection hw2 with _ hw2
   have hrun:=qd_ w b o c n i (i+1) news rfl hi hle hnl (λj u hu=>by have hj:j<news.length:=(List.getElem?_eq_some_iff.1 hu).1;rw [Nat.add_assoc,hcell,←hvg _ (by omega)];rw [hnews,List.getElem?_drop]at hu;exact hu) (fX_ hXn hone) (λj hj=>⟨hiso j hj,hfr j⟩) (λj hj=>by rw [←hw1];exact hcell1 j hj);refine Calls.mono hrun λe w' he=>?_;obtain ⟨rfl,rfl⟩:=he;rw [←hw1,←hw2];have h4:=s4.trim (AHeap.get_set_same _ (by decide) _) ((n-1)*15);have h4t:(left++zA).take ((n-1)*15)=left:=(by rw [←hlE,List.take_left]);rw [h4t]at h4;obtain ⟨ws,hws'⟩:∃ws,ws=dq_ d_ 15 (s.l.eraseIdx i):=⟨_,rfl⟩;obtain ⟨p1,p2,p3,p4⟩:=hf.puts [s.x,.int .i64 (i:Int),.int .i64 ((i+1:Nat):Int)];obtain ⟨q1,q2,q3,q4⟩:=p1.puts [ws];have hae:=bB_ [ws] p1;have hv:∀k a,E.sy k=some a->((Y.puts 64 [s.x,.int .i64 (i:Int),.int .i64 ((i+1:Nat):Int)]).puts 67 [ws]).v k=some a:=λk a ha=>(by rw [hy.v]at ha;exact q2 _ _ ha);have hl:∀k l,E.syl k=some l->((Y.puts 64 [s.x,.int .i64 (i:Int),.int .i64 ((i+1:Nat):Int)]).puts 67 [ws]).l k=some l:=λk l ha=>(by rw [hy.l]at ha;exact (congrFun q3 k).trans ha);have h67:((Y.puts 64 [s.x,.int .i64 (i:Int),.int .i64 ((i+1:Nat):Int)]).puts 67 [ws]).v 67=some (.vsl (n-1) 15 left):=(by have:=hae 0 ws rfl;rw [hws',hws]at this;rw [hws',hws];exact this);have h5:=h4.with (Y:=((Y.puts 64 [s.x,.int .i64 (i:Int),.int .i64 ((i+1:Nat):Int)]).puts 67 [ws])) hv hl;have h6:=h5.collapse (n:=67) (AHeap.get_set_same _ (by decide) _) (at_ okE) (by rw [a1_ _ okE];exact h67) (by rw [a1_ _ okE];exact okE) hlE;refine ⟨_,.ret (.slx 0 15 67) _,⟨0,[ws],false,_,rfl,hws'▸rfl,hws'▸okws,rfl,rfl,rfl⟩,E.with ((Y.puts 64 [s.x,.int .i64 (i:Int),.int .i64 ((i+1:Nat):Int)]).puts 67 [ws]),Env.with_leF 0 λk hk=>by rw [hy.v];exact q4 k (by omega),⟨rfl,rfl,hy.res⟩,_,rfl,?_,?_⟩;exact ⟨_,h67,.inr ⟨n-1,left,rfl,b,o,m,c,0,hφ,hsz,rfl,λ_=>rfl,by omega,hfit⟩⟩
   .rw [hH1]at h6;exact h6⟩
def wm_:VC:=⟨⟨[],[]⟩,[],[],0,true,[]⟩
def vW_:VT:=
 (K Z2 [64,82] 91
 (.done (91)))
theorem xl_ (w:GW) (m:GM):jv_ Tryz.prog 100 [.agg (d_ w),.vptr (c_ m)] (.bool (decide (w.num=m.n))):=by have okw:=Q_ w;have okm:=x_ m;refine uN_ (args':=[.agg (aj_ 64 15),.vptr (aj_ 79 12)]) (ls:=d_ w++c_ m) (c:=wm_) (n:=300) (m:=91) (t:=vW_) mo ov (by simp only [mC_,Go.Sx.okI,okw,okm,Bool.and_self]) (by kernel_rfl) (kO_.okL_join okw okm) rfl (λY _=>rfl) (λY _=>vq_ _) rfl (by kernel_rfl) λY hf hg=>?_;unfold vW_;exact vj_ (run_eql ..) rfl (us_ rfl)
def H_ (n:Int):List GW->Option Nat
 |[]=>none
 |w::r=>if w.num=n then some 0 else (H_ n r).map (· +1)
def qe_ (n:Int) (l:List GW):Int:=match H_ n l with
 |some i=>(i:Int)
 |none=> -1
theorem X_ (n:Int):∀(l:List GW) (i:Nat),(∀j (h:j<i) (h':j<l.length),l[j].num≠n)->H_ n l=(H_ n (l.drop i)).map (· +i)
 |l,0,_=>by simp
 |[],i+1,_=>by simp [H_]
 |w::r,i+1,h=>by
  have h0:w.num≠n:=h 0 (by omega) (by simp);have ih:=X_ n r i λj hj h'=>h (j+1) (by omega) (by simpa using h');simp only [H_,if_neg h0,List.drop_succ_cons,ih,Option.map_map]
  congr 1
theorem M_ {E:Env}:∀(cs:List AV) (vs:List Value) (k:Nat),Con0L E cs vs->okL cs=true->(∀(i:Nat) (a:AV),cs[i]? =some a->E.sy (k+i)=some a)->ConL E (aj_ k cs.length) vs
 |[],vs,k,h,_,_=>by simpa [Con0L,ConL,aj_]using h
 |a::r,vs,k,h,ho,hs=>by
  obtain ⟨v,r',rfl,h1,h2⟩:=h;rw [aY_]at ho;obtain ⟨o1,o2⟩:=aa_ ho;refine ⟨v,r',rfl,⟨a,hs 0 a rfl,bj_ o1,h1⟩,M_ r r' (k+1) h2 o2 λi b hb=>?_⟩;have:=hs (i+1) b hb
  rwa [show k+1+i=k+(i+1) by omega]
theorem wd_ {m:GM} {x:AV} {B:World} {pr:Nat->Prop} {E:Env} {w:World} {us:List Value} (h:∀(i:Nat) (a:AV),[x,.fn 100 [.vptr (c_ m)]][i]? =some a->E.sy (64+i)=some a) (h2:∀(i:Nat) (a:AV),(c_ m)[i]? =some a->E.sy (66+i)=some a)
  (hr:Rel B pr E (ft99.ent.heap 64) w) (hc:ConL E (bo_ 64 (ci_ ft99.ent.slots)) us):Rel B pr E (ft99.ent.heap 64) w/\ConL E [.slx 0 15 64,.fn 100 [.vptr (aj_ 66 12)]] us:=by
 refine ⟨hr,?_⟩;have e:bo_ 64 (ci_ ft99.ent.slots)=[.slx 0 15 64,.sym 65]:=by kernel_rfl
 rw [e]at hc;obtain ⟨v0,r0,rfl,c0,v1,r1,rfl,c1,rfl⟩:=hc;refine ⟨v0,_,rfl,c0,v1,_,rfl,?_,rfl⟩;obtain ⟨a,q1,_,q2⟩:=c1;have:=h 1 _ rfl;rw [q1]at this;cases this;simp only [Con0]at q2;obtain ⟨vs,e1,e2⟩:=q2;simp only [Con0L]at e2;obtain ⟨u,r,e3,e4,e5⟩:=e2;subst e3 e5;simp only [Con0]at e4;obtain ⟨b,o,vs',k1,k2,k3⟩:=e4;simp only [Con];refine ⟨_,e1,u,[],rfl,?_,rfl⟩;simp only [Con];exact ⟨b,o,vs',k1,M_ (c_ m) vs' 66 k2 (x_ m) h2,k3⟩
def cQ99:VC:=⟨⟨[],[]⟩,[(100,[none])],[(0,[⟨[(8,.slx 0 0 0),(0,.ptx 0 64 15 0),(1,.fn 100 [.vptr [66,67,68,69,70,71,72,73,74,75,76,77]]),(7,78)],[],1,1,[],[],[(0,64)]⟩])],1,true,[]⟩
def wQ_:VT:=
 (K Qs [64] 78
 (.loop 79 0 [J 0]
 (.cons 1
 (K Q2 [79,78] 80
 (.ite 80
 (K .inb [64,79] 81
 (.lt Qy [64,81] 82 (some 15)
 (.call 100 [.agg [82,83,84,85,86,87,88,89,90,91,92,93,94,95,96],.vptr [66,67,68,69,70,71,72,73,74,75,76,77]] 97 [none]
 (.ite 97
 (.done (.tup [J 0,79]))
 (K Q1 [79,J 1] 98
 (.again 0 0 [98]))))))
 (.done (.tup [J 0,.int .i64 (-1)]))))
 .nil)))
theorem p99 (s:SV d_ 15) (hl:s.l.length<=1000) (m:GM):CF Tryz.prog 99 ft99 [s.x,.fn 100 [.vptr (c_ m)]] (λ_ ws=>ws=[.int .i64 (qe_ m.n s.l)]):=by
 refine u3_ (c:=cQ99) (ex:=c_ m) (args:=[.slx 0 15 64,.fn 100 [.vptr (aj_ 66 12)]]) (H:=ft99.ent.heap 64) (n:=300) (t:=wQ_) mo ov rfl (λY=>vq_ _) rfl (λB pr E w us h h2 hr hc=>wd_ h h2 hr hc) (by kernel_rfl) λY hf hg=>?_;unfold wQ_;refine vj_ (s.h.len Tryz.underlying43) rfl ?_;refine ut_ (ι:=Nat) (λi=>[.int .i64 (i:Int)]) (λi=>i<=s.l.length/\∀j (h:j<i) (h':j<s.l.length),s.l[j].num≠m.n) (λi=>s.l.length-i) 0 ⟨Nat.zero_le _,λj h=>absurd h (Nat.not_lt_zero _)⟩ rfl (λ_ _=>rfl) (λi j _ _ h=>?_) (λi hi=>?_)
 .have h:=(List.cons.inj h).1;injection h with _ h
  omega
 obtain ⟨hi,hne⟩:=hi;have hd:=X_ m.n s.l i hne;refine vj_ (run_lss ..) rfl (u1_ rfl (λhc=>?_) (λhc=>?_));have hc:(i:Int)<(s.l.length:Int):=dT hc;have hc:i<s.l.length:=(by omega);refine vj_ (vL_ s hc) rfl (u2_ (wa_ s hc) rfl (Q_ _) (ur_ (xl_ s.l[i] m) rfl rfl (u1_ rfl (λhe=>?_) (λhe=>?_))));have he:s.l[i].num=m.n:=dT he;refine VOK_fin rfl ?_;unfold qe_;rw [hd,List.drop_eq_getElem_cons hc];simp only [H_,if_pos he,Option.map_some,Nat.zero_add];rfl;have he:¬s.l[i].num=m.n:=dF he;refine vj_ (e_ (by omega) (by omega)) rfl (uj_ rfl ⟨i+1,⟨hc,λj hj h'=>?_⟩,rfl,by omega⟩);rcases Nat.lt_or_ge j i with h|h;exact hne j h h';have e:j=i:=(by omega);subst e;exact he;have hc:¬(i:Int)<(s.l.length:Int):=dF hc;have e:i=s.l.length:=(by omega);refine VOK_fin rfl ?_;unfold qe_;rw [hd,e,List.drop_length];rfl
theorem sN_ (n:Int):∀(l:List GW) (i:Nat),H_ n l=some i->i<l.length
 |[],i,h=>by cases h
 |w::r,i,h=>by
  unfold H_ at h;split at h;cases h;simp
  .cases e:H_ n r with
   |none=>rw [e]at h;cases h
   |some j=>rw [e]at h;cases h;have:=sN_ n r j e;simp;omega
def REn (subs:SV d_ 15) (num:Int) (n:Int):Nat->List AV->Prop:=λj ws=>match H_ n subs.l with
 |some i=>j=0/\ws=[dq_ d_ 15 (subs.l.eraseIdx i),.int .i64 num]
 |none=>j=1/\ws=[subs.x,.int .i64 num,.int .i64 11]
def c56:VC:=⟨⟨[],[]⟩,[],[],2,true,[(99,ft99),(101,ft101)]⟩
def t56:VT:=
 (.callF 99 ft99 [85,.fn 100 [.vptr [89,90,91,92,93,94,95,96,97,98,99,100]]] 101
 (.cons 1
 (K Qc [103,J 0] 104
 (.ite 104
 (.done (.tup [J 1,85,86,J 11]))
 (K Q1 [103,J 1] 105
 (.callF 101 ft101 [85,103,105] 106
 (.cons 1
 (.done (.tup [J 0,109,86]))
 .nil)))))
 .nil))
theorem p56 (q:ST) (who:Int) (s:GS) (mail:SV encR 4) (now:Int) (m:GM) (hs:s.subs.l.length<=1000):CF Tryz.prog 56 ft56 (B_ q who s mail now++c_ m) (REn s.subs s.num m.n):=by
 have okw:=s.subs.ok Q_;have okm:=x_ m;refine u4_ (c:=c56) (n:=300) (t:=t56) mo ov rfl (λY _=>vq_ _) (by kernel_rfl) λY hf hg=>?_;unfold t56;refine a_ (p99 s.subs hs m) rfl (by simp only [okL,okC,okw,okm]) ⟨?_,trivial⟩;rintro ws rfl;cases hx:H_ m.n s.subs.l with
 |none=>have e:qe_ m.n s.subs.l= -1:=(by unfold qe_;rw [hx]);rw [e];refine vj_ (r:=.bool true) (by kernel_rfl) rfl (u1_ (t:=true) rfl (λ_=>VOK_fin (by show okL [s.subs.x,.int .i64 s.num,.int .i64 11]=true;simp only [okL,okC,okw]) ?_) (λh=>by cases h));unfold REn;rw [hx];exact ⟨rfl,rfl⟩
 |some i=>have e:qe_ m.n s.subs.l=(i:Int):=(by unfold qe_;rw [hx]);have hi:=sN_ _ _ _ hx;rw [e];refine vj_ (run_lss ..) rfl (u1_ rfl (λh=>?_) (λ_=>?_));have h:(i:Int)<0:=dT h;omega;refine vj_ (e_ (by omega) (by omega)) rfl ?_;refine a_ (xm_ s.subs hi) rfl (by simp only [okL,okC,okw]) ⟨?_,trivial⟩;rintro ws rfl;refine VOK_fin (by show okL [dq_ d_ 15 _,.int .i64 s.num]=true;simp only [okL,okC,r5_ Q_]) ?_;unfold REn;rw [hx];exact ⟨rfl,rfl⟩
end Go.Proofs.YtijpblconliffaaGreatDoor.vars
