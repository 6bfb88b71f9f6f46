/-
  Mach's laws: the beginning, closed.
-/
import Derived.Test.YtjconanknjgpnaaGreatFA
import Derived.Test.YtjconanknjgpnaaGreatSyS
import Derived.Test.YtjconanknjgpnaaGreatWI
set_option maxRecDepth 100000
namespace Go.Proofs.YtjconanknjgpnaaGreat.vars
open Go Go.Sx
theorem C8_: @uU_ gI Tryz.prog 3000 27 [] (.bool true)=true:=by kernel_rfl
theorem k27:jA_ Tryz.prog 27 [] (.bool true):= @vj_ gI Tryz.prog mo ov 3000 27 [] (.bool true) C8_
end Go.Proofs.YtjconanknjgpnaaGreat.vars
set_option maxRecDepth 100000
set_option linter.unusedVariables false
set_option linter.unusedSimpArgs false
namespace Go.Proofs.YtjconanknjgpnaaGreat.vars
open Go Go.Sx
theorem x3_ {α:Type} {enc:α->List AV} {p:List AV->Prop} {q:α->Prop} (h:∀r,p r->∃a,r=enc a/\q a):∀rows:List (List AV),(∀r,r∈rows->p r)->∃l:List α,rows.flatten=a7_ enc l/\l.length=rows.length/\∀a,a∈l->q a
 |[],_=>⟨[],rfl,rfl,λa h=>by cases h⟩
 |r::rows,hr=>by obtain ⟨a,rfl,ha⟩:=h r (hr r (List.mem_cons_self ..));obtain ⟨l,h1,h2,h3⟩:=x3_ h rows λr h=>hr r (List.mem_cons_of_mem _ h);refine ⟨a::l,by rw [List.flatten_cons,h1];rfl,by simp [h2],λb hb=>?_⟩;rcases List.mem_cons.1 hb with rfl|hb;exact ha;exact h3 b hb
theorem Aw_ {r:List AV} (h:Sx.Fit Tryz.prog 5 r):∃c:UInt8,r=vo_ c/\True:=by
 obtain ⟨n,rfl,hn⟩:=tt_ Tryz.underlying5 h;have hn:0<=n/\n<=255:=by simpa [Lit.wf,IntKind.min,IntKind.max,IntKind.bits,IntKind.signed]using hn
 refine ⟨n.toNat.toUInt8,?_,trivial⟩;have:((n.toNat.toUInt8).toNat:Int)=n:=by have h1:n.toNat.toUInt8.toNat=n.toNat:=(by simp only [Nat.toUInt8,UInt8.toNat_ofNat'];omega);rw [h1];omega
 unfold vo_;rw [this]
theorem arg_u8s {H:Type} {enc:TypeId×Value->H} {W:World} {base:Nat} {v:Value} {dd:DataW H} {p ps:List MemPlace} (hok:Value.okWide Tryz.prog W .any base 22 v)
  (h:DataW.Trod enc Tryz.prog W 0 (λ_=>true) true 22 v dd p) (hps:∀q,q∈p->q∈ps):∃(l:List UInt8) (a:AV),SlV vo_ 1 l a/\True/\l.length<=maxLen/\Con (ka_ (ll_ W ps)) a v:=by
 rcases uw_ (d:=5) Tryz.underlying22 (by kernel_rfl) hok h hps with rfl|⟨rows,h1,h2,h3,h4⟩;exact ⟨[],.nsl,.inr ⟨rfl,rfl⟩,trivial,Nat.zero_le _,by simp only [Con]⟩;obtain ⟨l,k1,k2,k3⟩:=x3_ (enc:=vo_) (q:=λ_=>True) (λr hr=>Aw_ hr) rows h1;have hc:Tryz.prog.cellsOf 5=1:=(by kernel_rfl);refine ⟨l,es_ vo_ 1 l,.inl rfl,trivial,by omega,?_⟩;have h4':=h4;rw [k1,hc,←k2]at h4';exact h4'
end Go.Proofs.YtjconanknjgpnaaGreat.vars
set_option maxRecDepth 100000
set_option linter.unusedVariables false
set_option linter.unusedSimpArgs false
namespace Go.Proofs.YtjconanknjgpnaaGreat.vars
open Go Go.Sx
theorem zL_ {b:List GS} {e:Bool} (h0:e=false->b=[]) (h1:e=true->b.length<=5/\∀s∈b,TS 3 s):b.length<=5/\∀s∈b,TS 3 s:=by
 cases e with
 |true=>exact h1 rfl
 |false=>rw [h0 rfl];exact ⟨Nat.zero_le _,λs hs=>(List.not_mem_nil hs).elim⟩
theorem yY_ {x:List GS} (h:pe x=0):(by_ x).length<=400/\pl x=e_ (by_ x):=by unfold pe at h;split at h;rename_i hl;exact ⟨hl,by unfold pl;rw [if_pos hl]⟩;cases h
theorem y0_ {x:List GS} (hT:∀s∈x,TS 3 s) {mem:List FV} (hm:MemOk mem) {now:Int}:MTs (by_ x) (tyP x) (vU_ mem now):=by
 have h0:=Ci_ hT;have hl:0<(by_ x).length:=by rw [←x7_];exact (List.getElem?_eq_some_iff.1 h0).1
 exact ⟨0,(by_ x)[0],[],rfl,List.getElem?_eq_getElem hl,h0,rfl,λv hv=>(List.not_mem_nil hv).elim,hm⟩
def w4_ (m:MS):Prop:=¬(m.over=true/\m.err≠0)
theorem yE_ {i:GI} {m:MS} {r n:List FV} (h1:m.over=false) (h2:m.err=0):w4_ (doI i m r n):=by
 unfold doI w4_;repeat' split
 all_goals first
  |(rintro ⟨h,_⟩;have h:m.over=true:=h;rw [h1]at h;cases h)
  |(rintro ⟨_,h⟩;exact h h2)
theorem ys_ {l:List GI} {m:MS} (h:w4_ m):w4_ (p_ l m):=by unfold p_;split;exact h;rename_i hs;exact yE_ (by cases ho:m.over with|true=>exact absurd (.inl ho) hs|false=>rfl) (Classical.byContradiction λh=>hs (.inr h))
theorem xe_ {l:List GI}:∀(n:Nat) (m:MS),w4_ m->w4_ (itI l n m)
 |0,_,h=>h
 |n+1,m,h=>xe_ n (p_ l m) (ys_ h)
theorem yc_ {m:MS} (h:w4_ m):w4_ (o0_ m):=by unfold o0_;split;exact h;rename_i hs;rintro ⟨ho,_⟩;exact hs (.inl ho)
theorem yG_ {l:List GI} {T:List (List Int)} {m:MS} (h:MTs l T m):MTs l T (o0_ m):=by unfold o0_;split;exact h;obtain ⟨p,i,K,h⟩:=h;exact ⟨p,i,K,h.pc,h.at_,h.ty,h.st,h.tv,h.mem⟩
theorem yd_ (m:MS):(o0_ m).used=m.used/\(o0_ m).now=m.now/\(o0_ m).st=m.st/\(o0_ m).mem=m.mem/\(o0_ m).over=m.over:=by unfold o0_;split<;>exact ⟨rfl,rfl,rfl,rfl,rfl⟩
theorem xU_ {l:List GI}:∀(n:Nat) (m:MS),(itI l n m).now=m.now
 |0,_=>rfl
 |n+1,m=>(xU_ n (p_ l m)).trans wv_
theorem MTs.small {l:List GI} {T:List (List Int)} {m:MS} (hG:Good T 0 l) (h:MTs l T m):m.st.length<=40/\MemOk m.mem:=by obtain ⟨p,i,K,h⟩:=h;have hT:=hG p i K h.at_ (by rw [Nat.zero_add];exact h.ty);obtain ⟨K0,ks,e,_,h40,_⟩:=hT;have:=congrArg List.length h.st;rw [List.length_map]at this;exact ⟨by omega,h.mem⟩
theorem Bw_ (l:List GI) {m:MS} {s:AV} (hs:St m.st s) {r:List AV} (hr:okL r=true):okL (e_ l::(KR m s++r))=true:=De_ l m (St.okC hs) hr
end Go.Proofs.YtjconanknjgpnaaGreat.vars
set_option maxRecDepth 100000
set_option linter.unusedVariables false
set_option linter.unusedSimpArgs false
namespace Go.Proofs.YtjconanknjgpnaaGreat.vars
open Go Go.Sx
def c11:VC:=⟨⟨[],[]⟩,[(27,[none]),(28,[none,none]),(29,[(some 7)]),(31,[none])],[],0,true,[(13,ft13),(14,ft14),(15,ft15),(34,ft34),(32,xa_)]⟩
def t11:VT:=.call 27 [] 66 [none]<|It Q3 [66] 67 (.done (.bool false))<|Li Ql [64] 68<|It Qc [68,J 200] 69 (.done (.bool true))<|Li Ql [65] 70<|It Qc [70,J 60] 71 (.done (.bool true))<|Cf 13 ft13 [64] 72 3<|.call 28 [.agg [73,74]] 76 [none,none]<|It Q3 [75] 78 (.done (.bool true))<|It Q5 [77,J 0] 79 (.done (.bool true))<|Cf 14 ft14 [65] 80 0<|Cf 15 ft15 [65,J 0] 81 2<|.call 29 [83,J 3] 85 [(some 7)]<|Cf 34 ft34 [76,85,86,87,88,89,90,91,J 1000] 92 7<|It Q3 [106] 108 (It Qz [107,J 0] 109 (.done (.bool false))<|.ite 106 (It Q5 [107,J 0] 110 (.done (.bool false))<|Cf 32 xa_ [76,101,102,103,104,105,106,107] 111 7<|.call 31 [.agg [119,120,121,122,123,124,125],.agg [101,102,103,104,105,106,107]] 126 [none]<|.ite 126 (Cf 34 ft34 [76,101,102,103,104,105,106,107,J 5000] 127 7<|.call 31 [.agg [136,137,138,139,140,141,142],.agg [101,102,103,104,105,106,107]] 143 [none]<|.done (143))<|.done (.bool false))<|Cf 32 xa_ [76,101,102,103,104,105,106,107] 110 7<|.call 31 [.agg [118,119,120,121,122,123,124],.agg [101,102,103,104,105,106,107]] 125 [none]<|.ite 125 (Cf 34 ft34 [76,101,102,103,104,105,106,107,J 5000] 126 7<|.call 31 [.agg [135,136,137,138,139,140,141],.agg [101,102,103,104,105,106,107]] 142 [none]<|.done (142))<|.done (.bool false))<|.ite 106 (It Q5 [107,J 0] 109 (.done (.bool false))<|Cf 32 xa_ [76,101,102,103,104,105,106,107] 110 7<|.call 31 [.agg [118,119,120,121,122,123,124],.agg [101,102,103,104,105,106,107]] 125 [none]<|.ite 125 (Cf 34 ft34 [76,101,102,103,104,105,106,107,J 5000] 126 7<|.call 31 [.agg [135,136,137,138,139,140,141],.agg [101,102,103,104,105,106,107]] 142 [none]<|.done (142))<|.done (.bool false))<|Cf 32 xa_ [76,101,102,103,104,105,106,107] 109 7<|.call 31 [.agg [117,118,119,120,121,122,123],.agg [101,102,103,104,105,106,107]] 124 [none]<|.ite 124 (Cf 34 ft34 [76,101,102,103,104,105,106,107,J 5000] 125 7<|.call 31 [.agg [134,135,136,137,138,139,140],.agg [101,102,103,104,105,106,107]] 141 [none]<|.done (141))<|.done (.bool false)
theorem p11 {l l2:List UInt8} {a a2:AV} (hp:Pk l a) (hp2:Pk l2 a2):jA_ Tryz.prog 11 [a,a2] (.bool true):=by
 have hA:=hp.1.ok vV_;have hA2:=hp2.1.ok vV_;refine t6_ (sh:=[none,none]) (ls:=[a,a2]) (c:=c11) (n:=300) (t:=t11) mo ov rfl (by simp only [okL,hA,hA2]) rfl (λY _=>vD_ _) rfl (by kernel_rfl) λY hf hg=>?_;unfold t11;refine uH_ k27 rfl rfl (vw_ rfl rfl (vd_ (t:=false) rfl (λh=>by cases h) (λ_=>?_)));refine vw_ (yV_ hp) rfl (vw_ (run_gtr ..) rfl (vd_ rfl (λ_=>uI_ rfl) (λ_=>?_)));refine vw_ (yV_ hp2) rfl (vw_ (run_gtr ..) rfl (vd_ rfl (λ_=>uI_ rfl) (λ_=>?_)));refine a_ (p13 hp) rfl (by simp only [okL,hA]) ⟨?_,trivial⟩;rintro ws ⟨v,b,e,rfl,hv,h0,hb⟩;obtain ⟨hbl,hT⟩:=zL_ h0 λh=>(hb h).2;refine uH_ (p28 (d:=3) hv hbl hT (by have:=AA_ hbl hT 0;omega)) rfl (by show okL [pl b,.int .i64 (pe b)]=true;simp only [okL,okC,Bx_]) ?_;refine vw_ (vr_ ..) rfl (vd_ rfl (λ_=>uI_ rfl) (λhe=>?_));have he:e=true:=by simpa using he
 obtain ⟨rfl,_,_⟩:=hb he;refine vw_ (run_neq ..) rfl (vd_ rfl (λ_=>uI_ rfl) (λhpe=>?_));obtain ⟨hl,hpl⟩:=yY_ (x:=b) (by simpa using hpe);refine a_ (p14 a2 hA2) rfl (by simp only [okL,hA2]) ⟨?_,trivial⟩;rintro ws rfl;refine a_ (p15 hp2 (Nat.zero_le _)) rfl (by simp only [okL,okC,hA2]) ⟨?_,trivial⟩;rintro ws ⟨mem,n2,rfl,hm,hn2⟩;rw [hpl];have hG:=Bn_ hT;have hlen:=x7_ b;have hM:=λnow=>y0_ hT hm (now:=now);have h3: -9223372036854775808<=(3:Int)/\(3:Int)<=9223372036854775807:=by omega
 have h34:=p34 (s:=.nsl) (most:=1000) (m:=vU_ mem 3) hlen hG h3 hl ⟨by show (0:Int)<=0;omega,by show (0:Int)<=100000;omega⟩ (hM 3) (.inr ⟨rfl,rfl⟩) ⟨by omega,by omega⟩;have hit:=yP_ hlen hG 1000 (vU_ mem 3) h3 (hM 3);have hus:=xf_ (l:=by_ b) 1000 (vU_ mem 3);have hnb:=yc_ (xe_ (l:=by_ b) 1000 (vU_ mem 3) (λh=>by cases h.1));have hnw:=xU_ (l:=by_ b) 1000 (vU_ mem 3);have hq:wm_ (by_ b) 1000 (vU_ mem 3)=o0_ (itI (by_ b) 1000 (vU_ mem 3)):=rfl;have hfu:=yd_ (itI (by_ b) 1000 (vU_ mem 3));have hst:=zF_ (itI (by_ b) 1000 (vU_ mem 3));have hmt:=yG_ hit;rw [hq]at h34;generalize itI (by_ b) 1000 (vU_ mem 3)=q0 at*;generalize o0_ q0=q at*;obtain ⟨hu1,hu2,_⟩:=hus;have hu1:(0:Int)<=q0.used:=hu1;have hu2:q0.used<=0+((1000:Nat):Int):=hu2;obtain ⟨f1,f2,_⟩:=hfu;have hnq: -9223372036854775808<=q.now/\q.now<=9223372036854775807:=by rw [f2,hnw];exact h3
 obtain ⟨hsm,hmm⟩:=hmt.small hG;have hml:=hmm.len;refine uH_ (p29 hm 3) rfl (z_ _ rfl) (uv_ h34 (Bw_ _ (.inr ⟨rfl,rfl⟩) rfl) ⟨?_,trivial⟩);rintro ws ⟨s,hs,rfl⟩;have e32:=p32 hG hnq hl ⟨by omega,by omega⟩ hmt hs;rw [p6_ hst]at e32;have e34:=p34 (most:=5000) hlen hG hnq hl ⟨by omega,by omega⟩ hmt hs ⟨by omega,by omega⟩;rw [wn_ hst]at e34;have eS:=λ(x:AV) (hx:St q.st x)=>p31 hx hs (by omega) (by omega);have ok1:okL (e_ (by_ b)::KR q s)=true:=by rw [aY_,okI];exact z_ q (St.okC hs)
 have ok2:okL (e_ (by_ b)::(KR q s++[.int .i64 5000]))=true:=Bw_ _ hs rfl;refine vw_ (vr_ ..) rfl (vd_ rfl (λho=>?_) (λho=>?_))
 .have ho:q.over=false:=(by simpa using ho);have he:q.err≠0:=by rcases hst with h|h;rw [ho]at h;cases h;exact h
  (refine b_ rfl rfl ?_ ?_<;>intro h<;>simp only [nc]at h<;>try omega)
  refine vd_ (t:=q.over) rfl (λh=>by rw [ho]at h;cases h) (λ_=>?_);refine uv_ e32 ok1 ⟨?_,trivial⟩;rintro ws ⟨x,hx,rfl⟩;refine uH_ (eS x hx) rfl rfl (vd_ (t:=true) rfl (λ_=>?_) (λh=>by cases h));refine uv_ e34 ok2 ⟨?_,trivial⟩;rintro ws ⟨y,hy,rfl⟩;exact uH_ (eS y hy) rfl rfl (uI_ rfl)
 .have ho:q.over=true:=(by simpa using ho);have he:q.err=0:=Classical.byContradiction λh=>hnb ⟨ho,h⟩;refine vd_ (t:=q.over) rfl (λ_=>?_) (λh=>by rw [ho]at h;cases h)
  (refine b_ rfl rfl ?_ ?_<;>intro h<;>simp only [nc]at h<;>try omega)
  refine uv_ e32 ok1 ⟨?_,trivial⟩;rintro ws ⟨x,hx,rfl⟩;refine uH_ (eS x hx) rfl rfl (vd_ (t:=true) rfl (λ_=>?_) (λh=>by cases h));refine uv_ e34 ok2 ⟨?_,trivial⟩;rintro ws ⟨y,hy,rfl⟩;exact uH_ (eS y hy) rfl rfl (uI_ rfl)
theorem q11 {l l2:List UInt8} {a a2:AV} (sl:SlV vo_ 1 l a) (m:l.length<=maxLen) (sl2:SlV vo_ 1 l2 a2) (m2:l2.length<=maxLen):jA_ Tryz.prog 11 [a,a2] (.bool true):=by simp only [maxLen]at m m2;exact p11 ⟨sl,by omega⟩ ⟨sl2,by omega⟩
end Go.Proofs.YtjconanknjgpnaaGreat.vars
