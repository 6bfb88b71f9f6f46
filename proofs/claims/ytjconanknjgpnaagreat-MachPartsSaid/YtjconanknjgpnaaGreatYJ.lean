/-
  Mach's laws: the beginning, closed.
-/
import Derived.Test.YtjconanknjgpnaaGreatFA
import Derived.Test.YtjconanknjgpnaaGreatSyS
import Derived.Test.YtjconanknjgpnaaGreatWI
set_option maxRecDepth 100000
namespace Go.Proofs.YtjconanknjgpnaaGreat.vars
open Go Go.Sx
theorem C4_: @uU_ gI Tryz.prog 3000 27 [] (.bool true)=true:=by kernel_rfl
theorem k27:jA_ Tryz.prog 27 [] (.bool true):= @vj_ gI Tryz.prog mo ov 3000 27 [] (.bool true) C4_
end Go.Proofs.YtjconanknjgpnaaGreat.vars
set_option maxRecDepth 100000
set_option linter.unusedVariables false
set_option linter.unusedSimpArgs false
namespace Go.Proofs.YtjconanknjgpnaaGreat.vars
open Go Go.Sx
theorem x2_ {α:Type} {enc:α->List AV} {p:List AV->Prop} {q:α->Prop} (h:∀r,p r->∃a,r=enc a/\q a):∀rows:List (List AV),(∀r,r∈rows->p r)->∃l:List α,rows.flatten=a7_ enc l/\l.length=rows.length/\∀a,a∈l->q a
 |[],_=>⟨[],rfl,rfl,λa h=>by cases h⟩
 |r::rows,hr=>by obtain ⟨a,rfl,ha⟩:=h r (hr r (List.mem_cons_self ..));obtain ⟨l,h1,h2,h3⟩:=x2_ h rows λr h=>hr r (List.mem_cons_of_mem _ h);refine ⟨a::l,by rw [List.flatten_cons,h1];rfl,by simp [h2],λb hb=>?_⟩;rcases List.mem_cons.1 hb with rfl|hb;exact ha;exact h3 b hb
theorem At_ {r:List AV} (h:Sx.Fit Tryz.prog 5 r):∃c:UInt8,r=vv_ c/\True:=by
 obtain ⟨n,rfl,hn⟩:=tt_ Tryz.underlying5 h;have hn:0<=n/\n<=255:=by simpa [Lit.wf,IntKind.min,IntKind.max,IntKind.bits,IntKind.signed]using hn
 refine ⟨n.toNat.toUInt8,?_,trivial⟩;have:((n.toNat.toUInt8).toNat:Int)=n:=by have h1:n.toNat.toUInt8.toNat=n.toNat:=(by simp only [Nat.toUInt8,UInt8.toNat_ofNat'];omega);rw [h1];omega
 unfold vv_;rw [this]
theorem arg_u8s {H:Type} {enc:TypeId×Value->H} {W:World} {base:Nat} {v:Value} {dd:DataW H} {p ps:List MemPlace} (hok:Value.okWide Tryz.prog W .any base 22 v)
  (h:DataW.Trod enc Tryz.prog W 0 (λ_=>true) true 22 v dd p) (hps:∀q,q∈p->q∈ps):∃(l:List UInt8) (a:AV),SlV vv_ 1 l a/\True/\l.length<=maxLen/\Con (ka_ (ll_ W ps)) a v:=by
 rcases uw_ (d:=5) Tryz.underlying22 (by kernel_rfl) hok h hps with rfl|⟨rows,h1,h2,h3,h4⟩;exact ⟨[],.nsl,.inr ⟨rfl,rfl⟩,trivial,Nat.zero_le _,by simp only [Con]⟩;obtain ⟨l,k1,k2,k3⟩:=x2_ (enc:=vv_) (q:=λ_=>True) (λr hr=>At_ hr) rows h1;have hc:Tryz.prog.cellsOf 5=1:=(by kernel_rfl);refine ⟨l,es_ vv_ 1 l,.inl rfl,trivial,by omega,?_⟩;have h4':=h4;rw [k1,hc,←k2]at h4';exact h4'
end Go.Proofs.YtjconanknjgpnaaGreat.vars
set_option maxRecDepth 100000
set_option linter.unusedVariables false
set_option linter.unusedSimpArgs false
namespace Go.Proofs.YtjconanknjgpnaaGreat.vars
open Go Go.Sx
theorem zH_ {b:List GS} {e:Bool} (h0:e=false->b=[]) (h1:e=true->b.length<=5/\∀s∈b,TS 3 s):b.length<=5/\∀s∈b,TS 3 s:=by
 cases e with
 |true=>exact h1 rfl
 |false=>rw [h0 rfl];exact ⟨Nat.zero_le _,λs hs=>(List.not_mem_nil hs).elim⟩
theorem yV_ {x:List GS} (h:pe x=0):(O_ x).length<=400/\pl x=f_ (O_ x):=by unfold pe at h;split at h;rename_i hl;exact ⟨hl,by unfold pl;rw [if_pos hl]⟩;cases h
theorem yX_ {x:List GS} (hT:∀s∈x,TS 3 s) {mem:List FV} (hm:MemOk mem) {now:Int}:MTs (O_ x) (tyP x) (q0_ mem now):=by
 have h0:=Ce_ hT;have hl:0<(O_ x).length:=by rw [←x6_];exact (List.getElem?_eq_some_iff.1 h0).1
 exact ⟨0,(O_ x)[0],[],rfl,List.getElem?_eq_getElem hl,h0,rfl,λv hv=>(List.not_mem_nil hv).elim,hm⟩
theorem yB_ {l:List GI} {T:List (List Int)} {m:MS} (h:MTs l T m):MTs l T (xy_ m):=by unfold xy_;split;exact h;obtain ⟨p,i,K,h⟩:=h;exact ⟨p,i,K,h.pc,h.at_,h.ty,h.st,h.tv,h.mem⟩
theorem xT_ {l:List GI}:∀(n:Nat) (m:MS),(itI l n m).now=m.now
 |0,_=>rfl
 |n+1,m=>(xT_ n (r_ l m)).trans wy_
theorem MTs.small {l:List GI} {T:List (List Int)} {m:MS} (hG:Good T 0 l) (h:MTs l T m):m.st.length<=40/\MemOk m.mem:=by obtain ⟨p,i,K,h⟩:=h;have hT:=hG p i K h.at_ (by rw [Nat.zero_add];exact h.ty);obtain ⟨K0,ks,e,_,h40,_⟩:=hT;have:=congrArg List.length h.st;rw [List.length_map]at this;exact ⟨by omega,h.mem⟩
theorem Bs_ (l:List GI) {m:MS} {s:AV} (hs:St m.st s) {r:List AV} (hr:okL r=true):okL (f_ l::(KR m s++r))=true:=Da_ l m (St.okC hs) hr
end Go.Proofs.YtjconanknjgpnaaGreat.vars
set_option maxRecDepth 100000
set_option linter.unusedVariables false
set_option linter.unusedSimpArgs false
namespace Go.Proofs.YtjconanknjgpnaaGreat.vars
open Go Go.Sx
def c10:VC:=⟨⟨[],[]⟩,[(27,[none]),(28,[none,none]),(29,[(some 7)]),(31,[none])],[(0,[⟨[(16,.slx 0 0 0),(15,.ptr 5 0),(11,78),(2,66),(3,67),(14,.ptr 4 0)],[(5,[.slx 1 0 0,.slx 2 0 0,.slx 3 0 0,.slx 4 0 0,.slx 5 0 0,.slx 6 0 0,.slx 7 0 0]),(4,[106,107,108,109,110,111,112])],6,8,[],[],[]⟩])],0,true,[(13,ft13),(14,ft14),(15,ft15),(34,ft34),(32,yF_)]⟩
def t10:VT:=.call 27 [] 68 [none]<|It Q3 [68] 69 (.done (.bool false))<|Li Qn [64] 70<|It Qd [70,J 200] 71 (.done (.bool true))<|Li Qn [65] 72<|It Qd [72,J 60] 73 (.done (.bool true))<|Cf 13 ft13 [64] 74 3<|.call 28 [.agg [75,76]] 78 [none,none]<|It Q3 [77] 80 (.done (.bool true))<|It Q5 [79,J 0] 81 (.done (.bool true))<|Cf 14 ft14 [65] 82 0<|Cf 15 ft15 [65,J 0] 83 2<|.call 29 [85,J 3] 87 [(some 7)]<|Li Qz [66] 94<|Li Qz [67] 95<|Li Qv [94,95] 96<|Cf 34 ft34 [78,87,88,89,90,91,92,93,96] 97 7<|.loop 113 0 [J 0,87,88,89,90,91,92,93] (.cons 8 (Li Qz [66] 121<|It Q4 [113,121] 122 (Cf 32 yF_ [78,114,115,116,117,118,119,120] 123 7<|Li Q2 [113,J 1] 138<|.again 0 0 [138,131,132,133,134,135,136,137])<|Li Qz [66] 123<|Li Qz [67] 124<|Li Qv [123,124] 125<|Cf 34 ft34 [78,114,115,116,117,118,119,120,125] 126 7<|.call 31 [.agg [106,107,108,109,110,111,112],.agg [135,136,137,138,139,140,141]] 142 [none]<|.done (142)) .nil)
theorem p10 {l l2:List UInt8} {a a2:AV} (hp:Pk l a) (hp2:Pk l2 a2) (c d:Nat) (hc:c<256) (hd:d<256):jA_ Tryz.prog 10 [a,a2,.int .u8 (c:Int),.int .u8 (d:Int)] (.bool true):=by
 have hA:=hp.1.ok vW_;have hA2:=hp2.1.ok vW_;refine t6_ (sh:=[none,none,none,none]) (ls:=[a,a2,.int .u8 (c:Int),.int .u8 (d:Int)]) (c:=c10) (n:=300) (t:=t10) mo ov rfl (by simp only [okL,okC,hA,hA2]) rfl (λY _=>vD_ _) rfl (by kernel_rfl) λY hf hg=>?_;unfold t10;refine uH_ k27 rfl rfl (vw_ rfl rfl (vd_ (t:=false) rfl (λh=>by cases h) (λ_=>?_)));refine vw_ (yS_ hp) rfl (vw_ (run_gtr ..) rfl (vd_ rfl (λ_=>uI_ rfl) (λ_=>?_)));refine vw_ (yS_ hp2) rfl (vw_ (run_gtr ..) rfl (vd_ rfl (λ_=>uI_ rfl) (λ_=>?_)));refine a_ (p13 hp) rfl (by simp only [okL,hA]) ⟨?_,trivial⟩;rintro ws ⟨v,b,e,rfl,hv,h0,hb⟩;obtain ⟨hbl,hT⟩:=zH_ h0 λh=>(hb h).2;refine uH_ (p28 (d:=3) hv hbl hT (by have:=Ax_ hbl hT 0;omega)) rfl (by show okL [pl b,.int .i64 (pe b)]=true;simp only [okL,okC,Bt_]) ?_;refine vw_ (vr_ ..) rfl (vd_ rfl (λ_=>uI_ rfl) (λhe=>?_));have he:e=true:=by simpa using he
 obtain ⟨rfl,_,_⟩:=hb he;refine vw_ (run_neq ..) rfl (vd_ rfl (λ_=>uI_ rfl) (λhpe=>?_));obtain ⟨hl,hpl⟩:=yV_ (x:=b) (by simpa using hpe);refine a_ (p14 a2 hA2) rfl (by simp only [okL,hA2]) ⟨?_,trivial⟩;rintro ws rfl;refine a_ (p15 hp2 (Nat.zero_le _)) rfl (by simp only [okL,okC,hA2]) ⟨?_,trivial⟩;rintro ws ⟨mem,n2,rfl,hm,hn2⟩;rw [hpl];have hG:=Bj_ hT;have hlen:=x6_ b;have hM:=λnow=>yX_ hT hm (now:=now);have h3: -9223372036854775808<=(3:Int)/\(3:Int)<=9223372036854775807:=by omega
 have h34:=p34 (s:=.nsl) (most:=(c:Int)+(d:Int)) (m:=q0_ mem 3) hlen hG h3 hl ⟨by show (0:Int)<=0;omega,by show (0:Int)<=100000;omega⟩ (hM 3) (.inr ⟨rfl,rfl⟩) ⟨by omega,by omega⟩;have hon:=zO_ (l:=O_ b) (a:=c) (b:=d) (m:=q0_ mem 3) rfl;have hit:=λn=>yL_ hlen hG n (q0_ mem 3) h3 (hM 3);have hus:=λn=>wl_ (l:=O_ b) n (q0_ mem 3);have hnw:=λn=>xT_ (l:=O_ b) n (q0_ mem 3);have hR:MTs (O_ b) (tyP b) (uP_ (O_ b) ((c:Int)+(d:Int)) (q0_ mem 3)):=yB_ (hit _);obtain ⟨hRs,hRm⟩:=hR.small hG;have hRl:=hRm.len;have hM3:=hM 3;have hsuc:=λn=>yM_ (O_ b) n (q0_ mem 3);have h00:itI (O_ b) 0 (q0_ mem 3)=q0_ mem 3:=rfl;have p29':=p29 hm 3;have hu0:(q0_ mem 3).used=0:=rfl;have hn0:(q0_ mem 3).now=3:=rfl;have hst0:St (q0_ mem 3).st .nsl:=.inr ⟨rfl,rfl⟩;refine uH_ p29' rfl (x_ _ rfl) (vw_ (wI_ c hc) rfl (vw_ (wI_ d hd) rfl (vw_ (g_ (by omega) (by omega)) rfl ?_)));refine uv_ h34 (Bs_ _ hst0 rfl) ⟨?_,trivial⟩;rintro ws ⟨sa,hsa,rfl⟩;generalize hres:uP_ (O_ b) ((c:Int)+(d:Int)) (q0_ mem 3)=R at*;generalize q0_ mem 3=m0 at*;refine uJ_ (ι:=Nat×AV) (λx=>.int .i64 (x.1:Int)::KR (itI (O_ b) x.1 m0) x.2) (λx=>x.1<=c/\St (itI (O_ b) x.1 m0).st x.2) (λx=>c-x.1) (0,.nsl) ⟨Nat.zero_le _,hst0⟩ rfl (λx h=>by rw [aY_];exact x_ _ (St.okC h.2)) (λx x' _ _ h=>by simp only [List.cons.injEq,AV.int.injEq,true_and]at h;have:=h.1;omega) (λx hx=>?_);obtain ⟨i,s⟩:=x;obtain ⟨k1,k2⟩:=hx;simp only at k1 k2⊢;have hmt:=hit i;have hui:=hus i;rw [hu0]at hui;have hni: -9223372036854775808<=(itI (O_ b) i m0).now/\(itI (O_ b) i m0).now<=9223372036854775807:=by rw [hnw,hn0];exact h3
 have e32:=p32 hG hni hl ⟨by omega,by omega⟩ hmt k2;rw [←hsuc]at e32;have e34:=λh:i=c=>p34 (most:=(c:Int)+(d:Int)) hlen hG hni hl ⟨by omega,by omega⟩ hmt k2 ⟨by omega,by omega⟩;refine vw_ (wI_ c hc) rfl ?_
 (refine b_ rfl rfl ?_ ?_<;>intro h<;>simp only [nc]at h<;>try omega)
 have hi:i<c:=(by omega);refine uv_ e32 (by rw [show ∀x y,(x:List AV)=y->okL x=okL y from λx y h=>by rw [h]];exact (show okL (f_ (O_ b)::KR (itI (O_ b) i m0) s)=true from by rw [aY_,okI];exact x_ _ (St.okC k2));rfl) ⟨?_,trivial⟩;rintro ws ⟨s5,hs5,rfl⟩;exact vw_ (g_ (by omega) (by omega)) rfl (uu_ rfl ⟨(i+1,s5),⟨by simp only;omega,hs5⟩,rfl,by simp only;omega⟩);obtain rfl:i=c:=(by omega);have e34:=e34 rfl;rw [←hon]at e34;refine vw_ (wI_ _ hc) rfl (vw_ (wI_ d hd) rfl (vw_ (g_ (by omega) (by omega)) rfl ?_));refine uv_ e34 (Bs_ _ k2 rfl) ⟨?_,trivial⟩;rintro ws ⟨s6,hs6,rfl⟩;exact uH_ (p31 hsa hs6 (by omega) (by omega)) rfl rfl (uI_ rfl)
theorem q10 {c d:Int} (wc:(Lit.int .u8 c).wf=true) (wd:(Lit.int .u8 d).wf=true) {l l2:List UInt8} {a a2:AV} (sl:SlV vv_ 1 l a) (m:l.length<=maxLen) (sl2:SlV vv_ 1 l2 a2) (m2:l2.length<=maxLen):jA_ Tryz.prog 10 [a,a2,.int .u8 c,.int .u8 d] (.bool true):=by
 have hw:0<=c/\c<=255:=by simpa [Lit.wf,IntKind.min,IntKind.max,IntKind.bits,IntKind.signed]using wc
 have hw2:0<=d/\d<=255:=by simpa [Lit.wf,IntKind.min,IntKind.max,IntKind.bits,IntKind.signed]using wd
 obtain ⟨n,rfl⟩:=Int.eq_ofNat_of_zero_le hw.1;obtain ⟨k,rfl⟩:=Int.eq_ofNat_of_zero_le hw2.1;simp only [maxLen]at m m2;exact p10 ⟨sl,by omega⟩ ⟨sl2,by omega⟩ n k (by omega) (by omega)
end Go.Proofs.YtjconanknjgpnaaGreat.vars
