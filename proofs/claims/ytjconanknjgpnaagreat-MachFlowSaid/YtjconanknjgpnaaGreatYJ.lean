/-
  Mach's laws: the beginning, closed.
-/
import Derived.Test.YtjconanknjgpnaaGreatFA
import Derived.Test.YtjconanknjgpnaaGreatSyS
import Derived.Test.YtjconanknjgpnaaGreatWI
set_option maxRecDepth 100000
namespace Go.Proofs.YtjconanknjgpnaaGreat.vars
open Go Go.Sx
theorem Fe_: @uU_ gI Tryz.prog 3000 27 [] (.bool true)=true:=by kernel_rfl
theorem k27:kH_ Tryz.prog 27 [] (.bool true):= @vj_ gI Tryz.prog mo ov 3000 27 [] (.bool true) Fe_
end Go.Proofs.YtjconanknjgpnaaGreat.vars
set_option maxRecDepth 100000
set_option linter.unusedVariables false
set_option linter.unusedSimpArgs false
namespace Go.Proofs.YtjconanknjgpnaaGreat.vars
open Go Go.Sx
theorem zd_ {α:Type} {enc:α->List AV} {p:List AV->Prop} {q:α->Prop} (h:∀r,p r->∃a,r=enc a/\q a):∀rows:List (List AV),(∀r,r∈rows->p r)->∃l:List α,rows.flatten=aR_ enc l/\l.length=rows.length/\∀a,a∈l->q a
 |[],_=>⟨[],rfl,rfl,λa h=>by cases h⟩
 |r::rows,hr=>by obtain ⟨a,rfl,ha⟩:=h r (hr r (List.mem_cons_self ..));obtain ⟨l,h1,h2,h3⟩:=zd_ h rows λr h=>hr r (List.mem_cons_of_mem _ h);refine ⟨a::l,by rw [List.flatten_cons,h1];rfl,by simp [h2],λb hb=>?_⟩;rcases List.mem_cons.1 hb with rfl|hb;exact ha;exact h3 b hb
theorem B1_ {r:List AV} (h:Sx.Fit Tryz.prog 5 r):∃c:UInt8,r=wl_ c/\True:=by
 obtain ⟨n,rfl,hn⟩:=tr_ Tryz.underlying5 h;have hn:0<=n/\n<=255:=by simpa [Lit.wf,IntKind.min,IntKind.max,IntKind.bits,IntKind.signed]using hn
 refine ⟨n.toNat.toUInt8,?_,trivial⟩;have:((n.toNat.toUInt8).toNat:Int)=n:=by have h1:n.toNat.toUInt8.toNat=n.toNat:=(by simp only [Nat.toUInt8,UInt8.toNat_ofNat'];omega);rw [h1];omega
 unfold wl_;rw [this]
theorem arg_u8s {H:Type} {enc:TypeId×Value->H} {W:World} {base:Nat} {v:Value} {dd:DataW H} {p ps:List MemPlace} (hok:Value.okWide Tryz.prog W .any base 22 v)
  (h:DataW.Trod enc Tryz.prog W 0 (λ_=>true) true 22 v dd p) (hps:∀q,q∈p->q∈ps):∃(l:List UInt8) (a:AV),SlV wl_ 1 l a/\True/\l.length<=maxLen/\Con (j2_ (lb_ W ps)) a v:=by
 rcases uw_ (d:=5) Tryz.underlying22 (by kernel_rfl) hok h hps with rfl|⟨rows,h1,h2,h3,h4⟩;exact ⟨[],.nsl,.inr ⟨rfl,rfl⟩,trivial,Nat.zero_le _,by simp only [Con]⟩;obtain ⟨l,k1,k2,k3⟩:=zd_ (enc:=wl_) (q:=λ_=>True) (λr hr=>B1_ hr) rows h1;have hc:Tryz.prog.cellsOf 5=1:=(by kernel_rfl);refine ⟨l,dZ_ wl_ 1 l,.inl rfl,trivial,by omega,?_⟩;have h4':=h4;rw [k1,hc,←k2]at h4';exact h4'
end Go.Proofs.YtjconanknjgpnaaGreat.vars
set_option maxRecDepth 100000
set_option linter.unusedVariables false
set_option linter.unusedSimpArgs false
namespace Go.Proofs.YtjconanknjgpnaaGreat.vars
open Go Go.Sx
theorem A4_ {b:List GS} {e:Bool} (h0:e=false->b=[]) (h1:e=true->b.length<=5/\∀s∈b,TS 3 s):b.length<=5/\∀s∈b,TS 3 s:=by
 cases e with
 |true=>exact h1 rfl
 |false=>rw [h0 rfl];exact ⟨Nat.zero_le _,λs hs=>(List.not_mem_nil hs).elim⟩
theorem Af_ {x:List GS} (h:pe x=0):(Z_ x).length<=400/\pl x=k_ (Z_ x):=by unfold pe at h;split at h;rename_i hl;exact ⟨hl,by unfold pl;rw [if_pos hl]⟩;cases h
theorem Aj_ {x:List GS} (hT:∀s∈x,TS 3 s) {mem:List FV} (hm:MemOk mem) {now:Int}:MTs (Z_ x) (tyP x) (ye_ mem now):=by
 have h0:=Ej_ hT;have hl:0<(Z_ x).length:=by rw [←zo_];exact (List.getElem?_eq_some_iff.1 h0).1
 exact ⟨0,(Z_ x)[0],[],rfl,List.getElem?_eq_getElem hl,h0,rfl,λv hv=>(List.not_mem_nil hv).elim,hm⟩
theorem Fo_ (l:List GI) {m:MS} {s:AV} (hs:St m.st s) {r:List AV} (hr:okL r=true):okL (k_ l::(KR m s++r))=true:=Fk_ l m (St.okC hs) hr
end Go.Proofs.YtjconanknjgpnaaGreat.vars
set_option maxRecDepth 100000
set_option linter.unusedVariables false
set_option linter.unusedSimpArgs false
namespace Go.Proofs.YtjconanknjgpnaaGreat.vars
open Go Go.Sx
def Cd (l:List GI) (p:Nat) (c:List GI):Prop:=∃a b,l=a++(c++b)/\a.length=p
section
variable {l:List GI}
theorem Cd.fst {p:Nat} {c c':List GI} (h:Cd l p (c++c')):Cd l p c:=by obtain ⟨a,b,rfl,rfl⟩:=h;exact ⟨a,c'++b,by rw [List.append_assoc],rfl⟩
theorem Cd.snd {p:Nat} {c c':List GI} (h:Cd l p (c++c')):Cd l (p+c.length) c':=by obtain ⟨a,b,rfl,rfl⟩:=h;exact ⟨a++c,b,by simp only [List.append_assoc],by rw [List.length_append]⟩
theorem Cd.at {p:Nat} {i:GI} {r:List GI} (h:Cd l p (i::r)):l[p]? =some i:=by obtain ⟨a,b,rfl,rfl⟩:=h;simp
def Rn (p:Nat) (st mem:List FV) (us now:Int):MS:=⟨(p:Int),st,mem,us,now,false,0⟩
theorem yU_ (p:Nat) (st mem:List FV) (us now:Int):¬P_ (Rn p st mem us now):=by rintro (h|h);cases h;exact h rfl
theorem wi_ {p:Nat} {i:GI} (h:l[p]? =some i) {rest inn mem:List FV} {us now:Int} (hl:inn.length=l_ i):m_ l (Rn p (rest++inn) mem us now)=doI i (Rn p (rest++inn) mem us now) rest inn:=by
 unfold m_;rw [if_neg (show ¬((Rn p (rest++inn) mem us now).over=true\/(Rn p (rest++inn) mem us now).err≠0) from yU_ p (rest++inn) mem us now)];have hi:we_ l (Rn p (rest++inn) mem us now)=i:=by unfold we_;show l.getD ((p:Int).toNat) _=i;rw [Int.toNat_natCast,List.getD_eq_getElem?_getD,h];rfl
 rw [hi];show doI i _ ((rest++inn).take ((rest++inn).length-l_ i)) ((rest++inn).drop ((rest++inn).length-l_ i))=_;rw [←hl,List.length_append,Nat.add_sub_cancel,List.take_left,List.drop_left]
def Errs (l:List GI) (m:MS) (e:Int) (mem:List FV):Prop:=∃n,¬P_ (itI l n m)/\(itI l (n+1) m).err=e/\(itI l (n+1) m).over=false/\(itI l (n+1) m).mem=mem
theorem Errs.on {m m':MS} {k:Nat} {e:Int} {mem:List FV} (h:itI l k m=m') (he:Errs l m' e mem):Errs l m e mem:=by obtain ⟨n,h1,h2⟩:=he;subst h;rw [←vZ_]at h1;rw [←vZ_,←Nat.add_assoc]at h2;exact ⟨k+n,h1,h2⟩
theorem Errs.one {p:Nat} {st mem:List FV} {us now e:Int} (h:m_ l (Rn p st mem us now)=⟨(p:Int),st,mem,us+1,now,false,e⟩):Errs l (Rn p st mem us now) e mem:=by refine ⟨0,yU_ _ _ _ _ _,?_⟩;show (m_ l (Rn p st mem us now)).err=e/\(m_ l (Rn p st mem us now)).over=false/\(m_ l (Rn p st mem us now)).mem=mem;rw [h];exact ⟨rfl,rfl,rfl⟩
def CH_ (l:List GI) (c:List GI) (p:Nat) (st mem:List FV) (us now:Int):Except Int (List FV)->Prop
 | .ok vs=>itI l c.length (Rn p st mem us now)=Rn (p+c.length) (st++vs) mem (us+(c.length:Int)) now
 | .error e=>Errs l (Rn p st mem us now) e mem
def Fp_:Except Int FV->Except Int (List FV)
 | .ok v=>.ok [v]
 | .error e=>.error e
theorem rp_ {mem:List FV}:∀{args:List GX} {vs:List FV},n_ mem args=.ok vs->vs.length=args.length
 |[],vs,h=>by simp only [n_]at h;cases h;rfl
 |a::r,vs,h=>by simp only [n_]at h;split at h;cases h;split at h;cases h;rename_i w hw;cases h;simp only [List.length_cons,rp_ hw]
theorem wI_ {k j:Nat} {p:Nat} {st mem:List FV} {us now:Int} {m:MS} (h:itI l k m=Rn p st mem us now):itI l (k+j) m=itI l j (Rn p st mem us now):=by rw [vZ_,h]
theorem BP_ {p:Nat} {i:GI} {rest inn mem:List FV} {us now:Int} (h:l[p]? =some i) (h17:i.op<=17) (hl:inn.length=l_ i):m_ l (Rn p (rest++inn) mem us now)=(match vH_ i mem (inn.headD FV.z) (inn.getLastD FV.z)with
  | .error e=>⟨(p:Int),rest++inn,mem,us+1,now,false,e⟩
  | .ok v=>Rn (p+1) (rest++[v]) mem (us+1) now):=by
 rw [wi_ h hl];unfold doI;rw [if_pos h17];show (match vH_ i mem (inn.headD FV.z) (inn.getLastD FV.z)with
  | .error e=>xJ_ _ e
  | .ok v=>goM _ _ _ _)=_
 cases vH_ i mem (inn.headD FV.z) (inn.getLastD FV.z)with
 |error e=>rfl
 |ok v=>rfl
theorem z4_ {op kd ad n vk vi:Int} {vf:Nat} {args:List GX} (h:Ari op args.length):l_ (uP_ op kd ad n vk vi vf args)=args.length/\(uP_ op kd ad n vk vi vf args).op<=17:=by
 unfold Ari at h;unfold uP_;split;rename_i e;subst e;exact ⟨(by show 0=_;omega),(by show (1:Int)<=17;decide)⟩;split;rename_i e;subst e;exact ⟨(by show 0=_;omega),(by show (2:Int)<=17;decide)⟩;split;rename_i e;subst e;exact ⟨(by show 1=_;omega),(by show (3:Int)<=17;decide)⟩;split;rename_i e;subst e;exact ⟨(by show 1=_;omega),(by show (17:Int)<=17;decide)⟩
 .refine ⟨?_,by show op<=17;omega⟩;unfold l_;show (if op=1\/op=2\/op=20\/op=23 then 0 else if op=3\/op=15\/op=16\/op=17\/op=18\/op=21 then 1 else if op=22 then _ else 2)=_
  (repeat' split)<;>omega
theorem z5_ {mem:List FV} {op kd ad n vk vi:Int} {vf:Nat} {args:List GX} (h:Ari op args.length) (h1:op≠1) (h2:op≠2) (a b:FV):vH_ (uP_ op kd ad n vk vi vf args) mem a b=Q_ mem op kd ad n a b:=by
 unfold uP_;rw [if_neg h1,if_neg h2];split;rename_i e;subst e;unfold vH_ Q_;rfl;split;rename_i e;subst e;unfold vH_ Q_;rfl
 .rename_i h3 h17;unfold vH_ Q_;show (if op=1 then _ else if op=2 then _ else if op=3 then _ else if op=17 then _ else _)=_;rw [if_neg h1,if_neg h2,if_neg h3,if_neg h17,if_neg h3,if_neg h17]<;>rfl
mutual
theorem Bg_:∀(x:GX) (d:Nat),TX d x->∀(p:Nat) (st mem:List FV) (us now:Int),Cd l p (f_ x)->CH_ l (f_ x) p st mem us now (Fp_ (j_ mem x))
 | .mk op kd nm fd ad n vk vi vf args,0,h,_,_,_,_,_,_=>h.elim
 | .mk op kd nm fd ad n vk vi vf args,d+1,h,p,st,mem,us,now,hc=>by
   simp only [f_]at hc⊢;obtain ⟨q1,q2⟩:=z4_ (kd:=kd) (ad:=ad) (n:=n) (vk:=vk) (vi:=vi) (vf:=vf) h.1;have ih:=zf_ args d h.2.2.2.2.2 p st mem us now hc.fst;have hat:=hc.snd.at;by_cases h12:op=1\/op=2;have h0:args=[]:=List.length_eq_zero_iff.1 (by have:=h.1;unfold Ari at this;omega);subst h0;have hstep:=BP_ (rest:=st) (inn:=[]) (mem:=mem) (us:=us) (now:=now) hat q2 q1.symm;rw [List.append_nil]at hstep;rcases h12 with rfl|rfl;show itI l 1 (Rn p st mem us now)=Rn (p+1) (st++[⟨vk,vi,some vf⟩]) mem (us+((1:Nat):Int)) now;exact hstep;show itI l 1 (Rn p st mem us now)=Rn (p+1) (st++[cell mem ad]) mem (us+((1:Nat):Int)) now;exact hstep;have h1:op≠1:=λe=>h12 (.inl e);have h2:op≠2:=λe=>h12 (.inr e);simp only [j_];rw [if_neg h1,if_neg h2];cases hE:n_ mem args with
   |error e=>rw [hE]at ih;exact ih
   |ok vs=>
    rw [hE]at ih;have ih:itI l (e_ args).length (Rn p st mem us now)=Rn (p+(e_ args).length) (st++vs) mem (us+((e_ args).length:Int)) now:=ih;have hstep:=BP_ (rest:=st) (inn:=vs) (mem:=mem) (us:=us+((e_ args).length:Int)) (now:=now) hat q2 ((rp_ hE).trans q1.symm);rw [z5_ h.1 h1 h2]at hstep;simp only;cases hm:Q_ mem op kd ad n (vs.headD FV.z) (vs.getLastD FV.z)with
    |error e=>rw [hm]at hstep;exact Errs.on ih (Errs.one hstep)
    |ok v=>rw [hm]at hstep;show itI l (e_ args++[_]).length _=Rn (p+(e_ args++[_]).length) (st++[v]) mem (us+((e_ args++[_]).length:Int)) now;rw [List.length_append,List.length_singleton,wI_ ih];have:us+(((e_ args).length+1:Nat):Int)=us+((e_ args).length:Int)+1:=(by omega);rw [this];exact hstep
theorem zf_:∀(args:List GX) (d:Nat),(∀a∈args,TX d a)->∀(p:Nat) (st mem:List FV) (us now:Int),Cd l p (e_ args)->CH_ l (e_ args) p st mem us now (n_ mem args)
 |[],d,_,p,st,mem,us,now,_=>by show itI l 0 (Rn p st mem us now)=Rn (p+0) (st++[]) mem (us+((0:Nat):Int)) now;rw [List.append_nil];show Rn p st mem us now=Rn p st mem (us+((0:Nat):Int)) now;rw [show us+((0:Nat):Int)=us by omega]
 |a::r,d,h,p,st,mem,us,now,hc=>by
  simp only [e_]at hc⊢;have h1:=Bg_ a d (h a List.mem_cons_self) p st mem us now hc.fst;simp only [n_];cases hE:j_ mem a with
  |error e=>rw [hE]at h1;exact h1
  |ok v=>
   rw [hE]at h1;have h1:itI l (f_ a).length (Rn p st mem us now)=Rn (p+(f_ a).length) (st++[v]) mem (us+((f_ a).length:Int)) now:=h1;have h2:=zf_ r d (λx hx=>h x (List.mem_cons_of_mem _ hx)) (p+(f_ a).length) (st++[v]) mem (us+((f_ a).length:Int)) now hc.snd;simp only;cases hL:n_ mem r with
   |error e=>rw [hL]at h2;exact Errs.on h1 h2
   |ok vs=>rw [hL]at h2;have h2:itI l (e_ r).length _=_:=h2;show itI l (f_ a++e_ r).length _=Rn (p+(f_ a++e_ r).length) (st++(v::vs)) mem (us+((f_ a++e_ r).length:Int)) now;rw [List.length_append,wI_ h1,h2,List.append_assoc,Nat.add_assoc];rw [show us+(((f_ a).length+(e_ r).length:Nat):Int)=us+((f_ a).length:Int)+((e_ r).length:Int) by omega];rfl
end
def SimS (l:List GI) (m:MS) (p':Nat) (left:Int) (r:RSt):Prop:=
 (r.e=0->∃n:Nat,2*(left-r.left)<=n/\itI l n m=Rn p' [] r.mem (m.used+n) m.now)/\(r.e=8->∃n:Nat,2*left<=n/\¬P_ (itI l n m))/\(r.e≠0->r.e≠8->Errs l m r.e r.mem)
theorem SimS.pre {b b' p':Nat} {mem mem':List FV} {us now left left':Int} {r:RSt} {k:Nat} (h:itI l k (Rn b [] mem us now)=Rn b' [] mem' (us+k) now) (hk:2*(left-left')<=k) (hs:SimS l (Rn b' [] mem' (us+k) now) p' left' r):SimS l (Rn b [] mem us now) p' left r:=by obtain ⟨h1,h2,h3⟩:=hs;refine ⟨λe=>?_,λe=>?_,λe e'=>Errs.on h (h3 e e')⟩;obtain ⟨n,q1,q2⟩:=h1 e;refine ⟨k+n,by omega,?_⟩;rw [wI_ h,q2];show Rn p' [] r.mem (us+k+n) now=Rn p' [] r.mem (us+((k+n:Nat):Int)) now;rw [show us+(k:Int)+(n:Int)=us+((k+n:Nat):Int) by omega];obtain ⟨n,q1,q2⟩:=h2 e;refine ⟨k+n,by omega,?_⟩;rw [wI_ h];exact q2
theorem SimS.err {b p':Nat} {mem mem':List FV} {us now left e:Int} {left':Int} (h:Errs l (Rn b [] mem us now) e mem') (he:e=5\/e=6\/e=7):SimS l (Rn b [] mem us now) p' left ⟨mem',left',e⟩:=
 ⟨λh=>by have h:e=0:=h;omega,λh=>by have h:e=8:=h;omega,λ_ _=>h⟩
theorem SimS.fin {b p':Nat} {mem mem':List FV} {us now left:Int} {k:Nat} (h:itI l k (Rn b [] mem us now)=Rn p' [] mem' (us+k) now):SimS l (Rn b [] mem us now) p' left ⟨mem',left,0⟩:=
 ⟨λ_=>⟨k,by show 2*(left-left)<=_;omega,h⟩,(λh=>by cases h),(λh=>absurd rfl h)⟩
theorem SimS.seq {b b' p':Nat} {mem:List FV} {us now left:Int} {r:RSt} {q:List FV->Int->RSt} (h:SimS l (Rn b [] mem us now) b' left r) (hq:r.e=0->∀us',SimS l (Rn b' [] r.mem us' now) p' r.left (q r.mem r.left)):SimS l (Rn b [] mem us now) p' left (if r.e=0 then q r.mem r.left else r):=by split;rename_i e;obtain ⟨n,q1,q2⟩:=h.1 e;exact SimS.pre (k:=n) q2 q1 (hq e _);rename_i e;exact ⟨λh=>absurd h e,h.2.1,h.2.2⟩
theorem us_ {k:Nat} {p q:Nat} {st st' mem mem':List FV} {us now:Int} {m:MS} (h:itI l k m=Rn p st mem (us+k) now) (hs:m_ l (Rn p st mem (us+k) now)=Rn q st' mem' (us+k+1) now):itI l (k+1) m=Rn q st' mem' (us+((k+1:Nat):Int)) now:=by rw [wI_ h];show m_ l (Rn p st mem (us+(k:Int)) now)=_;rw [hs,show us+(k:Int)+1=us+((k+1:Nat):Int) by omega]
theorem DG_ {to e:GX} {d d':Nat} (he:TX d e) (ht:TX d' to) (hw:to.op=2\/to.op=3) {b:Nat} {mem:List FV} {us now left:Int} (hc:Cd l b (f_ e++uN_ to)):SimS l (Rn b [] mem us now) (b+(f_ e++uN_ to).length) left (wh_ to e mem left):=by
 have h1:=Bg_ (l:=l) e d he b [] mem us now hc.fst;have hc2:=hc.snd;unfold wh_;cases hE:j_ mem e with
 |error er=>rw [hE]at h1;exact SimS.err h1 (q_ e er hE)
 |ok v=>
  rw [hE]at h1;have h1:itI l (f_ e).length (Rn b [] mem us now)=Rn (b+(f_ e).length) [v] mem (us+((f_ e).length:Int)) now:=h1;simp only;obtain ⟨op,kd,nm,fd,ad,n,vk,vi,vf,args⟩:=to
  match d',ht with
  |0,ht=>exact ht.elim
  |d'+1,ht=>
  by_cases h3:op=3
  .rw [if_pos (show (GX.mk op kd nm fd ad n vk vi vf args).op=3 from h3)];subst h3;simp only [uN_,if_pos,ut_]at hc2⊢;have h2:=zf_ (l:=l) args d' ht.2.2.2.2.2 (b+(f_ e).length) [v] mem (us+((f_ e).length:Int)) now hc2.fst;cases hL:n_ mem args with
   |error er=>rw [hL]at h2;exact SimS.err (Errs.on h1 h2) (sU_ args er hL)
   |ok vs=>
    rw [hL]at h2;have h2:itI l (e_ args).length _=Rn _ ([v]++vs) mem _ now:=h2;have hlen:vs.length=1:=(by rw [rp_ hL];have:=ht.1;unfold Ari at this;omega);obtain ⟨x,rfl⟩:=List.length_eq_one_iff.1 hlen;have h12:itI l ((f_ e).length+(e_ args).length) (Rn b [] mem us now)=Rn (b+(f_ e).length+(e_ args).length) [v,x] mem (us+(((f_ e).length+(e_ args).length:Nat):Int)) now:=by rw [wI_ h1,h2,show us+(((f_ e).length+(e_ args).length:Nat):Int)=us+((f_ e).length:Int)+((e_ args).length:Int) by omega];rfl
    have hst:=wi_ (l:=l) (rest:=[]) (inn:=[v,x]) (mem:=mem) (us:=us+(((f_ e).length+(e_ args).length:Nat):Int)) (now:=now) hc2.snd.at rfl;have hd:doI (w_ 19 0 ad n) (Rn (b+(f_ e).length+(e_ args).length) [v,x] mem (us+(((f_ e).length+(e_ args).length:Nat):Int)) now) [] [v,x]=if x.i<0\/n<=x.i then xJ_ (Rn (b+(f_ e).length+(e_ args).length) [v,x] mem (us+(((f_ e).length+(e_ args).length:Nat):Int)) now) 6 else goM (Rn (b+(f_ e).length+(e_ args).length) [v,x] mem (us+(((f_ e).length+(e_ args).length:Nat):Int)) now) (((b+(f_ e).length+(e_ args).length:Nat):Int)+1) [] (mem.set (ad+x.i).toNat v):=rfl
    rw [List.nil_append,hd]at hst;by_cases hr:x.i<0\/n<=x.i;rw [if_pos hr]at hst;simp only;rw [if_pos (show ([x].headD FV.z).i<0\/n<=([x].headD FV.z).i from hr)];exact SimS.err (Errs.on h12 (Errs.one hst)) (.inr (.inl rfl));rw [if_neg hr]at hst;simp only;rw [if_neg (show ¬(([x].headD FV.z).i<0\/n<=([x].headD FV.z).i) from hr)];have h3:=us_ h12 (q:=b+(f_ e).length+(e_ args).length+1) (st':=[]) (mem':=mem.set (ad+x.i).toNat v) hst;have:=SimS.fin (left:=left) h3;simp only [List.length_append,List.length_singleton];rw [show b+((f_ e).length+((e_ args).length+1))=b+(f_ e).length+(e_ args).length+1 by omega];exact this
  rw [if_neg (show ¬(GX.mk op kd nm fd ad n vk vi vf args).op=3 from h3)];simp only [uN_,if_neg h3]at hc2⊢;have hst:=wi_ (l:=l) (rest:=[]) (inn:=[v]) (mem:=mem) (us:=us+((f_ e).length:Int)) (now:=now) hc2.at rfl;have h3:=us_ h1 (q:=b+(f_ e).length+1) (st':=[]) (mem':=mem.set ad.toNat v) hst;have:=SimS.fin (left:=left) h3;simp only [List.length_append,List.length_singleton];rw [show b+((f_ e).length+1)=b+(f_ e).length+1 by omega];exact this
theorem xN_ {p q:Nat} (h:l[p]? =some (w_ 21 0 (q:Int) 0)) (v:FV) (mem:List FV) (us now:Int):m_ l (Rn p [v] mem us now)=Rn (if v.i=0 then q else p+1) [] mem (us+1) now:=by refine (wi_ (rest:=[]) (inn:=[v]) h rfl).trans ?_;show goM (Rn p [v] mem us now) (if v.i=0 then (q:Int)else (p:Int)+1) [] mem=_;split;rfl;rfl
theorem yZ_ {p q:Nat} (h:l[p]? =some (w_ 20 0 (q:Int) 0)) (mem:List FV) (us now:Int):m_ l (Rn p [] mem us now)=Rn q [] mem (us+1) now:=wi_ (rest:=[]) (inn:=[]) h rfl
theorem SimS.jump {m:MS} {b' p':Nat} {left:Int} {r:RSt} (h:SimS l m b' left r) (hj:∀us,m_ l (Rn b' [] r.mem us m.now)=Rn p' [] r.mem (us+1) m.now):SimS l m p' left r:=by refine ⟨λe=>?_,h.2.1,h.2.2⟩;obtain ⟨n,q1,q2⟩:=h.1 e;exact ⟨n+1,by omega,us_ q2 (hj _)⟩
theorem xS_ {now:Int} {f:GS->List FV->Int->RSt}:∀(x:List GS),(∀s∈x,∀(b:Nat) (mem:List FV) (us left:Int),MemOk mem->0<=left->Cd l b (U_ b s)->SimS l (Rn b [] mem us now) (b+(U_ b s).length) left (f s mem left))->
  (∀s∈x,∀mem left,MemOk mem->0<=left->Kept mem left (f s mem left))->∀(b:Nat) (mem:List FV) (us left:Int),MemOk mem->0<=left->Cd l b (h_ b x)->SimS l (Rn b [] mem us now) (b+(h_ b x).length) left (uD_ f x mem left)
 |[],_,_,b,mem,us,left,_,_,_=>by refine SimS.fin (k:=0) ?_;show Rn b [] mem us now=Rn b [] mem (us+((0:Nat):Int)) now;rw [show us+((0:Nat):Int)=us by omega]
 |s::r,hf,hk,b,mem,us,left,hm,hl,hc=>by simp only [h_,uD_]at hc⊢;have k1:=hk s List.mem_cons_self mem left hm hl;refine SimS.seq (q:=uD_ f r) (hf s List.mem_cons_self b mem us left hm hl hc.fst) λe us'=>?_;have:=xS_ r (λs hs=>hf s (List.mem_cons_of_mem _ hs)) (λs hs=>hk s (List.mem_cons_of_mem _ hs)) (b+(U_ b s).length) (f s mem left).mem us' (f s mem left).left k1.1 (k1.2.2.1 e).1 hc.snd;rw [List.length_append,←Nat.add_assoc];exact this
theorem B9_ (x:GX):1<=(f_ x).length:=by cases x;simp [f_]
theorem DH_ {now:Int} {body:List FV->Int->RSt} {e:GX} {d:Nat} (he:TX d e) {b q:Nat} {t:List GI} (hc:Cd l b (f_ e++([w_ 21 0 (q:Int) 0]++(t++[w_ 20 0 (b:Int) 0]))))
  (hb:∀(mem:List FV) (us left:Int),MemOk mem->0<=left->SimS l (Rn (b+(f_ e).length+1) [] mem us now) (b+(f_ e).length+1+t.length) left (body mem left)) (hk:∀mem left,MemOk mem->0<=left->Kept mem left (body mem left)):
  ∀(n:Nat) (mem:List FV) (us left:Int),left.toNat<n->0<=left->MemOk mem->SimS l (Rn b [] mem us now) q left (w9_ body (λm=>j_ m e) n mem left)
 |0,_,_,_,h,_,_=>by omega
 |n+1,mem,us,left,hn,hl,hm=>by
  simp only [w9_];split;rename_i h0;exact ⟨(λh=>by cases h),λ_=>⟨0,by omega,yU_ _ _ _ _ _⟩,(λ_ h=>absurd rfl h)⟩;rename_i h0;have h1:=Bg_ (l:=l) e d he b [] mem us now hc.fst;cases hE:j_ mem e with
  |error er=>rw [hE]at h1;exact SimS.err h1 (q_ e er hE)
  |ok v=>rw [hE]at h1;have h1:itI l (f_ e).length (Rn b [] mem us now)=Rn (b+(f_ e).length) [v] mem (us+((f_ e).length:Int)) now:=h1;have hj:=us_ h1 (xN_ hc.snd.at v mem _ now);have g1:=B9_ e;simp only;split;rename_i hv;rw [if_pos hv]at hj;exact ⟨λ_=>⟨(f_ e).length+1,by show 2*(left-(left-1))<=_;omega,hj⟩,(λh=>by cases h),(λh=>absurd rfl h)⟩;rename_i hv;rw [if_neg hv]at hj;have k1:=hk mem (left-1) hm (by omega);refine SimS.pre (k:=(f_ e).length+1) (left':=left-1) hj (by omega) (SimS.seq (q:=λm x=>w9_ body (λm=>j_ m e) n m x) (hb mem _ (left-1) hm (by omega)) λe0 us'=>?_);obtain ⟨k2,k3⟩:=k1.2.2.1 e0;have hat:l[b+(f_ e).length+1+t.length]? =some (w_ 20 0 (b:Int) 0):=(hc.snd.snd.snd).at;refine SimS.pre (k:=1) (left':=(body mem (left-1)).left) (b':=b) (mem':=(body mem (left-1)).mem) (yZ_ hat _ us' now) (by omega) ?_;exact DH_ he hc hb hk n _ _ _ (by omega) k2 k1.1
theorem DF_ {now:Int} (hn: -9223372036854775808<=now/\now<=9223372036854775807):∀(d:Nat) (s:GS),TS d s->∀(b:Nat) (mem:List FV) (us left:Int),MemOk mem->0<=left->Cd l b (U_ b s)->SimS l (Rn b [] mem us now) (b+(U_ b s).length) left (H_ now d s mem left)
 |0,_,h,_,_,_,_,_,_,_=>h.elim
 |d+1,.mk op to e thn els nm kd ad args,h,b,mem,us,left,hm,hl,hc=>by
  have ih:=DF_ hn d;have kept:=nk_ hn d;rcases h with ⟨rfl,a1,a2,a3,a4,_⟩|⟨ho,b1,b2,b3,b4,b5,b6⟩|⟨rfl,c1,c2,_⟩;simp only [U_,H_,if_pos]at hc⊢;exact DG_ a3 a1 (by rcases a2 with ⟨h,_⟩|h;exact .inl h;exact .inr h) hc
  .have sT:=λb mem us left hm hl hc=>xS_ (l:=l) (now:=now) thn (λs hs=>ih s (b5 s hs)) (λs hs=>kept s (b5 s hs)) b mem us left hm hl hc;have sE:=λb mem us left hm hl hc=>xS_ (l:=l) (now:=now) els (λs hs=>ih s (b6 s hs)) (λs hs=>kept s (b6 s hs)) b mem us left hm hl hc;rcases ho with rfl|rfl
   .simp only [U_,H_]at hc⊢;rw [if_neg (show ¬(2:Int)=1 by decide),if_pos trivial]at hc;rw [if_neg (show ¬(2:Int)=1 by decide),if_pos trivial,if_neg (show ¬(2:Int)=1 by decide),if_pos trivial];have h1:=λhc=>Bg_ (l:=l) e 5 b1 b [] mem us now hc;split at hc
    .rename_i hels;subst hels;rw [if_pos rfl];rw [List.append_assoc]at hc⊢;have h1:=h1 hc.fst;cases hE:j_ mem e with
     |error er=>rw [hE]at h1;exact SimS.err h1 (q_ e er hE)
     |ok v=>
      rw [hE]at h1;have h1:itI l (f_ e).length (Rn b [] mem us now)=Rn (b+(f_ e).length) [v] mem (us+((f_ e).length:Int)) now:=h1;have hj:=us_ h1 (xN_ hc.snd.at v mem _ now);have hend:b+(f_ e++([w_ 21 0 ((b+(f_ e).length+1+(h_ (b+(f_ e).length+1) thn).length:Nat):Int) 0]++h_ (b+(f_ e).length+1) thn)).length=b+(f_ e).length+1+(h_ (b+(f_ e).length+1) thn).length:=by simp only [List.length_append,List.length_singleton];omega
      rw [hend];simp only;by_cases hv:v.i=0;rw [if_pos hv]at hj;rw [if_neg (by simp [hv])];exact SimS.fin hj;rw [if_neg hv]at hj;rw [if_pos hv];exact SimS.pre (k:=(f_ e).length+1) (left':=left) hj (by omega) (sT _ mem _ left hm hl hc.snd.snd)
    .rename_i hels;rw [if_neg hels];simp only [List.append_assoc]at hc⊢;have h1:=h1 hc.fst;cases hE:j_ mem e with
     |error er=>rw [hE]at h1;exact SimS.err h1 (q_ e er hE)
     |ok v=>rw [hE]at h1;have h1:itI l (f_ e).length (Rn b [] mem us now)=Rn (b+(f_ e).length) [v] mem (us+((f_ e).length:Int)) now:=h1;have hj:=us_ h1 (xN_ hc.snd.at v mem _ now);have hat:=hc.snd.snd.snd.at;have hq:=hc.snd.snd.snd.snd;simp only [List.length_append,List.length_singleton]at hat hq⊢;generalize hT:h_ (b+(f_ e).length+1) thn=T at*;by_cases hv:v.i=0;rw [if_pos hv]at hj;rw [if_neg (by simp [hv])];refine SimS.pre (k:=(f_ e).length+1) (left':=left) hj (by omega) ?_;have:=sE _ mem (us+(((f_ e).length+1:Nat):Int)) left hm hl hq;rw [show ∀z,b+((f_ e).length+(1+(T.length+(1+z))))=b+(f_ e).length+1+T.length+1+z from λz=>by omega];exact this;rw [if_neg hv]at hj;rw [if_pos hv];refine SimS.pre (k:=(f_ e).length+1) (left':=left) hj (by omega) ?_;have:=sT (b+(f_ e).length+1) mem (us+(((f_ e).length+1:Nat):Int)) left hm hl (by rw [hT];exact hc.snd.snd.fst);rw [hT]at this;refine SimS.jump this λus=>?_;rw [show ∀z,b+((f_ e).length+(1+(T.length+(1+z))))=b+(f_ e).length+1+T.length+1+z from λz=>by omega];exact yZ_ hat _ us now
   simp only [U_,H_]at hc⊢;rw [if_neg (show ¬(3:Int)=1 by decide),if_neg (show ¬(3:Int)=2 by decide),if_pos trivial]at hc;rw [if_neg (show ¬(3:Int)=1 by decide),if_neg (show ¬(3:Int)=2 by decide),if_pos trivial,if_neg (show ¬(3:Int)=1 by decide),if_neg (show ¬(3:Int)=2 by decide),if_pos trivial];simp only [List.append_assoc]at hc⊢;have:=DH_ (l:=l) (now:=now) (body:=uD_ (H_ now d) thn) b1 hc (λmem us left hm hl=>sT _ mem us left hm hl hc.snd.snd.fst) (λmem left hm hl=>nl_ thn mem left (λs hs=>kept s (b5 s hs)) hm hl) (left.toNat+1) mem us left (by omega) hl hm;simp only [List.length_append,List.length_singleton];rw [show ∀z,b+((f_ e).length+(1+(z+1)))=b+(f_ e).length+1+z+1 from λz=>by omega];exact this
  .simp only [U_,H_]at hc⊢;rw [if_neg (show ¬(4:Int)=1 by decide),if_neg (show ¬(4:Int)=2 by decide),if_neg (show ¬(4:Int)=3 by decide)]at hc;rw [if_neg (show ¬(4:Int)=1 by decide),if_neg (show ¬(4:Int)=2 by decide),if_neg (show ¬(4:Int)=3 by decide),if_neg (show ¬(4:Int)=1 by decide),if_neg (show ¬(4:Int)=2 by decide),if_neg (show ¬(4:Int)=3 by decide)];have h1:=zf_ (l:=l) args 5 c2 b [] mem us now hc.fst;unfold xq_;cases hL:n_ mem args with
   |error er=>rw [hL]at h1;exact SimS.err h1 (sU_ args er hL)
   |ok vs=>rw [hL]at h1;have h1:itI l (e_ args).length (Rn b [] mem us now)=Rn (b+(e_ args).length) vs mem (us+((e_ args).length:Int)) now:=h1;have hst:=wi_ (l:=l) (rest:=[]) (inn:=vs) (mem:=mem) (us:=us+((e_ args).length:Int)) (now:=now) hc.snd.at (by rw [rp_ hL];show _=(args.length:Int).toNat;rw [Int.toNat_natCast]);have h3:=us_ h1 (q:=b+(e_ args).length+1) (st':=[]) (mem':=r_ now kd mem (decide ((vs.headD FV.z).i≠0)) (vs.tail.headD FV.z).i) hst;have:=SimS.fin (left:=left) h3;rw [List.length_append,List.length_singleton,←Nat.add_assoc];exact this
theorem xc_ {m:MS} {a b:Nat} (h:a<=b) (hs:P_ (itI l a m)):itI l b m=itI l a m:=by obtain ⟨k,rfl⟩:=Nat.exists_eq_add_of_le h;rw [vZ_,v0_ hs]
end
theorem FN_ {b:List GS} (hT:∀s∈b,TS 3 s) {mem:List FV} (hm:MemOk mem) {now:Int} (hn: -9223372036854775808<=now/\now<=9223372036854775807):SimS (Z_ b) (Rn 0 [] mem 0 now) (h_ 0 b).length 1100 (uD_ (H_ now 3) b mem 1100):=by have hc:Cd (Z_ b) 0 (h_ 0 b):=⟨[],[w_ 23 0 0 0],rfl,rfl⟩;have:=xS_ b (λs hs b mem us left hm hl hc=>DF_ hn 3 s (hT s hs) b mem us left hm hl hc) (λs hs mem left hm hl=>nk_ hn 3 s (hT s hs) mem left hm hl) 0 mem 0 1100 hm (by decide) hc;rw [Nat.zero_add]at this;exact this
theorem Fi_ {b:List GS} (hT:∀s∈b,TS 3 s) {mem:List FV} (hm:MemOk mem) {now:Int} (hn: -9223372036854775808<=now/\now<=9223372036854775807) {s:Nat} (hs:s<2000) {R:MS} (hR:wL_ (Z_ b) (s:Int) (Rn 0 [] mem 0 now)=R) {res:RSt} (hres:uD_ (H_ now 3) b mem 1100=res):
  (R.err=8->R.over=false/\R.used=(s:Int))/\(R.err≠8->res.e≠8/\(R.over=true->res.e=0/\R.err=0/\R.mem=res.mem/\R.st=[])/\(R.over=false->R.err=res.e/\R.mem=res.mem)):=by
 have hsim:=FN_ hT hm hn;rw [hres]at hsim;have hR0:x6_ (itI (Z_ b) s (Rn 0 [] mem 0 now))=R:=by rw [←hR];show _=x6_ (itI (Z_ b) ((s:Int)-0).toNat _);rw [show ((s:Int)-0).toNat=s by omega]
 have hu:=ya_ (l:=Z_ b) s (Rn 0 [] mem 0 now);by_cases hq:P_ (itI (Z_ b) s (Rn 0 [] mem 0 now))
 .rw [w2_ hq]at hR0;have hlt:∀n,¬P_ (itI (Z_ b) n (Rn 0 [] mem 0 now))->n+1<=s:=λn hn=>by apply Classical.byContradiction;intro h;rw [xc_ (by omega) hq]at hn;exact hn hq
  by_cases h0:res.e=0;obtain ⟨n,q1,q2⟩:=hsim.1 h0;have hc:Cd (Z_ b) 0 (h_ 0 b++[w_ 23 0 0 0]):=⟨[],[],by rw [List.append_nil];rfl,rfl⟩;have hat:=hc.snd.at;rw [Nat.zero_add]at hat;have hn1:=hlt n (by rw [q2];exact yU_ _ _ _ _ _);have hh:itI (Z_ b) (n+1) (Rn 0 [] mem 0 now)=⟨((h_ 0 b).length:Int),[],res.mem,(0:Int)+n+1,now,true,0⟩:=(by rw [z8_,q2];exact wi_ (rest:=[]) (inn:=[]) hat rfl);rw [xc_ hn1 (by rw [hh];exact .inl rfl),hh]at hR0;subst hR0;refine ⟨(λh=>by cases h),λ_=>⟨by rw [h0];decide,λ_=>⟨h0,rfl,rfl,rfl⟩,(λh=>by cases h)⟩⟩;by_cases h8:res.e=8;obtain ⟨n,q1,q2⟩:=hsim.2.1 h8;have:=hlt n q2;omega;obtain ⟨n,q1,q2,q3,q4⟩:=hsim.2.2 h0 h8;have hn1:=hlt n q1;rw [xc_ hn1 (.inr (by rw [q2];exact h0))]at hR0;subst hR0;refine ⟨λh=>absurd (q2.symm.trans h) h8,λ_=>⟨h8,(λh=>by rw [q3]at h;cases h),λ_=>⟨q2,q4⟩⟩⟩
 .have hq':¬((itI (Z_ b) s (Rn 0 [] mem 0 now)).over=true\/(itI (Z_ b) s (Rn 0 [] mem 0 now)).err≠0):=hq;unfold x6_ at hR0;rw [if_neg hq']at hR0;subst hR0;refine ⟨λ_=>⟨?_,?_⟩,λh=>absurd rfl h⟩
  .cases ho:(itI (Z_ b) s (Rn 0 [] mem 0 now)).over with
   |true=>exact absurd (.inl ho) hq'
   |false=>rfl
  show (itI (Z_ b) s (Rn 0 [] mem 0 now)).used=_;rw [hu.2.2 hq];show (0:Int)+s=s;omega
end Go.Proofs.YtjconanknjgpnaaGreat.vars
set_option maxRecDepth 100000
set_option linter.unusedVariables false
set_option linter.unusedSimpArgs false
namespace Go.Proofs.YtjconanknjgpnaaGreat.vars
open Go Go.Sx
def c9:VC:=⟨⟨[],[]⟩,[(27,[none]),(28,[none,none]),(29,[(some 7)]),(18,[none])],[],0,true,[(13,ft13),(14,ft14),(15,ft15),(34,ft34),(17,B2_)]⟩
def t9:VT:=.call 27 [] 68 [none]<|It Q3 [68] 69 (.done (.bool false))<|Li Ql [64] 70<|It Qc [70,J 200] 71 (.done (.bool true))<|Li Ql [65] 72<|It Qc [72,J 60] 73 (.done (.bool true))<|Cf 13 ft13 [64] 74 3<|.call 28 [.agg [75,76]] 78 [none,none]<|It Q3 [77] 80 (.done (.bool true))<|It Q5 [79,J 0] 81 (.done (.bool true))<|Cf 14 ft14 [65] 82 0<|Cf 15 ft15 [65,J 0] 83 2<|Li (.bin .rem 23 false true) [67,.int .u16 2000] 87<|Li (.conv 23 3) [87] 88<|Li Z5 [66] 89<|.call 29 [85,89] 90 [(some 7)]<|Cf 34 ft34 [78,90,91,92,93,94,95,96,88] 97 7<|Li Z5 [66] 113<|Cf 17 B2_ [75,76,85,113,J 1100] 114 2<|It Qz [112,J 8] 121 (It Q3 [111] 122 (Li Qk [109,88] 123<|.done (123))<|.done (.bool false))<|It Qz [120,J 8] 122 (.done (.bool false))<|.ite 111 (It Qz [120,J 0] 123 (It Qz [112,J 0] 124 (.call 18 [108,119] 125 [none]<|.ite 125 (Li Qp [107] 126<|Li Q0 [126,J 0] 127<|.done (127))<|.done (.bool false))<|.done (.bool false))<|.done (.bool false))<|It Zc [112,120] 123 (.call 18 [108,119] 124 [none]<|.done (124))<|.done (.bool false)
theorem BZ_ (n:Nat) (h:n<65536):(XOp.conv 23 3).run Tryz.prog [.int .u16 (n:Int)]=some (.int .i64 (n:Int)):=by rw [tD_ Tryz.underlying23 Tryz.underlying3,vK_ (by omega) (by omega)]
theorem p9 {l l2:List UInt8} {a a2:AV} (hp:Pk l a) (hp2:Pk l2 a2) (w k:Nat) (hw:w<65536) (hk:k<65536):kH_ Tryz.prog 9 [a,a2,.int .u16 (w:Int),.int .u16 (k:Int)] (.bool true):=by
 have hA:=hp.1.ok wK_;have hA2:=hp2.1.ok wK_;refine t6_ (sh:=[none,none,none,none]) (ls:=[a,a2,.int .u16 (w:Int),.int .u16 (k:Int)]) (c:=c9) (n:=300) (t:=t9) mo ov rfl (by simp only [okL,okC,hA,hA2]) rfl (λY _=>vC_ _) rfl (by kernel_rfl) λY hf hg=>?_;unfold t9;refine uG_ k27 rfl rfl (vv_ rfl rfl (ve_ (t:=false) rfl (λh=>by cases h) (λ_=>?_)));refine vv_ (Ae_ hp) rfl (vv_ (run_gtr ..) rfl (ve_ rfl (λ_=>uH_ rfl) (λ_=>?_)));refine vv_ (Ae_ hp2) rfl (vv_ (run_gtr ..) rfl (ve_ rfl (λ_=>uH_ rfl) (λ_=>?_)));refine b_ (p13 hp) rfl (by simp only [okL,hA]) ⟨?_,trivial⟩;rintro ws ⟨v,b,e,rfl,hv,h0,hb⟩;obtain ⟨hbl,hT⟩:=A4_ h0 λh=>(hb h).2;refine uG_ (p28 (d:=3) hv hbl hT (by have:=Ca_ hbl hT 0;omega)) rfl (by show okL [pl b,.int .i64 (pe b)]=true;simp only [okL,okC,Dk_]) ?_;refine vv_ (vq_ ..) rfl (ve_ rfl (λ_=>uH_ rfl) (λhe=>?_));have he:e=true:=by simpa using he
 obtain ⟨rfl,_,_⟩:=hb he;refine vv_ (run_neq ..) rfl (ve_ rfl (λ_=>uH_ rfl) (λhpe=>?_));obtain ⟨hl,hpl⟩:=Af_ (x:=b) (by simpa using hpe);refine b_ (p14 a2 hA2) rfl (by simp only [okL,hA2]) ⟨?_,trivial⟩;rintro ws rfl;refine b_ (p15 hp2 (Nat.zero_le _)) rfl (by simp only [okL,okC,hA2]) ⟨?_,trivial⟩;rintro ws ⟨mem,n2,rfl,hm,hn2⟩;rw [hpl];have hG:=Da_ hT;have hlen:=zo_ b;have hM:=λnow=>Aj_ hT hm (now:=now);have hw': -9223372036854775808<=(w:Int)/\(w:Int)<=9223372036854775807:=by omega
 have hr:(k:Int).tmod 2000=((k%2000:Nat):Int):=by rw [Int.tmod_eq_emod_of_nonneg (by omega)];rfl
 obtain ⟨s,es⟩:∃s:Nat,s=k%2000:=⟨_,rfl⟩;have hs:s<2000:=by omega
 rw [←es]at hr;have hR:∀(t:TypeId) (cx cy:Bool),(XOp.bin .rem t cx cy).run Tryz.prog [.int .u16 (k:Int),.int .u16 2000]=some (.int .u16 (s:Int)):=λt cx cy=>by rw [←hr];exact u4_ (by decide) ..
 have h29:=p29 hm w;have hst0:St (ye_ mem w).st .nsl:=.inr ⟨rfl,rfl⟩;have h34:=p34 (s:=.nsl) (most:=(s:Int)) (m:=ye_ mem w) hlen hG hw' hl ⟨by show (0:Int)<=0;omega,by show (0:Int)<=100000;omega⟩ (hM w) hst0 ⟨by omega,by omega⟩;have h17:=p17 hw' hbl hT VARS rfl hm (mx:=1100) (by omega) (by omega);have hlaw:=Fi_ hT hm hw' hs (R:=wL_ (Z_ b) (s:Int) (ye_ mem w)) rfl rfl;have hkk:=nl_ (f:=H_ (w:Int) 3) b mem 1100 (λs hs m l hm hl=>nk_ hw' 3 s (hT s hs) m l hm hl) hm (by omega);have hok:okL [VARS,M_ b,c_ mem,.int .i64 (w:Int),.int .i64 1100]=true:=by simp only [okL,okC,G_,okB];rfl
 have hok0:okL (k_ (Z_ b)::(KR (ye_ mem w) .nsl++[.int .i64 (s:Int)]))=true:=Fo_ _ hst0 rfl;generalize wL_ (Z_ b) (s:Int) (ye_ mem w)=R at*;generalize uD_ (H_ (w:Int) 3) b mem 1100=res at*;have h18:=p18 (l:=res.mem) (by have:=hkk.1.len;omega);obtain ⟨law1,law2⟩:=hlaw;refine vv_ (hR _ _ _) rfl (vv_ (BZ_ s (by omega)) rfl (vv_ (zU_ w hw) rfl (uG_ h29 rfl (W_ _ rfl) (b_ h34 rfl hok0 ⟨?_,trivial⟩))));rintro ws ⟨sa,hsa,rfl⟩;refine vv_ (zU_ w hw) rfl (b_ h17 rfl hok ⟨?_,trivial⟩);rintro ws rfl;clear h34 h17 hok hok0 hR
 (refine a_ rfl rfl ?_ ?_<;>intro h<;>simp only [nc]at h<;>try omega)
 obtain ⟨ho,hu⟩:=law1 h;refine vv_ (vq_ ..) rfl (ve_ rfl (λ_=>?_) (λh=>by rw [ho]at h;cases h));refine vv_ (r:=.bool true) ?_ rfl (uH_ rfl);show (XOp.bin .eql 3 false false).run Tryz.prog [.int .i64 R.used,.int .i64 (s:Int)]=_;rw [hu,run_eql];simp
 .obtain ⟨g1,g2,g3⟩:=law2 h
  (refine a_ rfl rfl ?_ ?_<;>intro h<;>simp only [nc]at h<;>try omega)
  refine ve_ (t:=R.over) rfl (λho=>?_) (λho=>?_)
  .obtain ⟨k1,k2,k3,k4⟩:=g2 ho;have h18':kH_ Tryz.prog 18 [c_ R.mem,c_ res.mem] (.bool true):=by rw [k3];exact h18
   (refine a_ rfl rfl ?_ ?_<;>intro h<;>simp only [nc]at h<;>try omega)
   (refine a_ rfl rfl ?_ ?_<;>intro h<;>simp only [nc]at h<;>try omega)
   refine uG_ h18' rfl rfl (ve_ (t:=true) rfl (λ_=>vv_ (hsa.len Tryz.underlying31) rfl (vv_ (r:=.bool true) ?_ rfl (uH_ rfl))) (λh=>by cases h));show (XOp.bin .eql 3 false true).run Tryz.prog [.int .i64 (R.st.length:Int),.int .i64 0]=_;rw [k4,run_eql];rfl
  .obtain ⟨k1,k2⟩:=g3 ho;have h18':kH_ Tryz.prog 18 [c_ R.mem,c_ res.mem] (.bool true):=by rw [k2];exact h18
   (refine a_ rfl rfl ?_ ?_<;>intro h<;>simp only [nc]at h<;>try omega)
   exact uG_ h18' rfl rfl (uH_ rfl)
theorem q9 {w k:Int} (wn:(Lit.int .u16 w).wf=true) (wn2:(Lit.int .u16 k).wf=true) {l l2:List UInt8} {a a2:AV} (sl:SlV wl_ 1 l a) (m:l.length<=maxLen) (sl2:SlV wl_ 1 l2 a2) (m2:l2.length<=maxLen):kH_ Tryz.prog 9 [a,a2,.int .u16 w,.int .u16 k] (.bool true):=by
 have hw:0<=w/\w<=65535:=by simpa [Lit.wf,IntKind.min,IntKind.max,IntKind.bits,IntKind.signed]using wn
 have hw2:0<=k/\k<=65535:=by simpa [Lit.wf,IntKind.min,IntKind.max,IntKind.bits,IntKind.signed]using wn2
 obtain ⟨n,rfl⟩:=Int.eq_ofNat_of_zero_le hw.1;obtain ⟨j,rfl⟩:=Int.eq_ofNat_of_zero_le hw2.1;simp only [maxLen]at m m2;exact p9 ⟨sl,by omega⟩ ⟨sl2,by omega⟩ n j (by omega) (by omega)
end Go.Proofs.YtjconanknjgpnaaGreat.vars
