/-
  A state is an instance of a template: then it is known by the template.
-/
import Derived.Test.YtbjjpimpabbpdaaGreatDoorSyH
set_option linter.unusedVariables false
set_option linter.unusedSimpArgs false
namespace Go.Sx
theorem d6_:∀(l:List AV) (n:Nat),cz_ n l=l[n]?
 |[],n=>by cases n<;>rfl
 |a::r,0=>rfl
 |a::r,n+1=>by simp [cz_,d6_ r n]
structure MEnv (H:AHeap) (ds:List DA) (rn:List (Nat×Nat)) (hv:List AV) (n:Nat) (E E':Env):Prop where
 phi:∀id a,au_ rn id=some a->E'.φ id=E.φ a
 sz:E'.sz=E.sz
 imm:E'.imm=E.imm
 low:∀i,i<n->E'.sy i=E.sy i
 hole:∀j x,cz_ j hv=some x->ae_ x=true/\E'.sy (n+j)=some (den E.sy x)/\(den E.sy x).one=true
 acc:∀id d i,ay_ ds id=some d->d.act=some i->den E.sy d.x≠ .nsl->E'.φ id=E.φ i
 val:∀id d,ay_ ds id=some d->cz_ d.j hv=some d.x
theorem po_ {E:Env} {H:AHeap} {sz:Nat} {a x:AV} {act:Option Nat} {v:Value} (h:hf_ H sz a=some (x,act)) (hc:Con E a v):
  (v=.slice none 0 0/\den E.sy x=.nsl)\/∃i len cs,act=some i/\den E.sy x=.vsl len sz cs/\∃b o n c off',E.φ i=some (b,o)/\E.sz b=some n/\v=.slice (some ⟨b,o+off',none⟩) len c/\(c≠0->off'=0)/\len<=c/\o+c*sz<=n:=by
 unfold hf_ at h;split at h;cases h;simp only [Con]at hc;exact .inl ⟨hc,rfl⟩
 .rename_i id sz' i;split at h
  .split at h
   .rename_i hb;cases h;obtain ⟨e1,e2⟩:=aa_ hb;have e2:=Nat.eq_of_beq_eq_true e2;subst e2;simp only [Con]at hc;obtain ⟨a,h1,⟨rfl,h2⟩|⟨len,cs,rfl,h2⟩⟩:=hc;exact .inl ⟨h2,by simp only [den,h1]⟩
    ·
     exact .inr ⟨id,len,cs,rfl,by simp only [den,h1],h2⟩
   cases h
  cases h
 .rename_i id off len sz' cap;split at h
  .rename_i cs0 hk;split at h
   case h_2=>cases h
   rename_i cs htk;split at h;rename_i hb;cases h;obtain ⟨e1,hb⟩:=aa_ hb;obtain ⟨e2,hb⟩:=aa_ hb;have e1:=Nat.eq_of_beq_eq_true e1;have e2:=Nat.eq_of_beq_eq_true e2;subst e1 e2;simp only [Con]at hc;obtain ⟨b,o,nn,c,off',q1,q2,q3,q4,q5,q6,_⟩:=hc;exact .inr ⟨id,len,_,rfl,by simp only [den];rfl,b,o,nn,c,off',q1,q2,q3,q4,q5,by simpa using q6⟩;cases h
  cases h
 cases h
theorem dm_ {a b:Option Nat} (h:jA_ a b=true):a=b:=by unfold jA_ at h;split at h;rfl;rw [Nat.eq_of_beq_eq_true h];cases h
theorem MEnv.con0 {H:AHeap} {ds:List DA} {rn:List (Nat×Nat)} {hv:List AV} {n:Nat} {E E':Env} (h:MEnv H ds rn hv n E E') {a:AV} {v:Value} (hc:Con0 E a v):Con0 E' a v:=cb_ (λ_ _ _ hx=>by rw [h.imm];exact hx) hc
mutual
theorem qZ_ {H:AHeap} {ds:List DA} {rn:List (Nat×Nat)} {hv:List AV} {n:Nat} {E E':Env} (h:MEnv H ds rn hv n E E'):∀{t a:AV} {v:Value},mA H ds rn hv n t a=true->Con E a v->Con E' (bh_ n t) v
 | .opq,_,_,_,_=>by simp [bh_,Con]
 | .slx j z q,a,v,hm,hc=>by
   unfold mA at hm;unfold bh_;cases z with
   |zero=>simp only at hm⊢;split at hm;rename_i x hx;have:=aB_ hm;subst this;obtain ⟨h1,h2,h3⟩:=h.hole _ _ hx;simp only [Con];exact ⟨_,h2,h3,h.con0 (at_ h1 hc)⟩;cases hm
   |succ z=>simp only at hm⊢;split at hm;rename_i d hd;split at hm;rename_i x act hacc;obtain ⟨e1,hm⟩:=aa_ hm;obtain ⟨e2,hm⟩:=aa_ hm;obtain ⟨e3,e4⟩:=aa_ hm;have e2:=Nat.eq_of_beq_eq_true e2;have e3:=aB_ e3;have e4:=dm_ e4;have hval:=h.val _ _ hd;obtain ⟨_,h2,_⟩:=h.hole _ _ hval;simp only [Con];refine ⟨_,by rw [←e2];exact h2,?_⟩;rcases po_ hacc hc with ⟨k1,k2⟩|⟨i,len,cs,k1,k2,b,o,nn,c,off',q1,q2,q3,q4,q5,q6⟩;rw [e3];exact .inl ⟨k2,k1⟩;rw [e3];refine .inr ⟨len,cs,k2,b,o,nn,c,off',?_,by rw [h.sz];exact q2,q3,q4,q5,q6⟩;rw [h.acc _ _ _ hd (e4.trans k1) (by rw [e3,k2];intro e;cases e)];exact q1;cases hm;cases hm
 | .sym i,a,v,hm,hc=>by unfold mA at hm;obtain ⟨h1,h2⟩:=aa_ hm;have:=aB_ h2;subst this;have hi:i<n:=(by simpa [Nat.blt_eq]using h1);simp only [bh_,Con]at hc⊢;obtain ⟨a,q1,q2,q3⟩:=hc;exact ⟨a,by rw [h.low i hi];exact q1,q2,h.con0 q3⟩
 | .ptr id off,a,v,hm,hc=>by unfold mA at hm;split at hm;obtain ⟨h1,h2⟩:=aa_ hm;have h2:=Nat.eq_of_beq_eq_true h2;subst h2;simp only [bh_,Con]at hc⊢;rw [h.phi id _ (dm_ h1)];exact hc;cases hm
 | .sl id off len sz cap,a,v,hm,hc=>by unfold mA at hm;split at hm;rename_i id' off' len' sz' cap';obtain ⟨h1,hm⟩:=aa_ hm;obtain ⟨e2,hm⟩:=aa_ hm;obtain ⟨e3,hm⟩:=aa_ hm;obtain ⟨e4,e5⟩:=aa_ hm;have e2:=Nat.eq_of_beq_eq_true e2;have e3:=Nat.eq_of_beq_eq_true e3;have e4:=Nat.eq_of_beq_eq_true e4;subst e2 e3 e4;simp only [bh_,Con]at hc⊢;rw [h.phi id _ (dm_ h1),h.sz];obtain ⟨b,o,nn,c,off',q1,q2,q3,q4,q5,q6,q7⟩:=hc;refine ⟨b,o,nn,c,off',q1,q2,q3,q4,q5,q6,λk hk=>?_⟩;subst hk;simp only [Option.isNone_some,Bool.false_or,beq_iff_eq]at e5;exact q7 k e5.symm;cases hm
 | .agg ts,a,v,hm,hc=>by unfold mA at hm;split at hm;simp only [bh_,Con]at hc⊢;obtain ⟨vs,rfl,h2⟩:=hc;exact ⟨vs,rfl,iK_ h hm h2⟩;cases hm
 | .tup ts,a,v,hm,hc=>by unfold mA at hm;split at hm;simp only [bh_,Con]at hc⊢;obtain ⟨vs,rfl,h2⟩:=hc;exact ⟨vs,rfl,iK_ h hm h2⟩;cases hm
 | .vptr ts,a,v,hm,hc=>by unfold mA at hm;split at hm;simp only [bh_,Con]at hc⊢;obtain ⟨b,o,vs,h1,h2,h3⟩:=hc;exact ⟨b,o,vs,h1,iK_ h hm h2,λi u hu=>by rw [h.imm];exact h3 i u hu⟩;cases hm
 | .vsl len sz ts,a,v,hm,hc=>by unfold mA at hm;split at hm;obtain ⟨e1,hm1⟩:=aa_ hm;obtain ⟨e2,hm2⟩:=aa_ hm1;have e3:=Nat.eq_of_beq_eq_true e1;subst e3;simp only [bh_,Con]at hc⊢;obtain ⟨b,o,vs,c,h1,h2,h3,h4⟩:=hc;exact ⟨b,o,vs,c,h1,h2,iK_ h hm2 h3,λi u hu=>by rw [h.imm];exact h4 i u hu⟩;cases hm
 | .fn f ts,a,v,hm,hc=>by unfold mA at hm;split at hm;obtain ⟨e1,hm1⟩:=aa_ hm;have e2:=Nat.eq_of_beq_eq_true e1;subst e2;simp only [bh_,Con]at hc⊢;obtain ⟨vs,h1,h2⟩:=hc;exact ⟨vs,h1,iK_ h hm1 h2⟩;cases hm
 | .iface t x,a,v,hm,hc=>by unfold mA at hm;split at hm;obtain ⟨e1,hm1⟩:=aa_ hm;have e2:=Nat.eq_of_beq_eq_true e1;subst e2;simp only [bh_,Con]at hc⊢;obtain ⟨u,h1,h2⟩:=hc;exact ⟨u,h1,qZ_ h hm1 h2⟩;cases hm
 | .ptx id i sz _,a,v,hm,hc=>by unfold mA at hm;split at hm;obtain ⟨h1,hm⟩:=aa_ hm;obtain ⟨e1,hm⟩:=aa_ hm;obtain ⟨e2,e3⟩:=aa_ hm;have e1:=Nat.eq_of_beq_eq_true e1;have e2:=Nat.eq_of_beq_eq_true e2;subst e1 e2;have hi:i<n:=(by simpa [Nat.blt_eq]using e3);simp only [bh_,Con]at hc⊢;rw [h.phi id _ (dm_ h1),h.sz,h.low i hi];exact hc;cases hm
 | .map id,a,v,hm,hc=>by unfold mA at hm;split at hm;simp only [bh_,Con]at hc⊢;rw [h.phi id _ (dm_ hm)];exact hc;cases hm
 | .bool b,a,v,hm,hc=>by have:=aB_ (a:=.bool b) (b:=a) (by simpa [mA]using hm);subst this;simpa [bh_,Con]using hc
 | .int k b,a,v,hm,hc=>by have:=aB_ (a:=.int k b) (b:=a) (by simpa only [mA]using hm);subst this;simpa [bh_,Con]using hc
 | .flt k b,a,v,hm,hc=>by have:=aB_ (a:=.flt k b) (b:=a) (by simpa only [mA]using hm);subst this;simpa [bh_,Con]using hc
 | .nan k,a,v,hm,hc=>by have:=aB_ (a:=.nan k) (b:=a) (by simpa only [mA]using hm);subst this;simpa [bh_,Con]using hc
 | .str s,a,v,hm,hc=>by have:=aB_ (a:=.str s) (b:=a) (by simpa only [mA]using hm);subst this;simpa [bh_,Con]using hc
 | .nptr,a,v,hm,hc=>by have:=aB_ (a:=.nptr) (b:=a) (by simpa only [mA]using hm);subst this;simpa [bh_,Con]using hc
 | .nsl,a,v,hm,hc=>by have:=aB_ (a:=.nsl) (b:=a) (by simpa only [mA]using hm);subst this;simpa [bh_,Con]using hc
 | .nmap,a,v,hm,hc=>by have:=aB_ (a:=.nmap) (b:=a) (by simpa only [mA]using hm);subst this;simpa [bh_,Con]using hc
 | .nfn,a,v,hm,hc=>by have:=aB_ (a:=.nfn) (b:=a) (by simpa only [mA]using hm);subst this;simpa [bh_,Con]using hc
 | .nif,a,v,hm,hc=>by have:=aB_ (a:=.nif) (b:=a) (by simpa only [mA]using hm);subst this;simpa [bh_,Con]using hc
theorem iK_ {H:AHeap} {ds:List DA} {rn:List (Nat×Nat)} {hv:List AV} {n:Nat} {E E':Env} (h:MEnv H ds rn hv n E E'):∀{ts as:List AV} {vs:List Value},mL H ds rn hv n ts as=true->ConL E as vs->ConL E' (bw_ n ts) vs
 |[],[],vs,hm,hc=>by simpa [bw_,ConL]using hc
 |t::ts,a::r,vs,hm,hc=>by simp only [mL]at hm;obtain ⟨h1,h2⟩:=aa_ hm;simp only [ConL]at hc;simp only [bw_,ConL];obtain ⟨v,q,e,c1,c2⟩:=hc;exact ⟨v,q,e,qZ_ h h1 c1,iK_ h h2 c2⟩
 |[],_::_,_,hm,_=>by simp [mL]at hm
 |_::_,[],_,hm,_=>by simp [mL]at hm
end
theorem ka_ {H:AHeap} {ds:List DA} {rn:List (Nat×Nat)} {hv:List AV} {n:Nat} {E E':Env} (h:MEnv H ds rn hv n E E') {T:Tm} {tmps:Array Value} (hc:∀t,t<512->Con E (tget T t) (tmps.getD t undef)):
  ∀(slots:List (Nat×AV)),mT H ds rn hv n T slots=true->∀t,t<512->Con E' (tget (cI_ n slots) t) (tmps.getD t undef)
 |[],_,t,ht=>by show Con E' (tget topq t) _;rw [bP_];simp [Con]
 |(s,a)::r,hm,t,ht=>by simp only [mT]at hm;obtain ⟨h1,hm⟩:=aa_ hm;obtain ⟨h2,hm⟩:=aa_ hm;have h1:s<512:=(by simpa [Nat.blt_eq]using h1);show Con E' (tget (dx_ (cI_ n r) s (bh_ n a)) t) _;by_cases e:s=t;subst e;rw [ap_ _ ht];exact qZ_ h h2 (hc s ht);rw [av_ _ ht h1 e];exact ka_ h hc r hm t ht
theorem gK_ {n next:Nat}:∀(rows:List (Nat×List AV)),(∀id cs,(id,cs)∈rows->id<top)->∀id k,(f8_ n next rows).get id=some k->∃cs,(id,cs)∈rows/\k=.cells (bw_ n cs)
 |[],_,id,k,h=>by have:(⟨hnil,next,top⟩:AHeap).get id=some k:=h;rw [dJ_]at this;cases this
 |(i,c)::r,hlt,id,k,h=>by have h:((f8_ n next r).set i (.cells (bw_ n c))).get id=some k:=h;have hi:=hlt i c (List.mem_cons_self ..);by_cases e:i=id;subst e;rw [AHeap.get_set_same _ hi]at h;cases h;exact ⟨c,List.mem_cons_self ..,rfl⟩;rw [AHeap.get_set_ne _ hi e]at h;obtain ⟨cs,h1,h2⟩:=gK_ r (λa b h=>hlt a b (List.mem_cons_of_mem _ h)) id k h;exact ⟨cs,List.mem_cons_of_mem _ h1,h2⟩
theorem ix_ {n next:Nat}:∀rows,(f8_ n next rows).next=next/\(f8_ n next rows).hi=top
 |[]=>⟨rfl,rfl⟩
 |(i,c)::r=>ix_ r
theorem bd_:∀{l:List (Nat×Nat)} {i a:Nat},au_ l i=some a->(i,a)∈l
 |[],i,a,h=>by cases h
 |(j,t)::r,i,a,h=>by unfold au_ at h;split at h;rename_i hb;cases h;rw [Nat.eq_of_beq_eq_true hb];exact List.mem_cons_self ..;exact List.mem_cons_of_mem _ (bd_ h)
theorem tc_ {ds:List DA} {inv:List (Nat×Nat)} {next:Nat}:∀{rn:List (Nat×Nat)},mN ds inv next rn=true->∀id a,(id,a)∈rn->id<next/\id<top/\au_ inv a=some id/\ay_ ds id=none
 |[],_,id,a,h=>by cases h
 |(i,q)::r,hm,id,a,h=>by simp only [mN]at hm;obtain ⟨h1,hm⟩:=aa_ hm;obtain ⟨h2,hm⟩:=aa_ hm;obtain ⟨h3,hm⟩:=aa_ hm;obtain ⟨h4,hm⟩:=aa_ hm;rcases List.mem_cons.1 h with h|h;cases h;exact ⟨by simpa [Nat.blt_eq]using h1,by simpa [Nat.blt_eq]using h2,dm_ h3,by simpa using h4⟩;exact tc_ hm id a h
theorem ta_ {ds:List DA} {rn:List (Nat×Nat)} {hv:List AV} {n:Nat} {H:AHeap}:∀(rows:List (Nat×List AV)),mH ds rn hv n H rows=true->∀id cs,(id,cs)∈rows->∃a l,au_ rn id=some a/\H.get a=some (.cells l)/\mL H ds rn hv n cs l=true
 |[],_,id,cs,h=>by cases h
 |(i,c)::r,hm,id,cs,h=>by simp only [mH]at hm;obtain ⟨h1,hm⟩:=aa_ hm;rcases List.mem_cons.1 h with h|h;cases h;split at h1;rename_i a ha;split at h1;rename_i l hl;exact ⟨a,l,ha,hl,h1⟩;cases h1;cases h1;exact ta_ r hm id cs h
theorem s8_ {inv:List (Nat×Nat)} {hv:List AV} {next:Nat}:∀{ds:List DA},mD inv hv next ds=true->∀d,d∈ds->d.id<next/\d.id<top/\cz_ d.j hv=some d.x/\∀i,d.act=some i->au_ inv i=some d.id
 |[],_,d,h=>by cases h
 |q::r,hm,d,h=>by simp only [mD]at hm;obtain ⟨h1,hm⟩:=aa_ hm;obtain ⟨h2,hm⟩:=aa_ hm;obtain ⟨h3,hm⟩:=aa_ hm;obtain ⟨h4,hm⟩:=aa_ hm;rcases List.mem_cons.1 h with rfl|h;refine ⟨by simpa [Nat.blt_eq]using h1,by simpa [Nat.blt_eq]using h2,?_,λi hi=>?_⟩;split at h3;rename_i y hy;rw [hy,aB_ h3];cases h3;rw [hi]at h4;exact dm_ h4;exact s8_ hm d h
theorem tb_ {rn:List (Nat×Nat)} {hv:List AV} {H:AHeap}:∀(ms:List (Nat×Nat)),mM rn hv H ms=true->∀id j,(id,j)∈ms->∃a x,au_ rn id=some a/\oQ_ H a=some x/\cz_ j hv=some x
 |[],_,id,j,h=>by cases h
 |(i,q)::r,hm,id,j,h=>by simp only [mM]at hm;obtain ⟨h1,hm⟩:=aa_ hm;rcases List.mem_cons.1 h with h|h;cases h;split at h1;rename_i a ha;split at h1;rename_i x hx;split at h1;rename_i y hy;exact ⟨a,x,ha,hx,by rw [hy,aB_ h1]⟩;cases h1;cases h1;cases h1;exact tb_ r hm id j h
theorem rA_ (n:Nat) {i:Nat} (h:Nat.blt i lL_=true):jB_ n i=i:=by unfold jB_;rw [h]
theorem kv_ (n:Nat) {i:Nat} (h:Nat.blt i lL_=false):jB_ n i=n+ht_ i:=by unfold jB_;rw [h];exact Nat.add_eq
inductive FixAt (hv:List AV) (n s:Nat):ABlk->Prop where
 |old (h:s<n):FixAt hv n s (.syl s)
 |sym (j i:Nat) (h:s=n+j) (hj:cz_ j hv=some (.sym i)):FixAt hv n s (.syl i)
 |cells (j len z:Nat) (cs:List AV) (h:s=n+j) (hj:cz_ j hv=some (.vsl len z cs)) (hl:cs.length=len*z) (hs:ad_ cs=true):FixAt hv n s (.cells cs)
theorem s9_ {rn:List (Nat×Nat)} {hv:List AV} {n:Nat} {H:AHeap}:∀(ms:List (Nat×Nat)),mF rn hv n H ms=true->∀id i,(id,i)∈ms->∃a k,au_ rn id=some a/\H.get a=some k/\FixAt hv n (jB_ n i) k
 |[],_,id,j,h=>by cases h
 |(i,q)::r,hm,id,j,h=>by simp only [mF]at hm;obtain ⟨h1,hm⟩:=aa_ hm;rcases List.mem_cons.1 h with h|h;cases h;split at h1;rename_i a ha;split at h1;rename_i x hx;split at h1;rename_i hb;obtain ⟨h0,h1⟩:=aa_ h1;have h1:=Nat.eq_of_beq_eq_true h1;have h0:q<n:=(by simpa [Nat.blt_eq]using h0);refine ⟨a,_,ha,hx,?_⟩;rw [rA_ n hb,h1];exact .old (by omega);rename_i hb;split at h1;rename_i y hy;have:=aB_ h1;subst this;exact ⟨a,_,ha,hx,.sym (ht_ q) x (kv_ n hb) hy⟩;cases h1;rename_i cs hx;split at h1;cases h1;rename_i hb;split at h1;rename_i y hy;unfold oH_ at h1;split at h1;rename_i len z cs';obtain ⟨e1,h1⟩:=aa_ h1;obtain ⟨e2,h1⟩:=aa_ h1;obtain ⟨e3,_⟩:=aa_ h1;have:=by_ e1;subst this;have e2:=Nat.eq_of_beq_eq_true e2;rw [aj_]at e2;exact ⟨a,_,ha,hx,.cells (ht_ q) len z _ (kv_ n hb) hy e2 e3⟩;cases h1;cases h1;cases h1;cases h1;exact s9_ r hm id j h
theorem bl_:∀{ds:List DA} {id:Nat} {d:DA},ay_ ds id=some d->d∈ds/\d.id=id
 |[],id,d,h=>by cases h
 |q::r,id,d,h=>by unfold ay_ at h;split at h;rename_i hb;cases h;exact ⟨List.mem_cons_self ..,Nat.eq_of_beq_eq_true hb⟩;obtain ⟨h1,h2⟩:=bl_ h;exact ⟨List.mem_cons_of_mem _ h1,h2⟩
theorem fK_ {T:Tm} {H:AHeap} {rn:List (Nat×Nat)}:∀{ts:List TA} {ds:List DA},pn_ T H rn ts=some ds->∀d,d∈ds->∃t a,t∈ts/\t.id=d.id/\t.j=d.j/\ke_ T H rn t=some a/\hf_ H d.sz a=some (d.x,d.act)
 |[],ds,h,d,hd=>by cases h;cases hd
 |t::r,ds,h,d,hd=>by unfold pn_ at h;split at h;rename_i a ha;split at h;rename_i x act hx;split at h;rename_i l hl;cases h;rcases List.mem_cons.1 hd with rfl|hd;exact ⟨t,a,List.mem_cons_self ..,rfl,rfl,ha,hx⟩;obtain ⟨t',a',h0,h1⟩:=fK_ hl d hd;exact ⟨t',a',List.mem_cons_of_mem _ h0,h1⟩;cases h;cases h;cases h
theorem j9_ {n:Nat} {T:Tm} {H H0:AHeap} {rn:List (Nat×Nat)}:∀{ts:List TA} {ds:List DA},pn_ T H rn ts=some ds->(∀d,d∈ds->d.id<top)->∀id k,(fp_ n H0 ts).get id=some k->(ay_ ds id=none/\H0.get id=some k)\/∃d,ay_ ds id=some d/\k=.syl (n+d.j)
 |[],ds,h,hlt,id,k,hk=>by cases h;exact .inl ⟨rfl,hk⟩
 |t::r,ds,h,hlt,id,k,hk=>by
  unfold pn_ at h;split at h
  .rename_i a ha;split at h
   .rename_i x act hx;split at h
    .rename_i l hl;cases h;have ht:t.id<top:=hlt _ (List.mem_cons_self ..);unfold fp_ at hk;by_cases e:t.id=id;subst e;rw [AHeap.get_set_same _ ht]at hk;cases hk;exact .inr ⟨⟨t.id,t.sz,t.j,x,act⟩,by unfold ay_;simp only [Nat.beq_refl],rfl⟩
     .rw [AHeap.get_set_ne _ ht e]at hk;have hb:Nat.beq t.id id=false:=by
       cases hb:Nat.beq t.id id with
       |true=>exact absurd (Nat.eq_of_beq_eq_true hb) e
       |false=>rfl
      have:=j9_ hl (λd hd=>hlt d (List.mem_cons_of_mem _ hd)) id k hk;unfold ay_;simp only [hb];exact this
    cases h
   cases h
  cases h
theorem iB_ {n:Nat} {H0:AHeap}:∀ts:List TA,(fp_ n H0 ts).next=H0.next/\(fp_ n H0 ts).hi=H0.hi
 |[]=>⟨rfl,rfl⟩
 |t::r=>iB_ r
theorem gL_ {n:Nat} {H0:AHeap}:∀(ms:List (Nat×Nat)),(∀id j,(id,j)∈ms->id<top)->∀id k,(iy_ n H0 ms).get id=some k->(∃j,(id,j)∈ms/\k=.mpl (n+j))\/H0.get id=some k
 |[],_,id,k,h=>.inr h
 |(i,q)::r,hlt,id,k,h=>by have h:((iy_ n H0 r).set i (.mpl (Nat.add n q))).get id=some k:=h;have hi:=hlt i q (List.mem_cons_self ..);by_cases e:i=id;subst e;rw [AHeap.get_set_same _ hi]at h;cases h;exact .inl ⟨q,List.mem_cons_self ..,rfl⟩;rw [AHeap.get_set_ne _ hi e]at h;rcases gL_ r (λa b h=>hlt a b (List.mem_cons_of_mem _ h)) id k h with ⟨j,h1,h2⟩|h;exact .inl ⟨j,List.mem_cons_of_mem _ h1,h2⟩;exact .inr h
theorem iz_ {n:Nat} {H0:AHeap}:∀ms:List (Nat×Nat),(iy_ n H0 ms).next=H0.next/\(iy_ n H0 ms).hi=H0.hi
 |[]=>⟨rfl,rfl⟩
 |(i,q)::r=>iz_ r
theorem gJ_ {n:Nat} {H0:AHeap}:∀(ms:List (Nat×Nat)),(∀id j,(id,j)∈ms->id<top)->∀id k,(j8_ n H0 ms).get id=some k->(∃j,(id,j)∈ms/\k=.syl (jB_ n j))\/H0.get id=some k
 |[],_,id,k,h=>.inr h
 |(i,q)::r,hlt,id,k,h=>by have h:((j8_ n H0 r).set i (.syl (jB_ n q))).get id=some k:=h;have hi:=hlt i q (List.mem_cons_self ..);by_cases e:i=id;subst e;rw [AHeap.get_set_same _ hi]at h;cases h;exact .inl ⟨q,List.mem_cons_self ..,rfl⟩;rw [AHeap.get_set_ne _ hi e]at h;rcases gJ_ r (λa b h=>hlt a b (List.mem_cons_of_mem _ h)) id k h with ⟨j,h1,h2⟩|h;exact .inl ⟨j,List.mem_cons_of_mem _ h1,h2⟩;exact .inr h
theorem iw_ {n:Nat} {H0:AHeap}:∀ms:List (Nat×Nat),(j8_ n H0 ms).next=H0.next/\(j8_ n H0 ms).hi=H0.hi
 |[]=>⟨rfl,rfl⟩
 |(i,q)::r=>iw_ r
theorem Tpl.heap_next (tp:Tpl) (n:Nat):(tp.heap n).next=tp.next/\(tp.heap n).hi=top:=by unfold Tpl.heap;obtain ⟨a1,a2⟩:=iw_ (n:=n) (H0:=iy_ n (fp_ n (f8_ n tp.next tp.rows) tp.acc) tp.maps) tp.fix;obtain ⟨b1,b2⟩:=iz_ (n:=n) (H0:=fp_ n (f8_ n tp.next tp.rows) tp.acc) tp.maps;obtain ⟨c1,c2⟩:=iB_ (n:=n) (H0:=f8_ n tp.next tp.rows) tp.acc;obtain ⟨d1,d2⟩:=ix_ (n:=n) (next:=tp.next) tp.rows;exact ⟨by rw [a1,b1,c1,d1],by rw [a2,b2,c2,d2]⟩
theorem nM_ {H:AHeap} {ds:List DA} {rn:List (Nat×Nat)} {hv:List AV} {n:Nat}:∀{ts as:List AV},mL H ds rn hv n ts as=true->as.length=ts.length
 |[],[],_=>rfl
 |t::ts,a::r,h=>by simp only [mL]at h;simp [nM_ (aa_ h).2]
 |[],_::_,h=>by simp [mL]at h
 |_::_,[],h=>by simp [mL]at h
theorem e9_ (n:Nat):∀l:List AV,(bw_ n l).length=l.length
 |[]=>rfl
 |a::r=>by simp [bw_,e9_ n r]
theorem cw_ (s:Nat->Option AV):∀l:List AV,(ab_ s l).length=l.length
 |[]=>rfl
 |a::r=>by simp [ab_,cw_ s r]
theorem fW_ (s:Nat->Option AV):∀(l:List AV) (i:Nat) (a:AV),l[i]? =some a->(ab_ s l)[i]? =some (den s a)
 |[],i,a,h=>by simp at h
 |b::r,0,a,h=>by simp at h;subst h;rfl
 |b::r,i+1,a,h=>by simpa [ab_]using fW_ s r i a (by simpa using h)
theorem fg_:∀{l:List AV},ad_ l=true->∀(i:Nat) (a:AV),l[i]? =some a->ae_ a=true
 |[],_,i,a,h=>by simp at h
 |b::r,hs,i,a,h=>by
  simp only [ad_]at hs;cases hb:ae_ b with
  |true=>
   rw [hb]at hs;cases i with
   |zero=>simp at h;subst h;exact hb
   |succ i=>exact fg_ hs i a (by simpa using h)
  |false=>rw [hb]at hs;cases hs
theorem gI_:∀(acc:List (Nat×AV)) (j m:Nat) (l:List AV),oF_ acc j m=some l->l.length=m
 |acc,j,0,l,h=>by cases h;rfl
 |acc,j,m+1,l,h=>by unfold oF_ at h;split at h;split at h;rename_i l' hl;cases h;simp [gI_ acc _ m _ hl];cases h;cases h
def Ext (n:Nat) (Y Y':Sy):Prop:=∀i,i<n->Y'.v i=Y.v i
theorem Ext.refl (n:Nat) (Y:Sy):Ext n Y Y:=λ_ _=>rfl
theorem Ext.trans {n m:Nat} {Y Y' Y'':Sy} (h:Ext n Y Y') (h':Ext m Y' Y'') (hn:n<=m):Ext n Y Y'':=λi hi=>(h' i (by omega)).trans (h i hi)
theorem Ext.puts:∀{Y:Sy} {n:Nat} (l:List AV) (m:Nat),m<=n->Ext m Y (Y.puts n l)
 |Y,n,[],m,h=>λ_ _=>rfl
 |Y,n,a::r,m,h=>λi hi=>by have:=Ext.puts (Y:=Y.put n a) (n:=n+1) r m (by omega) i hi;exact this.trans (Sy.put_ne _ _ (by omega))
theorem Ext.put {Y:Sy} {n:Nat} (a:AV) {m:Nat} (h:m<=n):Ext m Y (Y.put n a):=λi hi=>Sy.put_ne _ _ (by omega)
variable [Gl]
def fq_:AV->Bool
 | .nsl=>true
 |_=>false
omit [Gl]in
theorem ld_ {D:Dfs} (h:noD D=true):D=[]:=by
 cases D with
 |nil=>rfl
 |cons _ _=>cases h
def sm_ (m:MR) (E:Env) (Y:Sy) (bim:Nat->Nat->Option Value):Env where
 φ id:=match ay_ m.ds id with
   |some d=>match fq_ (den E.sy d.x)with
    |true=>none
    |false=>match d.act with
     |some i=>E.φ i
     |none=>none
   |none=>match au_ m.rn id with
    |some a=>E.φ a
    |none=>none
 sz:=E.sz
 imm:=E.imm
 res id:=(∃d,ay_ m.ds id=some d/\fq_ (den E.sy d.x)=true)\/∃a,ay_ m.ds id=none/\au_ m.rn id=some a/\E.vd a
 bim:=bim
 sy:=Y.v
 syl:=Y.l
 vd id:=(∃d,ay_ m.ds id=some d/\fq_ (den E.sy d.x)=true)\/∃a,ay_ m.ds id=none/\au_ m.rn id=some a/\E.vd a
def hF_ (m:MR) (own:Nat->Option Nat):Nat->Option Nat:=λb=>match own b with
 |some i=>au_ m.inv i
 |none=>none
omit [Gl]in
theorem ki_ {x:AV} (hx:x≠ .nsl):fq_ x=false:=by cases x<;>first|rfl|exact absurd rfl hx
structure MCore (n:Nat) (tp:Tpl) (T:Tm) (E E':Env) (own:Nat->Option Nat) (w:World) (m:MR):Prop where
 len:(ab_ E.sy m.hv).length=tp.nv
 slots:∀tmps:Array Value,(∀t,t<512->Con E (tget T t) (tmps.getD t undef))->∀t,t<512->Con E' (tget (cI_ n tp.slots) t) (tmps.getD t undef)
 rows:∀id k,(tp.heap n).get id=some k->RowAt E' w (hF_ m own) id k
 fresh:∀id,tp.next<=id->E'.φ id=none
 vd:∀id,E'.vd id->E'.φ id=none/\id<tp.next
 next:tp.next<=top
 acc:∀d,d∈m.ds->∃t,t∈tp.acc/\t.id=d.id/\t.j=d.j/\cz_ d.j m.hv=some d.x
 inj:∀i j a,(au_ m.rn i=some a\/∃d,ay_ m.ds i=some d/\d.act=some a)->(au_ m.rn j=some a\/∃d,ay_ m.ds j=some d/\d.act=some a)->i=j
 rnA:∀i a,au_ m.rn i=some a->ay_ m.ds i=none
 accN:∀d a,d∈m.ds->d.act=some a->fq_ (den E.sy d.x)=true->E.φ a=none
omit [Gl]in
theorem iM_ {n:Nat} {tp:Tpl} {T:Tm} {H:AHeap} {m:MR} {Y0:Sy} {E:Env} {w:World} {own:Nat->Option Nat} (hm:gP_ n tp T H=some m) (hf:Fresh Y0 n) (hx:∀i,i<n->E.sy i=Y0.v i) (hok:okL (ab_ E.sy m.hv)=true)
  (g1:∀id k,H.get id=some k->RowAt E w own id k) (hvd:∀id,E.vd id->E.φ id=none) (bim:Nat->Nat->Option Value):MCore n tp T E (sm_ m E (Y0.puts n (ab_ E.sy m.hv)) bim) own w m:=by
 unfold gP_ at hm;simp only at hm;split at hm;cases hm;rename_i ds hds;split at hm;cases hm;rename_i msl hms;split at hm;cases hm;rename_i hv hh;split at hm
 case h_2=>cases hm
 rename_i hb;cases hm;generalize hrn:tI_ tp T H=rn at*;obtain ⟨b1,hb⟩:=aa_ hb;obtain ⟨b2,hb⟩:=aa_ hb;obtain ⟨b3,hb⟩:=aa_ hb;obtain ⟨b4,hb⟩:=aa_ hb;obtain ⟨b5,hb⟩:=aa_ hb;obtain ⟨b6,hb⟩:=aa_ hb;obtain ⟨b7,hb⟩:=aa_ hb;obtain ⟨b8,b9⟩:=aa_ hb;have hN:=tc_ b4;have hmap:=tb_ tp.maps b7;have hrow:=ta_ tp.rows b5;have hacc:=s8_ b6;have hfix:=s9_ tp.fix b8;have b9:=Nat.le_of_ble_eq_true b9
 let Y':=Y0.puts n (ab_ E.sy hv)
 let E':Env:=sm_ ⟨rn,ds,hv⟩ E Y' bim
 have hphiN:∀id a,au_ rn id=some a->E'.φ id=E.φ a:=λid a h=>by
  show (match ay_ ds id with
   |some d=>_
   |none=>match au_ rn id with
    |some a=>E.φ a
    |none=>none)=_
  rw [(hN id a (bd_ h)).2.2.2,h]
 have hme:MEnv H ds rn hv n E E':={
  phi:=hphiN
  sz:=rfl
  imm:=rfl
  low:=λi hi=>by show Y'.v i=E.sy i;rw [hx i hi];exact Ext.puts (ab_ E.sy hv) n (Nat.le_refl n) i hi
  hole:=λj x hj=>by rw [d6_]at hj;have h1:=fg_ b1 j x hj;have h2:=fW_ E.sy hv j x hj;exact ⟨h1,b0_ (ab_ E.sy hv) hf j _ h2,bn_ (cT_ hok _ (List.mem_of_getElem? h2))⟩
  acc:=λid d i h1 h2 h3=>by
   show (match ay_ ds id with
    |some d=>match fq_ (den E.sy d.x)with
     |true=>none
     |false=>match d.act with
      |some i=>E.φ i
      |none=>none
    |none=>_)=_
   rw [h1];simp only [ki_ h3,h2]
  val:=λid d h=>(hacc d (bl_ h).1).2.2.1 }
 have hconC:∀id d i,ay_ ds id=some d->d.act=some i->den E.sy d.x≠ .nsl->∃b o,E.φ i=some (b,o)/\own b=some i/\BlkAt E' w b o (.syl (n+d.j)):=by
  intro id d i h1 h2 h3;have hdm:=(bl_ h1).1;obtain ⟨_,_,hval,_⟩:=hacc d hdm;obtain ⟨hs1,hs2,hs3⟩:=hme.hole _ _ hval;obtain ⟨t,a',_,_,_,_,ha2⟩:=fK_ hds d hdm;have hxok:okC (den E.sy d.x)=true:=by rw [d6_]at hval;exact cT_ hok _ (List.mem_of_getElem? (fW_ E.sy hv d.j d.x hval))
  rw [h2]at ha2;unfold hf_ at ha2;split at ha2;simp at ha2;rename_i id' sz' i';split at ha2;rename_i k hk;split at ha2;rename_i hbb;simp only [Option.some.injEq,Prod.mk.injEq]at ha2;obtain ⟨hdx,rfl⟩:=ha2;obtain ⟨e1,e2⟩:=aa_ hbb;have e1:=Nat.eq_of_beq_eq_true e1;subst e1;obtain ⟨_,hv2⟩|⟨b,o,q1,q2,len,sz'',cs,q3,q4,arr,t',q5,q6,q7,q8⟩:=g1 _ _ hk;exfalso;apply h3;have hv2:E.sy k=some .nsl:=hv2;rw [←hdx];simp only [den,hv2];refine ⟨b,o,q1,q2,len,sz'',cs,?_,q4,arr,t',q5,q6,q7,λq x hq=>?_⟩;rw [hs2,←hdx];simp only [den,q3];obtain ⟨u,k1,k2,k3⟩:=q8 q x hq;exact ⟨u,k1,k2,hme.con0 k3⟩;cases ha2;cases ha2
  .rename_i id' off len sz' cap _;split at ha2
   .rename_i cs0 hk;split at ha2
    case h_2=>cases ha2
    rename_i cs htk;have htk2:=(bO_ htk).1;split at ha2
    .rename_i hbb;simp only [Option.some.injEq,Prod.mk.injEq]at ha2;obtain ⟨hdx,rfl⟩:=ha2;obtain ⟨e1,hbb⟩:=aa_ hbb;obtain ⟨e2,hbb⟩:=aa_ hbb;obtain ⟨e3,hbb⟩:=aa_ hbb;obtain ⟨e4,hbb⟩:=aa_ hbb;obtain ⟨e5,e6⟩:=aa_ hbb;have e4:=Nat.eq_of_beq_eq_true e4;rw [aj_]at e4;obtain ⟨_,hv2⟩|⟨b,o,q1,q2,arr,t',q5,q6,q7,q8⟩:=g1 _ _ hk;exact hv2.elim
     .rw [←hdx]at hxok;simp only [den,okC]at hxok
      refine ⟨b,o,q1,q2,len,d.sz,ab_ E.sy cs,?_,by rw [cw_];exact e4,arr,t',q5,q6,by
       rw [cw_,htk2,List.length_take];have:=Nat.min_le_right (Nat.mul len d.sz) cs0.length;omega,λq x hq=>?_⟩
      rw [hs2,←hdx];rfl
      .rw [cc_]at hq;cases hcq:cs[q]? with
       |none=>rw [hcq]at hq;cases hq
       |some y=>
        rw [hcq]at hq;simp only [Option.map_some,Option.some.injEq]at hq;subst hq;have hcq0:cs0[q]? =some y:=by rw [htk2,List.getElem?_take]at hcq;split at hcq;exact hcq;cases hcq
        obtain ⟨u,k1,k2⟩:=q8 q y hcq0;have hmem2:(ab_ E.sy cs)[q]? =some (den E.sy y):=(by rw [cc_,hcq];rfl);exact ⟨u,k1,bn_ (cT_ hxok _ (List.mem_of_getElem? hmem2)),hme.con0 (at_ (fg_ e5 q y hcq) k2)⟩
    cases ha2
   cases ha2
  cases ha2
 have hinvN:∀id a,au_ rn id=some a->au_ (MR.mk rn ds hv).inv a=some id:=λid a h=>(hN id a (bd_ h)).2.2.1;have hown:∀b i id,own b=some i->au_ (MR.mk rn ds hv).inv i=some id->hF_ ⟨rn,ds,hv⟩ own b=some id:=λb i id h1 h2=>by unfold hF_;rw [h1];exact h2
 refine { len:=by rw [cw_];exact gI_ _ _ _ _ hh,slots:=λtmps hc=>ka_ hme hc tp.slots b3,rows:=λid k hk=>?_,fresh:=λid hid=>?_,vd:=λid hi=>?_,next:=b9,acc:=λd hd=>?_,inj:=λi j a hi hj=>?_,rnA:=λi a h=>(hN i a (bd_ h)).2.2.2,accN:=λd a hd hda hnil=>?_ }
 .rcases gJ_ tp.fix (λa b h=>by obtain ⟨a',_,h1,_⟩:=hfix a b h;exact (hN _ _ (bd_ h1)).2.1) id k hk with ⟨j,hj,rfl⟩|hk
  .obtain ⟨a,k',ha,hk,hj⟩:=hfix id j hj;have hphi:=hphiN id a ha;have hs:∀i',H.get a=some (.syl i')->(∀x,E.sy i'=some x->E'.sy (jB_ n j)=some x)->RowAt E' w (hF_ ⟨rn,ds,hv⟩ own) id (.syl (jB_ n j)):=λi' hk hsj=>(by obtain ⟨hv1,hv2⟩|⟨b,o,e1,e2,len,sz,cs,e3,e4,arr,t,e5,e6,e7,e8⟩:=g1 a _ hk;exact .inl ⟨.inr ⟨a,(hN id a (bd_ ha)).2.2.2,ha,hv1⟩,hsj _ hv2⟩;exact .inr ⟨b,o,hphi.trans e1,hown _ _ _ e2 (hinvN _ _ ha),len,sz,cs,hsj _ e3,e4,arr,t,e5,e6,e7,λi x hi=>by obtain ⟨u,k1,k2,k3⟩:=e8 i x hi;exact ⟨u,k1,k2,hme.con0 k3⟩⟩);cases hj with
   |old hlt=>exact hs _ hk λx hx=>by rw [hme.low _ hlt,hx]
   |sym q i' e hq=>obtain ⟨_,h2,_⟩:=hme.hole _ _ hq;exact hs _ hk λx hx=>by rw [e,h2];simp only [den,hx]
   |cells q len z cs e hq hl hso=>
    obtain ⟨_,h2,_⟩:=hme.hole _ _ hq;have hxok:okL (ab_ E.sy cs)=true:=(by rw [d6_]at hq;have:=cT_ hok _ (List.mem_of_getElem? (fW_ E.sy hv q _ hq));simpa only [den,okC]using this);obtain ⟨_,hv2⟩|⟨b,o,e1,e2,arr,t',q5,q6,q7,q8⟩:=g1 _ _ hk;exact hv2.elim
    .refine .inr ⟨b,o,hphi.trans e1,hown _ _ _ e2 (hinvN _ _ ha),len,z,ab_ E.sy cs,by rw [e,h2];rfl,by rw [cw_];exact hl,arr,t',q5,q6,by rw [cw_];exact q7,λq x hq=>?_⟩;rw [cc_]at hq;cases hcq:cs[q]? with
     |none=>rw [hcq]at hq;cases hq
     |some y=>rw [hcq]at hq;simp only [Option.map_some,Option.some.injEq]at hq;subst hq;obtain ⟨u,k1,k2⟩:=q8 q y hcq;have hmem2:(ab_ E.sy cs)[q]? =some (den E.sy y):=(by rw [cc_,hcq];rfl);exact ⟨u,k1,bn_ (cT_ hxok _ (List.mem_of_getElem? hmem2)),hme.con0 (at_ (fg_ hso q y hcq) k2)⟩
  rcases gL_ tp.maps (λa b h=>by obtain ⟨a',_,h1,_⟩:=hmap a b h;exact (hN _ _ (bd_ h1)).2.1) id k hk with ⟨j,hj,rfl⟩|hk;obtain ⟨a,x,ha,hx',hval⟩:=hmap id j hj;obtain ⟨hs1,hs2,_⟩:=hme.hole _ _ hval;have hphi:=hphiN id a ha;unfold oQ_ at hx';split at hx';rename_i es clock hk;split at hx';rename_i hso;cases hx';obtain ⟨_,hv2⟩|⟨b,o,e1,e2,e0,es',e3,e4⟩:=g1 a _ hk;exact hv2.elim;refine .inr ⟨b,o,hphi.trans e1,hown _ _ _ e2 (hinvN _ _ ha),e0,nI_ es,ab_ E.sy (bz_ es),by rw [hs2];rfl,es',clock,e3,?_,(gt_ hso e4).imp λ_ _ hc=>hme.con0 hc⟩;rw [iI_ e4,Array.length_toList];cases hx';rename_i i hk;cases hx';obtain ⟨_,hv2⟩|⟨b,o,e1,e2,e0,n',cs',f3,es',c0,f4,f5,f6⟩:=g1 a _ hk;exact hv2.elim;exact .inr ⟨b,o,hphi.trans e1,hown _ _ _ e2 (hinvN _ _ ha),e0,n',cs',by rw [hs2];simp only [den,f3],es',c0,f4,f5,f6.imp λ_ _ hc=>hme.con0 hc⟩;cases hx';rcases j9_ hds (λd hd=>(hacc d hd).2.1) id k hk with ⟨hfn,hk⟩|⟨d,hd,rfl⟩
  .obtain ⟨cs,h1,rfl⟩:=gK_ tp.rows (λa b h=>by obtain ⟨a',_,h1,_⟩:=hrow a b h;exact (hN _ _ (bd_ h1)).2.1) id k hk;obtain ⟨a,l,ha,h3,h4⟩:=hrow id cs h1;obtain ⟨_,hv2⟩|⟨b,o,e1,e2,arr,t,e3,e4,e5,e6⟩:=g1 a _ h3;exact hv2.elim;refine .inr ⟨b,o,(hphiN id a ha).trans e1,hown _ _ _ e2 (hinvN _ _ ha),arr,t,e3,e4,?_,λi x hx'=>?_⟩;rw [e9_,←nM_ h4];exact e5
   .have hLen:l.length=cs.length:=nM_ h4;have hL:ConL E l ((arr.toList.drop o).take l.length):=(by refine ConL.of_at ?_ λq y u hq hu=>?_;simp only [List.length_take,List.length_drop,Array.length_toList];omega;obtain ⟨u',f1,f2⟩:=e6 q y hq;rw [List.getElem?_take]at hu;split at hu;rw [List.getElem?_drop,Array.getElem?_toList,f1]at hu;cases hu;exact f2;cases hu);obtain ⟨u,f1,f2⟩:=(iK_ hme h4 hL).at i x hx';refine ⟨u,?_,f2⟩;rw [List.getElem?_take]at f1;split at f1
    .rwa [List.getElem?_drop,Array.getElem?_toList]at f1
    cases f1
  .obtain ⟨hdm,hdi⟩:=bl_ hd;obtain ⟨_,_,hval,hin⟩:=hacc d hdm;obtain ⟨_,hs2,_⟩:=hme.hole _ _ hval;by_cases hnil:den E.sy d.x=.nsl;refine .inl ⟨.inl ⟨d,hd,by rw [hnil];rfl⟩,?_⟩;show E'.sy (n+d.j)=some .nsl;rw [hs2,hnil]
   .obtain ⟨t,a',_,_,_,_,ha2⟩:=fK_ hds d hdm;have hact:∃i,d.act=some i:=by
     cases hact:d.act with
     |some i=>exact ⟨i,rfl⟩
     |none=>
      rw [hact]at ha2;unfold hf_ at ha2;split at ha2;simp only [Option.some.injEq,Prod.mk.injEq]at ha2;exact absurd (by rw [←ha2.1];rfl) hnil;split at ha2;split at ha2;simp at ha2;cases ha2;cases ha2
      .split at ha2
       .split at ha2
        case h_2=>cases ha2
        split at ha2;simp at ha2;cases ha2
       cases ha2
      cases ha2
    obtain ⟨i,hi⟩:=hact;obtain ⟨b,o,q1,q2,q3⟩:=hconC id d i hd hi hnil;exact .inr ⟨b,o,(hme.acc id d i hd hi hnil).trans q1,hown _ _ _ q2 (by rw [hin i hi,hdi]),q3⟩
 .show (match ay_ ds id with
    |some d=>_
    |none=>match au_ rn id with
     |some a=>E.φ a
     |none=>none)=none
  cases hfd:ay_ ds id with
  |some d=>obtain ⟨hdm,hdi⟩:=bl_ hfd;have:=(hacc d hdm).1;omega
  |none=>
   simp only;cases hfn:au_ rn id with
   |none=>rfl
   |some a=>have:=(hN id a (bd_ hfn)).1;omega
 .rcases hi with ⟨d,hd,hdn⟩|⟨a,hfa,ha,hva⟩
  .have hd:ay_ ds id=some d:=hd;obtain ⟨hdm,hdi⟩:=bl_ hd;refine ⟨?_,by rw [←hdi];exact (hacc d hdm).1⟩;show (match ay_ ds id with
    |some d=>match fq_ (den E.sy d.x)with
     |true=>none
     |false=>match d.act with
      |some i=>E.φ i
      |none=>none
    |none=>_)=none
   rw [hd];simp only [hdn]
  exact ⟨(hphiN id a ha).trans (hvd a hva),(hN id a (bd_ ha)).1⟩
 obtain ⟨t,_,h0,h1,h2,_⟩:=fK_ hds d hd;exact ⟨t,h0,h1,h2,(hacc d hd).2.2.1⟩;have key:∀i,(au_ rn i=some a\/∃d,ay_ ds i=some d/\d.act=some a)->au_ (MR.mk rn ds hv).inv a=some i:=λi h=>(by rcases h with h|⟨d,h1,h2⟩;exact hinvN i a h;obtain ⟨hdm,hdi⟩:=bl_ h1;rw [(hacc d hdm).2.2.2 a h2,hdi]);have h1:=key i hi;rw [key j hj]at h1;cases h1;rfl
 .obtain ⟨t,a',_,_,_,_,ha2⟩:=fK_ hds d hd;rw [hda]at ha2;unfold hf_ at ha2;split at ha2;simp at ha2;split at ha2;rename_i k hk;split at ha2;rename_i hbb;simp only [Option.some.injEq,Prod.mk.injEq]at ha2;obtain ⟨hdx,rfl⟩:=ha2;have e1:=Nat.eq_of_beq_eq_true (aa_ hbb).1;subst e1;rcases g1 _ _ hk with ⟨q1,_⟩|⟨b,o,q1,q2,len,sz'',cs,q3,_⟩;exact hvd _ q1;rw [←hdx]at hnil;simp only [den,q3]at hnil;cases hnil;cases ha2;cases ha2
  .split at ha2
   .split at ha2
    case h_2=>cases ha2
    split at ha2;simp only [Option.some.injEq,Prod.mk.injEq]at ha2;rw [←ha2.1]at hnil;cases hnil;cases ha2
   cases ha2
  cases ha2
omit [Gl]in
theorem oO_ {ds:List DA} {rn:List (Nat×Nat)}:∀{k:Nat},sj_ ds rn k=true->∀i,i<k->au_ rn i=some i\/(au_ rn i=none/\∃d,ay_ ds i=some d/\d.act=some i)
 |0,_,i,hi=>absurd hi (Nat.not_lt_zero _)
 |k+1,h,i,hi=>by simp only [sj_]at h;obtain ⟨h1,h2⟩:=aa_ h;rcases Nat.lt_or_ge i k with hlt|hge;exact oO_ h2 i hlt;have:i=k:=(by omega);subst this;split at h1;rename_i a ha;rw [Nat.eq_of_beq_eq_true h1]at ha;exact .inl ha;rename_i hn;split at h1;rename_i d hd;exact .inr ⟨hn,d,hd,dm_ h1⟩;cases h1
omit [Gl]in
theorem q7_ {k:Nat} {hv:List AV}:∀{ts:List TA} {l:List Nat},nnL k hv ts=some l->∀t,t∈ts->t.id<k->(∃i,cz_ t.j hv=some (.sym i)/\i∈l)\/∃n z cs,cz_ t.j hv=some (.vsl n z cs)
 |[],l,h,t,ht,_=>by cases ht
 |q::r,l,h,t,ht,hk=>by unfold nnL at h;split at h;cases h;rename_i l' hl;rcases List.mem_cons.1 ht with rfl|ht;split at h;rename_i hb;have:Nat.blt t.id k=true:=(by simpa [Nat.blt_eq]using hk);rw [this]at hb;cases hb;split at h;rename_i i hi;cases h;exact .inl ⟨i,hi,List.mem_cons_self ..⟩;rename_i a b c hi;exact .inr ⟨a,b,c,hi⟩;cases h;have ih:=q7_ hl t ht hk;split at h;cases h;exact ih;split at h;cases h;exact ih.imp (λ⟨i,h1,h2⟩=>⟨i,h1,List.mem_cons_of_mem _ h2⟩) id;cases h;exact ih;cases h
theorem nO_ {P:Program} {N n lv k:Nat} {tp:Tpl} {S:VS} {mt:MT} {Y0 Y:Sy} (hm:gQ_ n k tp S=some mt) (hf:Fresh Y0 n) (hx:Ext n Y0 Y) (hok:okL (ab_ Y.v mt.hv)=true) (hnn:∀i,i∈mt.nn->(Chk.nn i).ok Y):
  (ab_ Y.v mt.hv).length=tp.nv/\Weak P N k Y S.T S.H S.D (Y0.puts n (ab_ Y.v mt.hv)) (tp.inst n lv).T (tp.inst n lv).H []:=by
 unfold gQ_ at hm;split at hm;cases hm;rename_i b0;split at hm;cases hm;rename_i m hmr;split at hm;cases hm;rename_i hlow;split at hm;cases hm;rename_i nl hnl;cases hm;have hD:=ld_ b0;rw [hD];have hlen:(ab_ Y.v m.hv).length=tp.nv:=by unfold gP_ at hmr;simp only at hmr;split at hmr;cases hmr;split at hmr;cases hmr;split at hmr;cases hmr;rename_i hv hh;split at hmr;cases hmr;rw [cw_];exact gI_ _ _ _ _ hh;cases hmr
 refine ⟨hlen,λB pr E a w hy st=>?_⟩;have hsyE:E.sy=Y.v:=hy.v;obtain ⟨own,g1,g2,g3⟩:=st.r.own;have hc:=iM_ (w:=w) (own:=own) hmr hf (λi hi=>by rw [hsyE];exact hx i hi) (by rw [hsyE];exact hok) g1 (λid h=>(st.r.resv id (st.r.vds id h)).1) E.bim;rw [hsyE]at hc;obtain ⟨p1,p2,p3,p4⟩:=hf.puts (ab_ Y.v m.hv)
 let E':Env:=sm_ m E (Y0.puts n (ab_ Y.v m.hv)) E.bim
 have hphi:∀i x,i<k->E.φ i=some x->E'.φ i=some x:=λi x hi hφ=>by
  rcases oO_ hlow i hi with h|⟨h,d,hd,hda⟩
  .have:=hc.rnA i i h;show (match ay_ m.ds i with
    |some d=>_
    |none=>match au_ m.rn i with
     |some a=>E.φ a
     |none=>none)=_
   rw [this,h];exact hφ
  .obtain ⟨hdm,hdi⟩:=bl_ hd;obtain ⟨t,t1,t2,t3,t4⟩:=hc.acc d hdm;have hne:den E.sy d.x≠ .nsl:=by
    rcases q7_ hnl t t1 (by rw [t2,hdi];exact hi)with ⟨i',q1,q2⟩|⟨a1,a2,a3,q1⟩;rw [t3,t4]at q1;have e:=Option.some.inj q1;obtain ⟨a1,a2,a3,q3⟩:=hnn i' q2;rw [hsyE,e];simp only [den,q3];exact λh=>by cases h
    rw [t3,t4]at q1;have e:=Option.some.inj q1;rw [e];simp only [den];exact λh=>by cases h
   show (match ay_ m.ds i with
    |some d=>match fq_ (den E.sy d.x)with
     |true=>none
     |false=>match d.act with
      |some i=>E.φ i
      |none=>none
    |none=>_)=_
   rw [hd];simp only [ki_ hne,hda];exact hφ
 have hle:E.leF k E':=⟨λi x hi h=>hphi i x hi h,λ_ _ h=>h,λ_ _ _ h=>h,rfl,λi hi=>by show (Y0.puts n (ab_ Y.v m.hv)).v i=E.sy i;rw [hsyE,hx i (by have:=hf.1;omega)];exact p4 i hi⟩;refine ⟨E',hle,⟨rfl,rfl,λ_ h=>h⟩,⟨st.t.size,st.t.le,hc.slots a.tmps st.t.con,st.t.gl.leF hle⟩,?_,st.d⟩;obtain ⟨n1,n2⟩:=Tpl.heap_next tp n;refine { own:=⟨hF_ m own,hc.rows,λb hb=>by unfold hF_;simp only [g2 b hb],λb o v hv=>by unfold hF_;simp only [g3 b o v hv]⟩,imm:=st.r.imm,ib:=st.r.ib,fresh:=λid h1 h2=>hc.fresh id (n1▸h1),resv:=λid hi=>?_,vds:=λ_ h=>h,szs:=st.r.szs,prot:=st.r.prot,size:=st.r.size,os:=st.r.os,output:=st.r.output };obtain ⟨h1,h2⟩:=hc.vd id hi;refine ⟨h1,λhx=>?_⟩;have:(tp.heap n).next<=id:=hx.1
 rw [n1]at this;omega
end Go.Sx
