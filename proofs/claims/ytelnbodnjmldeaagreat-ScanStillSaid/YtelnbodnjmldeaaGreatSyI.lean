/-
  A state is an instance of a template: then it is known by the template.
-/
import Derived.Test.YtelnbodnjmldeaaGreatSyH
set_option linter.unusedVariables false
set_option linter.unusedSimpArgs false
open Nat renaming eq_of_beq_eq_true→za',lt_or_ge→zc',blt_eq→ze',le_refl→zf'
open List renaming mem_cons_of_mem→zb',mem_cons_self→zd'
namespace Go.Sx
theorem ed_:∀(l:List AV) (n:Nat),cs_ n l=l[n]?
 |[],n=>by cases n<;>rfl
 |a::r,0=>rfl
 |a::r,n+1=>by simp [cs_,ed_ r n]
structure MEnv (H:AHeap) (ds:List DA) (rn:List (Nat×Nat)) (hv:List AV) (n:Nat) (E E':Env):Prop where
 phi:∀id a,az_ rn id=some a->E'.φ id=E.φ a
 sz:E'.sz=E.sz
 imm:E'.imm=E.imm
 low:∀i,i<n->E'.sy i=E.sy i
 hole:∀j x,cs_ j hv=some x->ae_ x=true/\E'.sy (n+j)=some (den E.sy x)/\(den E.sy x).one=true
 acc:∀id d i,aE_ ds id=some d->d.act=some i->den E.sy d.x≠ .nsl->E'.φ id=E.φ i
 val:∀id d,aE_ ds id=some d->cs_ d.j hv=some d.x
theorem pB_ {E:Env} {H:AHeap} {sz:Nat} {a x:AV} {act:Option Nat} {v:Value} (h:hj_ H sz a=some (x,act)) (hc:Con E a v):
  (v=.slice none 0 0/\den E.sy x=.nsl)\/∃i len cs,act=some i/\den E.sy x=.vsl len sz cs/\∃b o n c off',E.φ i=some (b,o)/\E.sz b=some n/\v=.slice (some ⟨b,o+off',none⟩) len c/\(c≠0->off'=0)/\len<=c/\o+c*sz<=n:=by
 unfold hj_ at h;split at h;cases h;exact .inl ⟨hc,rfl⟩
 .rename_i id sz' i;split at h
  .split at h
   .rename_i hb;cases h;obtain ⟨e1,e2⟩:=aa_ hb;have e2:=za' e2;subst e2;obtain ⟨a,h1,⟨rfl,h2⟩|⟨len,cs,rfl,h2⟩⟩:=hc
    .grind [den]
    ·
     exact .inr ⟨id,len,cs,rfl,by simp only [den,h1],h2⟩
   cases h
  cases h
 .rename_i id off len sz' cap;split at h
  .split at h
   case h_2=>cases h
   split at h;rename_i hb;cases h;obtain ⟨e1,hb⟩:=aa_ hb;obtain ⟨e2,hb⟩:=aa_ hb;have e1:=za' e1;have e2:=za' e2;subst e1 e2;obtain ⟨b,o,nn,c,off',q1,q2,q3,q4,q5,q6,_⟩:=hc;exact .inr ⟨id,len,_,rfl,by rfl,b,o,nn,c,off',q1,q2,q3,q4,q5,by omega⟩;cases h
  cases h
 cases h
theorem ds_ {a b:Option Nat} (h:jO_ a b=true):a=b:=by
 unfold jO_ at h
 grind [za']
theorem MEnv.con0 {H:AHeap} {ds:List DA} {rn:List (Nat×Nat)} {hv:List AV} {n:Nat} {E E':Env} (h:MEnv H ds rn hv n E E') {a:AV} {v:Value} (hc:Con0 E a v):Con0 E' a v:=b7_ (λ_ _ _ hx=>by rw [h.imm];exact hx) hc
mutual
theorem rj_ {H:AHeap} {ds:List DA} {rn:List (Nat×Nat)} {hv:List AV} {n:Nat} {E E':Env} (h:MEnv H ds rn hv n E E'):∀{t a:AV} {v:Value},mA H ds rn hv n t a=true->Con E a v->Con E' (bE_ n t) v
 | .opq,_,_,_,_=>by simp [bE_,Con]
 | .slx j z q,a,v,hm,hc=>by
   unfold mA at hm;unfold bE_;cases z with
   |zero=>simp only at hm⊢;split at hm;rename_i x hx;have:=aH_ hm;subst this;obtain ⟨h1,h2,h3⟩:=h.hole _ _ hx;exact ⟨_,h2,h3,h.con0 (an_ h1 hc)⟩;cases hm
   |succ z=>
    simp only at hm⊢;split at hm
    .rename_i d hd;split at hm
     .rename_i x act hacc;obtain ⟨e1,hm⟩:=aa_ hm;obtain ⟨e2,hm⟩:=aa_ hm;obtain ⟨e3,e4⟩:=aa_ hm;have e2:=za' e2;have e3:=aH_ e3;have e4:=ds_ e4;have hval:=h.val _ _ hd;obtain ⟨_,h2,_⟩:=h.hole _ _ hval;refine ⟨_,by rw [←e2];exact h2,?_⟩;rcases pB_ hacc hc with ⟨k1,k2⟩|⟨i,len,cs,k1,k2,b,o,nn,c,off',q1,q2,q3,q4,q5,q6⟩
      .grind
      rw [e3];refine .inr ⟨len,cs,k2,b,o,nn,c,off',?_,by rw [h.sz];exact q2,q3,q4,q5,q6⟩;rw [h.acc _ _ _ hd (e4.trans k1) (by grind)];exact q1
     cases hm
    cases hm
 | .sym i,a,v,hm,hc=>by obtain ⟨h1,h2⟩:=aa_ hm;have:=aH_ h2;subst this;have hi:i<n:=(by simp_all);obtain ⟨a,q1,q2,q3⟩:=hc;exact ⟨a,by rw [h.low i hi];exact q1,q2,h.con0 q3⟩
 | .ptr id off,a,v,hm,hc=>by unfold mA at hm;split at hm;obtain ⟨h1,h2⟩:=aa_ hm;have h2:=za' h2;subst h2;simp only [bE_,Con]at hc⊢;rw [h.phi id _ (ds_ h1)];exact hc;cases hm
 | .sl id off len sz cap,a,v,hm,hc=>by
   unfold mA at hm;split at hm
   .obtain ⟨h1,hm⟩:=aa_ hm;obtain ⟨e2,hm⟩:=aa_ hm;obtain ⟨e3,hm⟩:=aa_ hm;obtain ⟨e4,e5⟩:=aa_ hm;have e2:=za' e2;have e3:=za' e3;have e4:=za' e4;simp only [bE_,Con]at hc⊢;rw [h.phi id _ (ds_ h1),h.sz]
    grind
   cases hm
 | .agg ts,a,v,hm,hc=>by unfold mA at hm;split at hm;obtain ⟨vs,rfl,h2⟩:=hc;exact ⟨vs,rfl,iT_ h hm h2⟩;cases hm
 | .tup ts,a,v,hm,hc=>by unfold mA at hm;split at hm;obtain ⟨vs,rfl,h2⟩:=hc;exact ⟨vs,rfl,iT_ h hm h2⟩;cases hm
 | .vptr ts,a,v,hm,hc=>by unfold mA at hm;split at hm;obtain ⟨b,o,vs,h1,h2,h3⟩:=hc;exact ⟨b,o,vs,h1,iT_ h hm h2,λi u hu=>by rw [h.imm];exact h3 i u hu⟩;cases hm
 | .vsl len sz ts,a,v,hm,hc=>by unfold mA at hm;split at hm;obtain ⟨e1,hm1⟩:=aa_ hm;obtain ⟨e2,hm2⟩:=aa_ hm1;have e3:=za' e1;subst e3;obtain ⟨b,o,vs,c,h1,h2,h3,h4⟩:=hc;exact ⟨b,o,vs,c,h1,h2,iT_ h hm2 h3,λi u hu=>by rw [h.imm];exact h4 i u hu⟩;cases hm
 | .fn f ts,a,v,hm,hc=>by unfold mA at hm;split at hm;obtain ⟨e1,hm1⟩:=aa_ hm;have e2:=za' e1;subst e2;simp only [bE_,Con]at hc⊢;obtain ⟨vs,h1,h2⟩:=hc;exact ⟨vs,h1,iT_ h hm1 h2⟩;cases hm
 | .iface t x,a,v,hm,hc=>by unfold mA at hm;split at hm;obtain ⟨e1,hm1⟩:=aa_ hm;have e2:=za' e1;subst e2;simp only [bE_,Con]at hc⊢;obtain ⟨u,h1,h2⟩:=hc;exact ⟨u,h1,rj_ h hm1 h2⟩;cases hm
 | .ptx id i sz _,a,v,hm,hc=>by unfold mA at hm;split at hm;obtain ⟨h1,hm⟩:=aa_ hm;obtain ⟨e1,hm⟩:=aa_ hm;obtain ⟨e2,e3⟩:=aa_ hm;have e1:=za' e1;have e2:=za' e2;subst e1 e2;have hi:i<n:=(by simp_all);simp only [bE_,Con]at hc⊢;rw [h.phi id _ (ds_ h1),h.sz,h.low i hi];exact hc;cases hm
 | .map id,a,v,hm,hc=>by unfold mA at hm;split at hm;simp only [bE_,Con]at hc⊢;rw [h.phi id _ (ds_ hm)];exact hc;cases hm
 | .bool b,a,v,hm,hc=>by
   grind [aH_,mA,bE_,Con]
 | .int k b,a,v,hm,hc=>by
   grind [aH_,mA,bE_,Con]
 | .flt k b,a,v,hm,hc=>by
   grind [aH_,mA,bE_,Con]
 | .nan k,a,v,hm,hc=>by
   grind [aH_,mA,bE_,Con]
 | .str s,a,v,hm,hc=>by
   grind [aH_,mA,bE_,Con]
 | .nptr,a,v,hm,hc=>by
   grind [aH_,mA,bE_,Con]
 | .nsl,a,v,hm,hc=>by
   grind [aH_,mA,bE_,Con]
 | .nmap,a,v,hm,hc=>by
   grind [aH_,mA,bE_,Con]
 | .nfn,a,v,hm,hc=>by
   grind [aH_,mA,bE_,Con]
 | .nif,a,v,hm,hc=>by
   grind [aH_,mA,bE_,Con]
theorem iT_ {H:AHeap} {ds:List DA} {rn:List (Nat×Nat)} {hv:List AV} {n:Nat} {E E':Env} (h:MEnv H ds rn hv n E E'):∀{ts as:List AV} {vs:List Value},mL H ds rn hv n ts as=true->ConL E as vs->ConL E' (bs_ n ts) vs
 |[],[],vs,hm,hc=>by grind [bs_,ConL]
 |t::ts,a::r,vs,hm,hc=>by obtain ⟨h1,h2⟩:=aa_ hm;simp only [ConL]at hc;simp only [bs_,ConL];obtain ⟨v,q,e,c1,c2⟩:=hc;exact ⟨v,q,e,rj_ h h1 c1,iT_ h h2 c2⟩
 |[],_::_,_,hm,_=>by simp [mL]at hm
 |_::_,[],_,hm,_=>by simp [mL]at hm
end
theorem kk_ {H:AHeap} {ds:List DA} {rn:List (Nat×Nat)} {hv:List AV} {n:Nat} {E E':Env} (h:MEnv H ds rn hv n E E') {T:Tm} {tmps:Array Value} (hc:∀t,t<512->Con E (tget T t) (tmps.getD t undef)):
  ∀(slots:List (Nat×AV)),mT H ds rn hv n T slots=true->∀t,t<512->Con E' (tget (cH_ n slots) t) (tmps.getD t undef)
 |[],_,t,ht=>by show Con E' (tget topq t) _;rw [b4_];simp [Con]
 |(s,a)::r,hm,t,ht=>by obtain ⟨h1,hm⟩:=aa_ hm;obtain ⟨h2,hm⟩:=aa_ hm;have h1:s<512:=(by simpa [Nat.blt_eq]using h1);show Con E' (tget (dB_ (cH_ n r) s (bE_ n a)) t) _;by_cases e:s=t;subst e;rw [aq_ _ ht];exact rj_ h h2 (hc s ht);rw [ao_ _ ht h1 e];exact kk_ h hc r hm t ht
theorem gV_ {n next:Nat}:∀(rows:List (Nat×List AV)),(∀id cs,(id,cs)∈rows->id<top)->∀id k,(iI_ n next rows).get id=some k->∃cs,(id,cs)∈rows/\k=.cells (bs_ n cs)
 |[],_,id,k,h=>by
  grind [dQ_,iI_]
 |(i,c)::r,hlt,id,k,h=>by
  have h:((iI_ n next r).set i (.cells (bs_ n c))).get id=some k:=h;have hi:=hlt i c (zd' ..);by_cases e:i=id
  .subst e;rw [AHeap.get_set_same _ hi]at h
   grind
  rw [AHeap.get_set_ne _ hi e]at h;obtain ⟨cs,h1,h2⟩:=gV_ r (λa b h=>hlt a b (zb' _ h)) id k h;exact ⟨cs,zb' _ h1,h2⟩
theorem iJ_ {n next:Nat}:∀rows,(iI_ n next rows).next=next/\(iI_ n next rows).hi=top
 |[]=>⟨rfl,rfl⟩
 |(i,c)::r=>iJ_ r
theorem bf_:∀{l:List (Nat×Nat)} {i a:Nat},az_ l i=some a->(i,a)∈l
 |[],i,a,h=>by cases h
 |(j,t)::r,i,a,h=>by unfold az_ at h;split at h;rename_i hb;cases h;rw [Nat.eq_of_beq_eq_true hb];exact zd' ..;exact zb' _ (bf_ h)
theorem tN_ {ds:List DA} {inv:List (Nat×Nat)} {next:Nat}:∀{rn:List (Nat×Nat)},mN ds inv next rn=true->∀id a,(id,a)∈rn->id<next/\id<top/\az_ inv a=some id/\aE_ ds id=none
 |[],_,id,a,h=>by cases h
 |(i,q)::r,hm,id,a,h=>by obtain ⟨h1,hm⟩:=aa_ hm;obtain ⟨h2,hm⟩:=aa_ hm;obtain ⟨h3,hm⟩:=aa_ hm;obtain ⟨h4,hm⟩:=aa_ hm;rcases List.mem_cons.1 h with h|h;cases h;exact ⟨by simp_all,by simp_all,ds_ h3,by simpa using h4⟩;exact tN_ hm id a h
theorem tL_ {ds:List DA} {rn:List (Nat×Nat)} {hv:List AV} {n:Nat} {H:AHeap}:∀(rows:List (Nat×List AV)),mH ds rn hv n H rows=true->∀id cs,(id,cs)∈rows->∃a l,az_ rn id=some a/\H.get a=some (.cells l)/\mL H ds rn hv n cs l=true
 |[],_,id,cs,h=>by cases h
 |(i,c)::r,hm,id,cs,h=>by obtain ⟨h1,hm⟩:=aa_ hm;rcases List.mem_cons.1 h with h|h;cases h;split at h1;rename_i a ha;split at h1;rename_i l hl;exact ⟨a,l,ha,hl,h1⟩;cases h1;cases h1;exact tL_ r hm id cs h
theorem tJ_ {inv:List (Nat×Nat)} {hv:List AV} {next:Nat}:∀{ds:List DA},mD inv hv next ds=true->∀d,d∈ds->d.id<next/\d.id<top/\cs_ d.j hv=some d.x/\∀i,d.act=some i->az_ inv i=some d.id
 |[],_,d,h=>by cases h
 |q::r,hm,d,h=>by
  obtain ⟨h1,hm⟩:=aa_ hm;obtain ⟨h2,hm⟩:=aa_ hm;obtain ⟨h3,hm⟩:=aa_ hm;obtain ⟨h4,hm⟩:=aa_ hm;rcases List.mem_cons.1 h with rfl|h
  .grind [ze',aH_,ds_]
  exact tJ_ hm d h
theorem tM_ {rn:List (Nat×Nat)} {hv:List AV} {H:AHeap}:∀(ms:List (Nat×Nat)),mM rn hv H ms=true->∀id j,(id,j)∈ms->∃a x,az_ rn id=some a/\o1_ H a=some x/\cs_ j hv=some x
 |[],_,id,j,h=>by cases h
 |(i,q)::r,hm,id,j,h=>by obtain ⟨h1,hm⟩:=aa_ hm;rcases List.mem_cons.1 h with h|h;cases h;split at h1;rename_i a ha;split at h1;rename_i x hx;split at h1;rename_i y hy;exact ⟨a,x,ha,hx,by rw [hy,aH_ h1]⟩;cases h1;cases h1;cases h1;exact tM_ r hm id j h
theorem rZ_ (n:Nat) {i:Nat} (h:Nat.blt i lS_=true):jP_ n i=i:=by unfold jP_;rw [h]
theorem kF_ (n:Nat) {i:Nat} (h:Nat.blt i lS_=false):jP_ n i=n+hy_ i:=by
 grind [jP_]
inductive FixAt (hv:List AV) (n s:Nat):ABlk->Prop where
 |old (h:s<n):FixAt hv n s (.syl s)
 |sym (j i:Nat) (h:s=n+j) (hj:cs_ j hv=some (.sym i)):FixAt hv n s (.syl i)
 |cells (j len z:Nat) (cs:List AV) (h:s=n+j) (hj:cs_ j hv=some (.vsl len z cs)) (hl:cs.length=len*z) (hs:ad_ cs=true):FixAt hv n s (.cells cs)
theorem tK_ {rn:List (Nat×Nat)} {hv:List AV} {n:Nat} {H:AHeap}:∀(ms:List (Nat×Nat)),mF rn hv n H ms=true->∀id i,(id,i)∈ms->∃a k,az_ rn id=some a/\H.get a=some k/\FixAt hv n (jP_ n i) k
 |[],_,id,j,h=>by cases h
 |(i,q)::r,hm,id,j,h=>by obtain ⟨h1,hm⟩:=aa_ hm;rcases List.mem_cons.1 h with h|h;cases h;split at h1;rename_i a ha;split at h1;rename_i x hx;split at h1;rename_i hb;obtain ⟨h0,h1⟩:=aa_ h1;have h1:=za' h1;have h0:q<n:=(by simp_all);refine ⟨a,_,ha,hx,?_⟩;rw [rZ_ n hb,h1];exact .old (by omega);rename_i hb;split at h1;rename_i y hy;have:=aH_ h1;subst this;exact ⟨a,_,ha,hx,.sym (hy_ q) x (kF_ n hb) hy⟩;cases h1;rename_i cs hx;split at h1;cases h1;rename_i hb;split at h1;rename_i y hy;unfold oS_ at h1;split at h1;rename_i len z cs';obtain ⟨e1,h1⟩:=aa_ h1;obtain ⟨e2,h1⟩:=aa_ h1;obtain ⟨e3,_⟩:=aa_ h1;have:=bn_ e1;subst this;have e2:=za' e2;rw [ah_]at e2;exact ⟨a,_,ha,hx,.cells (hy_ q) len z _ (kF_ n hb) hy e2 e3⟩;cases h1;cases h1;cases h1;cases h1;exact tK_ r hm id j h
theorem bm_:∀{ds:List DA} {id:Nat} {d:DA},aE_ ds id=some d->d∈ds/\d.id=id
 |[],id,d,h=>by cases h
 |q::r,id,d,h=>by unfold aE_ at h;split at h;rename_i hb;cases h;exact ⟨zd' ..,za' hb⟩;obtain ⟨h1,h2⟩:=bm_ h;exact ⟨zb' _ h1,h2⟩
theorem fY_ {T:Tm} {H:AHeap} {rn:List (Nat×Nat)}:∀{ts:List TA} {ds:List DA},pA_ T H rn ts=some ds->∀d,d∈ds->∃t a,t∈ts/\t.id=d.id/\t.j=d.j/\ko_ T H rn t=some a/\hj_ H d.sz a=some (d.x,d.act)
 |[],ds,h,d,hd=>by cases h;cases hd
 |t::r,ds,h,d,hd=>by
  unfold pA_ at h;split at h
  .rename_i a ha;split at h
   .rename_i x act hx;split at h
    .rename_i l hl;cases h;rcases List.mem_cons.1 hd with rfl|hd
     .grind
     obtain ⟨t',a',h0,h1⟩:=fY_ hl d hd;exact ⟨t',a',zb' _ h0,h1⟩
    cases h
   cases h
  cases h
theorem kj_ {n:Nat} {T:Tm} {H H0:AHeap} {rn:List (Nat×Nat)}:∀{ts:List TA} {ds:List DA},pA_ T H rn ts=some ds->(∀d,d∈ds->d.id<top)->∀id k,(hz_ n H0 ts).get id=some k->(aE_ ds id=none/\H0.get id=some k)\/∃d,aE_ ds id=some d/\k=.syl (n+d.j)
 |[],ds,h,hlt,id,k,hk=>by cases h;exact .inl ⟨rfl,hk⟩
 |t::r,ds,h,hlt,id,k,hk=>by
  unfold pA_ at h;split at h
  .split at h
   .rename_i x act hx;split at h
    .rename_i l hl;cases h;have ht:t.id<top:=hlt _ (zd' ..);unfold hz_ at hk;by_cases e:t.id=id;subst e;rw [AHeap.get_set_same _ ht]at hk;cases hk;exact .inr ⟨⟨t.id,t.sz,t.j,x,act⟩,by simp [aE_],rfl⟩
     .rw [AHeap.get_set_ne _ ht e]at hk;have hb:Nat.beq t.id id=false:=by
       cases hb:Nat.beq t.id id with
       |true=>exact absurd (za' hb) e
       |false=>rfl
      have:=kj_ hl (λd hd=>hlt d (zb' _ hd)) id k hk;unfold aE_;simp only [hb];exact this
    cases h
   cases h
  cases h
theorem iM_ {n:Nat} {H0:AHeap}:∀ts:List TA,(hz_ n H0 ts).next=H0.next/\(hz_ n H0 ts).hi=H0.hi
 |[]=>⟨rfl,rfl⟩
 |t::r=>iM_ r
theorem gW_ {n:Nat} {H0:AHeap}:∀(ms:List (Nat×Nat)),(∀id j,(id,j)∈ms->id<top)->∀id k,(ki_ n H0 ms).get id=some k->(∃j,(id,j)∈ms/\k=.mpl (n+j))\/H0.get id=some k
 |[],_,id,k,h=>.inr h
 |(i,q)::r,hlt,id,k,h=>by
  have h:((ki_ n H0 r).set i (.mpl (Nat.add n q))).get id=some k:=h;have hi:=hlt i q (zd' ..);by_cases e:i=id
  .subst e;rw [AHeap.get_set_same _ hi]at h
   grind
  rw [AHeap.get_set_ne _ hi e]at h;rcases gW_ r (λa b h=>hlt a b (zb' _ h)) id k h with ⟨j,h1,h2⟩|h;exact .inl ⟨j,zb' _ h1,h2⟩;exact .inr h
theorem iK_ {n:Nat} {H0:AHeap}:∀ms:List (Nat×Nat),(ki_ n H0 ms).next=H0.next/\(ki_ n H0 ms).hi=H0.hi
 |[]=>⟨rfl,rfl⟩
 |(i,q)::r=>iK_ r
theorem gU_ {n:Nat} {H0:AHeap}:∀(ms:List (Nat×Nat)),(∀id j,(id,j)∈ms->id<top)->∀id k,(kh_ n H0 ms).get id=some k->(∃j,(id,j)∈ms/\k=.syl (jP_ n j))\/H0.get id=some k
 |[],_,id,k,h=>.inr h
 |(i,q)::r,hlt,id,k,h=>by
  have h:((kh_ n H0 r).set i (.syl (jP_ n q))).get id=some k:=h;have hi:=hlt i q (zd' ..);by_cases e:i=id
  .subst e;rw [AHeap.get_set_same _ hi]at h
   grind
  rw [AHeap.get_set_ne _ hi e]at h;rcases gU_ r (λa b h=>hlt a b (zb' _ h)) id k h with ⟨j,h1,h2⟩|h;exact .inl ⟨j,zb' _ h1,h2⟩;exact .inr h
theorem iH_ {n:Nat} {H0:AHeap}:∀ms:List (Nat×Nat),(kh_ n H0 ms).next=H0.next/\(kh_ n H0 ms).hi=H0.hi
 |[]=>⟨rfl,rfl⟩
 |(i,q)::r=>iH_ r
theorem Tpl.heap_next (tp:Tpl) (n:Nat):(tp.heap n).next=tp.next/\(tp.heap n).hi=top:=by unfold Tpl.heap;simp [iH_,iK_,iM_,iJ_]
theorem rk_ {H:AHeap} {ds:List DA} {rn:List (Nat×Nat)} {hv:List AV} {n:Nat}:∀{ts as:List AV},mL H ds rn hv n ts as=true->as.length=ts.length
 |[],[],_=>rfl
 |t::ts,a::r,h=>by simp [rk_ (aa_ h).2]
 |[],_::_,h=>by simp [mL]at h
 |_::_,[],h=>by simp [mL]at h
theorem fg_ (n:Nat):∀l:List AV,(bs_ n l).length=l.length
 |[]=>rfl
 |a::r=>by simp [bs_,fg_ n r]
theorem cA_ (s:Nat->Option AV):∀l:List AV,(ab_ s l).length=l.length
 |[]=>rfl
 |a::r=>by simp [ab_,cA_ s r]
theorem f8_ (s:Nat->Option AV):∀(l:List AV) (i:Nat) (a:AV),l[i]? =some a->(ab_ s l)[i]? =some (den s a)
 |[],i,a,h=>by simp at h
 |b::r,0,a,h=>by grind [ab_]
 |b::r,i+1,a,h=>by simpa [ab_]using f8_ s r i a (by simpa using h)
theorem fp_:∀{l:List AV},ad_ l=true->∀(i:Nat) (a:AV),l[i]? =some a->ae_ a=true
 |[],_,i,a,h=>by simp at h
 |b::r,hs,i,a,h=>by
  simp only [ad_]at hs;cases hb:ae_ b with
  |true=>
   rw [hb]at hs;cases i with
   |zero=>simp at h;subst h;exact hb
   |succ i=>exact fp_ hs i a (by simpa using h)
  |false=>rw [hb]at hs;cases hs
theorem gT_:∀(acc:List (Nat×AV)) (j m:Nat) (l:List AV),oQ_ acc j m=some l->l.length=m
 |acc,j,0,l,h=>by cases h;rfl
 |acc,j,m+1,l,h=>by unfold oQ_ at h;split at h;split at h;rename_i l' hl;cases h;simp [gT_ acc _ m _ hl];cases h;cases h
def Ext (n:Nat) (Y Y':Sy):Prop:=∀i,i<n->Y'.v i=Y.v i
theorem Ext.refl (n:Nat) (Y:Sy):Ext n Y Y:=λ_ _=>rfl
theorem Ext.trans {n m:Nat} {Y Y' Y'':Sy} (h:Ext n Y Y') (h':Ext m Y' Y'') (hn:n<=m):Ext n Y Y'':=λi hi=>(h' i (by omega)).trans (h i hi)
theorem Ext.puts:∀{Y:Sy} {n:Nat} (l:List AV) (m:Nat),m<=n->Ext m Y (Y.puts n l)
 |Y,n,[],m,h=>λ_ _=>rfl
 |Y,n,a::r,m,h=>λi hi=>by have:=Ext.puts (Y:=Y.put n a) (n:=n+1) r m (by omega) i hi;exact this.trans (Sy.put_ne _ _ (by omega))
theorem Ext.put {Y:Sy} {n:Nat} (a:AV) {m:Nat} (h:m<=n):Ext m Y (Y.put n a):=λi hi=>Sy.put_ne _ _ (by omega)
variable [Gl]
def fA_:AV->Bool
 | .nsl=>true
 |_=>false
omit [Gl]in
theorem lk_ {D:Dfs} (h:noD D=true):D=[]:=by
 cases D with
 |nil=>rfl
 |cons _ _=>cases h
def sP_ (m:MR) (E:Env) (Y:Sy) (bim:Nat->Nat->Option Value):Env where
 φ id:=match aE_ m.ds id with
   |some d=>match fA_ (den E.sy d.x)with
    |true=>none
    |false=>match d.act with
     |some i=>E.φ i
     |none=>none
   |none=>match az_ m.rn id with
    |some a=>E.φ a
    |none=>none
 sz:=E.sz
 imm:=E.imm
 res id:=(∃d,aE_ m.ds id=some d/\fA_ (den E.sy d.x)=true)\/∃a,aE_ m.ds id=none/\az_ m.rn id=some a/\E.vd a
 bim:=bim
 sy:=Y.v
 syl:=Y.l
 vd id:=(∃d,aE_ m.ds id=some d/\fA_ (den E.sy d.x)=true)\/∃a,aE_ m.ds id=none/\az_ m.rn id=some a/\E.vd a
def hN_ (m:MR) (own:Nat->Option Nat):Nat->Option Nat:=λb=>match own b with
 |some i=>az_ m.inv i
 |none=>none
omit [Gl]in
theorem ks_ {x:AV} (hx:x≠ .nsl):fA_ x=false:=by cases x<;>first|rfl|exact absurd rfl hx
structure MCore (n:Nat) (tp:Tpl) (T:Tm) (E E':Env) (own:Nat->Option Nat) (w:World) (m:MR):Prop where
 len:(ab_ E.sy m.hv).length=tp.nv
 slots:∀tmps:Array Value,(∀t,t<512->Con E (tget T t) (tmps.getD t undef))->∀t,t<512->Con E' (tget (cH_ n tp.slots) t) (tmps.getD t undef)
 rows:∀id k,(tp.heap n).get id=some k->RowAt E' w (hN_ m own) id k
 fresh:∀id,tp.next<=id->E'.φ id=none
 vd:∀id,E'.vd id->E'.φ id=none/\id<tp.next
 next:tp.next<=top
 acc:∀d,d∈m.ds->∃t,t∈tp.acc/\t.id=d.id/\t.j=d.j/\cs_ d.j m.hv=some d.x
 inj:∀i j a,(az_ m.rn i=some a\/∃d,aE_ m.ds i=some d/\d.act=some a)->(az_ m.rn j=some a\/∃d,aE_ m.ds j=some d/\d.act=some a)->i=j
 rnA:∀i a,az_ m.rn i=some a->aE_ m.ds i=none
 accN:∀d a,d∈m.ds->d.act=some a->fA_ (den E.sy d.x)=true->E.φ a=none
omit [Gl]in
theorem iU_ {n:Nat} {tp:Tpl} {T:Tm} {H:AHeap} {m:MR} {Y0:Sy} {E:Env} {w:World} {own:Nat->Option Nat} (hm:g1_ n tp T H=some m) (hf:Fresh Y0 n) (hx:∀i,i<n->E.sy i=Y0.v i) (hok:okL (ab_ E.sy m.hv)=true)
  (g1:∀id k,H.get id=some k->RowAt E w own id k) (hvd:∀id,E.vd id->E.φ id=none) (bim:Nat->Nat->Option Value):MCore n tp T E (sP_ m E (Y0.puts n (ab_ E.sy m.hv)) bim) own w m:=by
 unfold g1_ at hm;simp only at hm;split at hm;cases hm;rename_i ds hds;split at hm;cases hm;rename_i msl hms;split at hm;cases hm;rename_i hv hh;split at hm
 case h_2=>cases hm
 rename_i hb;cases hm;generalize hrn:um_ tp T H=rn at*;obtain ⟨b1,hb⟩:=aa_ hb;obtain ⟨b2,hb⟩:=aa_ hb;obtain ⟨b3,hb⟩:=aa_ hb;obtain ⟨b4,hb⟩:=aa_ hb;obtain ⟨b5,hb⟩:=aa_ hb;obtain ⟨b6,hb⟩:=aa_ hb;obtain ⟨b7,hb⟩:=aa_ hb;obtain ⟨b8,b9⟩:=aa_ hb;have hN:=tN_ b4;have hmap:=tM_ tp.maps b7;have hrow:=tL_ tp.rows b5;have hacc:=tJ_ b6;have hfix:=tK_ tp.fix b8;have b9:=Nat.le_of_ble_eq_true b9
 let Y':=Y0.puts n (ab_ E.sy hv)
 let E':Env:=sP_ ⟨rn,ds,hv⟩ E Y' bim
 have hphiN:∀id a,az_ rn id=some a->E'.φ id=E.φ a:=λid a h=>by
  show (match aE_ ds id with
   |some d=>_
   |none=>match az_ rn id with
    |some a=>E.φ a
    |none=>none)=_
  rw [(hN id a (bf_ h)).2.2.2,h]
 have hme:MEnv H ds rn hv n E E':={
  phi:=hphiN
  sz:=rfl
  imm:=rfl
  low:=λi hi=>by rw [hx i hi];exact Ext.puts (ab_ E.sy hv) n (zf' n) i hi
  hole:=λj x hj=>by rw [ed_]at hj;have h1:=fp_ b1 j x hj;have h2:=f8_ E.sy hv j x hj;exact ⟨h1,bF_ (ab_ E.sy hv) hf j _ h2,bo_ (cS_ hok _ (List.mem_of_getElem? h2))⟩
  acc:=λid d i h1 h2 h3=>by
   show (match aE_ ds id with
    |some d=>match fA_ (den E.sy d.x)with
     |true=>none
     |false=>match d.act with
      |some i=>E.φ i
      |none=>none
    |none=>_)=_
   grind [ks_]
  val:=λid d h=>(hacc d (bm_ h).1).2.2.1 }
 have hconC:∀id d i,aE_ ds id=some d->d.act=some i->den E.sy d.x≠ .nsl->∃b o,E.φ i=some (b,o)/\own b=some i/\BlkAt E' w b o (.syl (n+d.j)):=by
  intro id d i h1 h2 h3;have hdm:=(bm_ h1).1;obtain ⟨_,_,hval,_⟩:=hacc d hdm;obtain ⟨hs1,hs2,hs3⟩:=hme.hole _ _ hval;obtain ⟨t,a',_,_,_,_,ha2⟩:=fY_ hds d hdm;have hxok:okC (den E.sy d.x)=true:=by rw [ed_]at hval;exact cS_ hok _ (List.mem_of_getElem? (f8_ E.sy hv d.j d.x hval))
  rw [h2]at ha2;unfold hj_ at ha2;split at ha2;simp at ha2
  .split at ha2
   .rename_i k hk;split at ha2
    .rename_i hbb;simp only [Option.some.injEq,Prod.mk.injEq]at ha2;obtain ⟨hdx,rfl⟩:=ha2;obtain ⟨e1,e2⟩:=aa_ hbb;have e1:=za' e1;subst e1;obtain ⟨_,hv2⟩|⟨b,o,q1,q2,len,sz'',cs,q3,q4,arr,t',q5,q6,q7,q8⟩:=g1 _ _ hk
     .have hv2:E.sy k=some .nsl:=hv2
      grind [den]
     .refine ⟨b,o,q1,q2,len,sz'',cs,?_,q4,arr,t',q5,q6,q7,λq x hq=>?_⟩
      .grind [den]
      obtain ⟨u,k1,k2,k3⟩:=q8 q x hq;exact ⟨u,k1,k2,hme.con0 k3⟩
    cases ha2
   cases ha2
  .rename_i id' off len sz' cap _;split at ha2
   .rename_i cs0 hk;split at ha2
    case h_2=>cases ha2
    rename_i cs htk;have htk2:=(bN_ htk).1;split at ha2
    .rename_i hbb;simp only [Option.some.injEq,Prod.mk.injEq]at ha2;obtain ⟨hdx,rfl⟩:=ha2;obtain ⟨e1,hbb⟩:=aa_ hbb;obtain ⟨e2,hbb⟩:=aa_ hbb;obtain ⟨e3,hbb⟩:=aa_ hbb;obtain ⟨e4,hbb⟩:=aa_ hbb;obtain ⟨e5,e6⟩:=aa_ hbb;have e4:=za' e4;rw [ah_]at e4;obtain ⟨_,hv2⟩|⟨b,o,q1,q2,arr,t',q5,q6,q7,q8⟩:=g1 _ _ hk;exact hv2.elim
     .rw [←hdx]at hxok
      refine ⟨b,o,q1,q2,len,d.sz,ab_ E.sy cs,?_,by rw [cA_];exact e4,arr,t',q5,q6,by
       rw [cA_,htk2,List.length_take];omega,λq x hq=>?_⟩
      rw [hs2,←hdx];rfl
      .rw [cz_]at hq;cases hcq:cs[q]? with
       |none=>grind
       |some y=>
        rw [hcq]at hq;simp only [Option.map_some,Option.some.injEq]at hq;subst hq;have hcq0:cs0[q]? =some y:=by
         grind
        obtain ⟨u,k1,k2⟩:=q8 q y hcq0;have hmem2:(ab_ E.sy cs)[q]? =some (den E.sy y):=(by rw [cz_,hcq];rfl);exact ⟨u,k1,bo_ (cS_ hxok _ (List.mem_of_getElem? hmem2)),hme.con0 (an_ (fp_ e5 q y hcq) k2)⟩
    cases ha2
   cases ha2
  cases ha2
 have hinvN:∀id a,az_ rn id=some a->az_ (MR.mk rn ds hv).inv a=some id:=λid a h=>(hN id a (bf_ h)).2.2.1;have hown:∀b i id,own b=some i->az_ (MR.mk rn ds hv).inv i=some id->hN_ ⟨rn,ds,hv⟩ own b=some id:=λb i id h1 h2=>by
  grind [hN_]
 refine { len:=by grind [cA_,gT_],slots:=λtmps hc=>kk_ hme hc tp.slots b3,rows:=λid k hk=>?_,fresh:=λid hid=>?_,vd:=λid hi=>?_,next:=b9,acc:=λd hd=>?_,inj:=λi j a hi hj=>?_,rnA:=λi a h=>(hN i a (bf_ h)).2.2.2,accN:=λd a hd hda hnil=>?_ }
 .rcases gU_ tp.fix (λa b h=>by grind [bf_]) id k hk with ⟨j,hj,rfl⟩|hk
  .obtain ⟨a,k',ha,hk,hj⟩:=hfix id j hj;have hphi:=hphiN id a ha;have hs:∀i',H.get a=some (.syl i')->(∀x,E.sy i'=some x->E'.sy (jP_ n j)=some x)->RowAt E' w (hN_ ⟨rn,ds,hv⟩ own) id (.syl (jP_ n j)):=λi' hk hsj=>(by obtain ⟨hv1,hv2⟩|⟨b,o,e1,e2,len,sz,cs,e3,e4,arr,t,e5,e6,e7,e8⟩:=g1 a _ hk;exact .inl ⟨.inr ⟨a,(hN id a (bf_ ha)).2.2.2,ha,hv1⟩,hsj _ hv2⟩;exact .inr ⟨b,o,hphi.trans e1,hown _ _ _ e2 (hinvN _ _ ha),len,sz,cs,hsj _ e3,e4,arr,t,e5,e6,e7,λi x hi=>by obtain ⟨u,k1,k2,k3⟩:=e8 i x hi;exact ⟨u,k1,k2,hme.con0 k3⟩⟩);cases hj with
   |old hlt=>exact hs _ hk λx hx=>by rw [hme.low _ hlt,hx]
   |sym q i' e hq=>
    obtain ⟨_,h2,_⟩:=hme.hole _ _ hq
    grind [den]
   |cells q len z cs e hq hl hso=>
    obtain ⟨_,h2,_⟩:=hme.hole _ _ hq;have hxok:okL (ab_ E.sy cs)=true:=by
     rw [ed_]at hq;have:=cS_ hok _ (List.mem_of_getElem? (f8_ E.sy hv q _ hq))
     grind [den,okC]
    obtain ⟨_,hv2⟩|⟨b,o,e1,e2,arr,t',q5,q6,q7,q8⟩:=g1 _ _ hk;exact hv2.elim
    .refine .inr ⟨b,o,hphi.trans e1,hown _ _ _ e2 (hinvN _ _ ha),len,z,ab_ E.sy cs,by rw [e,h2];rfl,by rw [cA_];exact hl,arr,t',q5,q6,by rw [cA_];exact q7,λq x hq=>?_⟩;rw [cz_]at hq;cases hcq:cs[q]? with
     |none=>grind
     |some y=>rw [hcq]at hq;simp only [Option.map_some,Option.some.injEq]at hq;subst hq;obtain ⟨u,k1,k2⟩:=q8 q y hcq;have hmem2:(ab_ E.sy cs)[q]? =some (den E.sy y):=(by rw [cz_,hcq];rfl);exact ⟨u,k1,bo_ (cS_ hxok _ (List.mem_of_getElem? hmem2)),hme.con0 (an_ (fp_ hso q y hcq) k2)⟩
  rcases gW_ tp.maps (λa b h=>by grind [bf_]) id k hk with ⟨j,hj,rfl⟩|hk;obtain ⟨a,x,ha,hx',hval⟩:=hmap id j hj;obtain ⟨hs1,hs2,_⟩:=hme.hole _ _ hval;have hphi:=hphiN id a ha;unfold o1_ at hx';split at hx';rename_i es clock hk;split at hx';rename_i hso;cases hx';obtain ⟨_,hv2⟩|⟨b,o,e1,e2,e0,es',e3,e4⟩:=g1 a _ hk;exact hv2.elim;refine .inr ⟨b,o,hphi.trans e1,hown _ _ _ e2 (hinvN _ _ ha),e0,mw_ es,ab_ E.sy (aL_ es),by rw [hs2];rfl,es',clock,e3,?_,(gG_ (aa_ hso).1 (aa_ hso).2 e4).imp λ_ _ hc=>hme.con0 hc⟩;rw [iQ_ e4,Array.length_toList];cases hx';rename_i i hk;cases hx';obtain ⟨_,hv2⟩|⟨b,o,e1,e2,e0,n',cs',f3,es',c0,f4,f5,f6⟩:=g1 a _ hk;exact hv2.elim;exact .inr ⟨b,o,hphi.trans e1,hown _ _ _ e2 (hinvN _ _ ha),e0,n',cs',by grind [den],es',c0,f4,f5,f6.imp λ_ _ hc=>hme.con0 hc⟩;cases hx';rcases kj_ hds (λd hd=>(hacc d hd).2.1) id k hk with ⟨hfn,hk⟩|⟨d,hd,rfl⟩
  .obtain ⟨cs,h1,rfl⟩:=gV_ tp.rows (λa b h=>by grind [bf_]) id k hk;obtain ⟨a,l,ha,h3,h4⟩:=hrow id cs h1;obtain ⟨_,hv2⟩|⟨b,o,e1,e2,arr,t,e3,e4,e5,e6⟩:=g1 a _ h3;exact hv2.elim;refine .inr ⟨b,o,(hphiN id a ha).trans e1,hown _ _ _ e2 (hinvN _ _ ha),arr,t,e3,e4,?_,λi x hx'=>?_⟩
   .grind [fg_,rk_]
   .have hL:ConL E l ((arr.toList.drop o).take l.length):=by
      grind [ConL.of_at]
    obtain ⟨u,f1,f2⟩:=(iT_ hme h4 hL).at i x hx'
    grind
  .obtain ⟨hdm,hdi⟩:=bm_ hd;obtain ⟨_,_,hval,hin⟩:=hacc d hdm;obtain ⟨_,hs2,_⟩:=hme.hole _ _ hval;by_cases hnil:den E.sy d.x=.nsl
   .refine .inl ⟨.inl ⟨d,hd,by rw [hnil];rfl⟩,?_⟩;show E'.sy (n+d.j)=some .nsl
    grind
   .obtain ⟨t,a',_,_,_,_,ha2⟩:=fY_ hds d hdm;have hact:∃i,d.act=some i:=by
     cases hact:d.act with
     |some i=>simp
     |none=>unfold hj_ at ha2;split at ha2;simp only [Option.some.injEq,Prod.mk.injEq]at ha2;exact absurd (by rw [←ha2.1];rfl) hnil;all_goals grind
    obtain ⟨i,hi⟩:=hact;obtain ⟨b,o,q1,q2,q3⟩:=hconC id d i hd hi hnil;exact .inr ⟨b,o,(hme.acc id d i hd hi hnil).trans q1,hown _ _ _ q2 (by grind),q3⟩
 .show (match aE_ ds id with
    |some d=>_
    |none=>match az_ rn id with
     |some a=>E.φ a
     |none=>none)=none
  grind [bm_,bf_]
 .rcases hi with ⟨d,hd,hdn⟩|⟨a,hfa,ha,hva⟩
  .obtain ⟨hdm,hdi⟩:=bm_ hd;refine ⟨?_,by grind⟩;show (match aE_ ds id with
    |some d=>match fA_ (den E.sy d.x)with
     |true=>none
     |false=>match d.act with
      |some i=>E.φ i
      |none=>none
    |none=>_)=none
   grind
  grind [bf_]
 .grind [fY_]
 .grind [bm_]
 .obtain ⟨t,a',_,_,_,_,ha2⟩:=fY_ hds d hd;rw [hda]at ha2;unfold hj_ at ha2;split at ha2;simp at ha2
  .split at ha2
   .rename_i k hk;split at ha2
    .rename_i hbb;simp only [Option.some.injEq,Prod.mk.injEq]at ha2;obtain ⟨hdx,rfl⟩:=ha2;have e1:=za' (aa_ hbb).1;subst e1;rcases g1 _ _ hk with ⟨q1,_⟩|⟨b,o,q1,q2,len,sz'',cs,q3,_⟩
     .grind
     rw [←hdx]at hnil;simp only [den,q3]at hnil;cases hnil
    cases ha2
   cases ha2
  .split at ha2
   .split at ha2
    case h_2=>cases ha2
    split at ha2;simp only [Option.some.injEq,Prod.mk.injEq]at ha2;rw [←ha2.1]at hnil;cases hnil;cases ha2
   cases ha2
  cases ha2
omit [Gl]in
theorem oZ_ {ds:List DA} {rn:List (Nat×Nat)}:∀{k:Nat},ua_ ds rn k=true->∀i,i<k->az_ rn i=some i\/(az_ rn i=none/\∃d,aE_ ds i=some d/\d.act=some i)
 |0,_,i,hi=>absurd hi (Nat.not_lt_zero _)
 |k+1,h,i,hi=>by obtain ⟨h1,h2⟩:=aa_ h;rcases zc' i k with hlt|hge;exact oZ_ h2 i hlt;have:i=k:=(by omega);subst this;split at h1;rename_i a ha;rw [Nat.eq_of_beq_eq_true h1]at ha;exact .inl ha;rename_i hn;split at h1;rename_i d hd;exact .inr ⟨hn,d,hd,ds_ h1⟩;cases h1
omit [Gl]in
theorem rw_ {k:Nat} {hv:List AV}:∀{ts:List TA} {l:List Nat},nnL k hv ts=some l->∀t,t∈ts->t.id<k->(∃i,cs_ t.j hv=some (.sym i)/\i∈l)\/∃n z cs,cs_ t.j hv=some (.vsl n z cs)
 |[],l,h,t,ht,_=>by cases ht
 |q::r,l,h,t,ht,hk=>by
  unfold nnL at h;split at h;cases h;rename_i l' hl;rcases List.mem_cons.1 ht with rfl|ht
  .grind [ze']
  have ih:=rw_ hl t ht hk;split at h;cases h;exact ih;split at h;cases h;exact ih.imp (λ⟨i,h1,h2⟩=>⟨i,h1,zb' _ h2⟩) id;cases h;exact ih;cases h
theorem nZ_ {P:Program} {N n lv k:Nat} {tp:Tpl} {S:VS} {mt:MT} {Y0 Y:Sy} (hm:g2_ n k tp S=some mt) (hf:Fresh Y0 n) (hx:Ext n Y0 Y) (hok:okL (ab_ Y.v mt.hv)=true) (hnn:∀i,i∈mt.nn->(Chk.nn i).ok Y):
  (ab_ Y.v mt.hv).length=tp.nv/\Weak P N k Y S.T S.H S.D (Y0.puts n (ab_ Y.v mt.hv)) (tp.inst n lv).T (tp.inst n lv).H []:=by
 unfold g2_ at hm;split at hm;cases hm;rename_i b0;split at hm;cases hm;rename_i m hmr;split at hm;cases hm;rename_i hlow;split at hm;cases hm;rename_i nl hnl;cases hm;have hD:=lk_ b0;rw [hD];have hlen:(ab_ Y.v m.hv).length=tp.nv:=by
  grind [g1_,cA_,gT_]
 refine ⟨hlen,λB pr E a w hy st=>?_⟩;have hsyE:E.sy=Y.v:=hy.v;obtain ⟨own,g1,g2,g3⟩:=st.r.own;have hc:=iU_ (w:=w) (own:=own) hmr hf (λi hi=>by rw [hsyE];exact hx i hi) (by grind) g1 (λid h=>(st.r.resv id (st.r.vds id h)).1) E.bim;rw [hsyE]at hc;obtain ⟨p1,p2,p3,p4⟩:=hf.puts (ab_ Y.v m.hv)
 let E':Env:=sP_ m E (Y0.puts n (ab_ Y.v m.hv)) E.bim
 have hphi:∀i x,i<k->E.φ i=some x->E'.φ i=some x:=λi x hi hφ=>by
  rcases oZ_ hlow i hi with h|⟨h,d,hd,hda⟩
  .have:=hc.rnA i i h;show (match aE_ m.ds i with
    |some d=>_
    |none=>match az_ m.rn i with
     |some a=>E.φ a
     |none=>none)=_
   grind
  .obtain ⟨hdm,hdi⟩:=bm_ hd;obtain ⟨t,t1,t2,t3,t4⟩:=hc.acc d hdm;have hne:den E.sy d.x≠ .nsl:=by
    rcases rw_ hnl t t1 (by omega)with ⟨i',q1,q2⟩|⟨a1,a2,a3,q1⟩
    .obtain ⟨a1,a2,a3,q3⟩:=hnn i' q2
     grind [den]
    grind [den]
   show (match aE_ m.ds i with
    |some d=>match fA_ (den E.sy d.x)with
     |true=>none
     |false=>match d.act with
      |some i=>E.φ i
      |none=>none
    |none=>_)=_
   grind [ks_]
 have hle:E.leF k E':=⟨λi x hi h=>hphi i x hi h,λ_ _ h=>h,λ_ _ _ h=>h,rfl,λi hi=>by rw [hsyE,hx i (by have:=hf.1;omega)];exact p4 i hi⟩;refine ⟨E',hle,⟨rfl,rfl,λ_ h=>h⟩,⟨st.t.size,st.t.le,hc.slots a.tmps st.t.con,st.t.gl.leF hle⟩,?_,st.d⟩;obtain ⟨n1,n2⟩:=Tpl.heap_next tp n;refine { own:=⟨hN_ m own,hc.rows,λb hb=>by grind [hN_],λb o v hv=>by unfold hN_;simp only [g3 b o v hv]⟩,imm:=st.r.imm,ib:=st.r.ib,fresh:=λid h1 h2=>hc.fresh id (n1▸h1),resv:=λid hi=>?_,vds:=λ_ h=>h,szs:=st.r.szs,prot:=st.r.prot,size:=st.r.size,os:=st.r.os,output:=st.r.output };obtain ⟨h1,h2⟩:=hc.vd id hi;refine ⟨h1,λhx=>?_⟩;have:(tp.heap n).next<=id:=hx.1
 omega
end Go.Sx
namespace Go.Sx
theorem lm_:∀(n:Nat) (l:List Nat),sV_ n l=l[n]?
 |n,[]=>by cases n<;>rfl
 |0,a::r=>rfl
 |n+1,a::r=>by simp [sV_,lm_ n r]
theorem pn_:∀(l:List Nat) (a:Nat),nX_.snoc l a=l++[a]
 |[],a=>rfl
 |x::r,a=>by simp [nX_.snoc,pn_ r a]
theorem oY_ {m:MR}:∀{k:Nat} {l:List Nat},nX_ m k=some l->l.length=k/\∀i,i<k->∃a,l[i]? =some a/\iR_ m i=some a
 |0,l,h=>by cases h;simp
 |k+1,l,h=>by
  unfold nX_ at h;split at h
  case h_2=>cases h
  rename_i l' hl;split at h
  case h_2=>cases h
  rename_i a ha;cases h;obtain ⟨h1,h2⟩:=oY_ hl;rw [pn_];refine ⟨by simp [h1],λi hi=>?_⟩;rcases zc' i k with hlt|hge;obtain ⟨b,q1,q2⟩:=h2 i hlt;exact ⟨b,by rw [List.getElem?_append_left (by omega)];exact q1,q2⟩;have:i=k:=(by omega);subst this;exact ⟨a,by rw [List.getElem?_append_right (by omega),h1];simp,ha⟩
theorem kf_ {H:AHeap}:∀{l:List Nat},lc_ H l=true->∀(i:Nat) (a:Nat),l[i]? =some a->∃k,H.get a=some k
 |[],_,i,a,hi=>by simp at hi
 |b::r,h,i,a,hi=>by
  obtain ⟨h1,h2⟩:=aa_ h;cases i with
  |zero=>simp at hi;subst hi;exact Option.isSome_iff_exists.1 h1
  |succ i=>exact kf_ h2 i a (by simpa using hi)
theorem lh_:∀{l:List (Nat×Nat)} {acc:List Nat} {a:Nat},a∈qk_ l acc↔(∃i,(i,a)∈l)\/a∈acc
 |[],acc,a=>by simp [qk_]
 |(j,b)::r,acc,a=>by
  simp only [qk_,List.mem_cons,lh_ (l:=r)];constructor
  .rintro (rfl|⟨i,hi⟩|h)<;>grind
  grind
theorem h5_:∀{l:List DA} {acc:List Nat} {a:Nat},a∈nv_ l acc↔(∃d,d∈l/\d.act=some a)\/a∈acc
 |[],acc,a=>by simp [nv_]
 |d::r,acc,a=>by
  unfold nv_;split
  .simp only [List.mem_cons,h5_ (l:=r)]
   grind
  .rw [h5_ (l:=r)]
   grind
theorem mv_:∀{l:List (Nat×Nat)} {acc:List (Nat×Nat)} {i j:Nat},(i,j)∈t6_ l acc->(j,i)∈l\/(i,j)∈acc
 |[],acc,i,j,h=>.inr h
 |(a,b)::r,acc,i,j,h=>by rcases List.mem_cons.1 h with h|h;cases h;exact .inl (zd' ..);exact (mv_ (l:=r) h).imp (zb' _) id
theorem iN_:∀{l:List DA} {acc:List (Nat×Nat)} {i j:Nat},(i,j)∈rc_ l acc->(∃d,d∈l/\d.act=some i)\/(i,j)∈acc
 |[],acc,i,j,h=>.inr h
 |d::r,acc,i,j,h=>by unfold rc_ at h;split at h;rename_i q hq;rcases List.mem_cons.1 h with h|h;cases h;exact .inl ⟨d,zd' ..,hq⟩;exact (iN_ (l:=r) h).imp (λ⟨x,h1,h2⟩=>⟨x,zb' _ h1,h2⟩) id;exact (iN_ (l:=r) h).imp (λ⟨x,h1,h2⟩=>⟨x,zb' _ h1,h2⟩) id
def MR.act (m:MR):List Nat:=nv_ m.ds (qk_ m.rn [])
theorem sL_ {m:MR} {i j:Nat} (h:az_ m.inv i=some j):i∈m.act:=by
 rw [MR.act,h5_];rcases iN_ (bf_ h)with h|h;exact .inl h
 .rcases mv_ h with h|h<;>grind [lh_]
theorem sM_ {m:MR} {i a:Nat} (h:iR_ m i=some a):a∈m.act:=by
 rw [MR.act,h5_];unfold iR_ at h;split at h;rename_i b hb;cases h;exact .inr (lh_.2 (.inl ⟨i,bf_ hb⟩))
 grind [bm_]
structure MovOk (hv:List AV) (n:Nat) (r:Nat->Nat) (E1 E2:Env):Prop where
 φ:∀i x,i<top->E1.φ i=some x->E2.φ (r i)=some x
 sz:∀b n,E1.sz b=some n->E2.sz b=some n
 imm:∀b o v,E1.imm b o=some v->E2.imm b o=some v
 sy:∀i a,E1.sy i=some a->E2.sy (sgS hv n i)=some a
 cst:∀i a x,E1.sy i=some a->¬i<64->cs_ (i-64) hv=some x->okC x=true->x=a
theorem f4_ {hv:List AV} {n:Nat} {r:Nat->Nat} {E1 E:Env} (h:MovOk hv n r E1 E) {a:AV} {v:Value} (hc:Con0 E1 a v):Con0 E a v:=b7_ h.imm hc
theorem e0_ {i:Nat} (h:Nat.blt i top=true):i<top:=by simp_all
mutual
theorem hX_ {hv:List AV} {n:Nat} {r:Nat->Nat} {E1 E:Env} (h:MovOk hv n r E1 E):∀{a:AV} {v:Value},jt_ a=true->Con E1 a v->Con E (dy_ hv n r a) v
 | .opq,_,_,hc=>by simp [dy_,Con]
 | .bool _,_,_,hc=>by grind [dy_,Con]
 | .int _ _,_,_,hc=>by grind [dy_,Con]
 | .flt _ _,_,_,hc=>by grind [dy_,Con]
 | .nan _,_,_,hc=>by grind [dy_,Con]
 | .str _,_,_,hc=>by grind [dy_,Con]
 | .nptr,_,_,hc=>by grind [dy_,Con]
 | .nsl,_,_,hc=>by grind [dy_,Con]
 | .nmap,_,_,hc=>by grind [dy_,Con]
 | .nfn,_,_,hc=>by grind [dy_,Con]
 | .nif,_,_,hc=>by grind [dy_,Con]
 | .ptr id off,v,ht,hc=>by obtain ⟨b,o,h1,h2⟩:=hc;exact ⟨b,o,h.φ _ _ (e0_ ht) h1,h2⟩
 | .sl id off len sz cap,v,ht,hc=>by obtain ⟨b,o,n,c,off',h1,h2,h3⟩:=hc;exact ⟨b,o,n,c,off',h.φ _ _ (e0_ ht) h1,h.sz _ _ h2,h3⟩
 | .map id,v,ht,hc=>by obtain ⟨b,h1,h2⟩:=hc;exact ⟨b,h.φ _ _ (e0_ ht) h1,h2⟩
 | .slx id sz i,v,ht,hc=>by obtain ⟨a,h1,h2⟩:=hc;refine ⟨a,h.sy _ _ h1,h2.imp (λh=>h) λh2=>?_⟩;obtain ⟨len,cs,e,b,o,n,c,off',k1,k2,k3⟩:=h2;exact ⟨len,cs,e,b,o,n,c,off',h.φ _ _ (e0_ ht) k1,h.sz _ _ k2,k3⟩
 | .ptx id j sz off,v,ht,hc=>by obtain ⟨k,n,h1,b,o,h2,h3⟩:=hc;exact ⟨k,n,h.sy _ _ h1,b,o,h.φ _ _ (e0_ ht) h2,h3⟩
 | .vptr cs,v,ht,hc=>by obtain ⟨b,o,vs,h1,h2,h3⟩:=hc;exact ⟨b,o,vs,h1,dG_ h ht h2,λi v hv=>h.imm _ _ _ (h3 i v hv)⟩
 | .vsl len sz cs,v,ht,hc=>by obtain ⟨b,o,vs,c,h1,h2,h3,h4⟩:=hc;exact ⟨b,o,vs,c,h1,h2,dG_ h ht h3,λi v hv=>h.imm _ _ _ (h4 i v hv)⟩
 | .fn f cs,v,ht,hc=>by simp only [jt_]at ht;simp only [dy_,Con]at hc⊢;obtain ⟨vs,h1,h2⟩:=hc;exact ⟨vs,h1,dG_ h ht h2⟩
 | .iface t a,v,ht,hc=>by simp only [jt_]at ht;simp only [dy_,Con]at hc⊢;obtain ⟨u,h1,h2⟩:=hc;exact ⟨u,h1,hX_ h ht h2⟩
 | .agg cs,v,ht,hc=>by simp only [jt_]at ht;simp only [dy_,Con]at hc⊢;obtain ⟨vs,h1,h2⟩:=hc;exact ⟨vs,h1,dG_ h ht h2⟩
 | .tup cs,v,ht,hc=>by simp only [jt_]at ht;simp only [dy_,Con]at hc⊢;obtain ⟨vs,h1,h2⟩:=hc;exact ⟨vs,h1,dG_ h ht h2⟩
 | .sym i,v,_,hc=>by
   obtain ⟨a,h1,h2,h3⟩:=hc;have key:Con E (.sym (sgS hv n i)) v:=(by exact ⟨a,h.sy _ _ h1,h2,f4_ h h3⟩);simp only [dy_];unfold sgV;split
   .grind [sgS]
   .rename_i hb;have hlt:¬i<64:=λhlt=>by
     grind [ze']
    split;rename_i x hx;split;rename_i hok;have:=h.cst i a x h1 hlt hx hok;subst this;exact (f4_ h h3).con;exact key;exact key
theorem dG_ {hv:List AV} {n:Nat} {r:Nat->Nat} {E1 E:Env} (h:MovOk hv n r E1 E):∀{as:List AV} {vs:List Value},ju_ as=true->ConL E1 as vs->ConL E (ft_ hv n r as) vs
 |[],_,_,hc=>by grind [ft_,ConL]
 |a::as,vs,ht,hc=>by obtain ⟨t1,t2⟩:=aa_ ht;simp only [ft_,ConL]at hc⊢;obtain ⟨v,t,h1,h2,h3⟩:=hc;exact ⟨v,t,h1,hX_ h t1 h2,dG_ h t2 h3⟩
end
theorem mH_ (hv:List AV) (n:Nat) (r:Nat->Nat):∀(cs:List AV) (i:Nat),(ft_ hv n r cs)[i]? =cs[i]?.map (dy_ hv n r)
 |[],i=>by simp [ft_]
 |a::cs,0=>by simp [ft_]
 |a::cs,i+1=>by simpa [ft_]using mH_ hv n r cs i
theorem hC_ (hv:List AV) (n:Nat) (r:Nat->Nat):∀cs:List AV,(ft_ hv n r cs).length=cs.length
 |[]=>rfl
 |a::cs=>by simp [ft_,hC_ hv n r cs]
theorem pq_:∀{cs:List AV},ju_ cs=true->∀(i:Nat) (a:AV),cs[i]? =some a->jt_ a=true
 |[],_,i,a,h=>by simp at h
 |b::r,ht,i,a,h=>by
  obtain ⟨t1,t2⟩:=aa_ ht;cases i with
  |zero=>simp at h;subst h;exact t1
  |succ i=>exact pq_ t2 i a (by simpa using h)
def vq_:ABlk->Prop
 | .cells cs=>ju_ cs=true
 |_=>True
theorem sx_ {hv:List AV} {n:Nat} {r:Nat->Nat} {E1 E:Env} (h:MovOk hv n r E1 E) {w:World} {b o:Nat} {k k':ABlk} (ht:vq_ k) (hm:ro_ hv n r k=some k') (hk:BlkAt E1 w b o k):BlkAt E w b o k':=by
 cases k with
 |cells cs=>
  cases hm;obtain ⟨arr,t,h1,h2,h3,h4⟩:=hk;refine ⟨arr,t,h1,h.sz _ _ h2,by rw [hC_];exact h3,λi a ha=>?_⟩;rw [mH_]at ha;cases hc:cs[i]? with
  |none=>grind
  |some a'=>rw [hc]at ha;cases ha;obtain ⟨v,hv',hcon⟩:=h4 i a' hc;exact ⟨v,hv',hX_ h (pq_ ht i a' hc) hcon⟩
 |syl j=>
  cases hm;obtain ⟨len,sz,cs,h0,hlen,arr,t,h1,h2,h3,h4⟩:=hk;refine ⟨len,sz,cs,h.sy _ _ h0,hlen,arr,t,h1,h.sz _ _ h2,h3,λi a ha=>?_⟩
  grind [f4_]
 |mpl j=>cases hm;obtain ⟨h0,n,cs,h1,es',clock,h2,h3,h4⟩:=hk;exact ⟨h0,n,cs,h.sy _ _ h1,es',clock,h2,h3,h4.imp λ_ _ hc=>f4_ h hc⟩
 |map es c=>cases hm
 |fz cs=>cases hm
theorem sk_ {hv:List AV} {n:Nat} {r:Nat->Nat} {E1 E:Env} (h:MovOk hv n r E1 E) {k k':ABlk} (hm:ro_ hv n r k=some k') (hk:Void E1 k):Void E k':=by
 cases k with
 |syl j=>cases hm;exact h.sy _ _ hk
 |cells cs=>exact hk.elim
 |mpl j=>exact hk.elim
 |map es c=>cases hm
 |fz cs=>cases hm
theorem go_ {hv:List AV} {n:Nat} {r:Nat->Nat} {F base:AHeap} (hr:∀id k,F.get id=some k->r id<top):∀(ids:List Nat) (x:Nat) (kk:ABlk),(li_ hv n r F base ids).get x=some kk->(∃id k,x=r id/\F.get id=some k/\ro_ hv n r k=some kk)\/base.get x=some kk
 |[],x,kk,h=>.inr h
 |id::l,x,kk,h=>by
  unfold li_ at h;split at h
  .rename_i k hk;split at h
   .rename_i k' hk';by_cases e:r id=x
    .subst e;rw [AHeap.get_set_same _ (hr id k hk)]at h
     grind
    rw [AHeap.get_set_ne _ (hr id k hk) e]at h;exact go_ hr l x kk h
   exact go_ hr l x kk h
  exact go_ hr l x kk h
theorem kq_ {hv:List AV} {n:Nat} {r:Nat->Nat} {F base:AHeap}:∀(ids:List Nat),(li_ hv n r F base ids).next=base.next/\(li_ hv n r F base ids).hi=base.hi
 |[]=>⟨rfl,rfl⟩
 |id::l=>by have:=kq_ (hv:=hv) (n:=n) (r:=r) (F:=F) (base:=base) l;unfold li_;split;split;exact this;exact this;exact this
theorem dU_:∀{ms:List (Nat×Nat)} {acc:List Nat} {id:Nat},id∈pY_ ms acc↔(∃j,(id,j)∈ms)\/id∈acc
 |[],acc,id=>by simp [pY_]
 |(i,j)::r,acc,id=>by
  simp only [pY_,List.mem_cons,dU_ (ms:=r)];constructor
  .rintro (rfl|⟨q,h⟩|h)<;>grind
  grind
theorem kp_:∀{rows:List (Nat×List AV)} {id:Nat},id∈mt_ rows↔∃cs,(id,cs)∈rows
 |[],id=>by simp [mt_]
 |(i,c)::r,id=>by
  simp only [mt_,List.mem_cons,kp_ (rows:=r)];constructor
  .rintro (rfl|⟨q,h⟩)<;>grind
  grind
theorem gn_:∀{ts:List TA} {l:List Nat} {id:Nat},id∈c0_ ts l↔(∃t,t∈ts/\t.id=id)\/id∈l
 |[],l,id=>by simp [c0_]
 |t::r,l,id=>by
  simp only [c0_,List.mem_cons,gn_ (ts:=r)]
  grind
theorem pr_:∀{l:List Nat},qo_ l=true->∀id,id∈l->id<top
 |[],_,id,h=>by cases h
 |i::r,ht,id,h=>by obtain ⟨t1,t2⟩:=aa_ ht;rcases List.mem_cons.1 h with rfl|h;exact e0_ t1;exact pr_ t2 id h
theorem ps_ {n:Nat}:∀{rows:List (Nat×List AV)},qp_ n rows=true->∀id cs,(id,cs)∈rows->ju_ (bs_ n cs)=true
 |[],_,id,cs,h=>by cases h
 |(i,c)::r,ht,id,cs,h=>by obtain ⟨t1,t2⟩:=aa_ ht;rcases List.mem_cons.1 h with h|h;cases h;exact t1;exact ps_ t2 id cs h
theorem iL_ {n:Nat} {H0:AHeap}:∀{ts:List TA},(∀t,t∈ts->t.id<top)->∀id k,(hz_ n H0 ts).get id=some k->(∃j,k=.syl j)\/H0.get id=some k
 |[],_,id,k,hk=>.inr hk
 |t::r,hlt,id,k,hk=>by
  have ht:=hlt t (zd' ..);unfold hz_ at hk;by_cases e:t.id=id
  .subst e;rw [AHeap.get_set_same _ ht]at hk
   grind
  rw [AHeap.get_set_ne _ ht e]at hk;exact iL_ (λd hd=>hlt d (zb' _ hd)) id k hk
theorem rb_ {tp:Tpl} {n:Nat} (hr:qp_ n tp.rows=true) (hN:qo_ (c0_ tp.acc tp.ids)=true):∀id k,(tp.heap n).get id=some k->vq_ k:=by intro id k hk;have hid:∀i,i∈c0_ tp.acc tp.ids->i<top:=pr_ hN;have h1:∀a b,(a,b)∈tp.fix->a<top:=λa b h=>hid a (gn_.2 (.inr (dU_.2 (.inl ⟨b,h⟩))));have h2:∀a b,(a,b)∈tp.maps->a<top:=λa b h=>hid a (gn_.2 (.inr (dU_.2 (.inr (dU_.2 (.inl ⟨b,h⟩))))));have h3:∀a b,(a,b)∈tp.rows->a<top:=λa b h=>hid a (gn_.2 (.inr (dU_.2 (.inr (dU_.2 (.inr (kp_.2 ⟨b,h⟩)))))));have h4:∀t,t∈tp.acc->t.id<top:=λt h=>hid _ (gn_.2 (.inl ⟨t,h,rfl⟩));rcases gU_ tp.fix h1 id k hk with ⟨j,_,rfl⟩|hk;trivial;rcases gW_ tp.maps h2 id k hk with ⟨j,_,rfl⟩|hk;trivial;rcases iL_ h4 id k hk with ⟨j,rfl⟩|hk;trivial;obtain ⟨cs,h5,rfl⟩:=gV_ tp.rows h3 id k hk;exact ps_ hr id cs h5
theorem mu_ {n:Nat}:∀{slots:List (Nat×AV)} {i:Nat},jm_ i slots=true->∀j a,(bs_ n (cm_ slots))[j]? =some a->i+j<512/\tget (cH_ n slots) (i+j)=a
 |[],i,_,j,a,h=>by simp [cm_,bs_]at h
 |(q,b)::r,i,hs,j,a,h=>by
  obtain ⟨e1,hs⟩:=aa_ hs;obtain ⟨e2,hs3⟩:=aa_ hs;have e1:=za' e1;subst e1;have e2:i<512:=(by simp_all);simp only [cm_,bs_]at h;show _/\tget (dB_ (cH_ n r) i (bE_ n b)) (i+j)=a;cases j with
  |zero=>
   grind [aq_]
  |succ j=>
   obtain ⟨h1,h2⟩:=mu_ (i:=i+1) hs3 j a (by simpa using h)
   grind [ao_]
theorem eR_:∀{Y:Sy} {n:Nat} (l:List AV),Fresh Y n->∀(i:Nat) (a:AV),(Y.puts n l).v i=some a->Y.v i=some a\/∃q,i=n+q/\l[q]? =some a
 |Y,n,[],_,i,a,h=>.inl h
 |Y,n,b::r,hf,i,a,h=>by
  rcases eR_ (Y:=Y.put n b) (n:=n+1) r (hf.put b) i a h with h|⟨q,e,h⟩
  .by_cases e:i=n
   .subst e;rw [Sy.put_same]at h;grind
   grind [Sy.put_ne]
  exact .inr ⟨q+1,by omega,by simpa using h⟩
theorem qJ_ {i:Nat} (h:64<=i):Nat.blt i 64=false:=by
 grind [ze']
variable [Gl]
theorem tY_ {P:Program} {f:FuncId} {ft:FT} {T1:Tm} {S:VS} {m:MR} {low:List Nat} {Y:Sy} {Q:Nat->List AV->Prop} {nargs:Nat} (hm:g1_ 64 ft.ent T1 S.H=some m) (hlow:nX_ m ft.k=some low) (hroom:pk_ ft.k (64+ft.ent.nv) S.H ft.exs=true) (hhi:S.H.hi<=top)
  (hna:nargs=(cm_ ft.ent.slots).length) (hsl:jm_ 0 ft.ent.slots=true) (cg_:lc_ S.H low=true) (hF:CF P f ft (ab_ Y.v m.hv) Q) (hok:okL (ab_ Y.v m.hv)=true) (hf:Fresh Y S.n)
  {B:World} {pr:Nat->Prop} {E:Env} {w:World} {us:List Value} (hy:E.At Y) (hg:GlOk E) (hr:Rel B pr E S.H w) (hus:us.length=nargs) (hc:∀t,t<512->Con E (tget T1 t) ((⟨us⟩:Array Value).getD t undef)) (kk:Nat):
  Calls P f ⟨us⟩ w λe w'=>∃j ws b tp E2 v,ft.exs[j]? =some (b,tp)/\Q j ws/\okL ws=true/\ws.length=tp.nv/\(∀i x,E.sy i=some x->((Y.puts S.n (ab_ Y.v m.hv)).puts (S.n+ft.ent.nv) ws).v i=some x)/\
   (E.with ((Y.puts S.n (ab_ Y.v m.hv)).puts (S.n+ft.ent.nv) ws)).sub E2/\E.leF kk E2/\E2.At ((Y.puts S.n (ab_ Y.v m.hv)).puts (S.n+ft.ent.nv) ws)/\Rel B pr E2 (exH ft m low S tp) w'/\Con E2 (exV ft m low S tp) v/\
   e=(match b with
    |true=>.panicked [{ v:=v,recovered:=false }]
    |false=>.returned v):=by
 obtain ⟨own,g1,g2,g3,g4⟩:∃own:Nat->Option Nat,(∀id k,S.H.get id=some k->RowAt E w own id k)/\(∀b,pr b->own b=none)/\(∀b o v,E.imm b o=some v->own b=none)/\∀b,¬b<w.heap.size->own b=none:=by obtain ⟨own,g1,g2,g3⟩:=hr.own;refine ⟨λb=>if b<w.heap.size then own b else none,λid k hk=>?_,λb hb=>?_,λb o v hi=>?_,λb hb=>if_neg hb⟩;exact (g1 id k hk).imp (λ_ h=>h) (λh=>h) λb o h1 h2 h3=>⟨(if_pos h3.lt).trans h2,h3⟩;all_goals grind
 have hvd0:∀id,E.vd id->E.φ id=none/\¬(S.H.next<=id/\id<S.H.hi):=λid h=>hr.resv id (hr.vds id h);generalize hvs:ab_ Y.v m.hv=vs at*;have hvs':ab_ E.sy m.hv=vs:=by rw [hy.v];exact hvs
 have hvlen:vs.length=ft.ent.nv:=hF.1
 let Yg:Sy:=⟨λi=>if i<64 then Y.v i else none,Y.l⟩
 have hfg:Fresh Yg 64:=⟨zf' _,λi hi=>if_neg (by omega)⟩;have hmc:=iU_ (w:=w) (own:=own) (Y0:=Yg) hm hfg (λi hi=>by rw [hy.v];grind) (by grind) g1 (λid h=>(hvd0 id h).1) E.imm;rw [hvs']at hmc;obtain ⟨p1,p2,p3,p4⟩:=hfg.puts vs;generalize hE1:sP_ m E (Yg.puts 64 vs) E.imm=E1 at hmc;have e1sz:E1.sz=E.sz:=by rw [←hE1];rfl
 have e1imm:E1.imm=E.imm:=by rw [←hE1];rfl
 have e1bim:E1.bim=E.imm:=by rw [←hE1];rfl
 have e1sy:E1.sy=(Yg.puts 64 vs).v:=by rw [←hE1];rfl
 have e1syl:E1.syl=(Yg.puts 64 vs).l:=by rw [←hE1];rfl
 have e1res:E1.res=E1.vd:=by rw [←hE1];rfl
 have e1low:∀i,i<64->E1.sy i=E.sy i:=λi hi=>by rw [e1sy,p4 i hi,hy.v];grind
 obtain ⟨hn1,hn2⟩:=Tpl.heap_next ft.ent 64
 let pr':Nat->Prop:=λb=>b<w.heap.size/\hN_ m own b=none
 have hrel1:Rel w pr' E1 (ft.ent.heap 64) w:={
  own:=⟨hN_ m own,hmc.rows,λb hb=>hb.2,λb o v hv=>by unfold hN_;rw [g3 b o v (by grind)]⟩
  imm:=by rw [e1imm];exact hr.imm
  ib:=λb o v _ hv=>by grind
  fresh:=λid h1 _=>hmc.fresh id (hn1▸h1)
  resv:=λid hi=>by
   rw [e1res]at hi;obtain ⟨h1,h2⟩:=hmc.vd id hi
   grind
  vds:=λid h=>by grind
  szs:=by rw [e1sz];exact hr.szs
  prot:=λb hb=>⟨hb.1,rfl⟩
  size:=zf' _
  os:=rfl
  output:=rfl }
 have hgl1:GlOk E1:=⟨λg=>co_ (E:=E) (E':=E1) (λ_ _ _ h=>by grind) (λi a hi hx=>by grind) (Gl.nr g) (hg.1 g),Gl.gtm _ _ e1low hg.2⟩;have hcl:ConL E1 (bs_ 64 (cm_ ft.ent.slots)) us:=by have hs:=hmc.slots ⟨us⟩ hc;refine ConL.of_at (by rw [fg_,hus,hna]) λi a v h1 h2=>?_;obtain ⟨h3,h4⟩:=mu_ hsl i a h1;rw [Nat.zero_add]at h3 h4;have:=hs i h3;simp_all
 refine Calls.mono (hF.2 Yg hfg w pr' E1 w us ⟨e1sy,e1syl,λid h=>by grind⟩ hgl1 hrel1 hcl) λe w' he=>?_;obtain ⟨Y1,r1,⟨j,ws,b,tp,hj,hQ,hokw,hlw,rfl,rfl⟩,E1',hle1,hy1,hres⟩:=he;have hrm:ft.k<=tp.next/\S.H.next+(tp.next-ft.k)<S.H.hi/\jt_ (tget (cH_ (64+ft.ent.nv) tp.slots) 0)=true/\qp_ (64+ft.ent.nv) tp.rows=true/\qo_ (c0_ tp.acc tp.ids)=true:=by
  have:∀(l:List (Bool×Tpl)) (j:Nat),pk_ ft.k (64+ft.ent.nv) S.H l=true->l[j]? =some (b,tp)->ft.k<=tp.next/\S.H.next+(tp.next-ft.k)<S.H.hi/\jt_ (tget (cH_ (64+ft.ent.nv) tp.slots) 0)=true/\qp_ (64+ft.ent.nv) tp.rows=true/\qo_ (c0_ tp.acc tp.ids)=true:=by
   intro l
   induction l with
   |nil=>simp
   |cons q r ih=>
    intro j h hj;obtain ⟨q1,h⟩:=aa_ h;obtain ⟨q2,h⟩:=aa_ h;obtain ⟨q3,h⟩:=aa_ h;obtain ⟨q4,h⟩:=aa_ h;obtain ⟨q5,h⟩:=aa_ h;cases j with
    |zero=>simp_all
    |succ j=>grind
  grind
 obtain ⟨hk,hnx,htv,htr,htn⟩:=hrm;have hend:∃u,e=(match b with
       |true=>.panicked [{ v:=u,recovered:=false }]
       |false=>.returned u)/\Con E1' (tget (cH_ (64+ft.ent.nv) tp.slots) 0) u/\Rel w pr' E1' (tp.heap (64+ft.ent.nv)) w':=by
  grind
 obtain ⟨u,he,hcu,hr1'⟩:=hend;obtain ⟨lw1,lw2⟩:=oY_ hlow
 let nx:=S.H.next
 let r:Nat->Nat:=rL_ low ft.k nx
 have rlow:∀i,i<ft.k->∃a k,r i=a/\iR_ m i=some a/\S.H.get a=some k:=λi hi=>by
  grind [kf_,rL_,lm_]
 have rnew:∀i,ft.k<=i->r i=nx+(i-ft.k):=λi hi=>by
  grind [rL_,lm_]
 have hold:∀a k,S.H.get a=some k->¬(nx<=a/\a<S.H.hi):=λa k hk hx=>by
  rcases g1 a k hk with ⟨h1,_⟩|⟨b,o,h1,_⟩
  .grind
  rw [hr.fresh a hx.1 hx.2]at h1;cases h1
 have rinj:∀i j,i<tp.next->j<tp.next->r i=r j->i=j:=λi j hi hj e=>by
  rcases zc' i ft.k with h1|h1
  .obtain ⟨a,ka,ra,la,ga⟩:=rlow i h1;rcases zc' j ft.k with h2|h2
   .refine hmc.inj i j a ?_ ?_<;>grind [iR_]
   grind
  .rcases zc' j ft.k with h2|h2<;>grind
 have e1φ:∀i,i<ft.k->E1.φ i=E.φ (r i):=λi hi=>by
  obtain ⟨a,ka,ra,la,ga⟩:=rlow i hi;rw [ra,←hE1];show (match aE_ m.ds i with
   |some d=>match fA_ (den E.sy d.x)with
    |true=>none
    |false=>match d.act with
     |some i=>E.φ i
     |none=>none
   |none=>match az_ m.rn i with
    |some a=>E.φ a
    |none=>none)=_
  unfold iR_ at la;split at la;rename_i q hq;cases la;rw [hmc.rnA i a hq,hq]
  .split at la
   .rename_i d hd;rw [hd];simp only [la];cases hnl:fA_ (den E.sy d.x)with
    |true=>exact (hmc.accN d a (bm_ hd).1 la hnl).symm
    |false=>rfl
   cases la
 have e1lt:∀i x,i<top->E1'.φ i=some x->i<tp.next:=λi x hi hx=>by rcases zc' i tp.next with h|h;exact h;obtain ⟨a1,a2⟩:=Tpl.heap_next tp (64+ft.ent.nv);rw [hr1'.fresh i (by omega) (by omega)]at hx;cases hx
 generalize hYy:(Y.puts S.n vs).puts (S.n+ft.ent.nv) ws=Y' at*;have hfn:=hf.puts vs;rw [hvlen]at hfn;obtain ⟨f1,f2,f3,f4⟩:=hfn;obtain ⟨f5,f6,f7,f8⟩:=f1.puts ws;rw [hYy]at f5 f6 f7 f8;have hYv:∀i x,E.sy i=some x->Y'.v i=some x:=λi x hx=>f6 i x (f2 i x (by rw [←hy.v];exact hx));have hYl:∀i l,E.syl i=some l->Y'.l i=some l:=λi l hx=>by rw [f7,f3,←hy.l];exact hx
 have hYlo:∀i,i<64->Y'.v i=E.sy i:=λi hi=>by grind
 have e1'sy:E1'.sy=((Yg.puts 64 vs).puts (64+ft.ent.nv) ws).v:=hy1.v;have p1':Fresh (Yg.puts 64 vs) (64+ft.ent.nv):=by grind
 have hvo:∀i a,vs[i]? =some a->okC a=true:=λi a ha=>cS_ hok a (List.mem_of_getElem? ha);have hhv:m.hv.length=ft.ent.nv:=by
  have:=congrArg List.length hvs
  grind [cA_]
 have hat:∀i a,E1'.sy i=some a->(i<64/\Y.v i=some a)\/(∃q,i=64+q/\vs[q]? =some a)\/∃q,i=64+ft.ent.nv+q/\ws[q]? =some a:=λi a ha=>by
  rw [e1'sy]at ha;rcases eR_ ws p1' i a ha with ha|⟨q,e,hq⟩
  .rcases eR_ vs hfg i a ha with ha|⟨q,e,hq⟩<;>grind
  grind
 have hvq:∀q x,m.hv[q]? =some x->vs[q]? =some (den Y.v x):=λq x hx=>by rw [←hvs];exact f8_ Y.v m.hv q x hx
 classical
 let φ2:Nat->Option (Nat×Nat):=λi=>match E.φ i with
  |some x=>some x
  |none=>if hx:∃j,j<tp.next/\i=r j then E1'.φ (Classical.choose hx)else none
 have hφ2:∀j,j<tp.next->(∀x,E.φ (r j)=some x->E1'.φ j=some x)->φ2 (r j)=E1'.φ j:=λj hj hx=>by
  show (match E.φ (r j)with
   |some x=>some x
   |none=>if hx:∃j',j'<tp.next/\r j=r j' then E1'.φ (Classical.choose hx)else none)=_
  cases hE:E.φ (r j)with
  |some x=>grind
  |none=>
   have hex:∃j',j'<tp.next/\r j=r j':=⟨j,hj,rfl⟩
   grind
 have hφk:∀j,j<tp.next->∀x,E.φ (r j)=some x->E1'.φ j=some x:=λj hj x hx=>by rcases zc' j ft.k with h|h;exact hle1.phi j x h ((e1φ j h).trans hx);rw [rnew j h,hr.fresh _ (by omega) (by omega)]at hx;cases hx
 let vd2:Nat->Prop:=λid=>(E.vd id/\id∉m.act)\/∃j,j<tp.next/\id=r j/\E1'.vd j
 let E2:Env:=⟨φ2,E1'.sz,E1'.imm,vd2,E.bim,Y'.v,Y'.l,vd2⟩
 have hmov:MovOk m.hv S.n r E1' E2:={
  φ:=λi x hi hx=>by
   grind
  sz:=λ_ _ h=>h
  imm:=λ_ _ _ h=>h
  sy:=λi a ha=>by
   rcases hat i a ha with ⟨hi,ha⟩|⟨q,rfl,hq⟩|⟨q,rfl,hq⟩
   .grind [sgS,ze']
   .have hb:Nat.blt (64+q) 64=false:=qJ_ (by omega);have hsub:Nat.sub (64+q) 64=q:=(by simp);have hdef:Y'.v (S.n+q)=some a:=f6 _ _ (bF_ vs hf q a hq);unfold sgS;rw [hb];simp only [hsub,ed_];split
    .rename_i s hs;have:=hvq q _ hs;rw [hq]at this;cases hs':Y.v s with
     |none=>simp only [den,hs']at this;cases this;have:=hvo q _ hq;cases this
     |some y=>
      grind [den]
    exact hdef
   .have hb:Nat.blt (64+ft.ent.nv+q) 64=false:=qJ_ (by omega);have hdef:Y'.v (S.n+ft.ent.nv+q)=some a:=(by rw [←hYy];exact bF_ ws f1 q a hq);unfold sgS;rw [hb]
    grind [ed_]
  cst:=λi a x ha hi hx hxo=>by rw [ed_]at hx;rcases hat i a ha with ⟨hi',_⟩|⟨q,rfl,hq⟩|⟨q,rfl,hq⟩;omega;all_goals grind [hZ_] }
 have hsub:(E.with Y').sub E2:=⟨λi x hx=>by
  have hx:E.φ i=some x:=hx
  grind,λb n hb=>hle1.sz b n (by rw [e1sz];exact hb),λb o v hb=>hle1.imm b o v (by rw [e1imm];exact hb),rfl,rfl⟩
 obtain ⟨n1,n2⟩:=Tpl.heap_next tp (64+ft.ent.nv);obtain ⟨own1,o1,o2,o3⟩:=hr1'.own;have hbim1:E1'.bim=E.imm:=hle1.bim.trans e1bim;have hres1:∀id,E1'.vd id->E1'.φ id=none:=λid h=>(hr1'.resv id (hr1'.vds id h)).1;have hpr:∀b,pr b->pr' b:=λb hb=>⟨Nat.lt_of_lt_of_le (hr.prot b hb).1 hr.size,by grind [hN_]⟩;have hfree:∀b id,b<w.heap.size->own b=some id->id∉m.act->pr' b:=λb id hb ho hn=>⟨hb,by
  unfold hN_;rw [ho];cases hf:az_ m.inv id<;>grind [az_,id,absurd,sL_]⟩
 have himm1:∀b o v,pr' b->E1'.imm b o=some v->E.imm b o=some v:=λb o v hb hv=>by rw [←hbim1];exact hr1'.ib b o v hb hv
 let own2:Nat->Option Nat:=λb=>match own1 b with
  |some j=>some (r j)
  |none=>match own b with
   |some id=>if id∈m.act then none else some id
   |none=>none
 refine ⟨j,ws,b,tp,E2,u,hj,hQ,hokw,hlw,?_⟩;rw [hYy];refine ⟨hYv,hsub,⟨λi x _ hx=>hsub.1 i x hx,λb n hb=>hsub.2.1 b n hb,λb o v hb=>hsub.2.2.1 b o v hb,rfl,hYlo⟩,⟨rfl,rfl,λ_ h=>h⟩,?_,hX_ hmov htv hcu,he⟩;have hbase:∀id k,(dS_ S.H m.act).get id=some k->S.H.get id=some k/\id∉m.act:=λid k h=>fj_ m.act id k h;have hrt:∀j k,(tp.heap (64+ft.ent.nv)).get j=some k->r j<top:=λj k hjk=>by
  have hjl:=AHeap.get_lt hjk;rcases zc' j ft.k with h1|h1;obtain ⟨a,ka,ra,la,ga⟩:=rlow j h1;rw [ra];exact AHeap.get_lt ga
  .rw [rnew j h1];have hjn:j<tp.next:=by
    rcases o1 j k hjk with ⟨q1,_⟩|⟨bb,oo,q1,_⟩;rcases zc' j tp.next with h|h;exact h;exact absurd ⟨by omega,by omega⟩ (hr1'.resv j (hr1'.vds j q1)).2
    grind
   omega
 have hH2:∀id kk,(exH ft m low S tp).get id=some kk->(∃j k,id=r j/\(tp.heap (64+ft.ent.nv)).get j=some k/\ro_ m.hv S.n r k=some kk)\/(S.H.get id=some kk/\id∉m.act):=λid kk h=>by rcases go_ (r:=r) hrt _ id kk h with h|h;exact .inl h;refine .inr (hbase id kk ?_);exact h
 obtain ⟨m1,m2⟩:=kq_ (hv:=m.hv) (n:=S.n) (r:=r) (F:=tp.heap (64+ft.ent.nv)) (base:=(⟨(dS_ S.H m.act).tr,Nat.add S.H.next (Nat.sub tp.next ft.k),(dS_ S.H m.act).hi⟩:AHeap)) (c0_ tp.acc tp.ids);have hnext:(exH ft m low S tp).next=nx+(tp.next-ft.k):=m1
 have hhi2:(exH ft m low S tp).hi=S.H.hi:=m2.trans (cr_ m.act).2;have hnotr:∀id,E.φ id=none->(∀j,j<tp.next->id≠r j)->φ2 id=none:=λid h1 h2=>by
  grind
 refine { own:=⟨own2,λid kk hkk=>?_,λb hb=>?_,λb o v hv=>?_⟩,imm:=hr1'.imm,ib:=λb o v hb hv=>hr.ib b o v hb (himm1 b o v (hpr b hb) hv),fresh:=λid h1 h2=>?_,resv:=λid hi=>?_,vds:=λ_ h=>h,szs:=hr1'.szs,prot:=λb hb=>⟨(hr.prot b hb).1,(hr1'.prot b (hpr b hb)).2.trans (hr.prot b hb).2⟩,size:=Nat.le_trans hr.size hr1'.size,os:=hr1'.os.trans hr.os,output:=hr1'.output.trans hr.output }
 .rcases hH2 id kk hkk with ⟨j,k,rfl,hjk,hmv⟩|⟨hk,hna⟩;have hjl:=AHeap.get_lt hjk;have htb:=rb_ htr htn j k hjk;rcases o1 j k hjk with ⟨q1,q2⟩|⟨bb,oo,q1,q2,q3⟩;have hjn:j<tp.next:=(by rcases zc' j tp.next with h|h;exact h;exact absurd ⟨by omega,by omega⟩ (hr1'.resv j (hr1'.vds j q1)).2);exact .inl ⟨.inr ⟨j,hjn,rfl,q1⟩,sk_ hmov hmv q2⟩;exact .inr ⟨bb,oo,hmov.φ j _ hjl q1,by grind,sx_ hmov htb hmv q3⟩
  .rcases g1 id kk hk with ⟨q1,q2⟩|⟨bb,oo,q1,q2,q3⟩;exact .inl ⟨.inl ⟨q1,hna⟩,q2.sub λi hi=>hYv i _ hi⟩
   .have hp:=hfree bb id q3.lt q2 hna;refine .inr ⟨bb,oo,hsub.1 id _ q1,?_,?_⟩
    .grind
    .have h1:RowAt (E.with Y') w (λ_=>some id) id kk:=RowAt.withS (.inr ⟨bb,oo,q1,rfl,q3⟩) hYv hYl;rcases h1 with ⟨x1,x2⟩|⟨b2,o2',x1,_,x3⟩
     .have:E.φ id=none:=(hvd0 id x1).1
      grind
     have x1:E.φ id=some (b2,o2'):=x1;rw [q1]at x1;cases x1;exact x3.sub hsub (hr1'.prot bb hp).2
 .grind
 .show (match own1 b with
    |some j=>some (r j)
    |none=>match own b with
     |some id=>if id∈m.act then none else some id
     |none=>none)=none
  grind
 .rw [hnext]at h1;rw [hhi2]at h2;refine hnotr id (hr.fresh id (by omega) h2) λj hj e=>?_
  grind
 .rcases hi with ⟨q1,q2⟩|⟨j,hj,rfl,q1⟩
  .obtain ⟨a1,a2⟩:=hvd0 id q1;refine ⟨hnotr id a1 λj hj e=>?_,λhx=>a2 ⟨by omega,by omega⟩⟩;rcases zc' j ft.k with h|h
   .grind [sM_]
   grind
  grind
end Go.Sx
