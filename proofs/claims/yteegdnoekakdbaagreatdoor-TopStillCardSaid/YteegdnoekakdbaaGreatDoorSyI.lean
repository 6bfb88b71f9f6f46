/-
  A state is an instance of a template: then it is known by the template.
-/
import Derived.Test.YteegdnoekakdbaaGreatDoorSyH
set_option linter.unusedVariables false
set_option linter.unusedSimpArgs false
namespace Go.Sx
theorem d0_:∀(l:List AV) (n:Nat),cn_ n l=l[n]?
 |[],n=>by cases n<;>rfl
 |a::r,0=>rfl
 |a::r,n+1=>by simp [cn_,d0_ r n]
structure MEnv (H:AHeap) (ds:List DA) (rn:List (Nat×Nat)) (hv:List AV) (n:Nat) (E E':Env):Prop where
 phi:∀id a,az_ rn id=some a->E'.φ id=E.φ a
 sz:E'.sz=E.sz
 imm:E'.imm=E.imm
 low:∀i,i<n->E'.sy i=E.sy i
 hole:∀j x,cn_ j hv=some x->ae_ x=true/\E'.sy (n+j)=some (den E.sy x)/\(den E.sy x).one=true
 acc:∀id d i,aE_ ds id=some d->d.act=some i->den E.sy d.x≠ .nsl->E'.φ id=E.φ i
 val:∀id d,aE_ ds id=some d->cn_ d.j hv=some d.x
theorem pc_ {E:Env} {H:AHeap} {sz:Nat} {a x:AV} {act:Option Nat} {v:Value} (h:g1_ H sz a=some (x,act)) (hc:Con E a v):
  (v=.slice none 0 0/\den E.sy x=.nsl)\/∃i len cs,act=some i/\den E.sy x=.vsl len sz cs/\∃b o n c off',E.φ i=some (b,o)/\E.sz b=some n/\v=.slice (some ⟨b,o+off',none⟩) len c/\(c≠0->off'=0)/\len<=c/\o+c*sz<=n:=by
 unfold g1_ at h;split at h;cases h;exact .inl ⟨hc,rfl⟩
 .rename_i id sz' i;split at h
  .split at h
   .rename_i hb;cases h;obtain ⟨e1,e2⟩:=aa_ hb;have e2:=Nat.eq_of_beq_eq_true e2;subst e2;obtain ⟨a,h1,⟨rfl,h2⟩|⟨len,cs,rfl,h2⟩⟩:=hc
    .grind [den]
    ·
     exact .inr ⟨id,len,cs,rfl,by simp only [den,h1],h2⟩
   cases h
  cases h
 .rename_i id off len sz' cap;split at h
  .split at h
   case h_2=>cases h
   split at h;rename_i hb;cases h;obtain ⟨e1,hb⟩:=aa_ hb;obtain ⟨e2,hb⟩:=aa_ hb;have e1:=Nat.eq_of_beq_eq_true e1;have e2:=Nat.eq_of_beq_eq_true e2;subst e1 e2;obtain ⟨b,o,nn,c,off',q1,q2,q3,q4,q5,q6,_⟩:=hc;exact .inr ⟨id,len,_,rfl,by rfl,b,o,nn,c,off',q1,q2,q3,q4,q5,by omega⟩;cases h
  cases h
 cases h
theorem dh_ {a b:Option Nat} (h:ju_ a b=true):a=b:=by
 unfold ju_ at h
 grind [Nat.eq_of_beq_eq_true]
theorem MEnv.con0 {H:AHeap} {ds:List DA} {rn:List (Nat×Nat)} {hv:List AV} {n:Nat} {E E':Env} (h:MEnv H ds rn hv n E E') {a:AV} {v:Value} (hc:Con0 E a v):Con0 E' a v:=b5_ (λ_ _ _ hx=>by rw [h.imm];exact hx) hc
mutual
theorem qU_ {H:AHeap} {ds:List DA} {rn:List (Nat×Nat)} {hv:List AV} {n:Nat} {E E':Env} (h:MEnv H ds rn hv n E E'):∀{t a:AV} {v:Value},mA H ds rn hv n t a=true->Con E a v->Con E' (bv_ n t) v
 | .opq,_,_,_,_=>by simp [bv_,Con]
 | .slx j z q,a,v,hm,hc=>by
   unfold mA at hm;unfold bv_;cases z with
   |zero=>simp only at hm⊢;split at hm;rename_i x hx;have:=aD_ hm;subst this;obtain ⟨h1,h2,h3⟩:=h.hole _ _ hx;exact ⟨_,h2,h3,h.con0 (ao_ h1 hc)⟩;cases hm
   |succ z=>
    simp only at hm⊢;split at hm
    .rename_i d hd;split at hm
     .rename_i x act hacc;obtain ⟨e1,hm⟩:=aa_ hm;obtain ⟨e2,hm⟩:=aa_ hm;obtain ⟨e3,e4⟩:=aa_ hm;have e2:=Nat.eq_of_beq_eq_true e2;have e3:=aD_ e3;have e4:=dh_ e4;have hval:=h.val _ _ hd;obtain ⟨_,h2,_⟩:=h.hole _ _ hval;refine ⟨_,by rw [←e2];exact h2,?_⟩;rcases pc_ hacc hc with ⟨k1,k2⟩|⟨i,len,cs,k1,k2,b,o,nn,c,off',q1,q2,q3,q4,q5,q6⟩
      .grind
      rw [e3];refine .inr ⟨len,cs,k2,b,o,nn,c,off',?_,by rw [h.sz];exact q2,q3,q4,q5,q6⟩;rw [h.acc _ _ _ hd (e4.trans k1) (by grind)];exact q1
     cases hm
    cases hm
 | .sym i,a,v,hm,hc=>by obtain ⟨h1,h2⟩:=aa_ hm;have:=aD_ h2;subst this;have hi:i<n:=(by simp_all);obtain ⟨a,q1,q2,q3⟩:=hc;exact ⟨a,by rw [h.low i hi];exact q1,q2,h.con0 q3⟩
 | .ptr id off,a,v,hm,hc=>by unfold mA at hm;split at hm;obtain ⟨h1,h2⟩:=aa_ hm;have h2:=Nat.eq_of_beq_eq_true h2;subst h2;simp only [bv_,Con]at hc⊢;rw [h.phi id _ (dh_ h1)];exact hc;cases hm
 | .sl id off len sz cap,a,v,hm,hc=>by
   unfold mA at hm;split at hm
   .obtain ⟨h1,hm⟩:=aa_ hm;obtain ⟨e2,hm⟩:=aa_ hm;obtain ⟨e3,hm⟩:=aa_ hm;obtain ⟨e4,e5⟩:=aa_ hm;have e2:=Nat.eq_of_beq_eq_true e2;have e3:=Nat.eq_of_beq_eq_true e3;have e4:=Nat.eq_of_beq_eq_true e4;simp only [bv_,Con]at hc⊢;rw [h.phi id _ (dh_ h1),h.sz]
    grind
   cases hm
 | .agg ts,a,v,hm,hc=>by unfold mA at hm;split at hm;obtain ⟨vs,rfl,h2⟩:=hc;exact ⟨vs,rfl,iA_ h hm h2⟩;cases hm
 | .tup ts,a,v,hm,hc=>by unfold mA at hm;split at hm;obtain ⟨vs,rfl,h2⟩:=hc;exact ⟨vs,rfl,iA_ h hm h2⟩;cases hm
 | .vptr ts,a,v,hm,hc=>by unfold mA at hm;split at hm;obtain ⟨b,o,vs,h1,h2,h3⟩:=hc;exact ⟨b,o,vs,h1,iA_ h hm h2,λi u hu=>by rw [h.imm];exact h3 i u hu⟩;cases hm
 | .vsl len sz ts,a,v,hm,hc=>by unfold mA at hm;split at hm;obtain ⟨e1,hm1⟩:=aa_ hm;obtain ⟨e2,hm2⟩:=aa_ hm1;have e3:=Nat.eq_of_beq_eq_true e1;subst e3;obtain ⟨b,o,vs,c,h1,h2,h3,h4⟩:=hc;exact ⟨b,o,vs,c,h1,h2,iA_ h hm2 h3,λi u hu=>by rw [h.imm];exact h4 i u hu⟩;cases hm
 | .fn f ts,a,v,hm,hc=>by unfold mA at hm;split at hm;obtain ⟨e1,hm1⟩:=aa_ hm;have e2:=Nat.eq_of_beq_eq_true e1;subst e2;simp only [bv_,Con]at hc⊢;obtain ⟨vs,h1,h2⟩:=hc;exact ⟨vs,h1,iA_ h hm1 h2⟩;cases hm
 | .iface t x,a,v,hm,hc=>by unfold mA at hm;split at hm;obtain ⟨e1,hm1⟩:=aa_ hm;have e2:=Nat.eq_of_beq_eq_true e1;subst e2;simp only [bv_,Con]at hc⊢;obtain ⟨u,h1,h2⟩:=hc;exact ⟨u,h1,qU_ h hm1 h2⟩;cases hm
 | .ptx id i sz _,a,v,hm,hc=>by unfold mA at hm;split at hm;obtain ⟨h1,hm⟩:=aa_ hm;obtain ⟨e1,hm⟩:=aa_ hm;obtain ⟨e2,e3⟩:=aa_ hm;have e1:=Nat.eq_of_beq_eq_true e1;have e2:=Nat.eq_of_beq_eq_true e2;subst e1 e2;have hi:i<n:=(by simp_all);simp only [bv_,Con]at hc⊢;rw [h.phi id _ (dh_ h1),h.sz,h.low i hi];exact hc;cases hm
 | .map id,a,v,hm,hc=>by unfold mA at hm;split at hm;simp only [bv_,Con]at hc⊢;rw [h.phi id _ (dh_ hm)];exact hc;cases hm
 | .bool b,a,v,hm,hc=>by
   grind [aD_,mA,bv_,Con]
 | .int k b,a,v,hm,hc=>by
   grind [aD_,mA,bv_,Con]
 | .flt k b,a,v,hm,hc=>by
   grind [aD_,mA,bv_,Con]
 | .nan k,a,v,hm,hc=>by
   grind [aD_,mA,bv_,Con]
 | .str s,a,v,hm,hc=>by
   grind [aD_,mA,bv_,Con]
 | .nptr,a,v,hm,hc=>by
   grind [aD_,mA,bv_,Con]
 | .nsl,a,v,hm,hc=>by
   grind [aD_,mA,bv_,Con]
 | .nmap,a,v,hm,hc=>by
   grind [aD_,mA,bv_,Con]
 | .nfn,a,v,hm,hc=>by
   grind [aD_,mA,bv_,Con]
 | .nif,a,v,hm,hc=>by
   grind [aD_,mA,bv_,Con]
theorem iA_ {H:AHeap} {ds:List DA} {rn:List (Nat×Nat)} {hv:List AV} {n:Nat} {E E':Env} (h:MEnv H ds rn hv n E E'):∀{ts as:List AV} {vs:List Value},mL H ds rn hv n ts as=true->ConL E as vs->ConL E' (bS_ n ts) vs
 |[],[],vs,hm,hc=>by grind [bS_,ConL]
 |t::ts,a::r,vs,hm,hc=>by obtain ⟨h1,h2⟩:=aa_ hm;simp only [ConL]at hc;simp only [bS_,ConL];obtain ⟨v,q,e,c1,c2⟩:=hc;exact ⟨v,q,e,qU_ h h1 c1,iA_ h h2 c2⟩
 |[],_::_,_,hm,_=>by simp [mL]at hm
 |_::_,[],_,hm,_=>by simp [mL]at hm
end
theorem jZ_ {H:AHeap} {ds:List DA} {rn:List (Nat×Nat)} {hv:List AV} {n:Nat} {E E':Env} (h:MEnv H ds rn hv n E E') {T:Tm} {tmps:Array Value} (hc:∀t,t<512->Con E (tget T t) (tmps.getD t undef)):
  ∀(slots:List (Nat×AV)),mT H ds rn hv n T slots=true->∀t,t<512->Con E' (tget (c2_ n slots) t) (tmps.getD t undef)
 |[],_,t,ht=>by show Con E' (tget topq t) _;rw [cq_];simp [Con]
 |(s,a)::r,hm,t,ht=>by obtain ⟨h1,hm⟩:=aa_ hm;obtain ⟨h2,hm⟩:=aa_ hm;have h1:s<512:=(by simpa [Nat.blt_eq]using h1);show Con E' (tget (eM_ (c2_ n r) s (bv_ n a)) t) _;by_cases e:s=t;subst e;rw [aq_ _ ht];exact qU_ h h2 (hc s ht);rw [ar_ _ ht h1 e];exact jZ_ h hc r hm t ht
theorem gD_ {n next:Nat}:∀(rows:List (Nat×List AV)),(∀id cs,(id,cs)∈rows->id<top)->∀id k,(iq_ n next rows).get id=some k->∃cs,(id,cs)∈rows/\k=.cells (bS_ n cs)
 |[],_,id,k,h=>by
  grind [dF_,iq_]
 |(i,c)::r,hlt,id,k,h=>by
  have h:((iq_ n next r).set i (.cells (bS_ n c))).get id=some k:=h;have hi:=hlt i c (List.mem_cons_self ..);by_cases e:i=id
  .subst e;rw [AHeap.get_set_same _ hi]at h
   grind
  rw [AHeap.get_set_ne _ hi e]at h;obtain ⟨cs,h1,h2⟩:=gD_ r (λa b h=>hlt a b (List.mem_cons_of_mem _ h)) id k h;exact ⟨cs,List.mem_cons_of_mem _ h1,h2⟩
theorem ir_ {n next:Nat}:∀rows,(iq_ n next rows).next=next/\(iq_ n next rows).hi=top
 |[]=>⟨rfl,rfl⟩
 |(i,c)::r=>ir_ r
theorem a9_:∀{l:List (Nat×Nat)} {i a:Nat},az_ l i=some a->(i,a)∈l
 |[],i,a,h=>by cases h
 |(j,t)::r,i,a,h=>by unfold az_ at h;split at h;rename_i hb;cases h;rw [Nat.eq_of_beq_eq_true hb];exact List.mem_cons_self ..;exact List.mem_cons_of_mem _ (a9_ h)
theorem ta_ {ds:List DA} {inv:List (Nat×Nat)} {next:Nat}:∀{rn:List (Nat×Nat)},mN ds inv next rn=true->∀id a,(id,a)∈rn->id<next/\id<top/\az_ inv a=some id/\aE_ ds id=none
 |[],_,id,a,h=>by cases h
 |(i,q)::r,hm,id,a,h=>by obtain ⟨h1,hm⟩:=aa_ hm;obtain ⟨h2,hm⟩:=aa_ hm;obtain ⟨h3,hm⟩:=aa_ hm;obtain ⟨h4,hm⟩:=aa_ hm;rcases List.mem_cons.1 h with h|h;cases h;exact ⟨by simp_all,by simp_all,dh_ h3,by simpa using h4⟩;exact ta_ hm id a h
theorem s8_ {ds:List DA} {rn:List (Nat×Nat)} {hv:List AV} {n:Nat} {H:AHeap}:∀(rows:List (Nat×List AV)),mH ds rn hv n H rows=true->∀id cs,(id,cs)∈rows->∃a l,az_ rn id=some a/\H.get a=some (.cells l)/\mL H ds rn hv n cs l=true
 |[],_,id,cs,h=>by cases h
 |(i,c)::r,hm,id,cs,h=>by obtain ⟨h1,hm⟩:=aa_ hm;rcases List.mem_cons.1 h with h|h;cases h;split at h1;rename_i a ha;split at h1;rename_i l hl;exact ⟨a,l,ha,hl,h1⟩;cases h1;cases h1;exact s8_ r hm id cs h
theorem s6_ {inv:List (Nat×Nat)} {hv:List AV} {next:Nat}:∀{ds:List DA},mD inv hv next ds=true->∀d,d∈ds->d.id<next/\d.id<top/\cn_ d.j hv=some d.x/\∀i,d.act=some i->az_ inv i=some d.id
 |[],_,d,h=>by cases h
 |q::r,hm,d,h=>by
  obtain ⟨h1,hm⟩:=aa_ hm;obtain ⟨h2,hm⟩:=aa_ hm;obtain ⟨h3,hm⟩:=aa_ hm;obtain ⟨h4,hm⟩:=aa_ hm;rcases List.mem_cons.1 h with rfl|h
  .grind [Nat.blt_eq,aD_,dh_]
  exact s6_ hm d h
theorem s9_ {rn:List (Nat×Nat)} {hv:List AV} {H:AHeap}:∀(ms:List (Nat×Nat)),mM rn hv H ms=true->∀id j,(id,j)∈ms->∃a x,az_ rn id=some a/\oE_ H a=some x/\cn_ j hv=some x
 |[],_,id,j,h=>by cases h
 |(i,q)::r,hm,id,j,h=>by obtain ⟨h1,hm⟩:=aa_ hm;rcases List.mem_cons.1 h with h|h;cases h;split at h1;rename_i a ha;split at h1;rename_i x hx;split at h1;rename_i y hy;exact ⟨a,x,ha,hx,by rw [hy,aD_ h1]⟩;cases h1;cases h1;cases h1;exact s9_ r hm id j h
theorem rz_ (n:Nat) {i:Nat} (h:Nat.blt i lu_=true):jv_ n i=i:=by unfold jv_;rw [h]
theorem km_ (n:Nat) {i:Nat} (h:Nat.blt i lu_=false):jv_ n i=n+hf_ i:=by
 grind [jv_]
inductive FixAt (hv:List AV) (n s:Nat):ABlk->Prop where
 |old (h:s<n):FixAt hv n s (.syl s)
 |sym (j i:Nat) (h:s=n+j) (hj:cn_ j hv=some (.sym i)):FixAt hv n s (.syl i)
 |cells (j len z:Nat) (cs:List AV) (h:s=n+j) (hj:cn_ j hv=some (.vsl len z cs)) (hl:cs.length=len*z) (hs:ad_ cs=true):FixAt hv n s (.cells cs)
theorem s7_ {rn:List (Nat×Nat)} {hv:List AV} {n:Nat} {H:AHeap}:∀(ms:List (Nat×Nat)),mF rn hv n H ms=true->∀id i,(id,i)∈ms->∃a k,az_ rn id=some a/\H.get a=some k/\FixAt hv n (jv_ n i) k
 |[],_,id,j,h=>by cases h
 |(i,q)::r,hm,id,j,h=>by obtain ⟨h1,hm⟩:=aa_ hm;rcases List.mem_cons.1 h with h|h;cases h;split at h1;rename_i a ha;split at h1;rename_i x hx;split at h1;rename_i hb;obtain ⟨h0,h1⟩:=aa_ h1;have h1:=Nat.eq_of_beq_eq_true h1;have h0:q<n:=(by simp_all);refine ⟨a,_,ha,hx,?_⟩;rw [rz_ n hb,h1];exact .old (by omega);rename_i hb;split at h1;rename_i y hy;have:=aD_ h1;subst this;exact ⟨a,_,ha,hx,.sym (hf_ q) x (km_ n hb) hy⟩;cases h1;rename_i cs hx;split at h1;cases h1;rename_i hb;split at h1;rename_i y hy;unfold ov_ at h1;split at h1;rename_i len z cs';obtain ⟨e1,h1⟩:=aa_ h1;obtain ⟨e2,h1⟩:=aa_ h1;obtain ⟨e3,_⟩:=aa_ h1;have:=bj_ e1;subst this;have e2:=Nat.eq_of_beq_eq_true e2;rw [aj_]at e2;exact ⟨a,_,ha,hx,.cells (hf_ q) len z _ (km_ n hb) hy e2 e3⟩;cases h1;cases h1;cases h1;cases h1;exact s7_ r hm id j h
theorem bh_:∀{ds:List DA} {id:Nat} {d:DA},aE_ ds id=some d->d∈ds/\d.id=id
 |[],id,d,h=>by cases h
 |q::r,id,d,h=>by unfold aE_ at h;split at h;rename_i hb;cases h;exact ⟨List.mem_cons_self ..,Nat.eq_of_beq_eq_true hb⟩;obtain ⟨h1,h2⟩:=bh_ h;exact ⟨List.mem_cons_of_mem _ h1,h2⟩
theorem fI_ {T:Tm} {H:AHeap} {rn:List (Nat×Nat)}:∀{ts:List TA} {ds:List DA},pb_ T H rn ts=some ds->∀d,d∈ds->∃t a,t∈ts/\t.id=d.id/\t.j=d.j/\j4_ T H rn t=some a/\g1_ H d.sz a=some (d.x,d.act)
 |[],ds,h,d,hd=>by cases h;cases hd
 |t::r,ds,h,d,hd=>by
  unfold pb_ at h;split at h
  .rename_i a ha;split at h
   .rename_i x act hx;split at h
    .rename_i l hl;cases h;rcases List.mem_cons.1 hd with rfl|hd
     .grind
     obtain ⟨t',a',h0,h1⟩:=fI_ hl d hd;exact ⟨t',a',List.mem_cons_of_mem _ h0,h1⟩
    cases h
   cases h
  cases h
theorem jY_ {n:Nat} {T:Tm} {H H0:AHeap} {rn:List (Nat×Nat)}:∀{ts:List TA} {ds:List DA},pb_ T H rn ts=some ds->(∀d,d∈ds->d.id<top)->∀id k,(hg_ n H0 ts).get id=some k->(aE_ ds id=none/\H0.get id=some k)\/∃d,aE_ ds id=some d/\k=.syl (n+d.j)
 |[],ds,h,hlt,id,k,hk=>by cases h;exact .inl ⟨rfl,hk⟩
 |t::r,ds,h,hlt,id,k,hk=>by
  unfold pb_ at h;split at h
  .split at h
   .rename_i x act hx;split at h
    .rename_i l hl;cases h;have ht:t.id<top:=hlt _ (List.mem_cons_self ..);unfold hg_ at hk;by_cases e:t.id=id;subst e;rw [AHeap.get_set_same _ ht]at hk;cases hk;exact .inr ⟨⟨t.id,t.sz,t.j,x,act⟩,by simp [aE_],rfl⟩
     .rw [AHeap.get_set_ne _ ht e]at hk;have hb:Nat.beq t.id id=false:=by
       cases hb:Nat.beq t.id id with
       |true=>exact absurd (Nat.eq_of_beq_eq_true hb) e
       |false=>rfl
      have:=jY_ hl (λd hd=>hlt d (List.mem_cons_of_mem _ hd)) id k hk;unfold aE_;simp only [hb];exact this
    cases h
   cases h
  cases h
theorem iu_ {n:Nat} {H0:AHeap}:∀ts:List TA,(hg_ n H0 ts).next=H0.next/\(hg_ n H0 ts).hi=H0.hi
 |[]=>⟨rfl,rfl⟩
 |t::r=>iu_ r
theorem gF_ {n:Nat} {H0:AHeap}:∀(ms:List (Nat×Nat)),(∀id j,(id,j)∈ms->id<top)->∀id k,(jX_ n H0 ms).get id=some k->(∃j,(id,j)∈ms/\k=.mpl (n+j))\/H0.get id=some k
 |[],_,id,k,h=>.inr h
 |(i,q)::r,hlt,id,k,h=>by
  have h:((jX_ n H0 r).set i (.mpl (Nat.add n q))).get id=some k:=h;have hi:=hlt i q (List.mem_cons_self ..);by_cases e:i=id
  .subst e;rw [AHeap.get_set_same _ hi]at h
   grind
  rw [AHeap.get_set_ne _ hi e]at h;rcases gF_ r (λa b h=>hlt a b (List.mem_cons_of_mem _ h)) id k h with ⟨j,h1,h2⟩|h;exact .inl ⟨j,List.mem_cons_of_mem _ h1,h2⟩;exact .inr h
theorem is_ {n:Nat} {H0:AHeap}:∀ms:List (Nat×Nat),(jX_ n H0 ms).next=H0.next/\(jX_ n H0 ms).hi=H0.hi
 |[]=>⟨rfl,rfl⟩
 |(i,q)::r=>is_ r
theorem gC_ {n:Nat} {H0:AHeap}:∀(ms:List (Nat×Nat)),(∀id j,(id,j)∈ms->id<top)->∀id k,(jW_ n H0 ms).get id=some k->(∃j,(id,j)∈ms/\k=.syl (jv_ n j))\/H0.get id=some k
 |[],_,id,k,h=>.inr h
 |(i,q)::r,hlt,id,k,h=>by
  have h:((jW_ n H0 r).set i (.syl (jv_ n q))).get id=some k:=h;have hi:=hlt i q (List.mem_cons_self ..);by_cases e:i=id
  .subst e;rw [AHeap.get_set_same _ hi]at h
   grind
  rw [AHeap.get_set_ne _ hi e]at h;rcases gC_ r (λa b h=>hlt a b (List.mem_cons_of_mem _ h)) id k h with ⟨j,h1,h2⟩|h;exact .inl ⟨j,List.mem_cons_of_mem _ h1,h2⟩;exact .inr h
theorem ip_ {n:Nat} {H0:AHeap}:∀ms:List (Nat×Nat),(jW_ n H0 ms).next=H0.next/\(jW_ n H0 ms).hi=H0.hi
 |[]=>⟨rfl,rfl⟩
 |(i,q)::r=>ip_ r
theorem Tpl.heap_next (tp:Tpl) (n:Nat):(tp.heap n).next=tp.next/\(tp.heap n).hi=top:=by unfold Tpl.heap;simp [ip_,is_,iu_,ir_]
theorem qV_ {H:AHeap} {ds:List DA} {rn:List (Nat×Nat)} {hv:List AV} {n:Nat}:∀{ts as:List AV},mL H ds rn hv n ts as=true->as.length=ts.length
 |[],[],_=>rfl
 |t::ts,a::r,h=>by simp [qV_ (aa_ h).2]
 |[],_::_,h=>by simp [mL]at h
 |_::_,[],h=>by simp [mL]at h
theorem gE_ (n:Nat):∀l:List AV,(bS_ n l).length=l.length
 |[]=>rfl
 |a::r=>by simp [bS_,gE_ n r]
theorem cv_ (s:Nat->Option AV):∀l:List AV,(ab_ s l).length=l.length
 |[]=>rfl
 |a::r=>by simp [ab_,cv_ s r]
theorem fS_ (s:Nat->Option AV):∀(l:List AV) (i:Nat) (a:AV),l[i]? =some a->(ab_ s l)[i]? =some (den s a)
 |[],i,a,h=>by simp at h
 |b::r,0,a,h=>by grind [ab_]
 |b::r,i+1,a,h=>by simpa [ab_]using fS_ s r i a (by simpa using h)
theorem fc_:∀{l:List AV},ad_ l=true->∀(i:Nat) (a:AV),l[i]? =some a->ae_ a=true
 |[],_,i,a,h=>by simp at h
 |b::r,hs,i,a,h=>by
  simp only [ad_]at hs;cases hb:ae_ b with
  |true=>
   rw [hb]at hs;cases i with
   |zero=>simp at h;subst h;exact hb
   |succ i=>exact fc_ hs i a (by simpa using h)
  |false=>rw [hb]at hs;cases hs
theorem gB_:∀(acc:List (Nat×AV)) (j m:Nat) (l:List AV),ot_ acc j m=some l->l.length=m
 |acc,j,0,l,h=>by cases h;rfl
 |acc,j,m+1,l,h=>by unfold ot_ at h;split at h;split at h;rename_i l' hl;cases h;simp [gB_ acc _ m _ hl];cases h;cases h
def Ext (n:Nat) (Y Y':Sy):Prop:=∀i,i<n->Y'.v i=Y.v i
theorem Ext.refl (n:Nat) (Y:Sy):Ext n Y Y:=λ_ _=>rfl
theorem Ext.trans {n m:Nat} {Y Y' Y'':Sy} (h:Ext n Y Y') (h':Ext m Y' Y'') (hn:n<=m):Ext n Y Y'':=λi hi=>(h' i (by omega)).trans (h i hi)
theorem Ext.puts:∀{Y:Sy} {n:Nat} (l:List AV) (m:Nat),m<=n->Ext m Y (Y.puts n l)
 |Y,n,[],m,h=>λ_ _=>rfl
 |Y,n,a::r,m,h=>λi hi=>by have:=Ext.puts (Y:=Y.put n a) (n:=n+1) r m (by omega) i hi;exact this.trans (Sy.put_ne _ _ (by omega))
theorem Ext.put {Y:Sy} {n:Nat} (a:AV) {m:Nat} (h:m<=n):Ext m Y (Y.put n a):=λi hi=>Sy.put_ne _ _ (by omega)
variable [Gl]
def fl_:AV->Bool
 | .nsl=>true
 |_=>false
omit [Gl]in
theorem k1_ {D:Dfs} (h:noD D=true):D=[]:=by
 cases D with
 |nil=>rfl
 |cons _ _=>cases h
def sk_ (m:MR) (E:Env) (Y:Sy) (bim:Nat->Nat->Option Value):Env where
 φ id:=match aE_ m.ds id with
   |some d=>match fl_ (den E.sy d.x)with
    |true=>none
    |false=>match d.act with
     |some i=>E.φ i
     |none=>none
   |none=>match az_ m.rn id with
    |some a=>E.φ a
    |none=>none
 sz:=E.sz
 imm:=E.imm
 res id:=(∃d,aE_ m.ds id=some d/\fl_ (den E.sy d.x)=true)\/∃a,aE_ m.ds id=none/\az_ m.rn id=some a/\E.vd a
 bim:=bim
 sy:=Y.v
 syl:=Y.l
 vd id:=(∃d,aE_ m.ds id=some d/\fl_ (den E.sy d.x)=true)\/∃a,aE_ m.ds id=none/\az_ m.rn id=some a/\E.vd a
def hs_ (m:MR) (own:Nat->Option Nat):Nat->Option Nat:=λb=>match own b with
 |some i=>az_ m.inv i
 |none=>none
omit [Gl]in
theorem j9_ {x:AV} (hx:x≠ .nsl):fl_ x=false:=by cases x<;>first|rfl|exact absurd rfl hx
structure MCore (n:Nat) (tp:Tpl) (T:Tm) (E E':Env) (own:Nat->Option Nat) (w:World) (m:MR):Prop where
 len:(ab_ E.sy m.hv).length=tp.nv
 slots:∀tmps:Array Value,(∀t,t<512->Con E (tget T t) (tmps.getD t undef))->∀t,t<512->Con E' (tget (c2_ n tp.slots) t) (tmps.getD t undef)
 rows:∀id k,(tp.heap n).get id=some k->RowAt E' w (hs_ m own) id k
 fresh:∀id,tp.next<=id->E'.φ id=none
 vd:∀id,E'.vd id->E'.φ id=none/\id<tp.next
 next:tp.next<=top
 acc:∀d,d∈m.ds->∃t,t∈tp.acc/\t.id=d.id/\t.j=d.j/\cn_ d.j m.hv=some d.x
 inj:∀i j a,(az_ m.rn i=some a\/∃d,aE_ m.ds i=some d/\d.act=some a)->(az_ m.rn j=some a\/∃d,aE_ m.ds j=some d/\d.act=some a)->i=j
 rnA:∀i a,az_ m.rn i=some a->aE_ m.ds i=none
 accN:∀d a,d∈m.ds->d.act=some a->fl_ (den E.sy d.x)=true->E.φ a=none
omit [Gl]in
theorem iC_ {n:Nat} {tp:Tpl} {T:Tm} {H:AHeap} {m:MR} {Y0:Sy} {E:Env} {w:World} {own:Nat->Option Nat} (hm:gK_ n tp T H=some m) (hf:Fresh Y0 n) (hx:∀i,i<n->E.sy i=Y0.v i) (hok:okL (ab_ E.sy m.hv)=true)
  (g1:∀id k,H.get id=some k->RowAt E w own id k) (hvd:∀id,E.vd id->E.φ id=none) (bim:Nat->Nat->Option Value):MCore n tp T E (sk_ m E (Y0.puts n (ab_ E.sy m.hv)) bim) own w m:=by
 unfold gK_ at hm;simp only at hm;split at hm;cases hm;rename_i ds hds;split at hm;cases hm;rename_i msl hms;split at hm;cases hm;rename_i hv hh;split at hm
 case h_2=>cases hm
 rename_i hb;cases hm;generalize hrn:tH_ tp T H=rn at*;obtain ⟨b1,hb⟩:=aa_ hb;obtain ⟨b2,hb⟩:=aa_ hb;obtain ⟨b3,hb⟩:=aa_ hb;obtain ⟨b4,hb⟩:=aa_ hb;obtain ⟨b5,hb⟩:=aa_ hb;obtain ⟨b6,hb⟩:=aa_ hb;obtain ⟨b7,hb⟩:=aa_ hb;obtain ⟨b8,b9⟩:=aa_ hb;have hN:=ta_ b4;have hmap:=s9_ tp.maps b7;have hrow:=s8_ tp.rows b5;have hacc:=s6_ b6;have hfix:=s7_ tp.fix b8;have b9:=Nat.le_of_ble_eq_true b9
 let Y':=Y0.puts n (ab_ E.sy hv)
 let E':Env:=sk_ ⟨rn,ds,hv⟩ E Y' bim
 have hphiN:∀id a,az_ rn id=some a->E'.φ id=E.φ a:=λid a h=>by
  show (match aE_ ds id with
   |some d=>_
   |none=>match az_ rn id with
    |some a=>E.φ a
    |none=>none)=_
  rw [(hN id a (a9_ h)).2.2.2,h]
 have hme:MEnv H ds rn hv n E E':={
  phi:=hphiN
  sz:=rfl
  imm:=rfl
  low:=λi hi=>by rw [hx i hi];exact Ext.puts (ab_ E.sy hv) n (Nat.le_refl n) i hi
  hole:=λj x hj=>by rw [d0_]at hj;have h1:=fc_ b1 j x hj;have h2:=fS_ E.sy hv j x hj;exact ⟨h1,bI_ (ab_ E.sy hv) hf j _ h2,be_ (cO_ hok _ (List.mem_of_getElem? h2))⟩
  acc:=λid d i h1 h2 h3=>by
   show (match aE_ ds id with
    |some d=>match fl_ (den E.sy d.x)with
     |true=>none
     |false=>match d.act with
      |some i=>E.φ i
      |none=>none
    |none=>_)=_
   grind [j9_]
  val:=λid d h=>(hacc d (bh_ h).1).2.2.1 }
 have hconC:∀id d i,aE_ ds id=some d->d.act=some i->den E.sy d.x≠ .nsl->∃b o,E.φ i=some (b,o)/\own b=some i/\BlkAt E' w b o (.syl (n+d.j)):=by
  intro id d i h1 h2 h3;have hdm:=(bh_ h1).1;obtain ⟨_,_,hval,_⟩:=hacc d hdm;obtain ⟨hs1,hs2,hs3⟩:=hme.hole _ _ hval;obtain ⟨t,a',_,_,_,_,ha2⟩:=fI_ hds d hdm;have hxok:okC (den E.sy d.x)=true:=by rw [d0_]at hval;exact cO_ hok _ (List.mem_of_getElem? (fS_ E.sy hv d.j d.x hval))
  rw [h2]at ha2;unfold g1_ at ha2;split at ha2;simp at ha2
  .split at ha2
   .rename_i k hk;split at ha2
    .rename_i hbb;simp only [Option.some.injEq,Prod.mk.injEq]at ha2;obtain ⟨hdx,rfl⟩:=ha2;obtain ⟨e1,e2⟩:=aa_ hbb;have e1:=Nat.eq_of_beq_eq_true e1;subst e1;obtain ⟨_,hv2⟩|⟨b,o,q1,q2,len,sz'',cs,q3,q4,arr,t',q5,q6,q7,q8⟩:=g1 _ _ hk
     .have hv2:E.sy k=some .nsl:=hv2
      grind [den]
     .refine ⟨b,o,q1,q2,len,sz'',cs,?_,q4,arr,t',q5,q6,q7,λq x hq=>?_⟩
      .grind [den]
      obtain ⟨u,k1,k2,k3⟩:=q8 q x hq;exact ⟨u,k1,k2,hme.con0 k3⟩
    cases ha2
   cases ha2
  .rename_i id' off len sz' cap _;split at ha2
   .rename_i cs0 hk;split at ha2
    case h_2=>cases ha2
    rename_i cs htk;have htk2:=(bJ_ htk).1;split at ha2
    .rename_i hbb;simp only [Option.some.injEq,Prod.mk.injEq]at ha2;obtain ⟨hdx,rfl⟩:=ha2;obtain ⟨e1,hbb⟩:=aa_ hbb;obtain ⟨e2,hbb⟩:=aa_ hbb;obtain ⟨e3,hbb⟩:=aa_ hbb;obtain ⟨e4,hbb⟩:=aa_ hbb;obtain ⟨e5,e6⟩:=aa_ hbb;have e4:=Nat.eq_of_beq_eq_true e4;rw [aj_]at e4;obtain ⟨_,hv2⟩|⟨b,o,q1,q2,arr,t',q5,q6,q7,q8⟩:=g1 _ _ hk;exact hv2.elim
     .rw [←hdx]at hxok
      refine ⟨b,o,q1,q2,len,d.sz,ab_ E.sy cs,?_,by rw [cv_];exact e4,arr,t',q5,q6,by
       rw [cv_,htk2,List.length_take];omega,λq x hq=>?_⟩
      rw [hs2,←hdx];rfl
      .rw [cu_]at hq;cases hcq:cs[q]? with
       |none=>grind
       |some y=>
        rw [hcq]at hq;simp only [Option.map_some,Option.some.injEq]at hq;subst hq;have hcq0:cs0[q]? =some y:=by
         grind
        obtain ⟨u,k1,k2⟩:=q8 q y hcq0;have hmem2:(ab_ E.sy cs)[q]? =some (den E.sy y):=(by rw [cu_,hcq];rfl);exact ⟨u,k1,be_ (cO_ hxok _ (List.mem_of_getElem? hmem2)),hme.con0 (ao_ (fc_ e5 q y hcq) k2)⟩
    cases ha2
   cases ha2
  cases ha2
 have hinvN:∀id a,az_ rn id=some a->az_ (MR.mk rn ds hv).inv a=some id:=λid a h=>(hN id a (a9_ h)).2.2.1;have hown:∀b i id,own b=some i->az_ (MR.mk rn ds hv).inv i=some id->hs_ ⟨rn,ds,hv⟩ own b=some id:=λb i id h1 h2=>by
  grind [hs_]
 refine { len:=by grind [cv_,gB_],slots:=λtmps hc=>jZ_ hme hc tp.slots b3,rows:=λid k hk=>?_,fresh:=λid hid=>?_,vd:=λid hi=>?_,next:=b9,acc:=λd hd=>?_,inj:=λi j a hi hj=>?_,rnA:=λi a h=>(hN i a (a9_ h)).2.2.2,accN:=λd a hd hda hnil=>?_ }
 .rcases gC_ tp.fix (λa b h=>by grind [a9_]) id k hk with ⟨j,hj,rfl⟩|hk
  .obtain ⟨a,k',ha,hk,hj⟩:=hfix id j hj;have hphi:=hphiN id a ha;have hs:∀i',H.get a=some (.syl i')->(∀x,E.sy i'=some x->E'.sy (jv_ n j)=some x)->RowAt E' w (hs_ ⟨rn,ds,hv⟩ own) id (.syl (jv_ n j)):=λi' hk hsj=>(by obtain ⟨hv1,hv2⟩|⟨b,o,e1,e2,len,sz,cs,e3,e4,arr,t,e5,e6,e7,e8⟩:=g1 a _ hk;exact .inl ⟨.inr ⟨a,(hN id a (a9_ ha)).2.2.2,ha,hv1⟩,hsj _ hv2⟩;exact .inr ⟨b,o,hphi.trans e1,hown _ _ _ e2 (hinvN _ _ ha),len,sz,cs,hsj _ e3,e4,arr,t,e5,e6,e7,λi x hi=>by obtain ⟨u,k1,k2,k3⟩:=e8 i x hi;exact ⟨u,k1,k2,hme.con0 k3⟩⟩);cases hj with
   |old hlt=>exact hs _ hk λx hx=>by rw [hme.low _ hlt,hx]
   |sym q i' e hq=>
    obtain ⟨_,h2,_⟩:=hme.hole _ _ hq
    grind [den]
   |cells q len z cs e hq hl hso=>
    obtain ⟨_,h2,_⟩:=hme.hole _ _ hq;have hxok:okL (ab_ E.sy cs)=true:=by
     rw [d0_]at hq;have:=cO_ hok _ (List.mem_of_getElem? (fS_ E.sy hv q _ hq))
     grind [den,okC]
    obtain ⟨_,hv2⟩|⟨b,o,e1,e2,arr,t',q5,q6,q7,q8⟩:=g1 _ _ hk;exact hv2.elim
    .refine .inr ⟨b,o,hphi.trans e1,hown _ _ _ e2 (hinvN _ _ ha),len,z,ab_ E.sy cs,by rw [e,h2];rfl,by rw [cv_];exact hl,arr,t',q5,q6,by rw [cv_];exact q7,λq x hq=>?_⟩;rw [cu_]at hq;cases hcq:cs[q]? with
     |none=>grind
     |some y=>rw [hcq]at hq;simp only [Option.map_some,Option.some.injEq]at hq;subst hq;obtain ⟨u,k1,k2⟩:=q8 q y hcq;have hmem2:(ab_ E.sy cs)[q]? =some (den E.sy y):=(by rw [cu_,hcq];rfl);exact ⟨u,k1,be_ (cO_ hxok _ (List.mem_of_getElem? hmem2)),hme.con0 (ao_ (fc_ hso q y hcq) k2)⟩
  rcases gF_ tp.maps (λa b h=>by grind [a9_]) id k hk with ⟨j,hj,rfl⟩|hk;obtain ⟨a,x,ha,hx',hval⟩:=hmap id j hj;obtain ⟨hs1,hs2,_⟩:=hme.hole _ _ hval;have hphi:=hphiN id a ha;unfold oE_ at hx';split at hx';rename_i es clock hk;split at hx';rename_i hso;cases hx';obtain ⟨_,hv2⟩|⟨b,o,e1,e2,e0,es',e3,e4⟩:=g1 a _ hk;exact hv2.elim;refine .inr ⟨b,o,hphi.trans e1,hown _ _ _ e2 (hinvN _ _ ha),e0,l7_ es,ab_ E.sy (aK_ es),by rw [hs2];rfl,es',clock,e3,?_,(gq_ (aa_ hso).1 (aa_ hso).2 e4).imp λ_ _ hc=>hme.con0 hc⟩;rw [iy_ e4,Array.length_toList];cases hx';rename_i i hk;cases hx';obtain ⟨_,hv2⟩|⟨b,o,e1,e2,e0,n',cs',f3,es',c0,f4,f5,f6⟩:=g1 a _ hk;exact hv2.elim;exact .inr ⟨b,o,hphi.trans e1,hown _ _ _ e2 (hinvN _ _ ha),e0,n',cs',by grind [den],es',c0,f4,f5,f6.imp λ_ _ hc=>hme.con0 hc⟩;cases hx';rcases jY_ hds (λd hd=>(hacc d hd).2.1) id k hk with ⟨hfn,hk⟩|⟨d,hd,rfl⟩
  .obtain ⟨cs,h1,rfl⟩:=gD_ tp.rows (λa b h=>by grind [a9_]) id k hk;obtain ⟨a,l,ha,h3,h4⟩:=hrow id cs h1;obtain ⟨_,hv2⟩|⟨b,o,e1,e2,arr,t,e3,e4,e5,e6⟩:=g1 a _ h3;exact hv2.elim;refine .inr ⟨b,o,(hphiN id a ha).trans e1,hown _ _ _ e2 (hinvN _ _ ha),arr,t,e3,e4,?_,λi x hx'=>?_⟩
   .grind [gE_,qV_]
   .have hL:ConL E l ((arr.toList.drop o).take l.length):=by
      grind [ConL.of_at]
    obtain ⟨u,f1,f2⟩:=(iA_ hme h4 hL).at i x hx'
    grind
  .obtain ⟨hdm,hdi⟩:=bh_ hd;obtain ⟨_,_,hval,hin⟩:=hacc d hdm;obtain ⟨_,hs2,_⟩:=hme.hole _ _ hval;by_cases hnil:den E.sy d.x=.nsl
   .refine .inl ⟨.inl ⟨d,hd,by rw [hnil];rfl⟩,?_⟩;show E'.sy (n+d.j)=some .nsl
    grind
   .obtain ⟨t,a',_,_,_,_,ha2⟩:=fI_ hds d hdm;have hact:∃i,d.act=some i:=by
     cases hact:d.act with
     |some i=>simp
     |none=>unfold g1_ at ha2;split at ha2;simp only [Option.some.injEq,Prod.mk.injEq]at ha2;exact absurd (by rw [←ha2.1];rfl) hnil;all_goals grind
    obtain ⟨i,hi⟩:=hact;obtain ⟨b,o,q1,q2,q3⟩:=hconC id d i hd hi hnil;exact .inr ⟨b,o,(hme.acc id d i hd hi hnil).trans q1,hown _ _ _ q2 (by grind),q3⟩
 .show (match aE_ ds id with
    |some d=>_
    |none=>match az_ rn id with
     |some a=>E.φ a
     |none=>none)=none
  grind [bh_,a9_]
 .rcases hi with ⟨d,hd,hdn⟩|⟨a,hfa,ha,hva⟩
  .obtain ⟨hdm,hdi⟩:=bh_ hd;refine ⟨?_,by grind⟩;show (match aE_ ds id with
    |some d=>match fl_ (den E.sy d.x)with
     |true=>none
     |false=>match d.act with
      |some i=>E.φ i
      |none=>none
    |none=>_)=none
   grind
  grind [a9_]
 .grind [fI_]
 .grind [bh_]
 .obtain ⟨t,a',_,_,_,_,ha2⟩:=fI_ hds d hd;rw [hda]at ha2;unfold g1_ at ha2;split at ha2;simp at ha2
  .split at ha2
   .rename_i k hk;split at ha2
    .rename_i hbb;simp only [Option.some.injEq,Prod.mk.injEq]at ha2;obtain ⟨hdx,rfl⟩:=ha2;have e1:=Nat.eq_of_beq_eq_true (aa_ hbb).1;subst e1;rcases g1 _ _ hk with ⟨q1,_⟩|⟨b,o,q1,q2,len,sz'',cs,q3,_⟩
     .grind
     rw [←hdx]at hnil;simp only [den,q3]at hnil;cases hnil
    cases ha2
   cases ha2
  .split at ha2
   .split at ha2
    case h_2=>cases ha2
    split at ha2;simp only [Option.some.injEq,Prod.mk.injEq]at ha2;rw [←ha2.1]at hnil;cases hnil;cases ha2
   cases ha2
  cases ha2
omit [Gl]in
theorem oC_ {ds:List DA} {rn:List (Nat×Nat)}:∀{k:Nat},tx_ ds rn k=true->∀i,i<k->az_ rn i=some i\/(az_ rn i=none/\∃d,aE_ ds i=some d/\d.act=some i)
 |0,_,i,hi=>absurd hi (Nat.not_lt_zero _)
 |k+1,h,i,hi=>by obtain ⟨h1,h2⟩:=aa_ h;rcases Nat.lt_or_ge i k with hlt|hge;exact oC_ h2 i hlt;have:i=k:=(by omega);subst this;split at h1;rename_i a ha;rw [Nat.eq_of_beq_eq_true h1]at ha;exact .inl ha;rename_i hn;split at h1;rename_i d hd;exact .inr ⟨hn,d,hd,dh_ h1⟩;cases h1
omit [Gl]in
theorem q6_ {k:Nat} {hv:List AV}:∀{ts:List TA} {l:List Nat},nnL k hv ts=some l->∀t,t∈ts->t.id<k->(∃i,cn_ t.j hv=some (.sym i)/\i∈l)\/∃n z cs,cn_ t.j hv=some (.vsl n z cs)
 |[],l,h,t,ht,_=>by cases ht
 |q::r,l,h,t,ht,hk=>by
  unfold nnL at h;split at h;cases h;rename_i l' hl;rcases List.mem_cons.1 ht with rfl|ht
  .grind [Nat.blt_eq]
  have ih:=q6_ hl t ht hk;split at h;cases h;exact ih;split at h;cases h;exact ih.imp (λ⟨i,h1,h2⟩=>⟨i,h1,List.mem_cons_of_mem _ h2⟩) id;cases h;exact ih;cases h
theorem ny_ {P:Program} {N n lv k:Nat} {tp:Tpl} {S:VS} {mt:MT} {Y0 Y:Sy} (hm:iB_ n k tp S=some mt) (hf:Fresh Y0 n) (hx:Ext n Y0 Y) (hok:okL (ab_ Y.v mt.hv)=true) (hnn:∀i,i∈mt.nn->(Chk.nn i).ok Y):
  (ab_ Y.v mt.hv).length=tp.nv/\Weak P N k Y S.T S.H S.D (Y0.puts n (ab_ Y.v mt.hv)) (tp.inst n lv).T (tp.inst n lv).H []:=by
 unfold iB_ at hm;split at hm;cases hm;rename_i b0;split at hm;cases hm;rename_i m hmr;split at hm;cases hm;rename_i hlow;split at hm;cases hm;rename_i nl hnl;cases hm;have hD:=k1_ b0;rw [hD];have hlen:(ab_ Y.v m.hv).length=tp.nv:=by
  grind [gK_,cv_,gB_]
 refine ⟨hlen,λB pr E a w hy st=>?_⟩;have hsyE:E.sy=Y.v:=hy.v;obtain ⟨own,g1,g2,g3⟩:=st.r.own;have hc:=iC_ (w:=w) (own:=own) hmr hf (λi hi=>by rw [hsyE];exact hx i hi) (by grind) g1 (λid h=>(st.r.resv id (st.r.vds id h)).1) E.bim;rw [hsyE]at hc;obtain ⟨p1,p2,p3,p4⟩:=hf.puts (ab_ Y.v m.hv)
 let E':Env:=sk_ m E (Y0.puts n (ab_ Y.v m.hv)) E.bim
 have hphi:∀i x,i<k->E.φ i=some x->E'.φ i=some x:=λi x hi hφ=>by
  rcases oC_ hlow i hi with h|⟨h,d,hd,hda⟩
  .have:=hc.rnA i i h;show (match aE_ m.ds i with
    |some d=>_
    |none=>match az_ m.rn i with
     |some a=>E.φ a
     |none=>none)=_
   grind
  .obtain ⟨hdm,hdi⟩:=bh_ hd;obtain ⟨t,t1,t2,t3,t4⟩:=hc.acc d hdm;have hne:den E.sy d.x≠ .nsl:=by
    rcases q6_ hnl t t1 (by omega)with ⟨i',q1,q2⟩|⟨a1,a2,a3,q1⟩
    .obtain ⟨a1,a2,a3,q3⟩:=hnn i' q2
     grind [den]
    grind [den]
   show (match aE_ m.ds i with
    |some d=>match fl_ (den E.sy d.x)with
     |true=>none
     |false=>match d.act with
      |some i=>E.φ i
      |none=>none
    |none=>_)=_
   grind [j9_]
 have hle:E.leF k E':=⟨λi x hi h=>hphi i x hi h,λ_ _ h=>h,λ_ _ _ h=>h,rfl,λi hi=>by rw [hsyE,hx i (by have:=hf.1;omega)];exact p4 i hi⟩;refine ⟨E',hle,⟨rfl,rfl,λ_ h=>h⟩,⟨st.t.size,st.t.le,hc.slots a.tmps st.t.con,st.t.gl.leF hle⟩,?_,st.d⟩;obtain ⟨n1,n2⟩:=Tpl.heap_next tp n;refine { own:=⟨hs_ m own,hc.rows,λb hb=>by grind [hs_],λb o v hv=>by unfold hs_;simp only [g3 b o v hv]⟩,imm:=st.r.imm,ib:=st.r.ib,fresh:=λid h1 h2=>hc.fresh id (n1▸h1),resv:=λid hi=>?_,vds:=λ_ h=>h,szs:=st.r.szs,prot:=st.r.prot,size:=st.r.size,os:=st.r.os,output:=st.r.output };obtain ⟨h1,h2⟩:=hc.vd id hi;refine ⟨h1,λhx=>?_⟩;have:(tp.heap n).next<=id:=hx.1
 omega
end Go.Sx
namespace Go.Sx
theorem k3_:∀(n:Nat) (l:List Nat),sq_ n l=l[n]?
 |n,[]=>by cases n<;>rfl
 |0,a::r=>rfl
 |n+1,a::r=>by simp [sq_,k3_ n r]
theorem oW_:∀(l:List Nat) (a:Nat),nw_.snoc l a=l++[a]
 |[],a=>rfl
 |x::r,a=>by simp [nw_.snoc,oW_ r a]
theorem oB_ {m:MR}:∀{k:Nat} {l:List Nat},nw_ m k=some l->l.length=k/\∀i,i<k->∃a,l[i]? =some a/\iz_ m i=some a
 |0,l,h=>by cases h;simp
 |k+1,l,h=>by
  unfold nw_ at h;split at h
  case h_2=>cases h
  rename_i l' hl;split at h
  case h_2=>cases h
  rename_i a ha;cases h;obtain ⟨h1,h2⟩:=oB_ hl;rw [oW_];refine ⟨by simp [h1],λi hi=>?_⟩;rcases Nat.lt_or_ge i k with hlt|hge;obtain ⟨b,q1,q2⟩:=h2 i hlt;exact ⟨b,by rw [List.getElem?_append_left (by omega)];exact q1,q2⟩;have:i=k:=(by omega);subst this;exact ⟨a,by rw [List.getElem?_append_right (by omega),h1];simp,ha⟩
theorem jU_ {H:AHeap}:∀{l:List Nat},kW_ H l=true->∀(i:Nat) (a:Nat),l[i]? =some a->∃k,H.get a=some k
 |[],_,i,a,hi=>by simp at hi
 |b::r,h,i,a,hi=>by
  obtain ⟨h1,h2⟩:=aa_ h;cases i with
  |zero=>simp at hi;subst hi;exact Option.isSome_iff_exists.1 h1
  |succ i=>exact jU_ h2 i a (by simpa using hi)
theorem kZ_:∀{l:List (Nat×Nat)} {acc:List Nat} {a:Nat},a∈pU_ l acc↔(∃i,(i,a)∈l)\/a∈acc
 |[],acc,a=>by simp [pU_]
 |(j,b)::r,acc,a=>by
  simp only [pU_,List.mem_cons,kZ_ (l:=r)];constructor
  .rintro (rfl|⟨i,hi⟩|h)<;>grind
  grind
theorem hI_:∀{l:List DA} {acc:List Nat} {a:Nat},a∈m2_ l acc↔(∃d,d∈l/\d.act=some a)\/a∈acc
 |[],acc,a=>by simp [m2_]
 |d::r,acc,a=>by
  unfold m2_;split
  .simp only [List.mem_cons,hI_ (l:=r)]
   grind
  .rw [hI_ (l:=r)]
   grind
theorem l6_:∀{l:List (Nat×Nat)} {acc:List (Nat×Nat)} {i j:Nat},(i,j)∈tt_ l acc->(j,i)∈l\/(i,j)∈acc
 |[],acc,i,j,h=>.inr h
 |(a,b)::r,acc,i,j,h=>by rcases List.mem_cons.1 h with h|h;cases h;exact .inl (List.mem_cons_self ..);exact (l6_ (l:=r) h).imp (List.mem_cons_of_mem _) id
theorem iv_:∀{l:List DA} {acc:List (Nat×Nat)} {i j:Nat},(i,j)∈qL_ l acc->(∃d,d∈l/\d.act=some i)\/(i,j)∈acc
 |[],acc,i,j,h=>.inr h
 |d::r,acc,i,j,h=>by unfold qL_ at h;split at h;rename_i q hq;rcases List.mem_cons.1 h with h|h;cases h;exact .inl ⟨d,List.mem_cons_self ..,hq⟩;exact (iv_ (l:=r) h).imp (λ⟨x,h1,h2⟩=>⟨x,List.mem_cons_of_mem _ h1,h2⟩) id;exact (iv_ (l:=r) h).imp (λ⟨x,h1,h2⟩=>⟨x,List.mem_cons_of_mem _ h1,h2⟩) id
def MR.act (m:MR):List Nat:=m2_ m.ds (pU_ m.rn [])
theorem sh_ {m:MR} {i j:Nat} (h:az_ m.inv i=some j):i∈m.act:=by
 rw [MR.act,hI_];rcases iv_ (a9_ h)with h|h;exact .inl h
 .rcases l6_ h with h|h<;>grind [kZ_]
theorem si_ {m:MR} {i a:Nat} (h:iz_ m i=some a):a∈m.act:=by
 rw [MR.act,hI_];unfold iz_ at h;split at h;rename_i b hb;cases h;exact .inr (kZ_.2 (.inl ⟨i,a9_ hb⟩))
 grind [bh_]
structure MovOk (hv:List AV) (n:Nat) (r:Nat->Nat) (E1 E2:Env):Prop where
 φ:∀i x,i<top->E1.φ i=some x->E2.φ (r i)=some x
 sz:∀b n,E1.sz b=some n->E2.sz b=some n
 imm:∀b o v,E1.imm b o=some v->E2.imm b o=some v
 sy:∀i a,E1.sy i=some a->E2.sy (sgS hv n i)=some a
 cst:∀i a x,E1.sy i=some a->¬i<64->cn_ (i-64) hv=some x->okC x=true->x=a
theorem fO_ {hv:List AV} {n:Nat} {r:Nat->Nat} {E1 E:Env} (h:MovOk hv n r E1 E) {a:AV} {v:Value} (hc:Con0 E1 a v):Con0 E a v:=b5_ h.imm hc
theorem eR_ {i:Nat} (h:Nat.blt i top=true):i<top:=by simp_all
mutual
theorem hz_ {hv:List AV} {n:Nat} {r:Nat->Nat} {E1 E:Env} (h:MovOk hv n r E1 E):∀{a:AV} {v:Value},i9_ a=true->Con E1 a v->Con E (dn_ hv n r a) v
 | .opq,_,_,hc=>by simp [dn_,Con]
 | .bool _,_,_,hc=>by grind [dn_,Con]
 | .int _ _,_,_,hc=>by grind [dn_,Con]
 | .flt _ _,_,_,hc=>by grind [dn_,Con]
 | .nan _,_,_,hc=>by grind [dn_,Con]
 | .str _,_,_,hc=>by grind [dn_,Con]
 | .nptr,_,_,hc=>by grind [dn_,Con]
 | .nsl,_,_,hc=>by grind [dn_,Con]
 | .nmap,_,_,hc=>by grind [dn_,Con]
 | .nfn,_,_,hc=>by grind [dn_,Con]
 | .nif,_,_,hc=>by grind [dn_,Con]
 | .ptr id off,v,ht,hc=>by obtain ⟨b,o,h1,h2⟩:=hc;exact ⟨b,o,h.φ _ _ (eR_ ht) h1,h2⟩
 | .sl id off len sz cap,v,ht,hc=>by obtain ⟨b,o,n,c,off',h1,h2,h3⟩:=hc;exact ⟨b,o,n,c,off',h.φ _ _ (eR_ ht) h1,h.sz _ _ h2,h3⟩
 | .map id,v,ht,hc=>by obtain ⟨b,h1,h2⟩:=hc;exact ⟨b,h.φ _ _ (eR_ ht) h1,h2⟩
 | .slx id sz i,v,ht,hc=>by obtain ⟨a,h1,h2⟩:=hc;refine ⟨a,h.sy _ _ h1,h2.imp (λh=>h) λh2=>?_⟩;obtain ⟨len,cs,e,b,o,n,c,off',k1,k2,k3⟩:=h2;exact ⟨len,cs,e,b,o,n,c,off',h.φ _ _ (eR_ ht) k1,h.sz _ _ k2,k3⟩
 | .ptx id j sz off,v,ht,hc=>by obtain ⟨k,n,h1,b,o,h2,h3⟩:=hc;exact ⟨k,n,h.sy _ _ h1,b,o,h.φ _ _ (eR_ ht) h2,h3⟩
 | .vptr cs,v,ht,hc=>by obtain ⟨b,o,vs,h1,h2,h3⟩:=hc;exact ⟨b,o,vs,h1,dv_ h ht h2,λi v hv=>h.imm _ _ _ (h3 i v hv)⟩
 | .vsl len sz cs,v,ht,hc=>by obtain ⟨b,o,vs,c,h1,h2,h3,h4⟩:=hc;exact ⟨b,o,vs,c,h1,h2,dv_ h ht h3,λi v hv=>h.imm _ _ _ (h4 i v hv)⟩
 | .fn f cs,v,ht,hc=>by simp only [i9_]at ht;simp only [dn_,Con]at hc⊢;obtain ⟨vs,h1,h2⟩:=hc;exact ⟨vs,h1,dv_ h ht h2⟩
 | .iface t a,v,ht,hc=>by simp only [i9_]at ht;simp only [dn_,Con]at hc⊢;obtain ⟨u,h1,h2⟩:=hc;exact ⟨u,h1,hz_ h ht h2⟩
 | .agg cs,v,ht,hc=>by simp only [i9_]at ht;simp only [dn_,Con]at hc⊢;obtain ⟨vs,h1,h2⟩:=hc;exact ⟨vs,h1,dv_ h ht h2⟩
 | .tup cs,v,ht,hc=>by simp only [i9_]at ht;simp only [dn_,Con]at hc⊢;obtain ⟨vs,h1,h2⟩:=hc;exact ⟨vs,h1,dv_ h ht h2⟩
 | .sym i,v,_,hc=>by
   obtain ⟨a,h1,h2,h3⟩:=hc;have key:Con E (.sym (sgS hv n i)) v:=(by exact ⟨a,h.sy _ _ h1,h2,fO_ h h3⟩);simp only [dn_];unfold sgV;split
   .grind [sgS]
   .rename_i hb;have hlt:¬i<64:=λhlt=>by
     grind [Nat.blt_eq]
    split;rename_i x hx;split;rename_i hok;have:=h.cst i a x h1 hlt hx hok;subst this;exact (fO_ h h3).con;exact key;exact key
theorem dv_ {hv:List AV} {n:Nat} {r:Nat->Nat} {E1 E:Env} (h:MovOk hv n r E1 E):∀{as:List AV} {vs:List Value},ja_ as=true->ConL E1 as vs->ConL E (fe_ hv n r as) vs
 |[],_,_,hc=>by grind [fe_,ConL]
 |a::as,vs,ht,hc=>by obtain ⟨t1,t2⟩:=aa_ ht;simp only [fe_,ConL]at hc⊢;obtain ⟨v,t,h1,h2,h3⟩:=hc;exact ⟨v,t,h1,hz_ h t1 h2,dv_ h t2 h3⟩
end
theorem mg_ (hv:List AV) (n:Nat) (r:Nat->Nat):∀(cs:List AV) (i:Nat),(fe_ hv n r cs)[i]? =cs[i]?.map (dn_ hv n r)
 |[],i=>by simp [fe_]
 |a::cs,0=>by simp [fe_]
 |a::cs,i+1=>by simpa [fe_]using mg_ hv n r cs i
theorem hj_ (hv:List AV) (n:Nat) (r:Nat->Nat):∀cs:List AV,(fe_ hv n r cs).length=cs.length
 |[]=>rfl
 |a::cs=>by simp [fe_,hj_ hv n r cs]
theorem oZ_:∀{cs:List AV},ja_ cs=true->∀(i:Nat) (a:AV),cs[i]? =some a->i9_ a=true
 |[],_,i,a,h=>by simp at h
 |b::r,ht,i,a,h=>by
  obtain ⟨t1,t2⟩:=aa_ ht;cases i with
  |zero=>simp at h;subst h;exact t1
  |succ i=>exact oZ_ t2 i a (by simpa using h)
def uC_:ABlk->Prop
 | .cells cs=>ja_ cs=true
 |_=>True
theorem r4_ {hv:List AV} {n:Nat} {r:Nat->Nat} {E1 E:Env} (h:MovOk hv n r E1 E) {w:World} {b o:Nat} {k k':ABlk} (ht:uC_ k) (hm:qY_ hv n r k=some k') (hk:BlkAt E1 w b o k):BlkAt E w b o k':=by
 cases k with
 |cells cs=>
  cases hm;obtain ⟨arr,t,h1,h2,h3,h4⟩:=hk;refine ⟨arr,t,h1,h.sz _ _ h2,by rw [hj_];exact h3,λi a ha=>?_⟩;rw [mg_]at ha;cases hc:cs[i]? with
  |none=>grind
  |some a'=>rw [hc]at ha;cases ha;obtain ⟨v,hv',hcon⟩:=h4 i a' hc;exact ⟨v,hv',hz_ h (oZ_ ht i a' hc) hcon⟩
 |syl j=>
  cases hm;obtain ⟨len,sz,cs,h0,hlen,arr,t,h1,h2,h3,h4⟩:=hk;refine ⟨len,sz,cs,h.sy _ _ h0,hlen,arr,t,h1,h.sz _ _ h2,h3,λi a ha=>?_⟩
  grind [fO_]
 |mpl j=>cases hm;obtain ⟨h0,n,cs,h1,es',clock,h2,h3,h4⟩:=hk;exact ⟨h0,n,cs,h.sy _ _ h1,es',clock,h2,h3,h4.imp λ_ _ hc=>fO_ h hc⟩
 |map es c=>cases hm
 |fz cs=>cases hm
theorem rR_ {hv:List AV} {n:Nat} {r:Nat->Nat} {E1 E:Env} (h:MovOk hv n r E1 E) {k k':ABlk} (hm:qY_ hv n r k=some k') (hk:Void E1 k):Void E k':=by
 cases k with
 |syl j=>cases hm;exact h.sy _ _ hk
 |cells cs=>exact hk.elim
 |mpl j=>exact hk.elim
 |map es c=>cases hm
 |fz cs=>cases hm
theorem f9_ {hv:List AV} {n:Nat} {r:Nat->Nat} {F base:AHeap} (hr:∀id k,F.get id=some k->r id<top):∀(ids:List Nat) (x:Nat) (kk:ABlk),(k0_ hv n r F base ids).get x=some kk->(∃id k,x=r id/\F.get id=some k/\qY_ hv n r k=some kk)\/base.get x=some kk
 |[],x,kk,h=>.inr h
 |id::l,x,kk,h=>by
  unfold k0_ at h;split at h
  .rename_i k hk;split at h
   .rename_i k' hk';by_cases e:r id=x
    .subst e;rw [AHeap.get_set_same _ (hr id k hk)]at h
     grind
    rw [AHeap.get_set_ne _ (hr id k hk) e]at h;exact f9_ hr l x kk h
   exact f9_ hr l x kk h
  exact f9_ hr l x kk h
theorem j6_ {hv:List AV} {n:Nat} {r:Nat->Nat} {F base:AHeap}:∀(ids:List Nat),(k0_ hv n r F base ids).next=base.next/\(k0_ hv n r F base ids).hi=base.hi
 |[]=>⟨rfl,rfl⟩
 |id::l=>by have:=j6_ (hv:=hv) (n:=n) (r:=r) (F:=F) (base:=base) l;unfold k0_;split;split;exact this;exact this;exact this
theorem dJ_:∀{ms:List (Nat×Nat)} {acc:List Nat} {id:Nat},id∈pB_ ms acc↔(∃j,(id,j)∈ms)\/id∈acc
 |[],acc,id=>by simp [pB_]
 |(i,j)::r,acc,id=>by
  simp only [pB_,List.mem_cons,dJ_ (ms:=r)];constructor
  .rintro (rfl|⟨q,h⟩|h)<;>grind
  grind
theorem j5_:∀{rows:List (Nat×List AV)} {id:Nat},id∈l4_ rows↔∃cs,(id,cs)∈rows
 |[],id=>by simp [l4_]
 |(i,c)::r,id=>by
  simp only [l4_,List.mem_cons,j5_ (rows:=r)];constructor
  .rintro (rfl|⟨q,h⟩)<;>grind
  grind
theorem f8_:∀{ts:List TA} {l:List Nat} {id:Nat},id∈cV_ ts l↔(∃t,t∈ts/\t.id=id)\/id∈l
 |[],l,id=>by simp [cV_]
 |t::r,l,id=>by
  simp only [cV_,List.mem_cons,f8_ (ts:=r)]
  grind
theorem o0_:∀{l:List Nat},pY_ l=true->∀id,id∈l->id<top
 |[],_,id,h=>by cases h
 |i::r,ht,id,h=>by obtain ⟨t1,t2⟩:=aa_ ht;rcases List.mem_cons.1 h with rfl|h;exact eR_ t1;exact o0_ t2 id h
theorem o1_ {n:Nat}:∀{rows:List (Nat×List AV)},pZ_ n rows=true->∀id cs,(id,cs)∈rows->ja_ (bS_ n cs)=true
 |[],_,id,cs,h=>by cases h
 |(i,c)::r,ht,id,cs,h=>by obtain ⟨t1,t2⟩:=aa_ ht;rcases List.mem_cons.1 h with h|h;cases h;exact t1;exact o1_ t2 id cs h
theorem it_ {n:Nat} {H0:AHeap}:∀{ts:List TA},(∀t,t∈ts->t.id<top)->∀id k,(hg_ n H0 ts).get id=some k->(∃j,k=.syl j)\/H0.get id=some k
 |[],_,id,k,hk=>.inr hk
 |t::r,hlt,id,k,hk=>by
  have ht:=hlt t (List.mem_cons_self ..);unfold hg_ at hk;by_cases e:t.id=id
  .subst e;rw [AHeap.get_set_same _ ht]at hk
   grind
  rw [AHeap.get_set_ne _ ht e]at hk;exact it_ (λd hd=>hlt d (List.mem_cons_of_mem _ hd)) id k hk
theorem qK_ {tp:Tpl} {n:Nat} (hr:pZ_ n tp.rows=true) (hN:pY_ (cV_ tp.acc tp.ids)=true):∀id k,(tp.heap n).get id=some k->uC_ k:=by intro id k hk;have hid:∀i,i∈cV_ tp.acc tp.ids->i<top:=o0_ hN;have h1:∀a b,(a,b)∈tp.fix->a<top:=λa b h=>hid a (f8_.2 (.inr (dJ_.2 (.inl ⟨b,h⟩))));have h2:∀a b,(a,b)∈tp.maps->a<top:=λa b h=>hid a (f8_.2 (.inr (dJ_.2 (.inr (dJ_.2 (.inl ⟨b,h⟩))))));have h3:∀a b,(a,b)∈tp.rows->a<top:=λa b h=>hid a (f8_.2 (.inr (dJ_.2 (.inr (dJ_.2 (.inr (j5_.2 ⟨b,h⟩)))))));have h4:∀t,t∈tp.acc->t.id<top:=λt h=>hid _ (f8_.2 (.inl ⟨t,h,rfl⟩));rcases gC_ tp.fix h1 id k hk with ⟨j,_,rfl⟩|hk;trivial;rcases gF_ tp.maps h2 id k hk with ⟨j,_,rfl⟩|hk;trivial;rcases it_ h4 id k hk with ⟨j,rfl⟩|hk;trivial;obtain ⟨cs,h5,rfl⟩:=gD_ tp.rows h3 id k hk;exact o1_ hr id cs h5
theorem l5_ {n:Nat}:∀{slots:List (Nat×AV)} {i:Nat},i3_ i slots=true->∀j a,(bS_ n (eN_ slots))[j]? =some a->i+j<512/\tget (c2_ n slots) (i+j)=a
 |[],i,_,j,a,h=>by simp [eN_,bS_]at h
 |(q,b)::r,i,hs,j,a,h=>by
  obtain ⟨e1,hs⟩:=aa_ hs;obtain ⟨e2,hs3⟩:=aa_ hs;have e1:=Nat.eq_of_beq_eq_true e1;subst e1;have e2:i<512:=(by simp_all);simp only [eN_,bS_]at h;show _/\tget (eM_ (c2_ n r) i (bv_ n b)) (i+j)=a;cases j with
  |zero=>
   grind [aq_]
  |succ j=>
   obtain ⟨h1,h2⟩:=l5_ (i:=i+1) hs3 j a (by simpa using h)
   grind [ar_]
theorem eG_:∀{Y:Sy} {n:Nat} (l:List AV),Fresh Y n->∀(i:Nat) (a:AV),(Y.puts n l).v i=some a->Y.v i=some a\/∃q,i=n+q/\l[q]? =some a
 |Y,n,[],_,i,a,h=>.inl h
 |Y,n,b::r,hf,i,a,h=>by
  rcases eG_ (Y:=Y.put n b) (n:=n+1) r (hf.put b) i a h with h|⟨q,e,h⟩
  .by_cases e:i=n
   .subst e;rw [Sy.put_same]at h;grind
   grind [Sy.put_ne]
  exact .inr ⟨q+1,by omega,by simpa using h⟩
theorem qj_ {i:Nat} (h:64<=i):Nat.blt i 64=false:=by
 grind [Nat.blt_eq]
variable [Gl]
theorem tm_ {P:Program} {f:FuncId} {ft:FT} {T1:Tm} {S:VS} {m:MR} {low:List Nat} {Y:Sy} {Q:Nat->List AV->Prop} {nargs:Nat} (hm:gK_ 64 ft.ent T1 S.H=some m) (hlow:nw_ m ft.k=some low) (hroom:oU_ ft.k (64+ft.ent.nv) S.H ft.exs=true) (hhi:S.H.hi<=top)
  (hna:nargs=(eN_ ft.ent.slots).length) (hsl:i3_ 0 ft.ent.slots=true) (cf_:kW_ S.H low=true) (hF:CF P f ft (ab_ Y.v m.hv) Q) (hok:okL (ab_ Y.v m.hv)=true) (hf:Fresh Y S.n)
  {B:World} {pr:Nat->Prop} {E:Env} {w:World} {us:List Value} (hy:E.At Y) (hg:GlOk E) (hr:Rel B pr E S.H w) (hus:us.length=nargs) (hc:∀t,t<512->Con E (tget T1 t) ((⟨us⟩:Array Value).getD t undef)) (kk:Nat):
  Calls P f ⟨us⟩ w λe w'=>∃j ws b tp E2 v,ft.exs[j]? =some (b,tp)/\Q j ws/\okL ws=true/\ws.length=tp.nv/\(∀i x,E.sy i=some x->((Y.puts S.n (ab_ Y.v m.hv)).puts (S.n+ft.ent.nv) ws).v i=some x)/\
   (E.with ((Y.puts S.n (ab_ Y.v m.hv)).puts (S.n+ft.ent.nv) ws)).sub E2/\E.leF kk E2/\E2.At ((Y.puts S.n (ab_ Y.v m.hv)).puts (S.n+ft.ent.nv) ws)/\Rel B pr E2 (exH ft m low S tp) w'/\Con E2 (exV ft m low S tp) v/\
   e=(match b with
    |true=>.panicked [{ v:=v,recovered:=false }]
    |false=>.returned v):=by
 obtain ⟨own,g1,g2,g3,g4⟩:∃own:Nat->Option Nat,(∀id k,S.H.get id=some k->RowAt E w own id k)/\(∀b,pr b->own b=none)/\(∀b o v,E.imm b o=some v->own b=none)/\∀b,¬b<w.heap.size->own b=none:=by obtain ⟨own,g1,g2,g3⟩:=hr.own;refine ⟨λb=>if b<w.heap.size then own b else none,λid k hk=>?_,λb hb=>?_,λb o v hi=>?_,λb hb=>if_neg hb⟩;exact (g1 id k hk).imp (λ_ h=>h) (λh=>h) λb o h1 h2 h3=>⟨(if_pos h3.lt).trans h2,h3⟩;all_goals grind
 have hvd0:∀id,E.vd id->E.φ id=none/\¬(S.H.next<=id/\id<S.H.hi):=λid h=>hr.resv id (hr.vds id h);generalize hvs:ab_ Y.v m.hv=vs at*;have hvs':ab_ E.sy m.hv=vs:=by rw [hy.v];exact hvs
 have hvlen:vs.length=ft.ent.nv:=hF.1
 let Yg:Sy:=⟨λi=>if i<64 then Y.v i else none,Y.l⟩
 have hfg:Fresh Yg 64:=⟨Nat.le_refl _,λi hi=>if_neg (by omega)⟩;have hmc:=iC_ (w:=w) (own:=own) (Y0:=Yg) hm hfg (λi hi=>by rw [hy.v];grind) (by grind) g1 (λid h=>(hvd0 id h).1) E.imm;rw [hvs']at hmc;obtain ⟨p1,p2,p3,p4⟩:=hfg.puts vs;generalize hE1:sk_ m E (Yg.puts 64 vs) E.imm=E1 at hmc;have e1sz:E1.sz=E.sz:=by rw [←hE1];rfl
 have e1imm:E1.imm=E.imm:=by rw [←hE1];rfl
 have e1bim:E1.bim=E.imm:=by rw [←hE1];rfl
 have e1sy:E1.sy=(Yg.puts 64 vs).v:=by rw [←hE1];rfl
 have e1syl:E1.syl=(Yg.puts 64 vs).l:=by rw [←hE1];rfl
 have e1res:E1.res=E1.vd:=by rw [←hE1];rfl
 have e1low:∀i,i<64->E1.sy i=E.sy i:=λi hi=>by rw [e1sy,p4 i hi,hy.v];grind
 obtain ⟨hn1,hn2⟩:=Tpl.heap_next ft.ent 64
 let pr':Nat->Prop:=λb=>b<w.heap.size/\hs_ m own b=none
 have hrel1:Rel w pr' E1 (ft.ent.heap 64) w:={
  own:=⟨hs_ m own,hmc.rows,λb hb=>hb.2,λb o v hv=>by unfold hs_;rw [g3 b o v (by grind)]⟩
  imm:=by rw [e1imm];exact hr.imm
  ib:=λb o v _ hv=>by grind
  fresh:=λid h1 _=>hmc.fresh id (hn1▸h1)
  resv:=λid hi=>by
   rw [e1res]at hi;obtain ⟨h1,h2⟩:=hmc.vd id hi
   grind
  vds:=λid h=>by grind
  szs:=by rw [e1sz];exact hr.szs
  prot:=λb hb=>⟨hb.1,rfl⟩
  size:=Nat.le_refl _
  os:=rfl
  output:=rfl }
 have hgl1:GlOk E1:=⟨λg=>ck_ (E:=E) (E':=E1) (λ_ _ _ h=>by grind) (λi a hi hx=>by grind) (Gl.nr g) (hg.1 g),Gl.gtm _ _ e1low hg.2⟩;have hcl:ConL E1 (bS_ 64 (eN_ ft.ent.slots)) us:=by have hs:=hmc.slots ⟨us⟩ hc;refine ConL.of_at (by rw [gE_,hus,hna]) λi a v h1 h2=>?_;obtain ⟨h3,h4⟩:=l5_ hsl i a h1;rw [Nat.zero_add]at h3 h4;have:=hs i h3;simp_all
 refine Calls.mono (hF.2 Yg hfg w pr' E1 w us ⟨e1sy,e1syl,λid h=>by grind⟩ hgl1 hrel1 hcl) λe w' he=>?_;obtain ⟨Y1,r1,⟨j,ws,b,tp,hj,hQ,hokw,hlw,rfl,rfl⟩,E1',hle1,hy1,hres⟩:=he;have hrm:ft.k<=tp.next/\S.H.next+(tp.next-ft.k)<S.H.hi/\i9_ (tget (c2_ (64+ft.ent.nv) tp.slots) 0)=true/\pZ_ (64+ft.ent.nv) tp.rows=true/\pY_ (cV_ tp.acc tp.ids)=true:=by
  have:∀(l:List (Bool×Tpl)) (j:Nat),oU_ ft.k (64+ft.ent.nv) S.H l=true->l[j]? =some (b,tp)->ft.k<=tp.next/\S.H.next+(tp.next-ft.k)<S.H.hi/\i9_ (tget (c2_ (64+ft.ent.nv) tp.slots) 0)=true/\pZ_ (64+ft.ent.nv) tp.rows=true/\pY_ (cV_ tp.acc tp.ids)=true:=by
   intro l
   induction l with
   |nil=>simp
   |cons q r ih=>
    intro j h hj;obtain ⟨q1,h⟩:=aa_ h;obtain ⟨q2,h⟩:=aa_ h;obtain ⟨q3,h⟩:=aa_ h;obtain ⟨q4,h⟩:=aa_ h;obtain ⟨q5,h⟩:=aa_ h;cases j with
    |zero=>simp_all
    |succ j=>grind
  grind
 obtain ⟨hk,hnx,htv,htr,htn⟩:=hrm;have hend:∃u,e=(match b with
       |true=>.panicked [{ v:=u,recovered:=false }]
       |false=>.returned u)/\Con E1' (tget (c2_ (64+ft.ent.nv) tp.slots) 0) u/\Rel w pr' E1' (tp.heap (64+ft.ent.nv)) w':=by
  grind
 obtain ⟨u,he,hcu,hr1'⟩:=hend;obtain ⟨lw1,lw2⟩:=oB_ hlow
 let nx:=S.H.next
 let r:Nat->Nat:=rl_ low ft.k nx
 have rlow:∀i,i<ft.k->∃a k,r i=a/\iz_ m i=some a/\S.H.get a=some k:=λi hi=>by
  grind [jU_,rl_,k3_]
 have rnew:∀i,ft.k<=i->r i=nx+(i-ft.k):=λi hi=>by
  grind [rl_,k3_]
 have hold:∀a k,S.H.get a=some k->¬(nx<=a/\a<S.H.hi):=λa k hk hx=>by
  rcases g1 a k hk with ⟨h1,_⟩|⟨b,o,h1,_⟩
  .grind
  rw [hr.fresh a hx.1 hx.2]at h1;cases h1
 have rinj:∀i j,i<tp.next->j<tp.next->r i=r j->i=j:=λi j hi hj e=>by
  rcases Nat.lt_or_ge i ft.k with h1|h1
  .obtain ⟨a,ka,ra,la,ga⟩:=rlow i h1;rcases Nat.lt_or_ge j ft.k with h2|h2
   .refine hmc.inj i j a ?_ ?_<;>grind [iz_]
   grind
  .rcases Nat.lt_or_ge j ft.k with h2|h2<;>grind
 have e1φ:∀i,i<ft.k->E1.φ i=E.φ (r i):=λi hi=>by
  obtain ⟨a,ka,ra,la,ga⟩:=rlow i hi;rw [ra,←hE1];show (match aE_ m.ds i with
   |some d=>match fl_ (den E.sy d.x)with
    |true=>none
    |false=>match d.act with
     |some i=>E.φ i
     |none=>none
   |none=>match az_ m.rn i with
    |some a=>E.φ a
    |none=>none)=_
  unfold iz_ at la;split at la;rename_i q hq;cases la;rw [hmc.rnA i a hq,hq]
  .split at la
   .rename_i d hd;rw [hd];simp only [la];cases hnl:fl_ (den E.sy d.x)with
    |true=>exact (hmc.accN d a (bh_ hd).1 la hnl).symm
    |false=>rfl
   cases la
 have e1lt:∀i x,i<top->E1'.φ i=some x->i<tp.next:=λi x hi hx=>by rcases Nat.lt_or_ge i tp.next with h|h;exact h;obtain ⟨a1,a2⟩:=Tpl.heap_next tp (64+ft.ent.nv);rw [hr1'.fresh i (by omega) (by omega)]at hx;cases hx
 generalize hYy:(Y.puts S.n vs).puts (S.n+ft.ent.nv) ws=Y' at*;have hfn:=hf.puts vs;rw [hvlen]at hfn;obtain ⟨f1,f2,f3,f4⟩:=hfn;obtain ⟨f5,f6,f7,f8⟩:=f1.puts ws;rw [hYy]at f5 f6 f7 f8;have hYv:∀i x,E.sy i=some x->Y'.v i=some x:=λi x hx=>f6 i x (f2 i x (by rw [←hy.v];exact hx));have hYl:∀i l,E.syl i=some l->Y'.l i=some l:=λi l hx=>by rw [f7,f3,←hy.l];exact hx
 have hYlo:∀i,i<64->Y'.v i=E.sy i:=λi hi=>by grind
 have e1'sy:E1'.sy=((Yg.puts 64 vs).puts (64+ft.ent.nv) ws).v:=hy1.v;have p1':Fresh (Yg.puts 64 vs) (64+ft.ent.nv):=by grind
 have hvo:∀i a,vs[i]? =some a->okC a=true:=λi a ha=>cO_ hok a (List.mem_of_getElem? ha);have hhv:m.hv.length=ft.ent.nv:=by
  have:=congrArg List.length hvs
  grind [cv_]
 have hat:∀i a,E1'.sy i=some a->(i<64/\Y.v i=some a)\/(∃q,i=64+q/\vs[q]? =some a)\/∃q,i=64+ft.ent.nv+q/\ws[q]? =some a:=λi a ha=>by
  rw [e1'sy]at ha;rcases eG_ ws p1' i a ha with ha|⟨q,e,hq⟩
  .rcases eG_ vs hfg i a ha with ha|⟨q,e,hq⟩<;>grind
  grind
 have hvq:∀q x,m.hv[q]? =some x->vs[q]? =some (den Y.v x):=λq x hx=>by rw [←hvs];exact fS_ Y.v m.hv q x hx
 classical
 let φ2:Nat->Option (Nat×Nat):=λi=>match E.φ i with
  |some x=>some x
  |none=>if hx:∃j,j<tp.next/\i=r j then E1'.φ (Classical.choose hx)else none
 have hφ2:∀j,j<tp.next->(∀x,E.φ (r j)=some x->E1'.φ j=some x)->φ2 (r j)=E1'.φ j:=λj hj hx=>by
  show (match E.φ (r j)with
   |some x=>some x
   |none=>if hx:∃j',j'<tp.next/\r j=r j' then E1'.φ (Classical.choose hx)else none)=_
  cases hE:E.φ (r j)with
  |some x=>grind
  |none=>
   have hex:∃j',j'<tp.next/\r j=r j':=⟨j,hj,rfl⟩
   grind
 have hφk:∀j,j<tp.next->∀x,E.φ (r j)=some x->E1'.φ j=some x:=λj hj x hx=>by rcases Nat.lt_or_ge j ft.k with h|h;exact hle1.phi j x h ((e1φ j h).trans hx);rw [rnew j h,hr.fresh _ (by omega) (by omega)]at hx;cases hx
 let vd2:Nat->Prop:=λid=>(E.vd id/\id∉m.act)\/∃j,j<tp.next/\id=r j/\E1'.vd j
 let E2:Env:=⟨φ2,E1'.sz,E1'.imm,vd2,E.bim,Y'.v,Y'.l,vd2⟩
 have hmov:MovOk m.hv S.n r E1' E2:={
  φ:=λi x hi hx=>by
   grind
  sz:=λ_ _ h=>h
  imm:=λ_ _ _ h=>h
  sy:=λi a ha=>by
   rcases hat i a ha with ⟨hi,ha⟩|⟨q,rfl,hq⟩|⟨q,rfl,hq⟩
   .grind [sgS,Nat.blt_eq]
   .have hb:Nat.blt (64+q) 64=false:=qj_ (by omega);have hsub:Nat.sub (64+q) 64=q:=(by simp);have hdef:Y'.v (S.n+q)=some a:=f6 _ _ (bI_ vs hf q a hq);unfold sgS;rw [hb];simp only [hsub,d0_];split
    .rename_i s hs;have:=hvq q _ hs;rw [hq]at this;cases hs':Y.v s with
     |none=>simp only [den,hs']at this;cases this;have:=hvo q _ hq;cases this
     |some y=>
      grind [den]
    exact hdef
   .have hb:Nat.blt (64+ft.ent.nv+q) 64=false:=qj_ (by omega);have hdef:Y'.v (S.n+ft.ent.nv+q)=some a:=(by rw [←hYy];exact bI_ ws f1 q a hq);unfold sgS;rw [hb]
    grind [d0_]
  cst:=λi a x ha hi hx hxo=>by rw [d0_]at hx;rcases hat i a ha with ⟨hi',_⟩|⟨q,rfl,hq⟩|⟨q,rfl,hq⟩;omega;all_goals grind [hB_] }
 have hsub:(E.with Y').sub E2:=⟨λi x hx=>by
  have hx:E.φ i=some x:=hx
  grind,λb n hb=>hle1.sz b n (by rw [e1sz];exact hb),λb o v hb=>hle1.imm b o v (by rw [e1imm];exact hb),rfl,rfl⟩
 obtain ⟨n1,n2⟩:=Tpl.heap_next tp (64+ft.ent.nv);obtain ⟨own1,o1,o2,o3⟩:=hr1'.own;have hbim1:E1'.bim=E.imm:=hle1.bim.trans e1bim;have hres1:∀id,E1'.vd id->E1'.φ id=none:=λid h=>(hr1'.resv id (hr1'.vds id h)).1;have hpr:∀b,pr b->pr' b:=λb hb=>⟨Nat.lt_of_lt_of_le (hr.prot b hb).1 hr.size,by grind [hs_]⟩;have hfree:∀b id,b<w.heap.size->own b=some id->id∉m.act->pr' b:=λb id hb ho hn=>⟨hb,by
  unfold hs_;rw [ho];cases hf:az_ m.inv id<;>grind [az_,id,absurd,sh_]⟩
 have himm1:∀b o v,pr' b->E1'.imm b o=some v->E.imm b o=some v:=λb o v hb hv=>by rw [←hbim1];exact hr1'.ib b o v hb hv
 let own2:Nat->Option Nat:=λb=>match own1 b with
  |some j=>some (r j)
  |none=>match own b with
   |some id=>if id∈m.act then none else some id
   |none=>none
 refine ⟨j,ws,b,tp,E2,u,hj,hQ,hokw,hlw,?_⟩;rw [hYy];refine ⟨hYv,hsub,⟨λi x _ hx=>hsub.1 i x hx,λb n hb=>hsub.2.1 b n hb,λb o v hb=>hsub.2.2.1 b o v hb,rfl,hYlo⟩,⟨rfl,rfl,λ_ h=>h⟩,?_,hz_ hmov htv hcu,he⟩;have hbase:∀id k,(cD_ S.H m.act).get id=some k->S.H.get id=some k/\id∉m.act:=λid k h=>dH_ m.act id k h;have hrt:∀j k,(tp.heap (64+ft.ent.nv)).get j=some k->r j<top:=λj k hjk=>by
  have hjl:=AHeap.get_lt hjk;rcases Nat.lt_or_ge j ft.k with h1|h1;obtain ⟨a,ka,ra,la,ga⟩:=rlow j h1;rw [ra];exact AHeap.get_lt ga
  .rw [rnew j h1];have hjn:j<tp.next:=by
    rcases o1 j k hjk with ⟨q1,_⟩|⟨bb,oo,q1,_⟩;rcases Nat.lt_or_ge j tp.next with h|h;exact h;exact absurd ⟨by omega,by omega⟩ (hr1'.resv j (hr1'.vds j q1)).2
    grind
   omega
 have hH2:∀id kk,(exH ft m low S tp).get id=some kk->(∃j k,id=r j/\(tp.heap (64+ft.ent.nv)).get j=some k/\qY_ m.hv S.n r k=some kk)\/(S.H.get id=some kk/\id∉m.act):=λid kk h=>by rcases f9_ (r:=r) hrt _ id kk h with h|h;exact .inl h;refine .inr (hbase id kk ?_);exact h
 obtain ⟨m1,m2⟩:=j6_ (hv:=m.hv) (n:=S.n) (r:=r) (F:=tp.heap (64+ft.ent.nv)) (base:=(⟨(cD_ S.H m.act).tr,Nat.add S.H.next (Nat.sub tp.next ft.k),(cD_ S.H m.act).hi⟩:AHeap)) (cV_ tp.acc tp.ids);have hnext:(exH ft m low S tp).next=nx+(tp.next-ft.k):=m1
 have hhi2:(exH ft m low S tp).hi=S.H.hi:=m2.trans (bA_ m.act).2;have hnotr:∀id,E.φ id=none->(∀j,j<tp.next->id≠r j)->φ2 id=none:=λid h1 h2=>by
  grind
 refine { own:=⟨own2,λid kk hkk=>?_,λb hb=>?_,λb o v hv=>?_⟩,imm:=hr1'.imm,ib:=λb o v hb hv=>hr.ib b o v hb (himm1 b o v (hpr b hb) hv),fresh:=λid h1 h2=>?_,resv:=λid hi=>?_,vds:=λ_ h=>h,szs:=hr1'.szs,prot:=λb hb=>⟨(hr.prot b hb).1,(hr1'.prot b (hpr b hb)).2.trans (hr.prot b hb).2⟩,size:=Nat.le_trans hr.size hr1'.size,os:=hr1'.os.trans hr.os,output:=hr1'.output.trans hr.output }
 .rcases hH2 id kk hkk with ⟨j,k,rfl,hjk,hmv⟩|⟨hk,hna⟩;have hjl:=AHeap.get_lt hjk;have htb:=qK_ htr htn j k hjk;rcases o1 j k hjk with ⟨q1,q2⟩|⟨bb,oo,q1,q2,q3⟩;have hjn:j<tp.next:=(by rcases Nat.lt_or_ge j tp.next with h|h;exact h;exact absurd ⟨by omega,by omega⟩ (hr1'.resv j (hr1'.vds j q1)).2);exact .inl ⟨.inr ⟨j,hjn,rfl,q1⟩,rR_ hmov hmv q2⟩;exact .inr ⟨bb,oo,hmov.φ j _ hjl q1,by grind,r4_ hmov htb hmv q3⟩
  .rcases g1 id kk hk with ⟨q1,q2⟩|⟨bb,oo,q1,q2,q3⟩;exact .inl ⟨.inl ⟨q1,hna⟩,q2.sub λi hi=>hYv i _ hi⟩
   .have hp:=hfree bb id q3.lt q2 hna;refine .inr ⟨bb,oo,hsub.1 id _ q1,?_,?_⟩
    .grind
    .have h1:RowAt (E.with Y') w (λ_=>some id) id kk:=RowAt.withS (.inr ⟨bb,oo,q1,rfl,q3⟩) hYv hYl;rcases h1 with ⟨x1,x2⟩|⟨b2,o2',x1,_,x3⟩
     .have:E.φ id=none:=(hvd0 id x1).1
      grind
     have x1:E.φ id=some (b2,o2'):=x1;rw [q1]at x1;cases x1;exact x3.sub hsub (hr1'.prot bb hp).2
 .grind
 .show (match own1 b with
    |some j=>some (r j)
    |none=>match own b with
     |some id=>if id∈m.act then none else some id
     |none=>none)=none
  grind
 .rw [hnext]at h1;rw [hhi2]at h2;refine hnotr id (hr.fresh id (by omega) h2) λj hj e=>?_
  grind
 .rcases hi with ⟨q1,q2⟩|⟨j,hj,rfl,q1⟩
  .obtain ⟨a1,a2⟩:=hvd0 id q1;refine ⟨hnotr id a1 λj hj e=>?_,λhx=>a2 ⟨by omega,by omega⟩⟩;rcases Nat.lt_or_ge j ft.k with h|h
   .grind [si_]
   grind
  grind
end Go.Sx
