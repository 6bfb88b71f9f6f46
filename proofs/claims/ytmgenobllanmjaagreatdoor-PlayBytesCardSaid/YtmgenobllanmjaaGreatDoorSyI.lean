/-
  A state is an instance of a template: then it is known by the template.
-/
import Derived.Test.YtmgenobllanmjaaGreatDoorSyH
set_option linter.unusedVariables false
set_option linter.unusedSimpArgs false
namespace Go.Sx
theorem ei_:∀(l:List AV) (n:Nat),cB_ n l=l[n]?
 |[],n=>by cases n<;>rfl
 |a::r,0=>rfl
 |a::r,n+1=>by simp [cB_,ei_ r n]
structure MEnv (H:AHeap) (ds:List DA) (rn:List (Nat×Nat)) (hv:List AV) (n:Nat) (E E':Env):Prop where
 phi:∀id a,az_ rn id=some a->E'.φ id=E.φ a
 sz:E'.sz=E.sz
 imm:E'.imm=E.imm
 low:∀i,i<n->E'.sy i=E.sy i
 hole:∀j x,cB_ j hv=some x->ae_ x=true/\E'.sy (n+j)=some (den E.sy x)/\(den E.sy x).one=true
 acc:∀id d i,aG_ ds id=some d->d.act=some i->den E.sy d.x≠ .nsl->E'.φ id=E.φ i
 val:∀id d,aG_ ds id=some d->cB_ d.j hv=some d.x
theorem p1_ {E:Env} {H:AHeap} {sz:Nat} {a x:AV} {act:Option Nat} {v:Value} (h:hx_ H sz a=some (x,act)) (hc:Con E a v):
  (v=.slice none 0 0/\den E.sy x=.nsl)\/∃i len cs,act=some i/\den E.sy x=.vsl len sz cs/\∃b o n c off',E.φ i=some (b,o)/\E.sz b=some n/\v=.slice (some ⟨b,o+off',none⟩) len c/\(c≠0->off'=0)/\len<=c/\o+c*sz<=n:=by
 unfold hx_ at h;split at h;cases h;exact .inl ⟨hc,rfl⟩
 .rename_i id sz' i;split at h
  .split at h
   .rename_i hb;cases h;obtain ⟨e1,e2⟩:=aa_ hb;have e2:=Nat.eq_of_beq_eq_true e2;subst e2;obtain ⟨a,h1,⟨rfl,h2⟩|⟨len,cs,rfl,h2⟩⟩:=hc
    .grind [den]
    ·
     exact .inr ⟨id,len,cs,rfl,by simp only [den,h1],h2⟩
   cases h
  cases h
 .rename_i id off len sz' cap;split at h
  .split at h
   case h_2=>cases h
   split at h;rename_i hb;cases h;obtain ⟨e1,hb⟩:=aa_ hb;obtain ⟨e2,hb⟩:=aa_ hb;have e1:=Nat.eq_of_beq_eq_true e1;have e2:=Nat.eq_of_beq_eq_true e2;subst e1 e2;obtain ⟨b,o,nn,c,off',q1,q2,q3,q4,q5,q6,_⟩:=hc;exact .inr ⟨id,len,_,rfl,by rfl,b,o,nn,c,off',q1,q2,q3,q4,q5,by omega⟩;cases h
  cases h
 cases h
theorem dB_ {a b:Option Nat} (h:kb_ a b=true):a=b:=by
 unfold kb_ at h
 grind [Nat.eq_of_beq_eq_true]
theorem MEnv.con0 {H:AHeap} {ds:List DA} {rn:List (Nat×Nat)} {hv:List AV} {n:Nat} {E E':Env} (h:MEnv H ds rn hv n E E') {a:AV} {v:Value} (hc:Con0 E a v):Con0 E' a v:=ce_ (λ_ _ _ hx=>by rw [h.imm];exact hx) hc
mutual
theorem rN_ {H:AHeap} {ds:List DA} {rn:List (Nat×Nat)} {hv:List AV} {n:Nat} {E E':Env} (h:MEnv H ds rn hv n E E'):∀{t a:AV} {v:Value},mA H ds rn hv n t a=true->Con E a v->Con E' (bJ_ n t) v
 | .opq,_,_,_,_=>by simp [bJ_,Con]
 | .slx j z q,a,v,hm,hc=>by
   unfold mA at hm;unfold bJ_;cases z with
   |zero=>simp only at hm⊢;split at hm;rename_i x hx;have:=aF_ hm;subst this;obtain ⟨h1,h2,h3⟩:=h.hole _ _ hx;exact ⟨_,h2,h3,h.con0 (ao_ h1 hc)⟩;cases hm
   |succ z=>
    simp only at hm⊢;split at hm
    .rename_i d hd;split at hm
     .rename_i x act hacc;obtain ⟨e1,hm⟩:=aa_ hm;obtain ⟨e2,hm⟩:=aa_ hm;obtain ⟨e3,e4⟩:=aa_ hm;have e2:=Nat.eq_of_beq_eq_true e2;have e3:=aF_ e3;have e4:=dB_ e4;have hval:=h.val _ _ hd;obtain ⟨_,h2,_⟩:=h.hole _ _ hval;refine ⟨_,by rw [←e2];exact h2,?_⟩;rcases p1_ hacc hc with ⟨k1,k2⟩|⟨i,len,cs,k1,k2,b,o,nn,c,off',q1,q2,q3,q4,q5,q6⟩
      .grind
      rw [e3];refine .inr ⟨len,cs,k2,b,o,nn,c,off',?_,by rw [h.sz];exact q2,q3,q4,q5,q6⟩;rw [h.acc _ _ _ hd (e4.trans k1) (by grind)];exact q1
     cases hm
    cases hm
 | .sym i,a,v,hm,hc=>by obtain ⟨h1,h2⟩:=aa_ hm;have:=aF_ h2;subst this;have hi:i<n:=(by simp_all);obtain ⟨a,q1,q2,q3⟩:=hc;exact ⟨a,by rw [h.low i hi];exact q1,q2,h.con0 q3⟩
 | .ptr id off,a,v,hm,hc=>by unfold mA at hm;split at hm;obtain ⟨h1,h2⟩:=aa_ hm;have h2:=Nat.eq_of_beq_eq_true h2;subst h2;simp only [bJ_,Con]at hc⊢;rw [h.phi id _ (dB_ h1)];exact hc;cases hm
 | .sl id off len sz cap,a,v,hm,hc=>by
   unfold mA at hm;split at hm
   .obtain ⟨h1,hm⟩:=aa_ hm;obtain ⟨e2,hm⟩:=aa_ hm;obtain ⟨e3,hm⟩:=aa_ hm;obtain ⟨e4,e5⟩:=aa_ hm;have e2:=Nat.eq_of_beq_eq_true e2;have e3:=Nat.eq_of_beq_eq_true e3;have e4:=Nat.eq_of_beq_eq_true e4;simp only [bJ_,Con]at hc⊢;rw [h.phi id _ (dB_ h1),h.sz]
    grind
   cases hm
 | .agg ts,a,v,hm,hc=>by unfold mA at hm;split at hm;obtain ⟨vs,rfl,h2⟩:=hc;exact ⟨vs,rfl,i9_ h hm h2⟩;cases hm
 | .tup ts,a,v,hm,hc=>by unfold mA at hm;split at hm;obtain ⟨vs,rfl,h2⟩:=hc;exact ⟨vs,rfl,i9_ h hm h2⟩;cases hm
 | .vptr ts,a,v,hm,hc=>by unfold mA at hm;split at hm;obtain ⟨b,o,vs,h1,h2,h3⟩:=hc;exact ⟨b,o,vs,h1,i9_ h hm h2,λi u hu=>by rw [h.imm];exact h3 i u hu⟩;cases hm
 | .vsl len sz ts,a,v,hm,hc=>by unfold mA at hm;split at hm;obtain ⟨e1,hm1⟩:=aa_ hm;obtain ⟨e2,hm2⟩:=aa_ hm1;have e3:=Nat.eq_of_beq_eq_true e1;subst e3;obtain ⟨b,o,vs,c,h1,h2,h3,h4⟩:=hc;exact ⟨b,o,vs,c,h1,h2,i9_ h hm2 h3,λi u hu=>by rw [h.imm];exact h4 i u hu⟩;cases hm
 | .fn f ts,a,v,hm,hc=>by unfold mA at hm;split at hm;obtain ⟨e1,hm1⟩:=aa_ hm;have e2:=Nat.eq_of_beq_eq_true e1;subst e2;simp only [bJ_,Con]at hc⊢;obtain ⟨vs,h1,h2⟩:=hc;exact ⟨vs,h1,i9_ h hm1 h2⟩;cases hm
 | .iface t x,a,v,hm,hc=>by unfold mA at hm;split at hm;obtain ⟨e1,hm1⟩:=aa_ hm;have e2:=Nat.eq_of_beq_eq_true e1;subst e2;simp only [bJ_,Con]at hc⊢;obtain ⟨u,h1,h2⟩:=hc;exact ⟨u,h1,rN_ h hm1 h2⟩;cases hm
 | .ptx id i sz _,a,v,hm,hc=>by unfold mA at hm;split at hm;obtain ⟨h1,hm⟩:=aa_ hm;obtain ⟨e1,hm⟩:=aa_ hm;obtain ⟨e2,e3⟩:=aa_ hm;have e1:=Nat.eq_of_beq_eq_true e1;have e2:=Nat.eq_of_beq_eq_true e2;subst e1 e2;have hi:i<n:=(by simp_all);simp only [bJ_,Con]at hc⊢;rw [h.phi id _ (dB_ h1),h.sz,h.low i hi];exact hc;cases hm
 | .map id,a,v,hm,hc=>by unfold mA at hm;split at hm;simp only [bJ_,Con]at hc⊢;rw [h.phi id _ (dB_ hm)];exact hc;cases hm
 | .bool b,a,v,hm,hc=>by
   grind [aF_,mA,bJ_,Con]
 | .int k b,a,v,hm,hc=>by
   grind [aF_,mA,bJ_,Con]
 | .flt k b,a,v,hm,hc=>by
   grind [aF_,mA,bJ_,Con]
 | .nan k,a,v,hm,hc=>by
   grind [aF_,mA,bJ_,Con]
 | .str s,a,v,hm,hc=>by
   grind [aF_,mA,bJ_,Con]
 | .nptr,a,v,hm,hc=>by
   grind [aF_,mA,bJ_,Con]
 | .nsl,a,v,hm,hc=>by
   grind [aF_,mA,bJ_,Con]
 | .nmap,a,v,hm,hc=>by
   grind [aF_,mA,bJ_,Con]
 | .nfn,a,v,hm,hc=>by
   grind [aF_,mA,bJ_,Con]
 | .nif,a,v,hm,hc=>by
   grind [aF_,mA,bJ_,Con]
theorem i9_ {H:AHeap} {ds:List DA} {rn:List (Nat×Nat)} {hv:List AV} {n:Nat} {E E':Env} (h:MEnv H ds rn hv n E E'):∀{ts as:List AV} {vs:List Value},mL H ds rn hv n ts as=true->ConL E as vs->ConL E' (bu_ n ts) vs
 |[],[],vs,hm,hc=>by grind [bu_,ConL]
 |t::ts,a::r,vs,hm,hc=>by obtain ⟨h1,h2⟩:=aa_ hm;simp only [ConL]at hc;simp only [bu_,ConL];obtain ⟨v,q,e,c1,c2⟩:=hc;exact ⟨v,q,e,rN_ h h1 c1,i9_ h h2 c2⟩
 |[],_::_,_,hm,_=>by simp [mL]at hm
 |_::_,[],_,hm,_=>by simp [mL]at hm
end
theorem kI_ {H:AHeap} {ds:List DA} {rn:List (Nat×Nat)} {hv:List AV} {n:Nat} {E E':Env} (h:MEnv H ds rn hv n E E') {T:Tm} {tmps:Array Value} (hc:∀t,t<512->Con E (tget T t) (tmps.getD t undef)):
  ∀(slots:List (Nat×AV)),mT H ds rn hv n T slots=true->∀t,t<512->Con E' (tget (cV_ n slots) t) (tmps.getD t undef)
 |[],_,t,ht=>by show Con E' (tget topq t) _;rw [ca_];simp [Con]
 |(s,a)::r,hm,t,ht=>by obtain ⟨h1,hm⟩:=aa_ hm;obtain ⟨h2,hm⟩:=aa_ hm;have h1:s<512:=(by simpa [Nat.blt_eq]using h1);show Con E' (tget (dL_ (cV_ n r) s (bJ_ n a)) t) _;by_cases e:s=t;subst e;rw [ar_ _ ht];exact rN_ h h2 (hc s ht);rw [ap_ _ ht h1 e];exact kI_ h hc r hm t ht
theorem g8_ {n next:Nat}:∀(rows:List (Nat×List AV)),(∀id cs,(id,cs)∈rows->id<top)->∀id k,(iZ_ n next rows).get id=some k->∃cs,(id,cs)∈rows/\k=.cells (bu_ n cs)
 |[],_,id,k,h=>by
  grind [dY_,iZ_]
 |(i,c)::r,hlt,id,k,h=>by
  have h:((iZ_ n next r).set i (.cells (bu_ n c))).get id=some k:=h;have hi:=hlt i c (List.mem_cons_self ..);by_cases e:i=id
  .subst e;rw [AHeap.get_set_same _ hi]at h
   grind
  rw [AHeap.get_set_ne _ hi e]at h;obtain ⟨cs,h1,h2⟩:=g8_ r (λa b h=>hlt a b (List.mem_cons_of_mem _ h)) id k h;exact ⟨cs,List.mem_cons_of_mem _ h1,h2⟩
theorem i0_ {n next:Nat}:∀rows,(iZ_ n next rows).next=next/\(iZ_ n next rows).hi=top
 |[]=>⟨rfl,rfl⟩
 |(i,c)::r=>i0_ r
theorem bh_:∀{l:List (Nat×Nat)} {i a:Nat},az_ l i=some a->(i,a)∈l
 |[],i,a,h=>by cases h
 |(j,t)::r,i,a,h=>by unfold az_ at h;split at h;rename_i hb;cases h;rw [Nat.eq_of_beq_eq_true hb];exact List.mem_cons_self ..;exact List.mem_cons_of_mem _ (bh_ h)
theorem um_ {ds:List DA} {inv:List (Nat×Nat)} {next:Nat}:∀{rn:List (Nat×Nat)},mN ds inv next rn=true->∀id a,(id,a)∈rn->id<next/\id<top/\az_ inv a=some id/\aG_ ds id=none
 |[],_,id,a,h=>by cases h
 |(i,q)::r,hm,id,a,h=>by obtain ⟨h1,hm⟩:=aa_ hm;obtain ⟨h2,hm⟩:=aa_ hm;obtain ⟨h3,hm⟩:=aa_ hm;obtain ⟨h4,hm⟩:=aa_ hm;rcases List.mem_cons.1 h with h|h;cases h;exact ⟨by simp_all,by simp_all,dB_ h3,by simpa using h4⟩;exact um_ hm id a h
theorem uk_ {ds:List DA} {rn:List (Nat×Nat)} {hv:List AV} {n:Nat} {H:AHeap}:∀(rows:List (Nat×List AV)),mH ds rn hv n H rows=true->∀id cs,(id,cs)∈rows->∃a l,az_ rn id=some a/\H.get a=some (.cells l)/\mL H ds rn hv n cs l=true
 |[],_,id,cs,h=>by cases h
 |(i,c)::r,hm,id,cs,h=>by obtain ⟨h1,hm⟩:=aa_ hm;rcases List.mem_cons.1 h with h|h;cases h;split at h1;rename_i a ha;split at h1;rename_i l hl;exact ⟨a,l,ha,hl,h1⟩;cases h1;cases h1;exact uk_ r hm id cs h
theorem ui_ {inv:List (Nat×Nat)} {hv:List AV} {next:Nat}:∀{ds:List DA},mD inv hv next ds=true->∀d,d∈ds->d.id<next/\d.id<top/\cB_ d.j hv=some d.x/\∀i,d.act=some i->az_ inv i=some d.id
 |[],_,d,h=>by cases h
 |q::r,hm,d,h=>by
  obtain ⟨h1,hm⟩:=aa_ hm;obtain ⟨h2,hm⟩:=aa_ hm;obtain ⟨h3,hm⟩:=aa_ hm;obtain ⟨h4,hm⟩:=aa_ hm;rcases List.mem_cons.1 h with rfl|h
  .grind [Nat.blt_eq,aF_,dB_]
  exact ui_ hm d h
theorem ul_ {rn:List (Nat×Nat)} {hv:List AV} {H:AHeap}:∀(ms:List (Nat×Nat)),mM rn hv H ms=true->∀id j,(id,j)∈ms->∃a x,az_ rn id=some a/\pq_ H a=some x/\cB_ j hv=some x
 |[],_,id,j,h=>by cases h
 |(i,q)::r,hm,id,j,h=>by obtain ⟨h1,hm⟩:=aa_ hm;rcases List.mem_cons.1 h with h|h;cases h;split at h1;rename_i a ha;split at h1;rename_i x hx;split at h1;rename_i y hy;exact ⟨a,x,ha,hx,by rw [hy,aF_ h1]⟩;cases h1;cases h1;cases h1;exact ul_ r hm id j h
theorem st_ (n:Nat) {i:Nat} (h:Nat.blt i mc_=true):kd_ n i=i:=by unfold kd_;rw [h]
theorem k5_ (n:Nat) {i:Nat} (h:Nat.blt i mc_=false):kd_ n i=n+hL_ i:=by
 grind [kd_]
inductive FixAt (hv:List AV) (n s:Nat):ABlk->Prop where
 |old (h:s<n):FixAt hv n s (.syl s)
 |sym (j i:Nat) (h:s=n+j) (hj:cB_ j hv=some (.sym i)):FixAt hv n s (.syl i)
 |cells (j len z:Nat) (cs:List AV) (h:s=n+j) (hj:cB_ j hv=some (.vsl len z cs)) (hl:cs.length=len*z) (hs:ad_ cs=true):FixAt hv n s (.cells cs)
theorem uj_ {rn:List (Nat×Nat)} {hv:List AV} {n:Nat} {H:AHeap}:∀(ms:List (Nat×Nat)),mF rn hv n H ms=true->∀id i,(id,i)∈ms->∃a k,az_ rn id=some a/\H.get a=some k/\FixAt hv n (kd_ n i) k
 |[],_,id,j,h=>by cases h
 |(i,q)::r,hm,id,j,h=>by obtain ⟨h1,hm⟩:=aa_ hm;rcases List.mem_cons.1 h with h|h;cases h;split at h1;rename_i a ha;split at h1;rename_i x hx;split at h1;rename_i hb;obtain ⟨h0,h1⟩:=aa_ h1;have h1:=Nat.eq_of_beq_eq_true h1;have h0:q<n:=(by simp_all);refine ⟨a,_,ha,hx,?_⟩;rw [st_ n hb,h1];exact .old (by omega);rename_i hb;split at h1;rename_i y hy;have:=aF_ h1;subst this;exact ⟨a,_,ha,hx,.sym (hL_ q) x (k5_ n hb) hy⟩;cases h1;rename_i cs hx;split at h1;cases h1;rename_i hb;split at h1;rename_i y hy;unfold pg_ at h1;split at h1;rename_i len z cs';obtain ⟨e1,h1⟩:=aa_ h1;obtain ⟨e2,h1⟩:=aa_ h1;obtain ⟨e3,_⟩:=aa_ h1;have:=bi_ e1;subst this;have e2:=Nat.eq_of_beq_eq_true e2;rw [ai_]at e2;exact ⟨a,_,ha,hx,.cells (hL_ q) len z _ (k5_ n hb) hy e2 e3⟩;cases h1;cases h1;cases h1;cases h1;exact uj_ r hm id j h
theorem bo_:∀{ds:List DA} {id:Nat} {d:DA},aG_ ds id=some d->d∈ds/\d.id=id
 |[],id,d,h=>by cases h
 |q::r,id,d,h=>by unfold aG_ at h;split at h;rename_i hb;cases h;exact ⟨List.mem_cons_self ..,Nat.eq_of_beq_eq_true hb⟩;obtain ⟨h1,h2⟩:=bo_ h;exact ⟨List.mem_cons_of_mem _ h1,h2⟩
theorem ga_ {T:Tm} {H:AHeap} {rn:List (Nat×Nat)}:∀{ts:List TA} {ds:List DA},p0_ T H rn ts=some ds->∀d,d∈ds->∃t a,t∈ts/\t.id=d.id/\t.j=d.j/\kN_ T H rn t=some a/\hx_ H d.sz a=some (d.x,d.act)
 |[],ds,h,d,hd=>by cases h;cases hd
 |t::r,ds,h,d,hd=>by
  unfold p0_ at h;split at h
  .rename_i a ha;split at h
   .rename_i x act hx;split at h
    .rename_i l hl;cases h;rcases List.mem_cons.1 hd with rfl|hd
     .grind
     obtain ⟨t',a',h0,h1⟩:=ga_ hl d hd;exact ⟨t',a',List.mem_cons_of_mem _ h0,h1⟩
    cases h
   cases h
  cases h
theorem kH_ {n:Nat} {T:Tm} {H H0:AHeap} {rn:List (Nat×Nat)}:∀{ts:List TA} {ds:List DA},p0_ T H rn ts=some ds->(∀d,d∈ds->d.id<top)->∀id k,(hM_ n H0 ts).get id=some k->(aG_ ds id=none/\H0.get id=some k)\/∃d,aG_ ds id=some d/\k=.syl (n+d.j)
 |[],ds,h,hlt,id,k,hk=>by cases h;exact .inl ⟨rfl,hk⟩
 |t::r,ds,h,hlt,id,k,hk=>by
  unfold p0_ at h;split at h
  .split at h
   .rename_i x act hx;split at h
    .rename_i l hl;cases h;have ht:t.id<top:=hlt _ (List.mem_cons_self ..);unfold hM_ at hk;by_cases e:t.id=id;subst e;rw [AHeap.get_set_same _ ht]at hk;cases hk;exact .inr ⟨⟨t.id,t.sz,t.j,x,act⟩,by simp [aG_],rfl⟩
     .rw [AHeap.get_set_ne _ ht e]at hk;have hb:Nat.beq t.id id=false:=by
       cases hb:Nat.beq t.id id with
       |true=>exact absurd (Nat.eq_of_beq_eq_true hb) e
       |false=>rfl
      have:=kH_ hl (λd hd=>hlt d (List.mem_cons_of_mem _ hd)) id k hk;unfold aG_;simp only [hb];exact this
    cases h
   cases h
  cases h
theorem i3_ {n:Nat} {H0:AHeap}:∀ts:List TA,(hM_ n H0 ts).next=H0.next/\(hM_ n H0 ts).hi=H0.hi
 |[]=>⟨rfl,rfl⟩
 |t::r=>i3_ r
theorem g9_ {n:Nat} {H0:AHeap}:∀(ms:List (Nat×Nat)),(∀id j,(id,j)∈ms->id<top)->∀id k,(kG_ n H0 ms).get id=some k->(∃j,(id,j)∈ms/\k=.mpl (n+j))\/H0.get id=some k
 |[],_,id,k,h=>.inr h
 |(i,q)::r,hlt,id,k,h=>by
  have h:((kG_ n H0 r).set i (.mpl (Nat.add n q))).get id=some k:=h;have hi:=hlt i q (List.mem_cons_self ..);by_cases e:i=id
  .subst e;rw [AHeap.get_set_same _ hi]at h
   grind
  rw [AHeap.get_set_ne _ hi e]at h;rcases g9_ r (λa b h=>hlt a b (List.mem_cons_of_mem _ h)) id k h with ⟨j,h1,h2⟩|h;exact .inl ⟨j,List.mem_cons_of_mem _ h1,h2⟩;exact .inr h
theorem i1_ {n:Nat} {H0:AHeap}:∀ms:List (Nat×Nat),(kG_ n H0 ms).next=H0.next/\(kG_ n H0 ms).hi=H0.hi
 |[]=>⟨rfl,rfl⟩
 |(i,q)::r=>i1_ r
theorem g7_ {n:Nat} {H0:AHeap}:∀(ms:List (Nat×Nat)),(∀id j,(id,j)∈ms->id<top)->∀id k,(kF_ n H0 ms).get id=some k->(∃j,(id,j)∈ms/\k=.syl (kd_ n j))\/H0.get id=some k
 |[],_,id,k,h=>.inr h
 |(i,q)::r,hlt,id,k,h=>by
  have h:((kF_ n H0 r).set i (.syl (kd_ n q))).get id=some k:=h;have hi:=hlt i q (List.mem_cons_self ..);by_cases e:i=id
  .subst e;rw [AHeap.get_set_same _ hi]at h
   grind
  rw [AHeap.get_set_ne _ hi e]at h;rcases g7_ r (λa b h=>hlt a b (List.mem_cons_of_mem _ h)) id k h with ⟨j,h1,h2⟩|h;exact .inl ⟨j,List.mem_cons_of_mem _ h1,h2⟩;exact .inr h
theorem iY_ {n:Nat} {H0:AHeap}:∀ms:List (Nat×Nat),(kF_ n H0 ms).next=H0.next/\(kF_ n H0 ms).hi=H0.hi
 |[]=>⟨rfl,rfl⟩
 |(i,q)::r=>iY_ r
theorem Tpl.heap_next (tp:Tpl) (n:Nat):(tp.heap n).next=tp.next/\(tp.heap n).hi=top:=by unfold Tpl.heap;simp [iY_,i1_,i3_,i0_]
theorem rO_ {H:AHeap} {ds:List DA} {rn:List (Nat×Nat)} {hv:List AV} {n:Nat}:∀{ts as:List AV},mL H ds rn hv n ts as=true->as.length=ts.length
 |[],[],_=>rfl
 |t::ts,a::r,h=>by simp [rO_ (aa_ h).2]
 |[],_::_,h=>by simp [mL]at h
 |_::_,[],h=>by simp [mL]at h
theorem fr_ (n:Nat):∀l:List AV,(bu_ n l).length=l.length
 |[]=>rfl
 |a::r=>by simp [bu_,fr_ n r]
theorem cI_ (s:Nat->Option AV):∀l:List AV,(ab_ s l).length=l.length
 |[]=>rfl
 |a::r=>by simp [ab_,cI_ s r]
theorem gk_ (s:Nat->Option AV):∀(l:List AV) (i:Nat) (a:AV),l[i]? =some a->(ab_ s l)[i]? =some (den s a)
 |[],i,a,h=>by simp at h
 |b::r,0,a,h=>by grind [ab_]
 |b::r,i+1,a,h=>by simpa [ab_]using gk_ s r i a (by simpa using h)
theorem fA_:∀{l:List AV},ad_ l=true->∀(i:Nat) (a:AV),l[i]? =some a->ae_ a=true
 |[],_,i,a,h=>by simp at h
 |b::r,hs,i,a,h=>by
  simp only [ad_]at hs;cases hb:ae_ b with
  |true=>
   rw [hb]at hs;cases i with
   |zero=>simp at h;subst h;exact hb
   |succ i=>exact fA_ hs i a (by simpa using h)
  |false=>rw [hb]at hs;cases hs
theorem g6_:∀(acc:List (Nat×AV)) (j m:Nat) (l:List AV),pe_ acc j m=some l->l.length=m
 |acc,j,0,l,h=>by cases h;rfl
 |acc,j,m+1,l,h=>by unfold pe_ at h;split at h;split at h;rename_i l' hl;cases h;simp [g6_ acc _ m _ hl];cases h;cases h
def Ext (n:Nat) (Y Y':Sy):Prop:=∀i,i<n->Y'.v i=Y.v i
theorem Ext.refl (n:Nat) (Y:Sy):Ext n Y Y:=λ_ _=>rfl
theorem Ext.trans {n m:Nat} {Y Y' Y'':Sy} (h:Ext n Y Y') (h':Ext m Y' Y'') (hn:n<=m):Ext n Y Y'':=λi hi=>(h' i (by omega)).trans (h i hi)
theorem Ext.puts:∀{Y:Sy} {n:Nat} (l:List AV) (m:Nat),m<=n->Ext m Y (Y.puts n l)
 |Y,n,[],m,h=>λ_ _=>rfl
 |Y,n,a::r,m,h=>λi hi=>by have:=Ext.puts (Y:=Y.put n a) (n:=n+1) r m (by omega) i hi;exact this.trans (Sy.put_ne _ _ (by omega))
theorem Ext.put {Y:Sy} {n:Nat} (a:AV) {m:Nat} (h:m<=n):Ext m Y (Y.put n a):=λi hi=>Sy.put_ne _ _ (by omega)
variable [Gl]
def fM_:AV->Bool
 | .nsl=>true
 |_=>false
omit [Gl]in
theorem uU_ {D:Dfs} (h:noD D=true):D=[]:=by
 cases D with
 |nil=>rfl
 |cons _ _=>cases h
def tk_ (m:MR) (E:Env) (Y:Sy) (bim:Nat->Nat->Option Value):Env where
 φ id:=match aG_ m.ds id with
   |some d=>match fM_ (den E.sy d.x)with
    |true=>none
    |false=>match d.act with
     |some i=>E.φ i
     |none=>none
   |none=>match az_ m.rn id with
    |some a=>E.φ a
    |none=>none
 sz:=E.sz
 imm:=E.imm
 res id:=(∃d,aG_ m.ds id=some d/\fM_ (den E.sy d.x)=true)\/∃a,aG_ m.ds id=none/\az_ m.rn id=some a/\E.vd a
 bim:=bim
 sy:=Y.v
 syl:=Y.l
 vd id:=(∃d,aG_ m.ds id=some d/\fM_ (den E.sy d.x)=true)\/∃a,aG_ m.ds id=none/\az_ m.rn id=some a/\E.vd a
def h0_ (m:MR) (own:Nat->Option Nat):Nat->Option Nat:=λb=>match own b with
 |some i=>az_ m.inv i
 |none=>none
omit [Gl]in
theorem kS_ {x:AV} (hx:x≠ .nsl):fM_ x=false:=by cases x<;>first|rfl|exact absurd rfl hx
structure MCore (n:Nat) (tp:Tpl) (T:Tm) (E E':Env) (own:Nat->Option Nat) (w:World) (m:MR):Prop where
 len:(ab_ E.sy m.hv).length=tp.nv
 slots:∀tmps:Array Value,(∀t,t<512->Con E (tget T t) (tmps.getD t undef))->∀t,t<512->Con E' (tget (cV_ n tp.slots) t) (tmps.getD t undef)
 rows:∀id k,(tp.heap n).get id=some k->RowAt E' w (h0_ m own) id k
 fresh:∀id,tp.next<=id->E'.φ id=none
 vd:∀id,E'.vd id->E'.φ id=none/\id<tp.next
 next:tp.next<=top
 acc:∀d,d∈m.ds->∃t,t∈tp.acc/\t.id=d.id/\t.j=d.j/\cB_ d.j m.hv=some d.x
 inj:∀i j a,(az_ m.rn i=some a\/∃d,aG_ m.ds i=some d/\d.act=some a)->(az_ m.rn j=some a\/∃d,aG_ m.ds j=some d/\d.act=some a)->i=j
 rnA:∀i a,az_ m.rn i=some a->aG_ m.ds i=none
 accN:∀d a,d∈m.ds->d.act=some a->fM_ (den E.sy d.x)=true->E.φ a=none
omit [Gl]in
theorem ja_ {n:Nat} {tp:Tpl} {T:Tm} {H:AHeap} {m:MR} {Y0:Sy} {E:Env} {w:World} {own:Nat->Option Nat} (hm:hf_ n tp T H=some m) (hf:Fresh Y0 n) (hx:∀i,i<n->E.sy i=Y0.v i) (hok:okL (ab_ E.sy m.hv)=true)
  (g1:∀id k,H.get id=some k->RowAt E w own id k) (hvd:∀id,E.vd id->E.φ id=none) (bim:Nat->Nat->Option Value):MCore n tp T E (tk_ m E (Y0.puts n (ab_ E.sy m.hv)) bim) own w m:=by
 unfold hf_ at hm;simp only at hm;split at hm;cases hm;rename_i ds hds;split at hm;cases hm;rename_i msl hms;split at hm;cases hm;rename_i hv hh;split at hm
 case h_2=>cases hm
 rename_i hb;cases hm;generalize hrn:uY_ tp T H=rn at*;obtain ⟨b1,hb⟩:=aa_ hb;obtain ⟨b2,hb⟩:=aa_ hb;obtain ⟨b3,hb⟩:=aa_ hb;obtain ⟨b4,hb⟩:=aa_ hb;obtain ⟨b5,hb⟩:=aa_ hb;obtain ⟨b6,hb⟩:=aa_ hb;obtain ⟨b7,hb⟩:=aa_ hb;obtain ⟨b8,b9⟩:=aa_ hb;have hN:=um_ b4;have hmap:=ul_ tp.maps b7;have hrow:=uk_ tp.rows b5;have hacc:=ui_ b6;have hfix:=uj_ tp.fix b8;have b9:=Nat.le_of_ble_eq_true b9
 let Y':=Y0.puts n (ab_ E.sy hv)
 let E':Env:=tk_ ⟨rn,ds,hv⟩ E Y' bim
 have hphiN:∀id a,az_ rn id=some a->E'.φ id=E.φ a:=λid a h=>by
  show (match aG_ ds id with
   |some d=>_
   |none=>match az_ rn id with
    |some a=>E.φ a
    |none=>none)=_
  rw [(hN id a (bh_ h)).2.2.2,h]
 have hme:MEnv H ds rn hv n E E':={
  phi:=hphiN
  sz:=rfl
  imm:=rfl
  low:=λi hi=>by rw [hx i hi];exact Ext.puts (ab_ E.sy hv) n (Nat.le_refl n) i hi
  hole:=λj x hj=>by rw [ei_]at hj;have h1:=fA_ b1 j x hj;have h2:=gk_ E.sy hv j x hj;exact ⟨h1,bB_ (ab_ E.sy hv) hf j _ h2,ba_ (c1_ hok _ (List.mem_of_getElem? h2))⟩
  acc:=λid d i h1 h2 h3=>by
   show (match aG_ ds id with
    |some d=>match fM_ (den E.sy d.x)with
     |true=>none
     |false=>match d.act with
      |some i=>E.φ i
      |none=>none
    |none=>_)=_
   grind [kS_]
  val:=λid d h=>(hacc d (bo_ h).1).2.2.1 }
 have hconC:∀id d i,aG_ ds id=some d->d.act=some i->den E.sy d.x≠ .nsl->∃b o,E.φ i=some (b,o)/\own b=some i/\BlkAt E' w b o (.syl (n+d.j)):=by
  intro id d i h1 h2 h3;have hdm:=(bo_ h1).1;obtain ⟨_,_,hval,_⟩:=hacc d hdm;obtain ⟨hs1,hs2,hs3⟩:=hme.hole _ _ hval;obtain ⟨t,a',_,_,_,_,ha2⟩:=ga_ hds d hdm;have hxok:okC (den E.sy d.x)=true:=by rw [ei_]at hval;exact c1_ hok _ (List.mem_of_getElem? (gk_ E.sy hv d.j d.x hval))
  rw [h2]at ha2;unfold hx_ at ha2;split at ha2;simp at ha2
  .split at ha2
   .rename_i k hk;split at ha2
    .rename_i hbb;simp only [Option.some.injEq,Prod.mk.injEq]at ha2;obtain ⟨hdx,rfl⟩:=ha2;obtain ⟨e1,e2⟩:=aa_ hbb;have e1:=Nat.eq_of_beq_eq_true e1;subst e1;obtain ⟨_,hv2⟩|⟨b,o,q1,q2,len,sz'',cs,q3,q4,arr,t',q5,q6,q7,q8⟩:=g1 _ _ hk
     .have hv2:E.sy k=some .nsl:=hv2
      grind [den]
     .refine ⟨b,o,q1,q2,len,sz'',cs,?_,q4,arr,t',q5,q6,q7,λq x hq=>?_⟩
      .grind [den]
      obtain ⟨u,k1,k2,k3⟩:=q8 q x hq;exact ⟨u,k1,k2,hme.con0 k3⟩
    cases ha2
   cases ha2
  .rename_i id' off len sz' cap _;split at ha2
   .rename_i cs0 hk;split at ha2
    case h_2=>cases ha2
    rename_i cs htk;have htk2:=(bH_ htk).1;split at ha2
    .rename_i hbb;simp only [Option.some.injEq,Prod.mk.injEq]at ha2;obtain ⟨hdx,rfl⟩:=ha2;obtain ⟨e1,hbb⟩:=aa_ hbb;obtain ⟨e2,hbb⟩:=aa_ hbb;obtain ⟨e3,hbb⟩:=aa_ hbb;obtain ⟨e4,hbb⟩:=aa_ hbb;obtain ⟨e5,e6⟩:=aa_ hbb;have e4:=Nat.eq_of_beq_eq_true e4;rw [ai_]at e4;obtain ⟨_,hv2⟩|⟨b,o,q1,q2,arr,t',q5,q6,q7,q8⟩:=g1 _ _ hk;exact hv2.elim
     .rw [←hdx]at hxok
      refine ⟨b,o,q1,q2,len,d.sz,ab_ E.sy cs,?_,by rw [cI_];exact e4,arr,t',q5,q6,by
       rw [cI_,htk2,List.length_take];omega,λq x hq=>?_⟩
      rw [hs2,←hdx];rfl
      .rw [cH_]at hq;cases hcq:cs[q]? with
       |none=>grind
       |some y=>
        rw [hcq]at hq;simp only [Option.map_some,Option.some.injEq]at hq;subst hq;have hcq0:cs0[q]? =some y:=by
         grind
        obtain ⟨u,k1,k2⟩:=q8 q y hcq0;have hmem2:(ab_ E.sy cs)[q]? =some (den E.sy y):=(by rw [cH_,hcq];rfl);exact ⟨u,k1,ba_ (c1_ hxok _ (List.mem_of_getElem? hmem2)),hme.con0 (ao_ (fA_ e5 q y hcq) k2)⟩
    cases ha2
   cases ha2
  cases ha2
 have hinvN:∀id a,az_ rn id=some a->az_ (MR.mk rn ds hv).inv a=some id:=λid a h=>(hN id a (bh_ h)).2.2.1;have hown:∀b i id,own b=some i->az_ (MR.mk rn ds hv).inv i=some id->h0_ ⟨rn,ds,hv⟩ own b=some id:=λb i id h1 h2=>by
  grind [h0_]
 refine { len:=by grind [cI_,g6_],slots:=λtmps hc=>kI_ hme hc tp.slots b3,rows:=λid k hk=>?_,fresh:=λid hid=>?_,vd:=λid hi=>?_,next:=b9,acc:=λd hd=>?_,inj:=λi j a hi hj=>?_,rnA:=λi a h=>(hN i a (bh_ h)).2.2.2,accN:=λd a hd hda hnil=>?_ }
 .rcases g7_ tp.fix (λa b h=>by grind [bh_]) id k hk with ⟨j,hj,rfl⟩|hk
  .obtain ⟨a,k',ha,hk,hj⟩:=hfix id j hj;have hphi:=hphiN id a ha;have hs:∀i',H.get a=some (.syl i')->(∀x,E.sy i'=some x->E'.sy (kd_ n j)=some x)->RowAt E' w (h0_ ⟨rn,ds,hv⟩ own) id (.syl (kd_ n j)):=λi' hk hsj=>(by obtain ⟨hv1,hv2⟩|⟨b,o,e1,e2,len,sz,cs,e3,e4,arr,t,e5,e6,e7,e8⟩:=g1 a _ hk;exact .inl ⟨.inr ⟨a,(hN id a (bh_ ha)).2.2.2,ha,hv1⟩,hsj _ hv2⟩;exact .inr ⟨b,o,hphi.trans e1,hown _ _ _ e2 (hinvN _ _ ha),len,sz,cs,hsj _ e3,e4,arr,t,e5,e6,e7,λi x hi=>by obtain ⟨u,k1,k2,k3⟩:=e8 i x hi;exact ⟨u,k1,k2,hme.con0 k3⟩⟩);cases hj with
   |old hlt=>exact hs _ hk λx hx=>by rw [hme.low _ hlt,hx]
   |sym q i' e hq=>
    obtain ⟨_,h2,_⟩:=hme.hole _ _ hq
    grind [den]
   |cells q len z cs e hq hl hso=>
    obtain ⟨_,h2,_⟩:=hme.hole _ _ hq;have hxok:okL (ab_ E.sy cs)=true:=by
     rw [ei_]at hq;have:=c1_ hok _ (List.mem_of_getElem? (gk_ E.sy hv q _ hq))
     grind [den,okC]
    obtain ⟨_,hv2⟩|⟨b,o,e1,e2,arr,t',q5,q6,q7,q8⟩:=g1 _ _ hk;exact hv2.elim
    .refine .inr ⟨b,o,hphi.trans e1,hown _ _ _ e2 (hinvN _ _ ha),len,z,ab_ E.sy cs,by rw [e,h2];rfl,by rw [cI_];exact hl,arr,t',q5,q6,by rw [cI_];exact q7,λq x hq=>?_⟩;rw [cH_]at hq;cases hcq:cs[q]? with
     |none=>grind
     |some y=>rw [hcq]at hq;simp only [Option.map_some,Option.some.injEq]at hq;subst hq;obtain ⟨u,k1,k2⟩:=q8 q y hcq;have hmem2:(ab_ E.sy cs)[q]? =some (den E.sy y):=(by rw [cH_,hcq];rfl);exact ⟨u,k1,ba_ (c1_ hxok _ (List.mem_of_getElem? hmem2)),hme.con0 (ao_ (fA_ hso q y hcq) k2)⟩
  rcases g9_ tp.maps (λa b h=>by grind [bh_]) id k hk with ⟨j,hj,rfl⟩|hk;obtain ⟨a,x,ha,hx',hval⟩:=hmap id j hj;obtain ⟨hs1,hs2,_⟩:=hme.hole _ _ hval;have hphi:=hphiN id a ha;unfold pq_ at hx';split at hx';rename_i es clock hk;split at hx';rename_i hso;cases hx';obtain ⟨_,hv2⟩|⟨b,o,e1,e2,e0,es',e3,e4⟩:=g1 a _ hk;exact hv2.elim;refine .inr ⟨b,o,hphi.trans e1,hown _ _ _ e2 (hinvN _ _ ha),e0,mQ_ es,ab_ E.sy (aN_ es),by rw [hs2];rfl,es',clock,e3,?_,(gS_ (aa_ hso).1 (aa_ hso).2 e4).imp λ_ _ hc=>hme.con0 hc⟩;rw [i7_ e4,Array.length_toList];cases hx';rename_i i hk;cases hx';obtain ⟨_,hv2⟩|⟨b,o,e1,e2,e0,n',cs',f3,es',c0,f4,f5,f6⟩:=g1 a _ hk;exact hv2.elim;exact .inr ⟨b,o,hphi.trans e1,hown _ _ _ e2 (hinvN _ _ ha),e0,n',cs',by grind [den],es',c0,f4,f5,f6.imp λ_ _ hc=>hme.con0 hc⟩;cases hx';rcases kH_ hds (λd hd=>(hacc d hd).2.1) id k hk with ⟨hfn,hk⟩|⟨d,hd,rfl⟩
  .obtain ⟨cs,h1,rfl⟩:=g8_ tp.rows (λa b h=>by grind [bh_]) id k hk;obtain ⟨a,l,ha,h3,h4⟩:=hrow id cs h1;obtain ⟨_,hv2⟩|⟨b,o,e1,e2,arr,t,e3,e4,e5,e6⟩:=g1 a _ h3;exact hv2.elim;refine .inr ⟨b,o,(hphiN id a ha).trans e1,hown _ _ _ e2 (hinvN _ _ ha),arr,t,e3,e4,?_,λi x hx'=>?_⟩
   .grind [fr_,rO_]
   .have hL:ConL E l ((arr.toList.drop o).take l.length):=by
      grind [ConL.of_at]
    obtain ⟨u,f1,f2⟩:=(i9_ hme h4 hL).at i x hx'
    grind
  .obtain ⟨hdm,hdi⟩:=bo_ hd;obtain ⟨_,_,hval,hin⟩:=hacc d hdm;obtain ⟨_,hs2,_⟩:=hme.hole _ _ hval;by_cases hnil:den E.sy d.x=.nsl
   .refine .inl ⟨.inl ⟨d,hd,by rw [hnil];rfl⟩,?_⟩;show E'.sy (n+d.j)=some .nsl
    grind
   .obtain ⟨t,a',_,_,_,_,ha2⟩:=ga_ hds d hdm;have hact:∃i,d.act=some i:=by
     cases hact:d.act with
     |some i=>simp
     |none=>unfold hx_ at ha2;split at ha2;simp only [Option.some.injEq,Prod.mk.injEq]at ha2;exact absurd (by rw [←ha2.1];rfl) hnil;all_goals grind
    obtain ⟨i,hi⟩:=hact;obtain ⟨b,o,q1,q2,q3⟩:=hconC id d i hd hi hnil;exact .inr ⟨b,o,(hme.acc id d i hd hi hnil).trans q1,hown _ _ _ q2 (by grind),q3⟩
 .show (match aG_ ds id with
    |some d=>_
    |none=>match az_ rn id with
     |some a=>E.φ a
     |none=>none)=none
  grind [bo_,bh_]
 .rcases hi with ⟨d,hd,hdn⟩|⟨a,hfa,ha,hva⟩
  .obtain ⟨hdm,hdi⟩:=bo_ hd;refine ⟨?_,by grind⟩;show (match aG_ ds id with
    |some d=>match fM_ (den E.sy d.x)with
     |true=>none
     |false=>match d.act with
      |some i=>E.φ i
      |none=>none
    |none=>_)=none
   grind
  grind [bh_]
 .grind [ga_]
 .grind [bo_]
 .obtain ⟨t,a',_,_,_,_,ha2⟩:=ga_ hds d hd;rw [hda]at ha2;unfold hx_ at ha2;split at ha2;simp at ha2
  .split at ha2
   .rename_i k hk;split at ha2
    .rename_i hbb;simp only [Option.some.injEq,Prod.mk.injEq]at ha2;obtain ⟨hdx,rfl⟩:=ha2;have e1:=Nat.eq_of_beq_eq_true (aa_ hbb).1;subst e1;rcases g1 _ _ hk with ⟨q1,_⟩|⟨b,o,q1,q2,len,sz'',cs,q3,_⟩
     .grind
     rw [←hdx]at hnil;simp only [den,q3]at hnil;cases hnil
    cases ha2
   cases ha2
  .split at ha2
   .split at ha2
    case h_2=>cases ha2
    split at ha2;simp only [Option.some.injEq,Prod.mk.injEq]at ha2;rw [←ha2.1]at hnil;cases hnil;cases ha2
   cases ha2
  cases ha2
omit [Gl]in
theorem pn_ {ds:List DA} {rn:List (Nat×Nat)}:∀{k:Nat},uM_ ds rn k=true->∀i,i<k->az_ rn i=some i\/(az_ rn i=none/\∃d,aG_ ds i=some d/\d.act=some i)
 |0,_,i,hi=>absurd hi (Nat.not_lt_zero _)
 |k+1,h,i,hi=>by obtain ⟨h1,h2⟩:=aa_ h;rcases Nat.lt_or_ge i k with hlt|hge;exact pn_ h2 i hlt;have:i=k:=(by omega);subst this;split at h1;rename_i a ha;rw [Nat.eq_of_beq_eq_true h1]at ha;exact .inl ha;rename_i hn;split at h1;rename_i d hd;exact .inr ⟨hn,d,hd,dB_ h1⟩;cases h1
omit [Gl]in
theorem rZ_ {k:Nat} {hv:List AV}:∀{ts:List TA} {l:List Nat},nnL k hv ts=some l->∀t,t∈ts->t.id<k->(∃i,cB_ t.j hv=some (.sym i)/\i∈l)\/∃n z cs,cB_ t.j hv=some (.vsl n z cs)
 |[],l,h,t,ht,_=>by cases ht
 |q::r,l,h,t,ht,hk=>by
  unfold nnL at h;split at h;cases h;rename_i l' hl;rcases List.mem_cons.1 ht with rfl|ht
  .grind [Nat.blt_eq]
  have ih:=rZ_ hl t ht hk;split at h;cases h;exact ih;split at h;cases h;exact ih.imp (λ⟨i,h1,h2⟩=>⟨i,h1,List.mem_cons_of_mem _ h2⟩) id;cases h;exact ih;cases h
theorem jb_ {P:Program} {N n lv k:Nat} {tp:Tpl} {S:VS} {mt:MT} {Y0 Y:Sy} (hm:eU_ n k tp S=some mt) (hf:Fresh Y0 n) (hx:Ext n Y0 Y) (hok:okL (ab_ Y.v mt.hv)=true) (hnn:∀i,i∈mt.nn->(Chk.nn i).ok Y):
  (ab_ Y.v mt.hv).length=tp.nv/\Weak P N k Y S.T S.H S.D (Y0.puts n (ab_ Y.v mt.hv)) (tp.inst n lv).T (tp.inst n lv).H []:=by
 unfold eU_ at hm;split at hm;cases hm;rename_i b0;split at hm;cases hm;rename_i m hmr;split at hm;cases hm;rename_i hlow;split at hm;cases hm;rename_i nl hnl;cases hm;have hD:=uU_ b0;rw [hD];have hlen:(ab_ Y.v m.hv).length=tp.nv:=by
  grind [hf_,cI_,g6_]
 refine ⟨hlen,λB pr E a w hy st=>?_⟩;have hsyE:E.sy=Y.v:=hy.v;obtain ⟨own,g1,g2,g3⟩:=st.r.own;have hc:=ja_ (w:=w) (own:=own) hmr hf (λi hi=>by rw [hsyE];exact hx i hi) (by grind) g1 (λid h=>(st.r.resv id (st.r.vds id h)).1) E.bim;rw [hsyE]at hc;obtain ⟨p1,p2,p3,p4⟩:=hf.puts (ab_ Y.v m.hv)
 let E':Env:=tk_ m E (Y0.puts n (ab_ Y.v m.hv)) E.bim
 have hphi:∀i x,i<k->E.φ i=some x->E'.φ i=some x:=λi x hi hφ=>by
  rcases pn_ hlow i hi with h|⟨h,d,hd,hda⟩
  .have:=hc.rnA i i h;show (match aG_ m.ds i with
    |some d=>_
    |none=>match az_ m.rn i with
     |some a=>E.φ a
     |none=>none)=_
   grind
  .obtain ⟨hdm,hdi⟩:=bo_ hd;obtain ⟨t,t1,t2,t3,t4⟩:=hc.acc d hdm;have hne:den E.sy d.x≠ .nsl:=by
    rcases rZ_ hnl t t1 (by omega)with ⟨i',q1,q2⟩|⟨a1,a2,a3,q1⟩
    .obtain ⟨a1,a2,a3,q3⟩:=hnn i' q2
     grind [den]
    grind [den]
   show (match aG_ m.ds i with
    |some d=>match fM_ (den E.sy d.x)with
     |true=>none
     |false=>match d.act with
      |some i=>E.φ i
      |none=>none
    |none=>_)=_
   grind [kS_]
 have hle:E.leF k E':=⟨λi x hi h=>hphi i x hi h,λ_ _ h=>h,λ_ _ _ h=>h,rfl,λi hi=>by rw [hsyE,hx i (by have:=hf.1;omega)];exact p4 i hi⟩;refine ⟨E',hle,⟨rfl,rfl,λ_ h=>h⟩,⟨st.t.size,st.t.le,hc.slots a.tmps st.t.con,st.t.gl.leF hle⟩,?_,st.d⟩;obtain ⟨n1,n2⟩:=Tpl.heap_next tp n;refine { own:=⟨h0_ m own,hc.rows,λb hb=>by grind [h0_],λb o v hv=>by unfold h0_;simp only [g3 b o v hv]⟩,imm:=st.r.imm,ib:=st.r.ib,fresh:=λid h1 h2=>hc.fresh id (n1▸h1),resv:=λid hi=>?_,vds:=λ_ h=>h,szs:=st.r.szs,prot:=st.r.prot,size:=st.r.size,os:=st.r.os,output:=st.r.output };obtain ⟨h1,h2⟩:=hc.vd id hi;refine ⟨h1,λhx=>?_⟩;have:(tp.heap n).next<=id:=hx.1
 omega
end Go.Sx
