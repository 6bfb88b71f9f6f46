/-
  A call of a function that takes rows, in a heap that holds them.
-/
import Derived.Test.YtbjjpimpabbpdaaGreatDoorSyI
set_option linter.unusedVariables false
set_option linter.unusedSimpArgs false
namespace Go.Sx
theorem lf_:∀(n:Nat) (l:List Nat),ss_ n l=l[n]?
 |n,[]=>by cases n<;>rfl
 |0,a::r=>rfl
 |n+1,a::r=>by simp [ss_,lf_ n r]
theorem pa_:∀(l:List Nat) (a:Nat),nL_.snoc l a=l++[a]
 |[],a=>rfl
 |x::r,a=>by simp [nL_.snoc,pa_ r a]
theorem oN_ {m:MR}:∀{k:Nat} {l:List Nat},nL_ m k=some l->l.length=k/\∀i,i<k->∃a,l[i]? =some a/\hv_ m i=some a
 |0,l,h=>by cases h;exact ⟨rfl,λi hi=>absurd hi (Nat.not_lt_zero _)⟩
 |k+1,l,h=>by
  unfold nL_ at h;split at h
  case h_2=>cases h
  rename_i l' hl;split at h
  case h_2=>cases h
  rename_i a ha;cases h;obtain ⟨h1,h2⟩:=oN_ hl;rw [pa_];refine ⟨by simp [h1],λi hi=>?_⟩;rcases Nat.lt_or_ge i k with hlt|hge;obtain ⟨b,q1,q2⟩:=h2 i hlt;exact ⟨b,by rw [List.getElem?_append_left (by omega)];exact q1,q2⟩;have:i=k:=(by omega);subst this;exact ⟨a,by rw [List.getElem?_append_right (by omega),h1];simp,ha⟩
theorem j6_ {H:AHeap}:∀{l:List Nat},it_ H l=true->∀(i:Nat) (a:Nat),l[i]? =some a->∃k,H.get a=some k
 |[],_,i,a,hi=>by simp at hi
 |b::r,h,i,a,hi=>by
  simp only [it_]at h;obtain ⟨h1,h2⟩:=aa_ h;cases i with
  |zero=>simp at hi;subst hi;exact Option.isSome_iff_exists.1 h1
  |succ i=>exact j6_ h2 i a (by simpa using hi)
theorem lb_:∀{l:List (Nat×Nat)} {acc:List Nat} {a:Nat},a∈p7_ l acc↔(∃i,(i,a)∈l)\/a∈acc
 |[],acc,a=>by simp [p7_]
 |(j,b)::r,acc,a=>by simp only [p7_,List.mem_cons,lb_ (l:=r)];constructor;rintro (rfl|⟨i,hi⟩|h);exact .inl ⟨j,.inl rfl⟩;exact .inl ⟨i,.inr hi⟩;exact .inr h;rintro (⟨i,h|h⟩|h);cases h;exact .inl rfl;exact .inr (.inl ⟨i,h⟩);exact .inr (.inr h)
theorem hT_:∀{l:List DA} {acc:List Nat} {a:Nat},a∈nk_ l acc↔(∃d,d∈l/\d.act=some a)\/a∈acc
 |[],acc,a=>by simp [nk_]
 |d::r,acc,a=>by unfold nk_;split;rename_i i hi;simp only [List.mem_cons,hT_ (l:=r)];constructor;rintro (rfl|⟨q,hq,h⟩|h);exact .inl ⟨d,.inl rfl,hi⟩;exact .inl ⟨q,.inr hq,h⟩;exact .inr h;rintro (⟨q,rfl|hq,h⟩|h);rw [hi]at h;cases h;exact .inl rfl;exact .inr (.inl ⟨q,hq,h⟩);exact .inr (.inr h);rename_i hi;rw [hT_ (l:=r)];constructor;rintro (⟨q,hq,h⟩|h);exact .inl ⟨q,List.mem_cons_of_mem _ hq,h⟩;exact .inr h;rintro (⟨q,hq,h⟩|h);rcases List.mem_cons.1 hq with rfl|hq;rw [hi]at h;cases h;exact .inl ⟨q,hq,h⟩;exact .inr h
theorem mp_:∀{l:List (Nat×Nat)} {acc:List (Nat×Nat)} {i j:Nat},(i,j)∈tu_ l acc->(j,i)∈l\/(i,j)∈acc
 |[],acc,i,j,h=>.inr h
 |(a,b)::r,acc,i,j,h=>by rcases List.mem_cons.1 h with h|h;cases h;exact .inl (List.mem_cons_self ..);exact (mp_ (l:=r) h).imp (List.mem_cons_of_mem _) id
theorem iC_:∀{l:List DA} {acc:List (Nat×Nat)} {i j:Nat},(i,j)∈qR_ l acc->(∃d,d∈l/\d.act=some i)\/(i,j)∈acc
 |[],acc,i,j,h=>.inr h
 |d::r,acc,i,j,h=>by unfold qR_ at h;split at h;rename_i q hq;rcases List.mem_cons.1 h with h|h;cases h;exact .inl ⟨d,List.mem_cons_self ..,hq⟩;exact (iC_ (l:=r) h).imp (λ⟨x,h1,h2⟩=>⟨x,List.mem_cons_of_mem _ h1,h2⟩) id;exact (iC_ (l:=r) h).imp (λ⟨x,h1,h2⟩=>⟨x,List.mem_cons_of_mem _ h1,h2⟩) id
def MR.act (m:MR):List Nat:=nk_ m.ds (p7_ m.rn [])
theorem si_ {m:MR} {i j:Nat} (h:au_ m.inv i=some j):i∈m.act:=by rw [MR.act,hT_];rcases iC_ (bd_ h)with h|h;exact .inl h;rcases mp_ h with h|h;exact .inr (lb_.2 (.inl ⟨j,h⟩));cases h
theorem sk_ {m:MR} {i a:Nat} (h:hv_ m i=some a):a∈m.act:=by rw [MR.act,hT_];unfold hv_ at h;split at h;rename_i b hb;cases h;exact .inr (lb_.2 (.inl ⟨i,bd_ hb⟩));split at h;rename_i d hd;exact .inl ⟨d,(bl_ hd).1,h⟩;cases h
structure MovOk (hv:List AV) (n:Nat) (r:Nat->Nat) (E1 E2:Env):Prop where
 φ:∀i x,i<top->E1.φ i=some x->E2.φ (r i)=some x
 sz:∀b n,E1.sz b=some n->E2.sz b=some n
 imm:∀b o v,E1.imm b o=some v->E2.imm b o=some v
 sy:∀i a,E1.sy i=some a->E2.sy (sgS hv n i)=some a
 cst:∀i a x,E1.sy i=some a->¬i<64->cz_ (i-64) hv=some x->okC x=true->x=a
theorem fS_ {hv:List AV} {n:Nat} {r:Nat->Nat} {E1 E:Env} (h:MovOk hv n r E1 E) {a:AV} {v:Value} (hc:Con0 E1 a v):Con0 E a v:=cb_ h.imm hc
theorem eS_ {i:Nat} (h:Nat.blt i top=true):i<top:=by simpa [Nat.blt_eq]using h
mutual
theorem hO_ {hv:List AV} {n:Nat} {r:Nat->Nat} {E1 E:Env} (h:MovOk hv n r E1 E):∀{a:AV} {v:Value},g9_ a=true->Con E1 a v->Con E (cl_ hv n r a) v
 | .opq,_,_,hc=>by simp [cl_,Con]
 | .bool _,_,_,hc=>by simpa [cl_,Con]using hc
 | .int _ _,_,_,hc=>by simpa [cl_,Con]using hc
 | .flt _ _,_,_,hc=>by simpa [cl_,Con]using hc
 | .nan _,_,_,hc=>by simpa [cl_,Con]using hc
 | .str _,_,_,hc=>by simpa [cl_,Con]using hc
 | .nptr,_,_,hc=>by simpa [cl_,Con]using hc
 | .nsl,_,_,hc=>by simpa [cl_,Con]using hc
 | .nmap,_,_,hc=>by simpa [cl_,Con]using hc
 | .nfn,_,_,hc=>by simpa [cl_,Con]using hc
 | .nif,_,_,hc=>by simpa [cl_,Con]using hc
 | .ptr id off,v,ht,hc=>by simp only [cl_,Con]at hc⊢;obtain ⟨b,o,h1,h2⟩:=hc;exact ⟨b,o,h.φ _ _ (eS_ ht) h1,h2⟩
 | .sl id off len sz cap,v,ht,hc=>by simp only [cl_,Con]at hc⊢;obtain ⟨b,o,n,c,off',h1,h2,h3⟩:=hc;exact ⟨b,o,n,c,off',h.φ _ _ (eS_ ht) h1,h.sz _ _ h2,h3⟩
 | .map id,v,ht,hc=>by simp only [cl_,Con]at hc⊢;obtain ⟨b,h1,h2⟩:=hc;exact ⟨b,h.φ _ _ (eS_ ht) h1,h2⟩
 | .slx id sz i,v,ht,hc=>by simp only [cl_,Con]at hc⊢;obtain ⟨a,h1,h2⟩:=hc;refine ⟨a,h.sy _ _ h1,h2.imp (λh=>h) λh2=>?_⟩;obtain ⟨len,cs,e,b,o,n,c,off',k1,k2,k3⟩:=h2;exact ⟨len,cs,e,b,o,n,c,off',h.φ _ _ (eS_ ht) k1,h.sz _ _ k2,k3⟩
 | .ptx id j sz off,v,ht,hc=>by simp only [cl_,Con]at hc⊢;obtain ⟨k,n,h1,b,o,h2,h3⟩:=hc;exact ⟨k,n,h.sy _ _ h1,b,o,h.φ _ _ (eS_ ht) h2,h3⟩
 | .vptr cs,v,ht,hc=>by simp only [g9_]at ht;simp only [cl_,Con]at hc⊢;obtain ⟨b,o,vs,h1,h2,h3⟩:=hc;exact ⟨b,o,vs,h1,dD_ h ht h2,λi v hv=>h.imm _ _ _ (h3 i v hv)⟩
 | .vsl len sz cs,v,ht,hc=>by simp only [g9_]at ht;simp only [cl_,Con]at hc⊢;obtain ⟨b,o,vs,c,h1,h2,h3,h4⟩:=hc;exact ⟨b,o,vs,c,h1,h2,dD_ h ht h3,λi v hv=>h.imm _ _ _ (h4 i v hv)⟩
 | .fn f cs,v,ht,hc=>by simp only [g9_]at ht;simp only [cl_,Con]at hc⊢;obtain ⟨vs,h1,h2⟩:=hc;exact ⟨vs,h1,dD_ h ht h2⟩
 | .iface t a,v,ht,hc=>by simp only [g9_]at ht;simp only [cl_,Con]at hc⊢;obtain ⟨u,h1,h2⟩:=hc;exact ⟨u,h1,hO_ h ht h2⟩
 | .agg cs,v,ht,hc=>by simp only [g9_]at ht;simp only [cl_,Con]at hc⊢;obtain ⟨vs,h1,h2⟩:=hc;exact ⟨vs,h1,dD_ h ht h2⟩
 | .tup cs,v,ht,hc=>by simp only [g9_]at ht;simp only [cl_,Con]at hc⊢;obtain ⟨vs,h1,h2⟩:=hc;exact ⟨vs,h1,dD_ h ht h2⟩
 | .sym i,v,_,hc=>by
   simp only [Con]at hc;obtain ⟨a,h1,h2,h3⟩:=hc;have key:Con E (.sym (sgS hv n i)) v:=(by simp only [Con];exact ⟨a,h.sy _ _ h1,h2,fS_ h h3⟩);simp only [cl_];unfold sgV;split;rename_i hb;have e:sgS hv n i=i:=(by unfold sgS;rw [hb]);rw [e]at key;exact key
   .rename_i hb;have hlt:¬i<64:=λhlt=>by have:Nat.blt i 64=true:=(by simpa [Nat.blt_eq]using hlt);rw [this]at hb;cases hb
    split;rename_i x hx;split;rename_i hok;have:=h.cst i a x h1 hlt hx hok;subst this;exact (fS_ h h3).con;exact key;exact key
theorem dD_ {hv:List AV} {n:Nat} {r:Nat->Nat} {E1 E:Env} (h:MovOk hv n r E1 E):∀{as:List AV} {vs:List Value},ha_ as=true->ConL E1 as vs->ConL E (fh_ hv n r as) vs
 |[],_,_,hc=>by simpa [fh_,ConL]using hc
 |a::as,vs,ht,hc=>by simp only [ha_]at ht;obtain ⟨t1,t2⟩:=aa_ ht;simp only [fh_,ConL]at hc⊢;obtain ⟨v,t,h1,h2,h3⟩:=hc;exact ⟨v,t,h1,hO_ h t1 h2,dD_ h t2 h3⟩
end
theorem mA_ (hv:List AV) (n:Nat) (r:Nat->Nat):∀(cs:List AV) (i:Nat),(fh_ hv n r cs)[i]? =cs[i]?.map (cl_ hv n r)
 |[],i=>by simp [fh_]
 |a::cs,0=>by simp [fh_]
 |a::cs,i+1=>by simpa [fh_]using mA_ hv n r cs i
theorem hw_ (hv:List AV) (n:Nat) (r:Nat->Nat):∀cs:List AV,(fh_ hv n r cs).length=cs.length
 |[]=>rfl
 |a::cs=>by simp [fh_,hw_ hv n r cs]
theorem pd_:∀{cs:List AV},ha_ cs=true->∀(i:Nat) (a:AV),cs[i]? =some a->g9_ a=true
 |[],_,i,a,h=>by simp at h
 |b::r,ht,i,a,h=>by
  simp only [ha_]at ht;obtain ⟨t1,t2⟩:=aa_ ht;cases i with
  |zero=>simp at h;subst h;exact t1
  |succ i=>exact pd_ t2 i a (by simpa using h)
def us_:ABlk->Prop
 | .cells cs=>ha_ cs=true
 |_=>True
theorem r7_ {hv:List AV} {n:Nat} {r:Nat->Nat} {E1 E:Env} (h:MovOk hv n r E1 E) {w:World} {b o:Nat} {k k':ABlk} (ht:us_ k) (hm:q2_ hv n r k=some k') (hk:BlkAt E1 w b o k):BlkAt E w b o k':=by
 cases k with
 |cells cs=>
  cases hm;obtain ⟨arr,t,h1,h2,h3,h4⟩:=hk;refine ⟨arr,t,h1,h.sz _ _ h2,by rw [hw_];exact h3,λi a ha=>?_⟩;rw [mA_]at ha;cases hc:cs[i]? with
  |none=>rw [hc]at ha;cases ha
  |some a'=>rw [hc]at ha;cases ha;obtain ⟨v,hv',hcon⟩:=h4 i a' hc;exact ⟨v,hv',hO_ h (pd_ ht i a' hc) hcon⟩
 |syl j=>cases hm;obtain ⟨len,sz,cs,h0,hlen,arr,t,h1,h2,h3,h4⟩:=hk;refine ⟨len,sz,cs,h.sy _ _ h0,hlen,arr,t,h1,h.sz _ _ h2,h3,λi a ha=>?_⟩;obtain ⟨v,hv',ho,hc⟩:=h4 i a ha;exact ⟨v,hv',ho,fS_ h hc⟩
 |mpl j=>cases hm;obtain ⟨h0,n,cs,h1,es',clock,h2,h3,h4⟩:=hk;exact ⟨h0,n,cs,h.sy _ _ h1,es',clock,h2,h3,h4.imp λ_ _ hc=>fS_ h hc⟩
 |map es c=>cases hm
 |fz cs=>cases hm
theorem rV_ {hv:List AV} {n:Nat} {r:Nat->Nat} {E1 E:Env} (h:MovOk hv n r E1 E) {k k':ABlk} (hm:q2_ hv n r k=some k') (hk:Void E1 k):Void E k':=by
 cases k with
 |syl j=>cases hm;exact h.sy _ _ hk
 |cells cs=>exact hk.elim
 |mpl j=>exact hk.elim
 |map es c=>cases hm
 |fz cs=>cases hm
theorem gb_ {hv:List AV} {n:Nat} {r:Nat->Nat} {F base:AHeap} (hr:∀id k,F.get id=some k->r id<top):∀(ids:List Nat) (x:Nat) (kk:ABlk),(lc_ hv n r F base ids).get x=some kk->(∃id k,x=r id/\F.get id=some k/\q2_ hv n r k=some kk)\/base.get x=some kk
 |[],x,kk,h=>.inr h
 |id::l,x,kk,h=>by unfold lc_ at h;split at h;rename_i k hk;split at h;rename_i k' hk';by_cases e:r id=x;subst e;rw [AHeap.get_set_same _ (hr id k hk)]at h;cases h;exact .inl ⟨id,k,rfl,hk,hk'⟩;rw [AHeap.get_set_ne _ (hr id k hk) e]at h;exact gb_ hr l x kk h;exact gb_ hr l x kk h;exact gb_ hr l x kk h
theorem kg_ {hv:List AV} {n:Nat} {r:Nat->Nat} {F base:AHeap}:∀(ids:List Nat),(lc_ hv n r F base ids).next=base.next/\(lc_ hv n r F base ids).hi=base.hi
 |[]=>⟨rfl,rfl⟩
 |id::l=>by have:=kg_ (hv:=hv) (n:=n) (r:=r) (F:=F) (base:=base) l;unfold lc_;split;split;exact this;exact this;exact this
theorem dM_:∀{ms:List (Nat×Nat)} {acc:List Nat} {id:Nat},id∈pN_ ms acc↔(∃j,(id,j)∈ms)\/id∈acc
 |[],acc,id=>by simp [pN_]
 |(i,j)::r,acc,id=>by simp only [pN_,List.mem_cons,dM_ (ms:=r)];constructor;rintro (rfl|⟨q,h⟩|h);exact .inl ⟨j,.inl rfl⟩;exact .inl ⟨q,.inr h⟩;exact .inr h;rintro (⟨q,h|h⟩|h);cases h;exact .inl rfl;exact .inr (.inl ⟨q,h⟩);exact .inr (.inr h)
theorem kf_:∀{rows:List (Nat×List AV)} {id:Nat},id∈mn_ rows↔∃cs,(id,cs)∈rows
 |[],id=>by simp [mn_]
 |(i,c)::r,id=>by simp only [mn_,List.mem_cons,kf_ (rows:=r)];constructor;rintro (rfl|⟨q,h⟩);exact ⟨c,.inl rfl⟩;exact ⟨q,.inr h⟩;rintro ⟨q,h|h⟩;cases h;exact .inl rfl;exact .inr ⟨q,h⟩
theorem ga_:∀{ts:List TA} {l:List Nat} {id:Nat},id∈c1_ ts l↔(∃t,t∈ts/\t.id=id)\/id∈l
 |[],l,id=>by simp [c1_]
 |t::r,l,id=>by simp only [c1_,List.mem_cons,ga_ (ts:=r)];constructor;rintro (rfl|⟨q,h,e⟩|h);exact .inl ⟨t,.inl rfl,rfl⟩;exact .inl ⟨q,.inr h,e⟩;exact .inr h;rintro (⟨q,rfl|h,e⟩|h);exact .inl e.symm;exact .inr (.inl ⟨q,h,e⟩);exact .inr (.inr h)
theorem pe_:∀{l:List Nat},oa_ l=true->∀id,id∈l->id<top
 |[],_,id,h=>by cases h
 |i::r,ht,id,h=>by simp only [oa_]at ht;obtain ⟨t1,t2⟩:=aa_ ht;rcases List.mem_cons.1 h with rfl|h;exact eS_ t1;exact pe_ t2 id h
theorem pf_ {n:Nat}:∀{rows:List (Nat×List AV)},ob_ n rows=true->∀id cs,(id,cs)∈rows->ha_ (bw_ n cs)=true
 |[],_,id,cs,h=>by cases h
 |(i,c)::r,ht,id,cs,h=>by simp only [ob_]at ht;obtain ⟨t1,t2⟩:=aa_ ht;rcases List.mem_cons.1 h with h|h;cases h;exact t1;exact pf_ t2 id cs h
theorem iA_ {n:Nat} {H0:AHeap}:∀{ts:List TA},(∀t,t∈ts->t.id<top)->∀id k,(fp_ n H0 ts).get id=some k->(∃j,k=.syl j)\/H0.get id=some k
 |[],_,id,k,hk=>.inr hk
 |t::r,hlt,id,k,hk=>by have ht:=hlt t (List.mem_cons_self ..);unfold fp_ at hk;by_cases e:t.id=id;subst e;rw [AHeap.get_set_same _ ht]at hk;cases hk;exact .inl ⟨_,rfl⟩;rw [AHeap.get_set_ne _ ht e]at hk;exact iA_ (λd hd=>hlt d (List.mem_cons_of_mem _ hd)) id k hk
theorem qQ_ {tp:Tpl} {n:Nat} (hr:ob_ n tp.rows=true) (hN:oa_ (c1_ tp.acc tp.ids)=true):∀id k,(tp.heap n).get id=some k->us_ k:=by intro id k hk;have hid:∀i,i∈c1_ tp.acc tp.ids->i<top:=pe_ hN;have h1:∀a b,(a,b)∈tp.fix->a<top:=λa b h=>hid a (ga_.2 (.inr (dM_.2 (.inl ⟨b,h⟩))));have h2:∀a b,(a,b)∈tp.maps->a<top:=λa b h=>hid a (ga_.2 (.inr (dM_.2 (.inr (dM_.2 (.inl ⟨b,h⟩))))));have h3:∀a b,(a,b)∈tp.rows->a<top:=λa b h=>hid a (ga_.2 (.inr (dM_.2 (.inr (dM_.2 (.inr (kf_.2 ⟨b,h⟩)))))));have h4:∀t,t∈tp.acc->t.id<top:=λt h=>hid _ (ga_.2 (.inl ⟨t,h,rfl⟩));rcases gJ_ tp.fix h1 id k hk with ⟨j,_,rfl⟩|hk;trivial;rcases gL_ tp.maps h2 id k hk with ⟨j,_,rfl⟩|hk;trivial;rcases iA_ h4 id k hk with ⟨j,rfl⟩|hk;trivial;obtain ⟨cs,h5,rfl⟩:=gK_ tp.rows h3 id k hk;exact pf_ hr id cs h5
theorem mo_ {n:Nat}:∀{slots:List (Nat×AV)} {i:Nat},fH_ i slots=true->∀j a,(bw_ n (cA_ slots))[j]? =some a->i+j<512/\tget (cI_ n slots) (i+j)=a
 |[],i,_,j,a,h=>by simp [cA_,bw_]at h
 |(q,b)::r,i,hs,j,a,h=>by
  simp only [fH_]at hs;obtain ⟨e1,hs⟩:=aa_ hs;obtain ⟨e2,hs3⟩:=aa_ hs;have e1:=Nat.eq_of_beq_eq_true e1;subst e1;have e2:i<512:=(by simpa [Nat.blt_eq]using e2);simp only [cA_,bw_]at h;show _/\tget (dx_ (cI_ n r) i (bh_ n b)) (i+j)=a;cases j with
  |zero=>simp at h;subst h;exact ⟨by omega,ap_ _ e2 _⟩
  |succ j=>obtain ⟨h1,h2⟩:=mo_ (i:=i+1) hs3 j a (by simpa using h);have e:i+(j+1)=i+1+j:=(by omega);rw [e];exact ⟨h1,by rw [av_ _ h1 e2 (by omega) _];exact h2⟩
theorem eK_:∀{Y:Sy} {n:Nat} (l:List AV),Fresh Y n->∀(i:Nat) (a:AV),(Y.puts n l).v i=some a->Y.v i=some a\/∃q,i=n+q/\l[q]? =some a
 |Y,n,[],_,i,a,h=>.inl h
 |Y,n,b::r,hf,i,a,h=>by rcases eK_ (Y:=Y.put n b) (n:=n+1) r (hf.put b) i a h with h|⟨q,e,h⟩;by_cases e:i=n;subst e;rw [Sy.put_same]at h;cases h;exact .inr ⟨0,rfl,rfl⟩;rw [Sy.put_ne _ _ e]at h;exact .inl h;exact .inr ⟨q+1,by omega,by simpa using h⟩
theorem qq_ {i:Nat} (h:64<=i):Nat.blt i 64=false:=by
 cases hb:Nat.blt i 64 with
 |false=>rfl
 |true=>have:i<64:=(by simpa [Nat.blt_eq]using hb);omega
variable [Gl]
theorem tm_ {P:Program} {f:FuncId} {ft:FT} {T1:Tm} {S:VS} {m:MR} {low:List Nat} {Y:Sy} {Q:Nat->List AV->Prop} {nargs:Nat} (hm:gP_ 64 ft.ent T1 S.H=some m) (hlow:nL_ m ft.k=some low) (hroom:mP_ ft.k (64+ft.ent.nv) S.H ft.exs=true) (hhi:S.H.hi<=top)
  (hna:nargs=(cA_ ft.ent.slots).length) (hsl:fH_ 0 ft.ent.slots=true) (ca_:it_ S.H low=true) (hF:CF P f ft (ab_ Y.v m.hv) Q) (hok:okL (ab_ Y.v m.hv)=true) (hf:Fresh Y S.n)
  {B:World} {pr:Nat->Prop} {E:Env} {w:World} {us:List Value} (hy:E.At Y) (hg:GlOk E) (hr:Rel B pr E S.H w) (hus:us.length=nargs) (hc:∀t,t<512->Con E (tget T1 t) ((⟨us⟩:Array Value).getD t undef)) (kk:Nat):
  Calls P f ⟨us⟩ w λe w'=>∃j ws b tp E2 v,ft.exs[j]? =some (b,tp)/\Q j ws/\okL ws=true/\ws.length=tp.nv/\(∀i x,E.sy i=some x->((Y.puts S.n (ab_ Y.v m.hv)).puts (S.n+ft.ent.nv) ws).v i=some x)/\
   (E.with ((Y.puts S.n (ab_ Y.v m.hv)).puts (S.n+ft.ent.nv) ws)).sub E2/\E.leF kk E2/\E2.At ((Y.puts S.n (ab_ Y.v m.hv)).puts (S.n+ft.ent.nv) ws)/\Rel B pr E2 (exH ft m low S tp) w'/\Con E2 (exV ft m low S tp) v/\
   e=(match b with
    |true=>.panicked [{ v:=v,recovered:=false }]
    |false=>.returned v):=by
 obtain ⟨own,g1,g2,g3,g4⟩:∃own:Nat->Option Nat,(∀id k,S.H.get id=some k->RowAt E w own id k)/\(∀b,pr b->own b=none)/\(∀b o v,E.imm b o=some v->own b=none)/\∀b,¬b<w.heap.size->own b=none:=by obtain ⟨own,g1,g2,g3⟩:=hr.own;refine ⟨λb=>if b<w.heap.size then own b else none,λid k hk=>?_,λb hb=>?_,λb o v hi=>?_,λb hb=>if_neg hb⟩;exact (g1 id k hk).imp (λ_ h=>h) (λh=>h) λb o h1 h2 h3=>⟨(if_pos h3.lt).trans h2,h3⟩;show (if b<w.heap.size then own b else none)=none;split;exact g2 b hb;rfl;show (if b<w.heap.size then own b else none)=none;split;exact g3 b o v hi;rfl
 have hvd0:∀id,E.vd id->E.φ id=none/\¬(S.H.next<=id/\id<S.H.hi):=λid h=>hr.resv id (hr.vds id h);generalize hvs:ab_ Y.v m.hv=vs at*;have hvs':ab_ E.sy m.hv=vs:=by rw [hy.v];exact hvs
 have hvlen:vs.length=ft.ent.nv:=hF.1
 let Yg:Sy:=⟨λi=>if i<64 then Y.v i else none,Y.l⟩
 have hfg:Fresh Yg 64:=⟨Nat.le_refl _,λi hi=>if_neg (by omega)⟩;have hmc:=iM_ (w:=w) (own:=own) (Y0:=Yg) hm hfg (λi hi=>by rw [hy.v];exact (if_pos hi).symm) (by rw [hvs'];exact hok) g1 (λid h=>(hvd0 id h).1) E.imm;rw [hvs']at hmc;obtain ⟨p1,p2,p3,p4⟩:=hfg.puts vs;generalize hE1:sm_ m E (Yg.puts 64 vs) E.imm=E1 at hmc;have e1sz:E1.sz=E.sz:=by rw [←hE1];rfl
 have e1imm:E1.imm=E.imm:=by rw [←hE1];rfl
 have e1bim:E1.bim=E.imm:=by rw [←hE1];rfl
 have e1sy:E1.sy=(Yg.puts 64 vs).v:=by rw [←hE1];rfl
 have e1syl:E1.syl=(Yg.puts 64 vs).l:=by rw [←hE1];rfl
 have e1res:E1.res=E1.vd:=by rw [←hE1];rfl
 have e1low:∀i,i<64->E1.sy i=E.sy i:=λi hi=>by rw [e1sy,p4 i hi,hy.v];exact if_pos hi
 obtain ⟨hn1,hn2⟩:=Tpl.heap_next ft.ent 64
 let pr':Nat->Prop:=λb=>b<w.heap.size/\hF_ m own b=none
 have hrel1:Rel w pr' E1 (ft.ent.heap 64) w:={
  own:=⟨hF_ m own,hmc.rows,λb hb=>hb.2,λb o v hv=>by unfold hF_;rw [g3 b o v (by rw [←e1imm];exact hv)]⟩
  imm:=by rw [e1imm];exact hr.imm
  ib:=λb o v _ hv=>by rw [e1bim,←e1imm];exact hv
  fresh:=λid h1 _=>hmc.fresh id (hn1▸h1)
  resv:=λid hi=>by
   rw [e1res]at hi;obtain ⟨h1,h2⟩:=hmc.vd id hi;refine ⟨h1,λhx=>?_⟩;have:(ft.ent.heap 64).next<=id:=hx.1
   rw [hn1]at this;omega
  vds:=λid h=>by rw [e1res];exact h
  szs:=by rw [e1sz];exact hr.szs
  prot:=λb hb=>⟨hb.1,rfl⟩
  size:=Nat.le_refl _
  os:=rfl
  output:=rfl }
 have hgl1:GlOk E1:=⟨λg=>cn_ (E:=E) (E':=E1) (λ_ _ _ h=>by rw [e1imm];exact h) (λi a hi hx=>by rw [e1low i hi];exact hx) (Gl.nr g) (hg.1 g),Gl.gtm _ _ e1low hg.2⟩;have hcl:ConL E1 (bw_ 64 (cA_ ft.ent.slots)) us:=by have hs:=hmc.slots ⟨us⟩ hc;refine ConL.of_at (by rw [e9_,hus,hna]) λi a v h1 h2=>?_;obtain ⟨h3,h4⟩:=mo_ hsl i a h1;rw [Nat.zero_add]at h3 h4;have:=hs i h3;rw [h4]at this;have e:(⟨us⟩:Array Value).getD i undef=v:=(by simp [Array.getD_eq_getD_getElem?,h2]);rw [e]at this;exact this
 refine Calls.mono (hF.2 Yg hfg w pr' E1 w us ⟨e1sy,e1syl,λid h=>by rw [e1res]at h;exact h⟩ hgl1 hrel1 hcl) λe w' he=>?_;obtain ⟨Y1,r1,⟨j,ws,b,tp,hj,hQ,hokw,hlw,rfl,rfl⟩,E1',hle1,hy1,hres⟩:=he;have hrm:ft.k<=tp.next/\S.H.next+(tp.next-ft.k)<S.H.hi/\g9_ (tget (cI_ (64+ft.ent.nv) tp.slots) 0)=true/\ob_ (64+ft.ent.nv) tp.rows=true/\oa_ (c1_ tp.acc tp.ids)=true:=by
  have:∀(l:List (Bool×Tpl)) (j:Nat),mP_ ft.k (64+ft.ent.nv) S.H l=true->l[j]? =some (b,tp)->ft.k<=tp.next/\S.H.next+(tp.next-ft.k)<S.H.hi/\g9_ (tget (cI_ (64+ft.ent.nv) tp.slots) 0)=true/\ob_ (64+ft.ent.nv) tp.rows=true/\oa_ (c1_ tp.acc tp.ids)=true:=by
   intro l
   induction l with
   |nil=>intro j _ h;simp at h
   |cons q r ih=>
    intro j h hj;obtain ⟨b',tp'⟩:=q;simp only [mP_]at h;obtain ⟨q1,h⟩:=aa_ h;obtain ⟨q2,h⟩:=aa_ h;obtain ⟨q3,h⟩:=aa_ h;obtain ⟨q4,h⟩:=aa_ h;obtain ⟨q5,h⟩:=aa_ h;cases j with
    |zero=>simp at hj;obtain ⟨rfl,rfl⟩:=hj;exact ⟨Nat.le_of_ble_eq_true q1,by simpa [Nat.blt_eq]using q2,q3,q4,q5⟩
    |succ j=>exact ih j h (by simpa using hj)
  exact this ft.exs j hroom hj
 obtain ⟨hk,hnx,htv,htr,htn⟩:=hrm;have hend:∃u,e=(match b with
       |true=>.panicked [{ v:=u,recovered:=false }]
       |false=>.returned u)/\Con E1' (tget (cI_ (64+ft.ent.nv) tp.slots) 0) u/\Rel w pr' E1' (tp.heap (64+ft.ent.nv)) w':=by
  cases b with
  |true=>exact hres
  |false=>exact hres
 obtain ⟨u,he,hcu,hr1'⟩:=hend;obtain ⟨lw1,lw2⟩:=oN_ hlow
 let nx:=S.H.next
 let r:Nat->Nat:=n0_ low ft.k nx
 have rlow:∀i,i<ft.k->∃a k,r i=a/\hv_ m i=some a/\S.H.get a=some k:=λi hi=>by obtain ⟨a,q1,q2⟩:=lw2 i hi;obtain ⟨k,hk⟩:=j6_ ca_ i a q1;exact ⟨a,k,by show n0_ low ft.k nx i=a;unfold n0_;rw [lf_,q1],q2,hk⟩
 have rnew:∀i,ft.k<=i->r i=nx+(i-ft.k):=λi hi=>by show n0_ low ft.k nx i=_;unfold n0_;rw [lf_,List.getElem?_eq_none (by omega)];rfl
 have hold:∀a k,S.H.get a=some k->¬(nx<=a/\a<S.H.hi):=λa k hk hx=>by rcases g1 a k hk with ⟨h1,_⟩|⟨b,o,h1,_⟩;exact (hvd0 a h1).2 hx;rw [hr.fresh a hx.1 hx.2]at h1;cases h1
 have rinj:∀i j,i<tp.next->j<tp.next->r i=r j->i=j:=λi j hi hj e=>by rcases Nat.lt_or_ge i ft.k with h1|h1;obtain ⟨a,ka,ra,la,ga⟩:=rlow i h1;rcases Nat.lt_or_ge j ft.k with h2|h2;obtain ⟨a',ka',ra',la',ga'⟩:=rlow j h2;have:a=a':=(by rw [←ra,←ra'];exact e);subst this;refine hmc.inj i j a ?_ ?_;unfold hv_ at la;split at la;rename_i q hq;cases la;exact .inl hq;split at la;rename_i d hd;exact .inr ⟨d,hd,la⟩;cases la;unfold hv_ at la';split at la';rename_i q hq;cases la';exact .inl hq;split at la';rename_i d hd;exact .inr ⟨d,hd,la'⟩;cases la';exfalso;rw [ra,rnew j h2]at e;exact hold a ka ga ⟨by omega,by omega⟩;rcases Nat.lt_or_ge j ft.k with h2|h2;exfalso;obtain ⟨a,ka,ra,la,ga⟩:=rlow j h2;rw [ra,rnew i h1]at e;exact hold a ka ga ⟨by omega,by omega⟩;rw [rnew i h1,rnew j h2]at e;omega
 have e1φ:∀i,i<ft.k->E1.φ i=E.φ (r i):=λi hi=>by
  obtain ⟨a,ka,ra,la,ga⟩:=rlow i hi;rw [ra,←hE1];show (match ay_ m.ds i with
   |some d=>match fq_ (den E.sy d.x)with
    |true=>none
    |false=>match d.act with
     |some i=>E.φ i
     |none=>none
   |none=>match au_ m.rn i with
    |some a=>E.φ a
    |none=>none)=_
  unfold hv_ at la;split at la;rename_i q hq;cases la;rw [hmc.rnA i a hq,hq]
  .split at la
   .rename_i d hd;rw [hd];simp only [la];cases hnl:fq_ (den E.sy d.x)with
    |true=>exact (hmc.accN d a (bl_ hd).1 la hnl).symm
    |false=>rfl
   cases la
 have e1lt:∀i x,i<top->E1'.φ i=some x->i<tp.next:=λi x hi hx=>by rcases Nat.lt_or_ge i tp.next with h|h;exact h;obtain ⟨a1,a2⟩:=Tpl.heap_next tp (64+ft.ent.nv);rw [hr1'.fresh i (by rw [a1];exact h) (by rw [a2];exact hi)]at hx;cases hx
 generalize hYy:(Y.puts S.n vs).puts (S.n+ft.ent.nv) ws=Y' at*;have hfn:=hf.puts vs;rw [hvlen]at hfn;obtain ⟨f1,f2,f3,f4⟩:=hfn;obtain ⟨f5,f6,f7,f8⟩:=f1.puts ws;rw [hYy]at f5 f6 f7 f8;have hYv:∀i x,E.sy i=some x->Y'.v i=some x:=λi x hx=>f6 i x (f2 i x (by rw [←hy.v];exact hx));have hYl:∀i l,E.syl i=some l->Y'.l i=some l:=λi l hx=>by rw [f7,f3,←hy.l];exact hx
 have hYlo:∀i,i<64->Y'.v i=E.sy i:=λi hi=>by rw [f8 i hi,f4 i hi,hy.v]
 have e1'sy:E1'.sy=((Yg.puts 64 vs).puts (64+ft.ent.nv) ws).v:=hy1.v;have p1':Fresh (Yg.puts 64 vs) (64+ft.ent.nv):=by rw [←hvlen];exact p1
 have hvo:∀i a,vs[i]? =some a->okC a=true:=λi a ha=>cT_ hok a (List.mem_of_getElem? ha);have hhv:m.hv.length=ft.ent.nv:=by have:=congrArg List.length hvs;rw [cw_]at this;omega
 have hat:∀i a,E1'.sy i=some a->(i<64/\Y.v i=some a)\/(∃q,i=64+q/\vs[q]? =some a)\/∃q,i=64+ft.ent.nv+q/\ws[q]? =some a:=λi a ha=>by rw [e1'sy]at ha;rcases eK_ ws p1' i a ha with ha|⟨q,e,hq⟩;rcases eK_ vs hfg i a ha with ha|⟨q,e,hq⟩;have ha:(if i<64 then Y.v i else none)=some a:=ha;split at ha;rename_i hi;exact .inl ⟨hi,ha⟩;cases ha;exact .inr (.inl ⟨q,e,hq⟩);exact .inr (.inr ⟨q,e,hq⟩)
 have hvq:∀q x,m.hv[q]? =some x->vs[q]? =some (den Y.v x):=λq x hx=>by rw [←hvs];exact fW_ Y.v m.hv q x hx
 classical
 let φ2:Nat->Option (Nat×Nat):=λi=>match E.φ i with
  |some x=>some x
  |none=>if hx:∃j,j<tp.next/\i=r j then E1'.φ (Classical.choose hx)else none
 have hφ2:∀j,j<tp.next->(∀x,E.φ (r j)=some x->E1'.φ j=some x)->φ2 (r j)=E1'.φ j:=λj hj hx=>by
  show (match E.φ (r j)with
   |some x=>some x
   |none=>if hx:∃j',j'<tp.next/\r j=r j' then E1'.φ (Classical.choose hx)else none)=_
  cases hE:E.φ (r j)with
  |some x=>exact (hx x hE).symm
  |none=>have hex:∃j',j'<tp.next/\r j=r j':=⟨j,hj,rfl⟩;simp only;rw [dif_pos hex];obtain ⟨c1,c2⟩:=Classical.choose_spec hex;rw [←rinj _ _ hj c1 c2]
 have hφk:∀j,j<tp.next->∀x,E.φ (r j)=some x->E1'.φ j=some x:=λj hj x hx=>by rcases Nat.lt_or_ge j ft.k with h|h;exact hle1.phi j x h ((e1φ j h).trans hx);rw [rnew j h,hr.fresh _ (by show nx<=_;omega) (by omega)]at hx;cases hx
 let vd2:Nat->Prop:=λid=>(E.vd id/\id∉m.act)\/∃j,j<tp.next/\id=r j/\E1'.vd j
 let E2:Env:=⟨φ2,E1'.sz,E1'.imm,vd2,E.bim,Y'.v,Y'.l,vd2⟩
 have hmov:MovOk m.hv S.n r E1' E2:={
  φ:=λi x hi hx=>by have:=e1lt i x hi hx;show φ2 (r i)=some x;rw [hφ2 i this (hφk i this)];exact hx
  sz:=λ_ _ h=>h
  imm:=λ_ _ _ h=>h
  sy:=λi a ha=>by
   show Y'.v (sgS m.hv S.n i)=some a;rcases hat i a ha with ⟨hi,ha⟩|⟨q,rfl,hq⟩|⟨q,rfl,hq⟩;have:sgS m.hv S.n i=i:=(by unfold sgS;rw [show Nat.blt i 64=true by simpa [Nat.blt_eq]using hi]);rw [this];exact hYv i a (by rw [hy.v];exact ha)
   .have hb:Nat.blt (64+q) 64=false:=qq_ (by omega);have hsub:Nat.sub (64+q) 64=q:=(by show 64+q-64=q;omega);have hdef:Y'.v (S.n+q)=some a:=f6 _ _ (b0_ vs hf q a hq);unfold sgS;rw [hb];simp only [hsub,d6_];split
    .rename_i s hs;have:=hvq q _ hs;rw [hq]at this;cases hs':Y.v s with
     |none=>simp only [den,hs']at this;cases this;have:=hvo q _ hq;cases this
     |some y=>simp only [den,hs']at this;have e:=Option.some.inj this;rw [e];exact hYv s y (by rw [hy.v];exact hs')
    exact hdef
   have hb:Nat.blt (64+ft.ent.nv+q) 64=false:=qq_ (by omega);have hsub:Nat.sub (64+ft.ent.nv+q) 64=ft.ent.nv+q:=(by show 64+ft.ent.nv+q-64=_;omega);have hdef:Y'.v (S.n+ft.ent.nv+q)=some a:=(by rw [←hYy];exact b0_ ws f1 q a hq);unfold sgS;rw [hb];simp only [hsub,d6_];rw [List.getElem?_eq_none (by omega)];show Y'.v (S.n+(ft.ent.nv+q))=some a;rw [←Nat.add_assoc];exact hdef
  cst:=λi a x ha hi hx hxo=>by
   rw [d6_]at hx;rcases hat i a ha with ⟨hi',_⟩|⟨q,rfl,hq⟩|⟨q,rfl,hq⟩;exact absurd hi' hi;rw [show 64+q-64=q by omega]at hx;have:=hvq q x hx;rw [hq,hQ_ _ hxo]at this;cases this;rfl
   .rw [List.getElem?_eq_none (by omega)]at hx;cases hx }
 have hsub:(E.with Y').sub E2:=⟨λi x hx=>by
  have hx:E.φ i=some x:=hx;show φ2 i=some x;show (match E.φ i with
   |some x=>some x
   |none=>_)=some x
  rw [hx],λb n hb=>hle1.sz b n (by rw [e1sz];exact hb),λb o v hb=>hle1.imm b o v (by rw [e1imm];exact hb),rfl,rfl⟩
 obtain ⟨n1,n2⟩:=Tpl.heap_next tp (64+ft.ent.nv);obtain ⟨own1,o1,o2,o3⟩:=hr1'.own;have hbim1:E1'.bim=E.imm:=hle1.bim.trans e1bim;have hres1:∀id,E1'.vd id->E1'.φ id=none:=λid h=>(hr1'.resv id (hr1'.vds id h)).1;have hpr:∀b,pr b->pr' b:=λb hb=>⟨Nat.lt_of_lt_of_le (hr.prot b hb).1 hr.size,by unfold hF_;rw [g2 b hb]⟩;have hfree:∀b id,b<w.heap.size->own b=some id->id∉m.act->pr' b:=λb id hb ho hn=>⟨hb,by
  unfold hF_;rw [ho];cases hf:au_ m.inv id with
  |none=>exact hf
  |some q=>exact absurd (si_ hf) hn⟩
 have himm1:∀b o v,pr' b->E1'.imm b o=some v->E.imm b o=some v:=λb o v hb hv=>by rw [←hbim1];exact hr1'.ib b o v hb hv
 let own2:Nat->Option Nat:=λb=>match own1 b with
  |some j=>some (r j)
  |none=>match own b with
   |some id=>if id∈m.act then none else some id
   |none=>none
 refine ⟨j,ws,b,tp,E2,u,hj,hQ,hokw,hlw,?_⟩;rw [hYy];refine ⟨hYv,hsub,⟨λi x _ hx=>hsub.1 i x hx,λb n hb=>hsub.2.1 b n hb,λb o v hb=>hsub.2.2.1 b o v hb,rfl,hYlo⟩,⟨rfl,rfl,λ_ h=>h⟩,?_,hO_ hmov htv hcu,he⟩;have hbase:∀id k,(dl_ S.H m.act).get id=some k->S.H.get id=some k/\id∉m.act:=λid k h=>fc_ m.act id k h;have hrt:∀j k,(tp.heap (64+ft.ent.nv)).get j=some k->r j<top:=λj k hjk=>by
  have hjl:=AHeap.get_lt hjk;rcases Nat.lt_or_ge j ft.k with h1|h1;obtain ⟨a,ka,ra,la,ga⟩:=rlow j h1;rw [ra];exact AHeap.get_lt ga
  .rw [rnew j h1];have hjn:j<tp.next:=by rcases o1 j k hjk with ⟨q1,_⟩|⟨bb,oo,q1,_⟩;rcases Nat.lt_or_ge j tp.next with h|h;exact h;exact absurd ⟨by rw [n1];exact h,by rw [n2];exact hjl⟩ (hr1'.resv j (hr1'.vds j q1)).2;exact e1lt j _ hjl q1
   omega
 have hH2:∀id kk,(exH ft m low S tp).get id=some kk->(∃j k,id=r j/\(tp.heap (64+ft.ent.nv)).get j=some k/\q2_ m.hv S.n r k=some kk)\/(S.H.get id=some kk/\id∉m.act):=λid kk h=>by rcases gb_ (r:=r) hrt _ id kk h with h|h;exact .inl h;refine .inr (hbase id kk ?_);have h:AHeap.get ⟨(dl_ S.H m.act).tr,_,_⟩ id=some kk:=h;exact h
 obtain ⟨m1,m2⟩:=kg_ (hv:=m.hv) (n:=S.n) (r:=r) (F:=tp.heap (64+ft.ent.nv)) (base:=(⟨(dl_ S.H m.act).tr,Nat.add S.H.next (Nat.sub tp.next ft.k),(dl_ S.H m.act).hi⟩:AHeap)) (c1_ tp.acc tp.ids);have hnext:(exH ft m low S tp).next=nx+(tp.next-ft.k):=m1
 have hhi2:(exH ft m low S tp).hi=S.H.hi:=m2.trans (cq_ m.act).2;have hnotr:∀id,E.φ id=none->(∀j,j<tp.next->id≠r j)->φ2 id=none:=λid h1 h2=>by
  show (match E.φ id with
   |some x=>some x
   |none=>if hx:∃j,j<tp.next/\id=r j then E1'.φ (Classical.choose hx)else none)=none
  rw [h1];simp only;rw [dif_neg];rintro ⟨j,q1,q2⟩;exact h2 j q1 q2
 refine { own:=⟨own2,λid kk hkk=>?_,λb hb=>?_,λb o v hv=>?_⟩,imm:=hr1'.imm,ib:=λb o v hb hv=>hr.ib b o v hb (himm1 b o v (hpr b hb) hv),fresh:=λid h1 h2=>?_,resv:=λid hi=>?_,vds:=λ_ h=>h,szs:=hr1'.szs,prot:=λb hb=>⟨(hr.prot b hb).1,(hr1'.prot b (hpr b hb)).2.trans (hr.prot b hb).2⟩,size:=Nat.le_trans hr.size hr1'.size,os:=hr1'.os.trans hr.os,output:=hr1'.output.trans hr.output }
 .rcases hH2 id kk hkk with ⟨j,k,rfl,hjk,hmv⟩|⟨hk,hna⟩;have hjl:=AHeap.get_lt hjk;have htb:=qQ_ htr htn j k hjk;rcases o1 j k hjk with ⟨q1,q2⟩|⟨bb,oo,q1,q2,q3⟩;have hjn:j<tp.next:=(by rcases Nat.lt_or_ge j tp.next with h|h;exact h;exact absurd ⟨by rw [n1];exact h,by rw [n2];exact hjl⟩ (hr1'.resv j (hr1'.vds j q1)).2);exact .inl ⟨.inr ⟨j,hjn,rfl,q1⟩,rV_ hmov hmv q2⟩;exact .inr ⟨bb,oo,hmov.φ j _ hjl q1,by show (match own1 bb with|some j=>some (r j)|none=>_)=_;rw [q2],r7_ hmov htb hmv q3⟩
  .rcases g1 id kk hk with ⟨q1,q2⟩|⟨bb,oo,q1,q2,q3⟩;exact .inl ⟨.inl ⟨q1,hna⟩,q2.sub λi hi=>hYv i _ hi⟩
   .have hp:=hfree bb id q3.lt q2 hna;refine .inr ⟨bb,oo,hsub.1 id _ q1,?_,?_⟩
    .show (match own1 bb with
       |some j=>some (r j)
       |none=>match own bb with
        |some id=>if id∈m.act then none else some id
        |none=>none)=_
     rw [o2 bb hp,q2];exact if_neg hna
    have h1:RowAt (E.with Y') w (λ_=>some id) id kk:=RowAt.withS (.inr ⟨bb,oo,q1,rfl,q3⟩) hYv hYl;rcases h1 with ⟨x1,x2⟩|⟨b2,o2',x1,_,x3⟩;exfalso;have:E.φ id=none:=(hvd0 id x1).1;rw [q1]at this;cases this;have x1:E.φ id=some (b2,o2'):=x1;rw [q1]at x1;cases x1;exact x3.sub hsub (hr1'.prot bb hp).2
 .show (match own1 b with
    |some j=>some (r j)
    |none=>match own b with
     |some id=>if id∈m.act then none else some id
     |none=>none)=none
  rw [o2 b (hpr b hb),g2 b hb]
 .have hv:E1'.imm b o=some v:=hv;show (match own1 b with
   |some j=>some (r j)
   |none=>match own b with
    |some id=>if id∈m.act then none else some id
    |none=>none)=none
  rw [o3 b o v hv];cases ho:own b with
  |none=>rfl
  |some id=>
   simp only;split;rfl
   .rename_i hna;have hlt:b<w.heap.size:=by rcases Nat.lt_or_ge b w.heap.size with h|h;exact h;rw [g4 b (by omega)]at ho;cases ho
    have:=g3 b o v (himm1 b o v (hfree b id hlt ho hna) hv);rw [ho]at this;cases this
 rw [hnext]at h1;rw [hhi2]at h2;refine hnotr id (hr.fresh id (by show nx<=id;omega) h2) λj hj e=>?_;rcases Nat.lt_or_ge j ft.k with h|h;obtain ⟨a,ka,ra,la,ga⟩:=rlow j h;rw [ra]at e;subst e;exact hold id ka ga ⟨by omega,h2⟩;rw [rnew j h]at e;omega;rcases hi with ⟨q1,q2⟩|⟨j,hj,rfl,q1⟩;obtain ⟨a1,a2⟩:=hvd0 id q1;refine ⟨hnotr id a1 λj hj e=>?_,λhx=>a2 ⟨by have:=hx.1;rw [hnext]at this;show nx<=id;omega,by have:=hx.2;rw [hhi2]at this;exact this⟩⟩;rcases Nat.lt_or_ge j ft.k with h|h;obtain ⟨a,ka,ra,la,ga⟩:=rlow j h;rw [ra]at e;subst e;exact q2 (sk_ la);rw [rnew j h]at e;exact a2 ⟨by show nx<=id;omega,by omega⟩;refine ⟨by show φ2 (r j)=none;rw [hφ2 j hj (hφk j hj)];exact hres1 j q1,λhx=>?_⟩;rcases Nat.lt_or_ge j ft.k with h|h;obtain ⟨a,ka,ra,la,ga⟩:=rlow j h;rw [ra,hnext,hhi2]at hx;exact hold a ka ga ⟨by omega,hx.2⟩;rw [rnew j h,hnext]at hx;omega
end Go.Sx
