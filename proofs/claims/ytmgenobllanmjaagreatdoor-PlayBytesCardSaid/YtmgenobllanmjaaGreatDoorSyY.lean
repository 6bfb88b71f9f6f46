/-
  A call of a function that takes rows, in a heap that holds them.
-/
import Derived.Test.YtmgenobllanmjaaGreatDoorSyI
set_option linter.unusedVariables false
set_option linter.unusedSimpArgs false
namespace Go.Sx
theorem lI_:∀(n:Nat) (l:List Nat),tq_ n l=l[n]?
 |n,[]=>by cases n<;>rfl
 |0,a::r=>rfl
 |n+1,a::r=>by simp [tq_,lI_ n r]
theorem pK_:∀(l:List Nat) (a:Nat),og_.snoc l a=l++[a]
 |[],a=>rfl
 |x::r,a=>by simp [og_.snoc,pK_ r a]
theorem pm_ {m:MR}:∀{k:Nat} {l:List Nat},og_ m k=some l->l.length=k/\∀i,i<k->∃a,l[i]? =some a/\i8_ m i=some a
 |0,l,h=>by cases h;simp
 |k+1,l,h=>by
  unfold og_ at h;split at h
  case h_2=>cases h
  rename_i l' hl;split at h
  case h_2=>cases h
  rename_i a ha;cases h;obtain ⟨h1,h2⟩:=pm_ hl;rw [pK_];refine ⟨by simp [h1],λi hi=>?_⟩;rcases Nat.lt_or_ge i k with hlt|hge;obtain ⟨b,q1,q2⟩:=h2 i hlt;exact ⟨b,by rw [List.getElem?_append_left (by omega)];exact q1,q2⟩;have:i=k:=(by omega);subst this;exact ⟨a,by rw [List.getElem?_append_right (by omega),h1];simp,ha⟩
theorem kD_ {H:AHeap}:∀{l:List Nat},lC_ H l=true->∀(i:Nat) (a:Nat),l[i]? =some a->∃k,H.get a=some k
 |[],_,i,a,hi=>by simp at hi
 |b::r,h,i,a,hi=>by
  obtain ⟨h1,h2⟩:=aa_ h;cases i with
  |zero=>simp at hi;subst hi;exact Option.isSome_iff_exists.1 h1
  |succ i=>exact kD_ h2 i a (by simpa using hi)
theorem lF_:∀{l:List (Nat×Nat)} {acc:List Nat} {a:Nat},a∈qJ_ l acc↔(∃i,(i,a)∈l)\/a∈acc
 |[],acc,a=>by simp [qJ_]
 |(j,b)::r,acc,a=>by
  simp only [qJ_,List.mem_cons,lF_ (l:=r)];constructor
  .rintro (rfl|⟨i,hi⟩|h)<;>grind
  grind
theorem ih_:∀{l:List DA} {acc:List Nat} {a:Nat},a∈nO_ l acc↔(∃d,d∈l/\d.act=some a)\/a∈acc
 |[],acc,a=>by simp [nO_]
 |d::r,acc,a=>by
  unfold nO_;split
  .simp only [List.mem_cons,ih_ (l:=r)]
   grind
  .rw [ih_ (l:=r)]
   grind
theorem mP_:∀{l:List (Nat×Nat)} {acc:List (Nat×Nat)} {i j:Nat},(i,j)∈uI_ l acc->(j,i)∈l\/(i,j)∈acc
 |[],acc,i,j,h=>.inr h
 |(a,b)::r,acc,i,j,h=>by rcases List.mem_cons.1 h with h|h;cases h;exact .inl (List.mem_cons_self ..);exact (mP_ (l:=r) h).imp (List.mem_cons_of_mem _) id
theorem i4_:∀{l:List DA} {acc:List (Nat×Nat)} {i j:Nat},(i,j)∈rF_ l acc->(∃d,d∈l/\d.act=some i)\/(i,j)∈acc
 |[],acc,i,j,h=>.inr h
 |d::r,acc,i,j,h=>by unfold rF_ at h;split at h;rename_i q hq;rcases List.mem_cons.1 h with h|h;cases h;exact .inl ⟨d,List.mem_cons_self ..,hq⟩;exact (i4_ (l:=r) h).imp (λ⟨x,h1,h2⟩=>⟨x,List.mem_cons_of_mem _ h1,h2⟩) id;exact (i4_ (l:=r) h).imp (λ⟨x,h1,h2⟩=>⟨x,List.mem_cons_of_mem _ h1,h2⟩) id
def MR.act (m:MR):List Nat:=nO_ m.ds (qJ_ m.rn [])
theorem tg_ {m:MR} {i j:Nat} (h:az_ m.inv i=some j):i∈m.act:=by
 rw [MR.act,ih_];rcases i4_ (bh_ h)with h|h;exact .inl h
 .rcases mP_ h with h|h<;>grind [lF_]
theorem ti_ {m:MR} {i a:Nat} (h:i8_ m i=some a):a∈m.act:=by
 rw [MR.act,ih_];unfold i8_ at h;split at h;rename_i b hb;cases h;exact .inr (lF_.2 (.inl ⟨i,bh_ hb⟩))
 grind [bo_]
structure MovOk (hv:List AV) (n:Nat) (r:Nat->Nat) (E1 E2:Env):Prop where
 φ:∀i x,i<top->E1.φ i=some x->E2.φ (r i)=some x
 sz:∀b n,E1.sz b=some n->E2.sz b=some n
 imm:∀b o v,E1.imm b o=some v->E2.imm b o=some v
 sy:∀i a,E1.sy i=some a->E2.sy (sgS hv n i)=some a
 cst:∀i a x,E1.sy i=some a->¬i<64->cB_ (i-64) hv=some x->okC x=true->x=a
theorem gg_ {hv:List AV} {n:Nat} {r:Nat->Nat} {E1 E:Env} (h:MovOk hv n r E1 E) {a:AV} {v:Value} (hc:Con0 E1 a v):Con0 E a v:=ce_ h.imm hc
theorem fa_ {i:Nat} (h:Nat.blt i top=true):i<top:=by simp_all
mutual
theorem h8_ {hv:List AV} {n:Nat} {r:Nat->Nat} {E1 E:Env} (h:MovOk hv n r E1 E):∀{a:AV} {v:Value},jN_ a=true->Con E1 a v->Con E (dI_ hv n r a) v
 | .opq,_,_,hc=>by simp [dI_,Con]
 | .bool _,_,_,hc=>by grind [dI_,Con]
 | .int _ _,_,_,hc=>by grind [dI_,Con]
 | .flt _ _,_,_,hc=>by grind [dI_,Con]
 | .nan _,_,_,hc=>by grind [dI_,Con]
 | .str _,_,_,hc=>by grind [dI_,Con]
 | .nptr,_,_,hc=>by grind [dI_,Con]
 | .nsl,_,_,hc=>by grind [dI_,Con]
 | .nmap,_,_,hc=>by grind [dI_,Con]
 | .nfn,_,_,hc=>by grind [dI_,Con]
 | .nif,_,_,hc=>by grind [dI_,Con]
 | .ptr id off,v,ht,hc=>by obtain ⟨b,o,h1,h2⟩:=hc;exact ⟨b,o,h.φ _ _ (fa_ ht) h1,h2⟩
 | .sl id off len sz cap,v,ht,hc=>by obtain ⟨b,o,n,c,off',h1,h2,h3⟩:=hc;exact ⟨b,o,n,c,off',h.φ _ _ (fa_ ht) h1,h.sz _ _ h2,h3⟩
 | .map id,v,ht,hc=>by obtain ⟨b,h1,h2⟩:=hc;exact ⟨b,h.φ _ _ (fa_ ht) h1,h2⟩
 | .slx id sz i,v,ht,hc=>by obtain ⟨a,h1,h2⟩:=hc;refine ⟨a,h.sy _ _ h1,h2.imp (λh=>h) λh2=>?_⟩;obtain ⟨len,cs,e,b,o,n,c,off',k1,k2,k3⟩:=h2;exact ⟨len,cs,e,b,o,n,c,off',h.φ _ _ (fa_ ht) k1,h.sz _ _ k2,k3⟩
 | .ptx id j sz off,v,ht,hc=>by obtain ⟨k,n,h1,b,o,h2,h3⟩:=hc;exact ⟨k,n,h.sy _ _ h1,b,o,h.φ _ _ (fa_ ht) h2,h3⟩
 | .vptr cs,v,ht,hc=>by obtain ⟨b,o,vs,h1,h2,h3⟩:=hc;exact ⟨b,o,vs,h1,dN_ h ht h2,λi v hv=>h.imm _ _ _ (h3 i v hv)⟩
 | .vsl len sz cs,v,ht,hc=>by obtain ⟨b,o,vs,c,h1,h2,h3,h4⟩:=hc;exact ⟨b,o,vs,c,h1,h2,dN_ h ht h3,λi v hv=>h.imm _ _ _ (h4 i v hv)⟩
 | .fn f cs,v,ht,hc=>by simp only [jN_]at ht;simp only [dI_,Con]at hc⊢;obtain ⟨vs,h1,h2⟩:=hc;exact ⟨vs,h1,dN_ h ht h2⟩
 | .iface t a,v,ht,hc=>by simp only [jN_]at ht;simp only [dI_,Con]at hc⊢;obtain ⟨u,h1,h2⟩:=hc;exact ⟨u,h1,h8_ h ht h2⟩
 | .agg cs,v,ht,hc=>by simp only [jN_]at ht;simp only [dI_,Con]at hc⊢;obtain ⟨vs,h1,h2⟩:=hc;exact ⟨vs,h1,dN_ h ht h2⟩
 | .tup cs,v,ht,hc=>by simp only [jN_]at ht;simp only [dI_,Con]at hc⊢;obtain ⟨vs,h1,h2⟩:=hc;exact ⟨vs,h1,dN_ h ht h2⟩
 | .sym i,v,_,hc=>by
   obtain ⟨a,h1,h2,h3⟩:=hc;have key:Con E (.sym (sgS hv n i)) v:=(by exact ⟨a,h.sy _ _ h1,h2,gg_ h h3⟩);simp only [dI_];unfold sgV;split
   .grind [sgS]
   .rename_i hb;have hlt:¬i<64:=λhlt=>by
     grind [Nat.blt_eq]
    split;rename_i x hx;split;rename_i hok;have:=h.cst i a x h1 hlt hx hok;subst this;exact (gg_ h h3).con;exact key;exact key
theorem dN_ {hv:List AV} {n:Nat} {r:Nat->Nat} {E1 E:Env} (h:MovOk hv n r E1 E):∀{as:List AV} {vs:List Value},jO_ as=true->ConL E1 as vs->ConL E (fE_ hv n r as) vs
 |[],_,_,hc=>by grind [fE_,ConL]
 |a::as,vs,ht,hc=>by obtain ⟨t1,t2⟩:=aa_ ht;simp only [fE_,ConL]at hc⊢;obtain ⟨v,t,h1,h2,h3⟩:=hc;exact ⟨v,t,h1,h8_ h t1 h2,dN_ h t2 h3⟩
end
theorem m0_ (hv:List AV) (n:Nat) (r:Nat->Nat):∀(cs:List AV) (i:Nat),(fE_ hv n r cs)[i]? =cs[i]?.map (dI_ hv n r)
 |[],i=>by simp [fE_]
 |a::cs,0=>by simp [fE_]
 |a::cs,i+1=>by simpa [fE_]using m0_ hv n r cs i
theorem hP_ (hv:List AV) (n:Nat) (r:Nat->Nat):∀cs:List AV,(fE_ hv n r cs).length=cs.length
 |[]=>rfl
 |a::cs=>by simp [fE_,hP_ hv n r cs]
theorem pN_:∀{cs:List AV},jO_ cs=true->∀(i:Nat) (a:AV),cs[i]? =some a->jN_ a=true
 |[],_,i,a,h=>by simp at h
 |b::r,ht,i,a,h=>by
  obtain ⟨t1,t2⟩:=aa_ ht;cases i with
  |zero=>simp at h;subst h;exact t1
  |succ i=>exact pN_ t2 i a (by simpa using h)
def v0_:ABlk->Prop
 | .cells cs=>jO_ cs=true
 |_=>True
theorem s3_ {hv:List AV} {n:Nat} {r:Nat->Nat} {E1 E:Env} (h:MovOk hv n r E1 E) {w:World} {b o:Nat} {k k':ABlk} (ht:v0_ k) (hm:rR_ hv n r k=some k') (hk:BlkAt E1 w b o k):BlkAt E w b o k':=by
 cases k with
 |cells cs=>
  cases hm;obtain ⟨arr,t,h1,h2,h3,h4⟩:=hk;refine ⟨arr,t,h1,h.sz _ _ h2,by rw [hP_];exact h3,λi a ha=>?_⟩;rw [m0_]at ha;cases hc:cs[i]? with
  |none=>grind
  |some a'=>rw [hc]at ha;cases ha;obtain ⟨v,hv',hcon⟩:=h4 i a' hc;exact ⟨v,hv',h8_ h (pN_ ht i a' hc) hcon⟩
 |syl j=>
  cases hm;obtain ⟨len,sz,cs,h0,hlen,arr,t,h1,h2,h3,h4⟩:=hk;refine ⟨len,sz,cs,h.sy _ _ h0,hlen,arr,t,h1,h.sz _ _ h2,h3,λi a ha=>?_⟩
  grind [gg_]
 |mpl j=>cases hm;obtain ⟨h0,n,cs,h1,es',clock,h2,h3,h4⟩:=hk;exact ⟨h0,n,cs,h.sy _ _ h1,es',clock,h2,h3,h4.imp λ_ _ hc=>gg_ h hc⟩
 |map es c=>cases hm
 |fz cs=>cases hm
theorem sP_ {hv:List AV} {n:Nat} {r:Nat->Nat} {E1 E:Env} (h:MovOk hv n r E1 E) {k k':ABlk} (hm:rR_ hv n r k=some k') (hk:Void E1 k):Void E k':=by
 cases k with
 |syl j=>cases hm;exact h.sy _ _ hk
 |cells cs=>exact hk.elim
 |mpl j=>exact hk.elim
 |map es c=>cases hm
 |fz cs=>cases hm
theorem gB_ {hv:List AV} {n:Nat} {r:Nat->Nat} {F base:AHeap} (hr:∀id k,F.get id=some k->r id<top):∀(ids:List Nat) (x:Nat) (kk:ABlk),(lG_ hv n r F base ids).get x=some kk->(∃id k,x=r id/\F.get id=some k/\rR_ hv n r k=some kk)\/base.get x=some kk
 |[],x,kk,h=>.inr h
 |id::l,x,kk,h=>by
  unfold lG_ at h;split at h
  .rename_i k hk;split at h
   .rename_i k' hk';by_cases e:r id=x
    .subst e;rw [AHeap.get_set_same _ (hr id k hk)]at h
     grind
    rw [AHeap.get_set_ne _ (hr id k hk) e]at h;exact gB_ hr l x kk h
   exact gB_ hr l x kk h
  exact gB_ hr l x kk h
theorem kP_ {hv:List AV} {n:Nat} {r:Nat->Nat} {F base:AHeap}:∀(ids:List Nat),(lG_ hv n r F base ids).next=base.next/\(lG_ hv n r F base ids).hi=base.hi
 |[]=>⟨rfl,rfl⟩
 |id::l=>by have:=kP_ (hv:=hv) (n:=n) (r:=r) (F:=F) (base:=base) l;unfold lG_;split;split;exact this;exact this;exact this
theorem d1_:∀{ms:List (Nat×Nat)} {acc:List Nat} {id:Nat},id∈qq_ ms acc↔(∃j,(id,j)∈ms)\/id∈acc
 |[],acc,id=>by simp [qq_]
 |(i,j)::r,acc,id=>by
  simp only [qq_,List.mem_cons,d1_ (ms:=r)];constructor
  .rintro (rfl|⟨q,h⟩|h)<;>grind
  grind
theorem kO_:∀{rows:List (Nat×List AV)} {id:Nat},id∈mN_ rows↔∃cs,(id,cs)∈rows
 |[],id=>by simp [mN_]
 |(i,c)::r,id=>by
  simp only [mN_,List.mem_cons,kO_ (rows:=r)];constructor
  .rintro (rfl|⟨q,h⟩)<;>grind
  grind
theorem gA_:∀{ts:List TA} {l:List Nat} {id:Nat},id∈c9_ ts l↔(∃t,t∈ts/\t.id=id)\/id∈l
 |[],l,id=>by simp [c9_]
 |t::r,l,id=>by
  simp only [c9_,List.mem_cons,gA_ (ts:=r)]
  grind
theorem pO_:∀{l:List Nat},qP_ l=true->∀id,id∈l->id<top
 |[],_,id,h=>by cases h
 |i::r,ht,id,h=>by obtain ⟨t1,t2⟩:=aa_ ht;rcases List.mem_cons.1 h with rfl|h;exact fa_ t1;exact pO_ t2 id h
theorem pP_ {n:Nat}:∀{rows:List (Nat×List AV)},qQ_ n rows=true->∀id cs,(id,cs)∈rows->jO_ (bu_ n cs)=true
 |[],_,id,cs,h=>by cases h
 |(i,c)::r,ht,id,cs,h=>by obtain ⟨t1,t2⟩:=aa_ ht;rcases List.mem_cons.1 h with h|h;cases h;exact t1;exact pP_ t2 id cs h
theorem i2_ {n:Nat} {H0:AHeap}:∀{ts:List TA},(∀t,t∈ts->t.id<top)->∀id k,(hM_ n H0 ts).get id=some k->(∃j,k=.syl j)\/H0.get id=some k
 |[],_,id,k,hk=>.inr hk
 |t::r,hlt,id,k,hk=>by
  have ht:=hlt t (List.mem_cons_self ..);unfold hM_ at hk;by_cases e:t.id=id
  .subst e;rw [AHeap.get_set_same _ ht]at hk
   grind
  rw [AHeap.get_set_ne _ ht e]at hk;exact i2_ (λd hd=>hlt d (List.mem_cons_of_mem _ hd)) id k hk
theorem rD_ {tp:Tpl} {n:Nat} (hr:qQ_ n tp.rows=true) (hN:qP_ (c9_ tp.acc tp.ids)=true):∀id k,(tp.heap n).get id=some k->v0_ k:=by intro id k hk;have hid:∀i,i∈c9_ tp.acc tp.ids->i<top:=pO_ hN;have h1:∀a b,(a,b)∈tp.fix->a<top:=λa b h=>hid a (gA_.2 (.inr (d1_.2 (.inl ⟨b,h⟩))));have h2:∀a b,(a,b)∈tp.maps->a<top:=λa b h=>hid a (gA_.2 (.inr (d1_.2 (.inr (d1_.2 (.inl ⟨b,h⟩))))));have h3:∀a b,(a,b)∈tp.rows->a<top:=λa b h=>hid a (gA_.2 (.inr (d1_.2 (.inr (d1_.2 (.inr (kO_.2 ⟨b,h⟩)))))));have h4:∀t,t∈tp.acc->t.id<top:=λt h=>hid _ (gA_.2 (.inl ⟨t,h,rfl⟩));rcases g7_ tp.fix h1 id k hk with ⟨j,_,rfl⟩|hk;trivial;rcases g9_ tp.maps h2 id k hk with ⟨j,_,rfl⟩|hk;trivial;rcases i2_ h4 id k hk with ⟨j,rfl⟩|hk;trivial;obtain ⟨cs,h5,rfl⟩:=g8_ tp.rows h3 id k hk;exact pP_ hr id cs h5
theorem mO_ {n:Nat}:∀{slots:List (Nat×AV)} {i:Nat},jH_ i slots=true->∀j a,(bu_ n (cv_ slots))[j]? =some a->i+j<512/\tget (cV_ n slots) (i+j)=a
 |[],i,_,j,a,h=>by simp [cv_,bu_]at h
 |(q,b)::r,i,hs,j,a,h=>by
  obtain ⟨e1,hs⟩:=aa_ hs;obtain ⟨e2,hs3⟩:=aa_ hs;have e1:=Nat.eq_of_beq_eq_true e1;subst e1;have e2:i<512:=(by simp_all);simp only [cv_,bu_]at h;show _/\tget (dL_ (cV_ n r) i (bJ_ n b)) (i+j)=a;cases j with
  |zero=>
   grind [ar_]
  |succ j=>
   obtain ⟨h1,h2⟩:=mO_ (i:=i+1) hs3 j a (by simpa using h)
   grind [ap_]
theorem e0_:∀{Y:Sy} {n:Nat} (l:List AV),Fresh Y n->∀(i:Nat) (a:AV),(Y.puts n l).v i=some a->Y.v i=some a\/∃q,i=n+q/\l[q]? =some a
 |Y,n,[],_,i,a,h=>.inl h
 |Y,n,b::r,hf,i,a,h=>by
  rcases e0_ (Y:=Y.put n b) (n:=n+1) r (hf.put b) i a h with h|⟨q,e,h⟩
  .by_cases e:i=n
   .subst e;rw [Sy.put_same]at h;grind
   grind [Sy.put_ne]
  exact .inr ⟨q+1,by omega,by simpa using h⟩
theorem ra_ {i:Nat} (h:64<=i):Nat.blt i 64=false:=by
 grind [Nat.blt_eq]
variable [Gl]
theorem uA_ {P:Program} {f:FuncId} {ft:FT} {T1:Tm} {S:VS} {m:MR} {low:List Nat} {Y:Sy} {Q:Nat->List AV->Prop} {nargs:Nat} (hm:hf_ 64 ft.ent T1 S.H=some m) (hlow:og_ m ft.k=some low) (hroom:pI_ ft.k (64+ft.ent.nv) S.H ft.exs=true) (hhi:S.H.hi<=top)
  (hna:nargs=(cv_ ft.ent.slots).length) (hsl:jH_ 0 ft.ent.slots=true) (cr_:lC_ S.H low=true) (hF:CF P f ft (ab_ Y.v m.hv) Q) (hok:okL (ab_ Y.v m.hv)=true) (hf:Fresh Y S.n)
  {B:World} {pr:Nat->Prop} {E:Env} {w:World} {us:List Value} (hy:E.At Y) (hg:GlOk E) (hr:Rel B pr E S.H w) (hus:us.length=nargs) (hc:∀t,t<512->Con E (tget T1 t) ((⟨us⟩:Array Value).getD t undef)) (kk:Nat):
  Calls P f ⟨us⟩ w λe w'=>∃j ws b tp E2 v,ft.exs[j]? =some (b,tp)/\Q j ws/\okL ws=true/\ws.length=tp.nv/\(∀i x,E.sy i=some x->((Y.puts S.n (ab_ Y.v m.hv)).puts (S.n+ft.ent.nv) ws).v i=some x)/\
   (E.with ((Y.puts S.n (ab_ Y.v m.hv)).puts (S.n+ft.ent.nv) ws)).sub E2/\E.leF kk E2/\E2.At ((Y.puts S.n (ab_ Y.v m.hv)).puts (S.n+ft.ent.nv) ws)/\Rel B pr E2 (exH ft m low S tp) w'/\Con E2 (exV ft m low S tp) v/\
   e=(match b with
    |true=>.panicked [{ v:=v,recovered:=false }]
    |false=>.returned v):=by
 obtain ⟨own,g1,g2,g3,g4⟩:∃own:Nat->Option Nat,(∀id k,S.H.get id=some k->RowAt E w own id k)/\(∀b,pr b->own b=none)/\(∀b o v,E.imm b o=some v->own b=none)/\∀b,¬b<w.heap.size->own b=none:=by obtain ⟨own,g1,g2,g3⟩:=hr.own;refine ⟨λb=>if b<w.heap.size then own b else none,λid k hk=>?_,λb hb=>?_,λb o v hi=>?_,λb hb=>if_neg hb⟩;exact (g1 id k hk).imp (λ_ h=>h) (λh=>h) λb o h1 h2 h3=>⟨(if_pos h3.lt).trans h2,h3⟩;all_goals grind
 have hvd0:∀id,E.vd id->E.φ id=none/\¬(S.H.next<=id/\id<S.H.hi):=λid h=>hr.resv id (hr.vds id h);generalize hvs:ab_ Y.v m.hv=vs at*;have hvs':ab_ E.sy m.hv=vs:=by rw [hy.v];exact hvs
 have hvlen:vs.length=ft.ent.nv:=hF.1
 let Yg:Sy:=⟨λi=>if i<64 then Y.v i else none,Y.l⟩
 have hfg:Fresh Yg 64:=⟨Nat.le_refl _,λi hi=>if_neg (by omega)⟩;have hmc:=ja_ (w:=w) (own:=own) (Y0:=Yg) hm hfg (λi hi=>by rw [hy.v];grind) (by grind) g1 (λid h=>(hvd0 id h).1) E.imm;rw [hvs']at hmc;obtain ⟨p1,p2,p3,p4⟩:=hfg.puts vs;generalize hE1:tk_ m E (Yg.puts 64 vs) E.imm=E1 at hmc;have e1sz:E1.sz=E.sz:=by rw [←hE1];rfl
 have e1imm:E1.imm=E.imm:=by rw [←hE1];rfl
 have e1bim:E1.bim=E.imm:=by rw [←hE1];rfl
 have e1sy:E1.sy=(Yg.puts 64 vs).v:=by rw [←hE1];rfl
 have e1syl:E1.syl=(Yg.puts 64 vs).l:=by rw [←hE1];rfl
 have e1res:E1.res=E1.vd:=by rw [←hE1];rfl
 have e1low:∀i,i<64->E1.sy i=E.sy i:=λi hi=>by rw [e1sy,p4 i hi,hy.v];grind
 obtain ⟨hn1,hn2⟩:=Tpl.heap_next ft.ent 64
 let pr':Nat->Prop:=λb=>b<w.heap.size/\h0_ m own b=none
 have hrel1:Rel w pr' E1 (ft.ent.heap 64) w:={
  own:=⟨h0_ m own,hmc.rows,λb hb=>hb.2,λb o v hv=>by unfold h0_;rw [g3 b o v (by grind)]⟩
  imm:=by rw [e1imm];exact hr.imm
  ib:=λb o v _ hv=>by grind
  fresh:=λid h1 _=>hmc.fresh id (hn1▸h1)
  resv:=λid hi=>by
   rw [e1res]at hi;obtain ⟨h1,h2⟩:=hmc.vd id hi
   grind
  vds:=λid h=>by grind
  szs:=by rw [e1sz];exact hr.szs
  prot:=λb hb=>⟨hb.1,rfl⟩
  size:=Nat.le_refl _
  os:=rfl
  output:=rfl }
 have hgl1:GlOk E1:=⟨λg=>cy_ (E:=E) (E':=E1) (λ_ _ _ h=>by grind) (λi a hi hx=>by grind) (Gl.nr g) (hg.1 g),Gl.gtm _ _ e1low hg.2⟩;have hcl:ConL E1 (bu_ 64 (cv_ ft.ent.slots)) us:=by have hs:=hmc.slots ⟨us⟩ hc;refine ConL.of_at (by rw [fr_,hus,hna]) λi a v h1 h2=>?_;obtain ⟨h3,h4⟩:=mO_ hsl i a h1;rw [Nat.zero_add]at h3 h4;have:=hs i h3;simp_all
 refine Calls.mono (hF.2 Yg hfg w pr' E1 w us ⟨e1sy,e1syl,λid h=>by grind⟩ hgl1 hrel1 hcl) λe w' he=>?_;obtain ⟨Y1,r1,⟨j,ws,b,tp,hj,hQ,hokw,hlw,rfl,rfl⟩,E1',hle1,hy1,hres⟩:=he;have hrm:ft.k<=tp.next/\S.H.next+(tp.next-ft.k)<S.H.hi/\jN_ (tget (cV_ (64+ft.ent.nv) tp.slots) 0)=true/\qQ_ (64+ft.ent.nv) tp.rows=true/\qP_ (c9_ tp.acc tp.ids)=true:=by
  have:∀(l:List (Bool×Tpl)) (j:Nat),pI_ ft.k (64+ft.ent.nv) S.H l=true->l[j]? =some (b,tp)->ft.k<=tp.next/\S.H.next+(tp.next-ft.k)<S.H.hi/\jN_ (tget (cV_ (64+ft.ent.nv) tp.slots) 0)=true/\qQ_ (64+ft.ent.nv) tp.rows=true/\qP_ (c9_ tp.acc tp.ids)=true:=by
   intro l
   induction l with
   |nil=>simp
   |cons q r ih=>
    intro j h hj;obtain ⟨q1,h⟩:=aa_ h;obtain ⟨q2,h⟩:=aa_ h;obtain ⟨q3,h⟩:=aa_ h;obtain ⟨q4,h⟩:=aa_ h;obtain ⟨q5,h⟩:=aa_ h;cases j with
    |zero=>simp_all
    |succ j=>grind
  grind
 obtain ⟨hk,hnx,htv,htr,htn⟩:=hrm;have hend:∃u,e=(match b with
       |true=>.panicked [{ v:=u,recovered:=false }]
       |false=>.returned u)/\Con E1' (tget (cV_ (64+ft.ent.nv) tp.slots) 0) u/\Rel w pr' E1' (tp.heap (64+ft.ent.nv)) w':=by
  grind
 obtain ⟨u,he,hcu,hr1'⟩:=hend;obtain ⟨lw1,lw2⟩:=pm_ hlow
 let nx:=S.H.next
 let r:Nat->Nat:=sf_ low ft.k nx
 have rlow:∀i,i<ft.k->∃a k,r i=a/\i8_ m i=some a/\S.H.get a=some k:=λi hi=>by
  grind [kD_,sf_,lI_]
 have rnew:∀i,ft.k<=i->r i=nx+(i-ft.k):=λi hi=>by
  grind [sf_,lI_]
 have hold:∀a k,S.H.get a=some k->¬(nx<=a/\a<S.H.hi):=λa k hk hx=>by
  rcases g1 a k hk with ⟨h1,_⟩|⟨b,o,h1,_⟩
  .grind
  rw [hr.fresh a hx.1 hx.2]at h1;cases h1
 have rinj:∀i j,i<tp.next->j<tp.next->r i=r j->i=j:=λi j hi hj e=>by
  rcases Nat.lt_or_ge i ft.k with h1|h1
  .obtain ⟨a,ka,ra,la,ga⟩:=rlow i h1;rcases Nat.lt_or_ge j ft.k with h2|h2
   .refine hmc.inj i j a ?_ ?_<;>grind [i8_]
   grind
  .rcases Nat.lt_or_ge j ft.k with h2|h2<;>grind
 have e1φ:∀i,i<ft.k->E1.φ i=E.φ (r i):=λi hi=>by
  obtain ⟨a,ka,ra,la,ga⟩:=rlow i hi;rw [ra,←hE1];show (match aG_ m.ds i with
   |some d=>match fM_ (den E.sy d.x)with
    |true=>none
    |false=>match d.act with
     |some i=>E.φ i
     |none=>none
   |none=>match az_ m.rn i with
    |some a=>E.φ a
    |none=>none)=_
  unfold i8_ at la;split at la;rename_i q hq;cases la;rw [hmc.rnA i a hq,hq]
  .split at la
   .rename_i d hd;rw [hd];simp only [la];cases hnl:fM_ (den E.sy d.x)with
    |true=>exact (hmc.accN d a (bo_ hd).1 la hnl).symm
    |false=>rfl
   cases la
 have e1lt:∀i x,i<top->E1'.φ i=some x->i<tp.next:=λi x hi hx=>by rcases Nat.lt_or_ge i tp.next with h|h;exact h;obtain ⟨a1,a2⟩:=Tpl.heap_next tp (64+ft.ent.nv);rw [hr1'.fresh i (by omega) (by omega)]at hx;cases hx
 generalize hYy:(Y.puts S.n vs).puts (S.n+ft.ent.nv) ws=Y' at*;have hfn:=hf.puts vs;rw [hvlen]at hfn;obtain ⟨f1,f2,f3,f4⟩:=hfn;obtain ⟨f5,f6,f7,f8⟩:=f1.puts ws;rw [hYy]at f5 f6 f7 f8;have hYv:∀i x,E.sy i=some x->Y'.v i=some x:=λi x hx=>f6 i x (f2 i x (by rw [←hy.v];exact hx));have hYl:∀i l,E.syl i=some l->Y'.l i=some l:=λi l hx=>by rw [f7,f3,←hy.l];exact hx
 have hYlo:∀i,i<64->Y'.v i=E.sy i:=λi hi=>by grind
 have e1'sy:E1'.sy=((Yg.puts 64 vs).puts (64+ft.ent.nv) ws).v:=hy1.v;have p1':Fresh (Yg.puts 64 vs) (64+ft.ent.nv):=by grind
 have hvo:∀i a,vs[i]? =some a->okC a=true:=λi a ha=>c1_ hok a (List.mem_of_getElem? ha);have hhv:m.hv.length=ft.ent.nv:=by
  have:=congrArg List.length hvs
  grind [cI_]
 have hat:∀i a,E1'.sy i=some a->(i<64/\Y.v i=some a)\/(∃q,i=64+q/\vs[q]? =some a)\/∃q,i=64+ft.ent.nv+q/\ws[q]? =some a:=λi a ha=>by
  rw [e1'sy]at ha;rcases e0_ ws p1' i a ha with ha|⟨q,e,hq⟩
  .rcases e0_ vs hfg i a ha with ha|⟨q,e,hq⟩<;>grind
  grind
 have hvq:∀q x,m.hv[q]? =some x->vs[q]? =some (den Y.v x):=λq x hx=>by rw [←hvs];exact gk_ Y.v m.hv q x hx
 classical
 let φ2:Nat->Option (Nat×Nat):=λi=>match E.φ i with
  |some x=>some x
  |none=>if hx:∃j,j<tp.next/\i=r j then E1'.φ (Classical.choose hx)else none
 have hφ2:∀j,j<tp.next->(∀x,E.φ (r j)=some x->E1'.φ j=some x)->φ2 (r j)=E1'.φ j:=λj hj hx=>by
  show (match E.φ (r j)with
   |some x=>some x
   |none=>if hx:∃j',j'<tp.next/\r j=r j' then E1'.φ (Classical.choose hx)else none)=_
  cases hE:E.φ (r j)with
  |some x=>grind
  |none=>
   have hex:∃j',j'<tp.next/\r j=r j':=⟨j,hj,rfl⟩
   grind
 have hφk:∀j,j<tp.next->∀x,E.φ (r j)=some x->E1'.φ j=some x:=λj hj x hx=>by rcases Nat.lt_or_ge j ft.k with h|h;exact hle1.phi j x h ((e1φ j h).trans hx);rw [rnew j h,hr.fresh _ (by omega) (by omega)]at hx;cases hx
 let vd2:Nat->Prop:=λid=>(E.vd id/\id∉m.act)\/∃j,j<tp.next/\id=r j/\E1'.vd j
 let E2:Env:=⟨φ2,E1'.sz,E1'.imm,vd2,E.bim,Y'.v,Y'.l,vd2⟩
 have hmov:MovOk m.hv S.n r E1' E2:={
  φ:=λi x hi hx=>by
   grind
  sz:=λ_ _ h=>h
  imm:=λ_ _ _ h=>h
  sy:=λi a ha=>by
   rcases hat i a ha with ⟨hi,ha⟩|⟨q,rfl,hq⟩|⟨q,rfl,hq⟩
   .grind [sgS,Nat.blt_eq]
   .have hb:Nat.blt (64+q) 64=false:=ra_ (by omega);have hsub:Nat.sub (64+q) 64=q:=(by simp);have hdef:Y'.v (S.n+q)=some a:=f6 _ _ (bB_ vs hf q a hq);unfold sgS;rw [hb];simp only [hsub,ei_];split
    .rename_i s hs;have:=hvq q _ hs;rw [hq]at this;cases hs':Y.v s with
     |none=>simp only [den,hs']at this;cases this;have:=hvo q _ hq;cases this
     |some y=>
      grind [den]
    exact hdef
   .have hb:Nat.blt (64+ft.ent.nv+q) 64=false:=ra_ (by omega);have hdef:Y'.v (S.n+ft.ent.nv+q)=some a:=(by rw [←hYy];exact bB_ ws f1 q a hq);unfold sgS;rw [hb]
    grind [ei_]
  cst:=λi a x ha hi hx hxo=>by rw [ei_]at hx;rcases hat i a ha with ⟨hi',_⟩|⟨q,rfl,hq⟩|⟨q,rfl,hq⟩;omega;all_goals grind [ia_] }
 have hsub:(E.with Y').sub E2:=⟨λi x hx=>by
  have hx:E.φ i=some x:=hx
  grind,λb n hb=>hle1.sz b n (by rw [e1sz];exact hb),λb o v hb=>hle1.imm b o v (by rw [e1imm];exact hb),rfl,rfl⟩
 obtain ⟨n1,n2⟩:=Tpl.heap_next tp (64+ft.ent.nv);obtain ⟨own1,o1,o2,o3⟩:=hr1'.own;have hbim1:E1'.bim=E.imm:=hle1.bim.trans e1bim;have hres1:∀id,E1'.vd id->E1'.φ id=none:=λid h=>(hr1'.resv id (hr1'.vds id h)).1;have hpr:∀b,pr b->pr' b:=λb hb=>⟨Nat.lt_of_lt_of_le (hr.prot b hb).1 hr.size,by grind [h0_]⟩;have hfree:∀b id,b<w.heap.size->own b=some id->id∉m.act->pr' b:=λb id hb ho hn=>⟨hb,by
  unfold h0_;rw [ho];cases hf:az_ m.inv id<;>grind [az_,id,absurd,tg_]⟩
 have himm1:∀b o v,pr' b->E1'.imm b o=some v->E.imm b o=some v:=λb o v hb hv=>by rw [←hbim1];exact hr1'.ib b o v hb hv
 let own2:Nat->Option Nat:=λb=>match own1 b with
  |some j=>some (r j)
  |none=>match own b with
   |some id=>if id∈m.act then none else some id
   |none=>none
 refine ⟨j,ws,b,tp,E2,u,hj,hQ,hokw,hlw,?_⟩;rw [hYy];refine ⟨hYv,hsub,⟨λi x _ hx=>hsub.1 i x hx,λb n hb=>hsub.2.1 b n hb,λb o v hb=>hsub.2.2.1 b o v hb,rfl,hYlo⟩,⟨rfl,rfl,λ_ h=>h⟩,?_,h8_ hmov htv hcu,he⟩;have hbase:∀id k,(d0_ S.H m.act).get id=some k->S.H.get id=some k/\id∉m.act:=λid k h=>ft_ m.act id k h;have hrt:∀j k,(tp.heap (64+ft.ent.nv)).get j=some k->r j<top:=λj k hjk=>by
  have hjl:=AHeap.get_lt hjk;rcases Nat.lt_or_ge j ft.k with h1|h1;obtain ⟨a,ka,ra,la,ga⟩:=rlow j h1;rw [ra];exact AHeap.get_lt ga
  .rw [rnew j h1];have hjn:j<tp.next:=by
    rcases o1 j k hjk with ⟨q1,_⟩|⟨bb,oo,q1,_⟩;rcases Nat.lt_or_ge j tp.next with h|h;exact h;exact absurd ⟨by omega,by omega⟩ (hr1'.resv j (hr1'.vds j q1)).2
    grind
   omega
 have hH2:∀id kk,(exH ft m low S tp).get id=some kk->(∃j k,id=r j/\(tp.heap (64+ft.ent.nv)).get j=some k/\rR_ m.hv S.n r k=some kk)\/(S.H.get id=some kk/\id∉m.act):=λid kk h=>by rcases gB_ (r:=r) hrt _ id kk h with h|h;exact .inl h;refine .inr (hbase id kk ?_);exact h
 obtain ⟨m1,m2⟩:=kP_ (hv:=m.hv) (n:=S.n) (r:=r) (F:=tp.heap (64+ft.ent.nv)) (base:=(⟨(d0_ S.H m.act).tr,Nat.add S.H.next (Nat.sub tp.next ft.k),(d0_ S.H m.act).hi⟩:AHeap)) (c9_ tp.acc tp.ids);have hnext:(exH ft m low S tp).next=nx+(tp.next-ft.k):=m1
 have hhi2:(exH ft m low S tp).hi=S.H.hi:=m2.trans (cz_ m.act).2;have hnotr:∀id,E.φ id=none->(∀j,j<tp.next->id≠r j)->φ2 id=none:=λid h1 h2=>by
  grind
 refine { own:=⟨own2,λid kk hkk=>?_,λb hb=>?_,λb o v hv=>?_⟩,imm:=hr1'.imm,ib:=λb o v hb hv=>hr.ib b o v hb (himm1 b o v (hpr b hb) hv),fresh:=λid h1 h2=>?_,resv:=λid hi=>?_,vds:=λ_ h=>h,szs:=hr1'.szs,prot:=λb hb=>⟨(hr.prot b hb).1,(hr1'.prot b (hpr b hb)).2.trans (hr.prot b hb).2⟩,size:=Nat.le_trans hr.size hr1'.size,os:=hr1'.os.trans hr.os,output:=hr1'.output.trans hr.output }
 .rcases hH2 id kk hkk with ⟨j,k,rfl,hjk,hmv⟩|⟨hk,hna⟩;have hjl:=AHeap.get_lt hjk;have htb:=rD_ htr htn j k hjk;rcases o1 j k hjk with ⟨q1,q2⟩|⟨bb,oo,q1,q2,q3⟩;have hjn:j<tp.next:=(by rcases Nat.lt_or_ge j tp.next with h|h;exact h;exact absurd ⟨by omega,by omega⟩ (hr1'.resv j (hr1'.vds j q1)).2);exact .inl ⟨.inr ⟨j,hjn,rfl,q1⟩,sP_ hmov hmv q2⟩;exact .inr ⟨bb,oo,hmov.φ j _ hjl q1,by grind,s3_ hmov htb hmv q3⟩
  .rcases g1 id kk hk with ⟨q1,q2⟩|⟨bb,oo,q1,q2,q3⟩;exact .inl ⟨.inl ⟨q1,hna⟩,q2.sub λi hi=>hYv i _ hi⟩
   .have hp:=hfree bb id q3.lt q2 hna;refine .inr ⟨bb,oo,hsub.1 id _ q1,?_,?_⟩
    .grind
    .have h1:RowAt (E.with Y') w (λ_=>some id) id kk:=RowAt.withS (.inr ⟨bb,oo,q1,rfl,q3⟩) hYv hYl;rcases h1 with ⟨x1,x2⟩|⟨b2,o2',x1,_,x3⟩
     .have:E.φ id=none:=(hvd0 id x1).1
      grind
     have x1:E.φ id=some (b2,o2'):=x1;rw [q1]at x1;cases x1;exact x3.sub hsub (hr1'.prot bb hp).2
 .grind
 .show (match own1 b with
    |some j=>some (r j)
    |none=>match own b with
     |some id=>if id∈m.act then none else some id
     |none=>none)=none
  grind
 .rw [hnext]at h1;rw [hhi2]at h2;refine hnotr id (hr.fresh id (by omega) h2) λj hj e=>?_
  grind
 .rcases hi with ⟨q1,q2⟩|⟨j,hj,rfl,q1⟩
  .obtain ⟨a1,a2⟩:=hvd0 id q1;refine ⟨hnotr id a1 λj hj e=>?_,λhx=>a2 ⟨by omega,by omega⟩⟩;rcases Nat.lt_or_ge j ft.k with h|h
   .grind [ti_]
   grind
  grind
end Go.Sx
namespace Go.Sx
structure Keeps (k n:Nat) (E E':Env):Prop where
 phi:∀id x,id<k->E.φ id=some x->E'.φ id=some x
 sz:∀b m,E.sz b=some m->E'.sz b=some m
 imm:∀b o v,E.imm b o=some v->E'.imm b o=some v
 sy:∀i,i<n->E'.sy i=E.sy i
theorem Keeps.immAt {k n:Nat} {E E':Env} (h:Keeps k n E E') {b o:Nat} {vs:List Value} (hi:ImmAt E b o vs):ImmAt E' b o vs:=λi v hv=>h.imm _ _ _ (hi i v hv)
mutual
theorem iH_ {k n:Nat} {E E':Env} (h:Keeps k n E E'):∀(a:AV) (v:Value),er_ k n a=true->Con E a v->Con E' a v
 | .opq,v,_,hc=>by simp [Con]
 | .bool _,v,_,hc=>by grind [Con]
 | .int _ _,v,_,hc=>by grind [Con]
 | .flt _ _,v,_,hc=>by grind [Con]
 | .nan _,v,_,hc=>by grind [Con]
 | .str _,v,_,hc=>by grind [Con]
 | .nptr,v,_,hc=>by grind [Con]
 | .nsl,v,_,hc=>by grind [Con]
 | .nmap,v,_,hc=>by grind [Con]
 | .nfn,v,_,hc=>by grind [Con]
 | .nif,v,_,hc=>by grind [Con]
 | .ptr id off,v,hk,hc=>by have hk:id<k:=(by grind [er_,Nat.blt_eq]);obtain ⟨b,o,h1,h2⟩:=hc;exact ⟨b,o,h.phi _ _ hk h1,h2⟩
 | .vptr cs,v,hk,hc=>by obtain ⟨b,o,vs,h1,h2,h3⟩:=hc;exact ⟨b,o,vs,h1,cx_ h cs vs hk h2,h.immAt h3⟩
 | .sl id off len sz cap,v,hk,hc=>by have hk:id<k:=(by grind [er_,Nat.blt_eq]);obtain ⟨b,o,n,c,off',h1,h2,h3⟩:=hc;exact ⟨b,o,n,c,off',h.phi _ _ hk h1,h.sz _ _ h2,h3⟩
 | .vsl a z cs,v,hk,hc=>by obtain ⟨b,o,vs,c,h1,h2,h3,h4⟩:=hc;exact ⟨b,o,vs,c,h1,h2,cx_ h cs vs hk h3,h.immAt h4⟩
 | .map id,v,hk,hc=>by have hk:id<k:=(by grind [er_,Nat.blt_eq]);obtain ⟨b,h1,h2⟩:=hc;exact ⟨b,h.phi _ _ hk h1,h2⟩
 | .fn f cap,v,hk,hc=>by simp only [er_]at hk;simp only [Con]at hc⊢;obtain ⟨vs,h1,h2⟩:=hc;exact ⟨vs,h1,cx_ h cap vs hk h2⟩
 | .iface t a,v,hk,hc=>by simp only [er_]at hk;simp only [Con]at hc⊢;obtain ⟨u,h1,h2⟩:=hc;exact ⟨u,h1,iH_ h a u hk h2⟩
 | .agg cs,v,hk,hc=>by simp only [er_]at hk;simp only [Con]at hc⊢;obtain ⟨vs,h1,h2⟩:=hc;exact ⟨vs,h1,cx_ h cs vs hk h2⟩
 | .tup cs,v,hk,hc=>by simp only [er_]at hk;simp only [Con]at hc⊢;obtain ⟨vs,h1,h2⟩:=hc;exact ⟨vs,h1,cx_ h cs vs hk h2⟩
 | .sym i,v,hk,hc=>by have hk:i<n:=(by grind [er_,Nat.blt_eq]);obtain ⟨a,h1,h2,h3⟩:=hc;exact ⟨a,by rw [h.sy i hk];exact h1,h2,ce_ (E:=E) (E':=E') h.imm h3⟩
 | .slx id sz i,v,hk,hc=>by obtain ⟨hk1,hk2⟩:=aa_ hk;have hk1:id<k:=(by simp_all);have hk2:i<n:=(by simp_all);obtain ⟨a,h0,hc⟩:=hc;exact ⟨a,by rw [h.sy i hk2];exact h0,hc.imp_right λ⟨len,cs,e,b,o,n,c,off',h1,h2,h3⟩=>⟨len,cs,e,b,o,n,c,off',h.phi _ _ hk1 h1,h.sz _ _ h2,h3⟩⟩
 | .ptx id j sz off,v,hk,hc=>by obtain ⟨hk1,hk2⟩:=aa_ hk;have hk1:id<k:=(by simp_all);have hk2:j<n:=(by simp_all);obtain ⟨q,m,h0,b,o,h1,h2⟩:=hc;exact ⟨q,m,by rw [h.sy j hk2];exact h0,b,o,h.phi _ _ hk1 h1,h2⟩
theorem cx_ {k n:Nat} {E E':Env} (h:Keeps k n E E'):∀(l:List AV) (vs:List Value),eQ_ k n l=true->ConL E l vs->ConL E' l vs
 |[],vs,_,hc=>hc
 |a::r,vs,hk,hc=>by obtain ⟨k1,k2⟩:=aa_ hk;simp only [ConL]at hc⊢;obtain ⟨v,q,h1,h2,h3⟩:=hc;exact ⟨v,q,h1,iH_ h a v k1 h2,cx_ h r q k2 h3⟩
end
theorem kK_ {k n:Nat} {E:Env} {a:AV} {v:Value} (h:Con E a v):Con E (bU_ k n a) v:=by
 grind [bU_,Con]
theorem ku_ {k n:Nat} {E E':Env} (h:Keeps k n E E') {a:AV} {v:Value} (hc:Con E (bU_ k n a) v):Con E' (bU_ k n a) v:=by
 grind [bU_,iH_,Con]
theorem dO_ {P:Program} {k n:Nat} {E E':Env} (h:Keeps k n E E'):∀{D:Dfs} {ds:List Deferred},fN_ k n D=true->DRel P E D ds->DRel P E' D ds
 |[],ds,_,hd=>hd
 |(f,args)::D,ds,hk,hd=>by obtain ⟨k1,k2⟩:=aa_ hk;obtain ⟨vs,r,h1,h2,h3,h4⟩:=hd;exact ⟨vs,r,h1,cx_ h args vs k1 h2,h3,dO_ h k2 h4⟩
end Go.Sx
