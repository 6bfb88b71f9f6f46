/-
  A region whose order is open: one run in the order of the text tells them all.
-/
import Derived.Test.YtmgenobllanmjaaGreatDoorSxS
set_option linter.unusedVariables false
set_option linter.unusedSimpArgs false
namespace Go.Sx
theorem pw_:∀(l:List AHeap) (n:Nat),tp_ l n=l[n]?
 |[],n=>by cases n<;>rfl
 |a::r,0=>rfl
 |a::r,n+1=>by simp [tp_,pw_ r n]
theorem bE_ (x:AHeap):∀l:List AHeap,k4_ l x=l++[x]
 |[]=>rfl
 |a::r=>by simp [k4_,bE_ x r]
theorem i6_:∀l:List AHeap,i5_ l=l[l.length-1]?
 |[]=>rfl
 |[a]=>rfl
 |a::b::r=>by have ih:=i6_ (b::r);unfold i5_;simp only;rw [ih];simp
theorem mq_:∀(n:Nat) (l:List AHeap),oX_ n l=l.drop n
 |0,l=>rfl
 |n+1,[]=>rfl
 |n+1,a::r=>by simp [oX_,mq_ n r]
mutual
theorem aF_:∀{a b:AV},bV_ a b=true->a=b
 | .bool a,.bool b,h=>by grind [bV_]
 | .int k a,.int k' b,h=>by obtain ⟨h1,h2⟩:=aa_ h;rw [fU_]at h2;rw [pi_ h1,of_decide_eq_true (p:=a=b) (by grind)]
 | .flt k a,.flt k' b,h=>by simp_all [bV_]
 | .nan k,.nan k',h=>by simp_all [bV_]
 | .str a,.str b,h=>by simp_all [bV_,ea_]
 | .nptr,.nptr,h=>rfl
 | .vptr a,.vptr b,h=>by simp only [bV_]at h;rw [bi_ h]
 | .vsl a b c,.vsl a' b' c',h=>by simp only [bV_]at h;obtain ⟨h,h3⟩:=aa_ h;obtain ⟨h1,h2⟩:=aa_ h;rw [Nat.eq_of_beq_eq_true h1,Nat.eq_of_beq_eq_true h2,bi_ h3]
 | .ptr a b,.ptr c d,h=>by simp_all [bV_]
 | .nsl,.nsl,h=>rfl
 | .sl a b c d e,.sl a' b' c' d' e',h=>by simp only [bV_]at h;simp_all
 | .nmap,.nmap,h=>rfl
 | .map a,.map b,h=>by grind [bV_,Nat.eq_of_beq_eq_true]
 | .nfn,.nfn,h=>rfl
 | .fn f a,.fn g b,h=>by obtain ⟨h1,h2⟩:=aa_ h;rw [Nat.eq_of_beq_eq_true h1,bi_ h2]
 | .nif,.nif,h=>rfl
 | .iface t a,.iface u b,h=>by obtain ⟨h1,h2⟩:=aa_ h;rw [Nat.eq_of_beq_eq_true h1,aF_ h2]
 | .agg a,.agg b,h=>by simp only [bV_]at h;rw [bi_ h]
 | .tup a,.tup b,h=>by simp only [bV_]at h;rw [bi_ h]
 | .sym a,.sym b,h=>by grind [bV_,Nat.eq_of_beq_eq_true]
 | .slx a b c,.slx a' b' c',h=>by simp_all [bV_]
 | .ptx a b c d,.ptx a' b' c' d',h=>by simp only [bV_]at h;simp_all
theorem bi_:∀{a b:List AV},ds_ a b=true->a=b
 |[],[],h=>rfl
 |a::r,b::s,h=>by obtain ⟨h1,h2⟩:=aa_ h;rw [aF_ h1,bi_ h2]
 |[],_::_,h=>by simp [ds_]at h
 |_::_,[],h=>by simp [ds_]at h
end
theorem ca_ (t:Nat):tget topq t=.opq:=by
 grind [fB_,topq,Q8.at_all]
theorem ha_ (T:Tm):∀(rd:List Nat) (R:Tm),(∀t,t<512->tget R t=.opq\/(t∈rd/\tget R t=tget T t)\/tget R t=tget T t)->∀t,t<512->
  tget (av_ T rd R) t=.opq\/tget (av_ T rd R) t=tget T t
 |[],R,h,t,ht=>by rcases h t ht with h|⟨_,h⟩|h;exact .inl h;exact .inr h;exact .inr h
 |d::r,R,h,t,ht=>by
  unfold av_;split
  .rename_i hb;have hd:d<512:=(by simp_all);refine ha_ T r _ (λt ht=>?_) t ht;by_cases e:d=t
   .subst e;rw [ar_ R hd];grind
   grind [ap_]
  refine ha_ T r _ (λt ht=>?_) t ht;rcases h t ht with h|⟨_,h⟩|h;exact .inl h;exact .inr (.inr h);exact .inr (.inr h)
theorem hb_ (T:Tm):∀(rd:List Nat) (R:Tm) (t:Nat),t<512->t∉rd->tget (av_ T rd R) t=tget R t
 |[],R,t,ht,hn=>rfl
 |d::r,R,t,ht,hn=>by unfold av_;have hne:d≠t:=λe=>hn (by rw [e];exact List.mem_cons_self ..);have hr:t∉r:=λh=>hn (List.mem_cons_of_mem _ h);split;rename_i hb;have hd:d<512:=(by simpa [Nat.blt_eq]using hb);rw [hb_ T r _ t ht hr,ap_ R ht hd hne];exact hb_ T r _ t ht hr
theorem rH_ (T:Tm) (rd:List Nat) (t:Nat) (ht:t<512):tget (av_ T rd topq) t=.opq\/(t∈rd/\tget (av_ T rd topq) t=tget T t):=by
 grind [ha_,ca_,hb_]
theorem eZ_ {N:Nat} {dst:Option Nat} {u:Tm->AV->Tm} (hu:bT_ N dst=.mk u) (T:Tm) (a:AV) {t:Nat} (ht:t<512):
  (dst=some t->tget (u T a) t=a)/\(dst≠some t->tget (u T a) t=tget T t):=by
 unfold bT_ at hu;split at hu
 .grind
 rename_i d;split at hu;rename_i hb;cases hu;have hd:d<512:=(by simp_all);refine ⟨λh=>?_,λh=>?_⟩;cases h;exact ar_ T hd a;exact ap_ T ht hd (λe=>h (by rw [e])) a;cases hu
theorem me_ {N:Nat}:∀(l:List SI) (T T':Tm),s4_ N l T=some T'->∀t,t<512->tget T' t=.opq\/(tget T' t=tget T t/\∀(j:Nat) (y:SI),l[j]? =some y->y.o.dst≠some t)
 |[],T,T',h,t,ht=>by cases h;grind
 |x::r,T,T',h,t,ht=>by
  unfold s4_ at h;split at h
  .rename_i u hu;have ih:=me_ r _ _ h t ht;obtain ⟨p1,p2⟩:=eZ_ hu T .opq ht
   grind
  cases h
theorem gL_ (bef:Nat):∀(fl:List Fl) (G:AHeap),(∀f∈fl,f.id<top)->(dF_ bef fl G).next=G.next/\(dF_ bef fl G).hi=G.hi/\
  ∀id k,(dF_ bef fl G).get id=some k->G.get id=some k\/∃f∈fl,bit bef f.op=true/\f.id=id/\f.b=k
 |[],G,_=>⟨rfl,rfl,λid k h=>.inl h⟩
 |f::r,G,ht=>by
  unfold dF_;split
  .rename_i hb;obtain ⟨h1,h2,h3⟩:=gL_ bef r (G.set f.id f.b) λg hg=>ht g (List.mem_cons_of_mem _ hg);refine ⟨h1,h2,λid k hk=>?_⟩;rcases h3 id k hk with h|⟨g,hg,h⟩
   .by_cases e:f.id=id
    .subst e;rw [AHeap.get_set_same G (ht f (List.mem_cons_self ..))]at h
     grind
    grind [AHeap.get_set_ne]
   grind
  obtain ⟨h1,h2,h3⟩:=gL_ bef r G λg hg=>ht g (List.mem_cons_of_mem _ hg);refine ⟨h1,h2,λid k hk=>?_⟩;rcases h3 id k hk with h|⟨g,hg,h⟩;exact .inl h;exact .inr ⟨g,List.mem_cons_of_mem _ hg,h⟩
theorem cC_ (bef:Nat):∀(fl:List Fl) (f:Fl),f∈f3_ bef fl->f∈fl/\bit bef f.op=false
 |[],f,h=>by simp [f3_]at h
 |g::r,f,h=>by unfold f3_ at h;split at h;obtain ⟨h1,h2⟩:=cC_ bef r f h;exact ⟨List.mem_cons_of_mem _ h1,h2⟩;rename_i hb;rcases List.mem_cons.1 h with rfl|h;exact ⟨List.mem_cons_self ..,by simpa using hb⟩;obtain ⟨h1,h2⟩:=cC_ bef r f h;exact ⟨List.mem_cons_of_mem _ h1,h2⟩
theorem k8_:∀(fl:List Fl) (G:AHeap),(∀f∈fl,f.id<top)->(f8_ fl G).next=G.next/\(f8_ fl G).hi=G.hi/\
  ∀id k,(f8_ fl G).get id=some k->G.get id=some k\/∃f∈fl,f.id=id/\f.b=k
 |[],G,_=>⟨rfl,rfl,λid k h=>.inl h⟩
 |f::r,G,ht=>by
  obtain ⟨h1,h2,h3⟩:=k8_ r (G.set f.id f.b) λg hg=>ht g (List.mem_cons_of_mem _ hg);refine ⟨h1,h2,λid k hk=>?_⟩;rcases h3 id k hk with h|⟨g,hg,h⟩
  .by_cases e:f.id=id
   .subst e;rw [AHeap.get_set_same G (ht f (List.mem_cons_self ..))]at h
    grind
   grind [AHeap.get_set_ne]
  grind
theorem jA_ {c:OC} {T:Tm} {a:AV}:∀(n:Nat) (l:List AHeap),im_ c T a n l=true->∀m G,m<n->l[m]? =some G->cn_ c T G=some a
 |0,l,h,m,G,hm,hg=>by omega
 |n+1,[],h,m,G,hm,hg=>by simp at hg
 |n+1,H::r,h,m,G,hm,hg=>by
  unfold im_ at h;split at h
  .rename_i a' ha;obtain ⟨h1,h2⟩:=aa_ h;cases m with
   |zero=>simp at hg;subst hg;rw [ha,aF_ h1]
   |succ m=>exact jA_ n r h2 m G (by omega) (by simpa using hg)
  cases h
theorem gG_ [Gl] {P:Program} {Gs:List AHeap}:∀(rd:List Rd),fy_ P Gs rd=true->∀x∈rd,∀m G,x.lo<m->m<=x.hi->Gs[m]? =some G->cn_ (ac_ P x.o) x.T G=some x.a
 |[],h,x,hx=>by simp at hx
 |y::r,h,x,hx=>by
  obtain ⟨h1,h2⟩:=aa_ h;rcases List.mem_cons.1 hx with rfl|hx
  .intro m G g1 g2 g3;refine jA_ _ _ h1 (m-(x.lo+1)) G ?_ ?_<;>grind [mq_]
  exact gG_ r h2 x hx
theorem bX_:∀(l:List SI) (i:Nat) (x:SI),l[i]? =some x->a2_ (l.take (i+1))=a2_ (l.take i)+(match x.kd with| .mem=>1|_=>0)
 |[],i,x,h=>by simp at h
 |y::r,0,x,h=>by
  grind [a2_]
 |y::r,i+1,x,h=>by have ih:=bX_ r i x (by simpa using h);simp only [List.take_succ_cons,a2_];rw [ih];cases y.kd<;>simp only [Nat.succ_eq_add_one]<;>omega
theorem eE_:∀(l:List SI) (i:Nat),a2_ (l.take i)<=a2_ l
 |[],i=>by simp
 |y::r,0=>by simp [a2_]
 |y::r,i+1=>by have ih:=eE_ r i;simp only [List.take_succ_cons,a2_];cases y.kd<;>simp only [Nat.succ_eq_add_one]<;>omega
theorem fH_ (l:List SI) {i j:Nat} (h:i<=j):a2_ (l.take i)<=a2_ (l.take j):=by
 have:=eE_ (l.take j) i
 grind
def be_ (l:List SI) (base j:Nat):Nat:=base+a2_ (l.take j)
theorem n8_ {l:List SI} {base i j:Nat} {x y:SI} (hx:l[i]? =some x) (hy:l[j]? =some y) (kx:x.kd=.mem) (ky:y.kd=.mem) (h:be_ l base i=be_ l base j):i=j:=by unfold be_ at h;have h1:=bX_ l i x hx;have h2:=bX_ l j y hy;rw [kx]at h1;rw [ky]at h2;simp only at h1 h2;rcases Nat.lt_trichotomy i j with hlt|he|hgt;have:=fH_ l (show i+1<=j by omega);omega;exact he;have:=fH_ l (show j+1<=i by omega);omega
theorem PlanOk.bef_lt {ops:List Oper} {l:List SI} (hP:PlanOk ops l):∀(i:Nat) (x:SI) (j:Nat),l[i]? =some x->bit x.bef j=true->j<i:=by
 intro i
 induction i using Nat.strongRecOn with
 |_ i ih=>
  intro x j hx hb;obtain ⟨e,he,hbe,hj⟩:=(hP.bef i x j hx).1 hb;have hlt:=hP.lt i x e hx he hbe
  grind
theorem sR_ {ops:List Oper} {l:List SI} (hP:PlanOk ops l) {i:Nat} {x:SI} (hx:l[i]? =some x):wAt ops (i+1)=wAt ops i+(match bf_ x.kd with|true=>1|false=>0):=by
 have hpl:(λj=>decide (j<i+1))=plus (λj=>decide (j<i)) i:=by
  unfold plus
  grind
 unfold wAt;rw [hpl];cases hw:bf_ x.kd with
 |true=>
  have:=gR_ (S:=λj=>decide (j<i)) ops 0 i x.o (hP.op i x hx) (by rw [←hP.kd i x hx];exact hw) (by simp)
  grind
 |false=>exact li_ hP hx hw
variable [Gl]
inductive Did0 (P:Program) (call:CallF) (ops:List Oper) (l:List SI) (ev:Nat->Evt) (idOf:Nat->Nat) (Gs:List AHeap) (rd:List Rd) (dd:Option (Nat×AV×AHeap)) (i:Nat) (x:SI) (R:Tm):Evt->Prop
 |off (hg:aK_ ops x R=some false) (hw:bf_ x.kd=true->∃G,Gs[wAt ops i]? =some G/\Gs[wAt ops i+1]? =some G):Did0 P call ops l ev idOf Gs rd dd i x R .off
 |pure {a:AV} (hg:aK_ ops x R=some true) (hk:x.kd=.pure) (h:cn_ (ac_ P x.o) R ⟨hnil,0,0⟩=some a):Did0 P call ops l ev idOf Gs rd dd i x R (.val a)
 |read {a:AV} {G:AHeap} (hg:aK_ ops x R=some true) (hk:x.kd=.read) (h1:Gs[x.lo]? =some G) (h:cn_ (ac_ P x.o) R G=some a) (hr:Rd.mk R x.o a x.lo x.hi∈rd):Did0 P call ops l ev idOf Gs rd dd i x R (.val a)
 |fl {a:AV} {j id:Nat} {y:SI} {c:AV} {b:ABlk} (hg:aK_ ops x R=some true) (hk:x.kd=.read) (hy:l[j]? =some y) (hj:ev j=.row c id b) (hbit:bit x.bef j=true)
   (hno:∀(k:Nat) (y':SI) (a':AV),l[k]? =some y'->k<i->ev k=.step a'->bit y'.bef j=false) (hlater:∀(k:Nat) (y':SI),l[k]? =some y'->i<k->bf_ y'.kd=true->bit y'.bef j=true->bit y'.bef i=true)
   (ht:id<top) (h:cn_ (ac_ P x.o) R ((⟨hnil,0,0⟩:AHeap).set id b)=some a):Did0 P call ops l ev idOf Gs rd dd i x R (.val a)
 |mem {a:AV} {b:ABlk} {H':AHeap} (hg:aK_ ops x R=some true) (hk:x.kd=.mem) (h:(ac_ P x.o).run R ⟨hnil,idOf i,Nat.succ (idOf i)⟩=some (.val a H')) (hb:H'.get (idOf i)=some b):
   Did0 P call ops l ev idOf Gs rd dd i x R (.row a (idOf i) b)
 |wr {a:AV} {G G1 H':AHeap} (hg:aK_ ops x R=some true) (hk:x.kd=.wr) (h1:Gs[wAt ops i]? =some G) (h2:Gs[wAt ops i+1]? =some H') (ht:Took l ev i x G G1)
   (h:(ac_ P x.o).run R G1=some (.val a H')\/∃f args,(ac_ P x.o).run R G1=some (.call f args)/\call f args G1=some (.ret a H')):Did0 P call ops l ev idOf Gs rd dd i x R (.step a)
 |die {v:AV} {G G1 H':AHeap} (hg:aK_ ops x R=some true) (hk:x.kd=.wr) (h1:Gs[wAt ops i]? =some G) (ht:Took l ev i x G G1) (hd:dd=some (i,v,H'))
   (h:((ac_ P x.o).run R G1=some (.pan v)/\H'=G1)\/∃f args,(ac_ P x.o).run R G1=some (.call f args)/\call f args G1=some (.pan v H')):Did0 P call ops l ev idOf Gs rd dd i x R .die
omit [Gl]in
theorem getElem?_app {α:Type} {l:List α} {m:Nat} {a:α} (h:l[m]? =some a) (r:List α):(l++r)[m]? =some a:=by
 grind
section
variable {P:Program} {call:CallF} {N:Nat} {ops:List Oper} {l:List SI} {T0:Tm} {base:Nat}
omit [Gl]in
theorem Took.congr {ev ev':Nat->Evt} {i:Nat} {x:SI} {G G1:AHeap} (h:Took l ev i x G G1) (hb:∀j,bit x.bef j=true->j<i) (he:∀j,j<i->ev' j=ev j):Took l ev' i x G G1 where
 next:=h.next
 hi:=h.hi
 row:=λid k hk=>by rcases h.row id k hk with h|⟨j,y,a,h1,h2,h3,h4⟩<;>grind
theorem Did0.mono {ev ev':Nat->Evt} {idOf:Nat->Nat} {Gs gs:List AHeap} {rd rd':List Rd} {dd dd':Option (Nat×AV×AHeap)} {i:Nat} {x:SI} {R:Tm} {e:Evt} (h:Did0 P call ops l ev idOf Gs rd dd i x R e)
  (hb:∀j,bit x.bef j=true->j<i) (he:∀j,j<i->ev' j=ev j) (hr:∀r∈rd,r∈rd') (hd:∀d,dd=some d->dd'=some d):Did0 P call ops l ev' idOf (Gs++gs) rd' dd' i x R e:=by
 cases h with
 |off hg hw=>exact .off hg λh=>by grind
 |pure hg hk h=>exact .pure hg hk h
 |read hg hk h1 h hr'=>exact .read hg hk (getElem?_app h1 _) h (hr _ hr')
 |fl hg hk hy hj hbit hno hlater ht h=>exact .fl hg hk hy (by rw [he _ (hb _ hbit)];exact hj) hbit (λk y' a' g1 g2 g3=>hno k y' a' g1 g2 (by grind)) hlater ht h
 |mem hg hk h hb=>exact .mem hg hk h hb
 |wr hg hk h1 h2 ht h=>exact .wr hg hk (getElem?_app h1 _) (getElem?_app h2 _) (ht.congr hb he) h
 |die hg hk h1 ht hd' h=>exact .die hg hk (getElem?_app h1 _) (ht.congr hb he) (hd _ hd') h
structure DInv (P:Program) (call:CallF) (N:Nat) (ops:List Oper) (l:List SI) (T0:Tm) (base i:Nat) (ev:Nat->Evt) (s:DS):Prop where
 slot:∀t,t<512->Sl l ev T0 (λj=>decide (j<i)) t (tget s.T t)
 gs:s.dead=none->s.Gs.length=wAt ops i+1
 gsd:∀d v H,s.dead=some (d,v,H)->ev d=.die/\d<i/\∃y,l[d]? =some y/\bf_ y.kd=true
 fl:∀f∈s.fl,∃y a,l[f.op]? =some y/\f.op<i/\ev f.op=.row a f.id f.b/\∀k y' a',l[k]? =some y'->k<i->ev k=.step a'->bit y'.bef f.op=false
 each:∀(j:Nat) (x:SI),l[j]? =some x->j<i->(ev j=.gone/\∃d v H,s.dead=some (d,v,H)/\bit x.bef d=true)\/
  ∃u R,bT_ N x.o.dst=.mk u/\(∀t,t<512->tget R t=.opq\/(t∈x.rd/\Sl l ev T0 (λk=>decide (k<j)) t (tget R t)))/\Did0 P call ops l ev (be_ l base) s.Gs s.rd s.dead j x R (ev j)
 row:∀j y a id b,l[j]? =some y->j<i->ev j=.row a id b->id=be_ l base j/\y.kd=.mem
 ft:∀f∈s.fl,f.id<top
omit [Gl]in
theorem Sl.ev_congr {ev ev':Nat->Evt} {S:Nat->Bool} {t:Nat} {a:AV} (h:Sl l ev T0 S t a) (he:∀j,S j=true->ev' j=ev j):Sl l ev' T0 S t a:=by rcases h with ⟨h1,h2⟩|⟨j,x,h1,h2,h3,h4,h5⟩;exact .inl ⟨h1,λj x hj hs hd=>by grind⟩;exact .inr ⟨j,x,h1,h2,h3,by grind,λj' x' hj hs hd hp=>h5 j' x' hj hs hd (by grind)⟩
theorem DInv.congr (hP:PlanOk ops l) {i:Nat} {ev ev':Nat->Evt} {s:DS} (h:DInv P call N ops l T0 base i ev s) (he:∀j,j<i->ev' j=ev j):DInv P call N ops l T0 base i ev' s where
 slot:=λt ht=>(h.slot t ht).ev_congr λj hj=>he j (by grind)
 gs:=h.gs
 gsd:=λd v H hd=>by
  obtain ⟨h1,h2,h3⟩:=h.gsd d v H hd
  grind
 fl:=λf hf=>by
  obtain ⟨y,a,h1,h2,h3,h4⟩:=h.fl f hf
  grind
 each:=λj x hx hj=>by
  rcases h.each j x hx hj with ⟨h1,h2⟩|⟨u,R,h1,h2,h3⟩
  .grind
  .refine .inr ⟨u,R,h1,λt ht=>(h2 t ht).imp id λh=>⟨h.1,h.2.ev_congr λk hk=>he k (Nat.lt_trans (by grind) hj)⟩,?_⟩
   .have:=h3.mono (gs:=[]) (ev':=ev') (λk hk=>hP.bef_lt j x k hx hk) (λk hk=>he k (by omega)) (λr hr=>hr) (λd hd=>hd)
    grind
 row:=λj y a id b hy hj hr=>h.row j y a id b hy hj (by grind)
 ft:=h.ft
omit [Gl]in
theorem pp_ (i:Nat):(λj=>decide (j<i+1))=plus (λj=>decide (j<i)) i:=by
 unfold plus
 grind
theorem DInv.step (hP:PlanOk ops l) {i:Nat} {ev:Nat->Evt} {s s':DS} {x:SI} (inv:DInv P call N ops l T0 base i ev s) (hx:l[i]? =some x) {gs:List AHeap}
  (hT:s'.T=s.T/\(ev i).put=none\/∃u a,bT_ N x.o.dst=.mk u/\(ev i).put=some a/\s'.T=u s.T a)
  (hGs:s'.Gs=s.Gs++gs) (hlen:s'.dead=none->gs.length=match bf_ x.kd with|true=>1|false=>0)
  (hdd:s'.dead=s.dead\/s.dead=none/\ev i=.die/\bf_ x.kd=true/\∃v H,s'.dead=some (i,v,H))
  (hrd:∀r∈s.rd,r∈s'.rd)
  (hfl:∀f∈s'.fl,(f∈s.fl/\∀a,ev i=.step a->bit x.bef f.op=false)\/(f.op=i/\x.kd=.mem/\∃a,ev i=.row a f.id f.b))
  (heach:(ev i=.gone/\∃d v H,s'.dead=some (d,v,H)/\bit x.bef d=true)\/
    ∃u R,bT_ N x.o.dst=.mk u/\(∀t,t<512->tget R t=.opq\/(t∈x.rd/\tget R t=tget s.T t))/\Did0 P call ops l ev (be_ l base) s'.Gs s'.rd s'.dead i x R (ev i))
  (hrow:∀a id b,ev i=.row a id b->id=be_ l base i/\x.kd=.mem) (hft:∀f∈s'.fl,f.id<top):
  DInv P call N ops l T0 base (i+1) ev s' where
 slot:=λt ht=>by
  have h:=inv.slot t ht;rw [pp_];rcases hT with ⟨h1,h2⟩|⟨u,a,h1,h2,h3⟩;rw [h1];exact h.keep λy hy _=>h2
  .obtain ⟨p1,p2⟩:=eZ_ h1 s.T a ht;rw [h3];by_cases e:x.o.dst=some t
   .grind [Sl.put]
   .rw [p2 e];refine h.keep λy hy hd=>?_
    grind
 gs:=λhd=>by
  have hd0:s.dead=none:=by
   grind
  rw [hGs,List.length_append,inv.gs hd0,hlen hd,sR_ hP hx]
  grind
 gsd:=λd v H hd=>by
  rcases hdd with h|⟨h,h1,h2,v',H',h3⟩
  .rw [h]at hd;obtain ⟨g1,g2,g3⟩:=inv.gsd d v H hd
   grind
  grind
 fl:=λf hf=>by
  rcases hfl f hf with ⟨h1,h2⟩|⟨h1,hk,a,h2⟩
  .obtain ⟨y,a,g1,g2,g3,g4⟩:=inv.fl f h1
   grind
  .refine ⟨x,a,by grind,by omega,by grind,λk y' a' q1 q2 q3=>?_⟩;cases hb:bit y'.bef f.op with
   |false=>rfl
   |true=>
    have:=hP.bef_lt k y' _ q1 hb
    grind
 each:=λj y hy hj=>by
  by_cases e:j=i;subst e;rw [hx]at hy;cases hy;rcases heach with h|⟨u,R,h1,h2,h3⟩;exact .inl h;exact .inr ⟨u,R,h1,λt ht=>(h2 t ht).imp id λh=>⟨h.1,by rw [h.2];exact inv.slot t ht⟩,h3⟩
  .have hmono:∀d,s.dead=some d->s'.dead=some d:=λd hd=>by
     grind
   rcases inv.each j y hy (by omega)with ⟨h1,d,v,H,h2,h3⟩|⟨u,R,h1,h2,h3⟩
   .grind
   rw [hGs];exact .inr ⟨u,R,h1,h2,h3.mono (λk hk=>hP.bef_lt j y k hy hk) (λ_ _=>rfl) hrd hmono⟩
 row:=λj y a id b hy hj hr=>by
  by_cases e:j=i
  .grind
  exact inv.row j y a id b hy (by omega) hr
 ft:=hft
end
end Go.Sx
namespace Go.Sx
variable [Gl]
section
variable {P:Program} {call:CallF} {N:Nat} {ops:List Oper} {l:List SI} {T0:Tm} {base:Nat} {i:Nat} {ev:Nat->Evt} {s:DS}
theorem DInv.last (inv:DInv P call N ops l T0 base i ev s) (hd:s.dead=none) {G:AHeap} (h:i5_ s.Gs=some G):s.Gs[wAt ops i]? =some G/\∀G',(s.Gs++[G'])[wAt ops i+1]? =some G':=by
 have hl:=inv.gs hd
 grind [i6_]
theorem DInv.took (inv:DInv P call N ops l T0 base i ev s) {x:SI} (hx:l[i]? =some x) {G:AHeap}:Took l ev i x G (dF_ x.bef s.fl G):=by
 obtain ⟨h1,h2,h3⟩:=gL_ x.bef s.fl G inv.ft;refine ⟨h1,h2,λid k hk=>?_⟩;rcases h3 id k hk with h|⟨f,hf,hb,rfl,rfl⟩;exact .inl h
 .obtain ⟨y,a,g1,g2,g3,g4⟩:=inv.fl f hf
  grind
omit [Gl]in
theorem fZ_ {i j:Nat}:∀(rest:List SI),fs_ rest i j=true->∀(k:Nat) (y:SI),rest[k]? =some y->bf_ y.kd=true->bit y.bef j=true->bit y.bef i=true
 |[],h,k,y,hy,_,_=>by simp at hy
 |z::r,h,k,y,hy,h1,h2=>by
  unfold fs_ at h;split at h
  .split at h
   .rename_i hz;cases k with
    |zero=>simp at hy;subst hy;exact hz
    |succ k=>exact fZ_ r h k y (by simpa using hy) h1 h2
   cases h
  .rename_i hz;cases k with
   |zero=>simp at hy;subst hy;rw [h1,h2]at hz;cases hz
   |succ k=>exact fZ_ r h k y (by simpa using hy) h1 h2
omit [Gl]in
theorem hl_ {c:OC} {R:Tm} {bef:Nat} {rest:List SI} {i:Nat} {a:AV}:∀(fl:List Fl),jw_ c R bef rest i fl=some a->
  ∃f∈fl,bit bef f.op=true/\fs_ rest i f.op=true/\cn_ c R ((⟨hnil,0,0⟩:AHeap).set f.id f.b)=some a
 |[],h=>by cases h
 |f::r,h=>by unfold jw_ at h;split at h;rename_i hb;obtain ⟨h1,h2⟩:=aa_ hb;split at h;rename_i a' ha;cases h;exact ⟨f,List.mem_cons_self ..,h1,h2,ha⟩;obtain ⟨g,q1,q2⟩:=hl_ r h;exact ⟨g,List.mem_cons_of_mem _ q1,q2⟩;obtain ⟨g,q1,q2⟩:=hl_ r h;exact ⟨g,List.mem_cons_of_mem _ q1,q2⟩
theorem mo_ (hP:PlanOk ops l) {i id:Nat} {ev0:Nat->Evt} {s s':DS} {x:SI} (inv0:DInv P call N ops l T0 base i ev0 s) (hx:l[i]? =some x) (hid:id=be_ l base i) {rest:List SI} (hrest:∀k,rest[k]? =l[i+1+k]?)
  (h:eF_ P call N ops x rest i id s=some s'):∃e,∀ev:Nat->Evt,(∀j,j<i->ev j=ev0 j)->ev i=e->DInv P call N ops l T0 base (i+1) ev s':=by
 unfold eF_ at h;split at h
 ·
  rename_i hdead;cases h;cases hd:s.dead with
  |none=>rw [hd]at hdead;cases hdead
  |some p=>
   obtain ⟨d,v,H⟩:=p;rw [hd]at hdead;refine ⟨.gone,λev hev he=>?_⟩;have inv:=inv0.congr hP hev;exact inv.step hP hx (gs:=[]) (.inl ⟨rfl,by rw [he];rfl⟩) (by simp) (λh=>by grind) (.inl rfl) (λr hr=>hr) (λf hf=>.inl ⟨hf,λa ha=>by grind⟩)
    (.inl ⟨he,d,v,H,hd,hdead⟩) (λa id b hr=>by grind) inv.ft
 .split at h;cases h
  .rename_i u hu;split at h;cases h
   .rename_i t hg;have hR:=rH_ s.T x.rd;split at h
    ·
     unfold nV_ at h;split at h
     .rename_i hk;split at h
      .rename_i a ha;cases h;refine ⟨.val a,λev hev he=>?_⟩;have inv:=inv0.congr hP hev;exact inv.step hP hx (gs:=[]) (.inr ⟨u,a,hu,by rw [he];rfl,rfl⟩) (by simp) (λ_=>by rw [hk];rfl) (.inl rfl) (λr hr=>hr) (λf hf=>.inl ⟨hf,λa ha=>by grind⟩)
        (.inr ⟨u,_,hu,hR,by rw [he];exact .pure hg hk ha⟩) (λa id b hr=>by grind) inv.ft
      cases h
     .rename_i hk;split at h;cases h
      .rename_i G hG;split at h
       .rename_i a ha;cases h;refine ⟨.val a,λev hev he=>?_⟩;have inv:=inv0.congr hP hev;exact inv.step hP hx (gs:=[]) (.inr ⟨u,a,hu,by rw [he];rfl,rfl⟩) (by simp) (λ_=>by rw [hk];rfl) (.inl rfl) (λr hr=>List.mem_cons_of_mem _ hr) (λf hf=>.inl ⟨hf,λa ha=>by grind⟩)
         (.inr ⟨u,_,hu,hR,by rw [he];exact .read hg hk (by grind [pw_]) ha (List.mem_cons_self ..)⟩) (λa id b hr=>by grind) inv.ft
       .split at h
        .rename_i a ha;cases h;obtain ⟨f,hf,hbit,hlat,hrd⟩:=hl_ _ ha;refine ⟨.val a,λev hev he=>?_⟩;have inv:=inv0.congr hP hev;obtain ⟨y,c,g1,g2,g3,g4⟩:=inv.fl f hf;refine inv.step hP hx (gs:=[]) (.inr ⟨u,a,hu,by rw [he];rfl,rfl⟩) (by simp) (λ_=>by rw [hk];rfl) (.inl rfl) (λr hr=>hr) (λf hf=>.inl ⟨hf,λa ha=>by grind⟩)
          (.inr ⟨u,_,hu,hR,by rw [he];exact .fl hg hk g1 g3 hbit g4 (λk y' q1 q2 q3 q4=>fZ_ rest hlat (k-(i+1)) y' (by grind) q3 q4) (inv.ft f hf) hrd⟩) (λa id b hr=>by grind) inv.ft
        cases h
     .rename_i hk;split at h
      .rename_i a H' hrun;split at h
       .rename_i b hb;cases h;refine ⟨.row a id b,λev hev he=>?_⟩;have inv:=inv0.congr hP hev;refine inv.step hP hx (gs:=[]) (.inr ⟨u,a,hu,by rw [he];rfl,rfl⟩) (by simp) (λ_=>by rw [hk];rfl) (.inl rfl) (λr hr=>hr) (λf hf=>?_)
         (.inr ⟨u,_,hu,hR,by rw [he];subst hid;exact .mem hg hk hrun hb⟩) (λa id b hr=>by grind) (λf hf=>?_)
        .grind
        rcases List.mem_cons.1 hf with rfl|hf;exact AHeap.get_lt hb;exact inv.ft f hf
       cases h
      cases h
     .rename_i hk;split at h;cases h
      .rename_i hd;split at h;cases h
       .rename_i G hG;have hw:bf_ x.kd=true:=(by rw [hk];rfl);split at h
        .rename_i a H' hrun;cases h;refine ⟨.step a,λev hev he=>?_⟩;have inv:=inv0.congr hP hev;obtain ⟨q1,q2⟩:=inv.last hd hG;refine inv.step hP hx (gs:=[H']) (.inr ⟨u,a,hu,by rw [he];rfl,rfl⟩) (bE_ _ _) (λ_=>by rw [hw];rfl) (.inl rfl) (λr hr=>hr) (λf hf=>?_)
          (.inr ⟨u,_,hu,hR,by rw [he];exact .wr hg hk (by grind [bE_]) (by grind [bE_]) (inv.took hx) (.inl hrun)⟩) (λa id b hr=>by grind) (λf hf=>?_)
         .obtain ⟨f1,f2⟩:=cC_ _ _ _ hf
          grind
         exact inv.ft f (cC_ _ _ _ hf).1
        .rename_i f args hrun;split at h
         .rename_i a H' hc;cases h;refine ⟨.step a,λev hev he=>?_⟩;have inv:=inv0.congr hP hev;obtain ⟨q1,q2⟩:=inv.last hd hG;refine inv.step hP hx (gs:=[H']) (.inr ⟨u,a,hu,by rw [he];rfl,rfl⟩) (bE_ _ _) (λ_=>by rw [hw];rfl) (.inl rfl) (λr hr=>hr) (λf hf=>?_)
           (.inr ⟨u,_,hu,hR,by rw [he];exact .wr hg hk (by grind [bE_]) (by grind [bE_]) (inv.took hx) (.inr ⟨f,args,hrun,hc⟩)⟩) (λa id b hr=>by grind) (λf hf=>?_)
          .obtain ⟨f1,f2⟩:=cC_ _ _ _ hf
           grind
          exact inv.ft f (cC_ _ _ _ hf).1
         .rename_i v H' hc;cases h;refine ⟨.die,λev hev he=>?_⟩;have inv:=inv0.congr hP hev;obtain ⟨q1,q2⟩:=inv.last hd hG;exact inv.step hP hx (gs:=[]) (.inl ⟨rfl,by rw [he];rfl⟩) (by simp) (λh=>by cases h) (.inr ⟨hd,he,hw,v,H',rfl⟩) (λr hr=>hr) (λf hf=>.inl ⟨hf,λa ha=>by grind⟩)
           (.inr ⟨u,_,hu,hR,by rw [he];exact .die hg hk q1 (inv.took hx) rfl (.inr ⟨f,args,hrun,hc⟩)⟩) (λa id b hr=>by grind) inv.ft
         cases h
        .rename_i v hrun;cases h;refine ⟨.die,λev hev he=>?_⟩;have inv:=inv0.congr hP hev;obtain ⟨q1,q2⟩:=inv.last hd hG;exact inv.step hP hx (gs:=[]) (.inl ⟨rfl,by rw [he];rfl⟩) (by simp) (λh=>by cases h) (.inr ⟨hd,he,hw,v,_,rfl⟩) (λr hr=>hr) (λf hf=>.inl ⟨hf,λa ha=>by grind⟩)
          (.inr ⟨u,_,hu,hR,by rw [he];exact .die hg hk q1 (inv.took hx) rfl (.inl ⟨hrun,rfl⟩)⟩) (λa id b hr=>by grind) inv.ft
        cases h
    ·
     unfold lk_ at h;split at h
     .rename_i hk;split at h;cases h
      .rename_i hd;split at h;cases h
       .rename_i G hG;cases h;have hw:bf_ x.kd=true:=(by rw [hk];rfl);refine ⟨.off,λev hev he=>?_⟩;have inv:=inv0.congr hP hev;obtain ⟨q1,q2⟩:=inv.last hd hG;exact inv.step hP hx (gs:=[G]) (.inr ⟨u,.tup [],hu,by rw [he];rfl,rfl⟩) (bE_ _ _) (λ_=>by rw [hw];rfl) (.inl rfl) (λr hr=>hr) (λf hf=>.inl ⟨hf,λa ha=>by grind⟩)
         (.inr ⟨u,_,hu,hR,by rw [he];exact .off hg λ_=>⟨G,by grind [bE_],by grind [bE_]⟩⟩) (λa id b hr=>by grind) inv.ft
     .rename_i hk;cases h;have hw:bf_ x.kd=false:=by cases hkd:x.kd<;>first|rfl|exact absurd hkd (by simpa using hk)
      refine ⟨.off,λev hev he=>?_⟩;have inv:=inv0.congr hP hev;exact inv.step hP hx (gs:=[]) (.inr ⟨u,.tup [],hu,by rw [he];rfl,rfl⟩) (by simp) (λ_=>by rw [hw];rfl) (.inl rfl) (λr hr=>hr) (λf hf=>.inl ⟨hf,λa ha=>by grind⟩)
       (.inr ⟨u,_,hu,hR,by rw [he];exact .off hg λh=>by grind⟩) (λa id b hr=>by grind) inv.ft
end
end Go.Sx
