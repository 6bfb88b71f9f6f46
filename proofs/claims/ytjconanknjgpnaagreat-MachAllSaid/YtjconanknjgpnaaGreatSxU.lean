/-
  A region whose order is open: one run in the order of the text tells them all.
-/
import Derived.Test.YtjconanknjgpnaaGreatSxS
set_option linter.unusedVariables false
set_option linter.unusedSimpArgs false
namespace Go.Sx
theorem o0_:∀(l:List AHeap) (n:Nat),sI_ l n=l[n]?
 |[],n=>by cases n<;>rfl
 |a::r,0=>rfl
 |a::r,n+1=>by simp [sI_,o0_ r n]
theorem bx_ (x:AHeap):∀l:List AHeap,ky_ l x=l++[x]
 |[]=>rfl
 |a::r=>by simp [ky_,bx_ x r]
theorem iE_:∀l:List AHeap,iD_ l=l[l.length-1]?
 |[]=>rfl
 |[a]=>rfl
 |a::b::r=>by have ih:=iE_ (b::r);unfold iD_;simp only;rw [ih];simp
theorem lY_:∀(n:Nat) (l:List AHeap),ox_ n l=l.drop n
 |0,l=>rfl
 |n+1,[]=>rfl
 |n+1,a::r=>by simp [ox_,lY_ n r]
mutual
theorem aI_:∀{a b:AV},bF_ a b=true->a=b
 | .bool a,.bool b,h=>by simp [bF_]at h;rw [h]
 | .int k a,.int k' b,h=>by simp only [bF_]at h;obtain ⟨h1,h2⟩:=aa_ h;rw [fF_]at h2;rw [oP_ h1,of_decide_eq_true (p:=a=b) (by simpa using h2)]
 | .flt k a,.flt k' b,h=>by simp only [bF_]at h;obtain ⟨h1,h2⟩:=aa_ h;rw [of_decide_eq_true h1,Nat.eq_of_beq_eq_true h2]
 | .nan k,.nan k',h=>by simp only [bF_]at h;rw [of_decide_eq_true h]
 | .str a,.str b,h=>by simp only [bF_,d4_]at h;rw [eq_of_beq h]
 | .nptr,.nptr,h=>rfl
 | .vptr a,.vptr b,h=>by simp only [bF_]at h;rw [bw_ h]
 | .vsl a b c,.vsl a' b' c',h=>by simp only [bF_]at h;obtain ⟨h,h3⟩:=aa_ h;obtain ⟨h1,h2⟩:=aa_ h;rw [Nat.eq_of_beq_eq_true h1,Nat.eq_of_beq_eq_true h2,bw_ h3]
 | .ptr a b,.ptr c d,h=>by simp only [bF_]at h;obtain ⟨h1,h2⟩:=aa_ h;rw [Nat.eq_of_beq_eq_true h1,Nat.eq_of_beq_eq_true h2]
 | .nsl,.nsl,h=>rfl
 | .sl a b c d e,.sl a' b' c' d' e',h=>by simp only [bF_]at h;obtain ⟨h,h5⟩:=aa_ h;obtain ⟨h,h4⟩:=aa_ h;obtain ⟨h,h3⟩:=aa_ h;obtain ⟨h1,h2⟩:=aa_ h;rw [Nat.eq_of_beq_eq_true h1,Nat.eq_of_beq_eq_true h2,Nat.eq_of_beq_eq_true h3,Nat.eq_of_beq_eq_true h4,eq_of_beq h5]
 | .nmap,.nmap,h=>rfl
 | .map a,.map b,h=>by simp only [bF_]at h;rw [Nat.eq_of_beq_eq_true h]
 | .nfn,.nfn,h=>rfl
 | .fn f a,.fn g b,h=>by simp only [bF_]at h;obtain ⟨h1,h2⟩:=aa_ h;rw [Nat.eq_of_beq_eq_true h1,bw_ h2]
 | .nif,.nif,h=>rfl
 | .iface t a,.iface u b,h=>by simp only [bF_]at h;obtain ⟨h1,h2⟩:=aa_ h;rw [Nat.eq_of_beq_eq_true h1,aI_ h2]
 | .agg a,.agg b,h=>by simp only [bF_]at h;rw [bw_ h]
 | .tup a,.tup b,h=>by simp only [bF_]at h;rw [bw_ h]
 | .sym a,.sym b,h=>by simp only [bF_]at h;rw [Nat.eq_of_beq_eq_true h]
 | .slx a b c,.slx a' b' c',h=>by simp only [bF_]at h;obtain ⟨h1,h⟩:=aa_ h;obtain ⟨h2,h3⟩:=aa_ h;rw [Nat.eq_of_beq_eq_true h1,Nat.eq_of_beq_eq_true h2,Nat.eq_of_beq_eq_true h3]
 | .ptx a b c d,.ptx a' b' c' d',h=>by simp only [bF_]at h;obtain ⟨h1,h⟩:=aa_ h;obtain ⟨h2,h⟩:=aa_ h;obtain ⟨h3,h4⟩:=aa_ h;rw [Nat.eq_of_beq_eq_true h1,Nat.eq_of_beq_eq_true h2,Nat.eq_of_beq_eq_true h3,Nat.eq_of_beq_eq_true h4]
theorem bw_:∀{a b:List AV},dH_ a b=true->a=b
 |[],[],h=>rfl
 |a::r,b::s,h=>by simp only [dH_]at h;obtain ⟨h1,h2⟩:=aa_ h;rw [aI_ h1,bw_ h2]
 |[],_::_,h=>by simp [dH_]at h
 |_::_,[],h=>by simp [dH_]at h
end
theorem bO_ (t:Nat):tget topq t=.opq:=by rw [ei_];unfold topq;rw [Q8.at_all,Q8.at_all,Q8.at_all]
theorem gP_ (T:Tm):∀(rd:List Nat) (R:Tm),(∀t,t<512->tget R t=.opq\/(t∈rd/\tget R t=tget T t)\/tget R t=tget T t)->∀t,t<512->
  tget (as_ T rd R) t=.opq\/tget (as_ T rd R) t=tget T t
 |[],R,h,t,ht=>by rcases h t ht with h|⟨_,h⟩|h;exact .inl h;exact .inr h;exact .inr h
 |d::r,R,h,t,ht=>by unfold as_;split;rename_i hb;have hd:d<512:=(by simpa [Nat.blt_eq]using hb);refine gP_ T r _ (λt ht=>?_) t ht;by_cases e:d=t;subst e;rw [ao_ R hd];exact .inr (.inr rfl);rw [ap_ R ht hd e];rcases h t ht with h|⟨_,h⟩|h;exact .inl h;exact .inr (.inr h);exact .inr (.inr h);refine gP_ T r _ (λt ht=>?_) t ht;rcases h t ht with h|⟨_,h⟩|h;exact .inl h;exact .inr (.inr h);exact .inr (.inr h)
theorem gQ_ (T:Tm):∀(rd:List Nat) (R:Tm) (t:Nat),t<512->t∉rd->tget (as_ T rd R) t=tget R t
 |[],R,t,ht,hn=>rfl
 |d::r,R,t,ht,hn=>by unfold as_;have hne:d≠t:=λe=>hn (by rw [e];exact List.mem_cons_self ..);have hr:t∉r:=λh=>hn (List.mem_cons_of_mem _ h);split;rename_i hb;have hd:d<512:=(by simpa [Nat.blt_eq]using hb);rw [gQ_ T r _ t ht hr,ap_ R ht hd hne];exact gQ_ T r _ t ht hr
theorem q7_ (T:Tm) (rd:List Nat) (t:Nat) (ht:t<512):tget (as_ T rd topq) t=.opq\/(t∈rd/\tget (as_ T rd topq) t=tget T t):=by by_cases h:t∈rd;rcases gP_ T rd topq (λt ht=>.inl (bO_ t)) t ht with e|e;exact .inl e;exact .inr ⟨h,e⟩;left;rw [gQ_ T rd topq t ht h,bO_]
theorem eP_ {N:Nat} {dst:Option Nat} {u:Tm->AV->Tm} (hu:b3_ N dst=.mk u) (T:Tm) (a:AV) {t:Nat} (ht:t<512):
  (dst=some t->tget (u T a) t=a)/\(dst≠some t->tget (u T a) t=tget T t):=by
 unfold b3_ at hu;split at hu;cases hu;exact ⟨λh=>(nomatch h),λ_=>rfl⟩;rename_i d;split at hu;rename_i hb;cases hu;have hd:d<512:=(by simpa [Nat.blt_eq]using (aa_ hb).2);refine ⟨λh=>?_,λh=>?_⟩;cases h;exact ao_ T hd a;exact ap_ T ht hd (λe=>h (by rw [e])) a;cases hu
theorem lP_ {N:Nat}:∀(l:List SI) (T T':Tm),sp_ N l T=some T'->∀t,t<512->tget T' t=.opq\/(tget T' t=tget T t/\∀(j:Nat) (y:SI),l[j]? =some y->y.o.dst≠some t)
 |[],T,T',h,t,ht=>by cases h;exact .inr ⟨rfl,λj y hj=>by simp at hj⟩
 |x::r,T,T',h,t,ht=>by
  unfold sp_ at h;split at h
  .rename_i u hu;have ih:=lP_ r _ _ h t ht;obtain ⟨p1,p2⟩:=eP_ hu T .opq ht;rcases ih with h|⟨h1,h2⟩;exact .inl h
   .by_cases e:x.o.dst=some t;left;rw [h1,p1 e]
    .right;refine ⟨by rw [h1,p2 e],λj y hj=>?_⟩;cases j with
     |zero=>simp at hj;subst hj;exact e
     |succ j=>exact h2 j y (by simpa using hj)
  cases h
theorem gr_ (bef:Nat):∀(fl:List Fl) (G:AHeap),(∀f∈fl,f.id<top)->(dy_ bef fl G).next=G.next/\(dy_ bef fl G).hi=G.hi/\
  ∀id k,(dy_ bef fl G).get id=some k->G.get id=some k\/∃f∈fl,bit bef f.op=true/\f.id=id/\f.b=k
 |[],G,_=>⟨rfl,rfl,λid k h=>.inl h⟩
 |f::r,G,ht=>by unfold dy_;split;rename_i hb;obtain ⟨h1,h2,h3⟩:=gr_ bef r (G.set f.id f.b) λg hg=>ht g (List.mem_cons_of_mem _ hg);refine ⟨h1,h2,λid k hk=>?_⟩;rcases h3 id k hk with h|⟨g,hg,h⟩;by_cases e:f.id=id;subst e;rw [AHeap.get_set_same G (ht f (List.mem_cons_self ..))]at h;cases h;exact .inr ⟨f,List.mem_cons_self ..,hb,rfl,rfl⟩;rw [AHeap.get_set_ne G (ht f (List.mem_cons_self ..)) e]at h;exact .inl h;exact .inr ⟨g,List.mem_cons_of_mem _ hg,h⟩;obtain ⟨h1,h2,h3⟩:=gr_ bef r G λg hg=>ht g (List.mem_cons_of_mem _ hg);refine ⟨h1,h2,λid k hk=>?_⟩;rcases h3 id k hk with h|⟨g,hg,h⟩;exact .inl h;exact .inr ⟨g,List.mem_cons_of_mem _ hg,h⟩
theorem cs_ (bef:Nat):∀(fl:List Fl) (f:Fl),f∈fM_ bef fl->f∈fl/\bit bef f.op=false
 |[],f,h=>by simp [fM_]at h
 |g::r,f,h=>by unfold fM_ at h;split at h;obtain ⟨h1,h2⟩:=cs_ bef r f h;exact ⟨List.mem_cons_of_mem _ h1,h2⟩;rename_i hb;rcases List.mem_cons.1 h with rfl|h;exact ⟨List.mem_cons_self ..,by simpa using hb⟩;obtain ⟨h1,h2⟩:=cs_ bef r f h;exact ⟨List.mem_cons_of_mem _ h1,h2⟩
theorem kC_:∀(fl:List Fl) (G:AHeap),(∀f∈fl,f.id<top)->(eV_ fl G).next=G.next/\(eV_ fl G).hi=G.hi/\
  ∀id k,(eV_ fl G).get id=some k->G.get id=some k\/∃f∈fl,f.id=id/\f.b=k
 |[],G,_=>⟨rfl,rfl,λid k h=>.inl h⟩
 |f::r,G,ht=>by unfold eV_;obtain ⟨h1,h2,h3⟩:=kC_ r (G.set f.id f.b) λg hg=>ht g (List.mem_cons_of_mem _ hg);refine ⟨h1,h2,λid k hk=>?_⟩;rcases h3 id k hk with h|⟨g,hg,h⟩;by_cases e:f.id=id;subst e;rw [AHeap.get_set_same G (ht f (List.mem_cons_self ..))]at h;cases h;exact .inr ⟨f,List.mem_cons_self ..,rfl,rfl⟩;rw [AHeap.get_set_ne G (ht f (List.mem_cons_self ..)) e]at h;exact .inl h;exact .inr ⟨g,List.mem_cons_of_mem _ hg,h⟩
theorem i4_ {c:OC} {T:Tm} {a:AV}:∀(n:Nat) (l:List AHeap),hZ_ c T a n l=true->∀m G,m<n->l[m]? =some G->cg_ c T G=some a
 |0,l,h,m,G,hm,hg=>by omega
 |n+1,[],h,m,G,hm,hg=>by simp at hg
 |n+1,H::r,h,m,G,hm,hg=>by
  unfold hZ_ at h;split at h
  .rename_i a' ha;obtain ⟨h1,h2⟩:=aa_ h;cases m with
   |zero=>simp at hg;subst hg;rw [ha,aI_ h1]
   |succ m=>exact i4_ n r h2 m G (by omega) (by simpa using hg)
  cases h
theorem gj_ [Gl] {P:Program} {Gs:List AHeap}:∀(rd:List Rd),dV_ P Gs rd=true->∀x∈rd,∀m G,x.lo<m->m<=x.hi->Gs[m]? =some G->cg_ (ac_ P x.o) x.T G=some x.a
 |[],h,x,hx=>by simp at hx
 |y::r,h,x,hx=>by unfold dV_ at h;obtain ⟨h1,h2⟩:=aa_ h;rcases List.mem_cons.1 hx with rfl|hx;intro m G g1 g2 g3;refine i4_ _ _ h1 (m-(x.lo+1)) G ?_ ?_;show _<x.hi-x.lo;omega;rw [lY_,List.getElem?_drop];have:Nat.succ x.lo+(m-(x.lo+1))=m:=(by omega);rw [this];exact g3;exact gj_ r h2 x hx
theorem bT_:∀(l:List SI) (i:Nat) (x:SI),l[i]? =some x->a3_ (l.take (i+1))=a3_ (l.take i)+(match x.kd with| .mem=>1|_=>0)
 |[],i,x,h=>by simp at h
 |y::r,0,x,h=>by simp at h;subst h;simp only [List.take_succ_cons,List.take_zero,a3_];cases y.kd<;>rfl
 |y::r,i+1,x,h=>by have ih:=bT_ r i x (by simpa using h);simp only [List.take_succ_cons,a3_];rw [ih];cases y.kd<;>simp only [Nat.succ_eq_add_one]<;>omega
theorem ez_:∀(l:List SI) (i:Nat),a3_ (l.take i)<=a3_ l
 |[],i=>by simp
 |y::r,0=>by simp [a3_]
 |y::r,i+1=>by have ih:=ez_ r i;simp only [List.take_succ_cons,a3_];cases y.kd<;>simp only [Nat.succ_eq_add_one]<;>omega
theorem fu_ (l:List SI) {i j:Nat} (h:i<=j):a3_ (l.take i)<=a3_ (l.take j):=by
 have:=ez_ (l.take j) i
 rwa [List.take_take,Nat.min_eq_left h]at this
def bc_ (l:List SI) (base j:Nat):Nat:=base+a3_ (l.take j)
theorem nJ_ {l:List SI} {base i j:Nat} {x y:SI} (hx:l[i]? =some x) (hy:l[j]? =some y) (kx:x.kd=.mem) (ky:y.kd=.mem) (h:bc_ l base i=bc_ l base j):i=j:=by unfold bc_ at h;have h1:=bT_ l i x hx;have h2:=bT_ l j y hy;rw [kx]at h1;rw [ky]at h2;simp only at h1 h2;rcases Nat.lt_trichotomy i j with hlt|he|hgt;have:=fu_ l (show i+1<=j by omega);omega;exact he;have:=fu_ l (show j+1<=i by omega);omega
theorem PlanOk.bef_lt {ops:List Oper} {l:List SI} (hP:PlanOk ops l):∀(i:Nat) (x:SI) (j:Nat),l[i]? =some x->bit x.bef j=true->j<i:=by
 intro i
 induction i using Nat.strongRecOn with
 |_ i ih=>intro x j hx hb;obtain ⟨e,he,hbe,hj⟩:=(hP.bef i x j hx).1 hb;have hlt:=hP.lt i x e hx he hbe;rcases hj with rfl|⟨y,hy,hj⟩;exact hlt;have:=ih e.on hlt y j hy hj;omega
theorem sd_ {ops:List Oper} {l:List SI} (hP:PlanOk ops l) {i:Nat} {x:SI} (hx:l[i]? =some x):wAt ops (i+1)=wAt ops i+(match a7_ x.kd with|true=>1|false=>0):=by
 have hpl:(λj=>decide (j<i+1))=plus (λj=>decide (j<i)) i:=by
  funext j
  unfold plus;by_cases e:j=i;subst e;simp;rw [if_neg e];simp;omega
 unfold wAt;rw [hpl];cases hw:a7_ x.kd with
 |true=>have:=gx_ (S:=λj=>decide (j<i)) ops 0 i x.o (hP.op i x hx) (by rw [←hP.kd i x hx];exact hw) (by simp);rw [Nat.zero_add]at this;exact this
 |false=>exact kN_ hP hx hw
variable [Gl]
inductive Did0 (P:Program) (call:CallF) (ops:List Oper) (l:List SI) (ev:Nat->Evt) (idOf:Nat->Nat) (Gs:List AHeap) (rd:List Rd) (dd:Option (Nat×AV×AHeap)) (i:Nat) (x:SI) (R:Tm):Evt->Prop
 |off (hg:aL_ ops x R=some false) (hw:a7_ x.kd=true->∃G,Gs[wAt ops i]? =some G/\Gs[wAt ops i+1]? =some G):Did0 P call ops l ev idOf Gs rd dd i x R .off
 |pure {a:AV} (hg:aL_ ops x R=some true) (hk:x.kd=.pure) (h:cg_ (ac_ P x.o) R ⟨hnil,0,0⟩=some a):Did0 P call ops l ev idOf Gs rd dd i x R (.val a)
 |read {a:AV} {G:AHeap} (hg:aL_ ops x R=some true) (hk:x.kd=.read) (h1:Gs[x.lo]? =some G) (h:cg_ (ac_ P x.o) R G=some a) (hr:Rd.mk R x.o a x.lo x.hi∈rd):Did0 P call ops l ev idOf Gs rd dd i x R (.val a)
 |fl {a:AV} {j id:Nat} {y:SI} {c:AV} {b:ABlk} (hg:aL_ ops x R=some true) (hk:x.kd=.read) (hy:l[j]? =some y) (hj:ev j=.row c id b) (hbit:bit x.bef j=true)
   (hno:∀(k:Nat) (y':SI) (a':AV),l[k]? =some y'->k<i->ev k=.step a'->bit y'.bef j=false) (hlater:∀(k:Nat) (y':SI),l[k]? =some y'->i<k->a7_ y'.kd=true->bit y'.bef j=true->bit y'.bef i=true)
   (ht:id<top) (h:cg_ (ac_ P x.o) R ((⟨hnil,0,0⟩:AHeap).set id b)=some a):Did0 P call ops l ev idOf Gs rd dd i x R (.val a)
 |mem {a:AV} {b:ABlk} {H':AHeap} (hg:aL_ ops x R=some true) (hk:x.kd=.mem) (h:(ac_ P x.o).run R ⟨hnil,idOf i,Nat.succ (idOf i)⟩=some (.val a H')) (hb:H'.get (idOf i)=some b):
   Did0 P call ops l ev idOf Gs rd dd i x R (.row a (idOf i) b)
 |wr {a:AV} {G G1 H':AHeap} (hg:aL_ ops x R=some true) (hk:x.kd=.wr) (h1:Gs[wAt ops i]? =some G) (h2:Gs[wAt ops i+1]? =some H') (ht:Took l ev i x G G1)
   (h:(ac_ P x.o).run R G1=some (.val a H')\/∃f args,(ac_ P x.o).run R G1=some (.call f args)/\call f args G1=some (.ret a H')):Did0 P call ops l ev idOf Gs rd dd i x R (.step a)
 |die {v:AV} {G G1 H':AHeap} (hg:aL_ ops x R=some true) (hk:x.kd=.wr) (h1:Gs[wAt ops i]? =some G) (ht:Took l ev i x G G1) (hd:dd=some (i,v,H'))
   (h:((ac_ P x.o).run R G1=some (.pan v)/\H'=G1)\/∃f args,(ac_ P x.o).run R G1=some (.call f args)/\call f args G1=some (.pan v H')):Did0 P call ops l ev idOf Gs rd dd i x R .die
omit [Gl]in
theorem getElem?_app {α:Type} {l:List α} {m:Nat} {a:α} (h:l[m]? =some a) (r:List α):(l++r)[m]? =some a:=by rw [List.getElem?_append_left (List.getElem?_eq_some_iff.1 h).1];exact h
section
variable {P:Program} {call:CallF} {N:Nat} {ops:List Oper} {l:List SI} {T0:Tm} {base:Nat}
omit [Gl]in
theorem Took.congr {ev ev':Nat->Evt} {i:Nat} {x:SI} {G G1:AHeap} (h:Took l ev i x G G1) (hb:∀j,bit x.bef j=true->j<i) (he:∀j,j<i->ev' j=ev j):Took l ev' i x G G1 where
 next:=h.next
 hi:=h.hi
 row:=λid k hk=>by rcases h.row id k hk with h|⟨j,y,a,h1,h2,h3,h4⟩;exact .inl h;exact .inr ⟨j,y,a,h1,by rw [he j (hb j h3)];exact h2,h3,λk' y' a' g1 g2 g3=>h4 k' y' a' g1 g2 (by rw [←he k' g2];exact g3)⟩
theorem Did0.mono {ev ev':Nat->Evt} {idOf:Nat->Nat} {Gs gs:List AHeap} {rd rd':List Rd} {dd dd':Option (Nat×AV×AHeap)} {i:Nat} {x:SI} {R:Tm} {e:Evt} (h:Did0 P call ops l ev idOf Gs rd dd i x R e)
  (hb:∀j,bit x.bef j=true->j<i) (he:∀j,j<i->ev' j=ev j) (hr:∀r∈rd,r∈rd') (hd:∀d,dd=some d->dd'=some d):Did0 P call ops l ev' idOf (Gs++gs) rd' dd' i x R e:=by
 cases h with
 |off hg hw=>exact .off hg λh=>by obtain ⟨G,h1,h2⟩:=hw h;exact ⟨G,getElem?_app h1 _,getElem?_app h2 _⟩
 |pure hg hk h=>exact .pure hg hk h
 |read hg hk h1 h hr'=>exact .read hg hk (getElem?_app h1 _) h (hr _ hr')
 |fl hg hk hy hj hbit hno hlater ht h=>exact .fl hg hk hy (by rw [he _ (hb _ hbit)];exact hj) hbit (λk y' a' g1 g2 g3=>hno k y' a' g1 g2 (by rw [←he k g2];exact g3)) hlater ht h
 |mem hg hk h hb=>exact .mem hg hk h hb
 |wr hg hk h1 h2 ht h=>exact .wr hg hk (getElem?_app h1 _) (getElem?_app h2 _) (ht.congr hb he) h
 |die hg hk h1 ht hd' h=>exact .die hg hk (getElem?_app h1 _) (ht.congr hb he) (hd _ hd') h
structure DInv (P:Program) (call:CallF) (N:Nat) (ops:List Oper) (l:List SI) (T0:Tm) (base i:Nat) (ev:Nat->Evt) (s:DS):Prop where
 slot:∀t,t<512->Sl l ev T0 (λj=>decide (j<i)) t (tget s.T t)
 gs:s.dead=none->s.Gs.length=wAt ops i+1
 gsd:∀d v H,s.dead=some (d,v,H)->ev d=.die/\d<i/\∃y,l[d]? =some y/\a7_ y.kd=true
 fl:∀f∈s.fl,∃y a,l[f.op]? =some y/\f.op<i/\ev f.op=.row a f.id f.b/\∀k y' a',l[k]? =some y'->k<i->ev k=.step a'->bit y'.bef f.op=false
 each:∀(j:Nat) (x:SI),l[j]? =some x->j<i->(ev j=.gone/\∃d v H,s.dead=some (d,v,H)/\bit x.bef d=true)\/
  ∃u R,b3_ N x.o.dst=.mk u/\(∀t,t<512->tget R t=.opq\/(t∈x.rd/\Sl l ev T0 (λk=>decide (k<j)) t (tget R t)))/\Did0 P call ops l ev (bc_ l base) s.Gs s.rd s.dead j x R (ev j)
 row:∀j y a id b,l[j]? =some y->j<i->ev j=.row a id b->id=bc_ l base j/\y.kd=.mem
 ft:∀f∈s.fl,f.id<top
omit [Gl]in
theorem Sl.ev_congr {ev ev':Nat->Evt} {S:Nat->Bool} {t:Nat} {a:AV} (h:Sl l ev T0 S t a) (he:∀j,S j=true->ev' j=ev j):Sl l ev' T0 S t a:=by rcases h with ⟨h1,h2⟩|⟨j,x,h1,h2,h3,h4,h5⟩;exact .inl ⟨h1,λj x hj hs hd=>by rw [he j hs];exact h2 j x hj hs hd⟩;exact .inr ⟨j,x,h1,h2,h3,by rw [he j h2];exact h4,λj' x' hj hs hd hp=>h5 j' x' hj hs hd (by rw [←he j' hs];exact hp)⟩
theorem DInv.congr (hP:PlanOk ops l) {i:Nat} {ev ev':Nat->Evt} {s:DS} (h:DInv P call N ops l T0 base i ev s) (he:∀j,j<i->ev' j=ev j):DInv P call N ops l T0 base i ev' s where
 slot:=λt ht=>(h.slot t ht).ev_congr λj hj=>he j (by simpa using hj)
 gs:=h.gs
 gsd:=λd v H hd=>by obtain ⟨h1,h2,h3⟩:=h.gsd d v H hd;exact ⟨by rw [he d h2];exact h1,h2,h3⟩
 fl:=λf hf=>by obtain ⟨y,a,h1,h2,h3,h4⟩:=h.fl f hf;exact ⟨y,a,h1,h2,by rw [he _ h2];exact h3,λk y' a' g1 g2 g3=>h4 k y' a' g1 g2 (by rw [←he k g2];exact g3)⟩
 each:=λj x hx hj=>by
  rcases h.each j x hx hj with ⟨h1,h2⟩|⟨u,R,h1,h2,h3⟩;exact .inl ⟨by rw [he j hj];exact h1,h2⟩
  .refine .inr ⟨u,R,h1,λt ht=>(h2 t ht).imp id λh=>⟨h.1,h.2.ev_congr λk hk=>he k (Nat.lt_trans (by simpa using hk) hj)⟩,?_⟩
   .rw [he j hj];have:=h3.mono (gs:=[]) (ev':=ev') (λk hk=>hP.bef_lt j x k hx hk) (λk hk=>he k (by omega)) (λr hr=>hr) (λd hd=>hd)
    rwa [List.append_nil]at this
 row:=λj y a id b hy hj hr=>h.row j y a id b hy hj (by rw [←he j hj];exact hr)
 ft:=h.ft
omit [Gl]in
theorem oV_ (i:Nat):(λj=>decide (j<i+1))=plus (λj=>decide (j<i)) i:=by
 funext j
 unfold plus;by_cases e:j=i;subst e;simp;rw [if_neg e];simp;omega
theorem DInv.step (hP:PlanOk ops l) {i:Nat} {ev:Nat->Evt} {s s':DS} {x:SI} (inv:DInv P call N ops l T0 base i ev s) (hx:l[i]? =some x) {gs:List AHeap}
  (hT:s'.T=s.T/\(ev i).put=none\/∃u a,b3_ N x.o.dst=.mk u/\(ev i).put=some a/\s'.T=u s.T a)
  (hGs:s'.Gs=s.Gs++gs) (hlen:s'.dead=none->gs.length=match a7_ x.kd with|true=>1|false=>0)
  (hdd:s'.dead=s.dead\/s.dead=none/\ev i=.die/\a7_ x.kd=true/\∃v H,s'.dead=some (i,v,H))
  (hrd:∀r∈s.rd,r∈s'.rd)
  (hfl:∀f∈s'.fl,(f∈s.fl/\∀a,ev i=.step a->bit x.bef f.op=false)\/(f.op=i/\x.kd=.mem/\∃a,ev i=.row a f.id f.b))
  (heach:(ev i=.gone/\∃d v H,s'.dead=some (d,v,H)/\bit x.bef d=true)\/
    ∃u R,b3_ N x.o.dst=.mk u/\(∀t,t<512->tget R t=.opq\/(t∈x.rd/\tget R t=tget s.T t))/\Did0 P call ops l ev (bc_ l base) s'.Gs s'.rd s'.dead i x R (ev i))
  (hrow:∀a id b,ev i=.row a id b->id=bc_ l base i/\x.kd=.mem) (hft:∀f∈s'.fl,f.id<top):
  DInv P call N ops l T0 base (i+1) ev s' where
 slot:=λt ht=>by have h:=inv.slot t ht;rw [oV_];rcases hT with ⟨h1,h2⟩|⟨u,a,h1,h2,h3⟩;rw [h1];exact h.keep λy hy _=>h2;obtain ⟨p1,p2⟩:=eP_ h1 s.T a ht;rw [h3];by_cases e:x.o.dst=some t;rw [p1 e];refine Sl.put hx e h2 λj y hj hs hd=>?_;have:j<i:=(by simpa using hs);omega;rw [p2 e];refine h.keep λy hy hd=>?_;rw [hx]at hy;cases hy;exact absurd hd e
 gs:=λhd=>by have hd0:s.dead=none:=(by rcases hdd with h|⟨h,_⟩;rw [←h];exact hd;exact h);rw [hGs,List.length_append,inv.gs hd0,hlen hd,sd_ hP hx];split<;>simp [*]
 gsd:=λd v H hd=>by rcases hdd with h|⟨h,h1,h2,v',H',h3⟩;rw [h]at hd;obtain ⟨g1,g2,g3⟩:=inv.gsd d v H hd;exact ⟨g1,by omega,g3⟩;rw [h3]at hd;cases hd;exact ⟨h1,by omega,x,hx,h2⟩
 fl:=λf hf=>by
  rcases hfl f hf with ⟨h1,h2⟩|⟨h1,hk,a,h2⟩;obtain ⟨y,a,g1,g2,g3,g4⟩:=inv.fl f h1;refine ⟨y,a,g1,by omega,g3,λk y' a' q1 q2 q3=>?_⟩;by_cases e:k=i;subst e;rw [hx]at q1;cases q1;exact h2 a' q3;exact g4 k y' a' q1 (by omega) q3
  .refine ⟨x,a,by rw [h1];exact hx,by omega,by rw [h1];exact h2,λk y' a' q1 q2 q3=>?_⟩;cases hb:bit y'.bef f.op with
   |false=>rfl
   |true=>have:=hP.bef_lt k y' _ q1 hb;have e:k=i:=(by omega);subst e;rw [h2]at q3;cases q3
 each:=λj y hy hj=>by by_cases e:j=i;subst e;rw [hx]at hy;cases hy;rcases heach with h|⟨u,R,h1,h2,h3⟩;exact .inl h;exact .inr ⟨u,R,h1,λt ht=>(h2 t ht).imp id λh=>⟨h.1,by rw [h.2];exact inv.slot t ht⟩,h3⟩;have hmono:∀d,s.dead=some d->s'.dead=some d:=λd hd=>(by rcases hdd with h|⟨h,_⟩;rw [h];exact hd;rw [h]at hd;cases hd);rcases inv.each j y hy (by omega)with ⟨h1,d,v,H,h2,h3⟩|⟨u,R,h1,h2,h3⟩;exact .inl ⟨h1,d,v,H,hmono _ h2,h3⟩;rw [hGs];exact .inr ⟨u,R,h1,h2,h3.mono (λk hk=>hP.bef_lt j y k hy hk) (λ_ _=>rfl) hrd hmono⟩
 row:=λj y a id b hy hj hr=>by by_cases e:j=i;subst e;rw [hx]at hy;cases hy;exact hrow a id b hr;exact inv.row j y a id b hy (by omega) hr
 ft:=hft
end
end Go.Sx
namespace Go.Sx
variable [Gl]
section
variable {P:Program} {call:CallF} {N:Nat} {ops:List Oper} {l:List SI} {T0:Tm} {base:Nat} {i:Nat} {ev:Nat->Evt} {s:DS}
theorem DInv.last (inv:DInv P call N ops l T0 base i ev s) (hd:s.dead=none) {G:AHeap} (h:iD_ s.Gs=some G):s.Gs[wAt ops i]? =some G/\∀G',(s.Gs++[G'])[wAt ops i+1]? =some G':=by have hl:=inv.gs hd;rw [iE_,hl]at h;refine ⟨by simpa using h,λG'=>?_⟩;rw [←hl];simp
theorem DInv.took (inv:DInv P call N ops l T0 base i ev s) {x:SI} (hx:l[i]? =some x) {G:AHeap}:Took l ev i x G (dy_ x.bef s.fl G):=by obtain ⟨h1,h2,h3⟩:=gr_ x.bef s.fl G inv.ft;refine ⟨h1,h2,λid k hk=>?_⟩;rcases h3 id k hk with h|⟨f,hf,hb,rfl,rfl⟩;exact .inl h;obtain ⟨y,a,g1,g2,g3,g4⟩:=inv.fl f hf;exact .inr ⟨f.op,y,a,g1,g3,hb,g4⟩
omit [Gl]in
theorem fJ_ {i j:Nat}:∀(rest:List SI),fi_ rest i j=true->∀(k:Nat) (y:SI),rest[k]? =some y->a7_ y.kd=true->bit y.bef j=true->bit y.bef i=true
 |[],h,k,y,hy,_,_=>by simp at hy
 |z::r,h,k,y,hy,h1,h2=>by
  unfold fi_ at h;split at h
  .split at h
   .rename_i hz;cases k with
    |zero=>simp at hy;subst hy;exact hz
    |succ k=>exact fJ_ r h k y (by simpa using hy) h1 h2
   cases h
  .rename_i hz;cases k with
   |zero=>simp at hy;subst hy;rw [h1,h2]at hz;cases hz
   |succ k=>exact fJ_ r h k y (by simpa using hy) h1 h2
omit [Gl]in
theorem g1_ {c:OC} {R:Tm} {bef:Nat} {rest:List SI} {i:Nat} {a:AV}:∀(fl:List Fl),i1_ c R bef rest i fl=some a->
  ∃f∈fl,bit bef f.op=true/\fi_ rest i f.op=true/\cg_ c R ((⟨hnil,0,0⟩:AHeap).set f.id f.b)=some a
 |[],h=>by cases h
 |f::r,h=>by unfold i1_ at h;split at h;rename_i hb;obtain ⟨h1,h2⟩:=aa_ hb;split at h;rename_i a' ha;cases h;exact ⟨f,List.mem_cons_self ..,h1,h2,ha⟩;obtain ⟨g,q1,q2⟩:=g1_ r h;exact ⟨g,List.mem_cons_of_mem _ q1,q2⟩;obtain ⟨g,q1,q2⟩:=g1_ r h;exact ⟨g,List.mem_cons_of_mem _ q1,q2⟩
theorem lW_ (hP:PlanOk ops l) {i id:Nat} {ev0:Nat->Evt} {s s':DS} {x:SI} (inv0:DInv P call N ops l T0 base i ev0 s) (hx:l[i]? =some x) (hid:id=bc_ l base i) {rest:List SI} (hrest:∀k,rest[k]? =l[i+1+k]?)
  (h:eA_ P call N ops x rest i id s=some s'):∃e,∀ev:Nat->Evt,(∀j,j<i->ev j=ev0 j)->ev i=e->DInv P call N ops l T0 base (i+1) ev s':=by
 unfold eA_ at h;split at h
 ·
  rename_i hdead;cases h;unfold q5_ at hdead;cases hd:s.dead with
  |none=>rw [hd]at hdead;cases hdead
  |some p=>
   obtain ⟨d,v,H⟩:=p;rw [hd]at hdead;refine ⟨.gone,λev hev he=>?_⟩;have inv:=inv0.congr hP hev;exact inv.step hP hx (gs:=[]) (.inl ⟨rfl,by rw [he];rfl⟩) (by simp) (λh=>by rw [hd]at h;cases h) (.inl rfl) (λr hr=>hr) (λf hf=>.inl ⟨hf,λa ha=>by rw [he]at ha;cases ha⟩)
    (.inl ⟨he,d,v,H,hd,hdead⟩) (λa id b hr=>by rw [he]at hr;cases hr) inv.ft
 .split at h;cases h
  .rename_i u hu;split at h;cases h
   .rename_i t hg;have hR:=q7_ s.T x.rd;split at h
    ·
     unfold nx_ at h;split at h
     .rename_i hk;split at h
      .rename_i a ha;cases h;refine ⟨.val a,λev hev he=>?_⟩;have inv:=inv0.congr hP hev;exact inv.step hP hx (gs:=[]) (.inr ⟨u,a,hu,by rw [he];rfl,rfl⟩) (by simp) (λ_=>by rw [hk];rfl) (.inl rfl) (λr hr=>hr) (λf hf=>.inl ⟨hf,λa ha=>by rw [he]at ha;cases ha⟩)
        (.inr ⟨u,_,hu,hR,by rw [he];exact .pure hg hk ha⟩) (λa id b hr=>by rw [he]at hr;cases hr) inv.ft
      cases h
     .rename_i hk;split at h;cases h
      .rename_i G hG;split at h
       .rename_i a ha;cases h;refine ⟨.val a,λev hev he=>?_⟩;have inv:=inv0.congr hP hev;exact inv.step hP hx (gs:=[]) (.inr ⟨u,a,hu,by rw [he];rfl,rfl⟩) (by simp) (λ_=>by rw [hk];rfl) (.inl rfl) (λr hr=>List.mem_cons_of_mem _ hr) (λf hf=>.inl ⟨hf,λa ha=>by rw [he]at ha;cases ha⟩)
         (.inr ⟨u,_,hu,hR,by rw [he];exact .read hg hk (by rw [←o0_];exact hG) ha (List.mem_cons_self ..)⟩) (λa id b hr=>by rw [he]at hr;cases hr) inv.ft
       .split at h
        .rename_i a ha;cases h;obtain ⟨f,hf,hbit,hlat,hrd⟩:=g1_ _ ha;refine ⟨.val a,λev hev he=>?_⟩;have inv:=inv0.congr hP hev;obtain ⟨y,c,g1,g2,g3,g4⟩:=inv.fl f hf;refine inv.step hP hx (gs:=[]) (.inr ⟨u,a,hu,by rw [he];rfl,rfl⟩) (by simp) (λ_=>by rw [hk];rfl) (.inl rfl) (λr hr=>hr) (λf hf=>.inl ⟨hf,λa ha=>by rw [he]at ha;cases ha⟩)
          (.inr ⟨u,_,hu,hR,by rw [he];exact .fl hg hk g1 g3 hbit g4 (λk y' q1 q2 q3 q4=>fJ_ rest hlat (k-(i+1)) y' (by rw [hrest,show i+1+(k-(i+1))=k by omega];exact q1) q3 q4) (inv.ft f hf) hrd⟩) (λa id b hr=>by rw [he]at hr;cases hr) inv.ft
        cases h
     .rename_i hk;split at h
      .rename_i a H' hrun;split at h
       .rename_i b hb;cases h;refine ⟨.row a id b,λev hev he=>?_⟩;have inv:=inv0.congr hP hev;refine inv.step hP hx (gs:=[]) (.inr ⟨u,a,hu,by rw [he];rfl,rfl⟩) (by simp) (λ_=>by rw [hk];rfl) (.inl rfl) (λr hr=>hr) (λf hf=>?_)
         (.inr ⟨u,_,hu,hR,by rw [he];subst hid;exact .mem hg hk hrun hb⟩) (λa id b hr=>by rw [he]at hr;cases hr;exact ⟨hid,hk⟩) (λf hf=>?_)
        rcases List.mem_cons.1 hf with rfl|hf;exact .inr ⟨rfl,hk,a,he⟩;exact .inl ⟨hf,λa ha=>by rw [he]at ha;cases ha⟩;rcases List.mem_cons.1 hf with rfl|hf;exact AHeap.get_lt hb;exact inv.ft f hf
       cases h
      cases h
     .rename_i hk;split at h;cases h
      .rename_i hd;split at h;cases h
       .rename_i G hG;have hw:a7_ x.kd=true:=(by rw [hk];rfl);split at h
        .rename_i a H' hrun;cases h;refine ⟨.step a,λev hev he=>?_⟩;have inv:=inv0.congr hP hev;obtain ⟨q1,q2⟩:=inv.last hd hG;refine inv.step hP hx (gs:=[H']) (.inr ⟨u,a,hu,by rw [he];rfl,rfl⟩) (bx_ _ _) (λ_=>by rw [hw];rfl) (.inl rfl) (λr hr=>hr) (λf hf=>?_)
          (.inr ⟨u,_,hu,hR,by rw [he];exact .wr hg hk (by rw [bx_];exact getElem?_app q1 _) (by rw [bx_];exact q2 H') (inv.took hx) (.inl hrun)⟩) (λa id b hr=>by rw [he]at hr;cases hr) (λf hf=>?_)
         obtain ⟨f1,f2⟩:=cs_ _ _ _ hf;exact .inl ⟨f1,λ_ _=>f2⟩;exact inv.ft f (cs_ _ _ _ hf).1
        .rename_i f args hrun;split at h
         .rename_i a H' hc;cases h;refine ⟨.step a,λev hev he=>?_⟩;have inv:=inv0.congr hP hev;obtain ⟨q1,q2⟩:=inv.last hd hG;refine inv.step hP hx (gs:=[H']) (.inr ⟨u,a,hu,by rw [he];rfl,rfl⟩) (bx_ _ _) (λ_=>by rw [hw];rfl) (.inl rfl) (λr hr=>hr) (λf hf=>?_)
           (.inr ⟨u,_,hu,hR,by rw [he];exact .wr hg hk (by rw [bx_];exact getElem?_app q1 _) (by rw [bx_];exact q2 H') (inv.took hx) (.inr ⟨f,args,hrun,hc⟩)⟩) (λa id b hr=>by rw [he]at hr;cases hr) (λf hf=>?_)
          obtain ⟨f1,f2⟩:=cs_ _ _ _ hf;exact .inl ⟨f1,λ_ _=>f2⟩;exact inv.ft f (cs_ _ _ _ hf).1
         .rename_i v H' hc;cases h;refine ⟨.die,λev hev he=>?_⟩;have inv:=inv0.congr hP hev;obtain ⟨q1,q2⟩:=inv.last hd hG;exact inv.step hP hx (gs:=[]) (.inl ⟨rfl,by rw [he];rfl⟩) (by simp) (λh=>by cases h) (.inr ⟨hd,he,hw,v,H',rfl⟩) (λr hr=>hr) (λf hf=>.inl ⟨hf,λa ha=>by rw [he]at ha;cases ha⟩)
           (.inr ⟨u,_,hu,hR,by rw [he];exact .die hg hk q1 (inv.took hx) rfl (.inr ⟨f,args,hrun,hc⟩)⟩) (λa id b hr=>by rw [he]at hr;cases hr) inv.ft
         cases h
        .rename_i v hrun;cases h;refine ⟨.die,λev hev he=>?_⟩;have inv:=inv0.congr hP hev;obtain ⟨q1,q2⟩:=inv.last hd hG;exact inv.step hP hx (gs:=[]) (.inl ⟨rfl,by rw [he];rfl⟩) (by simp) (λh=>by cases h) (.inr ⟨hd,he,hw,v,_,rfl⟩) (λr hr=>hr) (λf hf=>.inl ⟨hf,λa ha=>by rw [he]at ha;cases ha⟩)
          (.inr ⟨u,_,hu,hR,by rw [he];exact .die hg hk q1 (inv.took hx) rfl (.inl ⟨hrun,rfl⟩)⟩) (λa id b hr=>by rw [he]at hr;cases hr) inv.ft
        cases h
    ·
     unfold kP_ at h;split at h
     .rename_i hk;split at h;cases h
      .rename_i hd;split at h;cases h
       .rename_i G hG;cases h;have hw:a7_ x.kd=true:=(by rw [hk];rfl);refine ⟨.off,λev hev he=>?_⟩;have inv:=inv0.congr hP hev;obtain ⟨q1,q2⟩:=inv.last hd hG;exact inv.step hP hx (gs:=[G]) (.inr ⟨u,.tup [],hu,by rw [he];rfl,rfl⟩) (bx_ _ _) (λ_=>by rw [hw];rfl) (.inl rfl) (λr hr=>hr) (λf hf=>.inl ⟨hf,λa ha=>by rw [he]at ha;cases ha⟩)
         (.inr ⟨u,_,hu,hR,by rw [he];exact .off hg λ_=>⟨G,by rw [bx_];exact getElem?_app q1 _,by rw [bx_];exact q2 G⟩⟩) (λa id b hr=>by rw [he]at hr;cases hr) inv.ft
     .rename_i hk;cases h;have hw:a7_ x.kd=false:=by cases hkd:x.kd<;>first|rfl|exact absurd hkd (by simpa using hk)
      refine ⟨.off,λev hev he=>?_⟩;have inv:=inv0.congr hP hev;exact inv.step hP hx (gs:=[]) (.inr ⟨u,.tup [],hu,by rw [he];rfl,rfl⟩) (by simp) (λ_=>by rw [hw];rfl) (.inl rfl) (λr hr=>hr) (λf hf=>.inl ⟨hf,λa ha=>by rw [he]at ha;cases ha⟩)
       (.inr ⟨u,_,hu,hR,by rw [he];exact .off hg λh=>by rw [hw]at h;cases h⟩) (λa id b hr=>by rw [he]at hr;cases hr) inv.ft
end
end Go.Sx
