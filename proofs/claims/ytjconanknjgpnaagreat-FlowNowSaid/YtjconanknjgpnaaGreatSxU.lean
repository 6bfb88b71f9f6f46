/-
  A region whose order is open: one run in the order of the text tells them all.
-/
import Derived.Test.YtjconanknjgpnaaGreatSxT
set_option linter.unusedVariables false
set_option linter.unusedSimpArgs false
namespace Go.Sx
theorem pb_:∀(l:List AHeap) (n:Nat),sO_ l n=l[n]?
 |[],n=>by cases n<;>rfl
 |a::r,0=>rfl
 |a::r,n+1=>by simp [sO_,pb_ r n]
theorem bC_ (x:AHeap):∀l:List AHeap,kH_ l x=l++[x]
 |[]=>rfl
 |a::r=>by simp [kH_,bC_ x r]
theorem iR_:∀l:List AHeap,iQ_ l=l[l.length-1]?
 |[]=>rfl
 |[a]=>rfl
 |a::b::r=>by
  have ih:=iR_ (b::r)
  unfold iQ_
  simp only
  rw [ih]
  simp
theorem l8_:∀(n:Nat) (l:List AHeap),oK_ n l=l.drop n
 |0,l=>rfl
 |n+1,[]=>rfl
 |n+1,a::r=>by simp [oK_,l8_ n r]
mutual
theorem aD_:∀{a b:AV},bL_ a b=true->a=b
 | .bool a,.bool b,h=>by simp [bL_]at h;rw [h]
 | .int k a,.int k' b,h=>by
   simp only [bL_]at h
   obtain ⟨h1,h2⟩:=aa_ h
   rw [fJ_]at h2
   rw [ll_ h1,of_decide_eq_true (p:=a=b) (by simpa using h2)]
 | .flt k a,.flt k' b,h=>by
   simp only [bL_]at h
   obtain ⟨h1,h2⟩:=aa_ h
   rw [of_decide_eq_true h1,Nat.eq_of_beq_eq_true h2]
 | .nan k,.nan k',h=>by simp only [bL_]at h;rw [of_decide_eq_true h]
 | .str a,.str b,h=>by
   simp only [bL_,d5_]at h
   rw [eq_of_beq h]
 | .nptr,.nptr,h=>rfl
 | .vptr a,.vptr b,h=>by simp only [bL_]at h;rw [bp_ h]
 | .vsl a b c,.vsl a' b' c',h=>by
   simp only [bL_]at h
   obtain ⟨h,h3⟩:=aa_ h
   obtain ⟨h1,h2⟩:=aa_ h
   rw [Nat.eq_of_beq_eq_true h1,Nat.eq_of_beq_eq_true h2,bp_ h3]
 | .ptr a b,.ptr c d,h=>by
   simp only [bL_]at h
   obtain ⟨h1,h2⟩:=aa_ h
   rw [Nat.eq_of_beq_eq_true h1,Nat.eq_of_beq_eq_true h2]
 | .nsl,.nsl,h=>rfl
 | .sl a b c d e,.sl a' b' c' d' e',h=>by
   simp only [bL_]at h
   obtain ⟨h,h5⟩:=aa_ h
   obtain ⟨h,h4⟩:=aa_ h
   obtain ⟨h,h3⟩:=aa_ h
   obtain ⟨h1,h2⟩:=aa_ h
   rw [Nat.eq_of_beq_eq_true h1,Nat.eq_of_beq_eq_true h2,Nat.eq_of_beq_eq_true h3,Nat.eq_of_beq_eq_true h4,eq_of_beq h5]
 | .nmap,.nmap,h=>rfl
 | .map a,.map b,h=>by simp only [bL_]at h;rw [Nat.eq_of_beq_eq_true h]
 | .nfn,.nfn,h=>rfl
 | .fn f a,.fn g b,h=>by
   simp only [bL_]at h
   obtain ⟨h1,h2⟩:=aa_ h
   rw [Nat.eq_of_beq_eq_true h1,bp_ h2]
 | .nif,.nif,h=>rfl
 | .iface t a,.iface u b,h=>by
   simp only [bL_]at h
   obtain ⟨h1,h2⟩:=aa_ h
   rw [Nat.eq_of_beq_eq_true h1,aD_ h2]
 | .agg a,.agg b,h=>by simp only [bL_]at h;rw [bp_ h]
 | .tup a,.tup b,h=>by simp only [bL_]at h;rw [bp_ h]
 | .sym a,.sym b,h=>by simp only [bL_]at h;rw [Nat.eq_of_beq_eq_true h]
 | .slx a b c,.slx a' b' c',h=>by
   simp only [bL_]at h
   obtain ⟨h1,h⟩:=aa_ h
   obtain ⟨h2,h3⟩:=aa_ h
   rw [Nat.eq_of_beq_eq_true h1,Nat.eq_of_beq_eq_true h2,Nat.eq_of_beq_eq_true h3]
 | .ptx a b c d,.ptx a' b' c' d',h=>by
   simp only [bL_]at h
   obtain ⟨h1,h⟩:=aa_ h
   obtain ⟨h2,h⟩:=aa_ h
   obtain ⟨h3,h4⟩:=aa_ h
   rw [Nat.eq_of_beq_eq_true h1,Nat.eq_of_beq_eq_true h2,Nat.eq_of_beq_eq_true h3,Nat.eq_of_beq_eq_true h4]
theorem bp_:∀{a b:List AV},dM_ a b=true->a=b
 |[],[],h=>rfl
 |a::r,b::s,h=>by
  simp only [dM_]at h
  obtain ⟨h1,h2⟩:=aa_ h
  rw [aD_ h1,bp_ h2]
 |[],_::_,h=>by simp [dM_]at h
 |_::_,[],h=>by simp [dM_]at h
end
theorem bG_ (t:Nat):tget topq t=.opq:=by
 rw [ej_];unfold topq;rw [Q8.at_all,Q8.at_all,Q8.at_all]
theorem gW_ (T:Tm):∀(rd:List Nat) (R:Tm),(∀t,t<512->tget R t=.opq\/(t∈rd/\tget R t=tget T t)\/tget R t=tget T t)->∀t,t<512->
  tget (au_ T rd R) t=.opq\/tget (au_ T rd R) t=tget T t
 |[],R,h,t,ht=>by
  rcases h t ht with h|⟨_,h⟩|h
  .exact .inl h
  .exact .inr h
  .exact .inr h
 |d::r,R,h,t,ht=>by
  unfold au_
  split
  .rename_i hb
   have hd:d<512:=by simpa [Nat.blt_eq]using hb
   refine gW_ T r _ (λt ht=>?_) t ht
   by_cases e:d=t
   .subst e;rw [an_ R hd];exact .inr (.inr rfl)
   .rw [ar_ R ht hd e]
    rcases h t ht with h|⟨_,h⟩|h
    .exact .inl h
    .exact .inr (.inr h)
    .exact .inr (.inr h)
  .refine gW_ T r _ (λt ht=>?_) t ht
   rcases h t ht with h|⟨_,h⟩|h
   .exact .inl h
   .exact .inr (.inr h)
   .exact .inr (.inr h)
theorem gX_ (T:Tm):∀(rd:List Nat) (R:Tm) (t:Nat),t<512->t∉rd->tget (au_ T rd R) t=tget R t
 |[],R,t,ht,hn=>rfl
 |d::r,R,t,ht,hn=>by
  unfold au_
  have hne:d≠t:=λe=>hn (by rw [e];exact List.mem_cons_self ..)
  have hr:t∉r:=λh=>hn (List.mem_cons_of_mem _ h)
  split
  .rename_i hb
   have hd:d<512:=by simpa [Nat.blt_eq]using hb
   rw [gX_ T r _ t ht hr,ar_ R ht hd hne]
  .exact gX_ T r _ t ht hr
theorem re_ (T:Tm) (rd:List Nat) (t:Nat) (ht:t<512):tget (au_ T rd topq) t=.opq\/(t∈rd/\tget (au_ T rd topq) t=tget T t):=by
 by_cases h:t∈rd
 .rcases gW_ T rd topq (λt ht=>.inl (bG_ t)) t ht with e|e
  .exact .inl e
  .exact .inr ⟨h,e⟩
 .left;rw [gX_ T rd topq t ht h,bG_]
theorem eQ_ {N:Nat} {dst:Option Nat} {u:Tm->AV->Tm} (hu:b8_ N dst=.mk u) (T:Tm) (a:AV) {t:Nat} (ht:t<512):
  (dst=some t->tget (u T a) t=a)/\(dst≠some t->tget (u T a) t=tget T t):=by
 unfold b8_ at hu
 split at hu
 .cases hu;exact ⟨λh=>(nomatch h),λ_=>rfl⟩
 .rename_i d
  split at hu
  .rename_i hb
   cases hu
   have hd:d<512:=by simpa [Nat.blt_eq]using (aa_ hb).2
   refine ⟨λh=>?_,λh=>?_⟩
   .cases h;exact an_ T hd a
   .exact ar_ T ht hd (λe=>h (by rw [e])) a
  .cases hu
theorem lZ_ {N:Nat}:∀(l:List SI) (T T':Tm),su_ N l T=some T'->∀t,t<512->tget T' t=.opq\/(tget T' t=tget T t/\∀(j:Nat) (y:SI),l[j]? =some y->y.o.dst≠some t)
 |[],T,T',h,t,ht=>by cases h;exact .inr ⟨rfl,λj y hj=>by simp at hj⟩
 |x::r,T,T',h,t,ht=>by
  unfold su_ at h
  split at h
  .rename_i u hu
   have ih:=lZ_ r _ _ h t ht
   obtain ⟨p1,p2⟩:=eQ_ hu T .opq ht
   rcases ih with h|⟨h1,h2⟩
   .exact .inl h
   .by_cases e:x.o.dst=some t
    .left;rw [h1,p1 e]
    .right
     refine ⟨by rw [h1,p2 e],λj y hj=>?_⟩
     cases j with
     |zero=>simp at hj;subst hj;exact e
     |succ j=>exact h2 j y (by simpa using hj)
  .cases h
theorem gx_ (bef:Nat):∀(fl:List Fl) (G:AHeap),(∀f∈fl,f.id<top)->(dD_ bef fl G).next=G.next/\(dD_ bef fl G).hi=G.hi/\
  ∀id k,(dD_ bef fl G).get id=some k->G.get id=some k\/∃f∈fl,bit bef f.op=true/\f.id=id/\f.b=k
 |[],G,_=>⟨rfl,rfl,λid k h=>.inl h⟩
 |f::r,G,ht=>by
  unfold dD_
  split
  .rename_i hb
   obtain ⟨h1,h2,h3⟩:=gx_ bef r (G.set f.id f.b) λg hg=>ht g (List.mem_cons_of_mem _ hg)
   refine ⟨h1,h2,λid k hk=>?_⟩
   rcases h3 id k hk with h|⟨g,hg,h⟩
   .by_cases e:f.id=id
    .subst e
     rw [AHeap.get_set_same G (ht f (List.mem_cons_self ..))]at h
     cases h
     exact .inr ⟨f,List.mem_cons_self ..,hb,rfl,rfl⟩
    .rw [AHeap.get_set_ne G (ht f (List.mem_cons_self ..)) e]at h
     exact .inl h
   .exact .inr ⟨g,List.mem_cons_of_mem _ hg,h⟩
  .obtain ⟨h1,h2,h3⟩:=gx_ bef r G λg hg=>ht g (List.mem_cons_of_mem _ hg)
   refine ⟨h1,h2,λid k hk=>?_⟩
   rcases h3 id k hk with h|⟨g,hg,h⟩
   .exact .inl h
   .exact .inr ⟨g,List.mem_cons_of_mem _ hg,h⟩
theorem cw_ (bef:Nat):∀(fl:List Fl) (f:Fl),f∈fP_ bef fl->f∈fl/\bit bef f.op=false
 |[],f,h=>by simp [fP_]at h
 |g::r,f,h=>by
  unfold fP_ at h
  split at h
  .obtain ⟨h1,h2⟩:=cw_ bef r f h
   exact ⟨List.mem_cons_of_mem _ h1,h2⟩
  .rename_i hb
   rcases List.mem_cons.1 h with rfl|h
   .exact ⟨List.mem_cons_self ..,by simpa using hb⟩
   .obtain ⟨h1,h2⟩:=cw_ bef r f h
    exact ⟨List.mem_cons_of_mem _ h1,h2⟩
theorem kL_:∀(fl:List Fl) (G:AHeap),(∀f∈fl,f.id<top)->(eX_ fl G).next=G.next/\(eX_ fl G).hi=G.hi/\
  ∀id k,(eX_ fl G).get id=some k->G.get id=some k\/∃f∈fl,f.id=id/\f.b=k
 |[],G,_=>⟨rfl,rfl,λid k h=>.inl h⟩
 |f::r,G,ht=>by
  unfold eX_
  obtain ⟨h1,h2,h3⟩:=kL_ r (G.set f.id f.b) λg hg=>ht g (List.mem_cons_of_mem _ hg)
  refine ⟨h1,h2,λid k hk=>?_⟩
  rcases h3 id k hk with h|⟨g,hg,h⟩
  .by_cases e:f.id=id
   .subst e
    rw [AHeap.get_set_same G (ht f (List.mem_cons_self ..))]at h
    cases h
    exact .inr ⟨f,List.mem_cons_self ..,rfl,rfl⟩
   .rw [AHeap.get_set_ne G (ht f (List.mem_cons_self ..)) e]at h
    exact .inl h
  .exact .inr ⟨g,List.mem_cons_of_mem _ hg,h⟩
theorem jg_ {c:OC} {T:Tm} {a:AV}:∀(n:Nat) (l:List AHeap),h9_ c T a n l=true->∀m G,m<n->l[m]? =some G->ck_ c T G=some a
 |0,l,h,m,G,hm,hg=>by omega
 |n+1,[],h,m,G,hm,hg=>by simp at hg
 |n+1,H::r,h,m,G,hm,hg=>by
  unfold h9_ at h
  split at h
  .rename_i a' ha
   obtain ⟨h1,h2⟩:=aa_ h
   cases m with
   |zero=>simp at hg;subst hg;rw [ha,aD_ h1]
   |succ m=>exact jg_ n r h2 m G (by omega) (by simpa using hg)
  .cases h
theorem go_ [Gl] {P:Program} {Gs:List AHeap}:∀(rd:List Rd),dY_ P Gs rd=true->∀x∈rd,∀m G,x.lo<m->m<=x.hi->Gs[m]? =some G->ck_ (ac_ P x.o) x.T G=some x.a
 |[],h,x,hx=>by simp at hx
 |y::r,h,x,hx=>by
  unfold dY_ at h
  obtain ⟨h1,h2⟩:=aa_ h
  rcases List.mem_cons.1 hx with rfl|hx
  .intro m G g1 g2 g3
   refine jg_ _ _ h1 (m-(x.lo+1)) G ?_ ?_
   .show _<x.hi-x.lo;omega
   .rw [l8_,List.getElem?_drop]
    have:Nat.succ x.lo+(m-(x.lo+1))=m:=by omega
    rw [this];exact g3
  .exact go_ r h2 x hx
theorem bX_:∀(l:List SI) (i:Nat) (x:SI),l[i]? =some x->a1_ (l.take (i+1))=a1_ (l.take i)+(match x.kd with| .mem=>1|_=>0)
 |[],i,x,h=>by simp at h
 |y::r,0,x,h=>by
  simp at h;subst h
  simp only [List.take_succ_cons,List.take_zero,a1_]
  cases y.kd<;>rfl
 |y::r,i+1,x,h=>by
  have ih:=bX_ r i x (by simpa using h)
  simp only [List.take_succ_cons,a1_]
  rw [ih]
  cases y.kd<;>simp only [Nat.succ_eq_add_one]<;>omega
theorem ey_:∀(l:List SI) (i:Nat),a1_ (l.take i)<=a1_ l
 |[],i=>by simp
 |y::r,0=>by simp [a1_]
 |y::r,i+1=>by
  have ih:=ey_ r i
  simp only [List.take_succ_cons,a1_]
  cases y.kd<;>simp only [Nat.succ_eq_add_one]<;>omega
theorem fw_ (l:List SI) {i j:Nat} (h:i<=j):a1_ (l.take i)<=a1_ (l.take j):=by
 have:=ey_ (l.take j) i
 rwa [List.take_take,Nat.min_eq_left h]at this
def a9_ (l:List SI) (base j:Nat):Nat:=base+a1_ (l.take j)
theorem nS_ {l:List SI} {base i j:Nat} {x y:SI} (hx:l[i]? =some x) (hy:l[j]? =some y) (kx:x.kd=.mem) (ky:y.kd=.mem) (h:a9_ l base i=a9_ l base j):i=j:=by
 unfold a9_ at h
 have h1:=bX_ l i x hx
 have h2:=bX_ l j y hy
 rw [kx]at h1
 rw [ky]at h2
 simp only at h1 h2
 rcases Nat.lt_trichotomy i j with hlt|he|hgt
 .have:=fw_ l (show i+1<=j by omega)
  omega
 .exact he
 .have:=fw_ l (show j+1<=i by omega)
  omega
theorem PlanOk.bef_lt {ops:List Oper} {l:List SI} (hP:PlanOk ops l):∀(i:Nat) (x:SI) (j:Nat),l[i]? =some x->bit x.bef j=true->j<i:=by
 intro i
 induction i using Nat.strongRecOn with
 |_ i ih=>
  intro x j hx hb
  obtain ⟨e,he,hbe,hj⟩:=(hP.bef i x j hx).1 hb
  have hlt:=hP.lt i x e hx he hbe
  rcases hj with rfl|⟨y,hy,hj⟩
  .exact hlt
  .have:=ih e.on hlt y j hy hj
   omega
theorem si_ {ops:List Oper} {l:List SI} (hP:PlanOk ops l) {i:Nat} {x:SI} (hx:l[i]? =some x):wAt ops (i+1)=wAt ops i+(match a5_ x.kd with|true=>1|false=>0):=by
 have hpl:(λj=>decide (j<i+1))=plus (λj=>decide (j<i)) i:=by
  funext j
  unfold plus
  by_cases e:j=i
  .subst e;simp
  .rw [if_neg e];simp;omega
 unfold wAt
 rw [hpl]
 cases hw:a5_ x.kd with
 |true=>
  have:=gC_ (S:=λj=>decide (j<i)) ops 0 i x.o (hP.op i x hx) (by rw [←hP.kd i x hx];exact hw) (by simp)
  rw [Nat.zero_add]at this
  exact this
 |false=>exact kX_ hP hx hw
end Go.Sx
