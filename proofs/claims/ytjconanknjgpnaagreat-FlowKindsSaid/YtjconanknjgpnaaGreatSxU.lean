/-
  A region whose order is open: one run in the order of the text tells them all.
-/
import Derived.Test.YtjconanknjgpnaaGreatSxT
set_option linter.unusedVariables false
set_option linter.unusedSimpArgs false
namespace Go.Sx
theorem sl_:∀(l:List AHeap) (n:Nat),ws_ l n=l[n]?
 |[],n=>by cases n<;>rfl
 |a::r,0=>rfl
 |a::r,n+1=>by simp [ws_,sl_ r n]
theorem bk_ (x:AHeap):∀l:List AHeap,lV_ l x=l++[x]
 |[]=>rfl
 |a::r=>by simp [lV_,bk_ x r]
theorem kt_:∀l:List AHeap,ko_ l=l[l.length-1]?
 |[]=>rfl
 |[a]=>rfl
 |a::b::r=>by
  have ih:=kt_ (b::r)
  unfold ko_
  simp only
  rw [ih]
  simp
theorem nX_:∀(n:Nat) (l:List AHeap),sm_ n l=l.drop n
 |0,l=>rfl
 |n+1,[]=>rfl
 |n+1,a::r=>by simp [sm_,nX_ n r]
mutual
theorem ad_:∀{a b:AV},bB_ a b=true->a=b
 | .bool a,.bool b,h=>by simp [bB_]at h;rw [h]
 | .int k a,.int k' b,h=>by
   simp only [bB_]at h
   obtain ⟨h1,h2⟩:=a_ h
   rw [gz_]at h2
   rw [nR_ h1,of_decide_eq_true (p:=a=b) (by simpa using h2)]
 | .flt k a,.flt k' b,h=>by
   simp only [bB_]at h
   obtain ⟨h1,h2⟩:=a_ h
   rw [of_decide_eq_true h1,Nat.eq_of_beq_eq_true h2]
 | .nan k,.nan k',h=>by simp only [bB_]at h;rw [of_decide_eq_true h]
 | .str a,.str b,h=>by
   simp only [bB_,eV_]at h
   rw [eq_of_beq h]
 | .nptr,.nptr,h=>rfl
 | .vptr a,.vptr b,h=>by simp only [bB_]at h;rw [a9_ h]
 | .vsl a b c,.vsl a' b' c',h=>by
   simp only [bB_]at h
   obtain ⟨h,h3⟩:=a_ h
   obtain ⟨h1,h2⟩:=a_ h
   rw [Nat.eq_of_beq_eq_true h1,Nat.eq_of_beq_eq_true h2,a9_ h3]
 | .ptr a b,.ptr c d,h=>by
   simp only [bB_]at h
   obtain ⟨h1,h2⟩:=a_ h
   rw [Nat.eq_of_beq_eq_true h1,Nat.eq_of_beq_eq_true h2]
 | .nsl,.nsl,h=>rfl
 | .sl a b c d e,.sl a' b' c' d' e',h=>by
   simp only [bB_]at h
   obtain ⟨h,h5⟩:=a_ h
   obtain ⟨h,h4⟩:=a_ h
   obtain ⟨h,h3⟩:=a_ h
   obtain ⟨h1,h2⟩:=a_ h
   rw [Nat.eq_of_beq_eq_true h1,Nat.eq_of_beq_eq_true h2,Nat.eq_of_beq_eq_true h3,Nat.eq_of_beq_eq_true h4,eq_of_beq h5]
 | .nmap,.nmap,h=>rfl
 | .map a,.map b,h=>by simp only [bB_]at h;rw [Nat.eq_of_beq_eq_true h]
 | .nfn,.nfn,h=>rfl
 | .fn f a,.fn g b,h=>by
   simp only [bB_]at h
   obtain ⟨h1,h2⟩:=a_ h
   rw [Nat.eq_of_beq_eq_true h1,a9_ h2]
 | .nif,.nif,h=>rfl
 | .iface t a,.iface u b,h=>by
   simp only [bB_]at h
   obtain ⟨h1,h2⟩:=a_ h
   rw [Nat.eq_of_beq_eq_true h1,ad_ h2]
 | .agg a,.agg b,h=>by simp only [bB_]at h;rw [a9_ h]
 | .tup a,.tup b,h=>by simp only [bB_]at h;rw [a9_ h]
 | .sym a,.sym b,h=>by simp only [bB_]at h;rw [Nat.eq_of_beq_eq_true h]
 | .slx a b c,.slx a' b' c',h=>by
   simp only [bB_]at h
   obtain ⟨h1,h⟩:=a_ h
   obtain ⟨h2,h3⟩:=a_ h
   rw [Nat.eq_of_beq_eq_true h1,Nat.eq_of_beq_eq_true h2,Nat.eq_of_beq_eq_true h3]
 | .ptx a b c d,.ptx a' b' c' d',h=>by
   simp only [bB_]at h
   obtain ⟨h1,h⟩:=a_ h
   obtain ⟨h2,h⟩:=a_ h
   obtain ⟨h3,h4⟩:=a_ h
   rw [Nat.eq_of_beq_eq_true h1,Nat.eq_of_beq_eq_true h2,Nat.eq_of_beq_eq_true h3,Nat.eq_of_beq_eq_true h4]
theorem a9_:∀{a b:List AV},er_ a b=true->a=b
 |[],[],h=>rfl
 |a::r,b::s,h=>by
  simp only [er_]at h
  obtain ⟨h1,h2⟩:=a_ h
  rw [ad_ h1,a9_ h2]
 |[],_::_,h=>by simp [er_]at h
 |_::_,[],h=>by simp [er_]at h
end
theorem bq_ (t:Nat):tget topq t=.opq:=by
 rw [ez_];unfold topq;rw [Q8.at_all,Q8.at_all,Q8.at_all]
theorem hV_ (T:Tm):∀(rd:List Nat) (R:Tm),(∀t,t<512->tget R t=.opq\/(t∈rd/\tget R t=tget T t)\/tget R t=tget T t)->∀t,t<512->
  tget (P_ T rd R) t=.opq\/tget (P_ T rd R) t=tget T t
 |[],R,h,t,ht=>by
  rcases h t ht with h|⟨_,h⟩|h
  .exact .inl h
  .exact .inr h
  .exact .inr h
 |d::r,R,h,t,ht=>by
  unfold P_
  split
  .rename_i hb
   have hd:d<512:=by simpa [Nat.blt_eq]using hb
   refine hV_ T r _ (λt ht=>?_) t ht
   by_cases e:d=t
   .subst e;rw [E_ R hd];exact .inr (.inr rfl)
   .rw [N_ R ht hd e]
    rcases h t ht with h|⟨_,h⟩|h
    .exact .inl h
    .exact .inr (.inr h)
    .exact .inr (.inr h)
  .refine hV_ T r _ (λt ht=>?_) t ht
   rcases h t ht with h|⟨_,h⟩|h
   .exact .inl h
   .exact .inr (.inr h)
   .exact .inr (.inr h)
theorem il_ (T:Tm):∀(rd:List Nat) (R:Tm) (t:Nat),t<512->t∉rd->tget (P_ T rd R) t=tget R t
 |[],R,t,ht,hn=>rfl
 |d::r,R,t,ht,hn=>by
  unfold P_
  have hne:d≠t:=λe=>hn (by rw [e];exact List.mem_cons_self ..)
  have hr:t∉r:=λh=>hn (List.mem_cons_of_mem _ h)
  split
  .rename_i hb
   have hd:d<512:=by simpa [Nat.blt_eq]using hb
   rw [il_ T r _ t ht hr,N_ R ht hd hne]
  .exact il_ T r _ t ht hr
theorem uD_ (T:Tm) (rd:List Nat) (t:Nat) (ht:t<512):tget (P_ T rd topq) t=.opq\/(t∈rd/\tget (P_ T rd topq) t=tget T t):=by
 by_cases h:t∈rd
 .rcases hV_ T rd topq (λt ht=>.inl (bq_ t)) t ht with e|e
  .exact .inl e
  .exact .inr ⟨h,e⟩
 .left;rw [il_ T rd topq t ht h,bq_]
theorem fB_ {N:Nat} {dst:Option Nat} {u:Tm->AV->Tm} (hu:b6_ N dst=.mk u) (T:Tm) (a:AV) {t:Nat} (ht:t<512):
  (dst=some t->tget (u T a) t=a)/\(dst≠some t->tget (u T a) t=tget T t):=by
 unfold b6_ at hu
 split at hu
 .cases hu;exact ⟨λh=>(nomatch h),λ_=>rfl⟩
 .rename_i d
  split at hu
  .rename_i hb
   cases hu
   have hd:d<512:=by simpa [Nat.blt_eq]using (a_ hb).2
   refine ⟨λh=>?_,λh=>?_⟩
   .cases h;exact E_ T hd a
   .exact N_ T ht hd (λe=>h (by rw [e])) a
  .cases hu
theorem om_ {N:Nat}:∀(l:List SI) (T T':Tm),w8_ N l T=some T'->∀t,t<512->tget T' t=.opq\/(tget T' t=tget T t/\∀(j:Nat) (y:SI),l[j]? =some y->y.o.dst≠some t)
 |[],T,T',h,t,ht=>by cases h;exact .inr ⟨rfl,λj y hj=>by simp at hj⟩
 |x::r,T,T',h,t,ht=>by
  unfold w8_ at h
  split at h
  .rename_i u hu
   have ih:=om_ r _ _ h t ht
   obtain ⟨p1,p2⟩:=fB_ hu T .opq ht
   rcases ih with h|⟨h1,h2⟩
   .exact .inl h
   .by_cases e:x.o.dst=some t
    .left;rw [h1,p1 e]
    .right
     refine ⟨by rw [h1,p2 e],λj y hj=>?_⟩
     cases j with
     |zero=>simp at hj;subst hj;exact e
     |succ j=>exact h2 j y (by simpa using hj)
  .cases h
theorem iu_ (bef:Nat):∀(fl:List Fl) (G:AHeap),(∀f∈fl,f.id<top)->(eb_ bef fl G).next=G.next/\(eb_ bef fl G).hi=G.hi/\
  ∀id k,(eb_ bef fl G).get id=some k->G.get id=some k\/∃f∈fl,bit bef f.op=true/\f.id=id/\f.b=k
 |[],G,_=>⟨rfl,rfl,λid k h=>.inl h⟩
 |f::r,G,ht=>by
  unfold eb_
  split
  .rename_i hb
   obtain ⟨h1,h2,h3⟩:=iu_ bef r (G.set f.id f.b) λg hg=>ht g (List.mem_cons_of_mem _ hg)
   refine ⟨h1,h2,λid k hk=>?_⟩
   rcases h3 id k hk with h|⟨g,hg,h⟩
   .by_cases e:f.id=id
    .subst e
     rw [AHeap.get_set_same G (ht f (List.mem_cons_self ..))]at h
     cases h
     exact .inr ⟨f,List.mem_cons_self ..,hb,rfl,rfl⟩
    .rw [AHeap.get_set_ne G (ht f (List.mem_cons_self ..)) e]at h
     exact .inl h
   .exact .inr ⟨g,List.mem_cons_of_mem _ hg,h⟩
  .obtain ⟨h1,h2,h3⟩:=iu_ bef r G λg hg=>ht g (List.mem_cons_of_mem _ hg)
   refine ⟨h1,h2,λid k hk=>?_⟩
   rcases h3 id k hk with h|⟨g,hg,h⟩
   .exact .inl h
   .exact .inr ⟨g,List.mem_cons_of_mem _ hg,h⟩
theorem cE_ (bef:Nat):∀(fl:List Fl) (f:Fl),f∈gK_ bef fl->f∈fl/\bit bef f.op=false
 |[],f,h=>by simp [gK_]at h
 |g::r,f,h=>by
  unfold gK_ at h
  split at h
  .obtain ⟨h1,h2⟩:=cE_ bef r f h
   exact ⟨List.mem_cons_of_mem _ h1,h2⟩
  .rename_i hb
   rcases List.mem_cons.1 h with rfl|h
   .exact ⟨List.mem_cons_self ..,by simpa using hb⟩
   .obtain ⟨h1,h2⟩:=cE_ bef r f h
    exact ⟨List.mem_cons_of_mem _ h1,h2⟩
theorem me_:∀(fl:List Fl) (G:AHeap),(∀f∈fl,f.id<top)->(fx_ fl G).next=G.next/\(fx_ fl G).hi=G.hi/\
  ∀id k,(fx_ fl G).get id=some k->G.get id=some k\/∃f∈fl,f.id=id/\f.b=k
 |[],G,_=>⟨rfl,rfl,λid k h=>.inl h⟩
 |f::r,G,ht=>by
  unfold fx_
  obtain ⟨h1,h2,h3⟩:=me_ r (G.set f.id f.b) λg hg=>ht g (List.mem_cons_of_mem _ hg)
  refine ⟨h1,h2,λid k hk=>?_⟩
  rcases h3 id k hk with h|⟨g,hg,h⟩
  .by_cases e:f.id=id
   .subst e
    rw [AHeap.get_set_same G (ht f (List.mem_cons_self ..))]at h
    cases h
    exact .inr ⟨f,List.mem_cons_self ..,rfl,rfl⟩
   .rw [AHeap.get_set_ne G (ht f (List.mem_cons_self ..)) e]at h
    exact .inl h
  .exact .inr ⟨g,List.mem_cons_of_mem _ hg,h⟩
theorem kI_ {c:OC} {T:Tm} {a:AV}:∀(n:Nat) (l:List AHeap),jB_ c T a n l=true->∀m G,m<n->l[m]? =some G->ct_ c T G=some a
 |0,l,h,m,G,hm,hg=>by omega
 |n+1,[],h,m,G,hm,hg=>by simp at hg
 |n+1,H::r,h,m,G,hm,hg=>by
  unfold jB_ at h
  split at h
  .rename_i a' ha
   obtain ⟨h1,h2⟩:=a_ h
   cases m with
   |zero=>simp at hg;subst hg;rw [ha,ad_ h1]
   |succ m=>exact kI_ n r h2 m G (by omega) (by simpa using hg)
  .cases h
theorem hD_ [Gl] {P:Program} {Gs:List AHeap}:∀(rd:List Rd),en_ P Gs rd=true->∀x∈rd,∀m G,x.lo<m->m<=x.hi->Gs[m]? =some G->ct_ (j_ P x.o) x.T G=some x.a
 |[],h,x,hx=>by simp at hx
 |y::r,h,x,hx=>by
  unfold en_ at h
  obtain ⟨h1,h2⟩:=a_ h
  rcases List.mem_cons.1 hx with rfl|hx
  .intro m G g1 g2 g3
   refine kI_ _ _ h1 (m-(x.lo+1)) G ?_ ?_
   .show _<x.hi-x.lo;omega
   .rw [nX_,List.getElem?_drop]
    have:Nat.succ x.lo+(m-(x.lo+1))=m:=by omega
    rw [this];exact g3
  .exact hD_ r h2 x hx
theorem bT_:∀(l:List SI) (i:Nat) (x:SI),l[i]? =some x->aG_ (l.take (i+1))=aG_ (l.take i)+(match x.kd with| .mem=>1|_=>0)
 |[],i,x,h=>by simp at h
 |y::r,0,x,h=>by
  simp at h;subst h
  simp only [List.take_succ_cons,List.take_zero,aG_]
  cases y.kd<;>rfl
 |y::r,i+1,x,h=>by
  have ih:=bT_ r i x (by simpa using h)
  simp only [List.take_succ_cons,aG_]
  rw [ih]
  cases y.kd<;>simp only [Nat.succ_eq_add_one]<;>omega
theorem fv_:∀(l:List SI) (i:Nat),aG_ (l.take i)<=aG_ l
 |[],i=>by simp
 |y::r,0=>by simp [aG_]
 |y::r,i+1=>by
  have ih:=fv_ r i
  simp only [List.take_succ_cons,aG_]
  cases y.kd<;>simp only [Nat.succ_eq_add_one]<;>omega
theorem gs_ (l:List SI) {i j:Nat} (h:i<=j):aG_ (l.take i)<=aG_ (l.take j):=by
 have:=fv_ (l.take j) i
 rwa [List.take_take,Nat.min_eq_left h]at this
def aR_ (l:List SI) (base j:Nat):Nat:=base+aG_ (l.take j)
theorem q7_ {l:List SI} {base i j:Nat} {x y:SI} (hx:l[i]? =some x) (hy:l[j]? =some y) (kx:x.kd=.mem) (ky:y.kd=.mem) (h:aR_ l base i=aR_ l base j):i=j:=by
 unfold aR_ at h
 have h1:=bT_ l i x hx
 have h2:=bT_ l j y hy
 rw [kx]at h1
 rw [ky]at h2
 simp only at h1 h2
 rcases Nat.lt_trichotomy i j with hlt|he|hgt
 .have:=gs_ l (show i+1<=j by omega)
  omega
 .exact he
 .have:=gs_ l (show j+1<=i by omega)
  omega
theorem PlanOk.bef_lt {ops:List Oper} {l:List SI} (hP:PlanOk ops l):∀(i:Nat) (x:SI) (j:Nat),l[i]? =some x->bit x.bef j=true->j<i:=by
 intro i
 induction i using Nat.strongRecOn with
 |_ i ih=>
  intro x j hx hb
  obtain ⟨e,he,hbe,hj⟩:=(hP.bef i x j hx).1 hb
  have hlt:=hP.lt i x e hx he hbe
  rcases hj with rfl|⟨y,hy,hj⟩
  .exact hlt
  .have:=ih e.on hlt y j hy hj
   omega
theorem ud_ {ops:List Oper} {l:List SI} (hP:PlanOk ops l) {i:Nat} {x:SI} (hx:l[i]? =some x):wAt ops (i+1)=wAt ops i+(match aL_ x.kd with|true=>1|false=>0):=by
 have hpl:(λj=>decide (j<i+1))=plus (λj=>decide (j<i)) i:=by
  funext j
  unfold plus
  by_cases e:j=i
  .subst e;simp
  .rw [if_neg e];simp;omega
 unfold wAt
 rw [hpl]
 cases hw:aL_ x.kd with
 |true=>
  have:=h4_ (S:=λj=>decide (j<i)) ops 0 i x.o (hP.op i x hx) (by rw [←hP.kd i x hx];exact hw) (by simp)
  rw [Nat.zero_add]at this
  exact this
 |false=>exact nH_ hP hx hw
end Go.Sx
