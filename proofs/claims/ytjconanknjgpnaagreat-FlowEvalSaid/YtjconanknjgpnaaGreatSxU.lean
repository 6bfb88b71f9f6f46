/-
  A region whose order is open: one run in the order of the text tells them all.
-/
import Derived.Test.YtjconanknjgpnaaGreatSxT
set_option linter.unusedVariables false
set_option linter.unusedSimpArgs false
namespace Go.Sx
theorem nthH_eq:∀(l:List AHeap) (n:Nat),nthH l n=l[n]?
 |[],n=>by cases n<;>rfl
 |a::r,0=>rfl
 |a::r,n+1=>by simp [nthH,nthH_eq r n]
theorem snocH_eq (x:AHeap):∀l:List AHeap,snocH l x=l++[x]
 |[]=>rfl
 |a::r=>by simp [snocH,snocH_eq x r]
theorem lastH_eq:∀l:List AHeap,lastH l=l[l.length-1]?
 |[]=>rfl
 |[a]=>rfl
 |a::b::r=>by
  have ih:=lastH_eq (b::r)
  unfold lastH
  simp only
  rw [ih]
  simp
theorem dropH_eq:∀(n:Nat) (l:List AHeap),dropH n l=l.drop n
 |0,l=>rfl
 |n+1,[]=>rfl
 |n+1,a::r=>by simp [dropH,dropH_eq n r]
mutual
theorem beqA_eq:∀{a b:AV},beqA a b=true->a=b
 | .bool a,.bool b,h=>by simp [beqA]at h;rw [h]
 | .int k a,.int k' b,h=>by
   simp only [beqA]at h
   obtain ⟨h1,h2⟩:=and_split h
   rw [eqI_eq]at h2
   rw [kix_inj h1,of_decide_eq_true (p:=a=b) (by simpa using h2)]
 | .flt k a,.flt k' b,h=>by
   simp only [beqA]at h
   obtain ⟨h1,h2⟩:=and_split h
   rw [of_decide_eq_true h1,Nat.eq_of_beq_eq_true h2]
 | .nan k,.nan k',h=>by simp only [beqA]at h;rw [of_decide_eq_true h]
 | .str a,.str b,h=>by
   simp only [beqA,eqB_eq]at h
   rw [eq_of_beq h]
 | .nptr,.nptr,h=>rfl
 | .vptr a,.vptr b,h=>by simp only [beqA]at h;rw [beqL_eq h]
 | .vsl a b c,.vsl a' b' c',h=>by
   simp only [beqA]at h
   obtain ⟨h,h3⟩:=and_split h
   obtain ⟨h1,h2⟩:=and_split h
   rw [Nat.eq_of_beq_eq_true h1,Nat.eq_of_beq_eq_true h2,beqL_eq h3]
 | .ptr a b,.ptr c d,h=>by
   simp only [beqA]at h
   obtain ⟨h1,h2⟩:=and_split h
   rw [Nat.eq_of_beq_eq_true h1,Nat.eq_of_beq_eq_true h2]
 | .nsl,.nsl,h=>rfl
 | .sl a b c d e,.sl a' b' c' d' e',h=>by
   simp only [beqA]at h
   obtain ⟨h,h5⟩:=and_split h
   obtain ⟨h,h4⟩:=and_split h
   obtain ⟨h,h3⟩:=and_split h
   obtain ⟨h1,h2⟩:=and_split h
   rw [Nat.eq_of_beq_eq_true h1,Nat.eq_of_beq_eq_true h2,Nat.eq_of_beq_eq_true h3,Nat.eq_of_beq_eq_true h4,eq_of_beq h5]
 | .nmap,.nmap,h=>rfl
 | .map a,.map b,h=>by simp only [beqA]at h;rw [Nat.eq_of_beq_eq_true h]
 | .nfn,.nfn,h=>rfl
 | .fn f a,.fn g b,h=>by
   simp only [beqA]at h
   obtain ⟨h1,h2⟩:=and_split h
   rw [Nat.eq_of_beq_eq_true h1,beqL_eq h2]
 | .nif,.nif,h=>rfl
 | .iface t a,.iface u b,h=>by
   simp only [beqA]at h
   obtain ⟨h1,h2⟩:=and_split h
   rw [Nat.eq_of_beq_eq_true h1,beqA_eq h2]
 | .agg a,.agg b,h=>by simp only [beqA]at h;rw [beqL_eq h]
 | .tup a,.tup b,h=>by simp only [beqA]at h;rw [beqL_eq h]
 | .sym a,.sym b,h=>by simp only [beqA]at h;rw [Nat.eq_of_beq_eq_true h]
 | .slx a b c,.slx a' b' c',h=>by
   simp only [beqA]at h
   obtain ⟨h1,h⟩:=and_split h
   obtain ⟨h2,h3⟩:=and_split h
   rw [Nat.eq_of_beq_eq_true h1,Nat.eq_of_beq_eq_true h2,Nat.eq_of_beq_eq_true h3]
 | .ptx a b c d,.ptx a' b' c' d',h=>by
   simp only [beqA]at h
   obtain ⟨h1,h⟩:=and_split h
   obtain ⟨h2,h⟩:=and_split h
   obtain ⟨h3,h4⟩:=and_split h
   rw [Nat.eq_of_beq_eq_true h1,Nat.eq_of_beq_eq_true h2,Nat.eq_of_beq_eq_true h3,Nat.eq_of_beq_eq_true h4]
theorem beqL_eq:∀{a b:List AV},beqL a b=true->a=b
 |[],[],h=>rfl
 |a::r,b::s,h=>by
  simp only [beqL]at h
  obtain ⟨h1,h2⟩:=and_split h
  rw [beqA_eq h1,beqL_eq h2]
 |[],_::_,h=>by simp [beqL]at h
 |_::_,[],h=>by simp [beqL]at h
end
theorem tget_topq (t:Nat):tget topq t=.opq:=by
 rw [tget_at];unfold topq;rw [Q8.at_all,Q8.at_all,Q8.at_all]
theorem keepT_get (T:Tm):∀(rd:List Nat) (R:Tm),(∀t,t<512->tget R t=.opq\/(t∈rd/\tget R t=tget T t)\/tget R t=tget T t)->∀t,t<512->
  tget (keepT T rd R) t=.opq\/tget (keepT T rd R) t=tget T t
 |[],R,h,t,ht=>by
  rcases h t ht with h|⟨_,h⟩|h
  ·exact .inl h
  ·exact .inr h
  ·exact .inr h
 |d::r,R,h,t,ht=>by
  unfold keepT
  split
  ·rename_i hb
   have hd:d<512:=by simpa [Nat.blt_eq]using hb
   refine keepT_get T r _ (λt ht=>?_) t ht
   by_cases e:d=t
   ·subst e;rw [tget_tset_same R hd];exact .inr (.inr rfl)
   ·rw [tget_tset_ne R ht hd e]
    rcases h t ht with h|⟨_,h⟩|h
    ·exact .inl h
    ·exact .inr (.inr h)
    ·exact .inr (.inr h)
  ·refine keepT_get T r _ (λt ht=>?_) t ht
   rcases h t ht with h|⟨_,h⟩|h
   ·exact .inl h
   ·exact .inr (.inr h)
   ·exact .inr (.inr h)
theorem keepT_not (T:Tm):∀(rd:List Nat) (R:Tm) (t:Nat),t<512->t∉rd->tget (keepT T rd R) t=tget R t
 |[],R,t,ht,hn=>rfl
 |d::r,R,t,ht,hn=>by
  unfold keepT
  have hne:d≠t:=λe=>hn (by rw [e];exact List.mem_cons_self ..)
  have hr:t∉r:=λh=>hn (List.mem_cons_of_mem _ h)
  split
  ·rename_i hb
   have hd:d<512:=by simpa [Nat.blt_eq]using hb
   rw [keepT_not T r _ t ht hr,tget_tset_ne R ht hd hne]
  ·exact keepT_not T r _ t ht hr
theorem keepT_ok (T:Tm) (rd:List Nat) (t:Nat) (ht:t<512):tget (keepT T rd topq) t=.opq\/(t∈rd/\tget (keepT T rd topq) t=tget T t):=by
 by_cases h:t∈rd
 ·rcases keepT_get T rd topq (λt ht=>.inl (tget_topq t)) t ht with e|e
  ·exact .inl e
  ·exact .inr ⟨h,e⟩
 ·left;rw [keepT_not T rd topq t ht h,tget_topq]
theorem putC_get {N:Nat} {dst:Option Nat} {u:Tm->AV->Tm} (hu:putC N dst=.mk u) (T:Tm) (a:AV) {t:Nat} (ht:t<512):
  (dst=some t->tget (u T a) t=a)/\(dst≠some t->tget (u T a) t=tget T t):=by
 unfold putC at hu
 split at hu
 ·cases hu;exact ⟨λh=>(nomatch h),λ_=>rfl⟩
 ·rename_i d
  split at hu
  ·rename_i hb
   cases hu
   have hd:d<512:=by simpa [Nat.blt_eq]using (and_split hb).2
   refine ⟨λh=>?_,λh=>?_⟩
   ·cases h;exact tget_tset_same T hd a
   ·exact tget_tset_ne T ht hd (λe=>h (by rw [e])) a
  ·cases hu
theorem blur_get {N:Nat}:∀(l:List SI) (T T':Tm),blur N l T=some T'->∀t,t<512->tget T' t=.opq\/(tget T' t=tget T t/\∀(j:Nat) (y:SI),l[j]? =some y->y.o.dst≠some t)
 |[],T,T',h,t,ht=>by cases h;exact .inr ⟨rfl,λj y hj=>by simp at hj⟩
 |x::r,T,T',h,t,ht=>by
  unfold blur at h
  split at h
  ·rename_i u hu
   have ih:=blur_get r _ _ h t ht
   obtain ⟨p1,p2⟩:=putC_get hu T .opq ht
   rcases ih with h|⟨h1,h2⟩
   ·exact .inl h
   ·by_cases e:x.o.dst=some t
    ·left;rw [h1,p1 e]
    ·right
     refine ⟨by rw [h1,p2 e],λj y hj=>?_⟩
     cases j with
     |zero=>simp at hj;subst hj;exact e
     |succ j=>exact h2 j y (by simpa using hj)
  ·cases h
theorem absorb_ok (bef:Nat):∀(fl:List Fl) (G:AHeap),(∀f∈fl,f.id<top)->(absorb bef fl G).next=G.next/\(absorb bef fl G).hi=G.hi/\
  ∀id k,(absorb bef fl G).get id=some k->G.get id=some k\/∃f∈fl,bit bef f.op=true/\f.id=id/\f.b=k
 |[],G,_=>⟨rfl,rfl,λid k h=>.inl h⟩
 |f::r,G,ht=>by
  unfold absorb
  split
  ·rename_i hb
   obtain ⟨h1,h2,h3⟩:=absorb_ok bef r (G.set f.id f.b) λg hg=>ht g (List.mem_cons_of_mem _ hg)
   refine ⟨h1,h2,λid k hk=>?_⟩
   rcases h3 id k hk with h|⟨g,hg,h⟩
   ·by_cases e:f.id=id
    ·subst e
     rw [AHeap.get_set_same G (ht f (List.mem_cons_self ..))]at h
     cases h
     exact .inr ⟨f,List.mem_cons_self ..,hb,rfl,rfl⟩
    ·rw [AHeap.get_set_ne G (ht f (List.mem_cons_self ..)) e]at h
     exact .inl h
   ·exact .inr ⟨g,List.mem_cons_of_mem _ hg,h⟩
  ·obtain ⟨h1,h2,h3⟩:=absorb_ok bef r G λg hg=>ht g (List.mem_cons_of_mem _ hg)
   refine ⟨h1,h2,λid k hk=>?_⟩
   rcases h3 id k hk with h|⟨g,hg,h⟩
   ·exact .inl h
   ·exact .inr ⟨g,List.mem_cons_of_mem _ hg,h⟩
theorem remain_mem (bef:Nat):∀(fl:List Fl) (f:Fl),f∈remain bef fl->f∈fl/\bit bef f.op=false
 |[],f,h=>by simp [remain]at h
 |g::r,f,h=>by
  unfold remain at h
  split at h
  ·obtain ⟨h1,h2⟩:=remain_mem bef r f h
   exact ⟨List.mem_cons_of_mem _ h1,h2⟩
  ·rename_i hb
   rcases List.mem_cons.1 h with rfl|h
   ·exact ⟨List.mem_cons_self ..,by simpa using hb⟩
   ·obtain ⟨h1,h2⟩:=remain_mem bef r f h
    exact ⟨List.mem_cons_of_mem _ h1,h2⟩
theorem takeIn_ok:∀(fl:List Fl) (G:AHeap),(∀f∈fl,f.id<top)->(takeIn fl G).next=G.next/\(takeIn fl G).hi=G.hi/\
  ∀id k,(takeIn fl G).get id=some k->G.get id=some k\/∃f∈fl,f.id=id/\f.b=k
 |[],G,_=>⟨rfl,rfl,λid k h=>.inl h⟩
 |f::r,G,ht=>by
  unfold takeIn
  obtain ⟨h1,h2,h3⟩:=takeIn_ok r (G.set f.id f.b) λg hg=>ht g (List.mem_cons_of_mem _ hg)
  refine ⟨h1,h2,λid k hk=>?_⟩
  rcases h3 id k hk with h|⟨g,hg,h⟩
  ·by_cases e:f.id=id
   ·subst e
    rw [AHeap.get_set_same G (ht f (List.mem_cons_self ..))]at h
    cases h
    exact .inr ⟨f,List.mem_cons_self ..,rfl,rfl⟩
   ·rw [AHeap.get_set_ne G (ht f (List.mem_cons_self ..)) e]at h
    exact .inl h
  ·exact .inr ⟨g,List.mem_cons_of_mem _ hg,h⟩
theorem rereads_ok {c:OC} {T:Tm} {a:AV}:∀(n:Nat) (l:List AHeap),rereads c T a n l=true->∀m G,m<n->l[m]? =some G->readV c T G=some a
 |0,l,h,m,G,hm,hg=>by omega
 |n+1,[],h,m,G,hm,hg=>by simp at hg
 |n+1,H::r,h,m,G,hm,hg=>by
  unfold rereads at h
  split at h
  ·rename_i a' ha
   obtain ⟨h1,h2⟩:=and_split h
   cases m with
   |zero=>simp at hg;subst hg;rw [ha,beqA_eq h1]
   |succ m=>exact rereads_ok n r h2 m G (by omega) (by simpa using hg)
  ·cases h
theorem rereadAll_ok [Gl] {P:Program} {Gs:List AHeap}:∀(rd:List Rd),rereadAll P Gs rd=true->∀x∈rd,∀m G,x.lo<m->m<=x.hi->Gs[m]? =some G->readV (stage P x.o) x.T G=some x.a
 |[],h,x,hx=>by simp at hx
 |y::r,h,x,hx=>by
  unfold rereadAll at h
  obtain ⟨h1,h2⟩:=and_split h
  rcases List.mem_cons.1 hx with rfl|hx
  ·intro m G g1 g2 g3
   refine rereads_ok _ _ h1 (m-(x.lo+1)) G ?_ ?_
   ·show _<x.hi-x.lo;omega
   ·rw [dropH_eq,List.getElem?_drop]
    have:Nat.succ x.lo+(m-(x.lo+1))=m:=by omega
    rw [this];exact g3
  ·exact rereadAll_ok r h2 x hx
theorem countMem_take:∀(l:List SI) (i:Nat) (x:SI),l[i]? =some x->countMem (l.take (i+1))=countMem (l.take i)+(match x.kd with| .mem=>1|_=>0)
 |[],i,x,h=>by simp at h
 |y::r,0,x,h=>by
  simp at h;subst h
  simp only [List.take_succ_cons,List.take_zero,countMem]
  cases y.kd<;>rfl
 |y::r,i+1,x,h=>by
  have ih:=countMem_take r i x (by simpa using h)
  simp only [List.take_succ_cons,countMem]
  rw [ih]
  cases y.kd<;>simp only [Nat.succ_eq_add_one]<;>omega
theorem countMem_le:∀(l:List SI) (i:Nat),countMem (l.take i)<=countMem l
 |[],i=>by simp
 |y::r,0=>by simp [countMem]
 |y::r,i+1=>by
  have ih:=countMem_le r i
  simp only [List.take_succ_cons,countMem]
  cases y.kd<;>simp only [Nat.succ_eq_add_one]<;>omega
theorem countMem_mono (l:List SI) {i j:Nat} (h:i<=j):countMem (l.take i)<=countMem (l.take j):=by
 have:=countMem_le (l.take j) i
 rwa [List.take_take,Nat.min_eq_left h]at this
def idFrom (l:List SI) (base j:Nat):Nat:=base+countMem (l.take j)
theorem idFrom_inj {l:List SI} {base i j:Nat} {x y:SI} (hx:l[i]? =some x) (hy:l[j]? =some y) (kx:x.kd=.mem) (ky:y.kd=.mem) (h:idFrom l base i=idFrom l base j):i=j:=by
 unfold idFrom at h
 have h1:=countMem_take l i x hx
 have h2:=countMem_take l j y hy
 rw [kx]at h1
 rw [ky]at h2
 simp only at h1 h2
 rcases Nat.lt_trichotomy i j with hlt|he|hgt
 ·have:=countMem_mono l (show i+1<=j by omega)
  omega
 ·exact he
 ·have:=countMem_mono l (show j+1<=i by omega)
  omega
theorem PlanOk.bef_lt {ops:List Oper} {l:List SI} (hP:PlanOk ops l):∀(i:Nat) (x:SI) (j:Nat),l[i]? =some x->bit x.bef j=true->j<i:=by
 intro i
 induction i using Nat.strongRecOn with
 |_ i ih=>
  intro x j hx hb
  obtain ⟨e,he,hbe,hj⟩:=(hP.bef i x j hx).1 hb
  have hlt:=hP.lt i x e hx he hbe
  rcases hj with rfl|⟨y,hy,hj⟩
  ·exact hlt
  ·have:=ih e.on hlt y j hy hj
   omega
theorem wAt_succ {ops:List Oper} {l:List SI} (hP:PlanOk ops l) {i:Nat} {x:SI} (hx:l[i]? =some x):wAt ops (i+1)=wAt ops i+(match isWr x.kd with|true=>1|false=>0):=by
 have hpl:(λj=>decide (j<i+1))=plus (λj=>decide (j<i)) i:=by
  funext j
  unfold plus
  by_cases e:j=i
  ·subst e;simp
  ·rw [if_neg e];simp;omega
 unfold wAt
 rw [hpl]
 cases hw:isWr x.kd with
 |true=>
  have:=cntB_plus (S:=λj=>decide (j<i)) ops 0 i x.o (hP.op i x hx) (by rw [←hP.kd i x hx];exact hw) (by simp)
  rw [Nat.zero_add]at this
  exact this
 |false=>exact cnt_no hP hx hw
end Go.Sx
