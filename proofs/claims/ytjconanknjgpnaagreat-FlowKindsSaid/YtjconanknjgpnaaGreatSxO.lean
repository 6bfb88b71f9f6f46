/-
  A region whose order is open: what its text says.
-/
import Derived.Test.YtjconanknjgpnaaGreatSxM
import Derived.Test.YtjconanknjgpnaaGreatSxN
import Derived.Orders
set_option linter.unusedVariables false
set_option linter.unusedSimpArgs false
namespace Go.Sx
theorem jS_ (m i:Nat):bit m i=m.testBit i:=by
 unfold bit
 have e:Nat.land (Nat.shiftRight m i) 1=(m>>>i)&&&1:=rfl
 rw [e,Nat.testBit]
 rw [Nat.and_comm]
 cases h:1&&&(m>>>i)with
 |zero=>rfl
 |succ n=>rfl
theorem nc_ (a b i:Nat):bit (Nat.lor a b) i=(bit a i||bit b i):=by
 rw [jS_,jS_,jS_]
 exact Nat.testBit_or a b i
theorem rZ_ (a i:Nat):bit (Nat.pow 2 a) i=decide (a=i):=by
 rw [jS_]
 exact Nat.testBit_two_pow
theorem pt_ (i:Nat):bit 0 i=false:=by rw [jS_];exact Nat.zero_testBit i
theorem ew_ (e:Edge):d8_ e=Region.binds .any e:=by
 unfold d8_
 cases e with
 |mk on g=>cases g<;>rfl
theorem nn_:∀(l:List Nat) (n:Nat),tf_ l n=l.getD n 0
 |[],n=>by simp [tf_]
 |a::r,0=>rfl
 |a::r,n+1=>by simp [tf_,nn_ r n]
theorem lP_ (bs:List Nat):∀(l:List Edge) (j:Nat),bit (ev_ bs l) j=true↔∃e∈l,d8_ e=true/\(e.on=j\/bit (tf_ bs e.on) j=true)
 |[],j=>by simp [ev_,pt_]
 |e::r,j=>by
  unfold ev_
  have ih:=lP_ bs r j
  split
  .rename_i hb
   rw [nc_,nc_,rZ_]
   simp only [Bool.or_eq_true,decide_eq_true_eq,ih,List.mem_cons,exists_eq_or_imp,hb,true_and]
  .rename_i hb
   simp only [ih,List.mem_cons,exists_eq_or_imp,hb,Bool.false_eq_true,false_and,false_or]
theorem ma_:∀(l:List Oper) (bs:List Nat),∃cs,uB_ l bs=bs++cs/\cs.length=l.length/\
  ∀k o,l[k]? =some o->∃b,(bs++cs)[bs.length+k]? =some b/\b=ev_ ((bs++cs).take (bs.length+k)) o.after.toList
 |[],bs=>⟨[],by simp [uB_],rfl,λk o h=>by simp at h⟩
 |o::l,bs=>by
  obtain ⟨cs,h1,h2,h3⟩:=ma_ l (bs++[ev_ bs o.after.toList])
  refine ⟨ev_ bs o.after.toList::cs,?_,by simp [h2],λk x hk=>?_⟩
  .unfold uB_;rw [h1];simp
  .have e:bs++ev_ bs o.after.toList::cs=(bs++[ev_ bs o.after.toList])++cs:=by simp
   cases k with
   |zero=>
    simp at hk;subst hk
    exact ⟨ev_ bs o.after.toList,by simp,by simp⟩
   |succ k=>
    obtain ⟨b,g1,g2⟩:=h3 k x (by simpa using hk)
    have el:(bs++[ev_ bs o.after.toList]).length+k=bs.length+(k+1):=by simp;omega
    rw [el]at g1 g2
    rw [e]
    exact ⟨b,g1,g2⟩
theorem dd_:∀(l:List Edge) (i:Nat),fN_ l i=true->∀e∈l,d8_ e=true->e.on<i
 |[],i,h,e,he,hb=>by simp at he
 |e'::r,i,h,e,he,hb=>by
  unfold fN_ at h
  rcases List.mem_cons.1 he with rfl|he
  .rw [hb]at h
   simp only at h
   have:=(a_ h).1
   simpa [Nat.blt_eq]using this
  .split at h
   .exact dd_ r i (a_ h).2 e he hb
   .exact dd_ r i h e he hb
theorem jV_:∀(l:List Oper) (k:Nat),okE l k=true->∀i o,l[i]? =some o->fN_ o.after.toList (k+i)=true
 |[],k,h,i,o,hi=>by simp at hi
 |a::r,k,h,i,o,hi=>by
  unfold okE at h
  obtain ⟨h1,h2⟩:=a_ h
  cases i with
  |zero=>simp at hi;subst hi;exact h1
  |succ i=>
   have:=jV_ r (Nat.succ k) h2 i o (by simpa using hi)
   have e:Nat.succ k+i=k+(i+1):=by omega
   rwa [e]at this
theorem pb_ (ops:List Oper) (bs:List Nat):∀(l:List Oper) (c:List Nat) (k:Nat),l.length=c.length->(sis ops bs l c k).length=l.length/\
  ∀i o b,l[i]? =some o->c[i]? =some b->(sis ops bs l c k)[i]? =some (SI.mk o b (bu_ o.op) (pT_ b ops 0) (pA_ (k+i) ops bs) (de_ ops o) (yv_ ops bs b (k+i) o))
 |[],c,k,h=>⟨rfl,λi o b hi=>by simp at hi⟩
 |a::r,[],k,h=>by simp at h
 |a::r,b::c,k,h=>by
  obtain ⟨h1,h2⟩:=pb_ ops bs r c (Nat.succ k) (by simpa using h)
  refine ⟨by simp [sis,h1],λi o b' hi hb=>?_⟩
  cases i with
  |zero=>simp at hi hb;subst hi;subst hb;simp [sis]
  |succ i=>
   have:=h2 i o b' (by simpa using hi) (by simpa using hb)
   have e:Nat.succ k+i=k+(i+1):=by omega
   rw [e]at this
   simpa [sis]using this
theorem iP_ (x:SI) (i:Nat):∀l:List SI,nb_ x i l=true->∀(j:Nat) (y:SI),l[j]? =some y->mQ_ x i y=true
 |[],h,j,y,hj=>by simp at hj
 |a::r,h,j,y,hj=>by
  unfold nb_ at h
  obtain ⟨h1,h2⟩:=a_ h
  cases j with
  |zero=>simp at hj;subst hj;exact h1
  |succ j=>exact iP_ x i r h2 j y (by simpa using hj)
theorem jJ_:∀(l:List SI) (k:Nat),rP_ l k=true->∀(i j:Nat) (x y:SI),i<j->l[i]? =some x->l[j]? =some y->mQ_ x (k+i) y=true
 |[],k,h,i,j,x,y,hij,hi,hj=>by simp at hi
 |a::r,k,h,i,j,x,y,hij,hi,hj=>by
  unfold rP_ at h
  obtain ⟨h1,h2⟩:=a_ h
  cases j with
  |zero=>omega
  |succ j=>
   cases i with
   |zero=>
    simp at hi;subst hi
    exact iP_ a k r h1 j y (by simpa using hj)
   |succ i=>
    have:=jJ_ r (Nat.succ k) h2 i j x y (by omega) (by simpa using hi) (by simpa using hj)
    have e:Nat.succ k+i=k+(i+1):=by omega
    rwa [e]at this
structure PlanOk (ops:List Oper) (l:List SI):Prop where
 len:l.length=ops.length
 op:∀(i:Nat) (x:SI),l[i]? =some x->ops[i]? =some x.o
 kd:∀(i:Nat) (x:SI),l[i]? =some x->x.kd=bu_ x.o.op
 rd:∀(i:Nat) (x:SI),l[i]? =some x->x.rd=de_ ops x.o
 lo:∀(i:Nat) (x:SI),l[i]? =some x->x.lo=pT_ x.bef ops 0
 hi:∀(i:Nat) (x:SI),l[i]? =some x->x.hi=pA_ i ops (l.map SI.bef)
 lt:∀(i:Nat) (x:SI) (e:Edge),l[i]? =some x->e∈x.o.after->Region.binds .any e=true->e.on<i
 bef:∀(i:Nat) (x:SI) (j:Nat),l[i]? =some x->(bit x.bef j=true↔∃e∈x.o.after,Region.binds .any e=true/\(e.on=j\/∃y:SI,l[e.on]? =some y/\bit y.bef j=true))
 pair:∀(i j:Nat) (x y:SI),i<j->l[i]? =some x->l[j]? =some y->g8_ x y=true\/(aL_ x.kd=true/\aL_ y.kd=true)->bit y.bef i=true
theorem nj_ {ops:List Oper} {l:List SI} {n:Nat} (h:qo_ ops=.mk l n):PlanOk ops l/\n=aG_ l:=by
 unfold qo_ at h
 split at h
 .rename_i hE
  dsimp only at h
  split at h
  .rename_i hA
   cases h
   obtain ⟨cs,h1,h2,h3⟩:=ma_ ops []
   rw [List.nil_append]at h1
   rw [h1]at hA⊢
   simp only [List.nil_append,List.length_nil,Nat.zero_add]at h3
   obtain ⟨s1,s2⟩:=pb_ ops cs ops cs 0 h2.symm
   have hx:∀(i:Nat) (x:SI),(sis ops cs ops cs 0)[i]? =some x->∃o b,ops[i]? =some o/\cs[i]? =some b/\x=SI.mk o b (bu_ o.op) (pT_ b ops 0) (pA_ i ops cs) (de_ ops o) (yv_ ops cs b i o):=by
    intro i x hi
    have hlt:i<ops.length:=by
     have:=(List.getElem?_eq_some_iff.1 hi).1
     omega
    refine ⟨ops[i],cs[i]'(by omega),by simp [hlt],by simp,?_⟩
    have:=s2 i ops[i] (cs[i]'(by omega)) (by simp [hlt]) (by simp)
    rw [this]at hi
    cases hi
    rw [Nat.zero_add]
   have hmap:(sis ops cs ops cs 0).map SI.bef=cs:=by
    apply List.ext_getElem?
    intro i
    rw [List.getElem?_map]
    cases hi:(sis ops cs ops cs 0)[i]? with
    |none=>
     have:(sis ops cs ops cs 0).length<=i:=List.getElem?_eq_none_iff.1 hi
     have:cs.length<=i:=by omega
     rw [List.getElem?_eq_none this];rfl
    |some x=>
     obtain ⟨o,b,g1,g2,rfl⟩:=hx i x hi
     rw [g2];rfl
   refine ⟨{ len:=s1,op:=?_,kd:=?_,rd:=?_,lo:=?_,hi:=?_,lt:=?_,bef:=?_,pair:=?_ },rfl⟩
   .intro i x hi;obtain ⟨o,b,g1,g2,rfl⟩:=hx i x hi;exact g1
   .intro i x hi;obtain ⟨o,b,g1,g2,rfl⟩:=hx i x hi;rfl
   .intro i x hi;obtain ⟨o,b,g1,g2,rfl⟩:=hx i x hi;rfl
   .intro i x hi;obtain ⟨o,b,g1,g2,rfl⟩:=hx i x hi;rfl
   .intro i x hi;obtain ⟨o,b,g1,g2,rfl⟩:=hx i x hi;rw [hmap]
   .intro i x e hi he hb
    obtain ⟨o,b,g1,g2,rfl⟩:=hx i x hi
    have:=jV_ ops 0 hE i o g1
    rw [Nat.zero_add]at this
    exact dd_ _ _ this e (by simpa using he) (by rw [ew_];exact hb)
   .intro i x j hi
    obtain ⟨o,b,g1,g2,rfl⟩:=hx i x hi
    obtain ⟨b',g3,g4⟩:=h3 i o g1
    rw [g2]at g3;cases g3
    have hlt:∀e∈o.after,d8_ e=true->e.on<i:=λe he hb=>by
     have:=jV_ ops 0 hE i o g1
     rw [Nat.zero_add]at this
     exact dd_ _ _ this e (by simpa using he) hb
    have hil:i<ops.length:=(List.getElem?_eq_some_iff.1 g1).1
    simp only
    rw [g4,lP_]
    constructor
    .rintro ⟨e,he,hb,hj⟩
     have he':e∈o.after:=by simpa using he
     refine ⟨e,he',by rw [←ew_];exact hb,hj.imp id λhj=>?_⟩
     have hle:=hlt e he' hb
     have hol:e.on<ops.length:=by omega
     refine ⟨_,s2 e.on ops[e.on] (cs[e.on]'(by omega)) (by simp [hol]) (by simp),?_⟩
     rw [nn_]at hj
     simpa [List.getElem?_take,hle,List.getElem?_eq_getElem (show e.on<cs.length by omega)]using hj
    .rintro ⟨e,he,hb,hj⟩
     have hb':d8_ e=true:=by rw [ew_];exact hb
     refine ⟨e,by simpa using he,hb',hj.imp id λhj=>?_⟩
     obtain ⟨y,hy,hj⟩:=hj
     obtain ⟨o',b',g5,g6,rfl⟩:=hx _ _ hy
     have hle:=hlt e he hb'
     rw [nn_]
     have:=List.getElem?_eq_some_iff.1 g6
     obtain ⟨q1,q2⟩:=this
     simp only at hj
     simp [List.getElem?_take,hle,List.getElem?_eq_getElem q1,q2,hj]
   .intro i j x y hij hi hj hc
    have:=jJ_ _ 0 hA i j x y hij hi hj
    rw [Nat.zero_add]at this
    unfold mQ_ at this
    have hc':(g8_ x y||(aL_ x.kd&&aL_ y.kd))=true:=by
     rcases hc with hc|⟨c1,c2⟩
     .simp [hc]
     .simp [c1,c2]
    rw [hc']at this
    exact this
  .cases h
 .cases h
end Go.Sx
