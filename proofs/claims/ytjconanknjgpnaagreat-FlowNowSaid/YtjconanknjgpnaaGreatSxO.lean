/-
  A region whose order is open: what its text says.
-/
import Derived.Test.YtjconanknjgpnaaGreatSxM
import Derived.Test.YtjconanknjgpnaaGreatSxN
import Derived.Orders
set_option linter.unusedVariables false
set_option linter.unusedSimpArgs false
namespace Go.Sx
theorem ip_ (m i:Nat):bit m i=m.testBit i:=by
 unfold bit
 have e:Nat.land (Nat.shiftRight m i) 1=(m>>>i)&&&1:=rfl
 rw [e,Nat.testBit]
 rw [Nat.and_comm]
 cases h:1&&&(m>>>i)with
 |zero=>rfl
 |succ n=>rfl
theorem kU_ (a b i:Nat):bit (Nat.lor a b) i=(bit a i||bit b i):=by
 rw [ip_,ip_,ip_]
 exact Nat.testBit_or a b i
theorem oD_ (a i:Nat):bit (Nat.pow 2 a) i=decide (a=i):=by
 rw [ip_]
 exact Nat.testBit_two_pow
theorem lY_ (i:Nat):bit 0 i=false:=by rw [ip_];exact Nat.zero_testBit i
theorem dN_ (e:Edge):dE_ e=Region.binds .any e:=by
 unfold dE_
 cases e with
 |mk on g=>cases g<;>rfl
theorem lq_:∀(l:List Nat) (n:Nat),qd_ l n=l.getD n 0
 |[],n=>by simp [qd_]
 |a::r,0=>rfl
 |a::r,n+1=>by simp [qd_,lq_ r n]
theorem jW_ (bs:List Nat):∀(l:List Edge) (j:Nat),bit (dL_ bs l) j=true↔∃e∈l,dE_ e=true/\(e.on=j\/bit (qd_ bs e.on) j=true)
 |[],j=>by simp [dL_,lY_]
 |e::r,j=>by
  unfold dL_
  have ih:=jW_ bs r j
  split
  .rename_i hb
   rw [kU_,kU_,oD_]
   simp only [Bool.or_eq_true,decide_eq_true_eq,ih,List.mem_cons,exists_eq_or_imp,hb,true_and]
  .rename_i hb
   simp only [ih,List.mem_cons,exists_eq_or_imp,hb,Bool.false_eq_true,false_and,false_or]
theorem jX_:∀(l:List Oper) (bs:List Nat),∃cs,qJ_ l bs=bs++cs/\cs.length=l.length/\
  ∀k o,l[k]? =some o->∃b,(bs++cs)[bs.length+k]? =some b/\b=dL_ ((bs++cs).take (bs.length+k)) o.after.toList
 |[],bs=>⟨[],by simp [qJ_],rfl,λk o h=>by simp at h⟩
 |o::l,bs=>by
  obtain ⟨cs,h1,h2,h3⟩:=jX_ l (bs++[dL_ bs o.after.toList])
  refine ⟨dL_ bs o.after.toList::cs,?_,by simp [h2],λk x hk=>?_⟩
  .unfold qJ_;rw [h1];simp
  .have e:bs++dL_ bs o.after.toList::cs=(bs++[dL_ bs o.after.toList])++cs:=by simp
   cases k with
   |zero=>
    simp at hk;subst hk
    exact ⟨dL_ bs o.after.toList,by simp,by simp⟩
   |succ k=>
    obtain ⟨b,g1,g2⟩:=h3 k x (by simpa using hk)
    have el:(bs++[dL_ bs o.after.toList]).length+k=bs.length+(k+1):=by simp;omega
    rw [el]at g1 g2
    rw [e]
    exact ⟨b,g1,g2⟩
theorem cY_:∀(l:List Edge) (i:Nat),fm_ l i=true->∀e∈l,dE_ e=true->e.on<i
 |[],i,h,e,he,hb=>by simp at he
 |e'::r,i,h,e,he,hb=>by
  unfold fm_ at h
  rcases List.mem_cons.1 he with rfl|he
  .rw [hb]at h
   simp only at h
   have:=(aa_ h).1
   simpa [Nat.blt_eq]using this
  .split at h
   .exact cY_ r i (aa_ h).2 e he hb
   .exact cY_ r i h e he hb
theorem i1_:∀(l:List Oper) (k:Nat),okE l k=true->∀i o,l[i]? =some o->fm_ o.after.toList (k+i)=true
 |[],k,h,i,o,hi=>by simp at hi
 |a::r,k,h,i,o,hi=>by
  unfold okE at h
  obtain ⟨h1,h2⟩:=aa_ h
  cases i with
  |zero=>simp at hi;subst hi;exact h1
  |succ i=>
   have:=i1_ r (Nat.succ k) h2 i o (by simpa using hi)
   have e:Nat.succ k+i=k+(i+1):=by omega
   rwa [e]at this
theorem nc_ (ops:List Oper) (bs:List Nat):∀(l:List Oper) (c:List Nat) (k:Nat),l.length=c.length->(sis ops bs l c k).length=l.length/\
  ∀i o b,l[i]? =some o->c[i]? =some b->(sis ops bs l c k)[i]? =some (SI.mk o b (bI_ o.op) (mF_ b ops 0) (mx_ (k+i) ops bs) (c0_ ops o) (tW_ ops bs b (k+i) o))
 |[],c,k,h=>⟨rfl,λi o b hi=>by simp at hi⟩
 |a::r,[],k,h=>by simp at h
 |a::r,b::c,k,h=>by
  obtain ⟨h1,h2⟩:=nc_ ops bs r c (Nat.succ k) (by simpa using h)
  refine ⟨by simp [sis,h1],λi o b' hi hb=>?_⟩
  cases i with
  |zero=>simp at hi hb;subst hi;subst hb;simp [sis]
  |succ i=>
   have:=h2 i o b' (by simpa using hi) (by simpa using hb)
   have e:Nat.succ k+i=k+(i+1):=by omega
   rw [e]at this
   simpa [sis]using this
theorem hI_ (x:SI) (i:Nat):∀l:List SI,lu_ x i l=true->∀(j:Nat) (y:SI),l[j]? =some y->ls_ x i y=true
 |[],h,j,y,hj=>by simp at hj
 |a::r,h,j,y,hj=>by
  unfold lu_ at h
  obtain ⟨h1,h2⟩:=aa_ h
  cases j with
  |zero=>simp at hj;subst hj;exact h1
  |succ j=>exact hI_ x i r h2 j y (by simpa using hj)
theorem i0_:∀(l:List SI) (k:Nat),pd_ l k=true->∀(i j:Nat) (x y:SI),i<j->l[i]? =some x->l[j]? =some y->ls_ x (k+i) y=true
 |[],k,h,i,j,x,y,hij,hi,hj=>by simp at hi
 |a::r,k,h,i,j,x,y,hij,hi,hj=>by
  unfold pd_ at h
  obtain ⟨h1,h2⟩:=aa_ h
  cases j with
  |zero=>omega
  |succ j=>
   cases i with
   |zero=>
    simp at hi;subst hi
    exact hI_ a k r h1 j y (by simpa using hj)
   |succ i=>
    have:=i0_ r (Nat.succ k) h2 i j x y (by omega) (by simpa using hi) (by simpa using hj)
    have e:Nat.succ k+i=k+(i+1):=by omega
    rwa [e]at this
structure PlanOk (ops:List Oper) (l:List SI):Prop where
 len:l.length=ops.length
 op:∀(i:Nat) (x:SI),l[i]? =some x->ops[i]? =some x.o
 kd:∀(i:Nat) (x:SI),l[i]? =some x->x.kd=bI_ x.o.op
 rd:∀(i:Nat) (x:SI),l[i]? =some x->x.rd=c0_ ops x.o
 lo:∀(i:Nat) (x:SI),l[i]? =some x->x.lo=mF_ x.bef ops 0
 hi:∀(i:Nat) (x:SI),l[i]? =some x->x.hi=mx_ i ops (l.map SI.bef)
 lt:∀(i:Nat) (x:SI) (e:Edge),l[i]? =some x->e∈x.o.after->Region.binds .any e=true->e.on<i
 bef:∀(i:Nat) (x:SI) (j:Nat),l[i]? =some x->(bit x.bef j=true↔∃e∈x.o.after,Region.binds .any e=true/\(e.on=j\/∃y:SI,l[e.on]? =some y/\bit y.bef j=true))
 pair:∀(i j:Nat) (x y:SI),i<j->l[i]? =some x->l[j]? =some y->f2_ x y=true\/(a5_ x.kd=true/\a5_ y.kd=true)->bit y.bef i=true
theorem lx_ {ops:List Oper} {l:List SI} {n:Nat} (h:of_ ops=.mk l n):PlanOk ops l/\n=a1_ l:=by
 unfold of_ at h
 split at h
 .rename_i hE
  dsimp only at h
  split at h
  .rename_i hA
   cases h
   obtain ⟨cs,h1,h2,h3⟩:=jX_ ops []
   rw [List.nil_append]at h1
   rw [h1]at hA⊢
   simp only [List.nil_append,List.length_nil,Nat.zero_add]at h3
   obtain ⟨s1,s2⟩:=nc_ ops cs ops cs 0 h2.symm
   have hx:∀(i:Nat) (x:SI),(sis ops cs ops cs 0)[i]? =some x->∃o b,ops[i]? =some o/\cs[i]? =some b/\x=SI.mk o b (bI_ o.op) (mF_ b ops 0) (mx_ i ops cs) (c0_ ops o) (tW_ ops cs b i o):=by
    intro i x hi
    have hlt:i<ops.length:=by
     have:=(List.getElem?_eq_some_iff.1 hi).1
     omega
    refine ⟨ops[i],cs[i]'(by omega),by simp [hlt],by simp,?_⟩
    have:=s2 i ops[i] (cs[i]'(by omega)) (by simp [hlt]) (by simp)
    rw [this]at hi
    cases hi
    rw [Nat.zero_add]
   have hmap:(sis ops cs ops cs 0).map SI.bef=cs:=by
    apply List.ext_getElem?
    intro i
    rw [List.getElem?_map]
    cases hi:(sis ops cs ops cs 0)[i]? with
    |none=>
     have:(sis ops cs ops cs 0).length<=i:=List.getElem?_eq_none_iff.1 hi
     have:cs.length<=i:=by omega
     rw [List.getElem?_eq_none this];rfl
    |some x=>
     obtain ⟨o,b,g1,g2,rfl⟩:=hx i x hi
     rw [g2];rfl
   refine ⟨{ len:=s1,op:=?_,kd:=?_,rd:=?_,lo:=?_,hi:=?_,lt:=?_,bef:=?_,pair:=?_ },rfl⟩
   .intro i x hi;obtain ⟨o,b,g1,g2,rfl⟩:=hx i x hi;exact g1
   .intro i x hi;obtain ⟨o,b,g1,g2,rfl⟩:=hx i x hi;rfl
   .intro i x hi;obtain ⟨o,b,g1,g2,rfl⟩:=hx i x hi;rfl
   .intro i x hi;obtain ⟨o,b,g1,g2,rfl⟩:=hx i x hi;rfl
   .intro i x hi;obtain ⟨o,b,g1,g2,rfl⟩:=hx i x hi;rw [hmap]
   .intro i x e hi he hb
    obtain ⟨o,b,g1,g2,rfl⟩:=hx i x hi
    have:=i1_ ops 0 hE i o g1
    rw [Nat.zero_add]at this
    exact cY_ _ _ this e (by simpa using he) (by rw [dN_];exact hb)
   .intro i x j hi
    obtain ⟨o,b,g1,g2,rfl⟩:=hx i x hi
    obtain ⟨b',g3,g4⟩:=h3 i o g1
    rw [g2]at g3;cases g3
    have hlt:∀e∈o.after,dE_ e=true->e.on<i:=λe he hb=>by
     have:=i1_ ops 0 hE i o g1
     rw [Nat.zero_add]at this
     exact cY_ _ _ this e (by simpa using he) hb
    have hil:i<ops.length:=(List.getElem?_eq_some_iff.1 g1).1
    simp only
    rw [g4,jW_]
    constructor
    .rintro ⟨e,he,hb,hj⟩
     have he':e∈o.after:=by simpa using he
     refine ⟨e,he',by rw [←dN_];exact hb,hj.imp id λhj=>?_⟩
     have hle:=hlt e he' hb
     have hol:e.on<ops.length:=by omega
     refine ⟨_,s2 e.on ops[e.on] (cs[e.on]'(by omega)) (by simp [hol]) (by simp),?_⟩
     rw [lq_]at hj
     simpa [List.getElem?_take,hle,List.getElem?_eq_getElem (show e.on<cs.length by omega)]using hj
    .rintro ⟨e,he,hb,hj⟩
     have hb':dE_ e=true:=by rw [dN_];exact hb
     refine ⟨e,by simpa using he,hb',hj.imp id λhj=>?_⟩
     obtain ⟨y,hy,hj⟩:=hj
     obtain ⟨o',b',g5,g6,rfl⟩:=hx _ _ hy
     have hle:=hlt e he hb'
     rw [lq_]
     have:=List.getElem?_eq_some_iff.1 g6
     obtain ⟨q1,q2⟩:=this
     simp only at hj
     simp [List.getElem?_take,hle,List.getElem?_eq_getElem q1,q2,hj]
   .intro i j x y hij hi hj hc
    have:=i0_ _ 0 hA i j x y hij hi hj
    rw [Nat.zero_add]at this
    unfold ls_ at this
    have hc':(f2_ x y||(a5_ x.kd&&a5_ y.kd))=true:=by
     rcases hc with hc|⟨c1,c2⟩
     .simp [hc]
     .simp [c1,c2]
    rw [hc']at this
    exact this
  .cases h
 .cases h
end Go.Sx
