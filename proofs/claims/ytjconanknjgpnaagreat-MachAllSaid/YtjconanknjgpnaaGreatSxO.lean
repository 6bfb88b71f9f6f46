/-
  A region whose order is open: what its text says.
-/
import Derived.Test.YtjconanknjgpnaaGreatSxM
import Derived.Orders
set_option linter.unusedVariables false
set_option linter.unusedSimpArgs false
namespace Go.Sx
theorem ie_ (m i:Nat):bit m i=m.testBit i:=by
 unfold bit;have e:Nat.land (Nat.shiftRight m i) 1=(m>>>i)&&&1:=rfl;rw [e,Nat.testBit];rw [Nat.and_comm];cases h:1&&&(m>>>i)with
 |zero=>rfl
 |succ n=>rfl
theorem kK_ (a b i:Nat):bit (Nat.lor a b) i=(bit a i||bit b i):=by rw [ie_,ie_,ie_];exact Nat.testBit_or a b i
theorem oq_ (a i:Nat):bit (Nat.pow 2 a) i=decide (a=i):=by rw [ie_];exact Nat.testBit_two_pow
theorem lO_ (i:Nat):bit 0 i=false:=by rw [ie_];exact Nat.zero_testBit i
theorem dI_ (e:Edge):dz_ e=Region.binds .any e:=by
 unfold dz_;cases e with
 |mk on g=>cases g<;>rfl
theorem lg_:∀(l:List Nat) (n:Nat),p2_ l n=l.getD n 0
 |[],n=>by simp [p2_]
 |a::r,0=>rfl
 |a::r,n+1=>by simp [p2_,lg_ r n]
theorem jP_ (bs:List Nat):∀(l:List Edge) (j:Nat),bit (dG_ bs l) j=true↔∃e∈l,dz_ e=true/\(e.on=j\/bit (p2_ bs e.on) j=true)
 |[],j=>by simp [dG_,lO_]
 |e::r,j=>by unfold dG_;have ih:=jP_ bs r j;split;rename_i hb;rw [kK_,kK_,oq_];simp only [Bool.or_eq_true,decide_eq_true_eq,ih,List.mem_cons,exists_eq_or_imp,hb,true_and];rename_i hb;simp only [ih,List.mem_cons,exists_eq_or_imp,hb,Bool.false_eq_true,false_and,false_or]
theorem jQ_:∀(l:List Oper) (bs:List Nat),∃cs,qz_ l bs=bs++cs/\cs.length=l.length/\
  ∀k o,l[k]? =some o->∃b,(bs++cs)[bs.length+k]? =some b/\b=dG_ ((bs++cs).take (bs.length+k)) o.after.toList
 |[],bs=>⟨[],by simp [qz_],rfl,λk o h=>by simp at h⟩
 |o::l,bs=>by
  obtain ⟨cs,h1,h2,h3⟩:=jQ_ l (bs++[dG_ bs o.after.toList]);refine ⟨dG_ bs o.after.toList::cs,?_,by simp [h2],λk x hk=>?_⟩;unfold qz_;rw [h1];simp
  .have e:bs++dG_ bs o.after.toList::cs=(bs++[dG_ bs o.after.toList])++cs:=(by simp);cases k with
   |zero=>simp at hk;subst hk;exact ⟨dG_ bs o.after.toList,by simp,by simp⟩
   |succ k=>obtain ⟨b,g1,g2⟩:=h3 k x (by simpa using hk);have el:(bs++[dG_ bs o.after.toList]).length+k=bs.length+(k+1):=(by simp;omega);rw [el]at g1 g2;rw [e];exact ⟨b,g1,g2⟩
theorem cU_:∀(l:List Edge) (i:Nat),fk_ l i=true->∀e∈l,dz_ e=true->e.on<i
 |[],i,h,e,he,hb=>by simp at he
 |e'::r,i,h,e,he,hb=>by unfold fk_ at h;rcases List.mem_cons.1 he with rfl|he;rw [hb]at h;simp only at h;have:=(aa_ h).1;simpa [Nat.blt_eq]using this;split at h;exact cU_ r i (aa_ h).2 e he hb;exact cU_ r i h e he hb
theorem iO_:∀(l:List Oper) (k:Nat),okE l k=true->∀i o,l[i]? =some o->fk_ o.after.toList (k+i)=true
 |[],k,h,i,o,hi=>by simp at hi
 |a::r,k,h,i,o,hi=>by
  unfold okE at h;obtain ⟨h1,h2⟩:=aa_ h;cases i with
  |zero=>simp at hi;subst hi;exact h1
  |succ i=>
   have:=iO_ r (Nat.succ k) h2 i o (by simpa using hi);have e:Nat.succ k+i=k+(i+1):=by omega
   rwa [e]at this
theorem m2_ (ops:List Oper) (bs:List Nat):∀(l:List Oper) (c:List Nat) (k:Nat),l.length=c.length->(sis ops bs l c k).length=l.length/\
  ∀i o b,l[i]? =some o->c[i]? =some b->(sis ops bs l c k)[i]? =some (SI.mk o b (bB_ o.op) (mw_ b ops 0) (mn_ (k+i) ops bs) (cW_ ops o) (tR_ ops bs b (k+i) o))
 |[],c,k,h=>⟨rfl,λi o b hi=>by simp at hi⟩
 |a::r,[],k,h=>by simp at h
 |a::r,b::c,k,h=>by
  obtain ⟨h1,h2⟩:=m2_ ops bs r c (Nat.succ k) (by simpa using h);refine ⟨by simp [sis,h1],λi o b' hi hb=>?_⟩;cases i with
  |zero=>simp at hi hb;subst hi;subst hb;simp [sis]
  |succ i=>have:=h2 i o b' (by simpa using hi) (by simpa using hb);have e:Nat.succ k+i=k+(i+1):=(by omega);rw [e]at this;simpa [sis]using this
theorem hx_ (x:SI) (i:Nat):∀l:List SI,lk_ x i l=true->∀(j:Nat) (y:SI),l[j]? =some y->li_ x i y=true
 |[],h,j,y,hj=>by simp at hj
 |a::r,h,j,y,hj=>by
  unfold lk_ at h;obtain ⟨h1,h2⟩:=aa_ h;cases j with
  |zero=>simp at hj;subst hj;exact h1
  |succ j=>exact hx_ x i r h2 j y (by simpa using hj)
theorem iN_:∀(l:List SI) (k:Nat),o2_ l k=true->∀(i j:Nat) (x y:SI),i<j->l[i]? =some x->l[j]? =some y->li_ x (k+i) y=true
 |[],k,h,i,j,x,y,hij,hi,hj=>by simp at hi
 |a::r,k,h,i,j,x,y,hij,hi,hj=>by
  unfold o2_ at h;obtain ⟨h1,h2⟩:=aa_ h;cases j with
  |zero=>omega
  |succ j=>
   cases i with
   |zero=>simp at hi;subst hi;exact hx_ a k r h1 j y (by simpa using hj)
   |succ i=>
    have:=iN_ r (Nat.succ k) h2 i j x y (by omega) (by simpa using hi) (by simpa using hj);have e:Nat.succ k+i=k+(i+1):=by omega
    rwa [e]at this
structure PlanOk (ops:List Oper) (l:List SI):Prop where
 len:l.length=ops.length
 op:∀(i:Nat) (x:SI),l[i]? =some x->ops[i]? =some x.o
 kd:∀(i:Nat) (x:SI),l[i]? =some x->x.kd=bB_ x.o.op
 rd:∀(i:Nat) (x:SI),l[i]? =some x->x.rd=cW_ ops x.o
 lo:∀(i:Nat) (x:SI),l[i]? =some x->x.lo=mw_ x.bef ops 0
 hi:∀(i:Nat) (x:SI),l[i]? =some x->x.hi=mn_ i ops (l.map SI.bef)
 lt:∀(i:Nat) (x:SI) (e:Edge),l[i]? =some x->e∈x.o.after->Region.binds .any e=true->e.on<i
 bef:∀(i:Nat) (x:SI) (j:Nat),l[i]? =some x->(bit x.bef j=true↔∃e∈x.o.after,Region.binds .any e=true/\(e.on=j\/∃y:SI,l[e.on]? =some y/\bit y.bef j=true))
 pair:∀(i j:Nat) (x y:SI),i<j->l[i]? =some x->l[j]? =some y->fW_ x y=true\/(a7_ x.kd=true/\a7_ y.kd=true)->bit y.bef i=true
theorem ln_ {ops:List Oper} {l:List SI} {n:Nat} (h:n5_ ops=.mk l n):PlanOk ops l/\n=a3_ l:=by
 unfold n5_ at h;split at h
 .rename_i hE;dsimp only at h;split at h
  .rename_i hA;cases h;obtain ⟨cs,h1,h2,h3⟩:=jQ_ ops [];rw [List.nil_append]at h1;rw [h1]at hA⊢;simp only [List.nil_append,List.length_nil,Nat.zero_add]at h3;obtain ⟨s1,s2⟩:=m2_ ops cs ops cs 0 h2.symm;have hx:∀(i:Nat) (x:SI),(sis ops cs ops cs 0)[i]? =some x->∃o b,ops[i]? =some o/\cs[i]? =some b/\x=SI.mk o b (bB_ o.op) (mw_ b ops 0) (mn_ i ops cs) (cW_ ops o) (tR_ ops cs b i o):=by
    intro i x hi;have hlt:i<ops.length:=by have:=(List.getElem?_eq_some_iff.1 hi).1;omega
    refine ⟨ops[i],cs[i]'(by omega),by simp [hlt],by simp,?_⟩;have:=s2 i ops[i] (cs[i]'(by omega)) (by simp [hlt]) (by simp);rw [this]at hi;cases hi;rw [Nat.zero_add]
   have hmap:(sis ops cs ops cs 0).map SI.bef=cs:=by
    apply List.ext_getElem?;intro i;rw [List.getElem?_map];cases hi:(sis ops cs ops cs 0)[i]? with
    |none=>have:(sis ops cs ops cs 0).length<=i:=List.getElem?_eq_none_iff.1 hi;have:cs.length<=i:=(by omega);rw [List.getElem?_eq_none this];rfl
    |some x=>obtain ⟨o,b,g1,g2,rfl⟩:=hx i x hi;rw [g2];rfl
   refine ⟨{ len:=s1,op:=?_,kd:=?_,rd:=?_,lo:=?_,hi:=?_,lt:=?_,bef:=?_,pair:=?_ },rfl⟩;intro i x hi;obtain ⟨o,b,g1,g2,rfl⟩:=hx i x hi;exact g1;intro i x hi;obtain ⟨o,b,g1,g2,rfl⟩:=hx i x hi;rfl;intro i x hi;obtain ⟨o,b,g1,g2,rfl⟩:=hx i x hi;rfl;intro i x hi;obtain ⟨o,b,g1,g2,rfl⟩:=hx i x hi;rfl;intro i x hi;obtain ⟨o,b,g1,g2,rfl⟩:=hx i x hi;rw [hmap];intro i x e hi he hb;obtain ⟨o,b,g1,g2,rfl⟩:=hx i x hi;have:=iO_ ops 0 hE i o g1;rw [Nat.zero_add]at this;exact cU_ _ _ this e (by simpa using he) (by rw [dI_];exact hb)
   .intro i x j hi;obtain ⟨o,b,g1,g2,rfl⟩:=hx i x hi;obtain ⟨b',g3,g4⟩:=h3 i o g1;rw [g2]at g3;cases g3;have hlt:∀e∈o.after,dz_ e=true->e.on<i:=λe he hb=>by have:=iO_ ops 0 hE i o g1;rw [Nat.zero_add]at this;exact cU_ _ _ this e (by simpa using he) hb
    have hil:i<ops.length:=(List.getElem?_eq_some_iff.1 g1).1;simp only;rw [g4,jP_];constructor;rintro ⟨e,he,hb,hj⟩;have he':e∈o.after:=(by simpa using he);refine ⟨e,he',by rw [←dI_];exact hb,hj.imp id λhj=>?_⟩;have hle:=hlt e he' hb;have hol:e.on<ops.length:=(by omega);refine ⟨_,s2 e.on ops[e.on] (cs[e.on]'(by omega)) (by simp [hol]) (by simp),?_⟩;rw [lg_]at hj;simpa [List.getElem?_take,hle,List.getElem?_eq_getElem (show e.on<cs.length by omega)]using hj;rintro ⟨e,he,hb,hj⟩;have hb':dz_ e=true:=(by rw [dI_];exact hb);refine ⟨e,by simpa using he,hb',hj.imp id λhj=>?_⟩;obtain ⟨y,hy,hj⟩:=hj;obtain ⟨o',b',g5,g6,rfl⟩:=hx _ _ hy;have hle:=hlt e he hb';rw [lg_];have:=List.getElem?_eq_some_iff.1 g6;obtain ⟨q1,q2⟩:=this;simp only at hj;simp [List.getElem?_take,hle,List.getElem?_eq_getElem q1,q2,hj]
   .intro i j x y hij hi hj hc;have:=iN_ _ 0 hA i j x y hij hi hj;rw [Nat.zero_add]at this;unfold li_ at this;have hc':(fW_ x y||(a7_ x.kd&&a7_ y.kd))=true:=by rcases hc with hc|⟨c1,c2⟩;simp [hc];simp [c1,c2]
    rw [hc']at this;exact this
  cases h
 cases h
def bZ_ (p:Nat->Bool):List Oper->Nat->Nat
 |[],_=>0
 |o::r,k=>match a7_ (bB_ o.op)&&p k with
  |true=>Nat.succ (bZ_ p r (Nat.succ k))
  |false=>bZ_ p r (Nat.succ k)
theorem oR_ (b:Nat):∀(l:List Oper) (k:Nat),mw_ b l k=bZ_ (bit b) l k
 |[],k=>rfl
 |o::r,k=>by unfold mw_ bZ_;rw [oR_ b r (Nat.succ k)];rfl
theorem jW_ {p q:Nat->Bool} (h:∀k,p k=true->q k=true):∀(l:List Oper) (k:Nat),bZ_ p l k<=bZ_ q l k
 |[],k=>Nat.le_refl _
 |o::r,k=>by
  unfold bZ_;have ih:=jW_ h r (Nat.succ k);cases hw:a7_ (bB_ o.op)with
  |false=>exact ih
  |true=>
   cases hp:p k with
   |false=>
    cases hq:q k with
    |false=>exact ih
    |true=>exact Nat.le_trans ih (Nat.le_succ _)
   |true=>rw [h k hp];exact Nat.succ_le_succ ih
theorem c7_ {p q:Nat->Bool}:∀(l:List Oper) (k:Nat),(∀i o,l[i]? =some o->a7_ (bB_ o.op)=true->p (k+i)=q (k+i))->bZ_ p l k=bZ_ q l k
 |[],k,h=>rfl
 |o::r,k,h=>by
  unfold bZ_;rw [c7_ (p:=p) (q:=q) r (Nat.succ k) λi o' hi hw=>by
   have:=h (i+1) o' (by simpa using hi) hw;have e:Nat.succ k+i=k+(i+1):=by omega
   rwa [e]]
  cases hw:a7_ (bB_ o.op)with
  |false=>rfl
  |true=>have:=h 0 o rfl hw;rw [Nat.add_zero]at this;rw [this]
theorem e1_ {p:Nat->Bool}:∀(l:List Oper) (k:Nat),(∀i o,l[i]? =some o->a7_ (bB_ o.op)=true->p (k+i)=false)->bZ_ p l k=0
 |[],k,h=>rfl
 |o::r,k,h=>by
  unfold bZ_;rw [e1_ r (Nat.succ k) λi o' hi hw=>by
   have:=h (i+1) o' (by simpa using hi) hw;have e:Nat.succ k+i=k+(i+1):=by omega
   rwa [e]]
  cases hw:a7_ (bB_ o.op)with
  |false=>rfl
  |true=>have:=h 0 o rfl hw;rw [Nat.add_zero]at this;rw [this];rfl
def plus (S:Nat->Bool) (i:Nat):Nat->Bool:=λj=>if j=i then true else S j
theorem gx_ {S:Nat->Bool}:∀(l:List Oper) (k i:Nat) (o:Oper),l[i]? =some o->a7_ (bB_ o.op)=true->S (k+i)=false->bZ_ (plus S (k+i)) l k=Nat.succ (bZ_ S l k)
 |[],k,i,o,h,hw,hs=>by simp at h
 |a::r,k,0,o,h,hw,hs=>by simp at h;subst h;rw [Nat.add_zero]at hs⊢;unfold bZ_;have e1:plus S k k=true:=(by simp [plus]);rw [hw,hs,e1];simp only [Bool.and_true,Bool.and_false];rw [c7_ (p:=plus S k) (q:=S) r (Nat.succ k) λj o' hj hw'=>by have:Nat.succ k+j≠k:=(by omega);unfold plus;rw [if_neg this]]
 |a::r,k,i+1,o,h,hw,hs=>by have e:k+(i+1)=Nat.succ k+i:=(by omega);have ih:=gx_ (S:=S) r (Nat.succ k) i o (by simpa using h) hw (by rw [←e];exact hs);rw [e];unfold bZ_;rw [ih];have e1:plus S (Nat.succ k+i) k=S k:=(by have:k≠Nat.succ k+i:=(by omega);simp [plus,this]);rw [e1];split<;>rfl
theorem ot_ {S:Nat->Bool} {i:Nat}:∀(l:List Oper) (bs:List Nat) (k:Nat),l.length=bs.length->
  (∀j b o,bs[j]? =some b->l[j]? =some o->a7_ (bB_ o.op)=true->S (k+j)=true->bit b i=false)->
  (∀j j' o o',j<j'->l[j]? =some o->l[j']? =some o'->a7_ (bB_ o.op)=true->a7_ (bB_ o'.op)=true->S (k+j')=true->S (k+j)=true)->bZ_ S l k<=mn_ i l bs
 |[],bs,k,hl,h1,h2=>Nat.zero_le _
 |o::r,[],k,hl,h1,h2=>by simp at hl
 |o::r,b::bs,k,hl,h1,h2=>by
  have ih:=ot_ (S:=S) (i:=i) r bs (Nat.succ k) (by simpa using hl)
   (λj b' o' hb ho hw hs=>by have e:Nat.succ k+j=k+(j+1):=(by omega);exact h1 (j+1) b' o' (by simpa using hb) (by simpa using ho) hw (by rw [←e];exact hs))
   (λj j' o1 o2 hjj h3 h4 h5 h6 h7=>by have e:Nat.succ k+j=k+(j+1):=(by omega);have e':Nat.succ k+j'=k+(j'+1):=(by omega);rw [e];exact h2 (j+1) (j'+1) o1 o2 (by omega) (by simpa using h3) (by simpa using h4) h5 h6 (by rw [←e'];exact h7))
  unfold bZ_ mn_;cases hw:a7_ (bB_ o.op)with
  |false=>simpa using ih
  |true=>
   cases hs:S k with
   |true=>have:=h1 0 b o rfl rfl hw (by simpa using hs);rw [this];simpa using ih
   |false=>
    have:bZ_ S r (Nat.succ k)=0:=e1_ r _ λj o' hj hw'=>by
     cases hsj:S (Nat.succ k+j)with
     |false=>rfl
     |true=>have e:Nat.succ k+j=k+(j+1):=(by omega);have:=h2 0 (j+1) o o' (by omega) rfl (by simpa using hj) hw hw' (by rw [←e];exact hsj);rw [Nat.add_zero,hs]at this;cases this
    rw [this];simp
inductive Evt where
 |gone
 |off
 |val (a:AV)
 |row (a:AV) (id:Nat) (b:ABlk)
 |step (a:AV)
 |die
def Evt.put:Evt->Option AV
 | .off=>some (.tup [])
 | .val a=>some a
 | .row a _ _=>some a
 | .step a=>some a
 |_=>none
def Sl (l:List SI) (ev:Nat->Evt) (T0:Tm) (S:Nat->Bool) (t:Nat) (a:AV):Prop:=
 (a=tget T0 t/\∀j x,l[j]? =some x->S j=true->x.o.dst=some t->(ev j).put=none)\/
 ∃j x,l[j]? =some x/\S j=true/\x.o.dst=some t/\(ev j).put=some a/\∀j' x',l[j']? =some x'->S j'=true->x'.o.dst=some t->(ev j').put≠none->j'<=j
section
variable {l:List SI} {ev:Nat->Evt} {T0:Tm} {S S':Nat->Bool} {t:Nat} {a a':AV}
theorem Sl.congr (h:Sl l ev T0 S t a) (hc:∀j x,l[j]? =some x->x.o.dst=some t->S j=S' j):Sl l ev T0 S' t a:=by rcases h with ⟨h1,h2⟩|⟨j,x,h1,h2,h3,h4,h5⟩;exact .inl ⟨h1,λj x hj hs hd=>h2 j x hj (by rw [hc j x hj hd];exact hs) hd⟩;exact .inr ⟨j,x,h1,by rw [←hc j x h1 h3];exact h2,h3,h4,λj' x' hj hs hd=>h5 j' x' hj (by rw [hc j' x' hj hd];exact hs) hd⟩
theorem Sl.unique (h:Sl l ev T0 S t a) (h':Sl l ev T0 S t a'):a=a':=by
 rcases h with ⟨h1,h2⟩|⟨j,x,h1,h2,h3,h4,h5⟩<;>rcases h' with ⟨g1,g2⟩|⟨j',x',g1,g2,g3,g4,g5⟩
 rw [h1,g1];rw [h2 j' x' g1 g2 g3]at g4;cases g4;rw [g2 j x h1 h2 h3]at h4;cases h4;have e1:=h5 j' x' g1 g2 g3 (by rw [g4];simp);have e2:=g5 j x h1 h2 h3 (by rw [h4];simp);have:j=j':=(by omega);subst this;rw [h4]at g4;cases g4;rfl
theorem Sl.put {i:Nat} {x:SI} (hx:l[i]? =some x) (hd:x.o.dst=some t) (he:(ev i).put=some a) (hlast:∀j y,l[j]? =some y->S j=true->y.o.dst=some t->j<=i):Sl l ev T0 (plus S i) t a:=by refine .inr ⟨i,x,hx,by simp [plus],hd,he,λj' x' hj hs hd' _=>?_⟩;by_cases e:j'=i;omega;exact hlast j' x' hj (by simpa [plus,e]using hs) hd'
theorem Sl.keep {i:Nat} (h:Sl l ev T0 S t a) (hk:∀x,l[i]? =some x->x.o.dst=some t->(ev i).put=none):Sl l ev T0 (plus S i) t a:=by rcases h with ⟨h1,h2⟩|⟨j,x,h1,h2,h3,h4,h5⟩;refine .inl ⟨h1,λj x hj hs hd=>?_⟩;by_cases e:j=i;subst e;exact hk x hj hd;exact h2 j x hj (by simpa [plus,e]using hs) hd;refine .inr ⟨j,x,h1,?_,h3,h4,λj' x' hj hs hd hp=>?_⟩;unfold plus;split;rfl;exact h2;by_cases e:j'=i;subst e;exact absurd (hk x' hj hd) hp;exact h5 j' x' hj (by simpa [plus,e]using hs) hd hp
end
variable [Gl]
theorem bK_ {ops:Array Oper} {E:Env} {N:Nat} {R:Tm} {a:Act} {x:SI} {t:Bool} (ht:TRel E N R a.tmps) (h:aL_ ops.toList x R=some t):Region.wanted x.o (yielded ops a.tmps)=t:=by unfold aL_ at h;split at h;rename_i hg;cases h;exact cR_ hg a.tmps;rename_i g hg;exact eH_ ht hg h
omit [Gl]in
theorem kt_ {c:OC} {T:Tm} {H:AHeap} {a:AV} (h:cg_ c T H=some a):c.run T H=some (.val a H):=by unfold cg_ at h;unfold OC.run;split at h;cases h;rfl;simp only [h];simp only [h];cases h
omit [Gl]in
theorem Rel.reres {B:World} {pr:Nat->Prop} {E:Env} {H:AHeap} {w:World} (h:Rel B pr E H w) {r:Nat->Prop} (hr:∀id,r id->E.φ id=none/\¬(H.next<=id/\id<H.hi)) (hvd:∀id,E.vd id->r id):Rel B pr (E.withRes r) H w where
 own:=by obtain ⟨own,h1,h2⟩:=h.own;refine ⟨own,λid k hk=>?_,h2⟩;exact (h1 id k hk).imp (λ_ h=>h) (λh=>h) λb o hφ ho hb=>⟨ho,hb.sub (Env.sub_withRes E r) rfl⟩
 imm:=h.imm
 ib:=h.ib
 fresh:=h.fresh
 resv:=hr
 vds:=hvd
 szs:=h.szs
 prot:=h.prot
 size:=h.size
 os:=h.os
 output:=h.output
omit [Gl]in
theorem DRel.sub {P:Program} {E E':Env} (h:E.sub E'):∀{D:Dfs} {ds:List Deferred},DRel P E D ds->DRel P E' D ds
 |[],ds,hd=>hd
 |(f,args)::D,ds,hd=>by obtain ⟨vs,r,h1,h2,h3,h4⟩:=hd;exact ⟨vs,r,h1,h2.sub h,h3,DRel.sub h h4⟩
def wAt (ops:List Oper) (i:Nat):Nat:=bZ_ (λj=>decide (j<i)) ops 0
structure Took (l:List SI) (ev:Nat->Evt) (i:Nat) (x:SI) (G G1:AHeap):Prop where
 next:G1.next=G.next
 hi:G1.hi=G.hi
 row:∀id k,G1.get id=some k->G.get id=some k\/∃j y a,l[j]? =some y/\ev j=.row a id k/\bit x.bef j=true/\
  ∀k' y' a',l[k']? =some y'->k'<i->ev k'=.step a'->bit y'.bef j=false
inductive Did (P:Program) (call:CallF) (ops:List Oper) (l:List SI) (ev:Nat->Evt) (idOf:Nat->Nat) (Gs:List AHeap) (dd:Option (Nat×AV×AHeap)) (i:Nat) (x:SI) (R:Tm):Evt->Prop
 |off (hg:aL_ ops x R=some false) (hw:a7_ x.kd=true->∃G,Gs[wAt ops i]? =some G/\Gs[wAt ops i+1]? =some G):Did P call ops l ev idOf Gs dd i x R .off
 |pure {a:AV} (hg:aL_ ops x R=some true) (hk:x.kd=.pure) (h:cg_ (ac_ P x.o) R ⟨hnil,0,0⟩=some a):Did P call ops l ev idOf Gs dd i x R (.val a)
 |read {a:AV} (hg:aL_ ops x R=some true) (hk:x.kd=.read) (h:∀m G,x.lo<=m->m<=x.hi->Gs[m]? =some G->cg_ (ac_ P x.o) R G=some a):Did P call ops l ev idOf Gs dd i x R (.val a)
 |fl {a:AV} {j id:Nat} {y:SI} {c:AV} {b:ABlk} (hg:aL_ ops x R=some true) (hk:x.kd=.read) (hy:l[j]? =some y) (hj:ev j=.row c id b) (hbit:bit x.bef j=true)
   (hno:∀(k:Nat) (y':SI) (a':AV),l[k]? =some y'->k<i->ev k=.step a'->bit y'.bef j=false) (hlater:∀(k:Nat) (y':SI),l[k]? =some y'->i<k->a7_ y'.kd=true->bit y'.bef j=true->bit y'.bef i=true)
   (ht:id<top) (h:cg_ (ac_ P x.o) R ((⟨hnil,0,0⟩:AHeap).set id b)=some a):Did P call ops l ev idOf Gs dd i x R (.val a)
 |mem {a:AV} {b:ABlk} {H':AHeap} (hg:aL_ ops x R=some true) (hk:x.kd=.mem) (h:(ac_ P x.o).run R ⟨hnil,idOf i,Nat.succ (idOf i)⟩=some (.val a H')) (hb:H'.get (idOf i)=some b):
   Did P call ops l ev idOf Gs dd i x R (.row a (idOf i) b)
 |wr {a:AV} {G G1 H':AHeap} (hg:aL_ ops x R=some true) (hk:x.kd=.wr) (h1:Gs[wAt ops i]? =some G) (h2:Gs[wAt ops i+1]? =some H') (ht:Took l ev i x G G1)
   (h:(ac_ P x.o).run R G1=some (.val a H')\/∃f args,(ac_ P x.o).run R G1=some (.call f args)/\call f args G1=some (.ret a H')):Did P call ops l ev idOf Gs dd i x R (.step a)
 |die {v:AV} {G G1 H':AHeap} (hg:aL_ ops x R=some true) (hk:x.kd=.wr) (h1:Gs[wAt ops i]? =some G) (ht:Took l ev i x G G1) (hd:dd=some (i,v,H'))
   (h:((ac_ P x.o).run R G1=some (.pan v)/\H'=G1)\/∃f args,(ac_ P x.o).run R G1=some (.call f args)/\call f args G1=some (.pan v H')):Did P call ops l ev idOf Gs dd i x R .die
structure Facts (P:Program) (call:CallF) (N:Nat) (ops:List Oper) (l:List SI) (ev:Nat->Evt) (T0:Tm) (idOf:Nat->Nat) (Gs:List AHeap) (dd:Option (Nat×AV×AHeap)):Prop where
 each:∀(i:Nat) (x:SI),l[i]? =some x->(ev i=.gone/\∃d v H,dd=some (d,v,H)/\bit x.bef d=true)\/
  ∃u R,b3_ N x.o.dst=.mk u/\(∀t,t<512->tget R t=.opq\/(t∈x.rd/\Sl l ev T0 (λj=>decide (j<i)) t (tget R t)))/\Did P call ops l ev idOf Gs dd i x R (ev i)
 dead:∀d v H,dd=some (d,v,H)->ev d=.die
 row:∀j y a id b,l[j]? =some y->ev j=.row a id b->id=idOf j/\y.kd=.mem
 inj:∀i j x y,l[i]? =some x->l[j]? =some y->x.kd=.mem->y.kd=.mem->idOf i=idOf j->i=j
structure Cl (l:List SI) (ev:Nat->Evt) (S:Nat->Bool):Prop where
 lt:∀i,S i=true->i<l.length
 ev:∀i,S i=true->ev i≠ .gone/\ev i≠ .die
 bef:∀i x j,l[i]? =some x->S i=true->bit x.bef j=true->S j=true
def b6_ (E0:Env) (l:List SI) (idOf:Nat->Nat) (S:Nat->Bool) (id:Nat):Prop:=E0.res id\/∃j x,l[j]? =some x/\S j=false/\x.kd=.mem/\id=idOf j
structure InvE (P:Program) (B:World) (pr:Nat->Prop) (N:Nat) (E0:Env) (D:Dfs) (ops:List Oper) (l:List SI) (ev:Nat->Evt) (T0:Tm) (idOf:Nat->Nat) (Gs:List AHeap)
  (S:Nat->Bool) (a:Act) (w:World) (E:Env) (G H:AHeap):Prop where
 sub:E0.sub E
 res:E.res=b6_ E0 l idOf S
 bim:E.bim=E0.bim
 vd:E.vd=E0.vd
 vd0:∀id,E0.vd id->E0.res id
 gl:GlOk E0
 size:a.tmps.size=N
 dfs:DRel P E0 D a.defers
 slot:∀t,t<512->∃q,Sl l ev T0 S t q/\Con E q (a.tmps.getD t undef)
 g:Gs[bZ_ S ops 0]? =some G
 r:Rel B pr E H w
 nx:H.next=G.next
 hi:H.hi=G.hi
 old:∀id k,G.get id=some k->H.get id=some k
 row:∀j y q id b,l[j]? =some y->ev j=.row q id b->S j=true->(∀k y' q',l[k]? =some y'->S k=true->ev k=.step q'->bit y'.bef j=false)->H.get id=some b/\G.get id=none
omit [Gl]in
theorem pc_ {N:Nat} {d:Nat} {u:Tm->AV->Tm} (h:b3_ N (some d)=.mk u):d<N/\d<512:=by unfold b3_ at h;simp only at h;split at h;rename_i hb;obtain ⟨h1,h2⟩:=aa_ hb;exact ⟨by simpa [Nat.blt_eq]using h1,by simpa [Nat.blt_eq]using h2⟩;cases h
omit [Gl]in
theorem fx_ {a:Act} {d:Nat} {v:Value} (h:d<a.tmps.size):(a.put (some d) v).tmps.getD d undef=v:=by simp [Act.put,Array.getD,h]
omit [Gl]in
theorem hr_ {a:Act} {dst:Option Nat} {t:Nat} {v:Value} (h:dst≠some t):(a.put dst v).tmps.getD t undef=a.tmps.getD t undef:=by
 cases dst with
 |none=>rfl
 |some d=>have:d≠t:=λe=>h (by rw [e]);simp only [Act.put,Array.getD_eq_getD_getElem?,Array.getElem?_setIfInBounds];rw [if_neg this]
omit [Gl]in
theorem m3_ {a:Act} {dst:Option Nat} {v:Value}:(a.put dst v).tmps.size=a.tmps.size:=by cases dst<;>simp [Act.put]
omit [Gl]in
theorem jV_ {x y:SI} {d:Nat} (h1:x.o.dst=some d) (h2:y.o.dst=some d):fW_ x y=true:=by unfold fW_;simp only [h1,h2,Nat.beq_refl,Bool.true_or]
omit [Gl]in
theorem ge_ {t:Nat}:∀{l:List Nat},t∈l->memT t l=true
 |[],h=>by simp at h
 |a::r,h=>by unfold memT;rcases List.mem_cons.1 h with rfl|h;simp [Nat.beq_refl];split;rfl;exact ge_ h
omit [Gl]in
theorem ig_ {x y:SI} {d:Nat} (h1:x.o.dst=some d) (h2:d∈y.rd):fW_ x y=true:=by unfold fW_;simp only [h1];split<;>simp [ge_ h2]
omit [Gl]in
theorem hi_ {x y:SI} {d:Nat} (h1:y.o.dst=some d) (h2:d∈x.rd):fW_ x y=true:=by unfold fW_;simp only [h1];split<;>simp [ge_ h2]
end Go.Sx
namespace Go.Sx
variable [Gl]
section
variable {P:Program} {call:CallF} {N:Nat} {B:World} {pr:Nat->Prop} {E0:Env} {D:Dfs} {ops:List Oper} {l:List SI} {ev:Nat->Evt} {T0:Tm} {idOf:Nat->Nat} {Gs:List AHeap}
 {dd:Option (Nat×AV×AHeap)} {S:Nat->Bool} {a:Act} {w:World} {E:Env} {G H:AHeap} {i:Nat} {x:SI}
theorem InvE.trel (inv:InvE P B pr N E0 D ops l ev T0 idOf Gs S a w E G H) (hP:PlanOk ops l) (hN:N<=512) (hcl:Cl l ev S) (hx:l[i]? =some x) (hS:S i=false) (hb:∀j,bit x.bef j=true->S j=true)
  {R:Tm} (hR:∀t,t<512->tget R t=.opq\/(t∈x.rd/\Sl l ev T0 (λj=>decide (j<i)) t (tget R t))):TRel E N R a.tmps:=by
 refine ⟨inv.size,hN,λt ht=>?_,inv.gl.sub inv.sub⟩;rcases hR t ht with h|⟨h1,h2⟩;rw [h];simp [Con]
 .obtain ⟨q,h3,h4⟩:=inv.slot t ht;have:Sl l ev T0 S t (tget R t):=h2.congr λj y hj hd=>by
   rcases Nat.lt_trichotomy j i with hlt|rfl|hgt;have:=hb j (hP.pair j i y x hlt hj hx (.inl (ig_ hd h1)));simp [hlt,this];rw [hS];simp
   .have hbit:=hP.pair i j x y hgt hx hj (.inl (hi_ hd h1));cases hs:S j with
    |false=>simp;omega
    |true=>have:=hcl.bef j y i hj hs hbit;rw [hS]at this;cases this
  rw [this.unique h3];exact h4
theorem InvE.slot_put (inv:InvE P B pr N E0 D ops l ev T0 idOf Gs S a w E G H) (hP:PlanOk ops l) (hcl:Cl l ev S) (hx:l[i]? =some x) (hS:S i=false) {u:Tm->AV->Tm} (hu:b3_ N x.o.dst=.mk u)
  {q:AV} (hq:(ev i).put=some q) {E':Env} (hs:E.sub E') {v:Value} (hc:Con E' q v):
  ∀t,t<512->∃q',Sl l ev T0 (plus S i) t q'/\Con E' q' ((a.put x.o.dst v).tmps.getD t undef):=by
 intro t ht;by_cases hd:x.o.dst=some t;refine ⟨q,Sl.put hx hd hq λj y hj hsj hdj=>?_,?_⟩;rcases Nat.lt_or_ge i j with hgt|hle;have hbit:=hP.pair i j x y hgt hx hj (.inl (jV_ hd hdj));have:=hcl.bef j y i hj hsj hbit;rw [hS]at this;cases this;exact hle;rw [hd]at hu⊢;rw [fx_ (by rw [inv.size];exact (pc_ hu).1)];exact hc;obtain ⟨q',h1,h2⟩:=inv.slot t ht;refine ⟨q',h1.keep λy hy hdy=>?_,?_⟩;rw [hx]at hy;cases hy;exact absurd hdy hd;rw [hr_ hd];exact h2.sub hs
omit [Gl]in
theorem Cl.plus (hcl:Cl l ev S) (hx:l[i]? =some x) (hb:∀j,bit x.bef j=true->S j=true) (he:ev i≠ .gone/\ev i≠ .die):Cl l ev (plus S i) where
 lt:=λj hj=>by by_cases e:j=i;subst e;exact (List.getElem?_eq_some_iff.1 hx).1;exact hcl.lt j (by simpa [Sx.plus,e]using hj)
 ev:=λj hj=>by by_cases e:j=i;subst e;exact he;exact hcl.ev j (by simpa [Sx.plus,e]using hj)
 bef:=λj y k hy hj hk=>by by_cases e:j=i;subst e;rw [hx]at hy;cases hy;unfold Sx.plus;split;rfl;exact hb k hk;have:=hcl.bef j y k hy (by simpa [Sx.plus,e]using hj) hk;unfold Sx.plus;split;rfl;exact this
omit [Gl]in
theorem hX_ (hP:PlanOk ops l) {j:Nat} {o:Oper} (ho:ops[j]? =some o):∃y,l[j]? =some y/\y.o=o/\y.kd=bB_ o.op:=by
 have:j<l.length:=by rw [hP.len];exact (List.getElem?_eq_some_iff.1 ho).1
 refine ⟨l[j],by simp [this],?_,?_⟩;have:=hP.op j l[j] (by simp [this]);rw [ho]at this;cases this;rfl;have h1:=hP.op j l[j] (by simp [this]);rw [ho]at h1;cases h1;exact hP.kd j l[j] (by simp [this])
omit [Gl]in
theorem kO_ (hP:PlanOk ops l) (hcl:Cl l ev S) (hx:l[i]? =some x) (hS:S i=false) (hb:∀j,bit x.bef j=true->S j=true) (hw:a7_ x.kd=true):
  wAt ops i=bZ_ S ops 0/\bZ_ (plus S i) ops 0=bZ_ S ops 0+1:=by
 constructor
 .unfold wAt;refine c7_ ops 0 λj o ho hwo=>?_;rw [Nat.zero_add];obtain ⟨y,hy,_,hk⟩:=hX_ hP ho;have hwy:a7_ y.kd=true:=(by rw [hk];exact hwo);rcases Nat.lt_trichotomy j i with hlt|rfl|hgt;simp [hlt,hb j (hP.pair j i y x hlt hy hx (.inr ⟨hwy,hw⟩))];rw [hS];simp
  .have hbit:=hP.pair i j x y hgt hx hy (.inr ⟨hw,hwy⟩);cases hs:S j with
   |false=>simp;omega
   |true=>have:=hcl.bef j y i hy hs hbit;rw [hS]at this;cases this
 .have:=gx_ (S:=S) ops 0 i x.o (hP.op i x hx) (by rw [←hP.kd i x hx];exact hw) (by rw [Nat.zero_add];exact hS)
  rwa [Nat.zero_add]at this
omit [Gl]in
theorem kN_ (hP:PlanOk ops l) (hx:l[i]? =some x) (hw:a7_ x.kd=false):bZ_ (plus S i) ops 0=bZ_ S ops 0:=by
 refine c7_ ops 0 λj o ho hwo=>?_;rw [Nat.zero_add];have:j≠i:=by intro e;subst e;have:=hP.op j x hx;rw [ho]at this;cases this;rw [←hP.kd j x hx,hw]at hwo;cases hwo
 simp [plus,this]
omit [Gl]in
theorem qF_ (hP:PlanOk ops l) (hcl:Cl l ev S) (hx:l[i]? =some x) (hS:S i=false) (hb:∀j,bit x.bef j=true->S j=true):x.lo<=bZ_ S ops 0/\bZ_ S ops 0<=x.hi:=by
 constructor;rw [hP.lo i x hx,oR_];exact jW_ hb ops 0
 .rw [hP.hi i x hx];refine ot_ ops _ 0 (by simp [hP.len]) (λj b o hbj ho hwo hs=>?_) λj j' o o' hjj ho ho' hwo hwo' hs=>?_
  .rw [Nat.zero_add]at hs;rw [List.getElem?_map]at hbj;cases hy:l[j]? with
   |none=>rw [hy]at hbj;cases hbj
   |some y=>
    rw [hy]at hbj;cases hbj;cases hbit:bit y.bef i with
    |false=>rfl
    |true=>have:=hcl.bef j y i hy hs hbit;rw [hS]at this;cases this
  rw [Nat.zero_add]at hs⊢;obtain ⟨y,hy,_,hk⟩:=hX_ hP ho;obtain ⟨y',hy',_,hk'⟩:=hX_ hP ho';exact hcl.bef j' y' j hy' hs (hP.pair j j' y y' hjj hy hy' (.inr ⟨by rw [hk];exact hwo,by rw [hk'];exact hwo'⟩))
end
end Go.Sx
