/-
  A region whose order is open: how many writers, what stands in the slots.
-/
import Derived.Test.YtjconanknjgpnaaGreatSxO
set_option linter.unusedVariables false
set_option linter.unusedSimpArgs false
namespace Go.Sx
def b4_ (p:Nat->Bool):List Oper->Nat->Nat
 |[],_=>0
 |o::r,k=>match a5_ (bI_ o.op)&&p k with
  |true=>Nat.succ (b4_ p r (Nat.succ k))
  |false=>b4_ p r (Nat.succ k)
theorem o2_ (b:Nat):∀(l:List Oper) (k:Nat),mF_ b l k=b4_ (bit b) l k
 |[],k=>rfl
 |o::r,k=>by
  unfold mF_ b4_
  rw [o2_ b r (Nat.succ k)]
  rfl
theorem j2_ {p q:Nat->Bool} (h:∀k,p k=true->q k=true):∀(l:List Oper) (k:Nat),b4_ p l k<=b4_ q l k
 |[],k=>Nat.le_refl _
 |o::r,k=>by
  unfold b4_
  have ih:=j2_ h r (Nat.succ k)
  cases hw:a5_ (bI_ o.op)with
  |false=>exact ih
  |true=>
   cases hp:p k with
   |false=>
    cases hq:q k with
    |false=>exact ih
    |true=>exact Nat.le_trans ih (Nat.le_succ _)
   |true=>rw [h k hp];exact Nat.succ_le_succ ih
theorem dd_ {p q:Nat->Bool}:∀(l:List Oper) (k:Nat),(∀i o,l[i]? =some o->a5_ (bI_ o.op)=true->p (k+i)=q (k+i))->b4_ p l k=b4_ q l k
 |[],k,h=>rfl
 |o::r,k,h=>by
  unfold b4_
  rw [dd_ (p:=p) (q:=q) r (Nat.succ k) λi o' hi hw=>by
   have:=h (i+1) o' (by simpa using hi) hw
   have e:Nat.succ k+i=k+(i+1):=by omega
   rwa [e]]
  cases hw:a5_ (bI_ o.op)with
  |false=>rfl
  |true=>
   have:=h 0 o rfl hw
   rw [Nat.add_zero]at this
   rw [this]
theorem e3_ {p:Nat->Bool}:∀(l:List Oper) (k:Nat),(∀i o,l[i]? =some o->a5_ (bI_ o.op)=true->p (k+i)=false)->b4_ p l k=0
 |[],k,h=>rfl
 |o::r,k,h=>by
  unfold b4_
  rw [e3_ r (Nat.succ k) λi o' hi hw=>by
   have:=h (i+1) o' (by simpa using hi) hw
   have e:Nat.succ k+i=k+(i+1):=by omega
   rwa [e]]
  cases hw:a5_ (bI_ o.op)with
  |false=>rfl
  |true=>
   have:=h 0 o rfl hw
   rw [Nat.add_zero]at this
   rw [this];rfl
def plus (S:Nat->Bool) (i:Nat):Nat->Bool:=λj=>if j=i then true else S j
theorem gC_ {S:Nat->Bool}:∀(l:List Oper) (k i:Nat) (o:Oper),l[i]? =some o->a5_ (bI_ o.op)=true->S (k+i)=false->b4_ (plus S (k+i)) l k=Nat.succ (b4_ S l k)
 |[],k,i,o,h,hw,hs=>by simp at h
 |a::r,k,0,o,h,hw,hs=>by
  simp at h;subst h
  rw [Nat.add_zero]at hs⊢
  unfold b4_
  have e1:plus S k k=true:=by simp [plus]
  rw [hw,hs,e1]
  simp only [Bool.and_true,Bool.and_false]
  rw [dd_ (p:=plus S k) (q:=S) r (Nat.succ k) λj o' hj hw'=>by
   have:Nat.succ k+j≠k:=by omega
   unfold plus
   rw [if_neg this]]
 |a::r,k,i+1,o,h,hw,hs=>by
  have e:k+(i+1)=Nat.succ k+i:=by omega
  have ih:=gC_ (S:=S) r (Nat.succ k) i o (by simpa using h) hw (by rw [←e];exact hs)
  rw [e]
  unfold b4_
  rw [ih]
  have e1:plus S (Nat.succ k+i) k=S k:=by
   have:k≠Nat.succ k+i:=by omega
   simp [plus,this]
  rw [e1]
  split<;>rfl
theorem oG_ {S:Nat->Bool} {i:Nat}:∀(l:List Oper) (bs:List Nat) (k:Nat),l.length=bs.length->
  (∀j b o,bs[j]? =some b->l[j]? =some o->a5_ (bI_ o.op)=true->S (k+j)=true->bit b i=false)->
  (∀j j' o o',j<j'->l[j]? =some o->l[j']? =some o'->a5_ (bI_ o.op)=true->a5_ (bI_ o'.op)=true->S (k+j')=true->S (k+j)=true)->b4_ S l k<=mx_ i l bs
 |[],bs,k,hl,h1,h2=>Nat.zero_le _
 |o::r,[],k,hl,h1,h2=>by simp at hl
 |o::r,b::bs,k,hl,h1,h2=>by
  have ih:=oG_ (S:=S) (i:=i) r bs (Nat.succ k) (by simpa using hl)
   (λj b' o' hb ho hw hs=>by
    have e:Nat.succ k+j=k+(j+1):=by omega
    exact h1 (j+1) b' o' (by simpa using hb) (by simpa using ho) hw (by rw [←e];exact hs))
   (λj j' o1 o2 hjj h3 h4 h5 h6 h7=>by
    have e:Nat.succ k+j=k+(j+1):=by omega
    have e':Nat.succ k+j'=k+(j'+1):=by omega
    rw [e]
    exact h2 (j+1) (j'+1) o1 o2 (by omega) (by simpa using h3) (by simpa using h4) h5 h6 (by rw [←e'];exact h7))
  unfold b4_ mx_
  cases hw:a5_ (bI_ o.op)with
  |false=>simpa using ih
  |true=>
   cases hs:S k with
   |true=>
    have:=h1 0 b o rfl rfl hw (by simpa using hs)
    rw [this]
    simpa using ih
   |false=>
    have:b4_ S r (Nat.succ k)=0:=e3_ r _ λj o' hj hw'=>by
     cases hsj:S (Nat.succ k+j)with
     |false=>rfl
     |true=>
      have e:Nat.succ k+j=k+(j+1):=by omega
      have:=h2 0 (j+1) o o' (by omega) rfl (by simpa using hj) hw hw' (by rw [←e];exact hsj)
      rw [Nat.add_zero,hs]at this;cases this
    rw [this];simp
inductive Evt where
 |gone
 |off
 |val (a:AV)
 |row (a:AV) (id:Nat) (b:ABlk)
 |step (a:AV)
 |die
def Evt.put:Evt->Option AV
 | .off=>some (.tup [])
 | .val a=>some a
 | .row a _ _=>some a
 | .step a=>some a
 |_=>none
def Sl (l:List SI) (ev:Nat->Evt) (T0:Tm) (S:Nat->Bool) (t:Nat) (a:AV):Prop:=
 (a=tget T0 t/\∀j x,l[j]? =some x->S j=true->x.o.dst=some t->(ev j).put=none)\/
 ∃j x,l[j]? =some x/\S j=true/\x.o.dst=some t/\(ev j).put=some a/\∀j' x',l[j']? =some x'->S j'=true->x'.o.dst=some t->(ev j').put≠none->j'<=j
section
variable {l:List SI} {ev:Nat->Evt} {T0:Tm} {S S':Nat->Bool} {t:Nat} {a a':AV}
theorem Sl.congr (h:Sl l ev T0 S t a) (hc:∀j x,l[j]? =some x->x.o.dst=some t->S j=S' j):Sl l ev T0 S' t a:=by
 rcases h with ⟨h1,h2⟩|⟨j,x,h1,h2,h3,h4,h5⟩
 .exact .inl ⟨h1,λj x hj hs hd=>h2 j x hj (by rw [hc j x hj hd];exact hs) hd⟩
 .exact .inr ⟨j,x,h1,by rw [←hc j x h1 h3];exact h2,h3,h4,λj' x' hj hs hd=>h5 j' x' hj (by rw [hc j' x' hj hd];exact hs) hd⟩
theorem Sl.unique (h:Sl l ev T0 S t a) (h':Sl l ev T0 S t a'):a=a':=by
 rcases h with ⟨h1,h2⟩|⟨j,x,h1,h2,h3,h4,h5⟩<;>rcases h' with ⟨g1,g2⟩|⟨j',x',g1,g2,g3,g4,g5⟩
 .rw [h1,g1]
 .rw [h2 j' x' g1 g2 g3]at g4;cases g4
 .rw [g2 j x h1 h2 h3]at h4;cases h4
 .have e1:=h5 j' x' g1 g2 g3 (by rw [g4];simp)
  have e2:=g5 j x h1 h2 h3 (by rw [h4];simp)
  have:j=j':=by omega
  subst this
  rw [h4]at g4;cases g4;rfl
theorem Sl.put {i:Nat} {x:SI} (hx:l[i]? =some x) (hd:x.o.dst=some t) (he:(ev i).put=some a) (hlast:∀j y,l[j]? =some y->S j=true->y.o.dst=some t->j<=i):Sl l ev T0 (plus S i) t a:=by
 refine .inr ⟨i,x,hx,by simp [plus],hd,he,λj' x' hj hs hd' _=>?_⟩
 by_cases e:j'=i
 .omega
 .exact hlast j' x' hj (by simpa [plus,e]using hs) hd'
theorem Sl.keep {i:Nat} (h:Sl l ev T0 S t a) (hk:∀x,l[i]? =some x->x.o.dst=some t->(ev i).put=none):Sl l ev T0 (plus S i) t a:=by
 rcases h with ⟨h1,h2⟩|⟨j,x,h1,h2,h3,h4,h5⟩
 .refine .inl ⟨h1,λj x hj hs hd=>?_⟩
  by_cases e:j=i
  .subst e;exact hk x hj hd
  .exact h2 j x hj (by simpa [plus,e]using hs) hd
 .refine .inr ⟨j,x,h1,?_,h3,h4,λj' x' hj hs hd hp=>?_⟩
  .unfold plus;split
   .rfl
   .exact h2
  .by_cases e:j'=i
   .subst e;exact absurd (hk x' hj hd) hp
   .exact h5 j' x' hj (by simpa [plus,e]using hs) hd hp
end
end Go.Sx
