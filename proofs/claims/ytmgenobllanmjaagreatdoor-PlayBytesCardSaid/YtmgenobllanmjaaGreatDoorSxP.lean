/-
  A region whose order is open: how many writers, what stands in the slots.
-/
import Derived.Test.YtmgenobllanmjaaGreatDoorSxM
set_option linter.unusedVariables false
set_option linter.unusedSimpArgs false
namespace Go.Sx
def cc_ (p:Nat->Bool):List Oper->Nat->Nat
 |[],_=>0
 |o::r,k=>match bf_ (bN_ o.op)&&p k with
  |true=>Nat.succ (cc_ p r (Nat.succ k))
  |false=>cc_ p r (Nat.succ k)
theorem pk_ (b:Nat):∀(l:List Oper) (k:Nat),mS_ b l k=cc_ (bit b) l k
 |[],k=>rfl
 |o::r,k=>by unfold mS_ cc_;rw [pk_ b r (Nat.succ k)];rfl
theorem kt_ {p q:Nat->Bool} (h:∀k,p k=true->q k=true):∀(l:List Oper) (k:Nat),cc_ p l k<=cc_ q l k
 |[],k=>Nat.le_refl _
 |o::r,k=>by
  unfold cc_;have ih:=kt_ h r (Nat.succ k)
  grind
theorem db_ {p q:Nat->Bool}:∀(l:List Oper) (k:Nat),(∀i o,l[i]? =some o->bf_ (bN_ o.op)=true->p (k+i)=q (k+i))->cc_ p l k=cc_ q l k
 |[],k,h=>rfl
 |o::r,k,h=>by
  unfold cc_;rw [db_ (p:=p) (q:=q) r (Nat.succ k) λi o' hi hw=>by
   have:=h (i+1) o' (by grind) hw
   grind]
  cases hw:bf_ (bN_ o.op)with
  |false=>rfl
  |true=>
   have:=h 0 o rfl hw
   grind
theorem fc_ {p:Nat->Bool}:∀(l:List Oper) (k:Nat),(∀i o,l[i]? =some o->bf_ (bN_ o.op)=true->p (k+i)=false)->cc_ p l k=0
 |[],k,h=>rfl
 |o::r,k,h=>by
  unfold cc_;rw [fc_ r (Nat.succ k) λi o' hi hw=>by
   have:=h (i+1) o' (by grind) hw
   grind]
  cases hw:bf_ (bN_ o.op)with
  |false=>rfl
  |true=>
   have:=h 0 o rfl hw
   grind
def plus (S:Nat->Bool) (i:Nat):Nat->Bool:=λj=>if j=i then true else S j
theorem gR_ {S:Nat->Bool}:∀(l:List Oper) (k i:Nat) (o:Oper),l[i]? =some o->bf_ (bN_ o.op)=true->S (k+i)=false->cc_ (plus S (k+i)) l k=Nat.succ (cc_ S l k)
 |[],k,i,o,h,hw,hs=>by simp at h
 |a::r,k,0,o,h,hw,hs=>by simp at h;subst h;rw [Nat.add_zero]at hs⊢;unfold cc_;have e1:plus S k k=true:=(by simp [plus]);rw [hw,hs,e1];simp only [Bool.and_true,Bool.and_false];rw [db_ (p:=plus S k) (q:=S) r (Nat.succ k) λj o' hj hw'=>by have:Nat.succ k+j≠k:=(by omega);simp_all [plus]]
 |a::r,k,i+1,o,h,hw,hs=>by
  have e:k+(i+1)=Nat.succ k+i:=(by omega);have ih:=gR_ (S:=S) r (Nat.succ k) i o (by simpa using h) hw (by grind)
  grind [cc_,plus]
theorem oR_ {S:Nat->Bool} {i:Nat}:∀(l:List Oper) (bs:List Nat) (k:Nat),l.length=bs.length->
  (∀j b o,bs[j]? =some b->l[j]? =some o->bf_ (bN_ o.op)=true->S (k+j)=true->bit b i=false)->
  (∀j j' o o',j<j'->l[j]? =some o->l[j']? =some o'->bf_ (bN_ o.op)=true->bf_ (bN_ o'.op)=true->S (k+j')=true->S (k+j)=true)->cc_ S l k<=mL_ i l bs
 |[],bs,k,hl,h1,h2=>Nat.zero_le _
 |o::r,[],k,hl,h1,h2=>by simp at hl
 |o::r,b::bs,k,hl,h1,h2=>by
  have ih:=oR_ (S:=S) (i:=i) r bs (Nat.succ k) (by grind)
   (λj b' o' hb ho hw hs=>by have e:Nat.succ k+j=k+(j+1):=(by omega);exact h1 (j+1) b' o' (by grind) (by grind) hw (by grind))
   (λj j' o1 o2 hjj h3 h4 h5 h6 h7=>by have e:Nat.succ k+j=k+(j+1):=(by omega);have e':Nat.succ k+j'=k+(j'+1):=(by omega);rw [e];exact h2 (j+1) (j'+1) o1 o2 (by omega) (by grind) (by grind) h5 h6 (by grind))
  unfold cc_ mL_;cases hw:bf_ (bN_ o.op)with
  |false=>grind
  |true=>
   cases hs:S k with
   |true=>
    have:=h1 0 b o rfl rfl hw (by grind)
    grind
   |false=>
    have:cc_ S r (Nat.succ k)=0:=fc_ r _ λj o' hj hw'=>by
     cases hsj:S (Nat.succ k+j)with
     |false=>rfl
     |true=>
      have e:Nat.succ k+j=k+(j+1):=(by omega);have:=h2 0 (j+1) o o' (by omega) rfl (by grind) hw hw' (by grind)
      grind
    grind
inductive Evt where
 |gone
 |off
 |val (a:AV)
 |row (a:AV) (id:Nat) (b:ABlk)
 |step (a:AV)
 |die
def Evt.put:Evt->Option AV
 | .off=>some (.tup [])
 | .val a=>some a
 | .row a _ _=>some a
 | .step a=>some a
 |_=>none
def Sl (l:List SI) (ev:Nat->Evt) (T0:Tm) (S:Nat->Bool) (t:Nat) (a:AV):Prop:=
 (a=tget T0 t/\∀j x,l[j]? =some x->S j=true->x.o.dst=some t->(ev j).put=none)\/
 ∃j x,l[j]? =some x/\S j=true/\x.o.dst=some t/\(ev j).put=some a/\∀j' x',l[j']? =some x'->S j'=true->x'.o.dst=some t->(ev j').put≠none->j'<=j
section
variable {l:List SI} {ev:Nat->Evt} {T0:Tm} {S S':Nat->Bool} {t:Nat} {a a':AV}
theorem Sl.congr (h:Sl l ev T0 S t a) (hc:∀j x,l[j]? =some x->x.o.dst=some t->S j=S' j):Sl l ev T0 S' t a:=by rcases h with ⟨h1,h2⟩|⟨j,x,h1,h2,h3,h4,h5⟩;exact .inl ⟨h1,λj x hj hs hd=>h2 j x hj (by grind) hd⟩;exact .inr ⟨j,x,h1,by grind,h3,h4,λj' x' hj hs hd=>h5 j' x' hj (by grind) hd⟩
theorem Sl.unique (h:Sl l ev T0 S t a) (h':Sl l ev T0 S t a'):a=a':=by rcases h with ⟨h1,h2⟩|⟨j,x,h1,h2,h3,h4,h5⟩<;>rcases h' with ⟨g1,g2⟩|⟨j',x',g1,g2,g3,g4,g5⟩<;>grind
theorem Sl.put {i:Nat} {x:SI} (hx:l[i]? =some x) (hd:x.o.dst=some t) (he:(ev i).put=some a) (hlast:∀j y,l[j]? =some y->S j=true->y.o.dst=some t->j<=i):Sl l ev T0 (plus S i) t a:=by
 refine .inr ⟨i,x,hx,by simp [plus],hd,he,λj' x' hj hs hd' _=>?_⟩
 grind [plus]
theorem Sl.keep {i:Nat} (h:Sl l ev T0 S t a) (hk:∀x,l[i]? =some x->x.o.dst=some t->(ev i).put=none):Sl l ev T0 (plus S i) t a:=by
 rcases h with ⟨h1,h2⟩|⟨j,x,h1,h2,h3,h4,h5⟩
 .refine .inl ⟨h1,λj x hj hs hd=>?_⟩
  grind [plus]
 .refine .inr ⟨j,x,h1,?_,h3,h4,λj' x' hj hs hd hp=>?_⟩<;>grind [plus]
end
variable [Gl]
theorem bR_ {ops:Array Oper} {E:Env} {N:Nat} {R:Tm} {a:Act} {x:SI} {t:Bool} (ht:TRel E N R a.tmps) (h:aK_ ops.toList x R=some t):Region.wanted x.o (yielded ops a.tmps)=t:=by
 grind [aK_,cZ_,eO_]
omit [Gl]in
theorem kZ_ {c:OC} {T:Tm} {H:AHeap} {a:AV} (h:cn_ c T H=some a):c.run T H=some (.val a H):=by
 unfold cn_ at h
 grind [OC.run]
omit [Gl]in
theorem Rel.reres {B:World} {pr:Nat->Prop} {E:Env} {H:AHeap} {w:World} (h:Rel B pr E H w) {r:Nat->Prop} (hr:∀id,r id->E.φ id=none/\¬(H.next<=id/\id<H.hi)) (hvd:∀id,E.vd id->r id):Rel B pr (E.withRes r) H w where
 own:=by obtain ⟨own,h1,h2⟩:=h.own;refine ⟨own,λid k hk=>?_,h2⟩;exact (h1 id k hk).imp (λ_ h=>h) (λh=>h) λb o hφ ho hb=>⟨ho,hb.sub (Env.sub_withRes E r) rfl⟩
 imm:=h.imm
 ib:=h.ib
 fresh:=h.fresh
 resv:=hr
 vds:=hvd
 szs:=h.szs
 prot:=h.prot
 size:=h.size
 os:=h.os
 output:=h.output
omit [Gl]in
theorem DRel.sub {P:Program} {E E':Env} (h:E.sub E'):∀{D:Dfs} {ds:List Deferred},DRel P E D ds->DRel P E' D ds
 |[],ds,hd=>hd
 |(f,args)::D,ds,hd=>by obtain ⟨vs,r,h1,h2,h3,h4⟩:=hd;exact ⟨vs,r,h1,h2.sub h,h3,DRel.sub h h4⟩
def wAt (ops:List Oper) (i:Nat):Nat:=cc_ (λj=>decide (j<i)) ops 0
structure Took (l:List SI) (ev:Nat->Evt) (i:Nat) (x:SI) (G G1:AHeap):Prop where
 next:G1.next=G.next
 hi:G1.hi=G.hi
 row:∀id k,G1.get id=some k->G.get id=some k\/∃j y a,l[j]? =some y/\ev j=.row a id k/\bit x.bef j=true/\
  ∀k' y' a',l[k']? =some y'->k'<i->ev k'=.step a'->bit y'.bef j=false
inductive Did (P:Program) (call:CallF) (ops:List Oper) (l:List SI) (ev:Nat->Evt) (idOf:Nat->Nat) (Gs:List AHeap) (dd:Option (Nat×AV×AHeap)) (i:Nat) (x:SI) (R:Tm):Evt->Prop
 |off (hg:aK_ ops x R=some false) (hw:bf_ x.kd=true->∃G,Gs[wAt ops i]? =some G/\Gs[wAt ops i+1]? =some G):Did P call ops l ev idOf Gs dd i x R .off
 |pure {a:AV} (hg:aK_ ops x R=some true) (hk:x.kd=.pure) (h:cn_ (ac_ P x.o) R ⟨hnil,0,0⟩=some a):Did P call ops l ev idOf Gs dd i x R (.val a)
 |read {a:AV} (hg:aK_ ops x R=some true) (hk:x.kd=.read) (h:∀m G,x.lo<=m->m<=x.hi->Gs[m]? =some G->cn_ (ac_ P x.o) R G=some a):Did P call ops l ev idOf Gs dd i x R (.val a)
 |fl {a:AV} {j id:Nat} {y:SI} {c:AV} {b:ABlk} (hg:aK_ ops x R=some true) (hk:x.kd=.read) (hy:l[j]? =some y) (hj:ev j=.row c id b) (hbit:bit x.bef j=true)
   (hno:∀(k:Nat) (y':SI) (a':AV),l[k]? =some y'->k<i->ev k=.step a'->bit y'.bef j=false) (hlater:∀(k:Nat) (y':SI),l[k]? =some y'->i<k->bf_ y'.kd=true->bit y'.bef j=true->bit y'.bef i=true)
   (ht:id<top) (h:cn_ (ac_ P x.o) R ((⟨hnil,0,0⟩:AHeap).set id b)=some a):Did P call ops l ev idOf Gs dd i x R (.val a)
 |mem {a:AV} {b:ABlk} {H':AHeap} (hg:aK_ ops x R=some true) (hk:x.kd=.mem) (h:(ac_ P x.o).run R ⟨hnil,idOf i,Nat.succ (idOf i)⟩=some (.val a H')) (hb:H'.get (idOf i)=some b):
   Did P call ops l ev idOf Gs dd i x R (.row a (idOf i) b)
 |wr {a:AV} {G G1 H':AHeap} (hg:aK_ ops x R=some true) (hk:x.kd=.wr) (h1:Gs[wAt ops i]? =some G) (h2:Gs[wAt ops i+1]? =some H') (ht:Took l ev i x G G1)
   (h:(ac_ P x.o).run R G1=some (.val a H')\/∃f args,(ac_ P x.o).run R G1=some (.call f args)/\call f args G1=some (.ret a H')):Did P call ops l ev idOf Gs dd i x R (.step a)
 |die {v:AV} {G G1 H':AHeap} (hg:aK_ ops x R=some true) (hk:x.kd=.wr) (h1:Gs[wAt ops i]? =some G) (ht:Took l ev i x G G1) (hd:dd=some (i,v,H'))
   (h:((ac_ P x.o).run R G1=some (.pan v)/\H'=G1)\/∃f args,(ac_ P x.o).run R G1=some (.call f args)/\call f args G1=some (.pan v H')):Did P call ops l ev idOf Gs dd i x R .die
structure Facts (P:Program) (call:CallF) (N:Nat) (ops:List Oper) (l:List SI) (ev:Nat->Evt) (T0:Tm) (idOf:Nat->Nat) (Gs:List AHeap) (dd:Option (Nat×AV×AHeap)):Prop where
 each:∀(i:Nat) (x:SI),l[i]? =some x->(ev i=.gone/\∃d v H,dd=some (d,v,H)/\bit x.bef d=true)\/
  ∃u R,bT_ N x.o.dst=.mk u/\(∀t,t<512->tget R t=.opq\/(t∈x.rd/\Sl l ev T0 (λj=>decide (j<i)) t (tget R t)))/\Did P call ops l ev idOf Gs dd i x R (ev i)
 dead:∀d v H,dd=some (d,v,H)->ev d=.die
 row:∀j y a id b,l[j]? =some y->ev j=.row a id b->id=idOf j/\y.kd=.mem
 inj:∀i j x y,l[i]? =some x->l[j]? =some y->x.kd=.mem->y.kd=.mem->idOf i=idOf j->i=j
structure Cl (l:List SI) (ev:Nat->Evt) (S:Nat->Bool):Prop where
 lt:∀i,S i=true->i<l.length
 ev:∀i,S i=true->ev i≠ .gone/\ev i≠ .die
 bef:∀i x j,l[i]? =some x->S i=true->bit x.bef j=true->S j=true
def b9_ (E0:Env) (l:List SI) (idOf:Nat->Nat) (S:Nat->Bool) (id:Nat):Prop:=E0.res id\/∃j x,l[j]? =some x/\S j=false/\x.kd=.mem/\id=idOf j
structure InvE (P:Program) (B:World) (pr:Nat->Prop) (N:Nat) (E0:Env) (D:Dfs) (ops:List Oper) (l:List SI) (ev:Nat->Evt) (T0:Tm) (idOf:Nat->Nat) (Gs:List AHeap)
  (S:Nat->Bool) (a:Act) (w:World) (E:Env) (G H:AHeap):Prop where
 sub:E0.sub E
 res:E.res=b9_ E0 l idOf S
 bim:E.bim=E0.bim
 vd:E.vd=E0.vd
 vd0:∀id,E0.vd id->E0.res id
 gl:GlOk E0
 size:a.tmps.size=N
 dfs:DRel P E0 D a.defers
 slot:∀t,t<512->∃q,Sl l ev T0 S t q/\Con E q (a.tmps.getD t undef)
 g:Gs[cc_ S ops 0]? =some G
 r:Rel B pr E H w
 nx:H.next=G.next
 hi:H.hi=G.hi
 old:∀id k,G.get id=some k->H.get id=some k
 row:∀j y q id b,l[j]? =some y->ev j=.row q id b->S j=true->(∀k y' q',l[k]? =some y'->S k=true->ev k=.step q'->bit y'.bef j=false)->H.get id=some b/\G.get id=none
omit [Gl]in
theorem pG_ {N:Nat} {d:Nat} {u:Tm->AV->Tm} (h:bT_ N (some d)=.mk u):d<N/\d<512:=by unfold bT_ at h;simp only at h;split at h<;>simp_all
omit [Gl]in
theorem fL_ {a:Act} {d:Nat} {v:Value} (h:d<a.tmps.size):(a.put (some d) v).tmps.getD d undef=v:=by simp_all [Act.put]
omit [Gl]in
theorem hK_ {a:Act} {dst:Option Nat} {t:Nat} {v:Value} (h:dst≠some t):(a.put dst v).tmps.getD t undef=a.tmps.getD t undef:=by
 cases dst with
 |none=>rfl
 |some d=>simp_all [Act.put]
omit [Gl]in
theorem np_ {a:Act} {dst:Option Nat} {v:Value}:(a.put dst v).tmps.size=a.tmps.size:=by cases dst<;>simp [Act.put]
omit [Gl]in
theorem ks_ {x y:SI} {d:Nat} (h1:x.o.dst=some d) (h2:y.o.dst=some d):hA_ x y=true:=by simp_all [hA_]
omit [Gl]in
theorem gz_ {t:Nat}:∀{l:List Nat},t∈l->memT t l=true
 |[],h=>by simp at h
 |a::r,h=>by unfold memT;rcases List.mem_cons.1 h with rfl|h;simp [Nat.beq_refl];split;rfl;exact gz_ h
omit [Gl]in
theorem iF_ {x y:SI} {d:Nat} (h1:x.o.dst=some d) (h2:d∈y.rd):hA_ x y=true:=by
 grind [hA_,gz_]
omit [Gl]in
theorem hB_ {x y:SI} {d:Nat} (h1:y.o.dst=some d) (h2:d∈x.rd):hA_ x y=true:=by
 grind [hA_,gz_]
end Go.Sx
namespace Go.Sx
variable [Gl]
section
variable {P:Program} {call:CallF} {N:Nat} {B:World} {pr:Nat->Prop} {E0:Env} {D:Dfs} {ops:List Oper} {l:List SI} {ev:Nat->Evt} {T0:Tm} {idOf:Nat->Nat} {Gs:List AHeap}
 {dd:Option (Nat×AV×AHeap)} {S:Nat->Bool} {a:Act} {w:World} {E:Env} {G H:AHeap} {i:Nat} {x:SI}
theorem InvE.trel (inv:InvE P B pr N E0 D ops l ev T0 idOf Gs S a w E G H) (hP:PlanOk ops l) (hN:N<=512) (hcl:Cl l ev S) (hx:l[i]? =some x) (hS:S i=false) (hb:∀j,bit x.bef j=true->S j=true)
  {R:Tm} (hR:∀t,t<512->tget R t=.opq\/(t∈x.rd/\Sl l ev T0 (λj=>decide (j<i)) t (tget R t))):TRel E N R a.tmps:=by
 refine ⟨inv.size,hN,λt ht=>?_,inv.gl.sub inv.sub⟩;rcases hR t ht with h|⟨h1,h2⟩;rw [h];simp [Con]
 .obtain ⟨q,h3,h4⟩:=inv.slot t ht;have:Sl l ev T0 S t (tget R t):=h2.congr λj y hj hd=>by
   rcases Nat.lt_trichotomy j i with hlt|rfl|hgt
   .have:=hb j (hP.pair j i y x hlt hj hx (.inl (iF_ hd h1)))
    grind
   rw [hS];simp
   .have hbit:=hP.pair i j x y hgt hx hj (.inl (hB_ hd h1));cases hs:S j with
    |false=>simp;omega
    |true=>have:=hcl.bef j y i hj hs hbit;grind
  rw [this.unique h3];exact h4
theorem InvE.slot_put (inv:InvE P B pr N E0 D ops l ev T0 idOf Gs S a w E G H) (hP:PlanOk ops l) (hcl:Cl l ev S) (hx:l[i]? =some x) (hS:S i=false) {u:Tm->AV->Tm} (hu:bT_ N x.o.dst=.mk u)
  {q:AV} (hq:(ev i).put=some q) {E':Env} (hs:E.sub E') {v:Value} (hc:Con E' q v):
  ∀t,t<512->∃q',Sl l ev T0 (plus S i) t q'/\Con E' q' ((a.put x.o.dst v).tmps.getD t undef):=by
 intro t ht;by_cases hd:x.o.dst=some t
 .refine ⟨q,Sl.put hx hd hq λj y hj hsj hdj=>?_,?_⟩
  .rcases Nat.lt_or_ge i j with hgt|hle
   .have hbit:=hP.pair i j x y hgt hx hj (.inl (ks_ hd hdj));have:=hcl.bef j y i hj hsj hbit
    grind
   exact hle
  rw [hd]at hu⊢;rw [fL_ (by rw [inv.size];exact (pG_ hu).1)];exact hc
 .obtain ⟨q',h1,h2⟩:=inv.slot t ht;refine ⟨q',h1.keep λy hy hdy=>?_,?_⟩
  .grind
  rw [hK_ hd];exact h2.sub hs
omit [Gl]in
theorem Cl.plus (hcl:Cl l ev S) (hx:l[i]? =some x) (hb:∀j,bit x.bef j=true->S j=true) (he:ev i≠ .gone/\ev i≠ .die):Cl l ev (plus S i) where
 lt:=λj hj=>by
  by_cases e:j=i
  .grind
  exact hcl.lt j (by grind [Sx.plus])
 ev:=λj hj=>by
  by_cases e:j=i
  .grind
  exact hcl.ev j (by grind [Sx.plus])
 bef:=λj y k hy hj hk=>by
  by_cases e:j=i
  .grind [Sx.plus]
  .have:=hcl.bef j y k hy (by grind [Sx.plus]) hk
   grind [Sx.plus]
omit [Gl]in
theorem ik_ (hP:PlanOk ops l) {j:Nat} {o:Oper} (ho:ops[j]? =some o):∃y,l[j]? =some y/\y.o=o/\y.kd=bN_ o.op:=by
 have:j<l.length:=by rw [hP.len];grind
 refine ⟨l[j],by simp [this],?_,?_⟩
 .have:=hP.op j l[j] (by simp [this]);grind
 have h1:=hP.op j l[j] (by simp [this]);rw [ho]at h1;cases h1;exact hP.kd j l[j] (by simp [this])
omit [Gl]in
theorem lj_ (hP:PlanOk ops l) (hcl:Cl l ev S) (hx:l[i]? =some x) (hS:S i=false) (hb:∀j,bit x.bef j=true->S j=true) (hw:bf_ x.kd=true):
  wAt ops i=cc_ S ops 0/\cc_ (plus S i) ops 0=cc_ S ops 0+1:=by
 constructor
 .refine db_ ops 0 λj o ho hwo=>?_;rw [Nat.zero_add];obtain ⟨y,hy,_,hk⟩:=ik_ hP ho;have hwy:bf_ y.kd=true:=(by grind);rcases Nat.lt_trichotomy j i with hlt|rfl|hgt;simp [hlt,hb j (hP.pair j i y x hlt hy hx (.inr ⟨hwy,hw⟩))];rw [hS];simp
  .have hbit:=hP.pair i j x y hgt hx hy (.inr ⟨hw,hwy⟩);cases hs:S j with
   |false=>simp;omega
   |true=>have:=hcl.bef j y i hy hs hbit;grind
 .have:=gR_ (S:=S) ops 0 i x.o (hP.op i x hx) (by rw [←hP.kd i x hx];exact hw) (by grind)
  grind
omit [Gl]in
theorem li_ (hP:PlanOk ops l) (hx:l[i]? =some x) (hw:bf_ x.kd=false):cc_ (plus S i) ops 0=cc_ S ops 0:=by
 refine db_ ops 0 λj o ho hwo=>?_;have:j≠i:=by intro e;subst e;have:=hP.op j x hx;rw [ho]at this;cases this;rw [←hP.kd j x hx,hw]at hwo;cases hwo
 simp [plus,this]
omit [Gl]in
theorem rd_ (hP:PlanOk ops l) (hcl:Cl l ev S) (hx:l[i]? =some x) (hS:S i=false) (hb:∀j,bit x.bef j=true->S j=true):x.lo<=cc_ S ops 0/\cc_ S ops 0<=x.hi:=by
 constructor;rw [hP.lo i x hx,pk_];exact kt_ hb ops 0
 .rw [hP.hi i x hx];refine oR_ ops _ 0 (by simp [hP.len]) (λj b o hbj ho hwo hs=>?_) λj j' o o' hjj ho ho' hwo hwo' hs=>?_
  .rw [Nat.zero_add]at hs;rw [List.getElem?_map]at hbj;cases hy:l[j]? with
   |none=>grind
   |some y=>
    rw [hy]at hbj;cases hbj;cases hbit:bit y.bef i with
    |false=>rfl
    |true=>have:=hcl.bef j y i hy hs hbit;grind
  rw [Nat.zero_add]at hs⊢;obtain ⟨y,hy,_,hk⟩:=ik_ hP ho;obtain ⟨y',hy',_,hk'⟩:=ik_ hP ho';exact hcl.bef j' y' j hy' hs (hP.pair j j' y y' hjj hy hy' (.inr ⟨by grind,by grind⟩))
end
end Go.Sx
