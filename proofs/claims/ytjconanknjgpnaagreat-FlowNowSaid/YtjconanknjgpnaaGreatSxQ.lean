/-
  A region whose order is open: one operation that may come up now.
-/
import Derived.Test.YtjconanknjgpnaaGreatSxP
set_option linter.unusedVariables false
set_option linter.unusedSimpArgs false
namespace Go.Sx
variable [Gl]
theorem bQ_ {ops:Array Oper} {E:Env} {N:Nat} {R:Tm} {a:Act} {x:SI} {t:Bool} (ht:TRel E N R a.tmps) (h:aM_ ops.toList x R=some t):Region.wanted x.o (yielded ops a.tmps)=t:=by
 unfold aM_ at h
 split at h
 .rename_i hg;cases h;exact cW_ hg a.tmps
 .rename_i g hg;exact eJ_ ht hg h
omit [Gl]in
theorem kC_ {c:OC} {T:Tm} {H:AHeap} {a:AV} (h:ck_ c T H=some a):c.run T H=some (.val a H):=by
 unfold ck_ at h
 unfold OC.run
 split at h
 .cases h;rfl
 .simp only [h]
 .simp only [h]
 .cases h
omit [Gl]in
theorem Rel.reres {B:World} {pr:Nat->Prop} {E:Env} {H:AHeap} {w:World} (h:Rel B pr E H w) {r:Nat->Prop} (hr:∀id,r id->E.φ id=none/\¬(H.next<=id/\id<H.hi)) (hvd:∀id,E.vd id->r id):Rel B pr (E.withRes r) H w where
 own:=by
  obtain ⟨own,h1,h2⟩:=h.own
  refine ⟨own,λid k hk=>?_,h2⟩
  exact (h1 id k hk).imp (λ_ h=>h) (λh=>h) λb o hφ ho hb=>⟨ho,hb.sub (Env.sub_withRes E r) rfl⟩
 imm:=h.imm
 ib:=h.ib
 fresh:=h.fresh
 resv:=hr
 vds:=hvd
 szs:=h.szs
 prot:=h.prot
 size:=h.size
 os:=h.os
 output:=h.output
omit [Gl]in
theorem DRel.sub {P:Program} {E E':Env} (h:E.sub E'):∀{D:Dfs} {ds:List Deferred},DRel P E D ds->DRel P E' D ds
 |[],ds,hd=>hd
 |(f,args)::D,ds,hd=>by
  obtain ⟨vs,r,h1,h2,h3,h4⟩:=hd
  exact ⟨vs,r,h1,h2.sub h,h3,DRel.sub h h4⟩
def wAt (ops:List Oper) (i:Nat):Nat:=b4_ (λj=>decide (j<i)) ops 0
structure Took (l:List SI) (ev:Nat->Evt) (i:Nat) (x:SI) (G G1:AHeap):Prop where
 next:G1.next=G.next
 hi:G1.hi=G.hi
 row:∀id k,G1.get id=some k->G.get id=some k\/∃j y a,l[j]? =some y/\ev j=.row a id k/\bit x.bef j=true/\
  ∀k' y' a',l[k']? =some y'->k'<i->ev k'=.step a'->bit y'.bef j=false
inductive Did (P:Program) (call:CallF) (ops:List Oper) (l:List SI) (ev:Nat->Evt) (idOf:Nat->Nat) (Gs:List AHeap) (dd:Option (Nat×AV×AHeap)) (i:Nat) (x:SI) (R:Tm):Evt->Prop
 |off (hg:aM_ ops x R=some false) (hw:a5_ x.kd=true->∃G,Gs[wAt ops i]? =some G/\Gs[wAt ops i+1]? =some G):Did P call ops l ev idOf Gs dd i x R .off
 |pure {a:AV} (hg:aM_ ops x R=some true) (hk:x.kd=.pure) (h:ck_ (ac_ P x.o) R ⟨hnil,0,0⟩=some a):Did P call ops l ev idOf Gs dd i x R (.val a)
 |read {a:AV} (hg:aM_ ops x R=some true) (hk:x.kd=.read) (h:∀m G,x.lo<=m->m<=x.hi->Gs[m]? =some G->ck_ (ac_ P x.o) R G=some a):Did P call ops l ev idOf Gs dd i x R (.val a)
 |fl {a:AV} {j id:Nat} {y:SI} {c:AV} {b:ABlk} (hg:aM_ ops x R=some true) (hk:x.kd=.read) (hy:l[j]? =some y) (hj:ev j=.row c id b) (hbit:bit x.bef j=true)
   (hno:∀(k:Nat) (y':SI) (a':AV),l[k]? =some y'->k<i->ev k=.step a'->bit y'.bef j=false) (hlater:∀(k:Nat) (y':SI),l[k]? =some y'->i<k->a5_ y'.kd=true->bit y'.bef j=true->bit y'.bef i=true)
   (ht:id<top) (h:ck_ (ac_ P x.o) R ((⟨hnil,0,0⟩:AHeap).set id b)=some a):Did P call ops l ev idOf Gs dd i x R (.val a)
 |mem {a:AV} {b:ABlk} {H':AHeap} (hg:aM_ ops x R=some true) (hk:x.kd=.mem) (h:(ac_ P x.o).run R ⟨hnil,idOf i,Nat.succ (idOf i)⟩=some (.val a H')) (hb:H'.get (idOf i)=some b):
   Did P call ops l ev idOf Gs dd i x R (.row a (idOf i) b)
 |wr {a:AV} {G G1 H':AHeap} (hg:aM_ ops x R=some true) (hk:x.kd=.wr) (h1:Gs[wAt ops i]? =some G) (h2:Gs[wAt ops i+1]? =some H') (ht:Took l ev i x G G1)
   (h:(ac_ P x.o).run R G1=some (.val a H')\/∃f args,(ac_ P x.o).run R G1=some (.call f args)/\call f args G1=some (.ret a H')):Did P call ops l ev idOf Gs dd i x R (.step a)
 |die {v:AV} {G G1 H':AHeap} (hg:aM_ ops x R=some true) (hk:x.kd=.wr) (h1:Gs[wAt ops i]? =some G) (ht:Took l ev i x G G1) (hd:dd=some (i,v,H'))
   (h:((ac_ P x.o).run R G1=some (.pan v)/\H'=G1)\/∃f args,(ac_ P x.o).run R G1=some (.call f args)/\call f args G1=some (.pan v H')):Did P call ops l ev idOf Gs dd i x R .die
structure Facts (P:Program) (call:CallF) (N:Nat) (ops:List Oper) (l:List SI) (ev:Nat->Evt) (T0:Tm) (idOf:Nat->Nat) (Gs:List AHeap) (dd:Option (Nat×AV×AHeap)):Prop where
 each:∀(i:Nat) (x:SI),l[i]? =some x->(ev i=.gone/\∃d v H,dd=some (d,v,H)/\bit x.bef d=true)\/
  ∃u R,b8_ N x.o.dst=.mk u/\(∀t,t<512->tget R t=.opq\/(t∈x.rd/\Sl l ev T0 (λj=>decide (j<i)) t (tget R t)))/\Did P call ops l ev idOf Gs dd i x R (ev i)
 dead:∀d v H,dd=some (d,v,H)->ev d=.die
 row:∀j y a id b,l[j]? =some y->ev j=.row a id b->id=idOf j/\y.kd=.mem
 inj:∀i j x y,l[i]? =some x->l[j]? =some y->x.kd=.mem->y.kd=.mem->idOf i=idOf j->i=j
structure Cl (l:List SI) (ev:Nat->Evt) (S:Nat->Bool):Prop where
 lt:∀i,S i=true->i<l.length
 ev:∀i,S i=true->ev i≠ .gone/\ev i≠ .die
 bef:∀i x j,l[i]? =some x->S i=true->bit x.bef j=true->S j=true
def cl_ (E0:Env) (l:List SI) (idOf:Nat->Nat) (S:Nat->Bool) (id:Nat):Prop:=E0.res id\/∃j x,l[j]? =some x/\S j=false/\x.kd=.mem/\id=idOf j
structure InvE (P:Program) (B:World) (pr:Nat->Prop) (N:Nat) (E0:Env) (D:Dfs) (ops:List Oper) (l:List SI) (ev:Nat->Evt) (T0:Tm) (idOf:Nat->Nat) (Gs:List AHeap)
  (S:Nat->Bool) (a:Act) (w:World) (E:Env) (G H:AHeap):Prop where
 sub:E0.sub E
 res:E.res=cl_ E0 l idOf S
 bim:E.bim=E0.bim
 vd:E.vd=E0.vd
 vd0:∀id,E0.vd id->E0.res id
 gl:GlOk E0
 size:a.tmps.size=N
 dfs:DRel P E0 D a.defers
 slot:∀t,t<512->∃q,Sl l ev T0 S t q/\Con E q (a.tmps.getD t undef)
 g:Gs[b4_ S ops 0]? =some G
 r:Rel B pr E H w
 nx:H.next=G.next
 hi:H.hi=G.hi
 old:∀id k,G.get id=some k->H.get id=some k
 row:∀j y q id b,l[j]? =some y->ev j=.row q id b->S j=true->(∀k y' q',l[k]? =some y'->S k=true->ev k=.step q'->bit y'.bef j=false)->H.get id=some b/\G.get id=none
omit [Gl]in
theorem pn_ {N:Nat} {d:Nat} {u:Tm->AV->Tm} (h:b8_ N (some d)=.mk u):d<N/\d<512:=by
 unfold b8_ at h
 simp only at h
 split at h
 .rename_i hb
  obtain ⟨h1,h2⟩:=aa_ hb
  exact ⟨by simpa [Nat.blt_eq]using h1,by simpa [Nat.blt_eq]using h2⟩
 .cases h
omit [Gl]in
theorem fy_ {a:Act} {d:Nat} {v:Value} (h:d<a.tmps.size):(a.put (some d) v).tmps.getD d undef=v:=by
 simp [Act.put,Array.getD,h]
omit [Gl]in
theorem hC_ {a:Act} {dst:Option Nat} {t:Nat} {v:Value} (h:dst≠some t):(a.put dst v).tmps.getD t undef=a.tmps.getD t undef:=by
 cases dst with
 |none=>rfl
 |some d=>
  have:d≠t:=λe=>h (by rw [e])
  simp only [Act.put,Array.getD_eq_getD_getElem?,Array.getElem?_setIfInBounds]
  rw [if_neg this]
omit [Gl]in
theorem nd_ {a:Act} {dst:Option Nat} {v:Value}:(a.put dst v).tmps.size=a.tmps.size:=by
 cases dst<;>simp [Act.put]
omit [Gl]in
theorem j1_ {x y:SI} {d:Nat} (h1:x.o.dst=some d) (h2:y.o.dst=some d):f2_ x y=true:=by
 unfold f2_
 simp only [h1,h2,Nat.beq_refl,Bool.true_or]
omit [Gl]in
theorem gj_ {t:Nat}:∀{l:List Nat},t∈l->memT t l=true
 |[],h=>by simp at h
 |a::r,h=>by
  unfold memT
  rcases List.mem_cons.1 h with rfl|h
  .simp [Nat.beq_refl]
  .split
   .rfl
   .exact gj_ h
omit [Gl]in
theorem ir_ {x y:SI} {d:Nat} (h1:x.o.dst=some d) (h2:d∈y.rd):f2_ x y=true:=by
 unfold f2_
 simp only [h1]
 split<;>simp [gj_ h2]
omit [Gl]in
theorem ht_ {x y:SI} {d:Nat} (h1:y.o.dst=some d) (h2:d∈x.rd):f2_ x y=true:=by
 unfold f2_
 simp only [h1]
 split<;>simp [gj_ h2]
end Go.Sx
