/-
  A region whose order is open: one run in the order of the text is sound; calls to any depth.
-/
import Derived.Test.YtjconanknjgpnaaGreatSxU
set_option linter.unusedVariables false
set_option linter.unusedSimpArgs false
namespace Go.Sx
variable [Gl]
inductive Did0 (P:Program) (call:CallF) (ops:List Oper) (l:List SI) (ev:Nat->Evt) (idOf:Nat->Nat) (Gs:List AHeap) (rd:List Rd) (dd:Option (Nat×AV×AHeap)) (i:Nat) (x:SI) (R:Tm):Evt->Prop
 |off (hg:aM_ ops x R=some false) (hw:a5_ x.kd=true->∃G,Gs[wAt ops i]? =some G/\Gs[wAt ops i+1]? =some G):Did0 P call ops l ev idOf Gs rd dd i x R .off
 |pure {a:AV} (hg:aM_ ops x R=some true) (hk:x.kd=.pure) (h:ck_ (ac_ P x.o) R ⟨hnil,0,0⟩=some a):Did0 P call ops l ev idOf Gs rd dd i x R (.val a)
 |read {a:AV} {G:AHeap} (hg:aM_ ops x R=some true) (hk:x.kd=.read) (h1:Gs[x.lo]? =some G) (h:ck_ (ac_ P x.o) R G=some a) (hr:Rd.mk R x.o a x.lo x.hi∈rd):Did0 P call ops l ev idOf Gs rd dd i x R (.val a)
 |fl {a:AV} {j id:Nat} {y:SI} {c:AV} {b:ABlk} (hg:aM_ ops x R=some true) (hk:x.kd=.read) (hy:l[j]? =some y) (hj:ev j=.row c id b) (hbit:bit x.bef j=true)
   (hno:∀(k:Nat) (y':SI) (a':AV),l[k]? =some y'->k<i->ev k=.step a'->bit y'.bef j=false) (hlater:∀(k:Nat) (y':SI),l[k]? =some y'->i<k->a5_ y'.kd=true->bit y'.bef j=true->bit y'.bef i=true)
   (ht:id<top) (h:ck_ (ac_ P x.o) R ((⟨hnil,0,0⟩:AHeap).set id b)=some a):Did0 P call ops l ev idOf Gs rd dd i x R (.val a)
 |mem {a:AV} {b:ABlk} {H':AHeap} (hg:aM_ ops x R=some true) (hk:x.kd=.mem) (h:(ac_ P x.o).run R ⟨hnil,idOf i,Nat.succ (idOf i)⟩=some (.val a H')) (hb:H'.get (idOf i)=some b):
   Did0 P call ops l ev idOf Gs rd dd i x R (.row a (idOf i) b)
 |wr {a:AV} {G G1 H':AHeap} (hg:aM_ ops x R=some true) (hk:x.kd=.wr) (h1:Gs[wAt ops i]? =some G) (h2:Gs[wAt ops i+1]? =some H') (ht:Took l ev i x G G1)
   (h:(ac_ P x.o).run R G1=some (.val a H')\/∃f args,(ac_ P x.o).run R G1=some (.call f args)/\call f args G1=some (.ret a H')):Did0 P call ops l ev idOf Gs rd dd i x R (.step a)
 |die {v:AV} {G G1 H':AHeap} (hg:aM_ ops x R=some true) (hk:x.kd=.wr) (h1:Gs[wAt ops i]? =some G) (ht:Took l ev i x G G1) (hd:dd=some (i,v,H'))
   (h:((ac_ P x.o).run R G1=some (.pan v)/\H'=G1)\/∃f args,(ac_ P x.o).run R G1=some (.call f args)/\call f args G1=some (.pan v H')):Did0 P call ops l ev idOf Gs rd dd i x R .die
omit [Gl]in
theorem getElem?_app {α:Type} {l:List α} {m:Nat} {a:α} (h:l[m]? =some a) (r:List α):(l++r)[m]? =some a:=by
 rw [List.getElem?_append_left (List.getElem?_eq_some_iff.1 h).1];exact h
section
variable {P:Program} {call:CallF} {N:Nat} {ops:List Oper} {l:List SI} {T0:Tm} {base:Nat}
omit [Gl]in
theorem Took.congr {ev ev':Nat->Evt} {i:Nat} {x:SI} {G G1:AHeap} (h:Took l ev i x G G1) (hb:∀j,bit x.bef j=true->j<i) (he:∀j,j<i->ev' j=ev j):Took l ev' i x G G1 where
 next:=h.next
 hi:=h.hi
 row:=λid k hk=>by
  rcases h.row id k hk with h|⟨j,y,a,h1,h2,h3,h4⟩
  .exact .inl h
  .exact .inr ⟨j,y,a,h1,by rw [he j (hb j h3)];exact h2,h3,λk' y' a' g1 g2 g3=>h4 k' y' a' g1 g2 (by rw [←he k' g2];exact g3)⟩
theorem Did0.mono {ev ev':Nat->Evt} {idOf:Nat->Nat} {Gs gs:List AHeap} {rd rd':List Rd} {dd dd':Option (Nat×AV×AHeap)} {i:Nat} {x:SI} {R:Tm} {e:Evt} (h:Did0 P call ops l ev idOf Gs rd dd i x R e)
  (hb:∀j,bit x.bef j=true->j<i) (he:∀j,j<i->ev' j=ev j) (hr:∀r∈rd,r∈rd') (hd:∀d,dd=some d->dd'=some d):Did0 P call ops l ev' idOf (Gs++gs) rd' dd' i x R e:=by
 cases h with
 |off hg hw=>exact .off hg λh=>by obtain ⟨G,h1,h2⟩:=hw h;exact ⟨G,getElem?_app h1 _,getElem?_app h2 _⟩
 |pure hg hk h=>exact .pure hg hk h
 |read hg hk h1 h hr'=>exact .read hg hk (getElem?_app h1 _) h (hr _ hr')
 |fl hg hk hy hj hbit hno hlater ht h=>exact .fl hg hk hy (by rw [he _ (hb _ hbit)];exact hj) hbit (λk y' a' g1 g2 g3=>hno k y' a' g1 g2 (by rw [←he k g2];exact g3)) hlater ht h
 |mem hg hk h hb=>exact .mem hg hk h hb
 |wr hg hk h1 h2 ht h=>exact .wr hg hk (getElem?_app h1 _) (getElem?_app h2 _) (ht.congr hb he) h
 |die hg hk h1 ht hd' h=>exact .die hg hk (getElem?_app h1 _) (ht.congr hb he) (hd _ hd') h
structure DInv (P:Program) (call:CallF) (N:Nat) (ops:List Oper) (l:List SI) (T0:Tm) (base i:Nat) (ev:Nat->Evt) (s:DS):Prop where
 slot:∀t,t<512->Sl l ev T0 (λj=>decide (j<i)) t (tget s.T t)
 gs:s.dead=none->s.Gs.length=wAt ops i+1
 gsd:∀d v H,s.dead=some (d,v,H)->ev d=.die/\d<i/\∃y,l[d]? =some y/\a5_ y.kd=true
 fl:∀f∈s.fl,∃y a,l[f.op]? =some y/\f.op<i/\ev f.op=.row a f.id f.b/\∀k y' a',l[k]? =some y'->k<i->ev k=.step a'->bit y'.bef f.op=false
 each:∀(j:Nat) (x:SI),l[j]? =some x->j<i->(ev j=.gone/\∃d v H,s.dead=some (d,v,H)/\bit x.bef d=true)\/
  ∃u R,b8_ N x.o.dst=.mk u/\(∀t,t<512->tget R t=.opq\/(t∈x.rd/\Sl l ev T0 (λk=>decide (k<j)) t (tget R t)))/\Did0 P call ops l ev (a9_ l base) s.Gs s.rd s.dead j x R (ev j)
 row:∀j y a id b,l[j]? =some y->j<i->ev j=.row a id b->id=a9_ l base j/\y.kd=.mem
 ft:∀f∈s.fl,f.id<top
omit [Gl]in
theorem Sl.ev_congr {ev ev':Nat->Evt} {S:Nat->Bool} {t:Nat} {a:AV} (h:Sl l ev T0 S t a) (he:∀j,S j=true->ev' j=ev j):Sl l ev' T0 S t a:=by
 rcases h with ⟨h1,h2⟩|⟨j,x,h1,h2,h3,h4,h5⟩
 .exact .inl ⟨h1,λj x hj hs hd=>by rw [he j hs];exact h2 j x hj hs hd⟩
 .exact .inr ⟨j,x,h1,h2,h3,by rw [he j h2];exact h4,λj' x' hj hs hd hp=>h5 j' x' hj hs hd (by rw [←he j' hs];exact hp)⟩
theorem DInv.congr (hP:PlanOk ops l) {i:Nat} {ev ev':Nat->Evt} {s:DS} (h:DInv P call N ops l T0 base i ev s) (he:∀j,j<i->ev' j=ev j):DInv P call N ops l T0 base i ev' s where
 slot:=λt ht=>(h.slot t ht).ev_congr λj hj=>he j (by simpa using hj)
 gs:=h.gs
 gsd:=λd v H hd=>by
  obtain ⟨h1,h2,h3⟩:=h.gsd d v H hd
  exact ⟨by rw [he d h2];exact h1,h2,h3⟩
 fl:=λf hf=>by
  obtain ⟨y,a,h1,h2,h3,h4⟩:=h.fl f hf
  exact ⟨y,a,h1,h2,by rw [he _ h2];exact h3,λk y' a' g1 g2 g3=>h4 k y' a' g1 g2 (by rw [←he k g2];exact g3)⟩
 each:=λj x hx hj=>by
  rcases h.each j x hx hj with ⟨h1,h2⟩|⟨u,R,h1,h2,h3⟩
  .exact .inl ⟨by rw [he j hj];exact h1,h2⟩
  .refine .inr ⟨u,R,h1,λt ht=>(h2 t ht).imp id λh=>⟨h.1,h.2.ev_congr λk hk=>he k (Nat.lt_trans (by simpa using hk) hj)⟩,?_⟩
   .rw [he j hj]
    have:=h3.mono (gs:=[]) (ev':=ev') (λk hk=>hP.bef_lt j x k hx hk) (λk hk=>he k (by omega)) (λr hr=>hr) (λd hd=>hd)
    rwa [List.append_nil]at this
 row:=λj y a id b hy hj hr=>h.row j y a id b hy hj (by rw [←he j hj];exact hr)
 ft:=h.ft
omit [Gl]in
theorem o6_ (i:Nat):(λj=>decide (j<i+1))=plus (λj=>decide (j<i)) i:=by
 funext j
 unfold plus
 by_cases e:j=i
 .subst e;simp
 .rw [if_neg e];simp;omega
theorem DInv.step (hP:PlanOk ops l) {i:Nat} {ev:Nat->Evt} {s s':DS} {x:SI} (inv:DInv P call N ops l T0 base i ev s) (hx:l[i]? =some x) {gs:List AHeap}
  (hT:s'.T=s.T/\(ev i).put=none\/∃u a,b8_ N x.o.dst=.mk u/\(ev i).put=some a/\s'.T=u s.T a)
  (hGs:s'.Gs=s.Gs++gs) (hlen:s'.dead=none->gs.length=match a5_ x.kd with|true=>1|false=>0)
  (hdd:s'.dead=s.dead\/s.dead=none/\ev i=.die/\a5_ x.kd=true/\∃v H,s'.dead=some (i,v,H))
  (hrd:∀r∈s.rd,r∈s'.rd)
  (hfl:∀f∈s'.fl,(f∈s.fl/\∀a,ev i=.step a->bit x.bef f.op=false)\/(f.op=i/\x.kd=.mem/\∃a,ev i=.row a f.id f.b))
  (heach:(ev i=.gone/\∃d v H,s'.dead=some (d,v,H)/\bit x.bef d=true)\/
    ∃u R,b8_ N x.o.dst=.mk u/\(∀t,t<512->tget R t=.opq\/(t∈x.rd/\tget R t=tget s.T t))/\Did0 P call ops l ev (a9_ l base) s'.Gs s'.rd s'.dead i x R (ev i))
  (hrow:∀a id b,ev i=.row a id b->id=a9_ l base i/\x.kd=.mem) (hft:∀f∈s'.fl,f.id<top):
  DInv P call N ops l T0 base (i+1) ev s' where
 slot:=λt ht=>by
  have h:=inv.slot t ht
  rw [o6_]
  rcases hT with ⟨h1,h2⟩|⟨u,a,h1,h2,h3⟩
  .rw [h1]
   exact h.keep λy hy _=>h2
  .obtain ⟨p1,p2⟩:=eQ_ h1 s.T a ht
   rw [h3]
   by_cases e:x.o.dst=some t
   .rw [p1 e]
    refine Sl.put hx e h2 λj y hj hs hd=>?_
    have:j<i:=by simpa using hs
    omega
   .rw [p2 e]
    refine h.keep λy hy hd=>?_
    rw [hx]at hy;cases hy;exact absurd hd e
 gs:=λhd=>by
  have hd0:s.dead=none:=by
   rcases hdd with h|⟨h,_⟩
   .rw [←h];exact hd
   .exact h
  rw [hGs,List.length_append,inv.gs hd0,hlen hd,si_ hP hx]
  split<;>simp [*]
 gsd:=λd v H hd=>by
  rcases hdd with h|⟨h,h1,h2,v',H',h3⟩
  .rw [h]at hd
   obtain ⟨g1,g2,g3⟩:=inv.gsd d v H hd
   exact ⟨g1,by omega,g3⟩
  .rw [h3]at hd;cases hd
   exact ⟨h1,by omega,x,hx,h2⟩
 fl:=λf hf=>by
  rcases hfl f hf with ⟨h1,h2⟩|⟨h1,hk,a,h2⟩
  .obtain ⟨y,a,g1,g2,g3,g4⟩:=inv.fl f h1
   refine ⟨y,a,g1,by omega,g3,λk y' a' q1 q2 q3=>?_⟩
   by_cases e:k=i
   .subst e;rw [hx]at q1;cases q1;exact h2 a' q3
   .exact g4 k y' a' q1 (by omega) q3
  .refine ⟨x,a,by rw [h1];exact hx,by omega,by rw [h1];exact h2,λk y' a' q1 q2 q3=>?_⟩
   cases hb:bit y'.bef f.op with
   |false=>rfl
   |true=>
    have:=hP.bef_lt k y' _ q1 hb
    have e:k=i:=by omega
    subst e
    rw [h2]at q3;cases q3
 each:=λj y hy hj=>by
  by_cases e:j=i
  .subst e
   rw [hx]at hy;cases hy
   rcases heach with h|⟨u,R,h1,h2,h3⟩
   .exact .inl h
   .exact .inr ⟨u,R,h1,λt ht=>(h2 t ht).imp id λh=>⟨h.1,by rw [h.2];exact inv.slot t ht⟩,h3⟩
  .have hmono:∀d,s.dead=some d->s'.dead=some d:=λd hd=>by
     rcases hdd with h|⟨h,_⟩
     .rw [h];exact hd
     .rw [h]at hd;cases hd
   rcases inv.each j y hy (by omega)with ⟨h1,d,v,H,h2,h3⟩|⟨u,R,h1,h2,h3⟩
   .exact .inl ⟨h1,d,v,H,hmono _ h2,h3⟩
   .rw [hGs]
    exact .inr ⟨u,R,h1,h2,h3.mono (λk hk=>hP.bef_lt j y k hy hk) (λ_ _=>rfl) hrd hmono⟩
 row:=λj y a id b hy hj hr=>by
  by_cases e:j=i
  .subst e;rw [hx]at hy;cases hy;exact hrow a id b hr
  .exact inv.row j y a id b hy (by omega) hr
 ft:=hft
end
end Go.Sx
