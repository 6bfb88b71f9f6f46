/-
  A region whose order is open: a step of each kind.
-/
import Derived.Test.YtmgenobllanmjaaGreatDoorSxP
set_option linter.unusedVariables false
set_option linter.unusedSimpArgs false
namespace Go.Sx
variable [Gl]
section
variable {P:Program} {call:CallF} {N:Nat} {B:World} {pr:Nat->Prop} {E0:Env} {D:Dfs} {ops:Array Oper} {l:List SI} {ev:Nat->Evt} {T0:Tm} {idOf:Nat->Nat} {Gs:List AHeap}
 {dd:Option (Nat×AV×AHeap)} {S:Nat->Bool} {a:Act} {w:World} {E:Env} {G H:AHeap} {i:Nat} {x:SI}
omit [Gl]in
theorem em_ (id:Nat) (h:b9_ E0 l idOf (plus S i) id):b9_ E0 l idOf S id:=by
 grind [plus,b9_]
def nM_ (ops:List Oper) (l:List SI) (ev:Nat->Evt) (S:Nat->Bool) (G H:AHeap):Prop:=
 ∀j y q id b,l[j]? =some y->ev j=.row q id b->S j=true->(∀k y' q',l[k]? =some y'->S k=true->ev k=.step q'->bit y'.bef j=false)->H.get id=some b/\G.get id=none
omit [Gl]in
theorem InvE.vdR [Gl] {S':Nat->Bool} (inv:InvE P B pr N E0 D ops.toList l ev T0 idOf Gs S a w E G H) (id:Nat) (h:E.vd id):b9_ E0 l idOf S' id:=.inl (inv.vd0 id (by rw [←inv.vd];exact h))
theorem InvE.next (inv:InvE P B pr N E0 D ops.toList l ev T0 idOf Gs S a w E G H) (hP:PlanOk ops.toList l) (hcl:Cl l ev S) (hx:l[i]? =some x) (hS:S i=false) {u:Tm->AV->Tm} (hu:bT_ N x.o.dst=.mk u)
  {q:AV} (hq:(ev i).put=some q) {E':Env} (hs:E.sub E') {v:Value} (hc:Con E' q v) {w':World} {G' H':AHeap}
  (hr:Rel B pr (E'.re (b9_ E0 l idOf (plus S i)) E.bim E.vd) H' w') (hg:Gs[cc_ (plus S i) ops.toList 0]? =some G') (hnx:H'.next=G'.next) (hhi:H'.hi=G'.hi)
  (hold:∀id k,G'.get id=some k->H'.get id=some k) (hrow:nM_ ops.toList l ev (plus S i) G' H'):
  InvE P B pr N E0 D ops.toList l ev T0 idOf Gs (plus S i) (a.put x.o.dst v) w' (E'.re (b9_ E0 l idOf (plus S i)) E.bim E.vd) G' H' where
 sub:=Env.sub_trans inv.sub (Env.sub_trans hs (Env.sub_re _ _ _ _))
 res:=rfl
 bim:=inv.bim
 vd:=inv.vd
 vd0:=inv.vd0
 gl:=inv.gl
 size:=by rw [np_];exact inv.size
 dfs:=by rw [Act.put_defers'];exact inv.dfs
 slot:=λt ht=>by obtain ⟨q',h1,h2⟩:=inv.slot_put hP hcl hx hS hu hq hs hc t ht;exact ⟨q',h1,h2.sub (Env.sub_re _ _ _ _)⟩
 g:=hg
 r:=hr
 nx:=hnx
 hi:=hhi
 old:=hold
 row:=hrow
omit [Gl]in
theorem k0_ (hx:l[i]? =some x) (h:nM_ ops.toList l ev S G H) (hne:∀q id b,ev i≠ .row q id b) {H':AHeap} (hold:∀id k,H.get id=some k->H'.get id=some k):nM_ ops.toList l ev (plus S i) G H':=by
 intro j y q id b hy he hj hk;have hji:j≠i:=by grind
 obtain ⟨h1,h2⟩:=h j y q id b hy he (by grind [plus]) λk y' q' h3 h4 h5=>hk k y' q' h3 (by grind [plus]) h5
 grind
def jZ_ (P:Program) (B:World) (pr:Nat->Prop) (N:Nat) (E0:Env) (D:Dfs) (ops:List Oper) (l:List SI) (ev:Nat->Evt) (T0:Tm) (idOf:Nat->Nat) (Gs:List AHeap) (S:Nat->Bool) (a:Act) (w:World):Prop:=
 ∃E G H,InvE P B pr N E0 D ops l ev T0 idOf Gs S a w E G H
omit [Gl]in
theorem nI_ {Q:Exit->Act->World->Prop} {K:Act->World->Prop} {o:Oper} (ho:ops[i]? =some o) (hw:Region.wanted o (yielded ops a.tmps)=false) (h:K (a.put o.dst undef) w):wpOp P ops Q i K a w:=by simp_all [wpOp]
omit [Gl]in
theorem eo_ {Q:Exit->Act->World->Prop} {K:Act->World->Prop} {o:Oper} (ho:ops[i]? =some o) (hw:Region.wanted o (yielded ops a.tmps)=true) (h:o.wp P a w K Q):wpOp P ops Q i K a w:=by simp_all [wpOp]
omit [Gl]in
theorem dh_ (hP:PlanOk ops.toList l) (hx:l[i]? =some x):ops[i]? =some x.o:=by
 have:=hP.op i x hx
 grind
theorem sr_ {R:Tm} {Q:Exit->Act->World->Prop} (inv:InvE P B pr N E0 D ops.toList l ev T0 idOf Gs S a w E G H) (hP:PlanOk ops.toList l) (hN:N<=512) (hcl:Cl l ev S) (hx:l[i]? =some x) (hS:S i=false)
  (hb:∀j,bit x.bef j=true->S j=true) {u:Tm->AV->Tm} (hu:bT_ N x.o.dst=.mk u) (hR:∀t,t<512->tget R t=.opq\/(t∈x.rd/\Sl l ev T0 (λj=>decide (j<i)) t (tget R t)))
  (he:ev i=.off) (hg:aK_ ops.toList x R=some false) (hw:bf_ x.kd=true->∃G,Gs[wAt ops.toList i]? =some G/\Gs[wAt ops.toList i+1]? =some G):
  wpOp P ops Q i (jZ_ P B pr N E0 D ops.toList l ev T0 idOf Gs (plus S i)) a w:=by
 have ht:=inv.trel hP hN hcl hx hS hb hR;refine nI_ (dh_ hP hx) (bR_ ht hg) ⟨_,G,H,inv.next hP hcl hx hS hu (q:=.tup []) (by rw [he];rfl) (Env.sub_refl E) (a6_ E) ?_ ?_ inv.nx inv.hi inv.old ?_⟩;refine inv.r.reres (λid hid=>?_) inv.vdR;have:=em_ id hid;rw [←inv.res]at this;exact inv.r.resv id this
 .cases hk:bf_ x.kd with
  |false=>rw [li_ hP hx hk];exact inv.g
  |true=>obtain ⟨h1,h2⟩:=lj_ hP hcl hx hS hb hk;obtain ⟨G',g1,g2⟩:=hw hk;rw [h1,inv.g]at g1;grind
 exact k0_ hx inv.row (by grind) λ_ _ h=>h
theorem io_ {K K':AHeap} {R:Tm} {q:AV} {o:Oper} {Q:Exit->Act->World->Prop} {C:Act->World->Prop} {res':Nat->Prop} (hr:Rel B pr E H w) (ht:TRel E N R a.tmps) (hK:∀id k,K.get id=some k->H.get id=some k)
  (hvd:∀id,E.vd id->res' id) (hres:∀id,res' id->E.φ id=none) (hrng:∀id,K.next<=id->id<K.hi->E.φ id=none/\¬res' id)
  (hrun:(ac_ P o).run R K=some (.val q K'))
  (hfin:∀(E':Env) (v:Value) (w':World),Con E' q v->E.sub E'->(∀id,res' id->E'.φ id=none/\¬(K'.next<=id/\id<K'.hi))->(∀id,K'.next<=id->id<K'.hi->E'.φ id=none)->
    (∀id k,H.get id=some k->K.get id=none->K'.get id=none)->
    (∀(nx hi:Nat) (res'':Nat->Prop),(∀id,nx<=id->id<hi->E'.φ id=none/\¬res'' id)->(∀id,res'' id->E'.φ id=none)->(∀id,E.vd id->res'' id)->
      ∃H':AHeap,H'.next=nx/\H'.hi=hi/\Rel B pr (E'.re res'' E.bim E.vd) H' w'/\(∀id k,K'.get id=some k->H'.get id=some k)/\(∀id k,H.get id=some k->K.get id=none->H'.get id=some k))->
    C (a.put o.dst v) w'):o.wp P a w C Q:=by
 obtain ⟨pr',hf1,hf2⟩:=hr.frame hK res' hvd hres hrng;have ht':TRel (E.re res' E.imm λid=>E.vd id/\K.get id≠none) N R a.tmps:=⟨ht.size,ht.le,λt h=>(ht.con t h).sub (Env.sub_re _ _ _ _),ht.gl.sub (Env.sub_re _ _ _ _)⟩;obtain ⟨E',n,v,w',h1,h2,h3,h4,h5⟩:=aw_ hrun hf1 ht';obtain ⟨f1,f2,f3,f4,f5⟩:=hf2 E' K' w' h3 h4;have hfin':=hfin E' v w' h5 f3 (λid hid=>⟨f1 id hid,(h4.resv id (by rw [h3.2.1];exact hid)).2⟩) f2 f4 f5;unfold Oper.wp;rw [h1];rcases h2 with rfl|⟨rfl,rfl⟩;exact hfin';exact hfin'
theorem jJ_ {R:Tm} {Q:Exit->Act->World->Prop} (inv:InvE P B pr N E0 D ops.toList l ev T0 idOf Gs S a w E G H) (hP:PlanOk ops.toList l) (hN:N<=512) (hcl:Cl l ev S) (hx:l[i]? =some x) (hS:S i=false)
  (hb:∀j,bit x.bef j=true->S j=true) {u:Tm->AV->Tm} (hu:bT_ N x.o.dst=.mk u) (hR:∀t,t<512->tget R t=.opq\/(t∈x.rd/\Sl l ev T0 (λj=>decide (j<i)) t (tget R t)))
  {q:AV} (he:ev i=.val q) (hg:aK_ ops.toList x R=some true) (hw:bf_ x.kd=false) {K:AHeap} (hK:∀id k,K.get id=some k->H.get id=some k)
  (hrng:∀id,K.next<=id->id<K.hi->H.next<=id/\id<H.hi) (hrun:cn_ (ac_ P x.o) R K=some q):
  wpOp P ops Q i (jZ_ P B pr N E0 D ops.toList l ev T0 idOf Gs (plus S i)) a w:=by
 have ht:=inv.trel hP hN hcl hx hS hb hR;refine eo_ (dh_ hP hx) (bR_ ht hg) ?_;have hsub:∀id,b9_ E0 l idOf (plus S i) id->E.res id:=λid h=>by rw [inv.res];exact em_ id h
 refine io_ (res':=λid=>b9_ E0 l idOf (plus S i) id\/(H.next<=id/\id<H.hi/\¬(K.next<=id/\id<K.hi))) inv.r ht hK (λid h=>.inl (inv.vdR id h)) (λid h=>?_) (λid h1 h2=>?_) (kZ_ hrun) λE' v w' hc hs h1 h2 h3 h4=>?_;rcases h with h|⟨g1,g2,_⟩;exact (inv.r.resv id (hsub id h)).1;exact inv.r.fresh id g1 g2
 .obtain ⟨g1,g2⟩:=hrng id h1 h2;refine ⟨inv.r.fresh id g1 g2,λh=>?_⟩;rcases h with h|⟨_,_,h⟩;exact (inv.r.resv id (hsub id h)).2 ⟨g1,g2⟩
  grind
 .have hun:∀id,H.next<=id->id<H.hi->E'.φ id=none:=λid e1 e2=>by
    grind
  obtain ⟨H',g1,g2,g3,g4,g5⟩:=h4 H.next H.hi (b9_ E0 l idOf (plus S i)) (λid e1 e2=>⟨hun id e1 e2,λh=>(inv.r.resv id (hsub id h)).2 ⟨e1,e2⟩⟩) (λid h=>(h1 id (.inl h)).1) inv.vdR
  .have hall:∀id k,H.get id=some k->H'.get id=some k:=λid k hk=>(by cases hk':K.get id<;>grind)
   exact ⟨_,G,H',inv.next hP hcl hx hS hu (by rw [he];rfl) hs hc g3 (by rw [li_ hP hx hw];exact inv.g) (g1.trans inv.nx) (g2.trans inv.hi) (λid k hk=>hall id k (inv.old id k hk))
    (k0_ hx inv.row (by grind) hall)⟩
theorem sq_ {R:Tm} {Q:Exit->Act->World->Prop} (inv:InvE P B pr N E0 D ops.toList l ev T0 idOf Gs S a w E G H) (hP:PlanOk ops.toList l) (hN:N<=512) (hcl:Cl l ev S) (hx:l[i]? =some x) (hS:S i=false)
  (hb:∀j,bit x.bef j=true->S j=true) {u:Tm->AV->Tm} (hu:bT_ N x.o.dst=.mk u) (hR:∀t,t<512->tget R t=.opq\/(t∈x.rd/\Sl l ev T0 (λj=>decide (j<i)) t (tget R t)))
  {q:AV} {b:ABlk} {H₁:AHeap} (he:ev i=.row q (idOf i) b) (hg:aK_ ops.toList x R=some true) (hk:x.kd=.mem) (hrun:(ac_ P x.o).run R ⟨hnil,idOf i,Nat.succ (idOf i)⟩=some (.val q H₁)) (hrow:H₁.get (idOf i)=some b)
  (hF:∀j y a id b,l[j]? =some y->ev j=.row a id b->id=idOf j/\y.kd=.mem) (hinj:∀i j x y,l[i]? =some x->l[j]? =some y->x.kd=.mem->y.kd=.mem->idOf i=idOf j->i=j) (h0:¬E0.res (idOf i)):
  wpOp P ops Q i (jZ_ P B pr N E0 D ops.toList l ev T0 idOf Gs (plus S i)) a w:=by
 have ht:=inv.trel hP hN hcl hx hS hb hR;have hw:bf_ x.kd=false:=by rw [hk];rfl
 refine eo_ (dh_ hP hx) (bR_ ht hg) ?_;have hsub:∀id,b9_ E0 l idOf (plus S i) id->E.res id:=λid h=>by rw [inv.res];exact em_ id h
 have hi0:E.res (idOf i):=by rw [inv.res];exact .inr ⟨i,x,hx,hS,hk,rfl⟩
 obtain ⟨hi1,hi2⟩:=inv.r.resv _ hi0;have hnot:¬b9_ E0 l idOf (plus S i) (idOf i):=λh=>by rcases h with h|⟨j,y,g1,g2,g3,g4⟩<;>grind [plus]
 have hnone:∀id k,(⟨hnil,idOf i,Nat.succ (idOf i)⟩:AHeap).get id=some k->False:=λid k h=>by
  grind [AHeap.get_of_lt,c5_,AHeap.get_of_ge]
 have hnone':∀id,(⟨hnil,idOf i,Nat.succ (idOf i)⟩:AHeap).get id=none:=λid=>by cases h:(⟨hnil,idOf i,Nat.succ (idOf i)⟩:AHeap).get id<;>grind
 refine io_ (res':=λid=>b9_ E0 l idOf (plus S i) id\/(H.next<=id/\id<H.hi)) inv.r ht (λid k h=>(hnone id k h).elim) (λid h=>.inl (inv.vdR id h)) (λid h=>?_) (λid h1 h2=>?_) hrun λE' v w' hc hs h1 h2 h3 h4=>?_;rcases h with h|⟨g1,g2⟩;exact (inv.r.resv id (hsub id h)).1;exact inv.r.fresh id g1 g2
 .grind
 .obtain ⟨H',g1,g2,g3,g4,g5⟩:=h4 H.next H.hi (b9_ E0 l idOf (plus S i)) (λid e1 e2=>⟨(h1 id (.inr ⟨e1,e2⟩)).1,λh=>(inv.r.resv id (hsub id h)).2 ⟨e1,e2⟩⟩) (λid h=>(h1 id (.inl h)).1) inv.vdR;have hall:∀id k,H.get id=some k->H'.get id=some k:=λid k hk=>g5 id k hk (hnone' id);refine ⟨_,G,H',inv.next hP hcl hx hS hu (by rw [he];rfl) hs hc g3 (by rw [li_ hP hx hw];exact inv.g) (g1.trans inv.nx) (g2.trans inv.hi) (λid k hk=>hall id k (inv.old id k hk)) ?_⟩;intro j y q' id b' hy hej hj hkk;by_cases hji:j=i
  .subst hji;rw [he]at hej;cases hej;refine ⟨g4 _ _ hrow,?_⟩;cases hG:G.get (idOf j)with
   |none=>rfl
   |some k=>
    obtain ⟨own,o1,_⟩:=inv.r.own;obtain ⟨hv,_⟩|⟨b2,o2,hφ,_⟩:=o1 _ _ (inv.old _ _ hG);exact absurd (inv.vd0 _ (by rw [←inv.vd];exact hv)) h0
    grind
  .obtain ⟨r1,r2⟩:=inv.row j y q' id b' hy hej (by grind [plus]) λk y' q' h3 h4 h5=>hkk k y' q' h3 (by grind [plus]) h5
   grind
theorem nw_ (inv:InvE P B pr N E0 D ops.toList l ev T0 idOf Gs S a w E G H) (hP:PlanOk ops.toList l) (hcl:Cl l ev S) (hx:l[i]? =some x) (hS:S i=false) (hb:∀j,bit x.bef j=true->S j=true)
  (hF:∀j y q,l[j]? =some y->ev j=.step q->bf_ y.kd=true) (hw:bf_ x.kd=true) {G1:AHeap} (ht:Took l ev i x G G1):∀id k,G1.get id=some k->H.get id=some k:=by
 intro id k hk;rcases ht.row id k hk with h|⟨j,y,q,h1,h2,h3,h4⟩;exact inv.old id k h
 .refine (inv.row j y q id k h1 h2 (hb j h3) λk' y' q' g1 g2 g3=>h4 k' y' q' g1 ?_ g3).1;rcases Nat.lt_trichotomy k' i with hlt|rfl|hgt;exact hlt
  .grind
  .have hbit:=hP.pair i k' x y' hgt hx g1 (.inr ⟨hw,hF k' y' q' g1 g3⟩);have:=hcl.bef k' y' i g1 g2 hbit
   grind
theorem rx_ (inv:InvE P B pr N E0 D ops.toList l ev T0 idOf Gs S a w E G H) (hP:PlanOk ops.toList l) (hcl:Cl l ev S) (hx:l[i]? =some x) (hS:S i=false) (hb:∀j,bit x.bef j=true->S j=true)
  {u:Tm->AV->Tm} (hu:bT_ N x.o.dst=.mk u) {q:AV} (he:ev i=.step q) (hw:bf_ x.kd=true) {G1 K':AHeap} (ht:Took l ev i x G G1) (h2:Gs[wAt ops.toList i+1]? =some K')
  (hrow:∀j y a id b,l[j]? =some y->ev j=.row a id b->id=idOf j/\y.kd=.mem) (hinj:∀i j x y,l[i]? =some x->l[j]? =some y->x.kd=.mem->y.kd=.mem->idOf i=idOf j->i=j)
  {E':Env} {v:Value} {w':World} (hc:Con E' q v) (hs:E.sub E') (r1:∀id,b9_ E0 l idOf (plus S i) id->E'.φ id=none/\¬(K'.next<=id/\id<K'.hi)) (r2:∀id,K'.next<=id->id<K'.hi->E'.φ id=none)
  (r3:∀id k,H.get id=some k->G1.get id=none->K'.get id=none)
  (r4:∀(nx hi:Nat) (res'':Nat->Prop),(∀id,nx<=id->id<hi->E'.φ id=none/\¬res'' id)->(∀id,res'' id->E'.φ id=none)->(∀id,E.vd id->res'' id)->
    ∃H':AHeap,H'.next=nx/\H'.hi=hi/\Rel B pr (E'.re res'' E.bim E.vd) H' w'/\(∀id k,K'.get id=some k->H'.get id=some k)/\(∀id k,H.get id=some k->G1.get id=none->H'.get id=some k)):
  jZ_ P B pr N E0 D ops.toList l ev T0 idOf Gs (plus S i) (a.put x.o.dst v) w':=by
 obtain ⟨H',g1,g2,g3,g4,g5⟩:=r4 K'.next K'.hi (b9_ E0 l idOf (plus S i)) (λid e1 e2=>⟨r2 id e1 e2,λh=>(r1 id h).2 ⟨e1,e2⟩⟩) (λid h=>(r1 id h).1) inv.vdR;obtain ⟨c1,c2⟩:=lj_ hP hcl hx hS hb hw;refine ⟨_,K',H',inv.next hP hcl hx hS hu (by rw [he];rfl) hs hc g3 (by grind) g1 g2 g4 ?_⟩;intro j y q' id b hy hej hj hkk;have hji:j≠i:=by grind
 have hbi:bit x.bef j=false:=hkk i x q hx (by simp [plus]) he;obtain ⟨e1,e2⟩:=inv.row j y q' id b hy hej (by grind [plus]) λk y' q' h3 h4 h5=>hkk k y' q' h3 (by grind [plus]) h5;have hG1:G1.get id=none:=by
  cases hk:G1.get id with
  |none=>rfl
  |some k=>rcases ht.row id k hk with h|⟨j',y',q2,f1,f2,f3,f4⟩<;>grind
 grind
theorem ni_ (hcall:an_ P call) {K:AHeap} {R:Tm} {f:FuncId} {args:List AV} {fr:FRes} {o:Oper} {Q:Exit->Act->World->Prop} {C:Act->World->Prop} {res':Nat->Prop} (hr:Rel B pr E H w) (ht:TRel E N R a.tmps)
  (hK:∀id k,K.get id=some k->H.get id=some k) (hvd:∀id,E.vd id->res' id) (hres:∀id,res' id->E.φ id=none) (hrng:∀id,K.next<=id->id<K.hi->E.φ id=none/\¬res' id)
  (hrun:(ac_ P o).run R K=some (.call f args)) (hc:call f args K=some fr)
  (hfin:∀(E':Env) (q:AV) (K':AHeap) (v:Value) (w':World),(fr=.ret q K'\/fr=.pan q K')->Con E' q v->E.sub E'->(∀id,res' id->E'.φ id=none/\¬(K'.next<=id/\id<K'.hi))->(∀id,K'.next<=id->id<K'.hi->E'.φ id=none)->
    (∀id k,H.get id=some k->K.get id=none->K'.get id=none)->
    (∀(nx hi:Nat) (res'':Nat->Prop),(∀id,nx<=id->id<hi->E'.φ id=none/\¬res'' id)->(∀id,res'' id->E'.φ id=none)->(∀id,E.vd id->res'' id)->
      ∃H':AHeap,H'.next=nx/\H'.hi=hi/\Rel B pr (E'.re res'' E.bim E.vd) H' w'/\(∀id k,K'.get id=some k->H'.get id=some k)/\(∀id k,H.get id=some k->K.get id=none->H'.get id=some k))->
    match fr with
    | .ret _ _=>C (a.put o.dst v) w'
    | .pan _ _=>Q (.panic [{ v:=v,recovered:=false }]) a w'):o.wp P a w C Q:=by
 obtain ⟨pr',hf1,hf2⟩:=hr.frame hK res' hvd hres hrng;have ht':TRel (E.re res' E.imm λid=>E.vd id/\K.get id≠none) N R a.tmps:=⟨ht.size,ht.le,λt h=>(ht.con t h).sub (Env.sub_re _ _ _ _),ht.gl.sub (Env.sub_re _ _ _ _)⟩;obtain ⟨vs,h1,h2⟩:=aw_ hrun hf1 ht';unfold Oper.wp;rw [h1];refine Calls.mono (hcall f args K fr hc w pr' _ w vs ht'.gl hf1 h2) λe w' he=>?_;obtain ⟨E',h3,h4⟩:=he;cases fr with
 |ret q K'=>obtain ⟨v,rfl,h5,h6⟩:=h4;obtain ⟨f1,f2,f3,f4,f5⟩:=hf2 E' K' w' h3 h6;exact hfin E' q K' v w' (.inl rfl) h5 f3 (λid hid=>⟨f1 id hid,(h6.resv id (by rw [h3.2.1];exact hid)).2⟩) f2 f4 f5
 |pan q K'=>obtain ⟨v,rfl,h5,h6⟩:=h4;obtain ⟨f1,f2,f3,f4,f5⟩:=hf2 E' K' w' h3 h6;exact hfin E' q K' v w' (.inr rfl) h5 f3 (λid hid=>⟨f1 id hid,(h6.resv id (by rw [h3.2.1];exact hid)).2⟩) f2 f4 f5
theorem tP_ (hcall:an_ P call) {R:Tm} {Q:Exit->Act->World->Prop} (inv:InvE P B pr N E0 D ops.toList l ev T0 idOf Gs S a w E G H) (hP:PlanOk ops.toList l) (hN:N<=512) (hcl:Cl l ev S) (hx:l[i]? =some x) (hS:S i=false)
  (hb:∀j,bit x.bef j=true->S j=true) {u:Tm->AV->Tm} (hu:bT_ N x.o.dst=.mk u) (hR:∀t,t<512->tget R t=.opq\/(t∈x.rd/\Sl l ev T0 (λj=>decide (j<i)) t (tget R t)))
  {q:AV} (he:ev i=.step q) (hg:aK_ ops.toList x R=some true) (hw:bf_ x.kd=true) {G' G1 K':AHeap} (hgs:Gs[wAt ops.toList i]? =some G') (htk:Took l ev i x G' G1) (h2:Gs[wAt ops.toList i+1]? =some K')
  (hrow:∀j y a id b,l[j]? =some y->ev j=.row a id b->id=idOf j/\y.kd=.mem) (hinj:∀i j x y,l[i]? =some x->l[j]? =some y->x.kd=.mem->y.kd=.mem->idOf i=idOf j->i=j)
  (hF:∀j y q,l[j]? =some y->ev j=.step q->bf_ y.kd=true)
  (hrun:(ac_ P x.o).run R G1=some (.val q K')\/∃f args,(ac_ P x.o).run R G1=some (.call f args)/\call f args G1=some (.ret q K')):
  wpOp P ops Q i (jZ_ P B pr N E0 D ops.toList l ev T0 idOf Gs (plus S i)) a w:=by
 have ht:=inv.trel hP hN hcl hx hS hb hR;obtain ⟨c1,c2⟩:=lj_ hP hcl hx hS hb hw;rw [c1,inv.g]at hgs;cases hgs;have hK:=nw_ inv hP hcl hx hS hb hF hw htk;have hsub:∀id,b9_ E0 l idOf (plus S i) id->E.res id:=λid h=>by rw [inv.res];exact em_ id h
 have hres:∀id,b9_ E0 l idOf (plus S i) id->E.φ id=none:=λid h=>(inv.r.resv id (hsub id h)).1;have hrng:∀id,G1.next<=id->id<G1.hi->E.φ id=none/\¬b9_ E0 l idOf (plus S i) id:=λid e1 e2=>by rw [htk.next,←inv.nx]at e1;rw [htk.hi,←inv.hi]at e2;exact ⟨inv.r.fresh id e1 e2,λh=>(inv.r.resv id (hsub id h)).2 ⟨e1,e2⟩⟩
 refine eo_ (dh_ hP hx) (bR_ ht hg) ?_;rcases hrun with hrun|⟨f,args,hrun,hc⟩;exact io_ inv.r ht hK inv.vdR hres hrng hrun λE' v w' hc hs r1 r2 r3 r4=>rx_ inv hP hcl hx hS hb hu he hw htk h2 hrow hinj hc hs r1 r2 r3 r4;refine ni_ hcall inv.r ht hK inv.vdR hres hrng hrun hc λE' q' K'' v w' hfr hcon hs r1 r2 r3 r4=>?_;rcases hfr with hfr|hfr;cases hfr;exact rx_ inv hP hcl hx hS hb hu he hw htk h2 hrow hinj hcon hs r1 r2 r3 r4;cases hfr
theorem rb_ (inv:InvE P B pr N E0 D ops.toList l ev T0 idOf Gs S a w E G H) (hN:N<=512) {T':Tm} (hT:∀t,t<512->tget T' t=.opq\/(tget T' t=tget T0 t/\∀(j:Nat) (y:SI),l[j]? =some y->y.o.dst≠some t)):TRel E N T' a.tmps:=by
 refine ⟨inv.size,hN,λt ht=>?_,inv.gl.sub inv.sub⟩;rcases hT t ht with h|⟨h1,h2⟩;rw [h];simp [Con]
 .obtain ⟨q,h3,h4⟩:=inv.slot t ht;rcases h3 with ⟨h5,_⟩|⟨j,y,h5,_,h6,_⟩<;>grind
theorem sp_ (hcall:an_ P call) {R:Tm} (inv:InvE P B pr N E0 D ops.toList l ev T0 idOf Gs S a w E G H) (hP:PlanOk ops.toList l) (hN:N<=512) (hcl:Cl l ev S) (hx:l[i]? =some x) (hS:S i=false)
  (hb:∀j,bit x.bef j=true->S j=true) (hR:∀t,t<512->tget R t=.opq\/(t∈x.rd/\Sl l ev T0 (λj=>decide (j<i)) t (tget R t)))
  (hg:aK_ ops.toList x R=some true) (hw:bf_ x.kd=true) {G' G1 K':AHeap} (hgs:Gs[wAt ops.toList i]? =some G') (htk:Took l ev i x G' G1)
  (hF:∀j y q,l[j]? =some y->ev j=.step q->bf_ y.kd=true) {T':Tm} (hT:∀t,t<512->tget T' t=.opq\/(tget T' t=tget T0 t/\∀(j:Nat) (y:SI),l[j]? =some y->y.o.dst≠some t)) {v:AV}
  (hrun:((ac_ P x.o).run R G1=some (.pan v)/\K'=G1)\/∃f args,(ac_ P x.o).run R G1=some (.call f args)/\call f args G1=some (.pan v K')) (C:Act->World->Prop):
  wpOp P ops (QOut P B pr N E0 (.pan v T' K' D)) i C a w:=by
 have ht:=inv.trel hP hN hcl hx hS hb hR;obtain ⟨c1,c2⟩:=lj_ hP hcl hx hS hb hw;rw [c1,inv.g]at hgs;cases hgs;have hK:=nw_ inv hP hcl hx hS hb hF hw htk;have h0:∀id,E0.res id->E.res id:=λid h=>by rw [inv.res];exact .inl h
 have hbl:=rb_ inv hN hT;refine eo_ (dh_ hP hx) (bR_ ht hg) ?_;rcases hrun with ⟨hrun,rfl⟩|⟨f,args,hrun,hc⟩;obtain ⟨u,h1,h2⟩:=aw_ hrun (inv.r.forget (H':=K') hK (by rw [htk.next,inv.nx];grind) (by rw [htk.hi,inv.hi];grind)) ht;unfold Oper.wp;rw [h1];have hs:=Env.sub_withRes E E0.res;refine ⟨E.withRes E0.res,⟨Env.sub_trans inv.sub hs,rfl,inv.bim,inv.vd⟩,u,rfl,h2.sub hs,⟨hbl.size,hbl.le,λt h=>(hbl.con t h).sub hs,hbl.gl.sub hs⟩,?_,inv.dfs.sub (Env.sub_trans inv.sub hs)⟩;refine (inv.r.reres (λid h=>inv.r.resv id (h0 id h)) (λid h=>inv.vd0 id (by rw [←inv.vd];exact h))).forget hK (by rw [htk.next,inv.nx];grind) (by rw [htk.hi,inv.hi];grind)
 .have hres:∀id,E0.res id->E.φ id=none:=λid h=>(inv.r.resv id (h0 id h)).1;have hrng:∀id,G1.next<=id->id<G1.hi->E.φ id=none/\¬E0.res id:=λid e1 e2=>(by rw [htk.next,←inv.nx]at e1;rw [htk.hi,←inv.hi]at e2;exact ⟨inv.r.fresh id e1 e2,λh=>(inv.r.resv id (h0 id h)).2 ⟨e1,e2⟩⟩);refine ni_ hcall inv.r ht hK (λid h=>inv.vd0 id (by rw [←inv.vd];exact h)) hres hrng hrun hc λE' q' K'' u w' hfr hcon hs r1 r2 r3 r4=>?_;rcases hfr with hfr|hfr;cases hfr
  .cases hfr;obtain ⟨H',g1,g2,g3,g4,g5⟩:=r4 K'.next K'.hi E0.res (λid e1 e2=>⟨r2 id e1 e2,λh=>(r1 id h).2 ⟨e1,e2⟩⟩) (λid h=>(r1 id h).1) (λid h=>inv.vd0 id (by rw [←inv.vd];exact h));have hs':=Env.sub_trans hs (Env.sub_re E' E0.res E.bim E.vd);exact ⟨E'.re E0.res E.bim E.vd,⟨Env.sub_trans inv.sub hs',rfl,inv.bim,inv.vd⟩,u,rfl,hcon.sub (Env.sub_re _ _ _ _),⟨hbl.size,hbl.le,λt h=>(hbl.con t h).sub hs',hbl.gl.sub hs'⟩,
    g3.forget g4 (by grind) (by grind),inv.dfs.sub (Env.sub_trans inv.sub hs')⟩
end
end Go.Sx
namespace Go.Sx
variable [Gl]
section
variable {P:Program} {call:CallF} {N:Nat} {B:World} {pr:Nat->Prop} {E0:Env} {D:Dfs} {ops:Array Oper} {l:List SI} {ev:Nat->Evt} {T0:Tm} {idOf:Nat->Nat} {Gs:List AHeap}
 {dd:Option (Nat×AV×AHeap)} {S:Nat->Bool} {a:Act} {w:World} {i:Nat} {x:SI}
theorem Facts.stepWr (F:Facts P call N ops.toList l ev T0 idOf Gs dd) (j:Nat) (y:SI) (q:AV) (hy:l[j]? =some y) (he:ev j=.step q):bf_ y.kd=true:=by
 rcases F.each j y hy with ⟨h,_⟩|⟨u,R,_,_,h⟩
 .grind
 .rw [he]at h;cases h with
  |wr hg hk=>rw [hk];rfl
theorem so_ (hcall:an_ P call) (hP:PlanOk ops.toList l) (hN:N<=512) (F:Facts P call N ops.toList l ev T0 idOf Gs dd) (hcl:Cl l ev S) (inv:jZ_ P B pr N E0 D ops.toList l ev T0 idOf Gs S a w)
  (hx:l[i]? =some x) (hS:S i=false) (hb:∀j,bit x.bef j=true->S j=true) (h0:x.kd=.mem->¬E0.res (idOf i)) {T':Tm}
  (hT:∀t,t<512->tget T' t=.opq\/(tget T' t=tget T0 t/\∀(j:Nat) (y:SI),l[j]? =some y->y.o.dst≠some t)) {r:CRes} (hr:∀d v H',dd=some (d,v,H')->r=.pan v T' H' D):
  wpOp P ops (QOut P B pr N E0 r) i (λa w=>jZ_ P B pr N E0 D ops.toList l ev T0 idOf Gs (plus S i) a w/\Cl l ev (plus S i)) a w:=by
 obtain ⟨E,G,H,inv⟩:=inv;rcases F.each i x hx with ⟨_,d,v,H',hd,hbit⟩|⟨u,R,hu,hR,hdid⟩;exact absurd (F.dead d v H' hd) (hcl.ev d (hb d hbit)).2
 .have hplus:ev i≠ .gone->ev i≠ .die->Cl l ev (plus S i):=λh1 h2=>hcl.plus hx hb ⟨h1,h2⟩;generalize he:ev i=e at hdid;cases hdid with
  |off hg hw=>exact wpOp_mono (λa w h=>⟨h,hplus (by rw [he];simp) (by rw [he];simp)⟩) (sr_ inv hP hN hcl hx hS hb hu hR he hg hw)
  |pure hg hk h=>
   refine wpOp_mono (λa w h=>⟨h,hplus (by rw [he];simp) (by rw [he];simp)⟩) (jJ_ inv hP hN hcl hx hS hb hu hR he hg (by rw [hk];rfl) (K:=⟨hnil,0,0⟩) (λid k hk=>?_) (λid _ h2=>absurd h2 (Nat.not_lt_zero _)) h)
   grind [AHeap.get_of_lt,c5_,AHeap.get_of_ge]
  |read hg hk h=>
   obtain ⟨c1,c2⟩:=rd_ hP hcl hx hS hb;exact wpOp_mono (λa w h=>⟨h,hplus (by rw [he];simp) (by rw [he];simp)⟩)
    (jJ_ inv hP hN hcl hx hS hb hu hR he hg (by rw [hk];rfl) (K:=G) inv.old (λid h1 h2=>⟨by rw [inv.nx];exact h1,by rw [inv.hi];exact h2⟩) (h _ G c1 c2 inv.g))
  |fl hg hk hy hj hbit hno hlater ht h=>
   rename_i q j id y c b;refine wpOp_mono (λa w h=>⟨h,hplus (by rw [he];simp) (by rw [he];simp)⟩) (jJ_ inv hP hN hcl hx hS hb hu hR he hg (by rw [hk];rfl) (K:=(⟨hnil,0,0⟩:AHeap).set id b) (λid' k hk'=>?_) (λid' _ h2=>absurd h2 (Nat.not_lt_zero _)) h);by_cases e:id=id'
   .subst e;rw [AHeap.get_set_same _ ht]at hk';cases hk';refine (inv.row j y c id b hy hj (hb j hbit) λk y' q' g1 g2 g3=>?_).1;rcases Nat.lt_trichotomy k i with hlt|rfl|hgt
    .grind
    .grind
    .cases hbk:bit y'.bef j with
     |false=>rfl
     |true=>
      have h1:=hlater k y' g1 hgt (F.stepWr k y' q' g1 g3) hbk;have:=hcl.bef k y' i g1 g2 h1
      grind
   grind [AHeap.get_set_ne,AHeap.get_of_lt,c5_,AHeap.get_of_ge]
  |mem hg hk h hrow=>exact wpOp_mono (λa w h=>⟨h,hplus (by rw [he];simp) (by rw [he];simp)⟩) (sq_ inv hP hN hcl hx hS hb hu hR he hg hk h hrow F.row F.inj (h0 hk))
  |wr hg hk h1 h2 ht h=>exact wpOp_mono (λa w h=>⟨h,hplus (by rw [he];simp) (by rw [he];simp)⟩) (tP_ hcall inv hP hN hcl hx hS hb hu hR he hg (by rw [hk];rfl) h1 ht h2 F.row F.inj F.stepWr h)
  |die hg hk h1 ht hd h=>rw [hr _ _ _ hd];exact sp_ hcall inv hP hN hcl hx hS hb hR hg (by rw [hk];rfl) h1 ht F.stepWr hT h _
omit [Gl]in
theorem dX_ {listed:Array Bool} {i:Nat} (h:i<listed.size):(λj=>(listed.setIfInBounds i true).getD j false)=plus (λj=>listed.getD j false) i:=by
 funext j
 unfold plus;by_cases e:j=i<;>simp_all [Ne.symm]
omit [Gl]in
theorem fg_ {listed:Array Bool} {i:Nat} (h:i<listed.size) (hi:listed[i]=false):(listed.setIfInBounds i true).toList.countP (· ==false)+1=listed.toList.countP (· ==false):=by
 grind
theorem q1_ (hcall:an_ P call) (hP:PlanOk ops.toList l) (hN:N<=512) (F:Facts P call N ops.toList l ev T0 idOf Gs dd) (h0:∀(i:Nat) (x:SI),l[i]? =some x->x.kd=.mem->¬E0.res (idOf i)) {T':Tm}
  (hT:∀t,t<512->tget T' t=.opq\/(tget T' t=tget T0 t/\∀(j:Nat) (y:SI),l[j]? =some y->y.o.dst≠some t)) {r:CRes} (hr:∀d v H',dd=some (d,v,H')->r=.pan v T' H' D)
  (hend:∀(S:Nat->Bool) (a:Act) (w:World),jZ_ P B pr N E0 D ops.toList l ev T0 idOf Gs S a w->Cl l ev S->(∀j,j<l.length->S j=true)->QOut P B pr N E0 r .normal a w):
  ∀(fuel:Nat) (listed:Array Bool) (a:Act) (w:World),listed.size=ops.size->listed.toList.countP (· ==false)<=fuel->Cl l ev (λj=>listed.getD j false)->
   jZ_ P B pr N E0 D ops.toList l ev T0 idOf Gs (λj=>listed.getD j false) a w->wpAny P .any ops (QOut P B pr N E0 r) fuel listed a w:=by
 have hlen:l.length=ops.size:=by rw [hP.len];simp
 have hall:∀(listed:Array Bool),listed.size=ops.size->Region.ready .any ops listed=[]->∀j,j<l.length->listed.getD j false=true:=by
  intro listed hs hrd j
  induction j using Nat.strongRecOn with
  |_ j ih=>
   intro hj;cases hg:listed.getD j false with
   |true=>rfl
   |false=>
    have hx:l[j]? =some l[j]:=(by simp [hj]);have:j∈Region.ready .any ops listed:=by
     rw [mem_ready];refine ⟨?_,l[j].o,dh_ hP hx,λe he hb=>?_⟩
     .grind
     .have:=hP.lt j l[j] e hx he hb
      grind
    grind
 intro fuel
 induction fuel with
 |zero=>
  intro listed a w hs hc hcl inv;have hrd:Region.ready .any ops listed=[]:=by
   rw [List.eq_nil_iff_forall_not_mem];intro j hj;obtain ⟨h1,o,h2,_⟩:=mem_ready.1 hj;have hlt:j<listed.size:=(by grind);have hg:listed[j]=false:=by simpa [hlt]using h1
   grind [fg_]
  exact ⟨hrd,hend _ a w inv hcl (hall listed hs hrd)⟩
 |succ fuel ih=>
  intro listed a w hs hc hcl inv;refine ⟨λhrd=>hend _ a w inv hcl (hall listed hs hrd),λi hi=>?_⟩;obtain ⟨h1,o,h2,h3⟩:=mem_ready.1 hi;have hlt:i<listed.size:=(by grind);have hg:listed[i]=false:=(by simpa [hlt]using h1);have hx:l[i]? =some l[i]:=(by grind);have ho:l[i].o=o:=(by grind [dh_]);refine wpOp_mono (λa w h=>?_) (so_ hcall hP hN F hcl inv hx (by grind) (λj hj=>?_) (h0 i _ hx) hT hr)
  .grind [dX_]
  obtain ⟨e,he,hb,hj⟩:=(hP.bef i _ j hx).1 hj;have hon:=h3 e (by grind) hb;rcases hj with rfl|⟨y,hy,hj⟩;exact hon;exact hcl.bef e.on y j hy hon hj
end
end Go.Sx
