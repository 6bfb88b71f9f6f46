/-
  A region whose order is open: a step.
-/
import Derived.Test.YteegdnoekakdbaaGreatDoorSxL
set_option linter.unusedVariables false
set_option linter.unusedSimpArgs false
namespace Go.Sx
variable [Gl]
section
variable {P:Program} {call:CallF} {N:Nat} {B:World} {pr:Nat->Prop} {E0:Env} {D:Dfs} {ops:List Oper} {l:List SI} {ev:Nat->Evt} {T0:Tm} {idOf:Nat->Nat} {Gs:List AHeap}
 {dd:Option (Nat×AV×AHeap)} {S:Nat->Bool} {a:Act} {w:World} {E:Env} {G H:AHeap} {i:Nat} {x:SI}
theorem InvE.trel (inv:InvE P B pr N E0 D ops l ev T0 idOf Gs S a w E G H) (hP:PlanOk ops l) (hN:N<=512) (hcl:Cl l ev S) (hx:l[i]? =some x) (hS:S i=false) (hb:∀j,bit x.bef j=true->S j=true)
  {R:Tm} (hR:∀t,t<512->tget R t=.opq\/(t∈x.rd/\Sl l ev T0 (λj=>decide (j<i)) t (tget R t))):TRel E N R a.tmps:=by
 refine ⟨inv.size,hN,λt ht=>?_,inv.gl.sub inv.sub⟩;rcases hR t ht with h|⟨h1,h2⟩;rw [h];simp [Con]
 .obtain ⟨q,h3,h4⟩:=inv.slot t ht;have:Sl l ev T0 S t (tget R t):=h2.congr λj y hj hd=>by
   rcases Nat.lt_trichotomy j i with hlt|rfl|hgt
   .have:=hb j (hP.pair j i y x hlt hj hx (.inl (h4_ hd h1)))
    grind
   rw [hS];simp
   .have hbit:=hP.pair i j x y hgt hx hj (.inl (g6_ hd h1));cases hs:S j with
    |false=>simp;omega
    |true=>have:=hcl.bef j y i hj hs hbit;grind
  rw [this.unique h3];exact h4
theorem InvE.slot_put (inv:InvE P B pr N E0 D ops l ev T0 idOf Gs S a w E G H) (hP:PlanOk ops l) (hcl:Cl l ev S) (hx:l[i]? =some x) (hS:S i=false) {u:Tm->AV->Tm} (hu:bN_ N x.o.dst=.mk u)
  {q:AV} (hq:(ev i).put=some q) {E':Env} (hs:E.sub E') {v:Value} (hc:Con E' q v):
  ∀t,t<512->∃q',Sl l ev T0 (plus S i) t q'/\Con E' q' ((a.put x.o.dst v).tmps.getD t undef):=by
 intro t ht;by_cases hd:x.o.dst=some t
 .refine ⟨q,Sl.put hx hd hq λj y hj hsj hdj=>?_,?_⟩
  .rcases Nat.lt_or_ge i j with hgt|hle
   .have hbit:=hP.pair i j x y hgt hx hj (.inl (jJ_ hd hdj));have:=hcl.bef j y i hj hsj hbit
    grind
   exact hle
  rw [hd]at hu⊢;rw [fk_ (by rw [inv.size];exact (oS_ hu).1)];exact hc
 .obtain ⟨q',h1,h2⟩:=inv.slot t ht;refine ⟨q',h1.keep λy hy hdy=>?_,?_⟩
  .grind
  rw [he_ hd];exact h2.sub hs
omit [Gl]in
theorem Cl.plus (hcl:Cl l ev S) (hx:l[i]? =some x) (hb:∀j,bit x.bef j=true->S j=true) (he:ev i≠ .gone/\ev i≠ .die):Cl l ev (plus S i) where
 lt:=λj hj=>by
  by_cases e:j=i
  .grind
  exact hcl.lt j (by grind [Sx.plus])
 ev:=λj hj=>by
  by_cases e:j=i
  .grind
  exact hcl.ev j (by grind [Sx.plus])
 bef:=λj y k hy hj hk=>by
  by_cases e:j=i
  .grind [Sx.plus]
  .have:=hcl.bef j y k hy (by grind [Sx.plus]) hk
   grind [Sx.plus]
omit [Gl]in
theorem hL_ (hP:PlanOk ops l) {j:Nat} {o:Oper} (ho:ops[j]? =some o):∃y,l[j]? =some y/\y.o=o/\y.kd=bz_ o.op:=by
 have:j<l.length:=by rw [hP.len];grind
 refine ⟨l[j],by simp [this],?_,?_⟩
 .have:=hP.op j l[j] (by simp [this]);grind
 have h1:=hP.op j l[j] (by simp [this]);rw [ho]at h1;cases h1;exact hP.kd j l[j] (by simp [this])
omit [Gl]in
theorem kD_ (hP:PlanOk ops l) (hcl:Cl l ev S) (hx:l[i]? =some x) (hS:S i=false) (hb:∀j,bit x.bef j=true->S j=true) (hw:a8_ x.kd=true):
  wAt ops i=b3_ S ops 0/\b3_ (plus S i) ops 0=b3_ S ops 0+1:=by
 constructor
 .refine cY_ ops 0 λj o ho hwo=>?_;rw [Nat.zero_add];obtain ⟨y,hy,_,hk⟩:=hL_ hP ho;have hwy:a8_ y.kd=true:=(by grind);rcases Nat.lt_trichotomy j i with hlt|rfl|hgt;simp [hlt,hb j (hP.pair j i y x hlt hy hx (.inr ⟨hwy,hw⟩))];rw [hS];simp
  .have hbit:=hP.pair i j x y hgt hx hy (.inr ⟨hw,hwy⟩);cases hs:S j with
   |false=>simp;omega
   |true=>have:=hcl.bef j y i hy hs hbit;grind
 .have:=gp_ (S:=S) ops 0 i x.o (hP.op i x hx) (by rw [←hP.kd i x hx];exact hw) (by grind)
  grind
omit [Gl]in
theorem kC_ (hP:PlanOk ops l) (hx:l[i]? =some x) (hw:a8_ x.kd=false):b3_ (plus S i) ops 0=b3_ S ops 0:=by
 refine cY_ ops 0 λj o ho hwo=>?_;have:j≠i:=by intro e;subst e;have:=hP.op j x hx;rw [ho]at this;cases this;rw [←hP.kd j x hx,hw]at hwo;cases hwo
 simp [plus,this]
omit [Gl]in
theorem ql_ (hP:PlanOk ops l) (hcl:Cl l ev S) (hx:l[i]? =some x) (hS:S i=false) (hb:∀j,bit x.bef j=true->S j=true):x.lo<=b3_ S ops 0/\b3_ S ops 0<=x.hi:=by
 constructor;rw [hP.lo i x hx,oz_];exact jK_ hb ops 0
 .rw [hP.hi i x hx];refine n7_ ops _ 0 (by simp [hP.len]) (λj b o hbj ho hwo hs=>?_) λj j' o o' hjj ho ho' hwo hwo' hs=>?_
  .rw [Nat.zero_add]at hs;rw [List.getElem?_map]at hbj;cases hy:l[j]? with
   |none=>grind
   |some y=>
    rw [hy]at hbj;cases hbj;cases hbit:bit y.bef i with
    |false=>rfl
    |true=>have:=hcl.bef j y i hy hs hbit;grind
  rw [Nat.zero_add]at hs⊢;obtain ⟨y,hy,_,hk⟩:=hL_ hP ho;obtain ⟨y',hy',_,hk'⟩:=hL_ hP ho';exact hcl.bef j' y' j hy' hs (hP.pair j j' y y' hjj hy hy' (.inr ⟨by grind,by grind⟩))
end
end Go.Sx
namespace Go.Sx
variable [Gl]
section
variable {P:Program} {call:CallF} {N:Nat} {B:World} {pr:Nat->Prop} {E0:Env} {D:Dfs} {ops:Array Oper} {l:List SI} {ev:Nat->Evt} {T0:Tm} {idOf:Nat->Nat} {Gs:List AHeap}
 {dd:Option (Nat×AV×AHeap)} {S:Nat->Bool} {a:Act} {w:World} {E:Env} {G H:AHeap} {i:Nat} {x:SI}
omit [Gl]in
theorem d3_ (id:Nat) (h:b1_ E0 l idOf (plus S i) id):b1_ E0 l idOf S id:=by
 grind [plus,b1_]
def m0_ (ops:List Oper) (l:List SI) (ev:Nat->Evt) (S:Nat->Bool) (G H:AHeap):Prop:=
 ∀j y q id b,l[j]? =some y->ev j=.row q id b->S j=true->(∀k y' q',l[k]? =some y'->S k=true->ev k=.step q'->bit y'.bef j=false)->H.get id=some b/\G.get id=none
omit [Gl]in
theorem InvE.vdR [Gl] {S':Nat->Bool} (inv:InvE P B pr N E0 D ops.toList l ev T0 idOf Gs S a w E G H) (id:Nat) (h:E.vd id):b1_ E0 l idOf S' id:=.inl (inv.vd0 id (by rw [←inv.vd];exact h))
theorem InvE.next (inv:InvE P B pr N E0 D ops.toList l ev T0 idOf Gs S a w E G H) (hP:PlanOk ops.toList l) (hcl:Cl l ev S) (hx:l[i]? =some x) (hS:S i=false) {u:Tm->AV->Tm} (hu:bN_ N x.o.dst=.mk u)
  {q:AV} (hq:(ev i).put=some q) {E':Env} (hs:E.sub E') {v:Value} (hc:Con E' q v) {w':World} {G' H':AHeap}
  (hr:Rel B pr (E'.re (b1_ E0 l idOf (plus S i)) E.bim E.vd) H' w') (hg:Gs[b3_ (plus S i) ops.toList 0]? =some G') (hnx:H'.next=G'.next) (hhi:H'.hi=G'.hi)
  (hold:∀id k,G'.get id=some k->H'.get id=some k) (hrow:m0_ ops.toList l ev (plus S i) G' H'):
  InvE P B pr N E0 D ops.toList l ev T0 idOf Gs (plus S i) (a.put x.o.dst v) w' (E'.re (b1_ E0 l idOf (plus S i)) E.bim E.vd) G' H' where
 sub:=Env.sub_trans inv.sub (Env.sub_trans hs (Env.sub_re _ _ _ _))
 res:=rfl
 bim:=inv.bim
 vd:=inv.vd
 vd0:=inv.vd0
 gl:=inv.gl
 size:=by rw [mG_];exact inv.size
 dfs:=by rw [Act.put_defers'];exact inv.dfs
 slot:=λt ht=>by obtain ⟨q',h1,h2⟩:=inv.slot_put hP hcl hx hS hu hq hs hc t ht;exact ⟨q',h1,h2.sub (Env.sub_re _ _ _ _)⟩
 g:=hg
 r:=hr
 nx:=hnx
 hi:=hhi
 old:=hold
 row:=hrow
omit [Gl]in
theorem kg_ (hx:l[i]? =some x) (h:m0_ ops.toList l ev S G H) (hne:∀q id b,ev i≠ .row q id b) {H':AHeap} (hold:∀id k,H.get id=some k->H'.get id=some k):m0_ ops.toList l ev (plus S i) G H':=by
 intro j y q id b hy he hj hk;have hji:j≠i:=by grind
 obtain ⟨h1,h2⟩:=h j y q id b hy he (by grind [plus]) λk y' q' h3 h4 h5=>hk k y' q' h3 (by grind [plus]) h5
 grind
def ji_ (P:Program) (B:World) (pr:Nat->Prop) (N:Nat) (E0:Env) (D:Dfs) (ops:List Oper) (l:List SI) (ev:Nat->Evt) (T0:Tm) (idOf:Nat->Nat) (Gs:List AHeap) (S:Nat->Bool) (a:Act) (w:World):Prop:=
 ∃E G H,InvE P B pr N E0 D ops l ev T0 idOf Gs S a w E G H
omit [Gl]in
theorem mW_ {Q:Exit->Act->World->Prop} {K:Act->World->Prop} {o:Oper} (ho:ops[i]? =some o) (hw:Region.wanted o (yielded ops a.tmps)=false) (h:K (a.put o.dst undef) w):wpOp P ops Q i K a w:=by simp_all [wpOp]
omit [Gl]in
theorem d7_ {Q:Exit->Act->World->Prop} {K:Act->World->Prop} {o:Oper} (ho:ops[i]? =some o) (hw:Region.wanted o (yielded ops a.tmps)=true) (h:o.wp P a w K Q):wpOp P ops Q i K a w:=by simp_all [wpOp]
omit [Gl]in
theorem c3_ (hP:PlanOk ops.toList l) (hx:l[i]? =some x):ops[i]? =some x.o:=by
 have:=hP.op i x hx
 grind
theorem rx_ {R:Tm} {Q:Exit->Act->World->Prop} (inv:InvE P B pr N E0 D ops.toList l ev T0 idOf Gs S a w E G H) (hP:PlanOk ops.toList l) (hN:N<=512) (hcl:Cl l ev S) (hx:l[i]? =some x) (hS:S i=false)
  (hb:∀j,bit x.bef j=true->S j=true) {u:Tm->AV->Tm} (hu:bN_ N x.o.dst=.mk u) (hR:∀t,t<512->tget R t=.opq\/(t∈x.rd/\Sl l ev T0 (λj=>decide (j<i)) t (tget R t)))
  (he:ev i=.off) (hg:aJ_ ops.toList x R=some false) (hw:a8_ x.kd=true->∃G,Gs[wAt ops.toList i]? =some G/\Gs[wAt ops.toList i+1]? =some G):
  wpOp P ops Q i (ji_ P B pr N E0 D ops.toList l ev T0 idOf Gs (plus S i)) a w:=by
 have ht:=inv.trel hP hN hcl hx hS hb hR;refine mW_ (c3_ hP hx) (bF_ ht hg) ⟨_,G,H,inv.next hP hcl hx hS hu (q:=.tup []) (by rw [he];rfl) (Env.sub_refl E) (a1_ E) ?_ ?_ inv.nx inv.hi inv.old ?_⟩;refine inv.r.reres (λid hid=>?_) inv.vdR;have:=d3_ id hid;rw [←inv.res]at this;exact inv.r.resv id this
 .cases hk:a8_ x.kd with
  |false=>rw [kC_ hP hx hk];exact inv.g
  |true=>obtain ⟨h1,h2⟩:=kD_ hP hcl hx hS hb hk;obtain ⟨G',g1,g2⟩:=hw hk;rw [h1,inv.g]at g1;grind
 exact kg_ hx inv.row (by grind) λ_ _ h=>h
theorem hP_ {K K':AHeap} {R:Tm} {q:AV} {o:Oper} {Q:Exit->Act->World->Prop} {C:Act->World->Prop} {res':Nat->Prop} (hr:Rel B pr E H w) (ht:TRel E N R a.tmps) (hK:∀id k,K.get id=some k->H.get id=some k)
  (hvd:∀id,E.vd id->res' id) (hres:∀id,res' id->E.φ id=none) (hrng:∀id,K.next<=id->id<K.hi->E.φ id=none/\¬res' id)
  (hrun:(ac_ P o).run R K=some (.val q K'))
  (hfin:∀(E':Env) (v:Value) (w':World),Con E' q v->E.sub E'->(∀id,res' id->E'.φ id=none/\¬(K'.next<=id/\id<K'.hi))->(∀id,K'.next<=id->id<K'.hi->E'.φ id=none)->
    (∀id k,H.get id=some k->K.get id=none->K'.get id=none)->
    (∀(nx hi:Nat) (res'':Nat->Prop),(∀id,nx<=id->id<hi->E'.φ id=none/\¬res'' id)->(∀id,res'' id->E'.φ id=none)->(∀id,E.vd id->res'' id)->
      ∃H':AHeap,H'.next=nx/\H'.hi=hi/\Rel B pr (E'.re res'' E.bim E.vd) H' w'/\(∀id k,K'.get id=some k->H'.get id=some k)/\(∀id k,H.get id=some k->K.get id=none->H'.get id=some k))->
    C (a.put o.dst v) w'):o.wp P a w C Q:=by
 obtain ⟨pr',hf1,hf2⟩:=hr.frame hK res' hvd hres hrng;have ht':TRel (E.re res' E.imm λid=>E.vd id/\K.get id≠none) N R a.tmps:=⟨ht.size,ht.le,λt h=>(ht.con t h).sub (Env.sub_re _ _ _ _),ht.gl.sub (Env.sub_re _ _ _ _)⟩;obtain ⟨E',n,v,w',h1,h2,h3,h4,h5⟩:=aw_ hrun hf1 ht';obtain ⟨f1,f2,f3,f4,f5⟩:=hf2 E' K' w' h3 h4;have hfin':=hfin E' v w' h5 f3 (λid hid=>⟨f1 id hid,(h4.resv id (by rw [h3.2.1];exact hid)).2⟩) f2 f4 f5;unfold Oper.wp;rw [h1];rcases h2 with rfl|⟨rfl,rfl⟩;exact hfin';exact hfin'
theorem i5_ {R:Tm} {Q:Exit->Act->World->Prop} (inv:InvE P B pr N E0 D ops.toList l ev T0 idOf Gs S a w E G H) (hP:PlanOk ops.toList l) (hN:N<=512) (hcl:Cl l ev S) (hx:l[i]? =some x) (hS:S i=false)
  (hb:∀j,bit x.bef j=true->S j=true) {u:Tm->AV->Tm} (hu:bN_ N x.o.dst=.mk u) (hR:∀t,t<512->tget R t=.opq\/(t∈x.rd/\Sl l ev T0 (λj=>decide (j<i)) t (tget R t)))
  {q:AV} (he:ev i=.val q) (hg:aJ_ ops.toList x R=some true) (hw:a8_ x.kd=false) {K:AHeap} (hK:∀id k,K.get id=some k->H.get id=some k)
  (hrng:∀id,K.next<=id->id<K.hi->H.next<=id/\id<H.hi) (hrun:cc_ (ac_ P x.o) R K=some q):
  wpOp P ops Q i (ji_ P B pr N E0 D ops.toList l ev T0 idOf Gs (plus S i)) a w:=by
 have ht:=inv.trel hP hN hcl hx hS hb hR;refine d7_ (c3_ hP hx) (bF_ ht hg) ?_;have hsub:∀id,b1_ E0 l idOf (plus S i) id->E.res id:=λid h=>by rw [inv.res];exact d3_ id h
 refine hP_ (res':=λid=>b1_ E0 l idOf (plus S i) id\/(H.next<=id/\id<H.hi/\¬(K.next<=id/\id<K.hi))) inv.r ht hK (λid h=>.inl (inv.vdR id h)) (λid h=>?_) (λid h1 h2=>?_) (kf_ hrun) λE' v w' hc hs h1 h2 h3 h4=>?_;rcases h with h|⟨g1,g2,_⟩;exact (inv.r.resv id (hsub id h)).1;exact inv.r.fresh id g1 g2
 .obtain ⟨g1,g2⟩:=hrng id h1 h2;refine ⟨inv.r.fresh id g1 g2,λh=>?_⟩;rcases h with h|⟨_,_,h⟩;exact (inv.r.resv id (hsub id h)).2 ⟨g1,g2⟩
  grind
 .have hun:∀id,H.next<=id->id<H.hi->E'.φ id=none:=λid e1 e2=>by
    grind
  obtain ⟨H',g1,g2,g3,g4,g5⟩:=h4 H.next H.hi (b1_ E0 l idOf (plus S i)) (λid e1 e2=>⟨hun id e1 e2,λh=>(inv.r.resv id (hsub id h)).2 ⟨e1,e2⟩⟩) (λid h=>(h1 id (.inl h)).1) inv.vdR
  .have hall:∀id k,H.get id=some k->H'.get id=some k:=λid k hk=>(by cases hk':K.get id<;>grind)
   exact ⟨_,G,H',inv.next hP hcl hx hS hu (by rw [he];rfl) hs hc g3 (by rw [kC_ hP hx hw];exact inv.g) (g1.trans inv.nx) (g2.trans inv.hi) (λid k hk=>hall id k (inv.old id k hk))
    (kg_ hx inv.row (by grind) hall)⟩
theorem rw_ {R:Tm} {Q:Exit->Act->World->Prop} (inv:InvE P B pr N E0 D ops.toList l ev T0 idOf Gs S a w E G H) (hP:PlanOk ops.toList l) (hN:N<=512) (hcl:Cl l ev S) (hx:l[i]? =some x) (hS:S i=false)
  (hb:∀j,bit x.bef j=true->S j=true) {u:Tm->AV->Tm} (hu:bN_ N x.o.dst=.mk u) (hR:∀t,t<512->tget R t=.opq\/(t∈x.rd/\Sl l ev T0 (λj=>decide (j<i)) t (tget R t)))
  {q:AV} {b:ABlk} {H₁:AHeap} (he:ev i=.row q (idOf i) b) (hg:aJ_ ops.toList x R=some true) (hk:x.kd=.mem) (hrun:(ac_ P x.o).run R ⟨hnil,idOf i,Nat.succ (idOf i)⟩=some (.val q H₁)) (hrow:H₁.get (idOf i)=some b)
  (hF:∀j y a id b,l[j]? =some y->ev j=.row a id b->id=idOf j/\y.kd=.mem) (hinj:∀i j x y,l[i]? =some x->l[j]? =some y->x.kd=.mem->y.kd=.mem->idOf i=idOf j->i=j) (h0:¬E0.res (idOf i)):
  wpOp P ops Q i (ji_ P B pr N E0 D ops.toList l ev T0 idOf Gs (plus S i)) a w:=by
 have ht:=inv.trel hP hN hcl hx hS hb hR;have hw:a8_ x.kd=false:=by rw [hk];rfl
 refine d7_ (c3_ hP hx) (bF_ ht hg) ?_;have hsub:∀id,b1_ E0 l idOf (plus S i) id->E.res id:=λid h=>by rw [inv.res];exact d3_ id h
 have hi0:E.res (idOf i):=by rw [inv.res];exact .inr ⟨i,x,hx,hS,hk,rfl⟩
 obtain ⟨hi1,hi2⟩:=inv.r.resv _ hi0;have hnot:¬b1_ E0 l idOf (plus S i) (idOf i):=λh=>by rcases h with h|⟨j,y,g1,g2,g3,g4⟩<;>grind [plus]
 have hnone:∀id k,(⟨hnil,idOf i,Nat.succ (idOf i)⟩:AHeap).get id=some k->False:=λid k h=>by
  grind [AHeap.get_of_lt,cR_,AHeap.get_of_ge]
 have hnone':∀id,(⟨hnil,idOf i,Nat.succ (idOf i)⟩:AHeap).get id=none:=λid=>by cases h:(⟨hnil,idOf i,Nat.succ (idOf i)⟩:AHeap).get id<;>grind
 refine hP_ (res':=λid=>b1_ E0 l idOf (plus S i) id\/(H.next<=id/\id<H.hi)) inv.r ht (λid k h=>(hnone id k h).elim) (λid h=>.inl (inv.vdR id h)) (λid h=>?_) (λid h1 h2=>?_) hrun λE' v w' hc hs h1 h2 h3 h4=>?_;rcases h with h|⟨g1,g2⟩;exact (inv.r.resv id (hsub id h)).1;exact inv.r.fresh id g1 g2
 .grind
 .obtain ⟨H',g1,g2,g3,g4,g5⟩:=h4 H.next H.hi (b1_ E0 l idOf (plus S i)) (λid e1 e2=>⟨(h1 id (.inr ⟨e1,e2⟩)).1,λh=>(inv.r.resv id (hsub id h)).2 ⟨e1,e2⟩⟩) (λid h=>(h1 id (.inl h)).1) inv.vdR;have hall:∀id k,H.get id=some k->H'.get id=some k:=λid k hk=>g5 id k hk (hnone' id);refine ⟨_,G,H',inv.next hP hcl hx hS hu (by rw [he];rfl) hs hc g3 (by rw [kC_ hP hx hw];exact inv.g) (g1.trans inv.nx) (g2.trans inv.hi) (λid k hk=>hall id k (inv.old id k hk)) ?_⟩;intro j y q' id b' hy hej hj hkk;by_cases hji:j=i
  .subst hji;rw [he]at hej;cases hej;refine ⟨g4 _ _ hrow,?_⟩;cases hG:G.get (idOf j)with
   |none=>rfl
   |some k=>
    obtain ⟨own,o1,_⟩:=inv.r.own;obtain ⟨hv,_⟩|⟨b2,o2,hφ,_⟩:=o1 _ _ (inv.old _ _ hG);exact absurd (inv.vd0 _ (by rw [←inv.vd];exact hv)) h0
    grind
  .obtain ⟨r1,r2⟩:=inv.row j y q' id b' hy hej (by grind [plus]) λk y' q' h3 h4 h5=>hkk k y' q' h3 (by grind [plus]) h5
   grind
theorem mM_ (inv:InvE P B pr N E0 D ops.toList l ev T0 idOf Gs S a w E G H) (hP:PlanOk ops.toList l) (hcl:Cl l ev S) (hx:l[i]? =some x) (hS:S i=false) (hb:∀j,bit x.bef j=true->S j=true)
  (hF:∀j y q,l[j]? =some y->ev j=.step q->a8_ y.kd=true) (hw:a8_ x.kd=true) {G1:AHeap} (ht:Took l ev i x G G1):∀id k,G1.get id=some k->H.get id=some k:=by
 intro id k hk;rcases ht.row id k hk with h|⟨j,y,q,h1,h2,h3,h4⟩;exact inv.old id k h
 .refine (inv.row j y q id k h1 h2 (hb j h3) λk' y' q' g1 g2 g3=>h4 k' y' q' g1 ?_ g3).1;rcases Nat.lt_trichotomy k' i with hlt|rfl|hgt;exact hlt
  .grind
  .have hbit:=hP.pair i k' x y' hgt hx g1 (.inr ⟨hw,hF k' y' q' g1 g3⟩);have:=hcl.bef k' y' i g1 g2 hbit
   grind
theorem qF_ (inv:InvE P B pr N E0 D ops.toList l ev T0 idOf Gs S a w E G H) (hP:PlanOk ops.toList l) (hcl:Cl l ev S) (hx:l[i]? =some x) (hS:S i=false) (hb:∀j,bit x.bef j=true->S j=true)
  {u:Tm->AV->Tm} (hu:bN_ N x.o.dst=.mk u) {q:AV} (he:ev i=.step q) (hw:a8_ x.kd=true) {G1 K':AHeap} (ht:Took l ev i x G G1) (h2:Gs[wAt ops.toList i+1]? =some K')
  (hrow:∀j y a id b,l[j]? =some y->ev j=.row a id b->id=idOf j/\y.kd=.mem) (hinj:∀i j x y,l[i]? =some x->l[j]? =some y->x.kd=.mem->y.kd=.mem->idOf i=idOf j->i=j)
  {E':Env} {v:Value} {w':World} (hc:Con E' q v) (hs:E.sub E') (r1:∀id,b1_ E0 l idOf (plus S i) id->E'.φ id=none/\¬(K'.next<=id/\id<K'.hi)) (r2:∀id,K'.next<=id->id<K'.hi->E'.φ id=none)
  (r3:∀id k,H.get id=some k->G1.get id=none->K'.get id=none)
  (r4:∀(nx hi:Nat) (res'':Nat->Prop),(∀id,nx<=id->id<hi->E'.φ id=none/\¬res'' id)->(∀id,res'' id->E'.φ id=none)->(∀id,E.vd id->res'' id)->
    ∃H':AHeap,H'.next=nx/\H'.hi=hi/\Rel B pr (E'.re res'' E.bim E.vd) H' w'/\(∀id k,K'.get id=some k->H'.get id=some k)/\(∀id k,H.get id=some k->G1.get id=none->H'.get id=some k)):
  ji_ P B pr N E0 D ops.toList l ev T0 idOf Gs (plus S i) (a.put x.o.dst v) w':=by
 obtain ⟨H',g1,g2,g3,g4,g5⟩:=r4 K'.next K'.hi (b1_ E0 l idOf (plus S i)) (λid e1 e2=>⟨r2 id e1 e2,λh=>(r1 id h).2 ⟨e1,e2⟩⟩) (λid h=>(r1 id h).1) inv.vdR;obtain ⟨c1,c2⟩:=kD_ hP hcl hx hS hb hw;refine ⟨_,K',H',inv.next hP hcl hx hS hu (by rw [he];rfl) hs hc g3 (by grind) g1 g2 g4 ?_⟩;intro j y q' id b hy hej hj hkk;have hji:j≠i:=by grind
 have hbi:bit x.bef j=false:=hkk i x q hx (by simp [plus]) he;obtain ⟨e1,e2⟩:=inv.row j y q' id b hy hej (by grind [plus]) λk y' q' h3 h4 h5=>hkk k y' q' h3 (by grind [plus]) h5;have hG1:G1.get id=none:=by
  cases hk:G1.get id with
  |none=>rfl
  |some k=>rcases ht.row id k hk with h|⟨j',y',q2,f1,f2,f3,f4⟩<;>grind
 grind
theorem mz_ (hcall:an_ P call) {K:AHeap} {R:Tm} {f:FuncId} {args:List AV} {fr:FRes} {o:Oper} {Q:Exit->Act->World->Prop} {C:Act->World->Prop} {res':Nat->Prop} (hr:Rel B pr E H w) (ht:TRel E N R a.tmps)
  (hK:∀id k,K.get id=some k->H.get id=some k) (hvd:∀id,E.vd id->res' id) (hres:∀id,res' id->E.φ id=none) (hrng:∀id,K.next<=id->id<K.hi->E.φ id=none/\¬res' id)
  (hrun:(ac_ P o).run R K=some (.call f args)) (hc:call f args K=some fr)
  (hfin:∀(E':Env) (q:AV) (K':AHeap) (v:Value) (w':World),(fr=.ret q K'\/fr=.pan q K')->Con E' q v->E.sub E'->(∀id,res' id->E'.φ id=none/\¬(K'.next<=id/\id<K'.hi))->(∀id,K'.next<=id->id<K'.hi->E'.φ id=none)->
    (∀id k,H.get id=some k->K.get id=none->K'.get id=none)->
    (∀(nx hi:Nat) (res'':Nat->Prop),(∀id,nx<=id->id<hi->E'.φ id=none/\¬res'' id)->(∀id,res'' id->E'.φ id=none)->(∀id,E.vd id->res'' id)->
      ∃H':AHeap,H'.next=nx/\H'.hi=hi/\Rel B pr (E'.re res'' E.bim E.vd) H' w'/\(∀id k,K'.get id=some k->H'.get id=some k)/\(∀id k,H.get id=some k->K.get id=none->H'.get id=some k))->
    match fr with
    | .ret _ _=>C (a.put o.dst v) w'
    | .pan _ _=>Q (.panic [{ v:=v,recovered:=false }]) a w'):o.wp P a w C Q:=by
 obtain ⟨pr',hf1,hf2⟩:=hr.frame hK res' hvd hres hrng;have ht':TRel (E.re res' E.imm λid=>E.vd id/\K.get id≠none) N R a.tmps:=⟨ht.size,ht.le,λt h=>(ht.con t h).sub (Env.sub_re _ _ _ _),ht.gl.sub (Env.sub_re _ _ _ _)⟩;obtain ⟨vs,h1,h2⟩:=aw_ hrun hf1 ht';unfold Oper.wp;rw [h1];refine Calls.mono (hcall f args K fr hc w pr' _ w vs ht'.gl hf1 h2) λe w' he=>?_;obtain ⟨E',h3,h4⟩:=he;cases fr with
 |ret q K'=>obtain ⟨v,rfl,h5,h6⟩:=h4;obtain ⟨f1,f2,f3,f4,f5⟩:=hf2 E' K' w' h3 h6;exact hfin E' q K' v w' (.inl rfl) h5 f3 (λid hid=>⟨f1 id hid,(h6.resv id (by rw [h3.2.1];exact hid)).2⟩) f2 f4 f5
 |pan q K'=>obtain ⟨v,rfl,h5,h6⟩:=h4;obtain ⟨f1,f2,f3,f4,f5⟩:=hf2 E' K' w' h3 h6;exact hfin E' q K' v w' (.inr rfl) h5 f3 (λid hid=>⟨f1 id hid,(h6.resv id (by rw [h3.2.1];exact hid)).2⟩) f2 f4 f5
theorem sI_ (hcall:an_ P call) {R:Tm} {Q:Exit->Act->World->Prop} (inv:InvE P B pr N E0 D ops.toList l ev T0 idOf Gs S a w E G H) (hP:PlanOk ops.toList l) (hN:N<=512) (hcl:Cl l ev S) (hx:l[i]? =some x) (hS:S i=false)
  (hb:∀j,bit x.bef j=true->S j=true) {u:Tm->AV->Tm} (hu:bN_ N x.o.dst=.mk u) (hR:∀t,t<512->tget R t=.opq\/(t∈x.rd/\Sl l ev T0 (λj=>decide (j<i)) t (tget R t)))
  {q:AV} (he:ev i=.step q) (hg:aJ_ ops.toList x R=some true) (hw:a8_ x.kd=true) {G' G1 K':AHeap} (hgs:Gs[wAt ops.toList i]? =some G') (htk:Took l ev i x G' G1) (h2:Gs[wAt ops.toList i+1]? =some K')
  (hrow:∀j y a id b,l[j]? =some y->ev j=.row a id b->id=idOf j/\y.kd=.mem) (hinj:∀i j x y,l[i]? =some x->l[j]? =some y->x.kd=.mem->y.kd=.mem->idOf i=idOf j->i=j)
  (hF:∀j y q,l[j]? =some y->ev j=.step q->a8_ y.kd=true)
  (hrun:(ac_ P x.o).run R G1=some (.val q K')\/∃f args,(ac_ P x.o).run R G1=some (.call f args)/\call f args G1=some (.ret q K')):
  wpOp P ops Q i (ji_ P B pr N E0 D ops.toList l ev T0 idOf Gs (plus S i)) a w:=by
 have ht:=inv.trel hP hN hcl hx hS hb hR;obtain ⟨c1,c2⟩:=kD_ hP hcl hx hS hb hw;rw [c1,inv.g]at hgs;cases hgs;have hK:=mM_ inv hP hcl hx hS hb hF hw htk;have hsub:∀id,b1_ E0 l idOf (plus S i) id->E.res id:=λid h=>by rw [inv.res];exact d3_ id h
 have hres:∀id,b1_ E0 l idOf (plus S i) id->E.φ id=none:=λid h=>(inv.r.resv id (hsub id h)).1;have hrng:∀id,G1.next<=id->id<G1.hi->E.φ id=none/\¬b1_ E0 l idOf (plus S i) id:=λid e1 e2=>by rw [htk.next,←inv.nx]at e1;rw [htk.hi,←inv.hi]at e2;exact ⟨inv.r.fresh id e1 e2,λh=>(inv.r.resv id (hsub id h)).2 ⟨e1,e2⟩⟩
 refine d7_ (c3_ hP hx) (bF_ ht hg) ?_;rcases hrun with hrun|⟨f,args,hrun,hc⟩;exact hP_ inv.r ht hK inv.vdR hres hrng hrun λE' v w' hc hs r1 r2 r3 r4=>qF_ inv hP hcl hx hS hb hu he hw htk h2 hrow hinj hc hs r1 r2 r3 r4;refine mz_ hcall inv.r ht hK inv.vdR hres hrng hrun hc λE' q' K'' v w' hfr hcon hs r1 r2 r3 r4=>?_;rcases hfr with hfr|hfr;cases hfr;exact qF_ inv hP hcl hx hS hb hu he hw htk h2 hrow hinj hcon hs r1 r2 r3 r4;cases hfr
theorem qk_ (inv:InvE P B pr N E0 D ops.toList l ev T0 idOf Gs S a w E G H) (hN:N<=512) {T':Tm} (hT:∀t,t<512->tget T' t=.opq\/(tget T' t=tget T0 t/\∀(j:Nat) (y:SI),l[j]? =some y->y.o.dst≠some t)):TRel E N T' a.tmps:=by
 refine ⟨inv.size,hN,λt ht=>?_,inv.gl.sub inv.sub⟩;rcases hT t ht with h|⟨h1,h2⟩;rw [h];simp [Con]
 .obtain ⟨q,h3,h4⟩:=inv.slot t ht;rcases h3 with ⟨h5,_⟩|⟨j,y,h5,_,h6,_⟩<;>grind
theorem rv_ (hcall:an_ P call) {R:Tm} (inv:InvE P B pr N E0 D ops.toList l ev T0 idOf Gs S a w E G H) (hP:PlanOk ops.toList l) (hN:N<=512) (hcl:Cl l ev S) (hx:l[i]? =some x) (hS:S i=false)
  (hb:∀j,bit x.bef j=true->S j=true) (hR:∀t,t<512->tget R t=.opq\/(t∈x.rd/\Sl l ev T0 (λj=>decide (j<i)) t (tget R t)))
  (hg:aJ_ ops.toList x R=some true) (hw:a8_ x.kd=true) {G' G1 K':AHeap} (hgs:Gs[wAt ops.toList i]? =some G') (htk:Took l ev i x G' G1)
  (hF:∀j y q,l[j]? =some y->ev j=.step q->a8_ y.kd=true) {T':Tm} (hT:∀t,t<512->tget T' t=.opq\/(tget T' t=tget T0 t/\∀(j:Nat) (y:SI),l[j]? =some y->y.o.dst≠some t)) {v:AV}
  (hrun:((ac_ P x.o).run R G1=some (.pan v)/\K'=G1)\/∃f args,(ac_ P x.o).run R G1=some (.call f args)/\call f args G1=some (.pan v K')) (C:Act->World->Prop):
  wpOp P ops (QOut P B pr N E0 (.pan v T' K' D)) i C a w:=by
 have ht:=inv.trel hP hN hcl hx hS hb hR;obtain ⟨c1,c2⟩:=kD_ hP hcl hx hS hb hw;rw [c1,inv.g]at hgs;cases hgs;have hK:=mM_ inv hP hcl hx hS hb hF hw htk;have h0:∀id,E0.res id->E.res id:=λid h=>by rw [inv.res];exact .inl h
 have hbl:=qk_ inv hN hT;refine d7_ (c3_ hP hx) (bF_ ht hg) ?_;rcases hrun with ⟨hrun,rfl⟩|⟨f,args,hrun,hc⟩;obtain ⟨u,h1,h2⟩:=aw_ hrun (inv.r.forget (H':=K') hK (by rw [htk.next,inv.nx];grind) (by rw [htk.hi,inv.hi];grind)) ht;unfold Oper.wp;rw [h1];have hs:=Env.sub_withRes E E0.res;refine ⟨E.withRes E0.res,⟨Env.sub_trans inv.sub hs,rfl,inv.bim,inv.vd⟩,u,rfl,h2.sub hs,⟨hbl.size,hbl.le,λt h=>(hbl.con t h).sub hs,hbl.gl.sub hs⟩,?_,inv.dfs.sub (Env.sub_trans inv.sub hs)⟩;refine (inv.r.reres (λid h=>inv.r.resv id (h0 id h)) (λid h=>inv.vd0 id (by rw [←inv.vd];exact h))).forget hK (by rw [htk.next,inv.nx];grind) (by rw [htk.hi,inv.hi];grind)
 .have hres:∀id,E0.res id->E.φ id=none:=λid h=>(inv.r.resv id (h0 id h)).1;have hrng:∀id,G1.next<=id->id<G1.hi->E.φ id=none/\¬E0.res id:=λid e1 e2=>(by rw [htk.next,←inv.nx]at e1;rw [htk.hi,←inv.hi]at e2;exact ⟨inv.r.fresh id e1 e2,λh=>(inv.r.resv id (h0 id h)).2 ⟨e1,e2⟩⟩);refine mz_ hcall inv.r ht hK (λid h=>inv.vd0 id (by rw [←inv.vd];exact h)) hres hrng hrun hc λE' q' K'' u w' hfr hcon hs r1 r2 r3 r4=>?_;rcases hfr with hfr|hfr;cases hfr
  .cases hfr;obtain ⟨H',g1,g2,g3,g4,g5⟩:=r4 K'.next K'.hi E0.res (λid e1 e2=>⟨r2 id e1 e2,λh=>(r1 id h).2 ⟨e1,e2⟩⟩) (λid h=>(r1 id h).1) (λid h=>inv.vd0 id (by rw [←inv.vd];exact h));have hs':=Env.sub_trans hs (Env.sub_re E' E0.res E.bim E.vd);exact ⟨E'.re E0.res E.bim E.vd,⟨Env.sub_trans inv.sub hs',rfl,inv.bim,inv.vd⟩,u,rfl,hcon.sub (Env.sub_re _ _ _ _),⟨hbl.size,hbl.le,λt h=>(hbl.con t h).sub hs',hbl.gl.sub hs'⟩,
    g3.forget g4 (by grind) (by grind),inv.dfs.sub (Env.sub_trans inv.sub hs')⟩
end
end Go.Sx
namespace Go.Sx
variable [Gl]
section
variable {P:Program} {call:CallF} {N:Nat} {B:World} {pr:Nat->Prop} {E0:Env} {D:Dfs} {ops:Array Oper} {l:List SI} {ev:Nat->Evt} {T0:Tm} {idOf:Nat->Nat} {Gs:List AHeap}
 {dd:Option (Nat×AV×AHeap)} {S:Nat->Bool} {a:Act} {w:World} {i:Nat} {x:SI}
theorem Facts.stepWr (F:Facts P call N ops.toList l ev T0 idOf Gs dd) (j:Nat) (y:SI) (q:AV) (hy:l[j]? =some y) (he:ev j=.step q):a8_ y.kd=true:=by
 rcases F.each j y hy with ⟨h,_⟩|⟨u,R,_,_,h⟩
 .grind
 .rw [he]at h;cases h with
  |wr hg hk=>rw [hk];rfl
theorem ru_ (hcall:an_ P call) (hP:PlanOk ops.toList l) (hN:N<=512) (F:Facts P call N ops.toList l ev T0 idOf Gs dd) (hcl:Cl l ev S) (inv:ji_ P B pr N E0 D ops.toList l ev T0 idOf Gs S a w)
  (hx:l[i]? =some x) (hS:S i=false) (hb:∀j,bit x.bef j=true->S j=true) (h0:x.kd=.mem->¬E0.res (idOf i)) {T':Tm}
  (hT:∀t,t<512->tget T' t=.opq\/(tget T' t=tget T0 t/\∀(j:Nat) (y:SI),l[j]? =some y->y.o.dst≠some t)) {r:CRes} (hr:∀d v H',dd=some (d,v,H')->r=.pan v T' H' D):
  wpOp P ops (QOut P B pr N E0 r) i (λa w=>ji_ P B pr N E0 D ops.toList l ev T0 idOf Gs (plus S i) a w/\Cl l ev (plus S i)) a w:=by
 obtain ⟨E,G,H,inv⟩:=inv;rcases F.each i x hx with ⟨_,d,v,H',hd,hbit⟩|⟨u,R,hu,hR,hdid⟩;exact absurd (F.dead d v H' hd) (hcl.ev d (hb d hbit)).2
 .have hplus:ev i≠ .gone->ev i≠ .die->Cl l ev (plus S i):=λh1 h2=>hcl.plus hx hb ⟨h1,h2⟩;generalize he:ev i=e at hdid;cases hdid with
  |off hg hw=>exact wpOp_mono (λa w h=>⟨h,hplus (by rw [he];simp) (by rw [he];simp)⟩) (rx_ inv hP hN hcl hx hS hb hu hR he hg hw)
  |pure hg hk h=>
   refine wpOp_mono (λa w h=>⟨h,hplus (by rw [he];simp) (by rw [he];simp)⟩) (i5_ inv hP hN hcl hx hS hb hu hR he hg (by rw [hk];rfl) (K:=⟨hnil,0,0⟩) (λid k hk=>?_) (λid _ h2=>absurd h2 (Nat.not_lt_zero _)) h)
   grind [AHeap.get_of_lt,cR_,AHeap.get_of_ge]
  |read hg hk h=>
   obtain ⟨c1,c2⟩:=ql_ hP hcl hx hS hb;exact wpOp_mono (λa w h=>⟨h,hplus (by rw [he];simp) (by rw [he];simp)⟩)
    (i5_ inv hP hN hcl hx hS hb hu hR he hg (by rw [hk];rfl) (K:=G) inv.old (λid h1 h2=>⟨by rw [inv.nx];exact h1,by rw [inv.hi];exact h2⟩) (h _ G c1 c2 inv.g))
  |fl hg hk hy hj hbit hno hlater ht h=>
   rename_i q j id y c b;refine wpOp_mono (λa w h=>⟨h,hplus (by rw [he];simp) (by rw [he];simp)⟩) (i5_ inv hP hN hcl hx hS hb hu hR he hg (by rw [hk];rfl) (K:=(⟨hnil,0,0⟩:AHeap).set id b) (λid' k hk'=>?_) (λid' _ h2=>absurd h2 (Nat.not_lt_zero _)) h);by_cases e:id=id'
   .subst e;rw [AHeap.get_set_same _ ht]at hk';cases hk';refine (inv.row j y c id b hy hj (hb j hbit) λk y' q' g1 g2 g3=>?_).1;rcases Nat.lt_trichotomy k i with hlt|rfl|hgt
    .grind
    .grind
    .cases hbk:bit y'.bef j with
     |false=>rfl
     |true=>
      have h1:=hlater k y' g1 hgt (F.stepWr k y' q' g1 g3) hbk;have:=hcl.bef k y' i g1 g2 h1
      grind
   grind [AHeap.get_set_ne,AHeap.get_of_lt,cR_,AHeap.get_of_ge]
  |mem hg hk h hrow=>exact wpOp_mono (λa w h=>⟨h,hplus (by rw [he];simp) (by rw [he];simp)⟩) (rw_ inv hP hN hcl hx hS hb hu hR he hg hk h hrow F.row F.inj (h0 hk))
  |wr hg hk h1 h2 ht h=>exact wpOp_mono (λa w h=>⟨h,hplus (by rw [he];simp) (by rw [he];simp)⟩) (sI_ hcall inv hP hN hcl hx hS hb hu hR he hg (by rw [hk];rfl) h1 ht h2 F.row F.inj F.stepWr h)
  |die hg hk h1 ht hd h=>rw [hr _ _ _ hd];exact rv_ hcall inv hP hN hcl hx hS hb hR hg (by rw [hk];rfl) h1 ht F.stepWr hT h _
omit [Gl]in
theorem dE_ {listed:Array Bool} {i:Nat} (h:i<listed.size):(λj=>(listed.setIfInBounds i true).getD j false)=plus (λj=>listed.getD j false) i:=by
 funext j
 unfold plus;by_cases e:j=i<;>simp_all [Ne.symm]
omit [Gl]in
theorem eX_ {listed:Array Bool} {i:Nat} (h:i<listed.size) (hi:listed[i]=false):(listed.setIfInBounds i true).toList.countP (· ==false)+1=listed.toList.countP (· ==false):=by
 grind
theorem qa_ (hcall:an_ P call) (hP:PlanOk ops.toList l) (hN:N<=512) (F:Facts P call N ops.toList l ev T0 idOf Gs dd) (h0:∀(i:Nat) (x:SI),l[i]? =some x->x.kd=.mem->¬E0.res (idOf i)) {T':Tm}
  (hT:∀t,t<512->tget T' t=.opq\/(tget T' t=tget T0 t/\∀(j:Nat) (y:SI),l[j]? =some y->y.o.dst≠some t)) {r:CRes} (hr:∀d v H',dd=some (d,v,H')->r=.pan v T' H' D)
  (hend:∀(S:Nat->Bool) (a:Act) (w:World),ji_ P B pr N E0 D ops.toList l ev T0 idOf Gs S a w->Cl l ev S->(∀j,j<l.length->S j=true)->QOut P B pr N E0 r .normal a w):
  ∀(fuel:Nat) (listed:Array Bool) (a:Act) (w:World),listed.size=ops.size->listed.toList.countP (· ==false)<=fuel->Cl l ev (λj=>listed.getD j false)->
   ji_ P B pr N E0 D ops.toList l ev T0 idOf Gs (λj=>listed.getD j false) a w->wpAny P .any ops (QOut P B pr N E0 r) fuel listed a w:=by
 have hlen:l.length=ops.size:=by rw [hP.len];simp
 have hall:∀(listed:Array Bool),listed.size=ops.size->Region.ready .any ops listed=[]->∀j,j<l.length->listed.getD j false=true:=by
  intro listed hs hrd j
  induction j using Nat.strongRecOn with
  |_ j ih=>
   intro hj;cases hg:listed.getD j false with
   |true=>rfl
   |false=>
    have hx:l[j]? =some l[j]:=(by simp [hj]);have:j∈Region.ready .any ops listed:=by
     rw [mem_ready];refine ⟨?_,l[j].o,c3_ hP hx,λe he hb=>?_⟩
     .grind
     .have:=hP.lt j l[j] e hx he hb
      grind
    grind
 intro fuel
 induction fuel with
 |zero=>
  intro listed a w hs hc hcl inv;have hrd:Region.ready .any ops listed=[]:=by
   rw [List.eq_nil_iff_forall_not_mem];intro j hj;obtain ⟨h1,o,h2,_⟩:=mem_ready.1 hj;have hlt:j<listed.size:=(by grind);have hg:listed[j]=false:=by simpa [hlt]using h1
   grind [eX_]
  exact ⟨hrd,hend _ a w inv hcl (hall listed hs hrd)⟩
 |succ fuel ih=>
  intro listed a w hs hc hcl inv;refine ⟨λhrd=>hend _ a w inv hcl (hall listed hs hrd),λi hi=>?_⟩;obtain ⟨h1,o,h2,h3⟩:=mem_ready.1 hi;have hlt:i<listed.size:=(by grind);have hg:listed[i]=false:=(by simpa [hlt]using h1);have hx:l[i]? =some l[i]:=(by grind);have ho:l[i].o=o:=(by grind [c3_]);refine wpOp_mono (λa w h=>?_) (ru_ hcall hP hN F hcl inv hx (by grind) (λj hj=>?_) (h0 i _ hx) hT hr)
  .grind [dE_]
  obtain ⟨e,he,hb,hj⟩:=(hP.bef i _ j hx).1 hj;have hon:=h3 e (by grind) hb;rcases hj with rfl|⟨y,hy,hj⟩;exact hon;exact hcl.bef e.on y j hy hon hj
end
end Go.Sx
namespace Go.Sx
theorem oJ_:∀(l:List AHeap) (n:Nat),sp_ l n=l[n]?
 |[],n=>by cases n<;>rfl
 |a::r,0=>rfl
 |a::r,n+1=>by simp [sp_,oJ_ r n]
theorem bt_ (x:AHeap):∀l:List AHeap,kl_ l x=l++[x]
 |[]=>rfl
 |a::r=>by simp [kl_,bt_ x r]
theorem ix_:∀l:List AHeap,iw_ l=l[l.length-1]?
 |[]=>rfl
 |[a]=>rfl
 |a::b::r=>by have ih:=ix_ (b::r);unfold iw_;simp only;rw [ih];simp
theorem lH_:∀(n:Nat) (l:List AHeap),ob_ n l=l.drop n
 |0,l=>rfl
 |n+1,[]=>rfl
 |n+1,a::r=>by simp [ob_,lH_ n r]
mutual
theorem aD_:∀{a b:AV},bM_ a b=true->a=b
 | .bool a,.bool b,h=>by grind [bM_]
 | .int k a,.int k' b,h=>by obtain ⟨h1,h2⟩:=aa_ h;rw [ia_]at h2;rw [ox_ h1,of_decide_eq_true (p:=a=b) (by grind)]
 | .flt k a,.flt k' b,h=>by simp_all [bM_]
 | .nan k,.nan k',h=>by simp_all [bM_]
 | .str a,.str b,h=>by simp_all [bM_,fs_]
 | .nptr,.nptr,h=>rfl
 | .vptr a,.vptr b,h=>by simp only [bM_]at h;rw [bj_ h]
 | .vsl a b c,.vsl a' b' c',h=>by simp only [bM_]at h;obtain ⟨h,h3⟩:=aa_ h;obtain ⟨h1,h2⟩:=aa_ h;rw [Nat.eq_of_beq_eq_true h1,Nat.eq_of_beq_eq_true h2,bj_ h3]
 | .ptr a b,.ptr c d,h=>by simp_all [bM_]
 | .nsl,.nsl,h=>rfl
 | .sl a b c d e,.sl a' b' c' d' e',h=>by simp only [bM_]at h;simp_all
 | .nmap,.nmap,h=>rfl
 | .map a,.map b,h=>by grind [bM_,Nat.eq_of_beq_eq_true]
 | .nfn,.nfn,h=>rfl
 | .fn f a,.fn g b,h=>by obtain ⟨h1,h2⟩:=aa_ h;rw [Nat.eq_of_beq_eq_true h1,bj_ h2]
 | .nif,.nif,h=>rfl
 | .iface t a,.iface u b,h=>by obtain ⟨h1,h2⟩:=aa_ h;rw [Nat.eq_of_beq_eq_true h1,aD_ h2]
 | .agg a,.agg b,h=>by simp only [bM_]at h;rw [bj_ h]
 | .tup a,.tup b,h=>by simp only [bM_]at h;rw [bj_ h]
 | .sym a,.sym b,h=>by grind [bM_,Nat.eq_of_beq_eq_true]
 | .slx a b c,.slx a' b' c',h=>by simp_all [bM_]
 | .ptx a b c d,.ptx a' b' c' d',h=>by simp only [bM_]at h;simp_all
theorem bj_:∀{a b:List AV},dl_ a b=true->a=b
 |[],[],h=>rfl
 |a::r,b::s,h=>by obtain ⟨h1,h2⟩:=aa_ h;rw [aD_ h1,bj_ h2]
 |[],_::_,h=>by simp [dl_]at h
 |_::_,[],h=>by simp [dl_]at h
end
theorem cq_ (t:Nat):tget topq t=.opq:=by
 grind [fd_,topq,Q8.at_all]
theorem gG_ (T:Tm):∀(rd:List Nat) (R:Tm),(∀t,t<512->tget R t=.opq\/(t∈rd/\tget R t=tget T t)\/tget R t=tget T t)->∀t,t<512->
  tget (av_ T rd R) t=.opq\/tget (av_ T rd R) t=tget T t
 |[],R,h,t,ht=>by rcases h t ht with h|⟨_,h⟩|h;exact .inl h;exact .inr h;exact .inr h
 |d::r,R,h,t,ht=>by
  unfold av_;split
  .rename_i hb;have hd:d<512:=(by simp_all);refine gG_ T r _ (λt ht=>?_) t ht;by_cases e:d=t
   .subst e;rw [aq_ R hd];grind
   grind [ar_]
  refine gG_ T r _ (λt ht=>?_) t ht;rcases h t ht with h|⟨_,h⟩|h;exact .inl h;exact .inr (.inr h);exact .inr (.inr h)
theorem gH_ (T:Tm):∀(rd:List Nat) (R:Tm) (t:Nat),t<512->t∉rd->tget (av_ T rd R) t=tget R t
 |[],R,t,ht,hn=>rfl
 |d::r,R,t,ht,hn=>by unfold av_;have hne:d≠t:=λe=>hn (by rw [e];exact List.mem_cons_self ..);have hr:t∉r:=λh=>hn (List.mem_cons_of_mem _ h);split;rename_i hb;have hd:d<512:=(by simpa [Nat.blt_eq]using hb);rw [gH_ T r _ t ht hr,ar_ R ht hd hne];exact gH_ T r _ t ht hr
theorem qN_ (T:Tm) (rd:List Nat) (t:Nat) (ht:t<512):tget (av_ T rd topq) t=.opq\/(t∈rd/\tget (av_ T rd topq) t=tget T t):=by
 grind [gG_,cq_,gH_]
theorem eF_ {N:Nat} {dst:Option Nat} {u:Tm->AV->Tm} (hu:bN_ N dst=.mk u) (T:Tm) (a:AV) {t:Nat} (ht:t<512):
  (dst=some t->tget (u T a) t=a)/\(dst≠some t->tget (u T a) t=tget T t):=by
 unfold bN_ at hu;split at hu
 .grind
 rename_i d;split at hu;rename_i hb;cases hu;have hd:d<512:=(by simp_all);refine ⟨λh=>?_,λh=>?_⟩;cases h;exact aq_ T hd a;exact ar_ T ht hd (λe=>h (by rw [e])) a;cases hu
theorem lw_ {N:Nat}:∀(l:List SI) (T T':Tm),r5_ N l T=some T'->∀t,t<512->tget T' t=.opq\/(tget T' t=tget T t/\∀(j:Nat) (y:SI),l[j]? =some y->y.o.dst≠some t)
 |[],T,T',h,t,ht=>by cases h;grind
 |x::r,T,T',h,t,ht=>by
  unfold r5_ at h;split at h
  .rename_i u hu;have ih:=lw_ r _ _ h t ht;obtain ⟨p1,p2⟩:=eF_ hu T .opq ht
   grind
  cases h
theorem gj_ (bef:Nat):∀(fl:List Fl) (G:AHeap),(∀f∈fl,f.id<top)->(dk_ bef fl G).next=G.next/\(dk_ bef fl G).hi=G.hi/\
  ∀id k,(dk_ bef fl G).get id=some k->G.get id=some k\/∃f∈fl,bit bef f.op=true/\f.id=id/\f.b=k
 |[],G,_=>⟨rfl,rfl,λid k h=>.inl h⟩
 |f::r,G,ht=>by
  unfold dk_;split
  .rename_i hb;obtain ⟨h1,h2,h3⟩:=gj_ bef r (G.set f.id f.b) λg hg=>ht g (List.mem_cons_of_mem _ hg);refine ⟨h1,h2,λid k hk=>?_⟩;rcases h3 id k hk with h|⟨g,hg,h⟩
   .by_cases e:f.id=id
    .subst e;rw [AHeap.get_set_same G (ht f (List.mem_cons_self ..))]at h
     grind
    grind [AHeap.get_set_ne]
   grind
  obtain ⟨h1,h2,h3⟩:=gj_ bef r G λg hg=>ht g (List.mem_cons_of_mem _ hg);refine ⟨h1,h2,λid k hk=>?_⟩;rcases h3 id k hk with h|⟨g,hg,h⟩;exact .inl h;exact .inr ⟨g,List.mem_cons_of_mem _ hg,h⟩
theorem co_ (bef:Nat):∀(fl:List Fl) (f:Fl),f∈fA_ bef fl->f∈fl/\bit bef f.op=false
 |[],f,h=>by simp [fA_]at h
 |g::r,f,h=>by unfold fA_ at h;split at h;obtain ⟨h1,h2⟩:=co_ bef r f h;exact ⟨List.mem_cons_of_mem _ h1,h2⟩;rename_i hb;rcases List.mem_cons.1 h with rfl|h;exact ⟨List.mem_cons_self ..,by simpa using hb⟩;obtain ⟨h1,h2⟩:=co_ bef r f h;exact ⟨List.mem_cons_of_mem _ h1,h2⟩
theorem kp_:∀(fl:List Fl) (G:AHeap),(∀f∈fl,f.id<top)->(fG_ fl G).next=G.next/\(fG_ fl G).hi=G.hi/\
  ∀id k,(fG_ fl G).get id=some k->G.get id=some k\/∃f∈fl,f.id=id/\f.b=k
 |[],G,_=>⟨rfl,rfl,λid k h=>.inl h⟩
 |f::r,G,ht=>by
  obtain ⟨h1,h2,h3⟩:=kp_ r (G.set f.id f.b) λg hg=>ht g (List.mem_cons_of_mem _ hg);refine ⟨h1,h2,λid k hk=>?_⟩;rcases h3 id k hk with h|⟨g,hg,h⟩
  .by_cases e:f.id=id
   .subst e;rw [AHeap.get_set_same G (ht f (List.mem_cons_self ..))]at h
    grind
   grind [AHeap.get_set_ne]
  grind
theorem iX_ {c:OC} {T:Tm} {a:AV}:∀(n:Nat) (l:List AHeap),hN_ c T a n l=true->∀m G,m<n->l[m]? =some G->cc_ c T G=some a
 |0,l,h,m,G,hm,hg=>by omega
 |n+1,[],h,m,G,hm,hg=>by simp at hg
 |n+1,H::r,h,m,G,hm,hg=>by
  unfold hN_ at h;split at h
  .rename_i a' ha;obtain ⟨h1,h2⟩:=aa_ h;cases m with
   |zero=>simp at hg;subst hg;rw [ha,aD_ h1]
   |succ m=>exact iX_ n r h2 m G (by omega) (by simpa using hg)
  cases h
theorem ge_ [Gl] {P:Program} {Gs:List AHeap}:∀(rd:List Rd),fa_ P Gs rd=true->∀x∈rd,∀m G,x.lo<m->m<=x.hi->Gs[m]? =some G->cc_ (ac_ P x.o) x.T G=some x.a
 |[],h,x,hx=>by simp at hx
 |y::r,h,x,hx=>by
  obtain ⟨h1,h2⟩:=aa_ h;rcases List.mem_cons.1 hx with rfl|hx
  .intro m G g1 g2 g3;refine iX_ _ _ h1 (m-(x.lo+1)) G ?_ ?_<;>grind [lH_]
  exact ge_ r h2 x hx
theorem bQ_:∀(l:List SI) (i:Nat) (x:SI),l[i]? =some x->aV_ (l.take (i+1))=aV_ (l.take i)+(match x.kd with| .mem=>1|_=>0)
 |[],i,x,h=>by simp at h
 |y::r,0,x,h=>by
  grind [aV_]
 |y::r,i+1,x,h=>by have ih:=bQ_ r i x (by simpa using h);simp only [List.take_succ_cons,aV_];rw [ih];cases y.kd<;>simp only [Nat.succ_eq_add_one]<;>omega
theorem em_:∀(l:List SI) (i:Nat),aV_ (l.take i)<=aV_ l
 |[],i=>by simp
 |y::r,0=>by simp [aV_]
 |y::r,i+1=>by have ih:=em_ r i;simp only [List.take_succ_cons,aV_];cases y.kd<;>simp only [Nat.succ_eq_add_one]<;>omega
theorem fh_ (l:List SI) {i j:Nat} (h:i<=j):aV_ (l.take i)<=aV_ (l.take j):=by
 have:=em_ (l.take j) i
 grind
def a7_ (l:List SI) (base j:Nat):Nat:=base+aV_ (l.take j)
theorem nn_ {l:List SI} {base i j:Nat} {x y:SI} (hx:l[i]? =some x) (hy:l[j]? =some y) (kx:x.kd=.mem) (ky:y.kd=.mem) (h:a7_ l base i=a7_ l base j):i=j:=by unfold a7_ at h;have h1:=bQ_ l i x hx;have h2:=bQ_ l j y hy;rw [kx]at h1;rw [ky]at h2;simp only at h1 h2;rcases Nat.lt_trichotomy i j with hlt|he|hgt;have:=fh_ l (show i+1<=j by omega);omega;exact he;have:=fh_ l (show j+1<=i by omega);omega
theorem PlanOk.bef_lt {ops:List Oper} {l:List SI} (hP:PlanOk ops l):∀(i:Nat) (x:SI) (j:Nat),l[i]? =some x->bit x.bef j=true->j<i:=by
 intro i
 induction i using Nat.strongRecOn with
 |_ i ih=>
  intro x j hx hb;obtain ⟨e,he,hbe,hj⟩:=(hP.bef i x j hx).1 hb;have hlt:=hP.lt i x e hx he hbe
  grind
theorem rS_ {ops:List Oper} {l:List SI} (hP:PlanOk ops l) {i:Nat} {x:SI} (hx:l[i]? =some x):wAt ops (i+1)=wAt ops i+(match a8_ x.kd with|true=>1|false=>0):=by
 have hpl:(λj=>decide (j<i+1))=plus (λj=>decide (j<i)) i:=by
  unfold plus
  grind
 unfold wAt;rw [hpl];cases hw:a8_ x.kd with
 |true=>
  have:=gp_ (S:=λj=>decide (j<i)) ops 0 i x.o (hP.op i x hx) (by rw [←hP.kd i x hx];exact hw) (by simp)
  grind
 |false=>exact kC_ hP hx hw
variable [Gl]
inductive Did0 (P:Program) (call:CallF) (ops:List Oper) (l:List SI) (ev:Nat->Evt) (idOf:Nat->Nat) (Gs:List AHeap) (rd:List Rd) (dd:Option (Nat×AV×AHeap)) (i:Nat) (x:SI) (R:Tm):Evt->Prop
 |off (hg:aJ_ ops x R=some false) (hw:a8_ x.kd=true->∃G,Gs[wAt ops i]? =some G/\Gs[wAt ops i+1]? =some G):Did0 P call ops l ev idOf Gs rd dd i x R .off
 |pure {a:AV} (hg:aJ_ ops x R=some true) (hk:x.kd=.pure) (h:cc_ (ac_ P x.o) R ⟨hnil,0,0⟩=some a):Did0 P call ops l ev idOf Gs rd dd i x R (.val a)
 |read {a:AV} {G:AHeap} (hg:aJ_ ops x R=some true) (hk:x.kd=.read) (h1:Gs[x.lo]? =some G) (h:cc_ (ac_ P x.o) R G=some a) (hr:Rd.mk R x.o a x.lo x.hi∈rd):Did0 P call ops l ev idOf Gs rd dd i x R (.val a)
 |fl {a:AV} {j id:Nat} {y:SI} {c:AV} {b:ABlk} (hg:aJ_ ops x R=some true) (hk:x.kd=.read) (hy:l[j]? =some y) (hj:ev j=.row c id b) (hbit:bit x.bef j=true)
   (hno:∀(k:Nat) (y':SI) (a':AV),l[k]? =some y'->k<i->ev k=.step a'->bit y'.bef j=false) (hlater:∀(k:Nat) (y':SI),l[k]? =some y'->i<k->a8_ y'.kd=true->bit y'.bef j=true->bit y'.bef i=true)
   (ht:id<top) (h:cc_ (ac_ P x.o) R ((⟨hnil,0,0⟩:AHeap).set id b)=some a):Did0 P call ops l ev idOf Gs rd dd i x R (.val a)
 |mem {a:AV} {b:ABlk} {H':AHeap} (hg:aJ_ ops x R=some true) (hk:x.kd=.mem) (h:(ac_ P x.o).run R ⟨hnil,idOf i,Nat.succ (idOf i)⟩=some (.val a H')) (hb:H'.get (idOf i)=some b):
   Did0 P call ops l ev idOf Gs rd dd i x R (.row a (idOf i) b)
 |wr {a:AV} {G G1 H':AHeap} (hg:aJ_ ops x R=some true) (hk:x.kd=.wr) (h1:Gs[wAt ops i]? =some G) (h2:Gs[wAt ops i+1]? =some H') (ht:Took l ev i x G G1)
   (h:(ac_ P x.o).run R G1=some (.val a H')\/∃f args,(ac_ P x.o).run R G1=some (.call f args)/\call f args G1=some (.ret a H')):Did0 P call ops l ev idOf Gs rd dd i x R (.step a)
 |die {v:AV} {G G1 H':AHeap} (hg:aJ_ ops x R=some true) (hk:x.kd=.wr) (h1:Gs[wAt ops i]? =some G) (ht:Took l ev i x G G1) (hd:dd=some (i,v,H'))
   (h:((ac_ P x.o).run R G1=some (.pan v)/\H'=G1)\/∃f args,(ac_ P x.o).run R G1=some (.call f args)/\call f args G1=some (.pan v H')):Did0 P call ops l ev idOf Gs rd dd i x R .die
omit [Gl]in
theorem getElem?_app {α:Type} {l:List α} {m:Nat} {a:α} (h:l[m]? =some a) (r:List α):(l++r)[m]? =some a:=by
 grind
section
variable {P:Program} {call:CallF} {N:Nat} {ops:List Oper} {l:List SI} {T0:Tm} {base:Nat}
omit [Gl]in
theorem Took.congr {ev ev':Nat->Evt} {i:Nat} {x:SI} {G G1:AHeap} (h:Took l ev i x G G1) (hb:∀j,bit x.bef j=true->j<i) (he:∀j,j<i->ev' j=ev j):Took l ev' i x G G1 where
 next:=h.next
 hi:=h.hi
 row:=λid k hk=>by rcases h.row id k hk with h|⟨j,y,a,h1,h2,h3,h4⟩<;>grind
theorem Did0.mono {ev ev':Nat->Evt} {idOf:Nat->Nat} {Gs gs:List AHeap} {rd rd':List Rd} {dd dd':Option (Nat×AV×AHeap)} {i:Nat} {x:SI} {R:Tm} {e:Evt} (h:Did0 P call ops l ev idOf Gs rd dd i x R e)
  (hb:∀j,bit x.bef j=true->j<i) (he:∀j,j<i->ev' j=ev j) (hr:∀r∈rd,r∈rd') (hd:∀d,dd=some d->dd'=some d):Did0 P call ops l ev' idOf (Gs++gs) rd' dd' i x R e:=by
 cases h with
 |off hg hw=>exact .off hg λh=>by grind
 |pure hg hk h=>exact .pure hg hk h
 |read hg hk h1 h hr'=>exact .read hg hk (getElem?_app h1 _) h (hr _ hr')
 |fl hg hk hy hj hbit hno hlater ht h=>exact .fl hg hk hy (by rw [he _ (hb _ hbit)];exact hj) hbit (λk y' a' g1 g2 g3=>hno k y' a' g1 g2 (by grind)) hlater ht h
 |mem hg hk h hb=>exact .mem hg hk h hb
 |wr hg hk h1 h2 ht h=>exact .wr hg hk (getElem?_app h1 _) (getElem?_app h2 _) (ht.congr hb he) h
 |die hg hk h1 ht hd' h=>exact .die hg hk (getElem?_app h1 _) (ht.congr hb he) (hd _ hd') h
structure DInv (P:Program) (call:CallF) (N:Nat) (ops:List Oper) (l:List SI) (T0:Tm) (base i:Nat) (ev:Nat->Evt) (s:DS):Prop where
 slot:∀t,t<512->Sl l ev T0 (λj=>decide (j<i)) t (tget s.T t)
 gs:s.dead=none->s.Gs.length=wAt ops i+1
 gsd:∀d v H,s.dead=some (d,v,H)->ev d=.die/\d<i/\∃y,l[d]? =some y/\a8_ y.kd=true
 fl:∀f∈s.fl,∃y a,l[f.op]? =some y/\f.op<i/\ev f.op=.row a f.id f.b/\∀k y' a',l[k]? =some y'->k<i->ev k=.step a'->bit y'.bef f.op=false
 each:∀(j:Nat) (x:SI),l[j]? =some x->j<i->(ev j=.gone/\∃d v H,s.dead=some (d,v,H)/\bit x.bef d=true)\/
  ∃u R,bN_ N x.o.dst=.mk u/\(∀t,t<512->tget R t=.opq\/(t∈x.rd/\Sl l ev T0 (λk=>decide (k<j)) t (tget R t)))/\Did0 P call ops l ev (a7_ l base) s.Gs s.rd s.dead j x R (ev j)
 row:∀j y a id b,l[j]? =some y->j<i->ev j=.row a id b->id=a7_ l base j/\y.kd=.mem
 ft:∀f∈s.fl,f.id<top
omit [Gl]in
theorem Sl.ev_congr {ev ev':Nat->Evt} {S:Nat->Bool} {t:Nat} {a:AV} (h:Sl l ev T0 S t a) (he:∀j,S j=true->ev' j=ev j):Sl l ev' T0 S t a:=by rcases h with ⟨h1,h2⟩|⟨j,x,h1,h2,h3,h4,h5⟩;exact .inl ⟨h1,λj x hj hs hd=>by grind⟩;exact .inr ⟨j,x,h1,h2,h3,by grind,λj' x' hj hs hd hp=>h5 j' x' hj hs hd (by grind)⟩
theorem DInv.congr (hP:PlanOk ops l) {i:Nat} {ev ev':Nat->Evt} {s:DS} (h:DInv P call N ops l T0 base i ev s) (he:∀j,j<i->ev' j=ev j):DInv P call N ops l T0 base i ev' s where
 slot:=λt ht=>(h.slot t ht).ev_congr λj hj=>he j (by grind)
 gs:=h.gs
 gsd:=λd v H hd=>by
  obtain ⟨h1,h2,h3⟩:=h.gsd d v H hd
  grind
 fl:=λf hf=>by
  obtain ⟨y,a,h1,h2,h3,h4⟩:=h.fl f hf
  grind
 each:=λj x hx hj=>by
  rcases h.each j x hx hj with ⟨h1,h2⟩|⟨u,R,h1,h2,h3⟩
  .grind
  .refine .inr ⟨u,R,h1,λt ht=>(h2 t ht).imp id λh=>⟨h.1,h.2.ev_congr λk hk=>he k (Nat.lt_trans (by grind) hj)⟩,?_⟩
   .have:=h3.mono (gs:=[]) (ev':=ev') (λk hk=>hP.bef_lt j x k hx hk) (λk hk=>he k (by omega)) (λr hr=>hr) (λd hd=>hd)
    grind
 row:=λj y a id b hy hj hr=>h.row j y a id b hy hj (by grind)
 ft:=h.ft
omit [Gl]in
theorem oD_ (i:Nat):(λj=>decide (j<i+1))=plus (λj=>decide (j<i)) i:=by
 unfold plus
 grind
theorem DInv.step (hP:PlanOk ops l) {i:Nat} {ev:Nat->Evt} {s s':DS} {x:SI} (inv:DInv P call N ops l T0 base i ev s) (hx:l[i]? =some x) {gs:List AHeap}
  (hT:s'.T=s.T/\(ev i).put=none\/∃u a,bN_ N x.o.dst=.mk u/\(ev i).put=some a/\s'.T=u s.T a)
  (hGs:s'.Gs=s.Gs++gs) (hlen:s'.dead=none->gs.length=match a8_ x.kd with|true=>1|false=>0)
  (hdd:s'.dead=s.dead\/s.dead=none/\ev i=.die/\a8_ x.kd=true/\∃v H,s'.dead=some (i,v,H))
  (hrd:∀r∈s.rd,r∈s'.rd)
  (hfl:∀f∈s'.fl,(f∈s.fl/\∀a,ev i=.step a->bit x.bef f.op=false)\/(f.op=i/\x.kd=.mem/\∃a,ev i=.row a f.id f.b))
  (heach:(ev i=.gone/\∃d v H,s'.dead=some (d,v,H)/\bit x.bef d=true)\/
    ∃u R,bN_ N x.o.dst=.mk u/\(∀t,t<512->tget R t=.opq\/(t∈x.rd/\tget R t=tget s.T t))/\Did0 P call ops l ev (a7_ l base) s'.Gs s'.rd s'.dead i x R (ev i))
  (hrow:∀a id b,ev i=.row a id b->id=a7_ l base i/\x.kd=.mem) (hft:∀f∈s'.fl,f.id<top):
  DInv P call N ops l T0 base (i+1) ev s' where
 slot:=λt ht=>by
  have h:=inv.slot t ht;rw [oD_];rcases hT with ⟨h1,h2⟩|⟨u,a,h1,h2,h3⟩;rw [h1];exact h.keep λy hy _=>h2
  .obtain ⟨p1,p2⟩:=eF_ h1 s.T a ht;rw [h3];by_cases e:x.o.dst=some t
   .grind [Sl.put]
   .rw [p2 e];refine h.keep λy hy hd=>?_
    grind
 gs:=λhd=>by
  have hd0:s.dead=none:=by
   grind
  rw [hGs,List.length_append,inv.gs hd0,hlen hd,rS_ hP hx]
  grind
 gsd:=λd v H hd=>by
  rcases hdd with h|⟨h,h1,h2,v',H',h3⟩
  .rw [h]at hd;obtain ⟨g1,g2,g3⟩:=inv.gsd d v H hd
   grind
  grind
 fl:=λf hf=>by
  rcases hfl f hf with ⟨h1,h2⟩|⟨h1,hk,a,h2⟩
  .obtain ⟨y,a,g1,g2,g3,g4⟩:=inv.fl f h1
   grind
  .refine ⟨x,a,by grind,by omega,by grind,λk y' a' q1 q2 q3=>?_⟩;cases hb:bit y'.bef f.op with
   |false=>rfl
   |true=>
    have:=hP.bef_lt k y' _ q1 hb
    grind
 each:=λj y hy hj=>by
  by_cases e:j=i;subst e;rw [hx]at hy;cases hy;rcases heach with h|⟨u,R,h1,h2,h3⟩;exact .inl h;exact .inr ⟨u,R,h1,λt ht=>(h2 t ht).imp id λh=>⟨h.1,by rw [h.2];exact inv.slot t ht⟩,h3⟩
  .have hmono:∀d,s.dead=some d->s'.dead=some d:=λd hd=>by
     grind
   rcases inv.each j y hy (by omega)with ⟨h1,d,v,H,h2,h3⟩|⟨u,R,h1,h2,h3⟩
   .grind
   rw [hGs];exact .inr ⟨u,R,h1,h2,h3.mono (λk hk=>hP.bef_lt j y k hy hk) (λ_ _=>rfl) hrd hmono⟩
 row:=λj y a id b hy hj hr=>by
  by_cases e:j=i
  .grind
  exact inv.row j y a id b hy (by omega) hr
 ft:=hft
end
end Go.Sx
namespace Go.Sx
variable [Gl]
section
variable {P:Program} {call:CallF} {N:Nat} {ops:List Oper} {l:List SI} {T0:Tm} {base:Nat} {i:Nat} {ev:Nat->Evt} {s:DS}
theorem DInv.last (inv:DInv P call N ops l T0 base i ev s) (hd:s.dead=none) {G:AHeap} (h:iw_ s.Gs=some G):s.Gs[wAt ops i]? =some G/\∀G',(s.Gs++[G'])[wAt ops i+1]? =some G':=by
 have hl:=inv.gs hd
 grind [ix_]
theorem DInv.took (inv:DInv P call N ops l T0 base i ev s) {x:SI} (hx:l[i]? =some x) {G:AHeap}:Took l ev i x G (dk_ x.bef s.fl G):=by
 obtain ⟨h1,h2,h3⟩:=gj_ x.bef s.fl G inv.ft;refine ⟨h1,h2,λid k hk=>?_⟩;rcases h3 id k hk with h|⟨f,hf,hb,rfl,rfl⟩;exact .inl h
 .obtain ⟨y,a,g1,g2,g3,g4⟩:=inv.fl f hf
  grind
omit [Gl]in
theorem fy_ {i j:Nat}:∀(rest:List SI),e6_ rest i j=true->∀(k:Nat) (y:SI),rest[k]? =some y->a8_ y.kd=true->bit y.bef j=true->bit y.bef i=true
 |[],h,k,y,hy,_,_=>by simp at hy
 |z::r,h,k,y,hy,h1,h2=>by
  unfold e6_ at h;split at h
  .split at h
   .rename_i hz;cases k with
    |zero=>simp at hy;subst hy;exact hz
    |succ k=>exact fy_ r h k y (by simpa using hy) h1 h2
   cases h
  .rename_i hz;cases k with
   |zero=>simp at hy;subst hy;rw [h1,h2]at hz;cases hz
   |succ k=>exact fy_ r h k y (by simpa using hy) h1 h2
omit [Gl]in
theorem gR_ {c:OC} {R:Tm} {bef:Nat} {rest:List SI} {i:Nat} {a:AV}:∀(fl:List Fl),iU_ c R bef rest i fl=some a->
  ∃f∈fl,bit bef f.op=true/\e6_ rest i f.op=true/\cc_ c R ((⟨hnil,0,0⟩:AHeap).set f.id f.b)=some a
 |[],h=>by cases h
 |f::r,h=>by unfold iU_ at h;split at h;rename_i hb;obtain ⟨h1,h2⟩:=aa_ hb;split at h;rename_i a' ha;cases h;exact ⟨f,List.mem_cons_self ..,h1,h2,ha⟩;obtain ⟨g,q1,q2⟩:=gR_ r h;exact ⟨g,List.mem_cons_of_mem _ q1,q2⟩;obtain ⟨g,q1,q2⟩:=gR_ r h;exact ⟨g,List.mem_cons_of_mem _ q1,q2⟩
theorem lF_ (hP:PlanOk ops l) {i id:Nat} {ev0:Nat->Evt} {s s':DS} {x:SI} (inv0:DInv P call N ops l T0 base i ev0 s) (hx:l[i]? =some x) (hid:id=a7_ l base i) {rest:List SI} (hrest:∀k,rest[k]? =l[i+1+k]?)
  (h:en_ P call N ops x rest i id s=some s'):∃e,∀ev:Nat->Evt,(∀j,j<i->ev j=ev0 j)->ev i=e->DInv P call N ops l T0 base (i+1) ev s':=by
 unfold en_ at h;split at h
 ·
  rename_i hdead;cases h;cases hd:s.dead with
  |none=>rw [hd]at hdead;cases hdead
  |some p=>
   obtain ⟨d,v,H⟩:=p;rw [hd]at hdead;refine ⟨.gone,λev hev he=>?_⟩;have inv:=inv0.congr hP hev;exact inv.step hP hx (gs:=[]) (.inl ⟨rfl,by rw [he];rfl⟩) (by simp) (λh=>by grind) (.inl rfl) (λr hr=>hr) (λf hf=>.inl ⟨hf,λa ha=>by grind⟩)
    (.inl ⟨he,d,v,H,hd,hdead⟩) (λa id b hr=>by grind) inv.ft
 .split at h;cases h
  .rename_i u hu;split at h;cases h
   .rename_i t hg;have hR:=qN_ s.T x.rd;split at h
    ·
     unfold na_ at h;split at h
     .rename_i hk;split at h
      .rename_i a ha;cases h;refine ⟨.val a,λev hev he=>?_⟩;have inv:=inv0.congr hP hev;exact inv.step hP hx (gs:=[]) (.inr ⟨u,a,hu,by rw [he];rfl,rfl⟩) (by simp) (λ_=>by rw [hk];rfl) (.inl rfl) (λr hr=>hr) (λf hf=>.inl ⟨hf,λa ha=>by grind⟩)
        (.inr ⟨u,_,hu,hR,by rw [he];exact .pure hg hk ha⟩) (λa id b hr=>by grind) inv.ft
      cases h
     .rename_i hk;split at h;cases h
      .rename_i G hG;split at h
       .rename_i a ha;cases h;refine ⟨.val a,λev hev he=>?_⟩;have inv:=inv0.congr hP hev;exact inv.step hP hx (gs:=[]) (.inr ⟨u,a,hu,by rw [he];rfl,rfl⟩) (by simp) (λ_=>by rw [hk];rfl) (.inl rfl) (λr hr=>List.mem_cons_of_mem _ hr) (λf hf=>.inl ⟨hf,λa ha=>by grind⟩)
         (.inr ⟨u,_,hu,hR,by rw [he];exact .read hg hk (by grind [oJ_]) ha (List.mem_cons_self ..)⟩) (λa id b hr=>by grind) inv.ft
       .split at h
        .rename_i a ha;cases h;obtain ⟨f,hf,hbit,hlat,hrd⟩:=gR_ _ ha;refine ⟨.val a,λev hev he=>?_⟩;have inv:=inv0.congr hP hev;obtain ⟨y,c,g1,g2,g3,g4⟩:=inv.fl f hf;refine inv.step hP hx (gs:=[]) (.inr ⟨u,a,hu,by rw [he];rfl,rfl⟩) (by simp) (λ_=>by rw [hk];rfl) (.inl rfl) (λr hr=>hr) (λf hf=>.inl ⟨hf,λa ha=>by grind⟩)
          (.inr ⟨u,_,hu,hR,by rw [he];exact .fl hg hk g1 g3 hbit g4 (λk y' q1 q2 q3 q4=>fy_ rest hlat (k-(i+1)) y' (by grind) q3 q4) (inv.ft f hf) hrd⟩) (λa id b hr=>by grind) inv.ft
        cases h
     .rename_i hk;split at h
      .rename_i a H' hrun;split at h
       .rename_i b hb;cases h;refine ⟨.row a id b,λev hev he=>?_⟩;have inv:=inv0.congr hP hev;refine inv.step hP hx (gs:=[]) (.inr ⟨u,a,hu,by rw [he];rfl,rfl⟩) (by simp) (λ_=>by rw [hk];rfl) (.inl rfl) (λr hr=>hr) (λf hf=>?_)
         (.inr ⟨u,_,hu,hR,by rw [he];subst hid;exact .mem hg hk hrun hb⟩) (λa id b hr=>by grind) (λf hf=>?_)
        .grind
        rcases List.mem_cons.1 hf with rfl|hf;exact AHeap.get_lt hb;exact inv.ft f hf
       cases h
      cases h
     .rename_i hk;split at h;cases h
      .rename_i hd;split at h;cases h
       .rename_i G hG;have hw:a8_ x.kd=true:=(by rw [hk];rfl);split at h
        .rename_i a H' hrun;cases h;refine ⟨.step a,λev hev he=>?_⟩;have inv:=inv0.congr hP hev;obtain ⟨q1,q2⟩:=inv.last hd hG;refine inv.step hP hx (gs:=[H']) (.inr ⟨u,a,hu,by rw [he];rfl,rfl⟩) (bt_ _ _) (λ_=>by rw [hw];rfl) (.inl rfl) (λr hr=>hr) (λf hf=>?_)
          (.inr ⟨u,_,hu,hR,by rw [he];exact .wr hg hk (by grind [bt_]) (by grind [bt_]) (inv.took hx) (.inl hrun)⟩) (λa id b hr=>by grind) (λf hf=>?_)
         .obtain ⟨f1,f2⟩:=co_ _ _ _ hf
          grind
         exact inv.ft f (co_ _ _ _ hf).1
        .rename_i f args hrun;split at h
         .rename_i a H' hc;cases h;refine ⟨.step a,λev hev he=>?_⟩;have inv:=inv0.congr hP hev;obtain ⟨q1,q2⟩:=inv.last hd hG;refine inv.step hP hx (gs:=[H']) (.inr ⟨u,a,hu,by rw [he];rfl,rfl⟩) (bt_ _ _) (λ_=>by rw [hw];rfl) (.inl rfl) (λr hr=>hr) (λf hf=>?_)
           (.inr ⟨u,_,hu,hR,by rw [he];exact .wr hg hk (by grind [bt_]) (by grind [bt_]) (inv.took hx) (.inr ⟨f,args,hrun,hc⟩)⟩) (λa id b hr=>by grind) (λf hf=>?_)
          .obtain ⟨f1,f2⟩:=co_ _ _ _ hf
           grind
          exact inv.ft f (co_ _ _ _ hf).1
         .rename_i v H' hc;cases h;refine ⟨.die,λev hev he=>?_⟩;have inv:=inv0.congr hP hev;obtain ⟨q1,q2⟩:=inv.last hd hG;exact inv.step hP hx (gs:=[]) (.inl ⟨rfl,by rw [he];rfl⟩) (by simp) (λh=>by cases h) (.inr ⟨hd,he,hw,v,H',rfl⟩) (λr hr=>hr) (λf hf=>.inl ⟨hf,λa ha=>by grind⟩)
           (.inr ⟨u,_,hu,hR,by rw [he];exact .die hg hk q1 (inv.took hx) rfl (.inr ⟨f,args,hrun,hc⟩)⟩) (λa id b hr=>by grind) inv.ft
         cases h
        .rename_i v hrun;cases h;refine ⟨.die,λev hev he=>?_⟩;have inv:=inv0.congr hP hev;obtain ⟨q1,q2⟩:=inv.last hd hG;exact inv.step hP hx (gs:=[]) (.inl ⟨rfl,by rw [he];rfl⟩) (by simp) (λh=>by cases h) (.inr ⟨hd,he,hw,v,_,rfl⟩) (λr hr=>hr) (λf hf=>.inl ⟨hf,λa ha=>by grind⟩)
          (.inr ⟨u,_,hu,hR,by rw [he];exact .die hg hk q1 (inv.took hx) rfl (.inl ⟨hrun,rfl⟩)⟩) (λa id b hr=>by grind) inv.ft
        cases h
    ·
     unfold kE_ at h;split at h
     .rename_i hk;split at h;cases h
      .rename_i hd;split at h;cases h
       .rename_i G hG;cases h;have hw:a8_ x.kd=true:=(by rw [hk];rfl);refine ⟨.off,λev hev he=>?_⟩;have inv:=inv0.congr hP hev;obtain ⟨q1,q2⟩:=inv.last hd hG;exact inv.step hP hx (gs:=[G]) (.inr ⟨u,.tup [],hu,by rw [he];rfl,rfl⟩) (bt_ _ _) (λ_=>by rw [hw];rfl) (.inl rfl) (λr hr=>hr) (λf hf=>.inl ⟨hf,λa ha=>by grind⟩)
         (.inr ⟨u,_,hu,hR,by rw [he];exact .off hg λ_=>⟨G,by grind [bt_],by grind [bt_]⟩⟩) (λa id b hr=>by grind) inv.ft
     .rename_i hk;cases h;have hw:a8_ x.kd=false:=by cases hkd:x.kd<;>first|rfl|exact absurd hkd (by simpa using hk)
      refine ⟨.off,λev hev he=>?_⟩;have inv:=inv0.congr hP hev;exact inv.step hP hx (gs:=[]) (.inr ⟨u,.tup [],hu,by rw [he];rfl,rfl⟩) (by simp) (λ_=>by rw [hw];rfl) (.inl rfl) (λr hr=>hr) (λf hf=>.inl ⟨hf,λa ha=>by grind⟩)
       (.inr ⟨u,_,hu,hR,by rw [he];exact .off hg λh=>by grind⟩) (λa id b hr=>by grind) inv.ft
end
end Go.Sx
