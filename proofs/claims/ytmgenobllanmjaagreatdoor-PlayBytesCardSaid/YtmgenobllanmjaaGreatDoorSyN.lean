/-
  A region whose order is open, of operations that leave values alone: what they leave, they leave in any order.
-/
import Derived.Test.YtmgenobllanmjaaGreatDoorSyM
set_option linter.unusedVariables false
set_option linter.unusedSimpArgs false
namespace Go.Sx
variable [Gl]
def kdW (x:SI):Bool:=match x.kd with
 | .mem=>true
 | .wr=>true
 |_=>false
def cs_ (x:SI):Bool:=match x.o.op with
 | .alloc _=>match x.o.guard with
   |none=>true
   |some _=>false
 |_=>false
def kJ_ (x:SI):Bool:=match x.o.op with
 | .call c=>match c.callee with
   | .builtin b=>match b with
     | .append=>true
     |_=>false
   |_=>false
 |_=>false
def vM_ (x:SI):Bool:=match x.o.op with
 | .call _=>kJ_ x
 |_=>match cs_ x with
  |true=>false
  |false=>kdW x
def isW (x:SI):Bool:=match x.fz with
 |true=>false
 |false=>vM_ x
omit [Gl]in
theorem oK_ {x:SI} (h:cs_ x=true):isW x=false:=by
 grind [isW,vM_,cs_]
def wA_ (x:SI):Bool:=match x.kd with
 | .pure=>true
 |_=>false
def Agr (s:Nat->Option AV) (m:Nat) (E:Env):Prop:=∀k,k<m->E.sy k=s k
def SemOp (P:Program) (s:Nat->Option AV) (m N:Nat) (H:AHeap) (R:Tm) (o:Oper) (q:AV):Prop:=
 ∀(B:World) (pr:Nat->Prop) (E:Env) (a:Act) (w:World),Agr s m E->TRel E N R a.tmps->Rel B pr E H w->∀(C:Act->World->Prop) (Q:Exit->Act->World->Prop),
  (∀E' v w',E.le E'->Rel B pr E' H w'->Con E' q v->C (a.put o.dst v) w')->o.wp P a w C Q
def l6_ (P:Program) (s:Nat->Option AV) (m N:Nat) (H H':AHeap) (R:Tm) (o:Oper) (q:AV):Prop:=
 ∀(B:World) (pr:Nat->Prop) (E:Env) (a:Act) (w:World),Agr s m E->TRel E N R a.tmps->Rel B pr E H w->∀(C:Act->World->Prop) (Q:Exit->Act->World->Prop),
  (∀E' v w',E.le E'->Rel B pr E' H' w'->Con E' q v->C (a.put o.dst v) w')->o.wp P a w C Q
omit [Gl]in
theorem Rel.sub_rows {B:World} {pr:Nat->Prop} {E:Env} {H H':AHeap} {w:World} (h:Rel B pr E H w) (hr:∀id k,H'.get id=some k->H.get id=some k) (hn:H'.next=H.next) (hh:H'.hi=H.hi):Rel B pr E H' w where
 own:=by obtain ⟨own,h1,h2⟩:=h.own;exact ⟨own,λid k hk=>h1 id k (hr id k hk),h2⟩
 imm:=h.imm
 ib:=h.ib
 fresh:=λid h1 h2=>h.fresh id (by omega) (by omega)
 resv:=λid hi=>by rw [hn,hh];exact h.resv id hi
 vds:=h.vds
 szs:=h.szs
 prot:=h.prot
 size:=h.size
 os:=h.os
 output:=h.output
theorem SemOp.frame {P:Program} {s:Nat->Option AV} {m N:Nat} {K H:AHeap} {R:Tm} {o:Oper} {q:AV} (h:SemOp P s m N K R o q) (hK:∀id k,K.get id=some k->H.get id=some k) (hroom:K.hi<=K.next):SemOp P s m N H R o q:=
 λB pr E a w hE ht hr C Q hC=>by
  obtain ⟨pr',h1,h2⟩:=hr.frame hK (λid=>E.res id\/(H.next<=id/\id<H.hi)) (λid hv=>.inl (hr.vds id hv)) (λid hi=>hi.elim (λhi=>(hr.resv id hi).1) λhi=>hr.fresh id hi.1 hi.2) (λid h3 h4=>absurd h4 (by omega));refine h w pr' (E.re (λid=>E.res id\/(H.next<=id/\id<H.hi)) E.imm λid=>E.vd id/\K.get id≠none) a w (λk hk=>hE k hk) ⟨ht.size,ht.le,λt hlt=>(ht.con t hlt).sub (Env.sub_re ..),ht.gl.sub (Env.sub_re ..)⟩ h1 C Q λE' v w' hle hr' hc=>?_;obtain ⟨g1,g2,g3,g4,g5⟩:=h2 E' K w' hle hr';obtain ⟨H',e1,e2,e3,e4,e5⟩:=g5 H.next H.hi E.res (λid h3 h4=>⟨g1 id (.inr ⟨h3,h4⟩),λhx=>(hr.resv id hx).2 ⟨h3,h4⟩⟩) (λid hi=>g1 id (.inl hi)) (λid hv=>hr.vds id hv);have hsub:E'.sub (E'.re E.res E.bim E.vd):=Env.sub_re ..;refine hC (E'.re E.res E.bim E.vd) v w' ⟨⟨λi x hx=>g3.1 i x hx,λb n hx=>g3.2.1 b n hx,λb o v hx=>g3.2.2.1 b o v hx,g3.2.2.2.1,g3.2.2.2.2⟩,rfl,rfl,rfl⟩ (e3.sub_rows (λid k hk=>?_) e1.symm e2.symm) (hc.sub hsub);cases hKid:K.get id with
  |none=>grind
  |some k2=>
   grind
def ez_ (b:Nat) (al:Nat->Bool) (idf:Nat->Nat) (S:Nat->Bool) (r:Nat->Prop):Nat->Prop:=λid=>r id\/∃j,j<b/\al j=true/\S j=false/\id=idf j
structure AlH (b:Nat) (al:Nat->Bool) (idf:Nat->Nat) (S:Nat->Bool) (G H:AHeap):Prop where
 nx:H.next=G.next
 hi:H.hi=G.hi
 sub:∀id k,H.get id=some k->G.get id=some k
 all:∀id k,G.get id=some k->(∀j,j<b->al j=true->S j=false->id≠idf j)->H.get id=some k
omit [Gl]in
theorem fO_ {b:Nat} {al:Nat->Bool} {idf:Nat->Nat} {S:Nat->Bool} {r:Nat->Prop} {i:Nat} (h:al i=false):ez_ b al idf (plus S i) r=ez_ b al idf S r:=by
 funext id
 refine propext (or_congr Iff.rfl ⟨?_,?_⟩)<;>grind [plus]
omit [Gl]in
theorem AlH.plus {b:Nat} {al:Nat->Bool} {idf:Nat->Nat} {S:Nat->Bool} {G H:AHeap} (h:AlH b al idf S G H) {i:Nat} (hi:al i=false):AlH b al idf (plus S i) G H:=
 ⟨h.nx,h.hi,h.sub,λid k hk hn=>h.all id k hk λj h1 h2 h3=>hn j h1 h2 (by
   grind [Go.Sx.plus])⟩
omit [Gl]in
theorem AlH.full {b:Nat} {al:Nat->Bool} {idf:Nat->Nat} {S:Nat->Bool} {G H:AHeap} (h:AlH b al idf S G H) (hS:∀j,j<b->al j=true->S j=true) {B:World} {pr:Nat->Prop} {E:Env} {w:World} (hr:Rel B pr E H w):Rel B pr E G w:=
 hr.sub_rows (λid k hk=>h.all id k hk λj h1 h2 h3=>by grind) h.nx.symm h.hi.symm
omit [Gl]in
theorem AlH.refl (b:Nat) (al:Nat->Bool) (idf:Nat->Nat) (S:Nat->Bool) (G:AHeap):AlH b al idf S G G:=⟨rfl,rfl,λ_ _ h=>h,λ_ _ h _=>h⟩
def Wr (l:List SI) (b j:Nat):Prop:=∃y,l[j]? =some y/\isW y=true/\j<b
structure SemF (P:Program) (s:Nat->Option AV) (m N:Nat) (ops:List Oper) (l:List SI) (b:Nat) (ev:Nat->Evt) (T0:Tm) (G KK:Nat->AHeap) (al:Nat->Bool) (idf:Nat->Nat) (i:Nat) (x:SI):Prop where
 ex:∃u R R',bT_ N x.o.dst=.mk u/\(∀t,t<512->tget R t=.opq\/(t∈x.rd/\Sl l ev T0 (λj=>decide (j<i)) t (tget R t)))/\
  (∀t,t<512->∀(E:Env) (v:Value),Agr s m E->Con E (tget R t) v->Con E (tget R' t) v)/\
  ((al i=false/\ev i=.off/\aK_ ops x R'=some false/\G (i+1)=G i)\/∃q,ev i=.val q/\aK_ ops x R'=some true/\
    ((isW x=true/\l6_ P s m N (G i) (G (i+1)) R' x.o q/\(∀j y,l[j]? =some y->j<i->isW y=false->bit x.bef j=false->∀id k,(KK j).get id=some k->(G i).get id=some k->(G (i+1)).get id=some k))\/
     (cs_ x=true/\G (i+1)=G i/\∃H₁ row,(ac_ P x.o).run R' ⟨hnil,idf i,Nat.succ (idf i)⟩=some (.val q H₁)/\H₁.get (idf i)=some row/\(G 0).get (idf i)=some row)\/
     (isW x=false/\al i=false/\(∀j,j<b->al j=true->bit x.bef j=false->(KK i).get (idf j)=none)/\G (i+1)=G i/\(KK i).hi<=(KK i).next/\SemOp P s m N (KK i) R' x.o q/\∃lo,(∀id k,(KK i).get id=some k->(G lo).get id=some k)/\lo<=i/\(lo=0\/∃j,lo=j+1/\Wr l b j/\bit x.bef j=true)/\
       ∀j,Wr l b j->lo<=j->j<i->∀id k,(KK i).get id=some k->(G j).get id=some k->(G (j+1)).get id=some k)))
theorem SemF.mono {P:Program} {s s':Nat->Option AV} {m m' N:Nat} {ops:List Oper} {l:List SI} {b:Nat} {ev ev':Nat->Evt} {T0:Tm} {G G' KK KK':Nat->AHeap} {al:Nat->Bool} {idf:Nat->Nat} {i:Nat} {x:SI} (h:SemF P s m N ops l b ev T0 G KK al idf i x) (hs:∀k,k<m->s' k=s k) (hm:m<=m')
  (he:∀j,j<=i->ev' j=ev j) (hG:∀j,j<=i+1->G' j=G j) (hK:∀j,j<=i->KK' j=KK j):SemF P s' m' N ops l b ev' T0 G' KK' al idf i x:=by
 have hag:∀E:Env,Agr s' m' E->Agr s m E:=λE h k hk=>(h k (by omega)).trans (hs k hk);obtain ⟨u,R,R',h1,h2,h3,h4⟩:=h.ex;refine ⟨u,R,R',h1,λt ht=>(h2 t ht).imp id λh=>⟨h.1,h.2.ev_congr λj hj=>he j (by grind)⟩,λt ht E v hE=>h3 t ht E v (hag E hE),?_⟩;rw [he i (Nat.le_refl _),hG i (by omega),hG (i+1) (Nat.le_refl _)];rcases h4 with h4|⟨q,g1,g2,g3⟩;exact .inl h4
 .refine .inr ⟨q,g1,g2,?_⟩;rcases g3 with ⟨k1,k2,k3⟩|⟨k1,k2,k3⟩|⟨k1,ka,kb,k2,k3,k4,lo,k5,k6,k7,k8⟩
  .refine .inl ⟨k1,λB pr E a w hE=>k2 B pr E a w (hag E hE),λj y hy hj=>?_⟩
   grind
  .grind
  .refine .inr (.inr ⟨k1,ka,?_,k2,?_⟩)
   .grind
   rw [hK i (Nat.le_refl _)];refine ⟨k3,λB pr E a w hE=>k4 B pr E a w (hag E hE),lo,?_,k6,k7,λj hj h1 h2=>?_⟩<;>grind
structure InvS (P:Program) (B:World) (pr:Nat->Prop) (N:Nat) (E0:Env) (D:Dfs) (l:List SI) (b:Nat) (ev:Nat->Evt) (T0:Tm) (G:Nat->AHeap) (al:Nat->Bool) (idf:Nat->Nat) (S:Nat->Bool) (a:Act) (w:World) (E:Env):Prop where
 sub:E0.sub E
 bim:E.bim=E0.bim
 vd:E.vd=E0.vd
 vd0:∀id,E0.vd id->E0.res id
 res:E.res=ez_ b al idf S E0.res
 gl:GlOk E0
 size:a.tmps.size=N
 dfs:DRel P E0 D a.defers
 slot:∀t,t<512->∃q,Sl l ev T0 S t q/\Con E q (a.tmps.getD t undef)
 r:∃k H',k<=b/\(∀j,Wr l b j->(S j=true↔j<k))/\AlH b al idf S (G k) H'/\Rel B pr E H' w
structure AlOk (l:List SI) (b:Nat) (al:Nat->Bool) (idf:Nat->Nat) (H0 G0:AHeap):Prop where
 nx:H0.next<=G0.next
 hi:G0.hi=H0.hi
 rng:∀j,j<b->al j=true->H0.next<=idf j/\idf j<G0.next/\idf j<H0.hi/\idf j<top
 inj:∀i j,i<b->j<b->al i=true->al j=true->idf i=idf j->i=j
 old:∀id k,H0.get id=some k->G0.get id=some k
 new:∀id k,G0.get id=some k->(∀j,j<b->al j=true->id≠idf j)->H0.get id=some k
 wr:∀(i j:Nat) (x:SI),l[i]? =some x->i<b->isW x=true->j<b->al j=true->bit x.bef j=true
 is:∀(j:Nat) (x:SI),l[j]? =some x->al j=cs_ x
section
variable {P:Program} {s:Nat->Option AV} {m N b:Nat} {B:World} {pr:Nat->Prop} {E0:Env} {D:Dfs} {ops:Array Oper} {l:List SI} {ev:Nat->Evt} {T0:Tm} {S:Nat->Bool} {a:Act} {w:World} {E:Env} {G KK:Nat->AHeap} {al:Nat->Bool} {idf:Nat->Nat} {H00:AHeap} {i:Nat} {x:SI}
theorem InvS.trel (inv:InvS P B pr N E0 D l b ev T0 G al idf S a w E) (hP:PlanOk ops.toList l) (hN:N<=512) (hcl:Cl l ev S) (hx:l[i]? =some x) (hS:S i=false) (hb:∀j,bit x.bef j=true->S j=true)
  {R:Tm} (hR:∀t,t<512->tget R t=.opq\/(t∈x.rd/\Sl l ev T0 (λj=>decide (j<i)) t (tget R t))):TRel E N R a.tmps:=by
 refine ⟨inv.size,hN,λt ht=>?_,inv.gl.sub inv.sub⟩;rcases hR t ht with h|⟨h1,h2⟩;rw [h];simp [Con]
 .obtain ⟨q,h3,h4⟩:=inv.slot t ht;have:Sl l ev T0 S t (tget R t):=h2.congr λj y hj hd=>by
   rcases Nat.lt_trichotomy j i with hlt|rfl|hgt
   .have:=hb j (hP.pair j i y x hlt hj hx (.inl (iF_ hd h1)))
    grind
   rw [hS];simp
   .have hbit:=hP.pair i j x y hgt hx hj (.inl (hB_ hd h1));cases hs:S j with
    |false=>simp;omega
    |true=>have:=hcl.bef j y i hj hs hbit;grind
  rw [this.unique h3];exact h4
theorem InvS.put (inv:InvS P B pr N E0 D l b ev T0 G al idf S a w E) (hP:PlanOk ops.toList l) (hcl:Cl l ev S) (hx:l[i]? =some x) (hS:S i=false) {u:Tm->AV->Tm} (hu:bT_ N x.o.dst=.mk u)
  {q:AV} (hq:(ev i).put=some q) {E':Env} (hs:E.sub E') (hbim:E'.bim=E.bim) (hvd:E'.vd=E.vd) (hres:E'.res=ez_ b al idf (plus S i) E0.res) {v:Value} (hc:Con E' q v) {w':World}
  (hr:∃k H',k<=b/\(∀j,Wr l b j->(plus S i j=true↔j<k))/\AlH b al idf (plus S i) (G k) H'/\Rel B pr E' H' w'):InvS P B pr N E0 D l b ev T0 G al idf (plus S i) (a.put x.o.dst v) w' E' where
 sub:=Env.sub_trans inv.sub hs
 bim:=hbim.trans inv.bim
 vd:=hvd.trans inv.vd
 vd0:=inv.vd0
 res:=hres
 gl:=inv.gl
 size:=by rw [np_];exact inv.size
 dfs:=by rw [Act.put_defers'];exact inv.dfs
 r:=hr
 slot:=by
  intro t ht;by_cases hd:x.o.dst=some t
  .refine ⟨q,Sl.put hx hd hq λj y hj hsj hdj=>?_,?_⟩
   .rcases Nat.lt_or_ge i j with hgt|hle
    .have hbit:=hP.pair i j x y hgt hx hj (.inl (ks_ hd hdj));have:=hcl.bef j y i hj hsj hbit
     grind
    exact hle
   rw [hd]at hu⊢;rw [fL_ (by rw [inv.size];exact (pG_ hu).1)];exact hc
  .obtain ⟨q',h1,h2⟩:=inv.slot t ht;refine ⟨q',h1.keep λy hy hdy=>?_,?_⟩
   .grind
   rw [hK_ hd];exact h2.sub hs
omit [Gl]in
theorem eD_ {k n:Nat} (hno:∀j,k<=j->G (j+1)=G j\/k+n<=j):G (k+n)=G k:=by
 induction n<;>grind
theorem SemF.keeps {ops:List Oper} (F:SemF P s m N ops l b ev T0 G KK al idf i x) (h:isW x=false):G (i+1)=G i:=by
 obtain ⟨u,R,R',_,_,_,h4⟩:=F.ex
 grind
theorem sl_ {Q:Exit->Act->World->Prop} (inv:InvS P B pr N E0 D l b ev T0 G al idf S a w E) (hsy:Agr s m E0) (hP:PlanOk ops.toList l) (hN:N<=512) (hcl:Cl l ev S) (hx:l[i]? =some x) (hib:i<b) (hS:S i=false)
  (hb:∀j,bit x.bef j=true->S j=true) (F:∀(i:Nat) (x:SI),l[i]? =some x->i<b->SemF P s m N ops.toList l b ev T0 G KK al idf i x) (h2:∀(i j:Nat) (x y:SI),i<j->j<b->l[i]? =some x->l[j]? =some y->isW x=true->isW y=true->bit y.bef i=true) (hbl:b<=l.length) (hA:AlOk l b al idf H00 (G 0)) (hA0:∀j,j<b->al j=true->¬E0.res (idf j)):
  wpOp P ops Q i (λa w=>(∃E,InvS P B pr N E0 D l b ev T0 G al idf (plus S i) a w E)/\Cl l ev (plus S i)) a w:=by
 obtain ⟨u,R,R',hu,hR,hRR,hev⟩:=(F i x hx hib).ex;have ht:=inv.trel hP hN hcl hx hS hb hR;have hE:Agr s m E:=λk hk=>by rw [inv.sub.2.2.2.1];exact hsy k hk
 have ht':TRel E N R' a.tmps:=⟨ht.size,ht.le,λt h=>hRR t h E _ hE (ht.con t h),ht.gl⟩;obtain ⟨k,H',hkb,hk,hah,hr⟩:=inv.r;have hat:∀j,j<b->∃y,l[j]? =some y:=λj hj=>⟨l[j],by simp⟩;have hnoW:∀j,j<b->¬Wr l b j->G (j+1)=G j:=λj hj hn=>by
  obtain ⟨y,hy⟩:=hat j hj;refine (F j y hy hj).keeps ?_;cases hw:isW y with
  |false=>rfl
  |true=>exact absurd ⟨y,hy,hw,hj⟩ hn
 have keepk:isW x=false->∀j,Wr l b j->(plus S i j=true↔j<k):=λhw j hj=>by
  have:j≠i:=λe=>by
   obtain ⟨y,hy,hy2,_⟩:=hj
   grind
  grind [plus]
 have atk:isW x=true->G k=G i/\∀j,Wr l b j->(plus S i j=true↔j<i+1):=λhw=>by
  have hWi:Wr l b i:=⟨x,hx,hw,hib⟩;have hki:k<=i:=by
   grind
  have hbelow:∀j,Wr l b j->j<i->S j=true:=λj hj hlt=>by
   obtain ⟨y,hy,hy2,_⟩:=hj
   grind
  refine ⟨?_,λj hj=>?_⟩;have:=eD_ (G:=G) (k:=k) (n:=i-k) λj hj=>(by by_cases hji:j<i<;>grind);simp_all
  .rcases Nat.lt_trichotomy j i with hlt|rfl|hgt;have h1:=hbelow j hj hlt;have:j≠i:=(by omega);simp only [plus,this,if_false,h1,true_iff];omega;simp [plus]
   .have hne:j≠i:=(by omega);obtain ⟨y,hy,hy2,hjb⟩:=hj;have hbit:=h2 i j x y hgt hjb hx hy hw hy2;simp only [plus,hne,if_false];constructor
    .intro hs;have:=hcl.bef j y i hy hs hbit
     grind
    omega
 rcases hev with ⟨hal,he,hg,hGe⟩|⟨q,he,hg,hop⟩
 .refine nI_ (dh_ hP hx) (bR_ ht' hg) ⟨⟨E,inv.put hP hcl hx hS hu (q:=.tup []) (by rw [he];rfl) (Env.sub_refl E) rfl rfl (by rw [fO_ hal];exact inv.res) (a6_ E) ?_⟩,hcl.plus hx hb ?_⟩
  .cases hw:isW x with
   |false=>exact ⟨k,H',hkb,keepk hw,hah.plus hal,hr⟩
   |true=>obtain ⟨e1,e2⟩:=atk hw;exact ⟨i+1,H',hib,e2,by rw [hGe,←e1];exact hah.plus hal,hr⟩
  grind
 .have hclp:Cl l ev (plus S i):=hcl.plus hx hb (by grind);rcases hop with ⟨hw,hop,_⟩|⟨hal,_,H₁,row,hrun,hrow,hrow0⟩|⟨hw,hal,hno,_,hroom,hop,lo,hsub,hlo,hlo0,hbet⟩
  .obtain ⟨e1,e2⟩:=atk hw;have hal:al i=false:=by
    rw [hA.is i x hx]
    grind [oK_]
   have hfull:=hah.full (λj h1 h2=>hb j (hA.wr i j x hx hib hw h1 h2)) hr;refine eo_ (dh_ hP hx) (bR_ ht' hg) (hop B pr E a w hE ht' (by grind) _ _ λE' v w' h1 h2 h3=>⟨⟨E',inv.put hP hcl hx hS hu (q:=q) (by rw [he];rfl) h1.1 h1.2.2.1 h1.2.2.2 (by rw [fO_ hal,h1.2.1];exact inv.res) h3 ⟨i+1,_,hib,e2,AlH.refl ..,h2⟩⟩,hclp⟩)
  .have hali:al i=true:=(by rw [hA.is i x hx];exact hal);have hnw:=oK_ hal;have hnoS:∀j,Wr l b j->¬j<k:=λj hj hjk=>by
    obtain ⟨y,hy,hy2,hjb⟩:=hj;have hsj:=(hk j ⟨y,hy,hy2,hjb⟩).2 hjk;have:=hcl.bef j y i hy hsj (hA.wr j i y hy hjb hy2 hib hali)
    grind
   have hGk:G k=G 0:=by
    have:=eD_ (G:=G) (k:=0) (n:=k) λj _=>by
     grind
    grind
   rw [hGk]at hah;have hi0:E.res (idf i):=(by rw [inv.res];exact .inr ⟨i,hib,hali,hS,rfl⟩);obtain ⟨hi1,hi2⟩:=hr.resv _ hi0;have hsubr:∀id,ez_ b al idf (plus S i) E0.res id->E.res id:=λid h=>by rw [inv.res];rcases h with h|⟨j,h1,h2,h3,h4⟩;exact .inl h;refine .inr ⟨j,h1,h2,?_,h4⟩;simp_all [plus]
   have hnot:¬ez_ b al idf (plus S i) E0.res (idf i):=λh=>by
    rcases h with h|⟨j,h1,h2,h3,h4⟩
    .grind
    .have:=hA.inj i j hib h1 hali h2 h4
     grind [plus]
   have hvdR:∀id,E.vd id->ez_ b al idf (plus S i) E0.res id:=λid h=>.inl (inv.vd0 id (by rw [←inv.vd];exact h));have hnone:∀id,(⟨hnil,idf i,Nat.succ (idf i)⟩:AHeap).get id=none:=λid=>dY_ _ _ id;refine eo_ (dh_ hP hx) (bR_ ht' hg) ?_;refine io_ (res':=λid=>ez_ b al idf (plus S i) E0.res id\/(H'.next<=id/\id<H'.hi)) hr ht' (λid k h=>by grind) (λid h=>.inl (hvdR id h)) (λid h=>?_) (λid h1 h2=>?_) hrun λE' v w' hc hs h1 h2 h3 h4=>?_;rcases h with h|⟨g1,g2⟩;exact (hr.resv id (hsubr id h)).1;exact hr.fresh id g1 g2
   .grind
   .obtain ⟨H2,g1,g2,g3,g4,g5⟩:=h4 H'.next H'.hi (ez_ b al idf (plus S i) E0.res) (λid e1 e2=>⟨(h1 id (.inr ⟨e1,e2⟩)).1,λh=>(hr.resv id (hsubr id h)).2 ⟨e1,e2⟩⟩) (λid h=>(h1 id (.inl h)).1) hvdR;obtain ⟨_,_,_,htop⟩:=hA.rng i hib hali;refine ⟨⟨_,inv.put hP hcl hx hS hu (q:=q) (by rw [he];rfl) (Env.sub_trans hs (Env.sub_re _ _ _ _)) rfl rfl rfl (hc.sub (Env.sub_re _ _ _ _)) ⟨k,H'.set (idf i) row,hkb,keepk hnw,?_,g3.sub_rows (λid kk hkk=>?_) ?_ ?_⟩⟩,hclp⟩
    .rw [hGk];refine ⟨hah.nx,hah.hi,λid kk hkk=>?_,λid kk hkk hno=>?_⟩
     .by_cases e:idf i=id
      .grind [AHeap.get_set_same]
      rw [AHeap.get_set_ne _ htop e]at hkk;exact hah.sub id kk hkk
     .by_cases e:idf i=id
      .grind [AHeap.get_set_same]
      .rw [AHeap.get_set_ne _ htop e];refine hah.all id kk hkk λj h1 h2 h3=>?_;by_cases ej:j=i<;>grind [plus]
    .grind [AHeap.get_set_same,AHeap.get_set_ne]
    exact g1.symm;exact g2.symm
  .have hK:∀id kk,(KK i).get id=some kk->H'.get id=some kk:=by
     intro id kk hkk;refine hah.all id kk ?_ λj h1 h2 h3 e=>by
      grind
     have hlk:lo<=k:=(by rcases hlo0 with rfl|⟨j,rfl,hj,hbit⟩<;>grind);have key:∀n,lo+n<=k->(G (lo+n)).get id=some kk:=by
      intro n
      induction n with
      |zero=>grind
      |succ n ih=>
       intro hn;have hprev:=ih (by omega);rw [show lo+(n+1)=lo+n+1 by omega];have hjb:lo+n<b:=(by omega);obtain ⟨y,hy⟩:=hat _ hjb;have Fy:=F _ y hy hjb;cases hwy:isW y with
       |false=>rw [Fy.keeps hwy];exact hprev
       |true=>
        have hWj:Wr l b (lo+n):=⟨y,hy,hwy,hjb⟩;have hSj:S (lo+n)=true:=(hk _ hWj).2 (by omega);rcases Nat.lt_trichotomy (lo+n) i with hlt|heq|hgt
        .grind
        .grind
        .obtain ⟨_,_,_,_,_,_,h4⟩:=Fy.ex;rcases h4 with ⟨_,_,_,h⟩|⟨_,_,_,⟨_,_,h'⟩|⟨h,_⟩|⟨h,_⟩⟩
         .grind
         .refine h' i x hx hgt hw ?_ id kk hkk hprev;cases hbit:bit y.bef i with
          |false=>rfl
          |true=>have:=hcl.bef _ y i hy hSj hbit;grind
         all_goals grind
     have:=key (k-lo) (by omega);simp_all
   exact eo_ (dh_ hP hx) (bR_ ht' hg) ((hop.frame hK hroom) B pr E a w hE ht' hr _ _ λE' v w' h1 h2 h3=>⟨⟨E',inv.put hP hcl hx hS hu (q:=q) (by rw [he];rfl) h1.1 h1.2.2.1 h1.2.2.2 (by rw [fO_ hal,h1.2.1];exact inv.res) h3 ⟨k,H',hkb,keepk hw,hah.plus hal,h2⟩⟩,hclp⟩)
omit [Gl]in
theorem PlanOk.below {ops:List Oper} (hP:PlanOk ops l):∀(i:Nat) (x:SI) (j:Nat),l[i]? =some x->bit x.bef j=true->j<i:=by
 intro i
 induction i using Nat.strongRecOn with
 |_ i ih=>
  intro x j hx hb;obtain ⟨e,h1,h2,h3⟩:=(hP.bef i x j hx).1 hb;have h4:=hP.lt i x e hx h1 h2
  grind
omit [Gl]in
theorem nt_ {Q:Exit->Act->World->Prop} (hP:PlanOk ops.toList l) (htail:∀(i:Nat) (x:SI),l[i]? =some x->b<=i->∀j,j<i->bit x.bef j=true):
  ∀(fuel:Nat) (listed:Array Bool) (k:Nat) (a:Act) (w:World),listed.size=ops.size->listed.toList.countP (· ==false)<=fuel->b<=k->k<=ops.size->(∀j,listed.getD j false=decide (j<k))->
   wpList P ops Q (ops.toList.drop k) a w->wpAny P .any ops Q fuel listed a w:=by
 have hlen:l.length=ops.size:=by rw [hP.len];simp
 have next:∀(listed:Array Bool) (k:Nat),listed.size=ops.size->b<=k->(∀j,listed.getD j false=decide (j<k))->∀i,i∈Region.ready .any ops listed->i=k/\i<ops.size:=by
  intro listed k hs hbk hl i hi;obtain ⟨h1,o,h2,h3⟩:=mem_ready.1 hi;have hlt:i<ops.size:=(Array.getElem?_eq_some_iff.1 h2).1;have hg:listed.getD i false=false:=by
   grind
  have hik:¬i<k:=(by grind);rcases Nat.lt_or_ge k i with h|h;have hx:l[i]? =some l[i]:=(by simp);have hbit:=htail i _ hx (by omega) k h;obtain ⟨e,he,hb,hj⟩:=(hP.bef i _ k hx).1 hbit;have ho:l[i].o=o:=(by grind [dh_]);have hon:=h3 e (by grind) hb;rw [hl]at hon;have hon:e.on<k:=(by grind);rcases hj with rfl|⟨y,hy,hj⟩;omega;have:=hP.below e.on y k hy hj;omega;omega
 intro fuel
 induction fuel with
 |zero=>
  intro listed k a w hs hc hbk hk hl h;have hall:k=ops.size:=by
   rcases Nat.lt_or_ge k ops.size with hlt|hge
   .have hg:listed[k]=false:=by have:=hl k;simp_all
    grind [fg_]
   omega
  have hrd:Region.ready .any ops listed=[]:=by
   rw [List.eq_nil_iff_forall_not_mem]
   grind
  refine ⟨hrd,?_⟩;rw [hall,List.drop_eq_nil_of_le (by simp)]at h;exact h
 |succ fuel ih=>
  intro listed k a w hs hc hbk hk hl h;rcases Nat.lt_or_ge k ops.size with hlt|hge
  .have ho:ops[k]? =some ops[k]:=(by simp [hlt]);have hdrop:ops.toList.drop k=ops[k]::ops.toList.drop (k+1):=by
    grind [List.drop_eq_getElem_cons]
   rw [hdrop]at h;have hgk:listed[k]=false:=by have:=hl k;simp_all
   have hstep:∀a w,wpList P ops Q (ops.toList.drop (k+1)) a w->wpAny P .any ops Q fuel (listed.setIfInBounds k true) a w:=λa w h=>by
    refine ih _ (k+1) a w (by grind) ?_ (by omega) hlt (λj=>?_) h
    .grind
    .have:=congrFun (dX_ (listed:=listed) (i:=k) (by omega)) j;rw [this];by_cases e:j=k;simp_all
     .simp only [plus,e,if_false,hl j]
      grind
   refine ⟨λhrd=>?_,λi hi=>?_⟩
   .have:k∈Region.ready .any ops listed:=by
      rw [mem_ready];refine ⟨by grind,ops[k],ho,λe he hb=>?_⟩;have hx:l[k]? =some l[k]:=(by simp);have hok:l[k].o=ops[k]:=(by grind [dh_]);have:=hP.lt k _ e hx (by grind) hb
      grind
    grind
   .obtain ⟨rfl,_⟩:=next listed k hs hbk hl i hi
    unfold wpOp;simp only [ho];unfold wpList at h;split
    .grind [Oper.wp_mono]
    grind
  .have hall:k=ops.size:=(by omega);have hrd:Region.ready .any ops listed=[]:=by
    rw [List.eq_nil_iff_forall_not_mem]
    grind
   rw [hall,List.drop_eq_nil_of_le (by simp)]at h;exact ⟨λ_=>h,λi hi=>by grind⟩
theorem tJ_ {Q:Exit->Act->World->Prop} (hA:AlOk l b al idf H00 (G 0)) (hA0:∀j,j<b->al j=true->¬E0.res (idf j)) (hsy:Agr s m E0) (hP:PlanOk ops.toList l) (hN:N<=512) (F:∀(i:Nat) (x:SI),l[i]? =some x->i<b->SemF P s m N ops.toList l b ev T0 G KK al idf i x)
  (h2:∀(i j:Nat) (x y:SI),i<j->j<b->l[i]? =some x->l[j]? =some y->isW x=true->isW y=true->bit y.bef i=true) (hbl:b<=l.length) (htail:∀(i:Nat) (x:SI),l[i]? =some x->b<=i->∀j,j<i->bit x.bef j=true)
  (hend:∀(S:Nat->Bool) (a:Act) (w:World) (E:Env),InvS P B pr N E0 D l b ev T0 G al idf S a w E->Cl l ev S->(∀j,S j=decide (j<b))->wpList P ops Q (ops.toList.drop b) a w):
  ∀(fuel:Nat) (listed:Array Bool) (a:Act) (w:World),listed.size=ops.size->listed.toList.countP (· ==false)<=fuel->Cl l ev (λj=>listed.getD j false)->(∀j,listed.getD j false=true->j<b)->
   (∃E,InvS P B pr N E0 D l b ev T0 G al idf (λj=>listed.getD j false) a w E)->wpAny P .any ops Q fuel listed a w:=by
 have hlen:l.length=ops.size:=by rw [hP.len];simp
 intro fuel
 induction fuel with
 |zero=>
  intro listed a w hs hc hcl hlb ⟨E,inv⟩;have hall:∀j,j<ops.size->listed.getD j false=true:=λj hj=>by
   cases hg:listed.getD j false with
   |true=>rfl
   |false=>
    have hg':listed[j]'(by omega)=false:=by simp_all
    grind [fg_]
  have hS:∀j,listed.getD j false=decide (j<b):=λj=>by
   grind
  refine nt_ hP htail 0 listed b a w hs hc (Nat.le_refl b) (by omega) hS (hend _ a w E inv hcl hS)
 |succ fuel ih=>
  intro listed a w hs hc hcl hlb ⟨E,inv⟩;by_cases hall:∀j,j<b->listed.getD j false=true
  .have hS:∀j,listed.getD j false=decide (j<b):=λj=>by
     grind
   exact nt_ hP htail (fuel+1) listed b a w hs hc (Nat.le_refl b) (by omega) hS (hend _ a w E inv hcl hS)
  ·
   have hrdy:∃j,j<b/\j∈Region.ready .any ops listed:=by
    have:∀n,(∀j,j<n->j<b->listed.getD j false=true)\/∃j,j<b/\j∈Region.ready .any ops listed:=by
     intro n
     induction n with
     |zero=>simp
     |succ n ihn=>
      rcases ihn with h|h
      .cases hg:listed.getD n false with
       |true=>
        grind
       |false=>
        rcases Nat.lt_or_ge n b with hnb|hnb
        .refine .inr ⟨n,hnb,?_⟩;rw [mem_ready];have hx:l[n]? =some l[n]:=(by simp);refine ⟨?_,l[n].o,dh_ hP hx,λe he hb=>?_⟩
         .grind
         .have:=hP.lt n l[n] e hx he hb
          grind
        grind
      grind
    grind
   refine ⟨λhrd=>?_,λi hi=>?_⟩
   .grind
   .obtain ⟨h1,o,ho1,h3⟩:=mem_ready.1 hi;have hlt:i<listed.size:=(by grind);have hg:listed[i]=false:=(by simpa [hlt]using h1);have hx:l[i]? =some l[i]:=(by simp);have ho:l[i].o=o:=(by grind [dh_]);have hbef:∀j,bit l[i].bef j=true->listed.getD j false=true:=λj hj=>(by obtain ⟨e,he,hb,hj⟩:=(hP.bef i _ j hx).1 hj;have hon:=h3 e (by grind) hb;rcases hj with rfl|⟨y,hy,hj⟩;exact hon;exact hcl.bef e.on y j hy hon hj);have hib:i<b:=by
     grind
    refine wpOp_mono (λa w h=>?_) (sl_ inv hsy hP hN hcl hx hib (by grind) hbef F h2 hbl hA hA0);rw [←dX_ hlt]at h;refine ih _ a w (by grind) ?_ h.2 (λj hj=>?_) h.1
    .grind
    .have e:=congrFun (dX_ (listed:=listed) (i:=i) hlt) j;by_cases hji:j=i<;>grind [plus]
theorem oy_ (hm:P.follows .mixedOrders=true) {id n:Nat} (hpl:os_ ops.toList=.mk l n) (hsy:Agr s m E) (F:∀(i:Nat) (x:SI),l[i]? =some x->i<b->SemF P s m N ops.toList l b ev T0 G KK al idf i x)
  (h2:∀(i j:Nat) (x y:SI),i<j->j<b->l[i]? =some x->l[j]? =some y->isW x=true->isW y=true->bit y.bef i=true) (hbl:b<=l.length) (htail:∀(i:Nat) (x:SI),l[i]? =some x->b<=i->∀j,j<i->bit x.bef j=true)
  {Tf:Tm} (hT:∀t,t<512->∃q,Sl l ev T0 (λj=>decide (j<b)) t q/\∀(E:Env) (v:Value),Agr s m E->Con E q v->Con E (tget Tf t) v) {Q:Exit->Act->World->Prop} (hA:AlOk l b al idf H00 (G 0))
  (hQ:∀E' a w,E.le E'->St P B pr N E' Tf (G b) D a w->wpList P ops Q (ops.toList.drop b) a w) (st:St P B pr N E T0 H00 D a w):
  (Code.region id ops true).wp P Q a w:=by
 obtain ⟨hP,_⟩:=lN_ hpl;have hempty:∀j,(Array.replicate ops.size false).getD j false=false:=λj=>by rw [Array.getD_eq_getD_getElem?,Array.getElem?_replicate];split<;>rfl
 have hA0:∀j,j<b->al j=true->¬E.res (idf j):=λj h1 h2 h=>by obtain ⟨r1,_,r3,_⟩:=hA.rng j h1 h2;exact (st.r.resv _ h).2 ⟨r1,r3⟩
 refine wp_region_any hm (tJ_ (B:=B) (pr:=pr) (E0:=E) (D:=D) (G:=G) (b:=b) (H00:=H00) hA hA0 hsy hP st.t.le F h2 hbl htail (λS a w E' inv hcl hall=>?_) ops.size _ a _ (by simp) ?_ ?_ (λj hj=>Bool.noConfusion ((hempty j).symm.trans hj)) ⟨E.withRes (ez_ b al idf (λj=>(Array.replicate ops.size false).getD j false) E.res),?_⟩)
 .obtain ⟨k,H',hkb,hk,hah,hr⟩:=inv.r;have hGk:G b=G k:=by
   have:=eD_ (G:=G) (k:=k) (n:=b-k) λj hj=>by
    by_cases hjb:j<b
    .refine .inl ?_;have hx:l[j]? =some l[j]:=(by simp);refine (F j _ hx hjb).keeps ?_;cases hw:isW l[j]with
     |false=>rfl
     |true=>have:=(hk j ⟨_,hx,hw,hjb⟩).1 (by grind);omega
    omega
   grind
  have hSb:∀j,j<b->S j=true:=λj hj=>(by grind);have hres:E'.res=E.res:=by
   rw [inv.res]
   funext id
   refine propext ⟨λh=>?_,.inl⟩;rcases h with h|⟨j,h1,_,h3,_⟩<;>grind
  have hle:E.le E':=⟨inv.sub,hres,inv.bim,inv.vd⟩;refine hQ E' a w hle ⟨⟨inv.size,st.t.le,λt ht=>?_,inv.gl.sub inv.sub⟩,by rw [hGk];exact hah.full (λj h1 _=>hSb j h1) hr,inv.dfs.mono hle⟩;obtain ⟨q,h1,h2⟩:=hT t ht;obtain ⟨q',h3,h4⟩:=inv.slot t ht;have h1':=h1.congr (S':=S) λj y hj _=>(by rw [hall j]);have:=h1'.unique h3;subst this;exact h2 E' _ (λk hk=>by rw [inv.sub.2.2.2.1];exact hsy k hk) h4
 .grind
 exact ⟨λi hi=>Bool.noConfusion ((hempty i).symm.trans hi),λi hi=>Bool.noConfusion ((hempty i).symm.trans hi),λi x j _ hi=>Bool.noConfusion ((hempty i).symm.trans hi)⟩
 .have hr0:Rel B pr (E.withRes (ez_ b al idf (λj=>(Array.replicate ops.size false).getD j false) E.res)) { H00 with next:=(G 0).next } w:=(by have h1:Rel B pr E { H00 with next:=(G 0).next } w:={ own:=st.r.own,imm:=st.r.imm,ib:=st.r.ib,fresh:=λid h1 h2=>st.r.fresh id (Nat.le_trans hA.nx h1) h2,resv:=λid h=>⟨(st.r.resv id h).1,λhx=>(st.r.resv id h).2 ⟨Nat.le_trans hA.nx hx.1,hx.2⟩⟩,vds:=st.r.vds,szs:=st.r.szs,prot:=st.r.prot,size:=st.r.size,os:=st.r.os,output:=st.r.output };refine h1.reres (λid h=>?_) λid h=>.inl (st.r.vds id h);rcases h with h|⟨j,h1,h2,_,rfl⟩;exact ⟨(st.r.resv id h).1,λhx=>(st.r.resv id h).2 ⟨Nat.le_trans hA.nx hx.1,hx.2⟩⟩;obtain ⟨r1,r2,r3,_⟩:=hA.rng j h1 h2;exact ⟨st.r.fresh _ r1 r3,λhx=>by grind⟩);have hah0:AlH b al idf (λj=>(Array.replicate ops.size false).getD j false) (G 0) { H00 with next:=(G 0).next }:=
   ⟨rfl,hA.hi.symm,λid k hk=>hA.old id k hk,λid k hk hn=>hA.new id k hk λj h1 h2=>hn j h1 h2 (hempty j)⟩
  exact { sub:=Env.sub_withRes E _,bim:=rfl,vd:=rfl,vd0:=st.r.vds,res:=rfl,gl:=st.t.gl,size:=st.t.size,dfs:=st.d,r:=⟨0,_,Nat.zero_le _,λj _=>⟨λh=>Bool.noConfusion ((hempty j).symm.trans h),λh=>absurd h (Nat.not_lt_zero _)⟩,hah0,hr0.drawn _⟩,slot:=λt ht=>⟨tget T0 t,.inl ⟨rfl,λj x _ hs=>Bool.noConfusion ((hempty j).symm.trans hs)⟩,(st.t.con t ht).sub (Env.sub_withRes E _)⟩ }
end
end Go.Sx
