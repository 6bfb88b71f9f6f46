/-
  A region whose order is open, of operations that leave values alone: what they leave, they leave in any order.
-/
import Derived.Test.YtelnbodnjmldeaaGreatSyS
set_option linter.all false
open Nat renaming eq_of_beq_eq_true→za',lt_or_ge→zb',lt_trichotomy→zc',le_trans→zd',le_refl→ze',le_of_ble_eq_true→zf'
namespace Go.Sx
variable [Gl]
def pM (x:SI):Bool:=match x.kd with
 | .mem=>true
 | .wr=>true
 |_=>false
def C0 (x:SI):Bool:=match x.o.op with
 | .alloc _=>match x.o.guard with
   |none=>true
   |some _=>false
 |_=>false
def OX (x:SI):Bool:=match x.o.op with
 | .call c=>match c.callee with
   | .builtin b=>match b with
     | .append=>true
     |_=>false
   |_=>false
 |_=>false
def jY (x:SI):Bool:=match x.o.op with
 | .call _=>OX x
 |_=>match C0 x with
  |true=>false
  |false=>pM x
def Cq (x:SI):Bool:=match x.fz with
 |true=>false
 |false=>jY x
omit [Gl]in
theorem fO {x:SI} (h:C0 x=true):Cq x=false:=by
 grind [Cq,jY,C0]
def vX_ (x:SI):Bool:=match x.kd with
 | .pure=>true
 |_=>false
def Ih (s:Nat->Option AV) (m:Nat) (E:Ag):Prop:=∀k,k<m->E.sy k=s k
def BK (P:Program) (s:Nat->Option AV) (m N:Nat) (H:AHeap) (R:Tm) (o:Oper) (q:AV):Prop:=
 ∀(B:World) (pr:Nat->Prop) (E:Ag) (a:Act) (w:World),Ih s m E->Bf E N R a.tmps->As B pr E H w->∀(C:Act->World->Prop) (Q:Exit->Act->World->Prop),
  (∀E' v w',E.le E'->As B pr E' H w'->Ac E' q v->C (a.put o.dst v) w')->o.wp P a w C Q
def Lv (P:Program) (s:Nat->Option AV) (m N:Nat) (H H':AHeap) (R:Tm) (o:Oper) (q:AV):Prop:=
 ∀(B:World) (pr:Nat->Prop) (E:Ag) (a:Act) (w:World),Ih s m E->Bf E N R a.tmps->As B pr E H w->∀(C:Act->World->Prop) (Q:Exit->Act->World->Prop),
  (∀E' v w',E.le E'->As B pr E' H' w'->Ac E' q v->C (a.put o.dst v) w')->o.wp P a w C Q
omit [Gl]in
def As.sub_rows {B:World} {pr:Nat->Prop} {E:Ag} {H H':AHeap} {w:World} (h:As B pr E H w) (hr:∀id k,H'.get id=some k->H.get id=some k) (hn:H'.next=H.next) (hh:H'.hi=H.hi):As B pr E H' w where
 own:=by obtain ⟨own,h1,h2⟩:=h.own;exact ⟨own,λid k hk=>h1 id k (hr id k hk),h2⟩
 imm:=h.imm
 ib:=h.ib
 fresh:=λid h1 h2=>h.fresh id (by omega) (by omega)
 resv:=λid hi=>by rw [hn,hh];exact h.resv id hi
 vds:=h.vds
 szs:=h.szs
 prot:=h.prot
 size:=h.size
 os:=h.os
 output:=h.output
def BK.frame {P:Program} {s:Nat->Option AV} {m N:Nat} {K H:AHeap} {R:Tm} {o:Oper} {q:AV} (h:BK P s m N K R o q) (hK:∀id k,K.get id=some k->H.get id=some k) (hroom:K.hi<=K.next):BK P s m N H R o q:=
 λB pr E a w hE ht hr C Q hC=>by
  obtain ⟨pr',h1,h2⟩:=hr.frame hK (λid=>E.res id\/(H.next<=id/\id<H.hi)) (λid hv=>.inl (hr.vds id hv)) (λid hi=>hi.elim (λhi=>(hr.resv id hi).1) λhi=>hr.fresh id hi.1 hi.2) (λid h3 h4=>absurd h4 (by omega));refine h w pr' (E.re (λid=>E.res id\/(H.next<=id/\id<H.hi)) E.imm λid=>E.vd id/\K.get id≠none) a w (λk hk=>hE k hk) ⟨ht.size,ht.le,λt hlt=>(ht.con t hlt).sub (Ag.sub_re ..),ht.gl.sub (Ag.sub_re ..)⟩ h1 C Q λE' v w' hle hr' hc=>?_;obtain ⟨g1,g2,g3,g4,g5⟩:=h2 E' K w' hle hr';obtain ⟨H',e1,e2,e3,e4,e5⟩:=g5 H.next H.hi E.res (λid h3 h4=>⟨g1 id (.inr ⟨h3,h4⟩),λhx=>(hr.resv id hx).2 ⟨h3,h4⟩⟩) (λid hi=>g1 id (.inl hi)) (λid hv=>hr.vds id hv);have hsub:E'.sub (E'.re E.res E.bim E.vd):=Ag.sub_re ..;refine hC (E'.re E.res E.bim E.vd) v w' ⟨⟨λi x hx=>g3.1 i x hx,λb n hx=>g3.2.1 b n hx,λb o v hx=>g3.2.2.1 b o v hx,g3.2.2.2.1,g3.2.2.2.2⟩,rfl,rfl,rfl⟩ (e3.sub_rows (λid k hk=>?_) e1.symm e2.symm) (hc.sub hsub);cases hKid:K.get id with
  |none=>grind
  |some k2=>
   grind
def HW (b:Nat) (al:Nat->Bool) (idf:Nat->Nat) (S:Nat->Bool) (r:Nat->Prop):Nat->Prop:=λid=>r id\/∃j,j<b/\al j=true/\S j=false/\id=idf j
structure HO (b:Nat) (al:Nat->Bool) (idf:Nat->Nat) (S:Nat->Bool) (G H:AHeap):Prop where
 nx:H.next=G.next
 hi:H.hi=G.hi
 sub:∀id k,H.get id=some k->G.get id=some k
 all:∀id k,G.get id=some k->(∀j,j<b->al j=true->S j=false->id≠idf j)->H.get id=some k
section
omit [Gl]
def Xk {b:Nat} {al:Nat->Bool} {idf:Nat->Nat} {S:Nat->Bool} {r:Nat->Prop} {i:Nat} (h:al i=false):HW b al idf (plus S i) r=HW b al idf S r:=by
 funext id
 refine propext (or_congr Iff.rfl ⟨?_,?_⟩)<;>grind [plus]
theorem HO.plus {b:Nat} {al:Nat->Bool} {idf:Nat->Nat} {S:Nat->Bool} {G H:AHeap} (h:HO b al idf S G H) {i:Nat} (hi:al i=false):HO b al idf (plus S i) G H:=
 ⟨h.nx,h.hi,h.sub,λid k hk hn=>h.all id k hk λj h1 h2 h3=>hn j h1 h2 (by
   grind [Go.Sx.plus])⟩
def HO.full {b:Nat} {al:Nat->Bool} {idf:Nat->Nat} {S:Nat->Bool} {G H:AHeap} (h:HO b al idf S G H) (hS:∀j,j<b->al j=true->S j=true) {B:World} {pr:Nat->Prop} {E:Ag} {w:World} (hr:As B pr E H w):As B pr E G w:=
 hr.sub_rows (λid k hk=>h.all id k hk λj h1 h2 h3=>by grind) h.nx.symm h.hi.symm
theorem HO.refl (b:Nat) (al:Nat->Bool) (idf:Nat->Nat) (S:Nat->Bool) (G:AHeap):HO b al idf S G G:=⟨rfl,rfl,λ_ _ h=>h,λ_ _ h _=>h⟩
end
def Wr (l:List SI) (b j:Nat):Prop:=∃y,l[j]? =some y/\Cq y=true/\j<b
structure DG (P:Program) (s:Nat->Option AV) (m N:Nat) (Af:List Oper) (l:List SI) (b:Nat) (ev:Nat->Cr) (T0:Tm) (G KK:Nat->AHeap) (al:Nat->Bool) (idf:Nat->Nat) (i:Nat) (x:SI):Prop where
 ex:∃u R R',CN N x.o.dst=.mk u/\(∀t,t<512->Ao R t=.opq\/(t∈x.rd/\Sl l ev T0 (λj=>decide (j<i)) t (Ao R t)))/\
  (∀t,t<512->∀(E:Ag) (v:Value),Ih s m E->Ac E (Ao R t) v->Ac E (Ao R' t) v)/\
  ((al i=false/\ev i=.off/\CR Af x R'=some false/\G (i+1)=G i)\/∃q,ev i=.val q/\CR Af x R'=some true/\
    ((Cq x=true/\Lv P s m N (G i) (G (i+1)) R' x.o q/\(∀j y,l[j]? =some y->j<i->Cq y=false->AW x.bef j=false->∀id k,(KK j).get id=some k->(G i).get id=some k->(G (i+1)).get id=some k))\/
     (C0 x=true/\G (i+1)=G i/\∃H₁ row,(A3 P x.o).run R' ⟨AE,idf i,Nat.succ (idf i)⟩=some (.val q H₁)/\H₁.get (idf i)=some row/\(G 0).get (idf i)=some row)\/
     (Cq x=false/\al i=false/\(∀j,j<b->al j=true->AW x.bef j=false->(KK i).get (idf j)=none)/\G (i+1)=G i/\(KK i).hi<=(KK i).next/\BK P s m N (KK i) R' x.o q/\∃lo,(∀id k,(KK i).get id=some k->(G lo).get id=some k)/\lo<=i/\(lo=0\/∃j,lo=j+1/\Wr l b j/\AW x.bef j=true)/\
       ∀j,Wr l b j->lo<=j->j<i->∀id k,(KK i).get id=some k->(G j).get id=some k->(G (j+1)).get id=some k)))
theorem DG.mono {P:Program} {s s':Nat->Option AV} {m m' N:Nat} {Af:List Oper} {l:List SI} {b:Nat} {ev ev':Nat->Cr} {T0:Tm} {G G' KK KK':Nat->AHeap} {al:Nat->Bool} {idf:Nat->Nat} {i:Nat} {x:SI} (h:DG P s m N Af l b ev T0 G KK al idf i x) (hs:∀k,k<m->s' k=s k) (hm:m<=m')
  (he:∀j,j<=i->ev' j=ev j) (hG:∀j,j<=i+1->G' j=G j) (hK:∀j,j<=i->KK' j=KK j):DG P s' m' N Af l b ev' T0 G' KK' al idf i x:=by
 have hag:∀E:Ag,Ih s' m' E->Ih s m E:=λE h k hk=>(h k (by omega)).trans (hs k hk);obtain ⟨u,R,R',h1,h2,h3,h4⟩:=h.ex;refine ⟨u,R,R',h1,λt ht=>(h2 t ht).imp id λh=>⟨h.1,h.2.ev_congr λj hj=>he j (by grind)⟩,λt ht E v hE=>h3 t ht E v (hag E hE),?_⟩;rw [he i (Nat.le_refl _),hG i (by omega),hG (i+1) (Nat.le_refl _)];rcases h4 with h4|⟨q,g1,g2,g3⟩;exact .inl h4
 .refine .inr ⟨q,g1,g2,?_⟩;rcases g3 with ⟨k1,k2,k3⟩|⟨k1,k2,k3⟩|⟨k1,ka,kb,k2,k3,k4,lo,k5,k6,k7,k8⟩
  .refine .inl ⟨k1,λB pr E a w hE=>k2 B pr E a w (hag E hE),λj y hy hj=>?_⟩
   grind
  .grind
  .refine .inr (.inr ⟨k1,ka,?_,k2,?_⟩)
   .grind
   rw [hK i (Nat.le_refl _)];refine ⟨k3,λB pr E a w hE=>k4 B pr E a w (hag E hE),lo,?_,k6,k7,λj hj h1 h2=>?_⟩<;>grind
structure EA (P:Program) (B:World) (pr:Nat->Prop) (N:Nat) (E0:Ag) (D:Bj) (l:List SI) (b:Nat) (ev:Nat->Cr) (T0:Tm) (G:Nat->AHeap) (al:Nat->Bool) (idf:Nat->Nat) (S:Nat->Bool) (a:Act) (w:World) (E:Ag):Prop where
 sub:E0.sub E
 bim:E.bim=E0.bim
 vd:E.vd=E0.vd
 vd0:∀id,E0.vd id->E0.res id
 res:E.res=HW b al idf S E0.res
 gl:BQ E0
 size:a.tmps.size=N
 dfs:Ca P E0 D a.defers
 slot:∀t,t<512->∃q,Sl l ev T0 S t q/\Ac E q (a.tmps.getD t undef)
 r:∃k H',k<=b/\(∀j,Wr l b j->(S j=true↔j<k))/\HO b al idf S (G k) H'/\As B pr E H' w
structure JO (l:List SI) (b:Nat) (al:Nat->Bool) (idf:Nat->Nat) (H0 G0:AHeap):Prop where
 nx:H0.next<=G0.next
 hi:G0.hi=H0.hi
 rng:∀j,j<b->al j=true->H0.next<=idf j/\idf j<G0.next/\idf j<H0.hi/\idf j<Bb
 inj:∀i j,i<b->j<b->al i=true->al j=true->idf i=idf j->i=j
 old:∀id k,H0.get id=some k->G0.get id=some k
 new:∀id k,G0.get id=some k->(∀j,j<b->al j=true->id≠idf j)->H0.get id=some k
 wr:∀(i j:Nat) (x:SI),l[i]? =some x->i<b->Cq x=true->j<b->al j=true->AW x.bef j=true
 is:∀(j:Nat) (x:SI),l[j]? =some x->al j=C0 x
section
variable {P:Program} {s:Nat->Option AV} {m N b:Nat} {B:World} {pr:Nat->Prop} {E0:Ag} {D:Bj} {Af:Array Oper} {l:List SI} {ev:Nat->Cr} {T0:Tm} {S:Nat->Bool} {a:Act} {w:World} {E:Ag} {G KK:Nat->AHeap} {al:Nat->Bool} {idf:Nat->Nat} {H00:AHeap} {i:Nat} {x:SI}
def EA.trel (inv:EA P B pr N E0 D l b ev T0 G al idf S a w E) (hP:AG Af.toList l) (hN:N<=512) (hcl:Cl l ev S) (hx:l[i]? =some x) (hS:S i=false) (hb:∀j,AW x.bef j=true->S j=true)
  {R:Tm} (hR:∀t,t<512->Ao R t=.opq\/(t∈x.rd/\Sl l ev T0 (λj=>decide (j<i)) t (Ao R t))):Bf E N R a.tmps:=by
 refine ⟨inv.size,hN,λt ht=>?_,inv.gl.sub inv.sub⟩;rcases hR t ht with h|⟨h1,h2⟩;rw [h];simp [Ac]
 .obtain ⟨q,h3,h4⟩:=inv.slot t ht;have:Sl l ev T0 S t (Ao R t):=h2.congr λj y hj hd=>by
   rcases zc' j i with hlt|rfl|hgt
   .have:=hb j (hP.pair j i y x hlt hj hx (.inl (db hd h1)))
    grind
   rw [hS];simp
   .have hbit:=hP.pair i j x y hgt hx hj (.inl (gB hd h1));cases hs:S j with
    |false=>simp;omega
    |true=>have:=hcl.bef j y i hj hs hbit;grind
  rw [this.unique h3];exact h4
theorem EA.put (inv:EA P B pr N E0 D l b ev T0 G al idf S a w E) (hP:AG Af.toList l) (hcl:Cl l ev S) (hx:l[i]? =some x) (hS:S i=false) {u:Tm->AV->Tm} (hu:CN N x.o.dst=.mk u)
  {q:AV} (hq:(ev i).put=some q) {E':Ag} (hs:E.sub E') (hbim:E'.bim=E.bim) (hvd:E'.vd=E.vd) (hres:E'.res=HW b al idf (plus S i) E0.res) {v:Value} (hc:Ac E' q v) {w':World}
  (hr:∃k H',k<=b/\(∀j,Wr l b j->(plus S i j=true↔j<k))/\HO b al idf (plus S i) (G k) H'/\As B pr E' H' w'):EA P B pr N E0 D l b ev T0 G al idf (plus S i) (a.put x.o.dst v) w' E' where
 sub:=Ag.sub_trans inv.sub hs
 bim:=hbim.trans inv.bim
 vd:=hvd.trans inv.vd
 vd0:=inv.vd0
 res:=hres
 gl:=inv.gl
 size:=by rw [ku];exact inv.size
 dfs:=by rw [Act.put_defers'];exact inv.dfs
 r:=hr
 slot:=by
  intro t ht;by_cases hd:x.o.dst=some t
  .refine ⟨q,Sl.put hx hd hq λj y hj hsj hdj=>?_,?_⟩
   .rcases zb' i j with hgt|hle
    .have hbit:=hP.pair i j x y hgt hx hj (.inl (lk hd hdj));have:=hcl.bef j y i hj hsj hbit
     grind
    exact hle
   rw [hd]at hu⊢;rw [jc (by rw [inv.size];exact (lp hu).1)];exact hc
  .obtain ⟨q',h1,h2⟩:=inv.slot t ht;refine ⟨q',h1.keep λy hy hdy=>?_,?_⟩
   .grind
   rw [kq hd];exact h2.sub hs
omit [Gl]in
def XA {k n:Nat} (hno:∀j,k<=j->G (j+1)=G j\/k+n<=j):G (k+n)=G k:=by
 induction n<;>grind
def DG.keeps {Af:List Oper} (F:DG P s m N Af l b ev T0 G KK al idf i x) (h:Cq x=false):G (i+1)=G i:=by
 obtain ⟨u,R,R',_,_,_,h4⟩:=F.ex
 grind
def rS_ {Q:Exit->Act->World->Prop} (inv:EA P B pr N E0 D l b ev T0 G al idf S a w E) (hsy:Ih s m E0) (hP:AG Af.toList l) (hN:N<=512) (hcl:Cl l ev S) (hx:l[i]? =some x) (hib:i<b) (hS:S i=false)
  (hb:∀j,AW x.bef j=true->S j=true) (F:∀(i:Nat) (x:SI),l[i]? =some x->i<b->DG P s m N Af.toList l b ev T0 G KK al idf i x) (h2:∀(i j:Nat) (x y:SI),i<j->j<b->l[i]? =some x->l[j]? =some y->Cq x=true->Cq y=true->AW y.bef i=true) (hbl:b<=l.length) (hA:JO l b al idf H00 (G 0)) (hA0:∀j,j<b->al j=true->¬E0.res (idf j)):
  wpOp P Af Q i (λa w=>(∃E,EA P B pr N E0 D l b ev T0 G al idf (plus S i) a w E)/\Cl l ev (plus S i)) a w:=by
 obtain ⟨u,R,R',hu,hR,hRR,hev⟩:=(F i x hx hib).ex;have ht:=inv.trel hP hN hcl hx hS hb hR;have hE:Ih s m E:=λk hk=>by rw [inv.sub.2.2.2.1];exact hsy k hk
 have ht':Bf E N R' a.tmps:=⟨ht.size,ht.le,λt h=>hRR t h E _ hE (ht.con t h),ht.gl⟩;obtain ⟨k,H',hkb,hk,hah,hr⟩:=inv.r;have hat:∀j,j<b->∃y,l[j]? =some y:=λj hj=>⟨l[j],by simp⟩;have hnoW:∀j,j<b->¬Wr l b j->G (j+1)=G j:=λj hj hn=>by
  obtain ⟨y,hy⟩:=hat j hj;refine (F j y hy hj).keeps ?_;cases hw:Cq y with
  |false=>rfl
  |true=>exact absurd ⟨y,hy,hw,hj⟩ hn
 have keepk:Cq x=false->∀j,Wr l b j->(plus S i j=true↔j<k):=λhw j hj=>by
  have:j≠i:=λe=>by
   obtain ⟨y,hy,hy2,_⟩:=hj
   grind
  grind [plus]
 have atk:Cq x=true->G k=G i/\∀j,Wr l b j->(plus S i j=true↔j<i+1):=λhw=>by
  have hWi:Wr l b i:=⟨x,hx,hw,hib⟩;have hki:k<=i:=by
   grind
  have hbelow:∀j,Wr l b j->j<i->S j=true:=λj hj hlt=>by
   obtain ⟨y,hy,hy2,_⟩:=hj
   grind
  refine ⟨?_,λj hj=>?_⟩;have:=XA (G:=G) (k:=k) (n:=i-k) λj hj=>(by by_cases hji:j<i<;>grind);simp_all
  .rcases zc' j i with hlt|rfl|hgt;have h1:=hbelow j hj hlt;have:j≠i:=(by omega);simp only [plus,this,if_false,h1,true_iff];omega;simp [plus]
   .have hne:j≠i:=(by omega);obtain ⟨y,hy,hy2,hjb⟩:=hj;have hbit:=h2 i j x y hgt hjb hx hy hw hy2;simp only [plus,hne,if_false];constructor
    .intro hs;have:=hcl.bef j y i hy hs hbit
     grind
    omega
 rcases hev with ⟨hal,he,hg,hGe⟩|⟨q,he,hg,hop⟩
 .refine jp (FU hP hx) (JW ht' hg) ⟨⟨E,inv.put hP hcl hx hS hu (q:=.tup []) (by rw [he];rfl) (Ag.sub_refl E) rfl rfl (by rw [Xk hal];exact inv.res) (GG E) ?_⟩,hcl.plus hx hb ?_⟩
  .cases hw:Cq x with
   |false=>exact ⟨k,H',hkb,keepk hw,hah.plus hal,hr⟩
   |true=>obtain ⟨e1,e2⟩:=atk hw;exact ⟨i+1,H',hib,e2,by rw [hGe,←e1];exact hah.plus hal,hr⟩
  grind
 .have hclp:Cl l ev (plus S i):=hcl.plus hx hb (by grind);rcases hop with ⟨hw,hop,_⟩|⟨hal,_,H₁,row,hrun,hrow,hrow0⟩|⟨hw,hal,hno,_,hroom,hop,lo,hsub,hlo,hlo0,hbet⟩
  .obtain ⟨e1,e2⟩:=atk hw;have hal:al i=false:=by
    rw [hA.is i x hx]
    grind [fO]
   have hfull:=hah.full (λj h1 h2=>hb j (hA.wr i j x hx hib hw h1 h2)) hr;refine LG (FU hP hx) (JW ht' hg) (hop B pr E a w hE ht' (by grind) _ _ λE' v w' h1 h2 h3=>⟨⟨E',inv.put hP hcl hx hS hu (q:=q) (by rw [he];rfl) h1.1 h1.2.2.1 h1.2.2.2 (by rw [Xk hal,h1.2.1];exact inv.res) h3 ⟨i+1,_,hib,e2,HO.refl ..,h2⟩⟩,hclp⟩)
  .have hali:al i=true:=(by rw [hA.is i x hx];exact hal);have hnw:=fO hal;have hnoS:∀j,Wr l b j->¬j<k:=λj hj hjk=>by
    obtain ⟨y,hy,hy2,hjb⟩:=hj;have hsj:=(hk j ⟨y,hy,hy2,hjb⟩).2 hjk;have:=hcl.bef j y i hy hsj (hA.wr j i y hy hjb hy2 hib hali)
    grind
   have hGk:G k=G 0:=by
    have:=XA (G:=G) (k:=0) (n:=k) λj _=>by
     grind
    grind
   rw [hGk]at hah;have hi0:E.res (idf i):=(by rw [inv.res];exact .inr ⟨i,hib,hali,hS,rfl⟩);obtain ⟨hi1,hi2⟩:=hr.resv _ hi0;have hsubr:∀id,HW b al idf (plus S i) E0.res id->E.res id:=λid h=>by rw [inv.res];rcases h with h|⟨j,h1,h2,h3,h4⟩;exact .inl h;refine .inr ⟨j,h1,h2,?_,h4⟩;simp_all [plus]
   have hnot:¬HW b al idf (plus S i) E0.res (idf i):=λh=>by
    rcases h with h|⟨j,h1,h2,h3,h4⟩
    .grind
    .have:=hA.inj i j hib h1 hali h2 h4
     grind [plus]
   have hvdR:∀id,E.vd id->HW b al idf (plus S i) E0.res id:=λid h=>.inl (inv.vd0 id (by rw [←inv.vd];exact h));have hnone:∀id,(⟨AE,idf i,Nat.succ (idf i)⟩:AHeap).get id=none:=λid=>Pc _ _ id;refine LG (FU hP hx) (JW ht' hg) ?_;refine Vm (res':=λid=>HW b al idf (plus S i) E0.res id\/(H'.next<=id/\id<H'.hi)) hr ht' (λid k h=>by grind) (λid h=>.inl (hvdR id h)) (λid h=>?_) (λid h1 h2=>?_) hrun λE' v w' hc hs h1 h2 h3 h4=>?_;rcases h with h|⟨g1,g2⟩;exact (hr.resv id (hsubr id h)).1;exact hr.fresh id g1 g2
   .grind
   .obtain ⟨H2,g1,g2,g3,g4,g5⟩:=h4 H'.next H'.hi (HW b al idf (plus S i) E0.res) (λid e1 e2=>⟨(h1 id (.inr ⟨e1,e2⟩)).1,λh=>(hr.resv id (hsubr id h)).2 ⟨e1,e2⟩⟩) (λid h=>(h1 id (.inl h)).1) hvdR;obtain ⟨_,_,_,htop⟩:=hA.rng i hib hali;refine ⟨⟨_,inv.put hP hcl hx hS hu (q:=q) (by rw [he];rfl) (Ag.sub_trans hs (Ag.sub_re _ _ _ _)) rfl rfl rfl (hc.sub (Ag.sub_re _ _ _ _)) ⟨k,H'.set (idf i) row,hkb,keepk hnw,?_,g3.sub_rows (λid kk hkk=>?_) ?_ ?_⟩⟩,hclp⟩
    .rw [hGk];refine ⟨hah.nx,hah.hi,λid kk hkk=>?_,λid kk hkk hno=>?_⟩
     .by_cases e:idf i=id
      .grind [AHeap.get_set_same]
      rw [AHeap.get_set_ne _ htop e]at hkk;exact hah.sub id kk hkk
     .by_cases e:idf i=id
      .grind [AHeap.get_set_same]
      .rw [AHeap.get_set_ne _ htop e];refine hah.all id kk hkk λj h1 h2 h3=>?_;by_cases ej:j=i<;>grind [plus]
    .grind [AHeap.get_set_same,AHeap.get_set_ne]
    exact g1.symm;exact g2.symm
  .have hK:∀id kk,(KK i).get id=some kk->H'.get id=some kk:=by
     intro id kk hkk;refine hah.all id kk ?_ λj h1 h2 h3 e=>by
      grind
     have hlk:lo<=k:=(by rcases hlo0 with rfl|⟨j,rfl,hj,hbit⟩<;>grind);have key:∀n,lo+n<=k->(G (lo+n)).get id=some kk:=by
      intro n
      induction n with
      |zero=>grind
      |succ n ih=>
       intro hn;have hprev:=ih (by omega);rw [show lo+(n+1)=lo+n+1 by omega];have hjb:lo+n<b:=(by omega);obtain ⟨y,hy⟩:=hat _ hjb;have Fy:=F _ y hy hjb;cases hwy:Cq y with
       |false=>rw [Fy.keeps hwy];exact hprev
       |true=>
        have hWj:Wr l b (lo+n):=⟨y,hy,hwy,hjb⟩;have hSj:S (lo+n)=true:=(hk _ hWj).2 (by omega);rcases zc' (lo+n) i with hlt|heq|hgt
        .grind
        .grind
        .obtain ⟨_,_,_,_,_,_,h4⟩:=Fy.ex;rcases h4 with ⟨_,_,_,h⟩|⟨_,_,_,⟨_,_,h'⟩|⟨h,_⟩|⟨h,_⟩⟩
         .grind
         .refine h' i x hx hgt hw ?_ id kk hkk hprev;cases hbit:AW y.bef i with
          |false=>rfl
          |true=>have:=hcl.bef _ y i hy hSj hbit;grind
         all_goals grind
     have:=key (k-lo) (by omega);simp_all
   exact LG (FU hP hx) (JW ht' hg) ((hop.frame hK hroom) B pr E a w hE ht' hr _ _ λE' v w' h1 h2 h3=>⟨⟨E',inv.put hP hcl hx hS hu (q:=q) (by rw [he];rfl) h1.1 h1.2.2.1 h1.2.2.2 (by rw [Xk hal,h1.2.1];exact inv.res) h3 ⟨k,H',hkb,keepk hw,hah.plus hal,h2⟩⟩,hclp⟩)
omit [Gl]in
def AG.below {Af:List Oper} (hP:AG Af l):∀(i:Nat) (x:SI) (j:Nat),l[i]? =some x->AW x.bef j=true->j<i:=by
 intro i
 induction i using Nat.strongRecOn with
 |_ i ih=>
  intro x j hx hb;obtain ⟨e,h1,h2,h3⟩:=(hP.bef i x j hx).1 hb;have h4:=hP.lt i x e hx h1 h2
  grind
omit [Gl]in
def ca {Q:Exit->Act->World->Prop} (hP:AG Af.toList l) (htail:∀(i:Nat) (x:SI),l[i]? =some x->b<=i->∀j,j<i->AW x.bef j=true):
  ∀(fuel:Nat) (listed:Array Bool) (k:Nat) (a:Act) (w:World),listed.size=Af.size->listed.toList.countP (· ==false)<=fuel->b<=k->k<=Af.size->(∀j,listed.getD j false=decide (j<k))->
   wpList P Af Q (Af.toList.drop k) a w->wpAny P .any Af Q fuel listed a w:=by
 have hlen:l.length=Af.size:=by rw [hP.len];simp
 have next:∀(listed:Array Bool) (k:Nat),listed.size=Af.size->b<=k->(∀j,listed.getD j false=decide (j<k))->∀i,i∈Region.ready .any Af listed->i=k/\i<Af.size:=by
  intro listed k hs hbk hl i hi;obtain ⟨h1,o,h2,h3⟩:=mem_ready.1 hi;have hlt:i<Af.size:=(Array.getElem?_eq_some_iff.1 h2).1;have hg:listed.getD i false=false:=by
   grind
  have hik:¬i<k:=(by grind);rcases zb' k i with h|h;have hx:l[i]? =some l[i]:=(by simp);have hbit:=htail i _ hx (by omega) k h;obtain ⟨e,he,hb,hj⟩:=(hP.bef i _ k hx).1 hbit;have ho:l[i].o=o:=(by grind [FU]);have hon:=h3 e (by grind) hb;rw [hl]at hon;have hon:e.on<k:=(by grind);rcases hj with rfl|⟨y,hy,hj⟩;omega;have:=hP.below e.on y k hy hj;omega;omega
 intro fuel
 induction fuel with
 |zero=>
  intro listed k a w hs hc hbk hk hl h;have hall:k=Af.size:=by
   rcases zb' k Af.size with hlt|hge
   .have hg:listed[k]=false:=by have:=hl k;simp_all
    grind [VP]
   omega
  have hrd:Region.ready .any Af listed=[]:=by
   rw [List.eq_nil_iff_forall_not_mem]
   grind
  refine ⟨hrd,?_⟩;rw [hall,List.drop_eq_nil_of_le (by simp)]at h;exact h
 |succ fuel ih=>
  intro listed k a w hs hc hbk hk hl h;rcases zb' k Af.size with hlt|hge
  .have ho:Af[k]? =some Af[k]:=(by simp [hlt]);have hdrop:Af.toList.drop k=Af[k]::Af.toList.drop (k+1):=by
    grind [List.drop_eq_getElem_cons]
   rw [hdrop]at h;have hgk:listed[k]=false:=by have:=hl k;simp_all
   have hstep:∀a w,wpList P Af Q (Af.toList.drop (k+1)) a w->wpAny P .any Af Q fuel (listed.setIfInBounds k true) a w:=λa w h=>by
    refine ih _ (k+1) a w (by grind) ?_ (by omega) hlt (λj=>?_) h
    .grind
    .have:=congrFun (Pb (listed:=listed) (i:=k) (by omega)) j;rw [this];by_cases e:j=k;simp_all
     .simp only [plus,e,if_false,hl j]
      grind
   refine ⟨λhrd=>?_,λi hi=>?_⟩
   .have:k∈Region.ready .any Af listed:=by
      rw [mem_ready];refine ⟨by grind,Af[k],ho,λe he hb=>?_⟩;have hx:l[k]? =some l[k]:=(by simp);have hok:l[k].o=Af[k]:=(by grind [FU]);have:=hP.lt k _ e hx (by grind) hb
      grind
    grind
   .obtain ⟨rfl,_⟩:=next listed k hs hbk hl i hi
    unfold wpOp;simp only [ho];unfold wpList at h;split
    .grind [Oper.wp_mono]
    grind
  .have hall:k=Af.size:=(by omega);have hrd:Region.ready .any Af listed=[]:=by
    rw [List.eq_nil_iff_forall_not_mem]
    grind
   rw [hall,List.drop_eq_nil_of_le (by simp)]at h;exact ⟨λ_=>h,λi hi=>by grind⟩
def td_ {Q:Exit->Act->World->Prop} (hA:JO l b al idf H00 (G 0)) (hA0:∀j,j<b->al j=true->¬E0.res (idf j)) (hsy:Ih s m E0) (hP:AG Af.toList l) (hN:N<=512) (F:∀(i:Nat) (x:SI),l[i]? =some x->i<b->DG P s m N Af.toList l b ev T0 G KK al idf i x)
  (h2:∀(i j:Nat) (x y:SI),i<j->j<b->l[i]? =some x->l[j]? =some y->Cq x=true->Cq y=true->AW y.bef i=true) (hbl:b<=l.length) (htail:∀(i:Nat) (x:SI),l[i]? =some x->b<=i->∀j,j<i->AW x.bef j=true)
  (hend:∀(S:Nat->Bool) (a:Act) (w:World) (E:Ag),EA P B pr N E0 D l b ev T0 G al idf S a w E->Cl l ev S->(∀j,S j=decide (j<b))->wpList P Af Q (Af.toList.drop b) a w):
  ∀(fuel:Nat) (listed:Array Bool) (a:Act) (w:World),listed.size=Af.size->listed.toList.countP (· ==false)<=fuel->Cl l ev (λj=>listed.getD j false)->(∀j,listed.getD j false=true->j<b)->
   (∃E,EA P B pr N E0 D l b ev T0 G al idf (λj=>listed.getD j false) a w E)->wpAny P .any Af Q fuel listed a w:=by
 have hlen:l.length=Af.size:=by rw [hP.len];simp
 intro fuel
 induction fuel with
 |zero=>
  intro listed a w hs hc hcl hlb ⟨E,inv⟩;have hall:∀j,j<Af.size->listed.getD j false=true:=λj hj=>by
   cases hg:listed.getD j false with
   |true=>rfl
   |false=>
    have hg':listed[j]'(by omega)=false:=by simp_all
    grind [VP]
  have hS:∀j,listed.getD j false=decide (j<b):=λj=>by
   grind
  refine ca hP htail 0 listed b a w hs hc (ze' b) (by omega) hS (hend _ a w E inv hcl hS)
 |succ fuel ih=>
  intro listed a w hs hc hcl hlb ⟨E,inv⟩;by_cases hall:∀j,j<b->listed.getD j false=true
  .have hS:∀j,listed.getD j false=decide (j<b):=λj=>by
     grind
   exact ca hP htail (fuel+1) listed b a w hs hc (ze' b) (by omega) hS (hend _ a w E inv hcl hS)
  ·
   have hrdy:∃j,j<b/\j∈Region.ready .any Af listed:=by
    have:∀n,(∀j,j<n->j<b->listed.getD j false=true)\/∃j,j<b/\j∈Region.ready .any Af listed:=by
     intro n
     induction n with
     |zero=>simp
     |succ n ihn=>
      rcases ihn with h|h
      .cases hg:listed.getD n false with
       |true=>
        grind
       |false=>
        rcases zb' n b with hnb|hnb
        .refine .inr ⟨n,hnb,?_⟩;rw [mem_ready];have hx:l[n]? =some l[n]:=(by simp);refine ⟨?_,l[n].o,FU hP hx,λe he hb=>?_⟩
         .grind
         .have:=hP.lt n l[n] e hx he hb
          grind
        grind
      grind
    grind
   refine ⟨λhrd=>?_,λi hi=>?_⟩
   .grind
   .obtain ⟨h1,o,ho1,h3⟩:=mem_ready.1 hi;have hlt:i<listed.size:=(by grind);have hg:listed[i]=false:=(by simpa [hlt]using h1);have hx:l[i]? =some l[i]:=(by simp);have ho:l[i].o=o:=(by grind [FU]);have hbef:∀j,AW l[i].bef j=true->listed.getD j false=true:=λj hj=>(by obtain ⟨e,he,hb,hj⟩:=(hP.bef i _ j hx).1 hj;have hon:=h3 e (by grind) hb;rcases hj with rfl|⟨y,hy,hj⟩;exact hon;exact hcl.bef e.on y j hy hon hj);have hib:i<b:=by
     grind
    refine wpOp_mono (λa w h=>?_) (rS_ inv hsy hP hN hcl hx hib (by grind) hbef F h2 hbl hA hA0);rw [←Pb hlt]at h;refine ih _ a w (by grind) ?_ h.2 (λj hj=>?_) h.1
    .grind
    .have e:=congrFun (Pb (listed:=listed) (i:=i) hlt) j;by_cases hji:j=i<;>grind [plus]
def pF (hm:P.follows .mixedOrders=true) {id n:Nat} (hpl:M0 Af.toList=.mk l n) (hsy:Ih s m E) (F:∀(i:Nat) (x:SI),l[i]? =some x->i<b->DG P s m N Af.toList l b ev T0 G KK al idf i x)
  (h2:∀(i j:Nat) (x y:SI),i<j->j<b->l[i]? =some x->l[j]? =some y->Cq x=true->Cq y=true->AW y.bef i=true) (hbl:b<=l.length) (htail:∀(i:Nat) (x:SI),l[i]? =some x->b<=i->∀j,j<i->AW x.bef j=true)
  {Tf:Tm} (hT:∀t,t<512->∃q,Sl l ev T0 (λj=>decide (j<b)) t q/\∀(E:Ag) (v:Value),Ih s m E->Ac E q v->Ac E (Ao Tf t) v) {Q:Exit->Act->World->Prop} (hA:JO l b al idf H00 (G 0))
  (hQ:∀E' a w,E.le E'->St P B pr N E' Tf (G b) D a w->wpList P Af Q (Af.toList.drop b) a w) (st:St P B pr N E T0 H00 D a w):
  (Code.region id Af true).wp P Q a w:=by
 obtain ⟨hP,_⟩:=bo hpl;have hempty:∀j,(Array.replicate Af.size false).getD j false=false:=λj=>by rw [Array.getD_eq_getD_getElem?,Array.getElem?_replicate];split<;>rfl
 have hA0:∀j,j<b->al j=true->¬E.res (idf j):=λj h1 h2 h=>by obtain ⟨r1,_,r3,_⟩:=hA.rng j h1 h2;exact (st.r.resv _ h).2 ⟨r1,r3⟩
 refine wp_region_any hm (td_ (B:=B) (pr:=pr) (E0:=E) (D:=D) (G:=G) (b:=b) (H00:=H00) hA hA0 hsy hP st.t.le F h2 hbl htail (λS a w E' inv hcl hall=>?_) Af.size _ a _ (by simp) ?_ ?_ (λj hj=>Bool.noConfusion ((hempty j).symm.trans hj)) ⟨E.withRes (HW b al idf (λj=>(Array.replicate Af.size false).getD j false) E.res),?_⟩)
 .obtain ⟨k,H',hkb,hk,hah,hr⟩:=inv.r;have hGk:G b=G k:=by
   have:=XA (G:=G) (k:=k) (n:=b-k) λj hj=>by
    by_cases hjb:j<b
    .refine .inl ?_;have hx:l[j]? =some l[j]:=(by simp);refine (F j _ hx hjb).keeps ?_;cases hw:Cq l[j]with
     |false=>rfl
     |true=>have:=(hk j ⟨_,hx,hw,hjb⟩).1 (by grind);omega
    omega
   grind
  have hSb:∀j,j<b->S j=true:=λj hj=>(by grind);have hres:E'.res=E.res:=by
   rw [inv.res]
   funext id
   refine propext ⟨λh=>?_,.inl⟩;rcases h with h|⟨j,h1,_,h3,_⟩<;>grind
  have hle:E.le E':=⟨inv.sub,hres,inv.bim,inv.vd⟩;refine hQ E' a w hle ⟨⟨inv.size,st.t.le,λt ht=>?_,inv.gl.sub inv.sub⟩,by rw [hGk];exact hah.full (λj h1 _=>hSb j h1) hr,inv.dfs.mono hle⟩;obtain ⟨q,h1,h2⟩:=hT t ht;obtain ⟨q',h3,h4⟩:=inv.slot t ht;have h1':=h1.congr (S':=S) λj y hj _=>(by rw [hall j]);have:=h1'.unique h3;subst this;exact h2 E' _ (λk hk=>by rw [inv.sub.2.2.2.1];exact hsy k hk) h4
 .grind
 exact ⟨λi hi=>Bool.noConfusion ((hempty i).symm.trans hi),λi hi=>Bool.noConfusion ((hempty i).symm.trans hi),λi x j _ hi=>Bool.noConfusion ((hempty i).symm.trans hi)⟩
 .have hr0:As B pr (E.withRes (HW b al idf (λj=>(Array.replicate Af.size false).getD j false) E.res)) { H00 with next:=(G 0).next } w:=(by have h1:As B pr E { H00 with next:=(G 0).next } w:={ own:=st.r.own,imm:=st.r.imm,ib:=st.r.ib,fresh:=λid h1 h2=>st.r.fresh id (zd' hA.nx h1) h2,resv:=λid h=>⟨(st.r.resv id h).1,λhx=>(st.r.resv id h).2 ⟨zd' hA.nx hx.1,hx.2⟩⟩,vds:=st.r.vds,szs:=st.r.szs,prot:=st.r.prot,size:=st.r.size,os:=st.r.os,output:=st.r.output };refine h1.reres (λid h=>?_) λid h=>.inl (st.r.vds id h);rcases h with h|⟨j,h1,h2,_,rfl⟩;exact ⟨(st.r.resv id h).1,λhx=>(st.r.resv id h).2 ⟨zd' hA.nx hx.1,hx.2⟩⟩;obtain ⟨r1,r2,r3,_⟩:=hA.rng j h1 h2;exact ⟨st.r.fresh _ r1 r3,λhx=>by grind⟩);have hah0:HO b al idf (λj=>(Array.replicate Af.size false).getD j false) (G 0) { H00 with next:=(G 0).next }:=
   ⟨rfl,hA.hi.symm,λid k hk=>hA.old id k hk,λid k hk hn=>hA.new id k hk λj h1 h2=>hn j h1 h2 (hempty j)⟩
  exact { sub:=Ag.sub_withRes E _,bim:=rfl,vd:=rfl,vd0:=st.r.vds,res:=rfl,gl:=st.t.gl,size:=st.t.size,dfs:=st.d,r:=⟨0,_,Nat.zero_le _,λj _=>⟨λh=>Bool.noConfusion ((hempty j).symm.trans h),λh=>absurd h (Nat.not_lt_zero _)⟩,hah0,hr0.drawn _⟩,slot:=λt ht=>⟨Ao T0 t,.inl ⟨rfl,λj x _ hs=>Bool.noConfusion ((hempty j).symm.trans hs)⟩,(st.t.con t ht).sub (Ag.sub_withRes E _)⟩ }
end
end Go.Sx
namespace Go.Sx
theorem mU (cs:List AV):(Ew cs).get 0=some (.cells cs):=by rfl
theorem pO {H:AHeap} {id p n:Nat} {cs:List AV} (hk:H.get id=some (.cells cs)):DB H (.ptr id p) n=DB (Ew cs) (.ptr 0 p) n:=by
 grind [DB,mU]
def mg_ {P:Program} {H:AHeap} {id p:Nat} {t:TypeId} {cs:List AV} (hk:H.get id=some (.cells cs)):Ds P H t (.ptr id p)=Ds P (Ew cs) t (.ptr 0 p):=by
 grind [Ds,pO]
section
variable {P:Program} {B:World} {pr:Nat->Prop} {E:Ag} {H:AHeap} {w:World}
def wR (hr:As B pr E H w) {t:TypeId} {a:AV} {v:Value} (hc:Ac E a v) {r:AV} (h:Ds P H t a=some r):∃u,(Instr.loadAt t v).run P w=.ok u w/\Ac E r u:=by
 unfold Ds at h;split at h;cases h;rename_i d hd;split at h
 .rename_i hag;split at h;cases h;rename_i i hi;split at h;rename_i l hl;cases h;obtain ⟨b,o,vs,rfl,hlen,hL,hcell⟩:=KQ hr hc hl;refine ⟨.agg ⟨vs⟩,?_,by simp only [Ac];grind⟩;have:=OJ (P:=P) hcell;simp_all [Instr.loadAt,Instr.sureAddr,loadVar,Kt,DK]
  cases h
 .rename_i hag;split at h;rename_i c hl;cases h;obtain ⟨b,o,vs,rfl,hlen,hL,hcell⟩:=KQ hr hc hl;obtain ⟨u,hu,hcu⟩:=hL.at 0 r rfl;have:=hcell 0 u hu;simp_all [Instr.loadAt,Instr.sureAddr,loadVar,Kt]
  cases h
end
theorem LN {E:Ag} {id j sz off n:Nat} {k:IntKind} {v:Value} (hj:E.sy j=some (.int k (.ofNat n))):Ac E (.ptx id j sz off) v↔Ac E (.ptr id (n*sz+off)) v:=by
 grind [Ac]
def dY {E:Ag} {id j sz off:Nat} {v:Value} (h:Ac E (.ptx id j sz off) v):∃k n,E.sy j=some (.int k (.ofNat n)):=by
 grind [Ac]
def Wi {E:Ag} {id sz i len z:Nat} {cs:List AV} {v:Value} (hi:E.sy i=some (.vsl len z cs)) (h:Ac E (.slx id sz i) v):z=sz/\Ac E (.sl id 0 len sz none) v:=by
 simp only [Ac]at h⊢
 grind
def zc {E:Ag} {id sz i len:Nat} {cs:List AV} {cap:Option Nat} {v:Value} (hi:E.sy i=some (.vsl len sz cs)) (h:Ac E (.sl id 0 len sz cap) v):Ac E (.slx id sz i) v:=by
 simp only [Ac]at h⊢
 grind
section
variable {P:Program} {B:World} {pr:Nat->Prop} {E:Ag} {H:AHeap} {w:World}
def yg {s:TypeId} {id id' off off' f m:Nat} (h:Hd P s (.ptr id off) f=some (.ptr id' off')):id'=id/\Hd P s (.ptr id (m+off)) f=some (.ptr id (m+off')):=by
 unfold Hd at h⊢;split at h
 case h_2=>cases h
 split at h
 case h_2=>cases h
 split at h<;>grind
def SJ {k:Nat} {len z:Nat} {cs:List AV} (hd:Ar E.sy (.sym k)=.vsl len z cs):E.sy k=some (.vsl len z cs):=by
 grind [Ar]
def ZG {id j sz off:Nat} {v:Value} {kk:IntKind} {q:Nat} (h:Ac E (.ptx id j sz off) v) (hd:Ar E.sy (.sym j)=.int kk (.ofNat q)):Ac E (.ptr id (q*sz+off)) v:=by
 grind [Ar,LN]
end
def oe {P:Program} {H:AHeap} {id c:Nat} {t:TypeId} {es:List (AV×AV×Nat)} {k:AV} {ok:Bool} (hk:H.get id=some (.map es c)):E6 P H t (.map id) k ok=E6 P ((⟨AE,0,0⟩:AHeap).set 0 (.map es 0)) t (.map 0) k ok:=by have h0:((⟨AE,0,0⟩:AHeap).set 0 (.map es 0)).get 0=some (.map es 0):=AHeap.get_set_same _ (by unfold Bb;omega) _;simp_all [E6,Mw]
theorem xE {cs:List AV} {n:Nat} {xs r:List AV} (h:Eo n xs cs=some r):r.length=cs.length:=by
 obtain ⟨h1,rfl⟩:=LB cs h
 grind
variable [Gl]
def PE (P:Program) (T:Tm) (o:Oper):Option AV:=match o.op with
 | .fieldAddr s x f=>match look T x with
   | .ptx id j sz off=>match Hd P s (.ptr id off) f with
     |some (.ptr _ off')=>some (.ptx id j sz off')
     |_=>none
   |_=>none
 | .nilCheck x=>match look T x with
   | .ptx id j sz off=>some (.ptx id j sz off)
   |_=>none
 |_=>none
def Nr (P:Program) (T:Tm) (o:Oper):Option (XOp×List AV×Nat×Nat):=match o.op with
 | .indexAddr t x ix=>match look T x with
   | .slx id sz i=>match P.underlying t with
     |some (.slice e)=>match P.info? e with
      |some ti=>match Nat.beq ti.size sz&&Bh (look T ix)with
       |true=>some (.inb,[.sym i,look T ix],id,sz)
       |false=>none
      |none=>none
     |_=>none
   | .ptx id j sz off=>match P.underlying t with
     |some (.array len e)=>match P.info? e with
      |some ti=>match Bh (look T ix)with
       |true=>some (.flat sz off ti.size len,[.sym j,look T ix],id,1)
       |false=>none
      |none=>none
     |_=>none
   |_=>none
 |_=>none
def Ng (T:Tm) (H:AHeap) (o:Oper):Option (XOp×List AV):=match o.op with
 | .load t a=>match look T a with
   | .ptx id j sz off=>match H.get id with
     |some (.syl k)=>some (.ldx t sz off,[.sym k,.sym j])
     |_=>none
   |_=>none
 |_=>none
def JS (T:Tm) (H:AHeap) (o:Oper):Option (XOp×List AV×Nat):=match o.op with
 | .store t a x=>match look T a with
   | .ptx id j sz off=>match H.get id with
     |some (.syl k)=>match Bh (look T x)with
      |true=>some (.stx t sz off,[.sym k,.sym j,look T x],id)
      |false=>none
     |_=>none
   |_=>none
 |_=>none
def Yd (P:Program) (T:Tm) (H:AHeap) (o:Oper):Option (XOp×List AV×Nat×Nat):=match o.op with
 | .slice t x lo hi mx=>match lo,hi,mx with
   |none,some h,none=>match look T x with
    | .slx id sz i=>match H.get id with
      |some (.syl k)=>match P.underlying t with
       |some (.slice e)=>match P.info? e with
        |some ti=>match Nat.beq ti.size sz&&Bh (look T h)with
         |true=>some (.tkx,[.sym i,.sym k,look T h],id,sz)
         |false=>none
        |none=>none
       |_=>none
      |_=>none
    |_=>none
   |_,_,_=>none
 |_=>none
def Wy (P:Program) (T:Tm) (H:AHeap) (o:Oper):Option (Nat×Nat×XOp×List AV):=match o.op with
 | .makeSlice t l c=>match look T l with
   | .sym i=>match look T c with
     | .sym j=>match Nat.beq i j&&H.room with
       |true=>match P.underlying t with
        |some (.slice e)=>match P.info? e with
         |some info=>match info.zero with
          |some z=>match Nat.beq (Bs (Ch z)) info.size with
             |true=>some (H.next,info.size,.mkx info.size info.bytes (Ch z),[.sym i])
             |false=>none
          |none=>none
         |none=>none
        |_=>none
       |false=>none
     |_=>none
   |_=>none
 | .call c=>match c.callee with
   | .builtin b=>match b with
     | .append=>match c.args.toList,c.argTypes.toList with
       |[s,x],[t,tx]=>match look T s with
        | .nsl=>match look T x with
          | .sym i=>match P.underlying tx with
            |some (.int _)=>match H.room with
             |true=>match P.underlying t with
              |some (.slice e)=>match P.info? e with
                |some info=>match info.zero with
                 |some z=>match Nat.beq (Bs (Ch z)) info.size with
                    |true=>some (H.next,info.size,.mkz info.size info.bytes (Ch z),[.sym i])
                    |false=>none
                 |none=>none
                |none=>none
              |_=>none
             |false=>none
            |_=>none
          |_=>none
        |_=>none
       |_,_=>none
     |_=>none
   |_=>none
 | .slice t x lo hi mx=>match lo,hi,mx with
   |some a,none,none=>match look T x with
    | .slx id sz i=>match H.get id with
      |some (.syl k)=>match Nat.beq k i&&H.room with
       |true=>match P.underlying t with
        |some (.slice e)=>match P.info? e with
         |some ti=>match Nat.beq ti.size sz&&Bh (look T a)with
          |true=>some (id,sz,.skx,[.sym i,look T a])
          |false=>none
         |none=>none
        |_=>none
       |false=>none
      |_=>none
    |_=>none
   |_,_,_=>none
 |_=>none
def W5 (T:Tm) (H:AHeap) (o:Oper):Option (XOp×List AV):=match o.op with
 | .lookup t x ix ok=>match ok with
   |true=>none
   |false=>match look T x with
    | .map id=>match H.get id with
      |some (.map es _)=>match Ak (B8 es)&&Bh (look T ix)with
       |true=>some (.mget t es,[look T ix])
       |false=>none
      |some (.mpl i)=>match Bh (look T ix)with
       |true=>some (.mlk t,[.sym i,look T ix])
       |false=>none
      |_=>none
    |_=>none
 |_=>none
section
variable {P:Program} {N:Nat} {o:Oper} {T:Tm} {H:AHeap} {B:World} {pr:Nat->Prop} {E:Ag} {a:Act} {w:World} {D:Bj} {Y:Sy}
def og {σ:Operand->Value} (hr:As B pr E H w) (hσ:∀x,Ac E (look T x) (σ x)) {q:AV} (h:PE P T o=some q):∃v,(execOp σ o).run P w=.ok (.value v) w/\Ac E q v:=by
 unfold PE at h;split at h
 .rename_i s x f ho;split at h
  case h_2=>cases h
  rename_i id j sz off hx;split at h
  case h_2=>cases h
  rename_i id' off' hf;cases h;have hc:=hσ x;rw [hx]at hc;obtain ⟨k,n,hj⟩:=dY hc;obtain ⟨rfl,hf'⟩:=yg (m:=n*sz) hf;obtain ⟨E',v,w',h1,h2,h3,h4⟩:=eN (H:=H) hr ((LN hj).1 hc) hf';have hc2:=(LN hj).1 hc;simp only [Ac]at hc2;obtain ⟨b,o',hφ,hv⟩:=hc2;unfold Hd at hf;split at hf
  case h_2=>cases hf
  split at hf
  case h_2=>cases hf
  rename_i fl hfl;split at hf
  case h_2=>cases hf
  split at hf;cases hf;obtain ⟨_,rfl⟩:=hf;refine ⟨.pointer (some ⟨b,o'+(n*sz+(off+fl.offset)),none⟩),?_,(LN hj).2 (by simp only [Ac];grind)⟩;simp_all [execOp,Instr.fieldAt,run_underlying,Instr.sureAddr,fieldPlace,DK,Addr.add_lit,Nat.add_assoc]
 .rename_i x ho;split at h
  case h_2=>cases h
  rename_i id j sz off hx;have hc:=hσ x;rw [hx]at hc;obtain ⟨k,n,hj⟩:=dY hc;have hc2:=(LN hj).1 hc;obtain ⟨b,o',hφ,hv⟩:=hc2;simp_all [execOp]
 cases h
def ko {σ:Operand->Value} (hr0:As B pr E H w) (hσ:∀x,Ac E (look T x) (σ x)) {id sz:Nat} {op:XOp} {ag:List AV} (ha:Nr P T o=some (op,ag,id,sz)) {r:AV} (hr:op.run P (An E.sy ag)=some r):
  ∃q E' v w',r=.int .i64 (.ofNat q)/\(execOp σ o).run P w=.ok (.value v) w'/\E.le E'/\As B pr E' H w'/\Ac E' (.ptr id (q*sz)) v:=by
 unfold Nr at ha;split at ha
 case h_2=>cases ha
 rename_i t x ix ho;split at ha
 case h_3=>cases ha
 case h_2=>
  rename_i id' j sz' off hx;split at ha
  case h_2=>cases ha
  rename_i len e hd;split at ha
  case h_2=>cases ha
  rename_i ti hti;split at ha
  case h_2=>cases ha
  rename_i hso;cases ha;have hcx:=hσ x;rw [hx]at hcx;have hdi:Ac E (Ar E.sy (look T ix)) (σ ix):=(CZ hso (hσ ix)).con;simp only [An,XOp.run]at hr;split at hr
  case h_2=>cases hr
  rename_i kj n hjv;split at hr
  case h_2=>cases hr
  rename_i kk i hiv;split at hr
  case h_2=>cases hr
  rename_i m hm;cases hr;rw [hiv]at hdi;have hp:=ZG hcx hjv;have hev:Ht P t (.ptr id (n*sz'+off)) (.int kk i)=some (.ptr id (n*sz'+off+m*ti.size)):=by
   grind [Ht]
  obtain ⟨E1,v,w',g1,g2,g3,g4⟩:=W0 (H:=H) hr0 hp hdi hev;refine ⟨n*sz'+off+m*ti.size,E1,v,w',rfl,?_,g2,g3,by grind⟩;unfold execOp;simp_all
 rename_i id' sz' i hx;split at ha
 case h_2=>cases ha
 rename_i e hd;split at ha
 case h_2=>cases ha
 rename_i ti hti;split at ha
 case h_2=>cases ha
 rename_i hb;cases ha;obtain ⟨hsz,hso⟩:=Au hb;have hsz:=za' hsz;have hcx:=hσ x;rw [hx]at hcx;have hdi:Ac E (Ar E.sy (look T ix)) (σ ix):=(CZ hso (hσ ix)).con;simp only [An,XOp.run]at hr;split at hr
 case h_2=>cases hr
 rename_i len z cs hxv;split at hr
 case h_2=>cases hr
 rename_i kk m hiv;split at hr
 case h_2=>cases hr
 rename_i q hq;cases hr;rw [hiv]at hdi;have hsi:E.sy i=some (.vsl len z cs):=by
  grind [Ar]
 obtain ⟨rfl,hsl⟩:=Wi hsi hcx;have hev:Ht P t (.sl id 0 len z none) (.int kk m)=some (.ptr id (q*z)):=by
  unfold Ht
  grind
 obtain ⟨E1,v,w',g1,g2,g3,g4⟩:=W0 (H:=H) hr0 hsl hdi hev;refine ⟨q,E1,v,w',rfl,?_,g2,g3,g4⟩;unfold execOp;simp_all
def yy {k n id sz:Nat} {op:XOp} {ag:List AV} (ha:Nr P T o=some (op,ag,id,sz)) (hf:AA Y n) {r:AV} (hr:op.run P (An Y.v ag)=some r) (hok:okC r=true) (hy:E.At Y) (st:St P B pr N E T H D a w):
  ∃E' nx v w',(execOp a.eval o).run P w=.ok nx w'/\(nx=.value v\/(nx=.skip/\v=undef))/\E.leF k E'/\E'.At (Y.put n r)/\St P B pr N E' T H D a w'/\Ac E' (.ptx id n sz 0) v:=by
 obtain ⟨q,E1,v,w',rfl,g1,g2,g3,g4⟩:=ko st.r (λx=>st.t.look x) ha (by rw [hy.v];exact hr);have hy1:=hy.le g2;have st1:St P B pr N E1 T H D a w':=⟨st.t.mono g2,g3,st.d.mono g2⟩;have hv:∀i x,E1.sy i=some x->(Y.put n (.int .i64 (.ofNat q))).v i=some x:=λi x hx=>hf.sub_put _ i x (by rw [←hy1.v];exact hx);have hll:∀i l,E1.syl i=some l->(Y.put n (.int .i64 (.ofNat q))).l i=some l:=λi l hx=>by rw [hy1.l]at hx;exact hx
 have hlo:∀i,i<64->(Y.put n (.int .i64 (.ofNat q))).v i=E1.sy i:=λi hi=>by rw [hy1.v];exact hf.low _ i hi
 refine ⟨E1.with (Y.put n (.int .i64 (.ofNat q))),.value v,v,w',g1,.inl rfl,(g2.leF k).trans (Ag.with_leF k hlo),⟨rfl,rfl,hy1.res⟩,st1.with hv hll hlo,?_⟩;have:(E1.with (Y.put n (.int .i64 (.ofNat q)))).sy n=some (.int .i64 (.ofNat q)):=Sy.put_same _ _ _;refine (LN this).2 ?_;have:=g4.with hv hll;omega
def YV {σ:Operand->Value} (hr0:As B pr E H w) (hσ:∀x,Ac E (look T x) (σ x)) {op:XOp} {ag:List AV} (ha:Ng T H o=some (op,ag)) {r:AV} (hr:op.run P (An E.sy ag)=some r):∃v,(execOp σ o).run P w=.ok (.value v) w/\Ac E r v:=by
 unfold Ng at ha;split at ha
 case h_2=>cases ha
 rename_i t x ho;split at ha
 case h_2=>cases ha
 rename_i id j sz off hx;split at ha
 case h_2=>cases ha
 rename_i k hk;cases ha;have hc:=hσ x;rw [hx]at hc;simp only [An,XOp.run]at hr;split at hr
 case h_2=>cases hr
 rename_i len z cs hrow;split at hr
 case h_2=>cases hr
 rename_i kk q hj;have hp:=ZG hc hj;obtain ⟨hr1,_⟩:=hr0.expand hk (SJ hrow);have hg:(H.set id (.cells cs)).get id=some (.cells cs):=AHeap.get_set_same H (AHeap.get_lt hk) _;rw [←mg_ (P:=P) (t:=t) hg]at hr;obtain ⟨u,h1,h2⟩:=wR (P:=P) hr1 hp hr;simp_all [execOp]
section
omit [Gl]
theorem d9 {d:TypeDesc} {k:AV}:∀{es:List (AV×AV×Nat)} {i:Nat},Ff d k (Eb (B8 es)) i=Ff d k es i
 |[],i=>rfl
 |(q,v,b)::es,i=>by simp only [B8,Eb,Ff,d9,VK]
theorem nJ {P:Program} {kt:TypeId} {k:AV}:∀{es:List (AV×AV×Nat)} {i:Nat},Fz P kt k (Eb (B8 es)) i=Fz P kt k es i
 |[],i=>rfl
 |(q,v,b)::es,i=>by simp only [B8,Eb,Fz,nJ,VK]
theorem uB {P:Program} {t:TypeId} {es:List (AV×AV×Nat)} {k:AV} {ok:Bool}:E6 P ((⟨AE,0,0⟩:AHeap).set 0 (.map (Eb (B8 es)) 0)) t (.map 0) k ok=E6 P ((⟨AE,0,0⟩:AHeap).set 0 (.map es 0)) t (.map 0) k ok:=by
 have h1:∀es',((⟨AE,0,0⟩:AHeap).set 0 (.map es' 0)).get 0=some (.map es' 0):=λes'=>by rfl
 unfold E6;split<;>try rfl
 split<;>try rfl
 split;unfold Mw;simp only [h1,nJ];simp only [h1,d9]
end
theorem zy {op:XOp} {ag:List AV} (ha:W5 T H o=some (op,ag)) {r:AV} (hr:op.run P (An Y.v ag)=some r) (hy:E.At Y) (st:St P B pr N E T H D a w):
  ∃E' n v w',(execOp a.eval o).run P w=.ok n w'/\(n=.value v\/(n=.skip/\v=undef))/\E.le E'/\St P B pr N E' T H D a w'/\Ac E' r v:=by
 unfold W5 at ha;split at ha
 case h_2=>cases ha
 rename_i t x ix ok ho;split at ha;cases ha;split at ha
 case h_2=>cases ha
 rename_i id hx;split at ha
 case h_3=>cases ha
 case h_2=>
  rename_i i hk;split at ha
  case h_2=>cases ha
  rename_i hso;cases ha;have hdi:Ac E (Ar E.sy (look T ix)) (a.eval ix):=(CZ hso (st.t.look ix)).con;have hcx:=st.t.look x;rw [hx]at hcx;simp only [An,XOp.run]at hr;split at hr
  case h_2=>cases hr
  rename_i nn z cs hiv;split at hr
  case h_2=>cases hr
  rename_i hz;have hz:=za' hz;subst hz;have hyi:Y.v i=some (.vsl nn 2 cs):=by
   grind [Ar]
  obtain ⟨es,clock,hrX,hfl,hlen⟩:=st.r.expandM hk (by rw [hy.v];exact hyi);have hgX:(H.set id (.map es clock)).get id=some (.map es clock):=AHeap.get_set_same H (AHeap.get_lt hk) _;rw [←hfl,uB,←oe (P:=P) (t:=t) (k:=Ar Y.v (look T ix)) (ok:=false) hgX,←hy.v]at hr;obtain ⟨v,h1,h2⟩:=kO hrX hcx hdi hr;refine ⟨E,.value v,v,w,?_,.inl rfl,Ag.le_refl E,st,h2⟩;simp_all [execOp]
 rename_i es c hk;split at ha
 case h_2=>cases ha
 rename_i hb;cases ha;obtain ⟨_,hso⟩:=Au hb;have hdi:Ac E (Ar E.sy (look T ix)) (a.eval ix):=(CZ hso (st.t.look ix)).con;have hcx:=st.t.look x;rw [hx]at hcx;simp only [An,XOp.run]at hr;rw [←oe (P:=P) (t:=t) (k:=Ar Y.v (look T ix)) (ok:=false) hk,←hy.v]at hr;obtain ⟨E',v,w',h1,h2,h3,h4⟩:=fb st.r hcx hdi hr;refine ⟨E',.value v,v,w',?_,.inl rfl,h2,⟨st.t.mono h2,h3,st.d.mono h2⟩,h4⟩;simp_all [execOp]
def cb {σ:Operand->Value} (hr0:As B pr E H w) (hσ:∀x,Ac E (look T x) (σ x)) {n id:Nat} {op:XOp} {ag:List AV} (ha:JS T H o=some (op,ag,id)) {r:AV} (hr:op.run P (An E.sy ag)=some r) (hok:okC r=true) (hn:E.sy n=some r):
  ∃w',(execOp σ o).run P w=.ok .skip w'/\As B pr E (H.set id (.syl n)) w':=by
 unfold JS at ha;split at ha
 case h_2=>cases ha
 rename_i t x y ho;split at ha
 case h_2=>cases ha
 rename_i id' j sz off hx;split at ha
 case h_2=>cases ha
 rename_i kr hk;split at ha
 case h_2=>cases ha
 rename_i hso;cases ha;have hc:=hσ x;rw [hx]at hc;have hcy:Ac E (Ar E.sy (look T y)) (σ y):=(CZ hso (hσ y)).con;simp only [An,XOp.run]at hr;split at hr
 case h_2=>cases hr
 rename_i len z cs hrow;split at hr
 case h_2=>cases hr
 rename_i kk q hj;split at hr
 case h_2=>cases hr
 rename_i p hp;split at hr
 case h_2=>cases hr
 rename_i cs' hcs';cases hr;have hpt:=ZG hc hj;obtain ⟨hr1,hlen⟩:=hr0.expand hk (SJ hrow);have hlt:=AHeap.get_lt hk;have hg:(H.set id (.cells cs)).get id=some (.cells cs):=AHeap.get_set_same H hlt _;have hev:EU P (H.set id (.cells cs)) t (.ptr id (q*sz+off)) (Ar E.sy (look T y))=some (.tup [],(H.set id (.cells cs)).set id (.cells cs'))/\cs'.length=cs.length:=by
  unfold EU at hp⊢;split at hp
  case h_2=>cases hp
  simp only at hp⊢;split at hp;cases hp;split at hp
  case h_2=>cases hp
  split at hp
  case h_2=>cases hp
  simp only [mU]at hp;split at hp<;>grind [AHeap.get_set_same,xE]
 obtain ⟨hev,hlen2⟩:=hev;obtain ⟨w',h1,h2⟩:=eF hr1 hpt hcy hev;have hokL:Ak cs'=true:=by grind [okC]
 have hg2:((H.set id (.cells cs)).set id (.cells cs')).get id=some (.cells cs'):=AHeap.get_set_same _ hlt _;have h4:=h2.collapse (n:=n) (len:=len) (sz:=z) hg2 (EP hokL) (by grind [EF]) (by grind [EF]) (by omega);refine ⟨w',?_,h4.sub_rows (λid' kb hk'=>?_) rfl rfl⟩;simp_all [execOp]
 grind [AHeap.get_set_same,AHeap.get_set_ne]
def th_ {id:Nat} {op:XOp} {ag:List AV} (ha:JS T H o=some (op,ag,id)):∃x y k j,ag=[.sym k,.sym j,look T y]/\(∃sz off,look T x=.ptx id j sz off)/\H.get id=some (.syl k):=by
 unfold JS at ha
 grind
def tD {k n id:Nat} {op:XOp} {ag:List AV} (ha:JS T H o=some (op,ag,id)) (hf:AA Y n) {r:AV} (hr:op.run P (An Y.v ag)=some r) (hok:okC r=true) (hy:E.At Y) (st:St P B pr N E T H D a w):
  ∃E' nx v w',(execOp a.eval o).run P w=.ok nx w'/\(nx=.value v\/(nx=.skip/\v=undef))/\E.leF k E'/\E'.At (Y.put n r)/\St P B pr N E' T (H.set id (.syl n)) D a w'/\Ac E' (.tup []) v:=by
 have hv:∀i x,E.sy i=some x->(Y.put n r).v i=some x:=λi x hx=>hf.sub_put _ i x (by rw [←hy.v];exact hx);have hll:∀i l,E.syl i=some l->(Y.put n r).l i=some l:=λi l hx=>by rw [hy.l]at hx;exact hx
 have hlo:∀i,i<64->(Y.put n r).v i=E.sy i:=λi hi=>by rw [hy.v];exact hf.low _ i hi
 have st1:=st.with hv hll hlo;obtain ⟨x,y,kr,j,rfl,⟨sz,off,hx⟩,hk⟩:=th_ ha;have hargs:An (E.with (Y.put n r)).sy [.sym kr,.sym j,look T y]=An Y.v [.sym kr,.sym j,look T y]:=by
  show An (Y.put n r).v _=_;have hcx:=st.t.look x;rw [hx]at hcx;have hj:∃q,E.sy j=some q:=by
   grind [Ac]
  have hkr:∃q,E.sy kr=some q:=by
   obtain ⟨own,g1,_⟩:=st.r.own;rcases g1 id _ hk with ⟨_,h⟩|⟨_,_,_,_,_,_,_,h,_⟩;exact ⟨_,h⟩
   grind
  obtain ⟨q1,hq1⟩:=hj;obtain ⟨q2,hq2⟩:=hkr;have e1:=hv _ _ hq1;have e2:=hv _ _ hq2;rw [hy.v]at hq1 hq2;simp only [An,Ar,e1,e2,hq1,hq2];rw [Vp hv (st.t.look y),hy.v]
 obtain ⟨w',h1,h2⟩:=cb (n:=n) st1.r (λx=>st1.t.look x) ha (by rw [hargs];exact hr) hok (Sy.put_same _ _ _);exact ⟨E.with (Y.put n r),.skip,undef,w',h1,.inr ⟨rfl,rfl⟩,Ag.with_leF k hlo,⟨rfl,rfl,hy.res⟩,⟨st1.t,h2,st1.d⟩,GG _⟩
def wL {k n id sz:Nat} {op:XOp} {ag:List AV} (ha:Yd P T H o=some (op,ag,id,sz)) (hf:AA Y n) {r:AV} (hr:op.run P (An Y.v ag)=some r) (hok:okC r=true) (hy:E.At Y) (st:St P B pr N E T H D a w):
  ∃E' nx v w',(execOp a.eval o).run P w=.ok nx w'/\(nx=.value v\/(nx=.skip/\v=undef))/\E.leF k E'/\E'.At (Y.put n r)/\St P B pr N E' T (H.set id (.syl n)) D a w'/\Ac E' (.slx id sz n) v:=by
 unfold Yd at ha;split at ha
 case h_2=>cases ha
 rename_i t x lo hi mx ho;split at ha
 case h_2=>cases ha
 rename_i h;split at ha
 case h_2=>cases ha
 rename_i id' sz' i hx;split at ha
 case h_2=>cases ha
 rename_i kr hk;split at ha
 case h_2=>cases ha
 rename_i e hd;split at ha
 case h_2=>cases ha
 rename_i ti hti;split at ha
 case h_2=>cases ha
 rename_i hb;cases ha;obtain ⟨hsz,hso⟩:=Au hb;have hsz:=za' hsz;have hcx:=st.t.look x;rw [hx]at hcx;have hdi:Ac E (Ar E.sy (look T h)) (a.eval h):=(CZ hso (st.t.look h)).con;have hv:∀i x,E.sy i=some x->(Y.put n r).v i=some x:=λi x hx=>hf.sub_put _ i x (by rw [←hy.v];exact hx);have hll:∀i l,E.syl i=some l->(Y.put n r).l i=some l:=λi l hx=>by rw [hy.l]at hx;exact hx
 have hlo:∀i,i<64->(Y.put n r).v i=E.sy i:=λi hi=>by rw [hy.v];exact hf.low _ i hi
 have fin:∀av,Ac E av (a.eval x)->∀(m:Nat) (kk:IntKind),Ar E.sy (look T h)=.int kk (.ofNat m)->∀q,DT P H t av none (some (.int kk (.ofNat m)))=some q->(∀E1:Ag,E.le E1->∀v,Ac E1 q v->Ac (E1.with (Y.put n r)) (.slx id sz n) v)->
   (∀(E1:Ag) (w1:World) own,E.le E1->BF E1 w1 own id (.syl kr)->BF (E1.with (Y.put n r)) w1 own id (.syl n))->
   ∃E' nx v w',(execOp a.eval o).run P w=.ok nx w'/\(nx=.value v\/(nx=.skip/\v=undef))/\E.leF k E'/\E'.At (Y.put n r)/\St P B pr N E' T (H.set id (.syl n)) D a w'/\Ac E' (.slx id sz n) v:=by
  intro av hav m kk hm q hq hcon hrow;rw [hm]at hdi;obtain ⟨E1,v,w',g1,g2,g3,g4⟩:=WQ (P:=P) (H:=H) st.r hav (lo:=none) (hi:=some (.int kk (.ofNat m))) (vlo:=none) (vhi:=some (a.eval h)) rfl ⟨_,rfl,hdi⟩ hq;have hy1:=hy.le g2;have hv1:∀i x,E1.sy i=some x->(Y.put n r).v i=some x:=λi x hx=>hv i x (by rw [←g2.1.2.2.2.1];exact hx);have hll1:∀i l,E1.syl i=some l->(Y.put n r).l i=some l:=λi l hx=>hll i l (by rw [←g2.1.2.2.2.2];exact hx);have hlo1:∀i,i<64->(Y.put n r).v i=E1.sy i:=λi hi=>(by rw [hlo i hi,g2.1.2.2.2.1]);have st1:St P B pr N (E1.with (Y.put n r)) T H D a w':=(⟨st.t.mono g2,g3,st.d.mono g2⟩:St P B pr N E1 T H D a w').with hv1 hll1 hlo1
  refine ⟨E1.with (Y.put n r),.value v,v,w',?_,.inl rfl,(g2.leF k).trans (Ag.with_leF k hlo1),⟨rfl,rfl,hy1.res⟩,⟨st1.t,?_,st1.d⟩,hcon E1 g2 v g4⟩;unfold execOp;simp_all
  ·
   have hlt:=AHeap.get_lt hk;obtain ⟨own,o1,o2⟩:=g3.own;refine { own:=⟨own,λid' k' hk'=>?_,o2⟩,imm:=st1.r.imm,ib:=st1.r.ib,fresh:=st1.r.fresh,resv:=st1.r.resv,vds:=st1.r.vds,szs:=st1.r.szs,prot:=st1.r.prot,size:=st1.r.size,os:=st1.r.os,output:=st1.r.output };by_cases e:id=id'
   .grind [AHeap.get_set_same]
   rw [AHeap.get_set_ne H hlt e]at hk';exact (o1 id' k' hk').withS hv1 hll1
 simp only [An,XOp.run]at hr;split at hr
 case h_2=>cases hr
 rename_i kk m hm;rw [←hy.v]at hm;split at hr
 .rename_i len z0 cs0 hxv;split at hr
  case h_2=>cases hr
  rename_i n' z cs hrow;split at hr
  case h_2=>cases hr
  rename_i hb2;split at hr
  case h_2=>cases hr
  rename_i cs' htk;cases hr;obtain ⟨hz2,hb2⟩:=Au hb2;have hz2:=za' hz2;obtain ⟨b1,b2⟩:=Au hb2;have b1:=zf' b1;rw [←hy.v]at hxv hrow;have hsi:E.sy i=some (.vsl len z0 cs0):=by
   grind [Ar]
  obtain ⟨rfl,hsl⟩:=Wi hsi hcx;have hsk:E.sy kr=some (.vsl n' z cs):=SJ hrow;obtain ⟨e1,e2⟩:=Ju htk;have hY:∀E1:Ag,(E1.with (Y.put n (.vsl m z cs'))).sy n=some (.vsl m z cs'):=λ_=>Sy.put_same _ _ _;refine fin _ hsl m kk hm (.sl id (0+0*z0) (m-0) z0 none) ?_ (λE1 hle v hcv=>?_) (λE1 w1 own hle hrw=>?_)
  .unfold DT;have hb1:EN none 0=some 0:=rfl;have hb3:EN (some (AV.int kk (Int.ofNat m))) len=some m:=rfl
   grind [Nat.ble_eq]
  .have e:z=z0:=hz2;subst e;refine zc (len:=m) (cs:=cs') (cap:=none) (hY E1) ?_;have:=hcv.with (Y:=Y.put n (.vsl m z cs')) (λi x hx=>hv i x (by rw [←hle.1.2.2.2.1];exact hx)) (λi l hx=>hll i l (by rw [←hle.1.2.2.2.2];exact hx))
   grind
  .obtain ⟨_,hv2⟩|⟨b,oo,h1,h2,len2,z2,cs2,h3,hlen,arr,tt,h4,h5,h6,h7⟩:=hrw;have hv2:E1.sy kr=some .nsl:=hv2;rw [hle.1.2.2.2.1,hsk]at hv2;cases hv2
   .rw [hle.1.2.2.2.1,hsk]at h3;cases h3;refine .inr ⟨b,oo,h1,h2,m,z,cs',hY E1,by rw [e2];rfl,arr,tt,h4,h5,?_,λi2 a2 ha2=>?_⟩
    .grind
    rw [e1,List.getElem?_take]at ha2;split at ha2;obtain ⟨u,k1,k2,k3⟩:=h7 i2 a2 ha2;exact ⟨u,k1,k2,k3.with⟩;cases ha2
 .rename_i hxv;split at hr
  case h_2=>cases hr
  rename_i hrow;split at hr
  case h_2=>cases hr
  cases hr;rw [←hy.v]at hxv hrow;have hsi:E.sy i=some .nsl:=by
   grind [Ar]
  have hsk:E.sy kr=some .nsl:=by
   grind [Ar]
  have hY:∀E1:Ag,(E1.with (Y.put n .nsl)).sy n=some .nsl:=λ_=>Sy.put_same _ _ _;have hxn:Ac E .nsl (a.eval x):=by
   grind [Ac]
  refine fin _ hxn 0 kk hm .nsl ?_ (λE1 hle v hcv=>?_) (λE1 w1 own hle hrw=>?_)
  .unfold DT;have hb1:EN none 0=some 0:=rfl;have hb3:EN (some (AV.int kk (Int.ofNat 0))) 0=some 0:=rfl
   grind
  .simp only [Ac]at hcv⊢
   grind
  obtain ⟨h1,_⟩|⟨b,oo,h1,h2,len2,z2,cs2,h3,_⟩:=hrw;exact .inl ⟨h1,hY E1⟩;rw [hle.1.2.2.2.1,hsk]at h3;cases h3
 cases hr
def yZ {k n id sz:Nat} {op:XOp} {ag:List AV} (ha:Wy P T H o=some (id,sz,op,ag)) (hf:AA Y n) {r:AV} (hr:op.run P (An Y.v ag)=some r) (hok:okC r=true) (hy:E.At Y) (st:St P B pr N E T H D a w):
  ∃E' nx v w',(execOp a.eval o).run P w=.ok nx w'/\(nx=.value v\/(nx=.skip/\v=undef))/\E.leF k E'/\E'.At (Y.put n r)/\St P B pr N E' T ((H.erase id).push (.syl n)) D a w'/\Ac E' (.slx H.next sz n) v:=by
 have hv:∀i x,E.sy i=some x->(Y.put n r).v i=some x:=λi x hx=>hf.sub_put r i x (by rw [←hy.v];exact hx);have hll:∀i l,E.syl i=some l->(Y.put n r).l i=some l:=λi l hx=>by rw [hy.l]at hx;exact hx
 have hlo:∀i,i<64->(Y.put n r).v i=E.sy i:=λi hi=>by rw [hy.v];exact hf.low r i hi
 have st1:=st.with hv hll hlo;have hn:(E.with (Y.put n r)).sy n=some r:=Sy.put_same _ _ _;have hy1:(E.with (Y.put n r)).At (Y.put n r):=⟨rfl,rfl,hy.res⟩;unfold Wy at ha;split at ha
 .rename_i t l c ho;split at ha
  case h_2=>cases ha
  rename_i i hi0;split at ha
  case h_2=>cases ha
  rename_i j hj0;split at ha
  case h_2=>cases ha
  rename_i hb;split at ha
  case h_2=>cases ha
  rename_i e hd;split at ha
  case h_2=>cases ha
  rename_i info hinf;split at ha
  case h_2=>cases ha
  rename_i z hz;split at ha
  case h_2=>cases ha
  rename_i hzl;cases ha;obtain ⟨hij,hroom⟩:=Au hb;have hij:=za' hij;subst hij;simp only [An,XOp.run]at hr;split at hr
  case h_2=>cases hr
  rename_i kk m hm;split at hr
  case h_2=>cases hr
  rename_i hb2;cases hr;obtain ⟨b1,b2⟩:=Au hb2;rw [←hy.v]at hm;have sy:∀x,look T x=.sym i->Ac (E.with (Y.put n (.vsl m info.size (CM (Ch z) m)))) (.int kk (.ofNat m)) (a.eval x):=λx hx=>by have hc:=st.t.look x;rw [hx]at hc;have:=(CZ (a:=.sym i) rfl hc).con;rw [hm]at this;exact this.with hv hll
  obtain ⟨r1,r2,r3⟩:=As.room hroom;have hev:Ot P H t (.int kk (.ofNat m)) (.int kk (.ofNat m))=some (.sl H.next 0 m info.size (some m),H.push (.cells (CM (Ch z) m))):=(by simp_all [Ot,Nat.ble_eq_true_of_le]);obtain ⟨E',v,w',g1,g2,g3,g4⟩:=eE st1.r (sy l hi0) (sy c hj0) hev;have hden:An (E.with (Y.put n (.vsl m info.size (CM (Ch z) m)))).sy (CM (Ch z) m)=CM (Ch z) m:=EF _ hok;have hc0:Ac E' (.sl H.next 0 m info.size none) v:=by
   grind [Ac]
  obtain ⟨k1,k2⟩:=JD (H0:=H) g2.1 g3 hc0 r2 (EP hok) (by rw [hden];exact hn) (by rw [hden];exact hok) (by
   grind [za',BW,JJ])
  have hsame:∀j k,((H.erase H.next).push (.syl n)).get j=some k->(H.push (.syl n)).get j=some k:=λj k hj=>by
   by_cases e:H.next=j
   .have e1:((H.erase H.next).push (.syl n)).get H.next=some (.syl n):=AHeap.get_push_same (H.erase H.next) r2 _
    grind [AHeap.get_push_same]
   .have e1:((H.erase H.next).push (.syl n)).get j=(H.erase H.next).get j:=AHeap.get_push_ne (H.erase H.next) r2 e _
    grind [AHeap.get_erase_ne,AHeap.get_push_ne]
  refine ⟨E',.value v,v,w',?_,.inl rfl,(Ag.with_leF k hlo).trans (g2.leF k),hy1.le g2,⟨st1.t.mono g2,k1.same hsame rfl rfl,st1.d.mono g2⟩,k2⟩;unfold execOp;simp_all
 .rename_i c ho;split at ha
  case h_2=>cases ha
  rename_i b hc;split at ha
  case h_2=>cases ha
  split at ha
  case h_2=>cases ha
  rename_i s x t tx h1 h2;split at ha
  case h_2=>cases ha
  rename_i hs0;split at ha
  case h_2=>cases ha
  rename_i i hi0;split at ha
  case h_2=>cases ha
  rename_i ik htx;split at ha
  case h_2=>cases ha
  rename_i hroom;split at ha
  case h_2=>cases ha
  rename_i e hd;split at ha
  case h_2=>cases ha
  rename_i info hinf;split at ha
  case h_2=>cases ha
  rename_i z hz;split at ha
  case h_2=>cases ha
  rename_i hzl;cases ha;simp only [An,XOp.run]at hr;split at hr
  case h_2=>cases hr
  rename_i kk m hm;split at hr
  case h_2=>cases hr
  rename_i hb2;cases hr;obtain ⟨b1,hb2⟩:=Au hb2;obtain ⟨b2,hb2⟩:=Au hb2;obtain ⟨b3,hb2⟩:=Au hb2;obtain ⟨b4,b5⟩:=Au hb2;rw [←hy.v]at hm;have sy:Ac (E.with (Y.put n (.vsl m info.size (CM (Ch z) m)))) (.int kk (.ofNat m)) (a.eval x):=by have hc:=st.t.look x;rw [hi0]at hc;have:=(CZ (a:=.sym i) rfl hc).con;rw [hm]at this;exact this.with hv hll
  have sn:Ac (E.with (Y.put n (.vsl m info.size (CM (Ch z) m)))) .nsl (a.eval s):=(by have hc:=st1.t.look s;rw [hs0]at hc;exact hc);obtain ⟨r1,r2,r3⟩:=As.room hroom;have hev:PI P H t tx .nsl (.int kk (.ofNat m))=some (.sl H.next 0 m info.size none,H.push (.cells (CM (Ch z) m))):=(by unfold PI Ga;simp only [hd,hinf,hz,htx,hzl,b1,b2,b3,b4,b5,hroom,Bool.and_self]);obtain ⟨E',v,w',g1,g2,g3,g4⟩:=jX (ty:=o.type) st1.r sn sy hev;have hden:An (E.with (Y.put n (.vsl m info.size (CM (Ch z) m)))).sy (CM (Ch z) m)=CM (Ch z) m:=EF _ hok
  obtain ⟨k1,k2⟩:=JD (H0:=H) g2.1 g3 g4 r2 (EP hok) (by rw [hden];exact hn) (by rw [hden];exact hok) (by
   grind [za',BW,JJ])
  have hsame:∀j k,((H.erase H.next).push (.syl n)).get j=some k->(H.push (.syl n)).get j=some k:=λj k hj=>by
   by_cases e:H.next=j
   .have e1:((H.erase H.next).push (.syl n)).get H.next=some (.syl n):=AHeap.get_push_same (H.erase H.next) r2 _
    grind [AHeap.get_push_same]
   .have e1:((H.erase H.next).push (.syl n)).get j=(H.erase H.next).get j:=AHeap.get_push_ne (H.erase H.next) r2 e _
    grind [AHeap.get_erase_ne,AHeap.get_push_ne]
  obtain ⟨callee,cargs,ctypes⟩:=c;have h1:=Dt h1;have h2:=Dt h2;subst hc h1 h2;refine ⟨E',.value v,v,w',?_,.inl rfl,(Ag.with_leF k hlo).trans (g2.leF k),hy1.le g2,⟨st1.t.mono g2,k1.same hsame rfl rfl,st1.d.mono g2⟩,k2⟩;unfold execOp
  grind [resolve,Sem.run_bind,Sem.run_pure,Result.andThen_ok,invoke,builtin]
 .rename_i t x lo hi mx ho;split at ha
  case h_2=>cases ha
  rename_i al;split at ha
  case h_2=>cases ha
  rename_i id' sz' i hx;split at ha
  case h_2=>cases ha
  rename_i kr hk;split at ha
  case h_2=>cases ha
  rename_i hb;split at ha
  case h_2=>cases ha
  rename_i e hd;split at ha
  case h_2=>cases ha
  rename_i ti hti;split at ha
  case h_2=>cases ha
  rename_i hb2;cases ha;obtain ⟨hij,hroom⟩:=Au hb;have hij:=za' hij;subst hij;obtain ⟨hsz,hso⟩:=Au hb2;have hsz:=za' hsz;simp only [An,XOp.run]at hr;split at hr
  case h_2=>cases hr
  rename_i len z cs hxv;split at hr
  case h_2=>cases hr
  rename_i kk m hm;split at hr
  case h_2=>cases hr
  rename_i hml;cases hr;have hml:=zf' hml;rw [←hy.v]at hxv hm;have hsi:=SJ hxv;have hcx:=st.t.look x;rw [hx]at hcx;obtain ⟨rfl,hsl⟩:=Wi hsi hcx;have hda:Ac (E.with (Y.put n (.vsl (Nat.sub len m) z (Bk (Nat.mul m z) cs)))) (.int kk (.ofNat m)) (a.eval al):=by have:=(CZ hso (st.t.look al)).con;rw [hm]at this;exact this.with hv hll
  have hsl1:Ac (E.with (Y.put n (.vsl (Nat.sub len m) z (Bk (Nat.mul m z) cs)))) (.sl id 0 len z none) (a.eval x):=hsl.with hv hll;have hsi1:(E.with (Y.put n (.vsl (Nat.sub len m) z (Bk (Nat.mul m z) cs)))).sy kr=some (.vsl len z cs):=hv _ _ hsi;obtain ⟨hrX,hcl⟩:=st1.r.expand hk hsi1;obtain ⟨r1,r2,r3⟩:=As.room hroom;have hid:=AHeap.get_lt hk;have hgetX:(H.set id (.cells cs)).get id=some (.cells cs):=AHeap.get_set_same H hid _;have hev:DT P (H.set id (.cells cs)) t (.sl id 0 len z none) (some (.int kk (.ofNat m))) none=some (.sl id (0+m*z) (len-m) z none):=(by unfold DT;have hb1:EN (some (AV.int kk (Int.ofNat m))) 0=some m:=rfl;have hb3:EN none len=some len:=rfl;simp_all [Nat.ble_eq_true_of_le]);obtain ⟨E',v,w',g1,g2,g3,g4⟩:=WQ (P:=P) hrX hsl1 (lo:=some (.int kk (.ofNat m))) (hi:=none) (vlo:=some (a.eval al)) (vhi:=none) ⟨_,rfl,hda⟩ rfl hev;simp only [okC]at hok;have hdl:(Bk (Nat.mul m z) cs).length=(len-m)*z:=by
   grind [Dh,Nat.sub_mul]
  simp only [Ac]at g4;obtain ⟨b,oo,nn,c,off',q1,q2,q3,q4,q5,q6,_⟩:=g4;obtain ⟨arr,t',f1,f2,f3,f4⟩:=g3.blk hgetX q1;have key:∃o' off2,o'+(Bk (Nat.mul m z) cs).length<=arr.size/\(∀(i:Nat) (x:AV),(Bk (Nat.mul m z) cs)[i]? =some x->∃u,arr[o'+i]? =some u/\Ac E' x u)/\v=.slice (some ⟨b,o'+off2,none⟩) (len-m) c/\(c≠0->off2=0)/\o'+0+c*z<=nn:=by
   by_cases hc:c=0
   .grind
   .refine ⟨oo+m*z,0,?_,λi x hx=>?_,?_,λ_=>rfl,by omega⟩<;>grind [Dh]
  obtain ⟨o',off2,e1,e2,e3,e4,e5⟩:=key;have hroomX:(H.set id (.cells cs)).room=true:=hroom;obtain ⟨p1,p2⟩:=g3.renew hroomX hgetX q1 f1 e1 e2;have hle:(E.with (Y.put n (.vsl (Nat.sub len m) z (Bk (Nat.mul m z) cs)))).le (E'.bind H.next b o'):=Ag.le_trans g2 p1;have hcon2:Ac (E'.bind H.next b o') (.sl H.next 0 (len-m) z none) v:=(by exact ⟨b,o',nn,c,off2,by simp [Ag.bind],p1.1.2.1 _ _ q2,e3,e4,q5,e5,λk hk=>by cases hk⟩);have hden:An (E.with (Y.put n (.vsl (Nat.sub len m) z (Bk (Nat.mul m z) cs)))).sy (Bk (Nat.mul m z) cs)=Bk (Nat.mul m z) cs:=EF _ hok;obtain ⟨k1,k2⟩:=JD (H0:=(H.set id (.cells cs)).erase id) hle.1 p2 hcon2 r2 (EP hok) (by rw [hden];exact hn) (by grind) hdl;have hsame:∀j k,((H.erase id).push (.syl n)).get j=some k->(((H.set id (.cells cs)).erase id).push (.syl n)).get j=some k:=λj k hj=>by
   by_cases e:H.next=j
   .have e1:((H.erase id).push (.syl n)).get H.next=some (.syl n):=AHeap.get_push_same (H.erase id) r2 _;have e2:(((H.set id (.cells cs)).erase id).push (.syl n)).get H.next=some (.syl n):=AHeap.get_push_same ((H.set id (.cells cs)).erase id) r2 _
    grind
   .have e1:((H.erase id).push (.syl n)).get j=(H.erase id).get j:=AHeap.get_push_ne (H.erase id) r2 e _;have e2:(((H.set id (.cells cs)).erase id).push (.syl n)).get j=((H.set id (.cells cs)).erase id).get j:=AHeap.get_push_ne ((H.set id (.cells cs)).erase id) r2 e _
    grind [AHeap.get_erase_same,AHeap.get_erase_ne,AHeap.get_set_ne]
  refine ⟨E'.bind H.next b o',.value v,v,w',?_,.inl rfl,(Ag.with_leF k hlo).trans (hle.leF k),hy1.le hle,⟨st1.t.mono hle,k1.same hsame rfl rfl,st1.d.mono hle⟩,k2⟩;unfold execOp;simp_all
 cases ha
end
end Go.Sx
