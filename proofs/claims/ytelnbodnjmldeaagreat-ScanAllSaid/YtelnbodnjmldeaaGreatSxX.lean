/-
  Regions whose order is open are sound; so are calls to any depth, and a run that answers true.
-/
import Derived.Test.YtelnbodnjmldeaaGreatSxM
import Derived.RowKit3
import Derived.Laws.Externs
import Derived.Lib.IndexEntry
set_option linter.all false
open Nat renaming le_refl→za',eq_of_beq_eq_true→zb',lt_of_lt_of_le→zc',le_trans→zg',beq_refl→zh'
open List renaming mem_cons_self→zd',mem_cons_of_mem→ze',append_nil→zf'
namespace Go.Sx
variable [Gl]
section
variable {P:Program} {call:AL} {N:Nat} {Af:List Oper} {l:List SI} {T0:Tm} {base:Nat}
omit [Gl]in
def pZ {i:Nat} {x:SI} (hx:l[i]? =some x):DW l base (i+1)=match x.kd with| .mem=>Nat.succ (DW l base i)|_=>DW l base i:=by
 grind [DW,Ro]
def Y3 (hP:AG Af l):∀(rest:List SI) (i id:Nat) (s s':DS) (ev0:Nat->Cr),(∀k,rest[k]? =l[i+k]?)->Cz P call N Af l T0 base i ev0 s->id=DW l base i->
  K9 P call N Af rest i id s=some s'->∃ev,Cz P call N Af l T0 base (i+rest.length) ev s'
 |[],i,id,s,s',ev0,hrest,inv,hid,h=>by cases h;grind
 |x::r,i,id,s,s',ev0,hrest,inv,hid,h=>by
  have hx:l[i]? =some x:=(by have:=hrest 0;grind);unfold K9 at h;split at h;cases h
  .rename_i s1 h1;have hr:∀k,r[k]? =l[i+1+k]? :=λk=>by
    have:=hrest (k+1)
    grind
   obtain ⟨e,he⟩:=vT hP inv hx hid hr h1;have inv1:=he (λj=>if j=i then e else ev0 j) (λj hj=>Ab (by omega)) (Ad rfl);have hid':=pZ (base:=base) hx;have el:i+(x::r).length=i+1+r.length:=(by simp;omega);rw [el];split at h;rename_i hk;rw [hk]at hid';exact Y3 hP r (i+1) (Nat.succ id) s1 s' _ hr inv1 (by rw [hid',hid]) h
   .rename_i hk;refine Y3 hP r (i+1) id s1 s' _ hr inv1 ?_ h;rw [hid',hid];cases hkd:x.kd<;>first|rfl|exact absurd hkd hk
def rm (hP:AG Af l) {ev:Nat->Cr} {s:DS} (inv:Cz P call N Af l T0 base l.length ev s) (hr:T6 P s.Gs s.rd=true):Fc P call N Af l ev T0 (DW l base) s.Gs s.dead where
 each:=λi x hx=>by
  have hi:i<l.length:=(List.getElem?_eq_some_iff.1 hx).1;rcases inv.each i x hx hi with h|⟨u,R,h1,h2,h3⟩;exact .inl h
  .refine .inr ⟨u,R,h1,h2,?_⟩;generalize ev i=e at h3;cases h3 with
   |off hg hw=>exact .off hg hw
   |pure hg hk h=>exact .pure hg hk h
   |read hg hk g1 h hm=>
    refine .read hg hk λm G q1 q2 q3=>?_;by_cases e:m=x.lo
    .grind
    exact oY s.rd hr _ hm m G (by grind) q2 q3
   |fl hg hk hy hj hbit hno hlater ht h=>exact .fl hg hk hy hj hbit hno hlater ht h
   |mem hg hk h hb=>exact .mem hg hk h hb
   |wr hg hk h1 h2 ht h=>exact .wr hg hk h1 h2 ht h
   |die hg hk h1 ht hd h=>exact .die hg hk h1 ht hd h
 dead:=λd v H hd=>(inv.gsd d v H hd).1
 row:=λj y a id b hy he=>inv.row j y a id b hy (List.getElem?_eq_some_iff.1 hy).1 he
 inj:=λi j x y hx hy kx ky h=>nP_ hx hy kx ky h
end
def ve {P:Program} {call:AL} {N:Nat} {Af:List Oper} {x:SI} {rest:List SI} {i id:Nat} {s s':DS} (h:Pg P call N Af x rest i id s=some s'):∃gs,s'.Gs=s.Gs++gs:=by
 unfold Pg at h;split at h;simp_all
 .split at h;cases h
  .split at h;cases h
   .split at h
    .unfold YS at h;repeat' split at h
     all_goals first|(cases h;done)|(cases h;exact ⟨_,Hw _ _⟩)|(cases h;exact ⟨[],(zf' _).symm⟩)
    .unfold Xr at h;repeat' split at h
     all_goals first|(cases h;done)|(cases h;exact ⟨_,Hw _ _⟩)|(cases h;exact ⟨[],(zf' _).symm⟩)
theorem iV {P:Program} {call:AL} {N:Nat} {Af:List Oper}:∀{rest:List SI} {i id:Nat} {s s':DS},K9 P call N Af rest i id s=some s'->∃gs,s'.Gs=s.Gs++gs
 |[],i,id,s,s',h=>by cases h;simp_all
 |x::r,i,id,s,s',h=>by
  unfold K9 at h;split at h;cases h
  .rename_i s1 h1;obtain ⟨g1,e1⟩:=ve h1;split at h;all_goals
    obtain ⟨g2,e2⟩:=iV h;exact ⟨g1++g2,by rw [e2,e1,List.append_assoc]⟩
theorem zK {P:Program} {call:AL} {N:Nat} {Af:List Oper} {rest:List SI} {i id:Nat} {T:Tm} {G:AHeap} {s':DS} (h:K9 P call N Af rest i id ⟨T,[G],[],[],none⟩=some s'):s'.Gs[0]? =some G:=by
 grind [iV]
def US {P:Program} (hm:P.follows .mixedOrders=true) {call:AL} (hcall:Cj P call) (N:Nat):Oh P N call:=by
 intro id Af T H D r h B pr E a w st;unfold O3 at h;split at h;cases h
 .rename_i l n hpl;obtain ⟨hP,hn⟩:=bo hpl;split at h;cases h
  .rename_i hroom;have hroom:H.next+n<=H.hi:=by simp_all
   split at h;cases h
   .rename_i s hrun
    have inv0:Cz P call N Af.toList l T (H.hi-n) 0 (λ_=>.gone) ⟨T,[⟨H.tr,H.next,H.hi-n⟩],[],[],none⟩:={
     slot:=λt ht=>.inl ⟨rfl,λj x _ hs=>by simp at hs⟩
     gs:=λ_=>by
      grind [Dr,UZ]
     gsd:=λd v H hd=>by cases hd
     fl:=λf hf=>by simp at hf
     each:=λj x _ hj=>by omega
     row:=λj y a id b _ hj=>by omega
     ft:=λf hf=>by simp at hf }
    obtain ⟨ev,inv⟩:=Y3 hP l 0 (H.hi-n) _ s _ (λk=>by grind) inv0 (by simp [DW,Fj]) hrun;rw [Nat.zero_add]at inv;split at h;cases h
    .rename_i hre;have F:=rm hP inv hre;have hidr:∀(j:Nat) (x:SI),l[j]? =some x->x.kd=.mem->H.next<=DW l (H.hi-n) j/\DW l (H.hi-n) j<H.hi/\H.hi-n<=DW l (H.hi-n) j:=λj x hx hk=>by
      have h1:=Ro l j x hx
      grind [au,DW]
     have h0:∀(j:Nat) (x:SI),l[j]? =some x->x.kd=.mem->¬E.res (DW l (H.hi-n) j):=λj x hx hk hres=>(by obtain ⟨g1,g2,_⟩:=hidr j x hx hk;exact (st.r.resv _ hres).2 ⟨g1,g2⟩);have hres0:∀id,Et E l (DW l (H.hi-n)) (λj=>(Array.replicate Af.size false).getD j false) id->E.φ id=none/\¬(H.next<=id/\id<H.hi-n):=λid hid=>by
      rcases hid with hid|⟨j,x,hx,_,hk,rfl⟩
      .obtain ⟨g1,g2⟩:=st.r.resv id hid
       grind
      obtain ⟨g1,g2,g3⟩:=hidr j x hx hk;exact ⟨st.r.fresh _ g1 g2,λhx=>by omega⟩
     have hempty:∀j,(Array.replicate Af.size false).getD j false=false:=λj=>(by rw [Array.getD_eq_getD_getElem?,Array.getElem?_replicate];split<;>rfl);have invS:I8 P B pr N E D Af.toList l ev T (DW l (H.hi-n)) s.Gs (λj=>(Array.replicate Af.size false).getD j false) a { w with drawn:=w.drawn+1 }:=by
      refine ⟨E.withRes _,⟨H.tr,H.next,H.hi-n⟩,⟨H.tr,H.next,H.hi-n⟩,{ sub:=Ag.sub_withRes _ _,res:=rfl,bim:=rfl,vd:=rfl,vd0:=st.r.vds,gl:=st.t.gl,size:=st.t.size,dfs:=st.d,slot:=?_,g:=?_,r:=?_,nx:=rfl,hi:=rfl,old:=λ_ _ h=>h,row:=?_ }⟩;intro t ht;exact ⟨Ao T t,.inl ⟨rfl,λj x _ hs=>Bool.noConfusion ((hempty j).symm.trans hs)⟩,(st.t.con t ht).sub (Ag.sub_withRes _ _)⟩
      .grind [UZ,zK]
      have h1:As B pr E ⟨H.tr,H.next,H.hi-n⟩ { w with drawn:=w.drawn+1 }:=(st.r.drawn _).forget (H':=⟨H.tr,H.next,H.hi-n⟩) (λid k hk=>hk) (za' _) (by grind);exact h1.reres hres0 (λid h=>.inl (st.r.vds id h))
      grind
     refine wp_region_any hm ?_;have hcl0:Cl l ev (λj=>(Array.replicate Af.size false).getD j false):=⟨λi hi=>Bool.noConfusion ((hempty i).symm.trans hi),λi hi=>Bool.noConfusion ((hempty i).symm.trans hi),λi x j _ hi=>Bool.noConfusion ((hempty i).symm.trans hi)⟩;cases hdd:s.dead with
     |some p=>
      obtain ⟨d,v,H'⟩:=p;rw [hdd]at h;simp only at h;split at h
      .rename_i T' hT';cases h;refine fQ hcall hP st.t.le F h0 (n9 l T T' hT') (λd' v' H'' hd'=>by grind) (λS a w inv' hcl hall=>?_) Af.size _ a _ (by simp) ?_ hcl0 invS;have hd1:=(inv.gsd d v H' hdd);exact absurd hd1.1 (hcl.ev d (hall d hd1.2.1)).2
       grind
      cases h
     |none=>
      rw [hdd]at h;simp only at h;split at h
      .rename_i G hG;cases h;refine fQ (T':=AP) hcall hP st.t.le F h0 (λt _=>.inl (K2 t)) (λd' v' H'' hd'=>by grind) (λS a w inv' hcl hall=>?_) Af.size _ a _ (by simp) ?_ hcl0 invS
       .obtain ⟨E',G',K,inv'⟩:=inv';have hS:∀j x,l[j]? =some x->S j=decide (j<l.length):=λj x hj=>by
         grind
        have hGG:G'=G:=by
         have h1:=inv'.g;have h2:CQ S Af.toList 0=Dr Af.toList l.length:=by
          refine RW _ _ λj o ho hw=>?_
          grind [Si]
         rw [Wa,inv.gs hdd]at hG
         grind
        subst hGG;obtain ⟨t1,t2,t3⟩:=jL s.fl G' inv.ft;have hsub:∀id k,(MM s.fl G').get id=some k->K.get id=some k:=λid k hk=>by rcases t3 id k hk with hk|⟨f,hf,rfl,rfl⟩;exact inv'.old id k hk;obtain ⟨y,q,f1,f2,f3,f4⟩:=inv.fl f hf;exact (inv'.row f.op y q f.id f.b f1 f3 (hall _ f2) λk' y' q' g1 g2 g3=>f4 k' y' q' g1 ((List.getElem?_eq_some_iff.1 g1).1) g3).1
        have hr1:As B pr E' (MM s.fl G') w:=inv'.r.forget hsub (by rw [t1,inv'.nx];grind) (by rw [t2,inv'.hi];grind);have hs:=Ag.sub_withRes E' E.res;refine ⟨E'.withRes E.res,⟨Ag.sub_trans inv'.sub hs,rfl,inv'.bim,inv'.vd⟩,rfl,?_,?_,?_⟩;refine ⟨inv'.size,st.t.le,λt ht=>?_,(st.t.gl.sub inv'.sub).sub hs⟩;obtain ⟨q,q1,q2⟩:=inv'.slot t ht;have q3:=(inv.slot t ht).congr (S':=S) λj x hj _=>(hS j x hj).symm;rw [q3.unique q1];exact q2.sub hs;refine hr1.reres (λid hid=>?_) (λid h=>st.r.vds id (by rw [←inv'.vd];exact h));have:=inv'.r.resv id (by rw [inv'.res];exact .inl hid);rw [t1,t2,←inv'.nx,←inv'.hi];exact this;exact inv'.dfs.sub (Ag.sub_trans inv'.sub hs)
       grind
      cases h
def EM (P:Program):Prop:=∀(f:FuncId) (ag:List AV) (v:AV) (H:AHeap),Gl.ov f ag H=some v->∀(B:World) (pr:Nat->Prop) (E:Ag) (w:World) (vs:List Value),BQ E->As B pr E H w->Ah E ag vs->
    Calls P f ⟨vs⟩ w (B4 B pr E (.ret v H))
def LF {P:Program} (hm:P.follows .mixedOrders=true) (ho:EM P):∀n,Cj P (CL P n)
 |0=>λf ag H r h=>by cases h
 |n+1=>λf ag H r h=>by unfold CL at h;split at h;rename_i v hv;cases h;exact ho f ag v H hv;exact rr (LF hm ho n) (λN=>US hm (LF hm ho n) N) n f ag H r h
def E0:Ag:=⟨λ_=>none,λ_=>none,λ_ _=>none,λ_=>False,λ_ _=>none,λ_=>none,λ_=>none,λ_=>False⟩
omit [Gl]in
def Xy {id:Nat} {k:A2} (hk:H0.get id=some k):False:=by
 grind [OZ,AHeap.get,H0]
def JF (im:Nat->Nat->Option Value):Ag:=⟨λ_=>none,λ_=>none,im,λ_=>False,im,λ_=>none,λ_=>none,λ_=>False⟩
omit [Gl]in
def vn_ (w:World) (im:Nat->Nat->Option Value) (hi:∀b o v,im b o=some v->w.cell? ⟨b,o,none⟩=some v):As w (λb=>b<w.heap.size) (JF im) H0 w where
 own:=⟨λ_=>none,λid k hk=>(Xy hk).elim,λ_ _=>rfl,λ_ _ _ _=>rfl⟩
 imm:=hi
 ib:=λ_ _ _ _ h=>h
 fresh:=λ_ _ _=>rfl
 resv:=λ_ h=>h.elim
 vds:=λ_ h=>h.elim
 szs:=λ_ _ h=>by cases h
 prot:=λb h=>⟨h,rfl⟩
 size:=za' _
 os:=rfl
 output:=rfl
def GrownB (W w':World):Prop:=W.keptBut w' (λ_=>False)/\(∀a,a.block<W.heap.size->w'.frozen? a=W.frozen? a)/\W.heap.size<=w'.heap.size
omit [Gl]in
def wA {w w':World} (h1:w.heap.size<=w'.heap.size) (h2:∀b,b<w.heap.size->w'.heap[b]? =w.heap[b]?) (h3:w'.os=w.os) (h4:w'.output=w.output):GrownB w w':=by
 refine ⟨⟨h3,h4,λi hi=>?_⟩,λa ha=>by grind [World.frozen?],h1⟩
 grind
end Go.Sx
namespace Go.Sx
def Ig (f:AV->Option AV):List AV->Option (List AV)
 |[]=>some []
 |a::r=>match f a with
  |some b=>match Ig f r with
   |some l=>some (b::l)
   |none=>none
  |none=>none
def Fe:Nat->AHeap->AV->Option AV
 |0,_,_=>none
 |n+1,H,a=>match a with
  | .sl id off len sz _=>match H.get id with
    |some (.cells cs)=>match CJ (Nat.mul len sz) (Bk off cs)with
     |some l=>match Ig (Fe n H) l with
      |some l'=>some (.vsl len sz l')
      |none=>none
     |none=>none
    |_=>none
  | .ptr id off=>match H.get id with
    |some (.cells cs)=>match Ig (Fe n H) (Bk off cs)with
     |some l'=>match l' with
      |[]=>none
      |_=>some (.vptr l')
     |none=>none
    |_=>none
  | .map _=>none
  | .slx id _ i=>match H.get id with
    |some (.syl j)=>match Nat.beq j i with
     |true=>some (.sym i)
     |false=>none
    |_=>none
  | .ptx _ _ _ _=>none
  | .vptr cs=>match Ig (Fe n H) cs with
    |some l'=>some (.vptr l')
    |none=>none
  | .vsl len sz cs=>match Ig (Fe n H) cs with
    |some l'=>some (.vsl len sz l')
    |none=>none
  | .fn f cs=>match Ig (Fe n H) cs with
    |some l'=>some (.fn f l')
    |none=>none
  | .agg cs=>match Ig (Fe n H) cs with
    |some l'=>some (.agg l')
    |none=>none
  | .tup cs=>match Ig (Fe n H) cs with
    |some l'=>some (.tup l')
    |none=>none
  | .iface t a=>match Fe n H a with
    |some b=>some (.iface t b)
    |none=>none
  |a=>some a
section
variable {B:World} {pr:Nat->Prop} {E:Ag} {H:AHeap} {w:World}
theorem Pc (nx hi id:Nat):(⟨AE,nx,hi⟩:AHeap).get id=none:=by
 grind [AHeap.get_of_lt,OZ,AHeap.get_of_ge]
def As.freezeS (h:As B pr E H w) {F H':AHeap} (hF:∀id k,F.get id=some k->H.get id=some k) (hH:∀id k,H'.get id=some k->H.get id=some k/\F.get id=none) (hn:H'.next=H.next) (hh:H'.hi=H.hi):
  ∃E',E.sub E'/\E'.φ=E.φ/\E'.res=E.res/\E'.bim=E.bim/\E'.vd=E.vd/\As B pr E' H' w/\
  ∀id k b o,F.get id=some k->E.φ id=some (b,o)->∀i v,w.cell? ⟨b,i,none⟩=some v->E'.imm b i=some v:=by
 obtain ⟨own,g1,g2,g3⟩:=h.own
 let im:Nat->Nat->Option Value:=λb o=>match own b with
  |some id=>match F.get id with
   |some _=>w.cell? ⟨b,o,none⟩
   |none=>E.imm b o
  |none=>E.imm b o
 have him:∀b o v,im b o=some v->w.cell? ⟨b,o,none⟩=some v:=λb o v hv=>by
  simp only [im]at hv;split at hv
  .grind
  exact h.imm b o v hv
 have hsub:E.sub { E with imm:=im }:=⟨λ_ _ h=>h,λ_ _ h=>h,λb o v hv=>by
  grind,rfl,rfl⟩
 refine ⟨{ E with imm:=im },hsub,rfl,rfl,rfl,rfl,?_,λid k b o hk hφ i v hv=>?_⟩
 .refine { own:=⟨λb=>match own b with
    |some id=>match F.get id with
     |some _=>none
     |none=>some id
    |none=>none,λid k hk=>?_,λb hb=>?_,λb o v hv=>?_⟩,imm:=him,ib:=λb o v hb hv=>?_,fresh:=λid e1 e2=>h.fresh id (hn▸e1) (hh▸e2),resv:=λid hi=>by rw [hn,hh];exact h.resv id hi,vds:=h.vds,szs:=h.szs,prot:=h.prot,size:=h.size,
           os:=h.os,output:=h.output }
  obtain ⟨q1,q2⟩:=hH id k hk;exact (g1 id k q1).imp (λ_ h=>h) (λh=>h) λb o e1 e2 e3=>⟨by grind,e3.sub hsub rfl⟩
  .grind
  .grind
  simp only [im,g2 b hb]at hv;exact h.ib b o v hb hv
 .obtain ⟨hv1,_⟩|⟨b',o',e1,e2,_⟩:=g1 id _ (hF id k hk);rw [(h.resv id (h.vds id hv1)).1]at hφ;cases hφ
  grind
def As.freeze (h:As B pr E H w):∃E',E.sub E'/\E'.φ=E.φ/\E'.res=E.res/\E'.bim=E.bim/\E'.vd=E.vd/\As B pr E' ⟨AE,H.next,H.hi⟩ w/\
  ∀id k b o,H.get id=some k->E.φ id=some (b,o)->∀i v,w.cell? ⟨b,i,none⟩=some v->E'.imm b i=some v:=
 h.freezeS (F:=H) (H':=⟨AE,H.next,H.hi⟩) (λ_ _ h=>h) (λid k hk=>by grind [Pc]) rfl rfl
def iQ {E':Ag} {f:AV->Option AV} (hf:∀a a' v,f a=some a'->Ac E a v->Ac E' a' v):∀{l l':List AV} {vs:List Value},Ig f l=some l'->Ah E l vs->Ah E' l' vs
 |[],l',vs,h,hc=>by
  grind [Ig,Ah]
 |a::r,l',vs,h,hc=>by unfold Ig at h;split at h;rename_i b hb;split at h;rename_i l hl;cases h;obtain ⟨v,rest,rfl,h1,h2⟩:=hc;exact ⟨v,rest,rfl,hf _ _ _ hb h1,iQ hf hl h2⟩;cases h;cases h
def kW {E:Ag}:∀{as:List AV} {vs:List Value},vs.length=as.length->(∀(i:Nat) (a:AV) (v:Value),as[i]? =some a->vs[i]? =some v->Aj E a v)->AB E as vs
 |[],vs,hl,_=>by grind [AB]
 |a::as,vs,hl,h=>by
  cases vs with
  |nil=>simp at hl
  |cons v r=>exact ⟨v,r,rfl,h 0 a v rfl rfl,kW (by grind) (λi a v h1 h2=>h (i+1) a v (by grind) (by grind))⟩
def Rt (hr:As B pr E H w) {F:AHeap} (hF:∀id k,F.get id=some k->H.get id=some k) {E':Ag} (hs:E.sub E')
  (him:∀id k b o,F.get id=some k->E.φ id=some (b,o)->∀i v,w.cell? ⟨b,i,none⟩=some v->E'.imm b i=some v):∀(n:Nat) (a a':AV) (v:Value),Fe n F a=some a'->Ac E a v->Ac E' a' v
 |0,a,a',v,h,hc=>by cases h
 |n+1,a,a',v,h,hc=>by
  have ih:=λ{l l':List AV} {vs:List Value}=>iQ (E:=E) (E':=E') (f:=Fe n F) (Rt hr hF hs him n) (l:=l) (l':=l') (vs:=vs);have row:∀(id off m:Nat) (cs l:List AV) (b o:Nat),F.get id=some (.cells cs)->E.φ id=some (b,o)->l=(cs.drop off).take m->∃vs,Ah E l vs/\B1 E' b (o+off) vs:=by
   intro id off m cs l b o hk hφ hl;obtain ⟨arr,t,e1,e2,e3,e4⟩:=hr.blk (hF _ _ hk) hφ;refine ⟨(arr.toList.drop (o+off)).take l.length,Ah.of_at ?_ ?_,λi u hu=>?_⟩
   .grind
   .grind
   grind [World.cell?]
  unfold Fe at h;split at h
  ·
   rename_i id off len sz cap;split at h
   .rename_i cs hk;split at h
    .rename_i l hl;split at h
     .rename_i l' hl';cases h;simp only [Ac]at hc⊢;obtain ⟨b,o,nn,c,off',h1,h2,rfl,h4,h5,h6,h7⟩:=hc;obtain ⟨q1,q2⟩:=Ju hl;rw [Dh]at q1;obtain ⟨vs,v1,v2⟩:=row id off _ cs l b o hk h1 q1;by_cases hc0:c=0
      .have hlen:len=0:=(by omega);subst hlen;have:l=[]:=by
        grind
       subst this;cases hl';exact ⟨b,o+off',[],c,rfl,h5,by simp [Ah],λi u hu=>by simp at hu⟩
      grind
     cases h
    cases h
   cases h
  ·
   rename_i id off;split at h
   .rename_i cs hk;split at h
    .rename_i l' hl';split at h;cases h
     .cases h;simp only [Ac]at hc⊢;obtain ⟨b,o,h1,rfl⟩:=hc;rw [Dh]at hl';obtain ⟨vs,v1,v2⟩:=row id off (cs.drop off).length cs (cs.drop off) b o hk h1 (by grind)
      grind
    cases h
   cases h
  cases h
  ·
   rename_i id sz i;split at h
   .rename_i j hk;split at h
    .rename_i hji;cases h;have hji:=zb' hji;subst hji;obtain ⟨a,ha,hc⟩:=hc;rcases hc with ⟨rfl,rfl⟩|⟨len,cs,rfl,b,o,nn,c,off',h1,h2,rfl,h4,h5,h6⟩;exact ⟨.nsl,by rw [hs.2.2.2.1];exact ha,rfl,by simp [Aj]⟩
     .refine ⟨_,by rw [hs.2.2.2.1];exact ha,rfl,?_⟩;obtain ⟨len',sz',cs',e,hlen,arr,t,f1,f2,f3,f4⟩:=hr.blk (hF _ _ hk) h1 (by
       show ¬E.sy j=some .nsl
       grind)
      rw [ha]at e;cases e;by_cases hc0:c=0;have hl0:len=0:=(by omega);have:cs=[]:=List.eq_nil_of_length_eq_zero (by grind);subst this;exact ⟨b,o+off',[],c,rfl,h5,by simp [AB],λi u hu=>by simp at hu⟩
      .rw [h4 hc0,Nat.add_zero];refine ⟨b,o,(arr.toList.drop o).take cs.length,c,rfl,h5,?_,λq u hu=>?_⟩
       .refine kW ?_ λq x u hx hu=>?_
        .grind
        obtain ⟨u',k1,_,k2⟩:=f4 q x hx;rw [List.getElem?_take]at hu;split at hu;rw [List.getElem?_drop,Array.getElem?_toList,k1]at hu;cases hu;exact k2.sub hs;cases hu
       grind [World.cell?]
    cases h
   cases h
  cases h;split at h;rename_i l' hl';cases h;obtain ⟨b,o,vs,rfl,h2,h3⟩:=hc;exact ⟨b,o,vs,rfl,ih hl' h2,h3.sub hs⟩;cases h;split at h;rename_i l' hl';cases h;obtain ⟨b,o,vs,c,rfl,h1,h2,h3⟩:=hc;exact ⟨b,o,vs,c,rfl,h1,ih hl' h2,h3.sub hs⟩;cases h
  .split at h
   .cases h;simp only [Ac]at hc⊢
    grind
   cases h
  .split at h
   .cases h;simp only [Ac]at hc⊢
    grind
   cases h
  .split at h
   .cases h;simp only [Ac]at hc⊢
    grind
   cases h
  split at h;rename_i b hb;cases h;obtain ⟨u,rfl,h2⟩:=hc;exact ⟨u,rfl,Rt hr hF hs him n _ _ _ hb h2⟩;cases h;cases h;exact hc.sub hs
def d7 (hr:As B pr E H w) {E':Ag} (hs:E.sub E')
  (him:∀id k b o,H.get id=some k->E.φ id=some (b,o)->∀i v,w.cell? ⟨b,i,none⟩=some v->E'.imm b i=some v) (n:Nat) (a a':AV) (v:Value) (h:Fe n H a=some a') (hc:Ac E a v):Ac E' a' v:=
 Rt hr (λ_ _ h=>h) hs him n a a' v h hc
end
mutual
theorem Js {E E':Ag} (hi:∀b o v,E.imm b o=some v->E'.imm b o=some v):∀{a:AV} {v:Value},Aj E a v->Aj E' a v
 | .opq,_,hc=>by simp [Aj]at hc
 | .bool _,_,hc=>by grind [Aj]
 | .int _ _,_,hc=>by grind [Aj]
 | .flt _ _,_,hc=>by grind [Aj]
 | .nan _,_,hc=>by grind [Aj]
 | .str _,_,hc=>by grind [Aj]
 | .nptr,_,hc=>by grind [Aj]
 | .ptr _ _,_,hc=>by simp [Aj]at hc
 | .vptr cs,v,hc=>by obtain ⟨b,o,vs,h1,h2,h3⟩:=hc;exact ⟨b,o,vs,h1,I9 hi h2,λi u hu=>hi _ _ _ (h3 i u hu)⟩
 | .nsl,_,hc=>by grind [Aj]
 | .sl ..,_,hc=>by simp [Aj]at hc
 | .vsl _ _ cs,v,hc=>by obtain ⟨b,o,vs,c,h1,h2,h3,h4⟩:=hc;exact ⟨b,o,vs,c,h1,h2,I9 hi h3,λi u hu=>hi _ _ _ (h4 i u hu)⟩
 | .nmap,_,hc=>by grind [Aj]
 | .map _,_,hc=>by simp [Aj]at hc
 | .nfn,_,hc=>by grind [Aj]
 | .fn f cap,v,hc=>by simp only [Aj]at hc⊢;obtain ⟨vs,h1,h2⟩:=hc;exact ⟨vs,h1,I9 hi h2⟩
 | .nif,_,hc=>by grind [Aj]
 | .iface t a,v,hc=>by simp only [Aj]at hc⊢;obtain ⟨u,h1,h2⟩:=hc;exact ⟨u,h1,Js hi h2⟩
 | .agg cs,v,hc=>by simp only [Aj]at hc⊢;obtain ⟨vs,h1,h2⟩:=hc;exact ⟨vs,h1,I9 hi h2⟩
 | .tup cs,v,hc=>by simp only [Aj]at hc⊢;obtain ⟨vs,h1,h2⟩:=hc;exact ⟨vs,h1,I9 hi h2⟩
 | .sym _,_,hc=>by simp [Aj]at hc
 | .slx ..,_,hc=>by simp [Aj]at hc
 | .ptx ..,_,hc=>by simp [Aj]at hc
theorem I9 {E E':Ag} (hi:∀b o v,E.imm b o=some v->E'.imm b o=some v):∀{as:List AV} {vs:List Value},AB E as vs->AB E' as vs
 |[],_,hc=>by grind [AB]
 |a::as,vs,hc=>by simp only [AB]at hc⊢;obtain ⟨v,r,h1,h2,h3⟩:=hc;exact ⟨v,r,h1,Js hi h2,I9 hi h3⟩
end
mutual
theorem MP {E E':Ag} (hi:∀b o v,E.imm b o=some v->E'.imm b o=some v) (hs:∀i a,i<64->E.sy i=some a->E'.sy i=some a):∀{a:AV} {v:Value},BS a=true->Ac E a v->Ac E' a v
 | .opq,_,_,_=>by simp [Ac]
 | .bool _,_,_,hc=>by grind [Ac]
 | .int _ _,_,_,hc=>by grind [Ac]
 | .flt _ _,_,_,hc=>by grind [Ac]
 | .nan _,_,_,hc=>by grind [Ac]
 | .str _,_,_,hc=>by grind [Ac]
 | .nptr,_,_,hc=>by grind [Ac]
 | .ptr id off,v,h,hc=>by simp [BS]at h
 | .vptr cs,v,h,hc=>by obtain ⟨b,o,vs,h1,h2,h3⟩:=hc;exact ⟨b,o,vs,h1,Mh hi hs h h2,λi u hu=>hi _ _ _ (h3 i u hu)⟩
 | .nsl,_,_,hc=>by grind [Ac]
 | .sl ..,v,h,hc=>by simp [BS]at h
 | .vsl _ _ cs,v,h,hc=>by obtain ⟨b,o,vs,c,h1,h2,h3,h4⟩:=hc;exact ⟨b,o,vs,c,h1,h2,Mh hi hs h h3,λi u hu=>hi _ _ _ (h4 i u hu)⟩
 | .nmap,_,_,hc=>by grind [Ac]
 | .map id,v,h,hc=>by simp [BS]at h
 | .nfn,_,_,hc=>by grind [Ac]
 | .fn f cap,v,h,hc=>by simp only [BS]at h;simp only [Ac]at hc⊢;obtain ⟨vs,h1,h2⟩:=hc;exact ⟨vs,h1,Mh hi hs h h2⟩
 | .nif,_,_,hc=>by grind [Ac]
 | .iface t a,v,h,hc=>by simp only [BS]at h;simp only [Ac]at hc⊢;obtain ⟨u,h1,h2⟩:=hc;exact ⟨u,h1,MP hi hs h h2⟩
 | .agg cs,v,h,hc=>by simp only [BS]at h;simp only [Ac]at hc⊢;obtain ⟨vs,h1,h2⟩:=hc;exact ⟨vs,h1,Mh hi hs h h2⟩
 | .tup cs,v,h,hc=>by simp only [BS]at h;simp only [Ac]at hc⊢;obtain ⟨vs,h1,h2⟩:=hc;exact ⟨vs,h1,Mh hi hs h h2⟩
 | .sym i,v,h,hc=>by
   grind [Ac,BS,Nat.blt_eq,Js]
 | .slx ..,v,h,hc=>by simp [BS]at h
 | .ptx ..,v,h,hc=>by simp [BS]at h
theorem Mh {E E':Ag} (hi:∀b o v,E.imm b o=some v->E'.imm b o=some v) (hs:∀i a,i<64->E.sy i=some a->E'.sy i=some a):∀{as:List AV} {vs:List Value},Gg as=true->Ah E as vs->Ah E' as vs
 |[],_,_,hc=>by grind [Ah]
 |a::as,vs,h,hc=>by
  simp only [Gg]at h;simp only [Ah]at hc⊢;obtain ⟨v,r,h1,h2,h3⟩:=hc;cases ha:BS a with
  |true=>rw [ha]at h;exact ⟨v,r,h1,MP hi hs ha h2,Mh hi hs h h3⟩
  |false=>rw [ha]at h;cases h
end
variable [Gl]
def HL (P:Program) (f:FuncId) (ag:List AV) (v:AV):Prop:=
 ∀(H:AHeap) (B:World) (pr:Nat->Prop) (E:Ag) (w:World) (vs:List Value),BQ E->As B pr E H w->Ah E ag vs->Calls P f ⟨vs⟩ w (B4 B pr E (.ret v H))
def ru {P:Program} {f:FuncId} {ag:List AV} {v a:AV} {H1:AHeap} {n:Nat} (hargs:Gg ag=true) (hv:BS v=true) (hs:Fe n H1 a=some v)
  (h:∀(B:World) (pr:Nat->Prop) (E:Ag) (w:World) (vs:List Value),BQ E->As B pr E H0 w->Ah E ag vs->Calls P f ⟨vs⟩ w (B4 B pr E (.ret a H1))):HL P f ag v:=by
 intro H B pr E w vs hg hr hc;have hEc:∀(b o:Nat) (v:Value),E.imm b o=some v->(Ag.mk (λ_=>none) E.sz E.imm (λ_=>False) E.imm E.sy E.syl λ_=>False).imm b o=some v:=λ_ _ _ h=>h
 have hrel:As w (λb=>b<w.heap.size) ⟨λ_=>none,E.sz,E.imm,λ_=>False,E.imm,E.sy,E.syl,λ_=>False⟩ H0 w:={
  own:=⟨λ_=>none,λid k hk=>(Xy hk).elim,λ_ _=>rfl,λ_ _ _ _=>rfl⟩
  imm:=hr.imm
  ib:=λ_ _ _ _ h=>h
  fresh:=λ_ _ _=>rfl
  resv:=λ_ h=>h.elim
  vds:=λ_ h=>h.elim
  szs:=hr.szs
  prot:=λb h=>⟨h,rfl⟩
  size:=za' _
  os:=rfl
  output:=rfl }
 refine Calls.mono (h w (λb=>b<w.heap.size) ⟨λ_=>none,E.sz,E.imm,λ_=>False,E.imm,E.sy,E.syl,λ_=>False⟩ w vs ⟨λg=>MP hEc (λ_ _ _ h=>h) (Gl.nr g) (hg.1 g),hg.2⟩ hrel (Mh hEc (λ_ _ _ h=>h) hargs hc)) λe w' he=>?_;obtain ⟨E',hle,u,rfl,h1,h2⟩:=he;obtain ⟨E2,f1,f2,f3,f4,_,f5,f6⟩:=h2.freeze;have hcon:=d7 h2 f1 f6 n _ _ _ hs h1;obtain ⟨own,g1,g2,g3⟩:=hr.own;have hsz:∀b n,E.sz b=some n->E2.sz b=some n:=λb n hx=>f1.2.1 b n (hle.1.2.1 b n hx);have him:∀b o v,E.imm b o=some v->E2.imm b o=some v:=λb o v hx=>f1.2.2.1 b o v (hle.1.2.2.1 b o v hx);have hsy:E2.sy=E.sy:=f1.2.2.2.1.trans hle.1.2.2.2.1;have hsyl:E2.syl=E.syl:=f1.2.2.2.2.trans hle.1.2.2.2.2;have hold:∀b o v,b<w.heap.size->E2.imm b o=some v->E.imm b o=some v:=λb o v hb hx=>by have:=f5.ib b o v hb hx;rw [f4,hle.2.2.1]at this;exact this
 refine ⟨⟨E.φ,E2.sz,E2.imm,E.res,E.bim,E2.sy,E2.syl,E.vd⟩,⟨⟨λ_ _ h=>h,hsz,him,hsy,hsyl⟩,rfl,rfl,rfl⟩,u,rfl,MP (E:=E2) (E':=⟨E.φ,E2.sz,E2.imm,E.res,E.bim,E2.sy,E2.syl,E.vd⟩) (λ_ _ _ h=>h) (λ_ _ _ h=>h) hv hcon,?_⟩;have hsub:E.sub ⟨E.φ,E2.sz,E2.imm,E.res,E.bim,E2.sy,E2.syl,E.vd⟩:=⟨λ_ _ h=>h,hsz,him,hsy,hsyl⟩
 refine { own:=⟨λb=>if b<w.heap.size then own b else none,λid k hk=>?_,λb hb=>?_,λb o v hx=>?_⟩,imm:=f5.imm,ib:=λb o v hb hx=>?_,fresh:=hr.fresh,resv:=hr.resv,vds:=hr.vds,szs:=f5.szs,prot:=λb hb=>?_,
          size:=zg' hr.size h2.size,os:=h2.os.trans hr.os,output:=h2.output.trans hr.output }
 exact (g1 id k hk).imp (λ_ h=>h) (λh=>⟨h.1,h.2.sub λi hi=>by grind⟩) λb o e1 e2 e3=>⟨(Ad e3.lt).trans e2,e3.sub hsub (h2.prot b e3.lt).2⟩
 .grind
 .grind
 have hlt:=zc' (hr.prot b hb).1 hr.size;exact hr.ib b o v hb (hold b o v hlt hx);obtain ⟨e1,e2⟩:=hr.prot b hb;exact ⟨e1,(h2.prot b (zc' e1 hr.size)).2.trans e2⟩
def IP (P:Program) (n:Nat) (f:FuncId) (ag:List AV) (v:AV):Bool:=match Gg ag&&BS v with
 |true=>match CL P n f ag H0 with
  |some (.ret a H)=>match Fe 100 H a with
   |some v'=>CG v' v
   |none=>false
  |_=>false
 |false=>false
def B7 {P:Program} (hm:P.follows .mixedOrders=true) (ho:EM P) {n:Nat} {f:FuncId} {ag:List AV} {v:AV} (h:IP P n f ag v=true):HL P f ag v:=by unfold IP at h;split at h;rename_i hn;obtain ⟨h1,h2⟩:=Au hn;split at h;rename_i a H hc;split at h;rename_i v' hs;have:=Dz h;subst this;exact ru h1 h2 hs λB pr E w vs hg hr hc'=>LF hm ho n f ag H0 _ hc B pr E w vs hg hr hc';cases h;cases h;cases h
def QX:List (FuncId×List AV×AV)->FuncId->List AV->Option AV
 |[],_,_=>none
 |(F,A,V)::r,f,ag=>match Nat.beq f F with
  |true=>match Ek ag A with
   |true=>some V
   |false=>QX r f ag
  |false=>QX r f ag
abbrev Ns (gl:Nat->AV) (nr:∀g,BS (gl g)=true) (l:List (FuncId×List AV×AV)):Gl:=⟨gl,λf ag _=>QX l f ag,nr,λs=>∀i a,i<64->s i=some a->a.one=true,λ_ _ h h1 i a hi ha=>h1 i a hi (by grind),λ_ h=>h⟩
omit [Gl]in
def gD (gl:Nat->AV) (nr:∀g,BS (gl g)=true) (P:Program): @EM (Ns gl nr []) P:=λf ag v H h=>by cases h
omit [Gl]in
def Mt {gl:Nat->AV} {nr:∀g,BS (gl g)=true} {P:Program} {l l':List (FuncId×List AV×AV)} {F:FuncId} {A:List AV} {V:AV} (ho: @EM (Ns gl nr l) P) (hp: @HL (Ns gl nr l') P F A V):
  @EM (Ns gl nr ((F,A,V)::l)) P:=by
 intro f ag v H h;have h:QX ((F,A,V)::l) f ag=some v:=h;unfold QX at h;split at h;rename_i hf;split at h;rename_i ha;cases h;have:=zb' hf;subst this;rw [Fv ha];exact hp H;exact ho f ag v H h;exact ho f ag v H h
def Ni:Nat->AV:=λ_=>.opq
omit [Gl]in
def SP (g:Nat):BS (Ni g)=true:=by simp [Ni,BS]
end Go.Sx
namespace Go.Sx
structure Ag.leF (k:Nat) (E E':Ag):Prop where
 phi:∀i x,i<k->E.φ i=some x->E'.φ i=some x
 sz:∀b n,E.sz b=some n->E'.sz b=some n
 imm:∀b o v,E.imm b o=some v->E'.imm b o=some v
 bim:E'.bim=E.bim
 sy:∀i,i<64->E'.sy i=E.sy i
def Ag.leF_refl (k:Nat) (E:Ag):E.leF k E:=⟨λ_ _ _ h=>h,λ_ _ h=>h,λ_ _ _ h=>h,rfl,λ_ _=>rfl⟩
theorem Ag.leF.trans {k:Nat} {E E' E'':Ag} (h:E.leF k E') (h':E'.leF k E''):E.leF k E'':=
 ⟨λi x hi hx=>h'.phi i x hi (h.phi i x hi hx),λb n hx=>h'.sz b n (h.sz b n hx),λb o v hx=>h'.imm b o v (h.imm b o v hx),h'.bim.trans h.bim,λi hi=>(h'.sy i hi).trans (h.sy i hi)⟩
def Ag.le.leF {E E':Ag} (h:E.le E') (k:Nat):E.leF k E':=⟨λi x _ hx=>h.1.1 i x hx,h.1.2.1,h.1.2.2.1,h.2.2.1,λi _=>by rw [h.1.2.2.2.1]⟩
structure Sy where
 v:Nat->Option AV
 l:Nat->Option (List AV)
structure Ag.At (E:Ag) (Y:Sy):Prop where
 v:E.sy=Y.v
 l:E.syl=Y.l
 res:∀id,E.res id->E.vd id
theorem Ag.At.le {E E':Ag} {Y:Sy} (h:E.At Y) (hle:E.le E'):E'.At Y:=⟨hle.1.2.2.2.1.trans h.v,hle.1.2.2.2.2.trans h.l,by rw [hle.2.1,hle.2.2.2];exact h.res⟩
variable [Gl]
def CX (P:Program) (Y:Sy) (f:FuncId) (ag:List AV) (H:AHeap) (Q:A5->Prop):Prop:=
 ∀(B:World) (pr:Nat->Prop) (E:Ag) (w:World) (vs:List Value),E.At Y->BQ E->As B pr E H w->Ah E ag vs->
  Calls P f ⟨vs⟩ w (λe w'=>∃r,Q r/\B4 B pr E r e w')
theorem CX.mono {P:Program} {Y:Sy} {f:FuncId} {ag:List AV} {H:AHeap} {Q Q':A5->Prop} (hq:∀r,Q r->Q' r) (h:CX P Y f ag H Q):CX P Y f ag H Q':=
 λB pr E w vs hy hg hr hc=>Calls.mono (h B pr E w vs hy hg hr hc) λe w' he=>by grind
def DO (P:Program) (B:World) (pr:Nat->Prop) (N k:Nat) (E:Ag) (Y:Sy) (r:A7) (e:Exit) (a:Act) (w:World):Prop:=
 ∃E',E.leF k E'/\E'.At Y/\match r with
  | .norm T H D=>e=.normal/\St P B pr N E' T H D a w
  | .exit id T H D=>e=.exit id/\St P B pr N E' T H D a w
  | .ret T H D=>e=.ret/\St P B pr N E' T H D a w
  | .pan v T H D=>∃u,e=.panic [{ v:=u,recovered:=false }]/\Ac E' v u/\St P B pr N E' T H D a w
abbrev KP:=Sy->Tm->AHeap->Bj->Prop
abbrev XP:=Sy->A7->Prop
def DH (K:KP) (X:XP) (Y:Sy) (r:A7):Prop:=match r with
 | .norm T H D=>K Y T H D
 |r=>X Y r
def A1 (P:Program) (N k:Nat) (Y:Sy) (T:Tm) (H:AHeap) (D:Bj) (Y':Sy) (T':Tm) (H':AHeap) (D':Bj):Prop:=
 ∀(B:World) (pr:Nat->Prop) (E:Ag) (a:Act) (w:World),E.At Y->St P B pr N E T H D a w->∃E',E.leF k E'/\E'.At Y'/\St P B pr N E' T' H' D' a w
theorem A1.refl (P:Program) (N k:Nat) (Y:Sy) (T:Tm) (H:AHeap) (D:Bj):A1 P N k Y T H D Y T H D:=λB pr E a w hy st=>⟨E,Ag.leF_refl k E,hy,st⟩
theorem A1.trans {P:Program} {N k:Nat} {Y Y' Y'':Sy} {T T' T'':Tm} {H H' H'':AHeap} {D D' D'':Bj} (h:A1 P N k Y T H D Y' T' H' D') (h':A1 P N k Y' T' H' D' Y'' T'' H'' D''):A1 P N k Y T H D Y'' T'' H'' D'':=
 λB pr E a w hy st=>by obtain ⟨E',h1,hy',st'⟩:=h B pr E a w hy st;obtain ⟨E'',h2,hy'',st''⟩:=h' B pr E' a w hy' st';exact ⟨E'',h1.trans h2,hy'',st''⟩
section
variable {P:Program} {B:World} {pr:Nat->Prop} {N k:Nat} {E:Ag}
def BJ.toF {Y:Sy} (hy:E.At Y) {r:A7} {e:Exit} {a:Act} {w:World} (h:BJ P B pr N E r e a w):DO P B pr N k E Y r e a w:=by obtain ⟨E',h1,h2⟩:=h;exact ⟨E',h1.leF k,hy.le h1,h2⟩
theorem DO.le {Y:Sy} {E':Ag} (h:E.leF k E') {r:A7} {e:Exit} {a:Act} {w:World} (hq:DO P B pr N k E' Y r e a w):DO P B pr N k E Y r e a w:=by obtain ⟨E'',h1,h2⟩:=hq;exact ⟨E'',h.trans h1,h2⟩
end
def Bp (P:Program) (B:World) (pr:Nat->Prop) (N k:Nat) (E:Ag) (R:Sy->A7->Prop) (e:Exit) (a:Act) (w:World):Prop:=∃Y r,R Y r/\DO P B pr N k E Y r e a w
theorem Bp.le {P:Program} {B:World} {pr:Nat->Prop} {N k:Nat} {E E':Ag} (h:E.leF k E') {R:Sy->A7->Prop} {e:Exit} {a:Act} {w:World} (hq:Bp P B pr N k E' R e a w):Bp P B pr N k E R e a w:=by obtain ⟨Y,r,h1,h2⟩:=hq;exact ⟨Y,r,h1,h2.le h⟩
def HK (P:Program) (o:Oper) (u:Tm->AV->Tm) (Y:Sy) (T:Tm) (H:AHeap) (D:Bj) (next:KP) (X:XP):Prop:=match (A3 P o).run T H with
 |some (.val a H')=>next Y (u T a) H' D
 |some (.call g ag)=>CX P Y g ag H λr=>match r with
  | .ret a H'=>next Y (u T a) H' D
  | .pan v H'=>X Y (.pan v T H' D)
 |some (.dfr g ag)=>next Y (u T (.tup [])) H ((g,ag)::D)
 |some (.pan v)=>X Y (.pan v T H D)
 |_=>False
def F4 (P:Program) (N k:Nat) (o:Oper) (u:Tm->AV->Tm) (Y:Sy) (T:Tm) (H:AHeap) (D:Bj) (next:KP):Prop:=
 ∃(Y':Sy) (r:AV) (H':AHeap),next Y' (u T r) H' D/\∀(B:World) (pr:Nat->Prop) (E:Ag) (a:Act) (w:World),E.At Y->St P B pr N E T H D a w->
  ∃E' n v w',(execOp a.eval o).run P w=.ok n w'/\(n=.value v\/(n=.skip/\v=undef))/\E.leF k E'/\E'.At Y'/\St P B pr N E' T H' D a w'/\Ac E' r v
def RP (P:Program) (N k:Nat) (o:Oper) (u:Tm->AV->Tm) (Y:Sy) (T:Tm) (H:AHeap) (D:Bj) (next:KP):Prop:=
 ∃(g:FuncId) (ag:List AV) (Y':Sy) (r:AV),(A3 P o).run T H=some (.call g ag)/\next Y' (u T r) H D/\∀(B:World) (pr:Nat->Prop) (E:Ag) (a:Act) (w:World) (vs:List Value),E.At Y->St P B pr N E T H D a w->
  Ah E ag vs->Calls P g ⟨vs⟩ w λe w'=>∃E' v,e=.returned v/\E.leF k E'/\E'.At Y'/\St P B pr N E' T H D a w'/\Ac E' r v
def LL (P:Program) (N k:Nat) (o:Oper) (u:Tm->AV->Tm) (Y:Sy) (T:Tm) (H:AHeap) (D:Bj) (next:KP) (X:XP):Prop:=
 ∃(g:FuncId) (ag:List AV) (R:Sy->Bool->AV->AHeap->Prop),(A3 P o).run T H=some (.call g ag)/\(∀Y' r H',R Y' false r H'->next Y' (u T r) H' D)/\(∀Y' v H',R Y' true v H'->X Y' (.pan v T H' D))/\
  ∀(B:World) (pr:Nat->Prop) (E:Ag) (a:Act) (w:World) (vs:List Value),E.At Y->St P B pr N E T H D a w->Ah E ag vs->
   Calls P g ⟨vs⟩ w λe w'=>∃E' Y' b r H' v,R Y' b r H'/\E.leF k E'/\E'.At Y'/\St P B pr N E' T H' D a w'/\Ac E' r v/\e=(match b with
    |true=>.panicked [{ v:=v,recovered:=false }]
    |false=>.returned v)
def Hq (P:Program) (N k:Nat) (all:List Oper):List Oper->Sy->Tm->AHeap->Bj->KP->XP->Prop
 |[],Y,T,H,D,K,X=>K Y T H D
 |o::r,Y0,T0,H0,D0,K,X=>∃Y T H D,A1 P N k Y0 T0 H0 D0 Y T H D/\match CN N o.dst with
  | .bad=>False
  | .mk u=>∃t,(match Du all o with
     | .always=>some true
     | .mk g=>g T)=some t/\
     (t=true->HK P o u Y T H D (λY T H D=>Hq P N k all r Y T H D K X) X\/F4 P N k o u Y T H D (λY T H D=>Hq P N k all r Y T H D K X)\/RP P N k o u Y T H D (λY T H D=>Hq P N k all r Y T H D K X)\/LL P N k o u Y T H D (λY T H D=>Hq P N k all r Y T H D K X) X)/\
     (t=false->Hq P N k all r Y (u T (.tup [])) H D K X)
section
variable {P:Program} {N k:Nat}
theorem UU (Af:Array Oper):∀(l:List Oper) (Y:Sy) (T:Tm) (H:AHeap) (D:Bj) (K:KP) (X:XP),Hq P N k Af.toList l Y T H D K X->∀B pr E a w,E.At Y->St P B pr N E T H D a w->
  wpList P Af (Bp P B pr N k E (DH K X)) l a w
 |[],Y,T,H,D,K,X,h,B,pr,E,a,w,hy,st=>⟨Y,.norm T H D,h,E,Ag.leF_refl k E,hy,rfl,st⟩
 |o::l,Y0,T0,H0,D0,K,X,h,B,pr,E0,a,w,hy0,st0=>by
  obtain ⟨Y,T,H,D,hweak,h⟩:=h;obtain ⟨E,hle0,hy,st⟩:=hweak B pr E0 a w hy0 st0;refine AZ (λe a w hq=>Bp.le hle0 hq) _ _ _ ?_;have ih:=UU Af l;split at h;exact h.elim
  .rename_i u hu;obtain ⟨t,ht,h1,h2⟩:=h;have key:Region.wanted o (yielded Af a.tmps)=t:=by
    split at ht
    .grind [Su]
    rename_i g hg;exact QR st.t hg ht
   have pd:∀v,(a.put o.dst v).defers=a.defers:=λv=>(by unfold Act.put;split<;>rfl);unfold wpList;cases t with
   |false=>rw [Ab (by grind)];exact ih _ _ _ _ _ _ (h2 rfl) B pr E _ w hy ⟨st.t.put hu (GG E),st.r,by rw [pd];exact st.d⟩
   |true=>
    rw [Ad key];refine .inl ?_;rcases h1 rfl with h1|h1|h1|h1
    .unfold HK at h1;split at h1
     .rename_i x H' hrun;obtain ⟨E',n,v,w',g1,g2,g3,g4,g5⟩:=Ej hrun st.r st.t;unfold Oper.wp;rw [g1];have key:wpList P Af (Bp P B pr N k E (DH K X)) l (a.put o.dst v) w':=
       AZ (λe a w hq=>Bp.le (g3.leF k) hq) _ _ _ (ih _ _ _ _ _ _ h1 B pr E' (a.put o.dst v) w' (hy.le g3) ⟨(st.t.mono g3).put hu g5,g4,by rw [pd];exact st.d.mono g3⟩)
      rcases g2 with rfl|⟨rfl,rfl⟩;exact key;exact key
     .rename_i g ag hrun;obtain ⟨vs,g1,g2⟩:=Ej hrun st.r st.t;unfold Oper.wp;rw [g1];refine Calls.mono (h1 B pr E w vs hy st.t.gl st.r g2) λe w' he=>?_;obtain ⟨r,hq,E',g3,he⟩:=he;cases r with
      |ret x H'=>obtain ⟨v,rfl,g4,g5⟩:=he;exact AZ (λe a w hq=>Bp.le (g3.leF k) hq) _ _ _ (ih _ _ _ _ _ _ hq B pr E' (a.put o.dst v) w' (hy.le g3) ⟨(st.t.mono g3).put hu g4,g5,by rw [pd];exact st.d.mono g3⟩)
      |pan x H'=>obtain ⟨v,rfl,g4,g5⟩:=he;exact ⟨Y,.pan x T H' D,hq,E',g3.leF k,hy.le g3,v,rfl,g4,st.t.mono g3,g5,st.d.mono g3⟩
     .rename_i g ag hrun;obtain ⟨vs,g1,g2,g3⟩:=Ej hrun st.r st.t;unfold Oper.wp;rw [g1];refine ih _ _ _ _ _ _ h1 B pr E _ w hy ⟨?_,st.r,?_⟩
      .have:=st.t.put (a:=a) hu (GG E);have e:(({ a with defers:={ target:=.fn (.func g) #[],args:=⟨vs⟩ }::a.defers }:Act).put o.dst undef).tmps=(a.put o.dst undef).tmps:=by unfold Act.put;split<;>rfl
       grind
      have e:(({ a with defers:={ target:=.fn (.func g) #[],args:=⟨vs⟩ }::a.defers }:Act).put o.dst undef).defers={ target:=.fn (.func g) #[],args:=⟨vs⟩ }::a.defers:=(by unfold Act.put;split<;>rfl);rw [e];exact ⟨vs,a.defers,rfl,g2,g3,st.d⟩
     rename_i v hrun;obtain ⟨u',g1,g2⟩:=Ej hrun st.r st.t;unfold Oper.wp;rw [g1];exact ⟨Y,.pan v T H D,h1,E,Ag.leF_refl k E,hy,u',rfl,g2,st⟩
     grind
    .obtain ⟨Y',r,H',hnext,hrun⟩:=h1;obtain ⟨E',n,v,w',g1,g2,g3,hy',st',g5⟩:=hrun B pr E a w hy st;unfold Oper.wp;rw [g1];have key:wpList P Af (Bp P B pr N k E (DH K X)) l (a.put o.dst v) w':=
      AZ (λe a w hq=>Bp.le g3 hq) _ _ _ (ih _ _ _ _ _ _ hnext B pr E' (a.put o.dst v) w' hy' ⟨st'.t.put hu g5,st'.r,by rw [pd];exact st'.d⟩)
     rcases g2 with rfl|⟨rfl,rfl⟩;exact key;exact key
    obtain ⟨g,ag,Y',r,hst,hnext,hrun⟩:=h1;obtain ⟨vs,g1,g2⟩:=Ej hst st.r st.t;unfold Oper.wp;rw [g1];refine Calls.mono (hrun B pr E a w vs hy st g2) λe w' he=>?_;obtain ⟨E',v,rfl,g3,hy',st',g5⟩:=he;exact AZ (λe a w hq=>Bp.le g3 hq) _ _ _ (ih _ _ _ _ _ _ hnext B pr E' (a.put o.dst v) w' hy' ⟨st'.t.put hu g5,st'.r,by rw [pd];exact st'.d⟩)
    .obtain ⟨g,ag,R,hst,hnext,hX,hrun⟩:=h1;obtain ⟨vs,g1,g2⟩:=Ej hst st.r st.t;unfold Oper.wp;rw [g1];refine Calls.mono (hrun B pr E a w vs hy st g2) λe w' he=>?_;obtain ⟨E',Y',b,r,H',v,hR,g3,hy',st',g5,rfl⟩:=he;cases b with
     |false=>exact AZ (λe a w hq=>Bp.le g3 hq) _ _ _ (ih _ _ _ _ _ _ (hnext Y' r H' hR) B pr E' (a.put o.dst v) w' hy' ⟨st'.t.put hu g5,st'.r,by rw [pd];exact st'.d⟩)
     |true=>exact ⟨Y',.pan r T H' D,hX Y' r H' hR,E',g3,hy',v,rfl,g5,st'⟩
end
def XI (id:Nat) (K:KP) (X:XP) (Y:Sy) (r:A7):Prop:=match r with
 | .exit id' T H D=>(id'=id->K Y T H D)/\(id'≠id->X Y r)
 |r=>X Y r
structure AS where
 Y:Sy
 T:Tm
 H:AHeap
 D:Bj
def Cc (P:Program) (N k:Nat):Code->Sy->Tm->AHeap->Bj->KP->XP->Prop
 | .skip,Y,T,H,D,K,X=>K Y T H D
 | .label _,Y,T,H,D,K,X=>K Y T H D
 | .region id Af draw,Y,T,H,D,K,X=>match draw with
   |false=>Hq P N k Af.toList Af.toList Y T H D K X
   |true=>(∃Y1 T1 H1 D1,A1 P N k Y T H D Y1 T1 H1 D1/\∃call r,Cj P call/\O3 P call N Af.toList T1 H1 D1=some r/\DH K X Y1 r)\/
     ∀B pr E a w,E.At Y->St P B pr N E T H D a w->(Code.region id Af true).wp P (Bp P B pr N k E (DH K X)) a w
 | .seq a b,Y,T,H,D,K,X=>Cc P N k a Y T H D (λY T H D=>Cc P N k b Y T H D K X) X
 | .cond c a b,Y,T,H,D,K,X=>∃Y1 T1 H1 D1,A1 P N k Y T H D Y1 T1 H1 D1/\∃t,look T1 c=.bool t/\(t=true->Cc P N k a Y1 T1 H1 D1 K X)/\(t=false->Cc P N k b Y1 T1 H1 D1 K X)
 | .block id b,Y,T,H,D,K,X=>Cc P N k b Y T H D K (XI id K X)
 | .loop b,Y,T,H,D,K,X=>∃(ι:Type) (S:ι->AS) (μ:ι->Nat) (i0:ι),A1 P N k Y T H D (S i0).Y (S i0).T (S i0).H (S i0).D/\
    ∀i,Cc P N k b (S i).Y (S i).T (S i).H (S i).D (λY' T' H' D'=>∃j,μ j<μ i/\A1 P N k Y' T' H' D' (S j).Y (S j).T (S j).H (S j).D) X
 | .exit id,Y,T,H,D,K,X=>X Y (.exit id T H D)
 | .ret,Y,T,H,D,K,X=>X Y (.ret T H D)
 |_,_,_,_,_,_,_=>False
section
variable {P:Program} {N k:Nat}
def Bp.then {B:World} {pr:Nat->Prop} {E:Ag} {K:KP} {X:XP} {Q:Exit->Act->World->Prop} {KA:Act->World->Prop} {e:Exit} {a:Act} {w:World} (h:Bp P B pr N k E (DH K X) e a w)
  (hk:∀E' Y T H D a w,K Y T H D->E.leF k E'->E'.At Y->St P B pr N E' T H D a w->KA a w) (hx:∀Y r e a w,(∀T H D,r≠ .norm T H D)->X Y r->DO P B pr N k E Y r e a w->Q e a w):Exit.then KA Q e a w:=by
 obtain ⟨Y,r,hr,hq⟩:=h;have hex:∀e,(∀T H D,r≠ .norm T H D)->DO P B pr N k E Y r e a w->e≠ .normal:=λe hn hq he=>by
  obtain ⟨E',h1,_,h2⟩:=hq
  grind
 cases r with
 |norm T H D=>obtain ⟨E',h1,hy,rfl,h2⟩:=hq;exact hk E' Y T H D a w hr h1 hy h2
 |exit id T H D=>have:=hx Y _ e a w (λ_ _ _ h=>by cases h) hr hq;have hne:=hex e (λ_ _ _ h=>by cases h) hq;cases e<;>first|exact absurd rfl hne|exact this
 |ret T H D=>have:=hx Y _ e a w (λ_ _ _ h=>by cases h) hr hq;have hne:=hex e (λ_ _ _ h=>by cases h) hq;cases e<;>first|exact absurd rfl hne|exact this
 |pan v T H D=>have:=hx Y _ e a w (λ_ _ _ h=>by cases h) hr hq;have hne:=hex e (λ_ _ _ h=>by cases h) hq;cases e<;>first|exact absurd rfl hne|exact this
omit [Gl]in
def oD {K:KP} {X:XP} {Y:Sy} {r:A7} (hn:∀T H D,r≠ .norm T H D) (h:X Y r):DH K X Y r:=by
 cases r with
 |norm T H D=>grind
 |exit id T H D=>exact h
 |ret T H D=>exact h
 |pan v T H D=>exact h
def Kl (hm:P.follows .mixedOrders=true):∀(c:Code) (Y:Sy) (T:Tm) (H:AHeap) (D:Bj) (K:KP) (X:XP),Cc P N k c Y T H D K X->∀B pr E a w,E.At Y->St P B pr N E T H D a w->
  c.wp P (Bp P B pr N k E (DH K X)) a w
 | .skip,Y,T,H,D,K,X,h,B,pr,E,a,w,hy,st=>by exact wp_skip ⟨Y,.norm T H D,h,E,Ag.leF_refl k E,hy,rfl,st⟩
 | .label _,Y,T,H,D,K,X,h,B,pr,E,a,w,hy,st=>by exact wp_label ⟨Y,.norm T H D,h,E,Ag.leF_refl k E,hy,rfl,st⟩
 | .exit id,Y,T,H,D,K,X,h,B,pr,E,a,w,hy,st=>by exact wp_exit ⟨Y,.exit id T H D,h,E,Ag.leF_refl k E,hy,rfl,st⟩
 | .ret,Y,T,H,D,K,X,h,B,pr,E,a,w,hy,st=>by exact wp_ret ⟨Y,.ret T H D,h,E,Ag.leF_refl k E,hy,rfl,st⟩
 | .region id Af false,Y,T,H,D,K,X,h,B,pr,E,a,w,hy,st=>by
   grind [Cc,wp_region_list,UU]
 | .region id Af true,Y,T,H,D,K,X,h,B,pr,E,a,w,hy,st=>by
   rcases h with h|h;obtain ⟨Y1,T1,H1,D1,hweak,call,r,hc,hd,hr⟩:=h;obtain ⟨E1,hle,hy1,st1⟩:=hweak B pr E a w hy st;exact Code.wp_mono (λe a w hq=>⟨Y1,r,hr,(BJ.toF hy1 hq).le hle⟩) (US hm hc N id Af T1 H1 D1 r hd B pr E1 a w st1)
   grind
 | .seq x y,Y,T,H,D,K,X,h,B,pr,E,a,w,hy,st=>by unfold Cc at h;refine wp_seq (Code.wp_mono (λe a w hq=>?_) (Kl hm x Y T H D _ X h B pr E a w hy st));refine Bp.then hq (λE' Y T H D a w hK hle hy' st'=>?_) λY r e a w hn hX hq=>⟨Y,r,oD hn hX,hq⟩;exact Code.wp_mono (λe a w hq=>Bp.le hle hq) (Kl hm y Y T H D K X hK B pr E' a w hy' st')
 | .cond c x y,Y,T,H,D,K,X,h,B,pr,E,a,w,hy,st=>by
   obtain ⟨Y1,T1,H1,D1,hweak,t,ht,h1,h2⟩:=h;obtain ⟨E1,hle,hy1,st1⟩:=hweak B pr E a w hy st;refine Code.wp_mono (λe a w hq=>Bp.le hle hq) ?_;have hl:a.eval c=.bool t:=(by have:=st1.t.look c;grind [Ac]);cases t with
   |true=>exact wp_cond_true hl (Kl hm x Y1 T1 H1 D1 K X (h1 rfl) B pr E1 a w hy1 st1)
   |false=>exact wp_cond_false hl (Kl hm y Y1 T1 H1 D1 K X (h2 rfl) B pr E1 a w hy1 st1)
 | .block id b,Y,T,H,D,K,X,h,B,pr,E,a,w,hy,st=>by
   refine wp_block (Code.wp_mono (λe a w hq=>?_) (Kl hm b Y T H D K _ h B pr E a w hy st));obtain ⟨Y',r,hr,hq⟩:=hq;cases e with
   |exit id'=>
    show if id'=id then _ else _
    obtain ⟨E',h1,hy',h2⟩:=hq;cases r with
    |norm T H D=>cases h2.1
    |ret T H D=>cases h2.1
    |pan v T H D=>grind
    |exit i2 T' H' D'=>obtain ⟨he,st'⟩:=h2;cases he;split;rename_i hid;exact ⟨Y',.norm T' H' D',hr.1 hid,E',h1,hy',rfl,st'⟩;rename_i hid;exact ⟨Y',.exit id' T' H' D',hr.2 hid,E',h1,hy',rfl,st'⟩
   |normal=>
    obtain ⟨E',h1,hy',h2⟩:=hq;cases r with
    |norm T' H' D'=>exact ⟨Y',.norm T' H' D',hr,E',h1,hy',h2⟩
    |exit i2 T H D=>cases h2.1
    |ret T H D=>cases h2.1
    |pan v T H D=>grind
   |ret=>
    obtain ⟨E',h1,hy',h2⟩:=hq;cases r with
    |ret T' H' D'=>exact ⟨Y',.ret T' H' D',hr,E',h1,hy',h2⟩
    |exit i2 T H D=>cases h2.1
    |norm T H D=>cases h2.1
    |pan v T H D=>grind
   |panic ch=>
    obtain ⟨E',h1,hy',h2⟩:=hq;cases r with
    |pan v T' H' D'=>exact ⟨Y',.pan v T' H' D',hr,E',h1,hy',h2⟩
    |exit i2 T H D=>cases h2.1
    |norm T H D=>cases h2.1
    |ret T H D=>cases h2.1
   |goto l=>
    obtain ⟨E',h1,hy',h2⟩:=hq
    grind
   |outgrown=>
    obtain ⟨E',h1,hy',h2⟩:=hq
    grind
 | .loop b,Y,T,H,D,K,X,h,B,pr,E,a,w,hy,st=>by
   obtain ⟨ι,S,μ,i0,hw0,hb⟩:=h;have rounds:∀(m:Nat) (i:ι),μ i<m->∀E' a w,E.leF k E'->E'.At (S i).Y->St P B pr N E' (S i).T (S i).H (S i).D a w->Code.rounds P b (Bp P B pr N k E (DH K X)) m a w:=by
    intro m
    induction m with
    |zero=>grind
    |succ m ih=>intro i hi E' a w hle hy st;refine Code.wp_mono (λe a w hq=>?_) (Kl hm b _ _ _ _ _ X (hb i) B pr E' a w hy st);refine Bp.then hq (λE2 Y T H D a w hK hle2 hy2 st2=>?_) λY r e a w hn hX hq=>⟨Y,r,oD hn hX,hq.le hle⟩;obtain ⟨j,hj,hweak⟩:=hK;obtain ⟨E3,hle3,hy3,st3⟩:=hweak B pr E2 a w hy2 st2;exact ih j (by omega) E3 a w (hle.trans (hle2.trans hle3)) hy3 st3
   obtain ⟨E1,hle1,hy1,st1⟩:=hw0 B pr E a w hy st;exact wp_loop_rounds (μ i0+1) (rounds (μ i0+1) i0 (Nat.lt_succ_self _) E1 a w hle1 hy1 st1)
 | .scope _,Y,T,H,D,K,X,h,B,pr,E,a,w,hy,st=>by grind [Cc]
 | .goto _,Y,T,H,D,K,X,h,B,pr,E,a,w,hy,st=>by grind [Cc]
 | .refuse _,Y,T,H,D,K,X,h,B,pr,E,a,w,hy,st=>by grind [Cc]
 | .rangeFunc _ _ _ _,Y,T,H,D,K,X,h,B,pr,E,a,w,hy,st=>by grind [Cc]
def Sq (k:Nat) (B:World) (pr:Nat->Prop) (E:Ag) (Y:Sy) (r:A5) (e:Ending) (w':World):Prop:=
 ∃E',E.leF k E'/\E'.At Y/\match r with
  | .ret v H'=>∃u,e=.returned u/\Ac E' v u/\As B pr E' H' w'
  | .pan v H'=>∃u,e=.panicked [{ v:=u,recovered:=false }]/\Ac E' v u/\As B pr E' H' w'
def I6 (P:Program) (k:Nat) (fn:Func) (Q:Sy->A5->Prop) (Y:Sy) (T:Tm) (H:AHeap) (D:Bj) (u:Option AV):Prop:=
 (∃call n r,Cj P call/\Io P call n fn.results.toList T D H u=some r/\Q Y r)\/
 ∀B pr E w tmps ds m,E.At Y->Bf E fn.ntmps T tmps->As B pr E H w->Ca P E D ds->BP E u m->Leaves P fn tmps (λe w'=>∃Y r,Q Y r/\Sq k B pr E Y r e w') ds m w
def vA (P:Program) (k:Nat) (fn:Func) (Q:Sy->A5->Prop) (Y:Sy) (r:A7):Prop:=match r with
 | .norm T H D=>I6 P k fn Q Y T H D none
 | .ret T H D=>I6 P k fn Q Y T H D none
 | .pan v T H D=>I6 P k fn Q Y T H D (some v)
 | .exit _ _ _ _=>False
def A0 (P:Program) (k:Nat) (Y:Sy) (f:FuncId) (ag:List AV) (H:AHeap) (Q:Sy->A5->Prop):Prop:=
 ∀(B:World) (pr:Nat->Prop) (E:Ag) (w:World) (vs:List Value),E.At Y->BQ E->As B pr E H w->Ah E ag vs->
  Calls P f ⟨vs⟩ w (λe w'=>∃Y' r,Q Y' r/\Sq k B pr E Y' r e w')
def ug (P:Program) (k:Nat) (fn:Func) (c:Code) (Y:Sy) (ag:List AV) (H:AHeap) (Q:Sy->A5->Prop):Prop:=
 ag.length<=fn.ntmps/\fn.ntmps<=512/\Cc P fn.ntmps k c Y (C6 ag 0 B6) H [] (λY T H D=>I6 P k fn Q Y T H D none) (vA P k fn Q)
def UQ (hm:P.follows .mixedOrders=true) {f:FuncId} {fn:Func} {c:Code} (hf:P.funcs[f]? =some fn) (hb:fn.body=some c) {Y:Sy} {ag:List AV} {H:AHeap} {Q:Sy->A5->Prop}
  (h:ug P k fn c Y ag H Q):A0 P k Y f ag H Q:=by
 intro B pr E w vs hy hg hr hc;obtain ⟨hle,h5,h⟩:=h;have leave:∀(E':Ag) (Y':Sy) (a:Act) (w':World) (T:Tm) (H':AHeap) (D:Bj) (u:Option AV) (m:FrameMode),I6 P k fn Q Y' T H' D u->E.leF k E'->E'.At Y'->St P B pr fn.ntmps E' T H' D a w'->BP E' u m->
   Leaves P fn a.tmps (λe w'=>∃Y r,Q Y r/\Sq k B pr E Y r e w') a.defers m w':=by
  intro E' Y' a w' T H' D u m hl hle hy' st hmode;rcases hl with ⟨call,n,r,h1,h2,h3⟩|hl
  case inr=>exact Leaves.mono (λe w ⟨Y,r,h1,E'',g1,g2⟩=>⟨Y,r,h1,E'',hle.trans g1,g2⟩) _ _ _ (hl B pr E' w' a.tmps a.defers m hy' st.t st.r st.d hmode)
  refine Leaves.mono (λe w hq=>?_) _ _ _ (N8 h1 (λN=>US hm h1 N) D H' u r h2 E' w' a.defers m st.t st.r st.d hmode);obtain ⟨E'',g1,g2⟩:=hq;exact ⟨Y',r,h3,E'',hle.trans (g1.leF k),hy'.le g1,g2⟩
 refine calls_of_wp_defers hf hb (Code.wp_mono (λe a w' hq=>?_) (Kl hm c _ _ _ _ _ _ h B pr E _ w hy ⟨UY hg hc hle h5,hr,rfl⟩));obtain ⟨Y',r',hd,E',h1,hy',h2⟩:=hq;cases r' with
 |norm T H' D=>obtain ⟨rfl,st⟩:=h2;exact leave E' Y' a w' T H' D none .returning hd h1 hy' st rfl
 |ret T H' D=>obtain ⟨rfl,st⟩:=h2;exact leave E' Y' a w' T H' D none .returning hd h1 hy' st rfl
 |pan v T H' D=>obtain ⟨u,rfl,h3,st⟩:=h2;exact leave E' Y' a w' T H' D (some v) _ hd h1 hy' st ⟨u,rfl,h3⟩
 |exit id T H' D=>exact hd.elim
end
end Go.Sx
namespace Go.Sx
mutual
def Ar (s:Nat->Option AV):AV->AV
 | .sym i=>match s i with
   |some a=>a
   |none=>.opq
 | .vptr cs=>.vptr (An s cs)
 | .vsl n z cs=>.vsl n z (An s cs)
 | .fn f cs=>.fn f (An s cs)
 | .iface t a=>.iface t (Ar s a)
 | .agg cs=>.agg (An s cs)
 | .tup cs=>.tup (An s cs)
 |a=>a
def An (s:Nat->Option AV):List AV->List AV
 |[]=>[]
 |a::r=>Ar s a::An s r
end
mutual
def Bh:AV->Bool
 | .opq| .ptr _ _| .sl _ _ _ _ _| .map _| .slx _ _ _| .ptx _ _ _ _=>false
 | .vptr cs=>Bm cs
 | .vsl _ _ cs=>Bm cs
 | .fn _ cs=>Bm cs
 | .iface _ a=>Bh a
 | .agg cs=>Bm cs
 | .tup cs=>Bm cs
 |_=>true
def Bm:List AV->Bool
 |[]=>true
 |a::r=>match Bh a with
  |true=>Bm r
  |false=>false
end
mutual
def okC:AV->Bool
 | .bool _| .int _ _| .flt _ _| .nan _| .str _| .nptr| .nsl| .nmap| .nfn| .nif=>true
 | .vptr cs=>Ak cs
 | .vsl _ _ cs=>Ak cs
 | .fn _ cs=>Ak cs
 | .iface _ a=>okI a
 |_=>false
def okI:AV->Bool
 | .agg cs=>Ak cs
 | .bool _| .int _ _| .flt _ _| .nan _| .str _| .nptr| .nsl| .nmap| .nfn| .nif=>true
 | .vptr cs=>Ak cs
 | .vsl _ _ cs=>Ak cs
 | .fn _ cs=>Ak cs
 | .iface _ a=>okI a
 |_=>false
def Ak:List AV->Bool
 |[]=>true
 |a::r=>match okC a with
  |true=>Ak r
  |false=>false
end
theorem CA {a:AV} {r:List AV}:Ak (a::r)=(okC a&&Ak r):=by
 grind [Ak]
theorem Fx {a:AV} (h:okC a=true):a.one=true:=by cases a<;>first|rfl|(simp [okC]at h)
mutual
theorem CZ {E:Ag}:∀{a:AV} {v:Value},Bh a=true->Ac E a v->Aj E (Ar E.sy a) v
 | .opq,_,h,_=>by simp [Bh]at h
 | .bool _,_,_,hc=>by grind [Ar,Aj,Ac]
 | .int _ _,_,_,hc=>by grind [Ar,Aj,Ac]
 | .flt _ _,_,_,hc=>by grind [Ar,Aj,Ac]
 | .nan _,_,_,hc=>by grind [Ar,Aj,Ac]
 | .str _,_,_,hc=>by grind [Ar,Aj,Ac]
 | .nptr,_,_,hc=>by grind [Ar,Aj,Ac]
 | .ptr id off,v,h,hc=>by simp [Bh]at h
 | .vptr cs,v,h,hc=>by simp only [Bh]at h;simp only [Ac]at hc;simp only [Ar,Aj];obtain ⟨b,o,vs,h1,h2,h3⟩:=hc;exact ⟨b,o,vs,h1,JA h h2,h3⟩
 | .nsl,_,_,hc=>by grind [Ar,Aj,Ac]
 | .sl ..,v,h,hc=>by simp [Bh]at h
 | .vsl _ _ cs,v,h,hc=>by obtain ⟨b,o,vs,c,h1,h2,h3,h4⟩:=hc;exact ⟨b,o,vs,c,h1,h2,JA h h3,h4⟩
 | .nmap,_,_,hc=>by grind [Ar,Aj,Ac]
 | .map id,v,h,hc=>by simp [Bh]at h
 | .nfn,_,_,hc=>by grind [Ar,Aj,Ac]
 | .fn f cap,v,h,hc=>by simp only [Bh]at h;simp only [Ac]at hc;simp only [Ar,Aj];obtain ⟨vs,h1,h2⟩:=hc;exact ⟨vs,h1,JA h h2⟩
 | .nif,_,_,hc=>by grind [Ar,Aj,Ac]
 | .iface t a,v,h,hc=>by simp only [Bh]at h;simp only [Ac]at hc;simp only [Ar,Aj];obtain ⟨u,h1,h2⟩:=hc;exact ⟨u,h1,CZ h h2⟩
 | .agg cs,v,h,hc=>by simp only [Bh]at h;simp only [Ac]at hc;simp only [Ar,Aj];obtain ⟨vs,h1,h2⟩:=hc;exact ⟨vs,h1,JA h h2⟩
 | .tup cs,v,h,hc=>by simp only [Bh]at h;simp only [Ac]at hc;simp only [Ar,Aj];obtain ⟨vs,h1,h2⟩:=hc;exact ⟨vs,h1,JA h h2⟩
 | .sym i,v,h,hc=>by
   grind [Ac,Ar]
 | .slx ..,v,h,hc=>by simp [Bh]at h
 | .ptx ..,v,h,hc=>by simp [Bh]at h
theorem JA {E:Ag}:∀{as:List AV} {vs:List Value},Bm as=true->Ah E as vs->AB E (An E.sy as) vs
 |[],_,_,hc=>by grind [An,Ah,AB]
 |a::as,vs,h,hc=>by
  simp only [Bm]at h;simp only [Ah]at hc;simp only [An,AB];obtain ⟨v,r,h1,h2,h3⟩:=hc;cases ha:Bh a with
  |true=>rw [ha]at h;exact ⟨v,r,h1,CZ ha h2,JA h h3⟩
  |false=>rw [ha]at h;cases h
end
mutual
theorem eD {E:Ag} (ho:∀i a,E.sy i=some a->a.one=true):∀{a:AV} {v:Value},Bh a=true->Aj E (Ar E.sy a) v->Ac E a v
 | .opq,_,h,_=>by simp [Bh]at h
 | .bool _,_,_,hc=>by grind [Ar,Aj,Ac]
 | .int _ _,_,_,hc=>by grind [Ar,Aj,Ac]
 | .flt _ _,_,_,hc=>by grind [Ar,Aj,Ac]
 | .nan _,_,_,hc=>by grind [Ar,Aj,Ac]
 | .str _,_,_,hc=>by grind [Ar,Aj,Ac]
 | .nptr,_,_,hc=>by grind [Ar,Aj,Ac]
 | .ptr id off,v,h,hc=>by simp [Bh]at h
 | .vptr cs,v,h,hc=>by simp only [Bh]at h;simp only [Ar,Aj]at hc;simp only [Ac];obtain ⟨b,o,vs,h1,h2,h3⟩:=hc;exact ⟨b,o,vs,h1,M4 ho h h2,h3⟩
 | .nsl,_,_,hc=>by grind [Ar,Aj,Ac]
 | .sl ..,v,h,hc=>by simp [Bh]at h
 | .vsl _ _ cs,v,h,hc=>by obtain ⟨b,o,vs,c,h1,h2,h3,h4⟩:=hc;exact ⟨b,o,vs,c,h1,h2,M4 ho h h3,h4⟩
 | .nmap,_,_,hc=>by grind [Ar,Aj,Ac]
 | .map id,v,h,hc=>by simp [Bh]at h
 | .nfn,_,_,hc=>by grind [Ar,Aj,Ac]
 | .fn f cap,v,h,hc=>by simp only [Bh]at h;simp only [Ar,Aj]at hc;simp only [Ac];obtain ⟨vs,h1,h2⟩:=hc;exact ⟨vs,h1,M4 ho h h2⟩
 | .nif,_,_,hc=>by grind [Ar,Aj,Ac]
 | .iface t a,v,h,hc=>by simp only [Bh]at h;simp only [Ar,Aj]at hc;simp only [Ac];obtain ⟨u,h1,h2⟩:=hc;exact ⟨u,h1,eD ho h h2⟩
 | .agg cs,v,h,hc=>by simp only [Bh]at h;simp only [Ar,Aj]at hc;simp only [Ac];obtain ⟨vs,h1,h2⟩:=hc;exact ⟨vs,h1,M4 ho h h2⟩
 | .tup cs,v,h,hc=>by simp only [Bh]at h;simp only [Ar,Aj]at hc;simp only [Ac];obtain ⟨vs,h1,h2⟩:=hc;exact ⟨vs,h1,M4 ho h h2⟩
 | .sym i,v,h,hc=>by
   grind [Ar,Ac,Aj]
 | .slx ..,v,h,hc=>by simp [Bh]at h
 | .ptx ..,v,h,hc=>by simp [Bh]at h
theorem M4 {E:Ag} (ho:∀i a,E.sy i=some a->a.one=true):∀{as:List AV} {vs:List Value},Bm as=true->AB E (An E.sy as) vs->Ah E as vs
 |[],_,_,hc=>by grind [An,Ah,AB]
 |a::as,vs,h,hc=>by
  simp only [Bm]at h;simp only [An,AB]at hc;simp only [Ah];obtain ⟨v,r,h1,h2,h3⟩:=hc;cases ha:Bh a with
  |true=>rw [ha]at h;exact ⟨v,r,h1,eD ho ha h2,M4 ho h h3⟩
  |false=>rw [ha]at h;cases h
end
mutual
theorem Jf {E:Ag}:∀{a:AV} {v:Value},okC a=true->Ac E a v->Aj E a v
 | .opq,_,h,_=>by simp [okC]at h
 | .bool _,_,_,hc=>by grind [Aj,Ac]
 | .int _ _,_,_,hc=>by grind [Aj,Ac]
 | .flt _ _,_,_,hc=>by grind [Aj,Ac]
 | .nan _,_,_,hc=>by grind [Aj,Ac]
 | .str _,_,_,hc=>by grind [Aj,Ac]
 | .nptr,_,_,hc=>by grind [Aj,Ac]
 | .ptr _ _,_,h,_=>by simp [okC]at h
 | .vptr cs,v,h,hc=>by simp only [okC]at h;simp only [Ac]at hc;simp only [Aj];obtain ⟨b,o,vs,h1,h2,h3⟩:=hc;exact ⟨b,o,vs,h1,Gv h h2,h3⟩
 | .nsl,_,_,hc=>by grind [Aj,Ac]
 | .sl ..,_,h,_=>by simp [okC]at h
 | .vsl _ _ cs,v,h,hc=>by obtain ⟨b,o,vs,c,h1,h2,h3,h4⟩:=hc;exact ⟨b,o,vs,c,h1,h2,Gv h h3,h4⟩
 | .nmap,_,_,hc=>by grind [Aj,Ac]
 | .map _,_,h,_=>by simp [okC]at h
 | .nfn,_,_,hc=>by grind [Aj,Ac]
 | .fn f cap,v,h,hc=>by simp only [okC]at h;simp only [Ac]at hc;simp only [Aj];obtain ⟨vs,h1,h2⟩:=hc;exact ⟨vs,h1,Gv h h2⟩
 | .nif,_,_,hc=>by grind [Aj,Ac]
 | .iface t a,v,h,hc=>by simp only [okC]at h;simp only [Ac]at hc;simp only [Aj];obtain ⟨u,h1,h2⟩:=hc;exact ⟨u,h1,Xp h h2⟩
 | .agg _,_,h,_=>by simp [okC]at h
 | .tup _,_,h,_=>by simp [okC]at h
 | .sym _,_,h,_=>by simp [okC]at h
 | .slx ..,_,h,_=>by simp [okC]at h
 | .ptx ..,_,h,_=>by simp [okC]at h
theorem Xp {E:Ag}:∀{a:AV} {v:Value},okI a=true->Ac E a v->Aj E a v
 | .opq,_,h,_=>by simp [okI]at h
 | .bool _,_,_,hc=>by grind [Aj,Ac]
 | .int _ _,_,_,hc=>by grind [Aj,Ac]
 | .flt _ _,_,_,hc=>by grind [Aj,Ac]
 | .nan _,_,_,hc=>by grind [Aj,Ac]
 | .str _,_,_,hc=>by grind [Aj,Ac]
 | .nptr,_,_,hc=>by grind [Aj,Ac]
 | .ptr _ _,_,h,_=>by simp [okI]at h
 | .vptr cs,v,h,hc=>by simp only [okI]at h;simp only [Ac]at hc;simp only [Aj];obtain ⟨b,o,vs,h1,h2,h3⟩:=hc;exact ⟨b,o,vs,h1,Gv h h2,h3⟩
 | .nsl,_,_,hc=>by grind [Aj,Ac]
 | .sl ..,_,h,_=>by simp [okI]at h
 | .vsl _ _ cs,v,h,hc=>by obtain ⟨b,o,vs,c,h1,h2,h3,h4⟩:=hc;exact ⟨b,o,vs,c,h1,h2,Gv h h3,h4⟩
 | .nmap,_,_,hc=>by grind [Aj,Ac]
 | .map _,_,h,_=>by simp [okI]at h
 | .nfn,_,_,hc=>by grind [Aj,Ac]
 | .fn f cap,v,h,hc=>by simp only [okI]at h;simp only [Ac]at hc;simp only [Aj];obtain ⟨vs,h1,h2⟩:=hc;exact ⟨vs,h1,Gv h h2⟩
 | .nif,_,_,hc=>by grind [Aj,Ac]
 | .iface t a,v,h,hc=>by simp only [okI]at h;simp only [Ac]at hc;simp only [Aj];obtain ⟨u,h1,h2⟩:=hc;exact ⟨u,h1,Xp h h2⟩
 | .agg cs,v,h,hc=>by simp only [okI]at h;simp only [Ac]at hc;simp only [Aj];obtain ⟨vs,h1,h2⟩:=hc;exact ⟨vs,h1,Gv h h2⟩
 | .tup _,_,h,_=>by simp [okI]at h
 | .sym _,_,h,_=>by simp [okI]at h
 | .slx ..,_,h,_=>by simp [okI]at h
 | .ptx ..,_,h,_=>by simp [okI]at h
theorem Gv {E:Ag}:∀{as:List AV} {vs:List Value},Ak as=true->Ah E as vs->AB E as vs
 |[],_,_,hc=>by grind [AB,Ah]
 |a::as,vs,h,hc=>by rw [CA]at h;obtain ⟨h1,h2⟩:=Au h;simp only [Ah]at hc;simp only [AB];obtain ⟨v,r,e,c1,c2⟩:=hc;exact ⟨v,r,e,Jf h1 c1,Gv h2 c2⟩
end
def Ag.with (E:Ag) (Y:Sy):Ag:={ E with sy:=Y.v,syl:=Y.l }
theorem Aj.with {E:Ag} {Y:Sy} {a:AV} {v:Value} (h:Aj E a v):Aj (E.with Y) a v:=Js (E:=E) (E':=E.with Y) (λ_ _ _ h=>h) h
mutual
theorem Ac.with {E:Ag} {Y:Sy} (hv:∀i a,E.sy i=some a->Y.v i=some a) (hl:∀i l,E.syl i=some l->Y.l i=some l):∀{a:AV} {v:Value},Ac E a v->Ac (E.with Y) a v
 | .opq,_,_=>by simp [Ac]
 | .bool _,_,hc=>by grind [Ac]
 | .int _ _,_,hc=>by grind [Ac]
 | .flt _ _,_,hc=>by grind [Ac]
 | .nan _,_,hc=>by grind [Ac]
 | .str _,_,hc=>by grind [Ac]
 | .nptr,_,hc=>by grind [Ac]
 | .ptr id off,v,hc=>by simpa [Ac,Ag.with]using hc
 | .vptr cs,v,hc=>by obtain ⟨b,o,vs,h1,h2,h3⟩:=hc;exact ⟨b,o,vs,h1,Ah.with hv hl h2,h3⟩
 | .nsl,_,hc=>by grind [Ac]
 | .sl ..,v,hc=>by simpa [Ac,Ag.with]using hc
 | .vsl ..,v,hc=>by obtain ⟨b,o,vs,c,h1,h2,h3,h4⟩:=hc;exact ⟨b,o,vs,c,h1,h2,Ah.with hv hl h3,h4⟩
 | .nmap,_,hc=>by grind [Ac]
 | .map id,v,hc=>by simpa [Ac,Ag.with]using hc
 | .nfn,_,hc=>by grind [Ac]
 | .fn f cap,v,hc=>by simp only [Ac]at hc⊢;obtain ⟨vs,h1,h2⟩:=hc;exact ⟨vs,h1,Ah.with hv hl h2⟩
 | .nif,_,hc=>by grind [Ac]
 | .iface t a,v,hc=>by simp only [Ac]at hc⊢;obtain ⟨u,h1,h2⟩:=hc;exact ⟨u,h1,Ac.with hv hl h2⟩
 | .agg cs,v,hc=>by simp only [Ac]at hc⊢;obtain ⟨vs,h1,h2⟩:=hc;exact ⟨vs,h1,Ah.with hv hl h2⟩
 | .tup cs,v,hc=>by simp only [Ac]at hc⊢;obtain ⟨vs,h1,h2⟩:=hc;exact ⟨vs,h1,Ah.with hv hl h2⟩
 | .sym i,v,hc=>by obtain ⟨a,h1,h2,h3⟩:=hc;exact ⟨a,hv _ _ h1,h2,h3.with⟩
 | .slx id sz i,v,hc=>by obtain ⟨a,h1,h2⟩:=hc;exact ⟨a,hv _ _ h1,h2⟩
 | .ptx id j sz off,v,hc=>by obtain ⟨k,n,h1,h2⟩:=hc;exact ⟨k,n,hv _ _ h1,h2⟩
theorem Ah.with {E:Ag} {Y:Sy} (hv:∀i a,E.sy i=some a->Y.v i=some a) (hl:∀i l,E.syl i=some l->Y.l i=some l):∀{as:List AV} {vs:List Value},Ah E as vs->Ah (E.with Y) as vs
 |[],_,hc=>by grind [Ah]
 |a::as,vs,hc=>by simp only [Ah]at hc⊢;obtain ⟨v,r,h1,h2,h3⟩:=hc;exact ⟨v,r,h1,Ac.with hv hl h2,Ah.with hv hl h3⟩
end
theorem ConE.with {E:Ag} {Y:Sy} (hv:∀i a,E.sy i=some a->Y.v i=some a) (hl:∀i l,E.syl i=some l->Y.l i=some l):∀{as:List (AV×AV×Nat)} {es:List MapEntry},ConE E as es->ConE (E.with Y) as es
 |[],_,hc=>hc
 |(k,v,n)::as,es,hc=>by simp only [ConE]at hc⊢;obtain ⟨e,r,h1,h2,h3,h4,h5⟩:=hc;exact ⟨e,r,h1,h2.with hv hl,h3.with hv hl,h4,ConE.with hv hl h5⟩
def BF.withS {E:Ag} {w:World} {own:Nat->Option Nat} {id:Nat} {k:A2} (h:BF E w own id k) {Y:Sy} (hv:∀i a,E.sy i=some a->Y.v i=some a) (hl:∀i l,E.syl i=some l->Y.l i=some l):BF (E.with Y) w own id k:=by
 refine h.imp (λ_ h=>h) (λh=>⟨h.1,h.2.sub λi hi=>hv i _ hi⟩) λb o h1 h2 h3=>⟨h2,?_⟩;cases k with
 |cells cs=>obtain ⟨arr,t,e1,e2,e3,e4⟩:=h3;refine ⟨arr,t,e1,e2,e3,λi a ha=>?_⟩;obtain ⟨v,hv',hc⟩:=e4 i a ha;exact ⟨v,hv',hc.with hv hl⟩
 |map es c=>obtain ⟨h0,es',e1,e2⟩:=h3;exact ⟨h0,es',e1,e2.with hv hl⟩
 |syl j=>obtain ⟨len,sz,cs,h0,hlen,arr,t,e1,e2,e3,e4⟩:=h3;refine ⟨len,sz,cs,hv _ _ h0,hlen,arr,t,e1,e2,e3,λi a ha=>?_⟩;obtain ⟨v,hv',ho,hc⟩:=e4 i a ha;exact ⟨v,hv',ho,hc.with⟩
 |fz cs=>obtain ⟨arr,t,fr,e1,e2,e3,e5,e4⟩:=h3;refine ⟨arr,t,fr,e1,e2,e3,e5,λi a ha=>?_⟩;obtain ⟨v,hv',hc⟩:=e4 i a ha;exact ⟨v,hv',hc.with hv hl⟩
 |mpl j=>obtain ⟨h0,n,cs,e1,es',clock,e2,e3,e4⟩:=h3;exact ⟨h0,n,cs,hv _ _ e1,es',clock,e2,e3,e4.imp λ_ _ hc=>hc.with⟩
theorem As.with {B:World} {pr:Nat->Prop} {E:Ag} {H:AHeap} {w:World} (h:As B pr E H w) {Y:Sy} (hv:∀i a,E.sy i=some a->Y.v i=some a) (hl:∀i l,E.syl i=some l->Y.l i=some l):
  As B pr (E.with Y) H w:=by
 obtain ⟨own,g1,g2,g3⟩:=h.own;refine { own:=⟨own,λid k hk=>?_,g2,g3⟩,imm:=h.imm,ib:=h.ib,fresh:=h.fresh,resv:=h.resv,vds:=h.vds,szs:=h.szs,prot:=h.prot,size:=h.size,os:=h.os,output:=h.output };exact (g1 id k hk).withS hv hl
def Ag.with_leF (k:Nat) {E:Ag} {Y:Sy} (hv:∀i,i<64->Y.v i=E.sy i):E.leF k (E.with Y):=⟨λ_ _ _ h=>h,λ_ _ h=>h,λ_ _ _ h=>h,rfl,hv⟩
section
variable [Gl]
def BQ.leF {k:Nat} {E E':Ag} (h:BQ E) (hle:E.leF k E'):BQ E':=
 ⟨λg=>MP hle.imm (λi a hi hx=>(hle.sy i hi).trans hx) (Gl.nr g) (h.1 g),Gl.gtm _ _ hle.sy h.2⟩
omit [Gl]in
theorem Ca.with {P:Program} {E:Ag} {Y:Sy} (hv:∀i a,E.sy i=some a->Y.v i=some a) (hl:∀i l,E.syl i=some l->Y.l i=some l):∀{D:Bj} {ds:List Deferred},Ca P E D ds->Ca P (E.with Y) D ds
 |[],ds,hd=>hd
 |(f,ag)::D,ds,hd=>by obtain ⟨vs,r,h1,h2,h3,h4⟩:=hd;exact ⟨vs,r,h1,h2.with hv hl,h3,h4.with hv hl⟩
theorem St.with {P:Program} {B:World} {pr:Nat->Prop} {N:Nat} {E:Ag} {T:Tm} {H:AHeap} {D:Bj} {a:Act} {w:World} (st:St P B pr N E T H D a w) {Y:Sy}
  (hv:∀i a,E.sy i=some a->Y.v i=some a) (hl:∀i l,E.syl i=some l->Y.l i=some l) (hlo:∀i,i<64->Y.v i=E.sy i):St P B pr N (E.with Y) T H D a w:=
 ⟨⟨st.t.size,st.t.le,λt ht=>(st.t.con t ht).with hv hl,st.t.gl.leF (Ag.with_leF 0 hlo)⟩,st.r.with hv hl,st.d.with hv hl⟩
end
def Sy.put (Y:Sy) (n:Nat) (a:AV):Sy:={ Y with v:=λi=>if i=n then some a else Y.v i }
def Sy.puts (Y:Sy):Nat->List AV->Sy
 |_,[]=>Y
 |n,a::r=>(Y.put n a).puts (n+1) r
theorem Sy.put_same (Y:Sy) (n:Nat) (a:AV):(Y.put n a).v n=some a:=by simp [Sy.put]
theorem Sy.put_ne (Y:Sy) {n i:Nat} (a:AV) (h:i≠n):(Y.put n a).v i=Y.v i:=by simp [Sy.put,h]
def AA (Y:Sy) (n:Nat):Prop:=64<=n/\∀i,n<=i->Y.v i=none
theorem AA.put {Y:Sy} {n:Nat} (h:AA Y n) (a:AV):AA (Y.put n a) (n+1):=⟨by have:=h.1;omega,λi hi=>by rw [Sy.put_ne _ _ (by omega)];exact h.2 i (by omega)⟩
def AA.low {Y:Sy} {n:Nat} (h:AA Y n) (a:AV) (i:Nat) (hi:i<64):(Y.put n a).v i=Y.v i:=Sy.put_ne _ _ (by have:=h.1;omega)
def AA.sub_put {Y:Sy} {n:Nat} (h:AA Y n) (a:AV):∀i x,Y.v i=some x->(Y.put n a).v i=some x:=λi x hx=>by
 have:i≠n:=λe=>by rw [e,h.2 n (Nat.le_refl _)]at hx;cases hx
 grind [Sy.put_ne]
theorem AA.puts:∀{Y:Sy} {n:Nat} (l:List AV),AA Y n->AA (Y.puts n l) (n+l.length)/\(∀i x,Y.v i=some x->(Y.puts n l).v i=some x)/\(Y.puts n l).l=Y.l/\∀i,i<64->(Y.puts n l).v i=Y.v i
 |Y,n,[],h=>⟨by simpa [Sy.puts]using h,λ_ _ h=>h,rfl,λ_ _=>rfl⟩
 |Y,n,a::r,h=>by obtain ⟨h1,h2,h3,h4⟩:=AA.puts (Y:=Y.put n a) (n:=n+1) r (h.put a);refine ⟨?_,λi x hx=>h2 i x (h.sub_put a i x hx),h3,λi hi=>(h4 i hi).trans (h.low a i hi)⟩;have:n+(a::r).length=n+1+r.length:=(by simp;omega);rw [this];exact h1
def Ae:Nat->Nat->List AV
 |_,0=>[]
 |n,m+1=>.sym n::Ae (Nat.succ n) m
theorem F7:∀{Y:Sy} {n:Nat} (l:List AV),AA Y n->∀i a,l[i]? =some a->(Y.puts n l).v (n+i)=some a
 |Y,n,[],h,i,a,ha=>by simp at ha
 |Y,n,b::r,h,i,a,ha=>by
  show ((Y.put n b).puts (n+1) r).v (n+i)=some a;cases i with
  |zero=>simp only [List.getElem?_cons_zero]at ha;cases ha;exact (AA.puts (Y:=Y.put n b) (n:=n+1) r (h.put b)).2.1 n b (Sy.put_same _ _ _)
  |succ i=>simp only [List.getElem?_cons_succ]at ha;have:=F7 (Y:=Y.put n b) (n:=n+1) r (h.put b) i a ha;rw [show n+(i+1)=n+1+i by omega];exact this
def NZ {E:Ag}:∀(n:Nat) (l:List AV) (vs:List Value),Ak l=true->(∀i a,l[i]? =some a->E.sy (n+i)=some a)->AB E l vs->Ah E (Ae n l.length) vs
 |n,[],vs,_,_,hc=>by grind [Ae,Ah,AB]
 |n,a::r,vs,hk,hs,hc=>by
  rw [CA]at hk;obtain ⟨k1,k2⟩:=Au hk;obtain ⟨v,q,rfl,h1,h2⟩:=hc;refine ⟨v,q,rfl,?_,NZ (n+1) r q k2 (λi b hb=>?_) h2⟩;exact ⟨a,by simpa using hs 0 a rfl,Fx k1,h1⟩
  .have:=hs (i+1) b (by grind)
   grind
mutual
theorem Tz (s:Nat->Option AV):∀{a:AV},okC a=true->Ar s a=a
 | .bool _,_=>rfl
 | .int _ _,_=>rfl
 | .flt _ _,_=>rfl
 | .nan _,_=>rfl
 | .str _,_=>rfl
 | .nptr,_=>rfl
 | .nsl,_=>rfl
 | .nmap,_=>rfl
 | .nfn,_=>rfl
 | .nif,_=>rfl
 | .vptr cs,h=>by simp only [okC]at h;simp only [Ar];rw [EF s h]
 | .vsl _ _ cs,h=>by simp only [okC]at h;simp only [Ar];rw [EF s h]
 | .fn _ cs,h=>by simp only [okC]at h;simp only [Ar];rw [EF s h]
 | .iface _ a,h=>by simp only [okC]at h;simp only [Ar];rw [ee s h]
 | .opq,h=>by simp [okC]at h
 | .ptr ..,h=>by simp [okC]at h
 | .sl ..,h=>by simp [okC]at h
 | .map ..,h=>by simp [okC]at h
 | .agg ..,h=>by simp [okC]at h
 | .tup ..,h=>by simp [okC]at h
 | .sym ..,h=>by simp [okC]at h
 | .slx ..,h=>by simp [okC]at h
 | .ptx ..,h=>by simp [okC]at h
theorem ee (s:Nat->Option AV):∀{a:AV},okI a=true->Ar s a=a
 | .bool _,_=>rfl
 | .int _ _,_=>rfl
 | .flt _ _,_=>rfl
 | .nan _,_=>rfl
 | .str _,_=>rfl
 | .nptr,_=>rfl
 | .nsl,_=>rfl
 | .nmap,_=>rfl
 | .nfn,_=>rfl
 | .nif,_=>rfl
 | .vptr cs,h=>by simp only [okI]at h;simp only [Ar];rw [EF s h]
 | .vsl _ _ cs,h=>by simp only [okI]at h;simp only [Ar];rw [EF s h]
 | .fn _ cs,h=>by simp only [okI]at h;simp only [Ar];rw [EF s h]
 | .iface _ a,h=>by simp only [okI]at h;simp only [Ar];rw [ee s h]
 | .agg cs,h=>by simp only [okI]at h;simp only [Ar];rw [EF s h]
 | .opq,h=>by simp [okI]at h
 | .ptr ..,h=>by simp [okI]at h
 | .sl ..,h=>by simp [okI]at h
 | .map ..,h=>by simp [okI]at h
 | .tup ..,h=>by simp [okI]at h
 | .sym ..,h=>by simp [okI]at h
 | .slx ..,h=>by simp [okI]at h
 | .ptx ..,h=>by simp [okI]at h
theorem EF (s:Nat->Option AV):∀{l:List AV},Ak l=true->An s l=l
 |[],_=>rfl
 |a::r,h=>by rw [CA]at h;obtain ⟨h1,h2⟩:=Au h;simp only [An];rw [Tz s h1,EF s h2]
end
def DF (sz:Nat) (b:AV):Option (Nat×List AV):=match b with
 | .agg l=>some (Nat.div (Bs l) sz,l)
 |b=>match C4 b with
  |some n=>match Cx ⟨AE,0,0⟩ b n sz with
   |some l=>some (n,l)
   |none=>none
  |none=>none
def El (sz bytes:Nat) (a:AV) (n:Nat) (l:List AV):Option AV:=match decide (l.length=n*sz)with
 |false=>none
 |true=>match a with
  | .nsl=>match n with
    |0=>some .nsl
    |_=>match Nat.ble (Nat.mul n bytes) 1073741824&&Nat.ble n 1073741824&&Nat.blt 0 bytes with
     |true=>some (.vsl n sz l)
     |false=>none
  | .vsl len sz' cs=>match decide (sz'=sz/\cs.length=len*sz)with
    |false=>none
    |true=>match n with
     |0=>some (.vsl len sz' cs)
     |_=>match Nat.ble (Nat.mul (Nat.add len n) bytes) 1073741824&&Nat.ble (Nat.add len n) 1073741824&&Nat.blt 0 bytes with
      |true=>some (.vsl (Nat.add len n) sz (cs++l))
      |false=>none
  |_=>none
def Lm (d:TypeDesc) (k v:AV):List AV->Option (List AV)
 |[]=>some [k,v]
 |[_]=>none
 |q::x::r=>match Kh d k q with
  |some true=>some (q::v::r)
  |some false=>match Lm d k v r with
   |some l=>some (q::x::l)
   |none=>none
  |none=>none
def XD (d:TypeDesc) (m k v:AV):Option AV:=match Il d k with
 |true=>match m with
  | .vsl n z cs=>match Nat.beq z 2&&Nat.beq (Nat.mul n 2) (Bs cs)with
    |true=>match Lm d k v cs with
     |some l=>some (.vsl (Nat.div (Bs l) 2) 2 l)
     |none=>none
    |false=>none
  |_=>none
 |false=>none
def Eb:List AV->List (AV×AV×Nat)
 |[]=>[]
 |[_]=>[]
 |k::v::r=>(KW k,v,0)::Eb r
def Lk (P:Program) (kt:TypeId) (k v:AV):List AV->Option (List AV)
 |[]=>some [Ge k,v]
 |[_]=>none
 |q::x::r=>match OU P kt k (KW q)with
  |some true=>match QU k (KW q)with
   |true=>some (Ge k::v::r)
   |false=>none
  |some false=>match Lk P kt k v r with
   |some l=>some (q::x::l)
   |none=>none
  |none=>none
inductive XOp where
 |bin (op:BinOp) (t:TypeId) (cx cy:Bool)
 |un (op:UnOp)
 |conv (s d:TypeId)
 |idx (t:TypeId)
 |iaddr (t:TypeId)
 |faddr (s:TypeId) (f:Nat)
 |load (t:TypeId)
 |fld (s:TypeId) (f:Nat)
 |slc (t:TypeId) (lo hi:Bool)
 |len (t:TypeId)
 |nilc
 |app (sz bytes:Nat)
 |mm (mx:Bool)
 |mput (t:TypeId)
 |mlen
 |ext (f:FuncId)
 |inb
 |ldx (t:TypeId) (sz off:Nat)
 |stx (t:TypeId) (sz off:Nat)
 |tkx
 |mget (t:TypeId) (es:List (AV×AV×Nat))
 |mlk (t:TypeId)
 |mpu (t:TypeId)
 |emp
 |mkx (sz bytes:Nat) (zs:List AV)
 |mkz (sz bytes:Nat) (zs:List AV)
 |skx
 |flat (sz off es len:Nat)
 |opn (len sz:Nat)
def h0:AHeap:=⟨AE,0,0⟩
def GJ:AV->Bool
 | .ptr _ _| .sl _ _ _ _ _| .map _| .slx _ _ _| .ptx _ _ _ _=>false
 |_=>true
def IB (x:AV) (r:Option AV):Option AV:=match GJ x with
 |true=>r
 |false=>none
def Ew (cs:List AV):AHeap:=(⟨AE,0,0⟩:AHeap).set 0 (.cells cs)
def XOp.run (P:Program):XOp->List AV->Option AV
 | .bin op t cx cy,[x,y]=>Dj P op t cx cy x y
 | .un op,[x]=>RK op x
 | .conv s d,[x]=>IB x (Gw P h0 s d x)
 | .idx t,[x,i]=>QP P t x i
 | .iaddr t,[x,i]=>Ht P t x i
 | .faddr s f,[x]=>Hd P s x f
 | .load t,[x]=>IB x (Ds P h0 t x)
 | .fld s f,[x]=>RH P s x f
 | .slc t false false,[x]=>IB x (DT P h0 t x none none)
 | .slc t true false,[x,a]=>IB x (DT P h0 t x (some a) none)
 | .slc t false true,[x,b]=>IB x (DT P h0 t x none (some b))
 | .slc t true true,[x,a,b]=>IB x (DT P h0 t x (some a) (some b))
 | .len t,[x]=>IB x (Ey P h0 t x)
 | .nilc,[x]=>match x with
   | .vptr cs=>some (.vptr cs)
   |_=>none
 | .mm mx,[x,y]=>match x with
   | .int k a=>match y with
     | .int k' b=>match Nat.beq (Fi k) (Fi k')with
       |true=>some (.int k (match mx with|true=>max a b|false=>min a b))
       |false=>none
     |_=>none
   |_=>none
 | .mput t,[m,k,v]=>match P.underlying t with
   |some (.map kt _)=>match P.underlying kt with
    |some d=>XD d m k v
    |none=>none
   |_=>none
 | .mlen,[m]=>match m with
   | .vsl n z cs=>match Nat.beq z 2 with
     |true=>some (.int .i64 (.ofNat n))
     |false=>none
   |_=>none
 | .ext f,[x]=>match FD x with
   |some u=>match Cs P (callFunc f #[u])with
    |some (.value v)=>some (Gd v)
    |_=>none
   |none=>none
 | .mget t es,[k]=>E6 P ((⟨AE,0,0⟩:AHeap).set 0 (.map es 0)) t (.map 0) k false
 | .mlk t,[m,k]=>match m with
   | .vsl n z cs=>match Nat.beq z 2 with
     |true=>E6 P ((⟨AE,0,0⟩:AHeap).set 0 (.map (Eb cs) 0)) t (.map 0) k false
     |false=>none
   |_=>none
 | .mpu t,[m,k,v]=>match P.underlying t with
   |some (.map kt _)=>match P.underlying kt with
    |some d=>match H9 d&&Jn P kt k with
     |true=>match m with
      | .vsl n z cs=>match Nat.beq z 2&&Nat.beq (Nat.mul n 2) (Bs cs)with
        |true=>match Lk P kt k v cs with
         |some l=>some (.vsl (Nat.div (Bs l) 2) 2 l)
         |none=>none
        |false=>none
      |_=>none
     |false=>none
    |none=>none
   |_=>none
 | .inb,[x,i]=>match x with
   | .vsl ln _ _=>match i with
     | .int _ m=>match Sx.idx m ln with
       |some n=>some (.int .i64 (.ofNat n))
       |none=>none
     |_=>none
   |_=>none
 | .ldx t sz off,[x,j]=>match x with
   | .vsl _ _ cs=>match j with
     | .int _ (.ofNat n)=>Ds P (Ew cs) t (.ptr 0 (Nat.add (Nat.mul n sz) off))
     |_=>none
   |_=>none
 | .stx t sz off,[x,j,v]=>match x with
   | .vsl ln z cs=>match j with
     | .int _ (.ofNat n)=>match EU P (Ew cs) t (.ptr 0 (Nat.add (Nat.mul n sz) off)) v with
       |some r=>match r.2.get 0 with
        |some (.cells cs')=>some (.vsl ln z cs')
        |_=>none
       |none=>none
     |_=>none
   |_=>none
 | .tkx,[x,r,i]=>match i with
   | .int _ (.ofNat m)=>match x with
     | .vsl ln z0 _=>match r with
       | .vsl n z cs=>match Nat.beq z z0&&(Nat.ble m ln&&Nat.ble m n)with
         |true=>match CJ (Nat.mul m z) cs with
          |some cs'=>some (.vsl m z cs')
          |none=>none
         |false=>none
       |_=>none
     | .nsl=>match r with
       | .nsl=>match m with
         |0=>some .nsl
         |_=>none
       |_=>none
     |_=>none
   |_=>none
 | .flat sz off es ln,[j,h]=>match j with
   | .int _ (.ofNat n)=>match h with
     | .int _ i=>match Sx.idx i ln with
       |some m=>some (.int .i64 (.ofNat (Nat.add (Nat.add (Nat.mul n sz) off) (Nat.mul m es))))
       |none=>none
     |_=>none
   |_=>none
 | .opn ln sz,[x]=>match x with
   | .vsl n z cs=>match Nat.beq n ln&&(Nat.beq z sz&&Nat.beq (Bs cs) (Nat.mul ln sz))with
     |true=>some (.agg cs)
     |false=>none
   |_=>none
 | .mkx sz bytes zs,[a]=>match a with
   | .int _ (.ofNat n)=>match Nat.ble (Nat.mul bytes n) 16777216&&Nat.ble n 16777216 with
     |true=>some (.vsl n sz (CM zs n))
     |false=>none
   |_=>none
 | .mkz sz bytes zs,[a]=>match a with
   | .int _ (.ofNat n)=>match Nat.blt 0 sz&&(Nat.blt 0 bytes&&(Nat.blt 0 n&&(Nat.ble (Nat.mul n bytes) 1073741824&&Nat.ble n 1073741824)))with
     |true=>some (.vsl n sz (CM zs n))
     |false=>none
   |_=>none
 | .skx,[x,a]=>match x with
   | .vsl n z cs=>match a with
     | .int _ (.ofNat m)=>match Nat.ble m n with
       |true=>some (.vsl (Nat.sub n m) z (Bk (Nat.mul m z) cs))
       |false=>none
     |_=>none
   |_=>none
 | .emp,[a]=>match a with
   | .nsl=>some (.bool true)
   | .vsl n _ _=>some (.bool (Nat.beq n 0))
   |_=>none
 | .app sz bytes,[a,b]=>match DF sz b with
   |some (n,l)=>El sz bytes a n l
   |none=>none
 |_,_=>none
theorem tV {P:Program} {H:AHeap} {t:TypeId} {x:AV} (h:GJ x=true):Ds P H t x=Ds P h0 t x:=by
 have hc:∀n,DB H x n=DB h0 x n:=λn=>by cases x<;>first|rfl|(simp [GJ]at h)
 grind [Ds]
theorem yH {P:Program} {H:AHeap} {t:TypeId} {x:AV} (h:GJ x=true):Ey P H t x=Ey P h0 t x:=by
 unfold Ey
 grind [GJ]
theorem iY {H:AHeap} {x:AV} (h:GJ x=true) (n sz:Nat):Cx H x n sz=Cx h0 x n sz:=by cases x<;>first|rfl|(simp [GJ]at h)
theorem uA {P:Program} {H:AHeap} {s d:TypeId} {x:AV} (h:GJ x=true):Gw P H s d x=Gw P h0 s d x:=by cases x<;>first|rfl|(simp [GJ]at h)
theorem VG {P:Program} {H:AHeap} {t:TypeId} {x:AV} (h:GJ x=true) (lo hi:Option AV):DT P H t x lo hi=DT P h0 t x lo hi:=by cases x<;>first|rfl|(simp [GJ]at h)
theorem M3 {x:AV} {r:Option AV} {a:AV} (h:IB x r=some a):GJ x=true/\r=some a:=by
 grind [IB]
structure XS where
 T:Tm
 H:AHeap
 n:Nat
def UO {α β:Type} (f:α->β) (q:Q8 α):Q8 β:=Q8.casesOn q λa b c d e g h i=>⟨f a,f b,f c,f d,f e,f g,f h,f i⟩
def BZ (f:AV->AV) (T:Tm):Tm:=UO (UO (UO f)) T
theorem sA {α β:Type} (f:α->β) (q:Q8 α):∀i:Nat,Q8.at8 i (UO f q)=f (Q8.at8 i q)
 |0=>by rfl
 |1=>by rfl
 |2=>by rfl
 |3=>by rfl
 |4=>by rfl
 |5=>by rfl
 |6=>by rfl
 |n+7=>by rfl
theorem E8 (f:AV->AV) (T:Tm) (t:Nat):Ao (BZ f T) t=f (Ao T t):=by
 grind [Ou,BZ,sA]
def Gt (i:Nat) (b:Bool) (a:AV):AV:=match a with
 | .sym j=>match Nat.beq j i with
   |true=>.bool b
   |false=>.sym j
 |a=>a
def XS.know (S:XS) (i:Nat) (b:Bool):XS:=⟨BZ (Gt i b) S.T,S.H,S.n⟩
variable [Gl]
def FO (T:Tm) (o:Oper):Option (XOp×List AV):=match o.op with
 | .binOp op t x y _=>some (.bin op t (FW x) (FW y),[look T x,look T y])
 | .unOp op _ x=>some (.un op,[look T x])
 | .convert s d x=>some (.conv s d,[look T x])
 | .index t x i=>some (.idx t,[look T x,look T i])
 | .indexAddr t x i=>some (.iaddr t,[look T x,look T i])
 | .fieldAddr s x f=>some (.faddr s f,[look T x])
 | .load t a=>some (.load t,[look T a])
 | .field s x f=>some (.fld s f,[look T x])
 | .slice t x lo hi mx=>match mx with
   |none=>match lo with
    |none=>match hi with
     |none=>some (.slc t false false,[look T x])
     |some b=>some (.slc t false true,[look T x,look T b])
    |some a=>match hi with
     |none=>some (.slc t true false,[look T x,look T a])
     |some b=>some (.slc t true true,[look T x,look T a,look T b])
   |some _=>none
 | .nilCheck x=>some (.nilc,[look T x])
 | .call c=>match c.callee with
   | .builtin b=>match b with
     | .len=>match c.args.toList,c.argTypes.toList with
       |[x],[t]=>some (.len t,[look T x])
       |_,_=>none
     | .max=>match c.args.toList with
       |[x,y]=>some (.mm true,[look T x,look T y])
       |_=>none
     | .min=>match c.args.toList with
       |[x,y]=>some (.mm false,[look T x,look T y])
       |_=>none
     |_=>none
   |_=>none
 |_=>none
omit [Gl]in
def YZ (P:Program) (t:TypeId):Option Nat:=match P.underlying t with
 |some d=>match Iy d with
  |true=>match P.info? t with
   |some i=>some i.size
   |none=>none
  |false=>none
 |none=>none
omit [Gl]in
def O5 (P:Program) (op:XOp):Option Nat:=match op with
 | .load t=>YZ P t
 | .ldx t _ _=>YZ P t
 | .fld s f=>match P.underlying s with
   |some (.struct fields)=>match fields[f]? with
    |some fl=>YZ P fl.type
    |none=>none
   |_=>none
 |_=>none
def Wc (a:AV):Option Nat:=match a with
 | .sym i=>some i
 |_=>none
def fC (all:List Oper) (o:Oper) (T:Tm):Option Nat:=match o.guard with
 |none=>none
 |some (j,_)=>match LQ all j with
  |some oj=>match oj.dst with
   |some d=>Wc (Ao T d)
   |none=>none
  |none=>none
def RG (T:Tm) (x:Operand):Option Nat:=match x with
 | .tmp t=>match Nat.blt t 512 with
   |true=>Wc (Ao T t)
   |false=>none
 |_=>none
def aI (o:Oper) (T:Tm):Option (Nat×Operand×Operand):=match o.op with
 | .pick c a b=>match RG T c with
   |some i=>some (i,a,b)
   |none=>none
 |_=>none
structure FN where
 o:BinOp
 l:Bool
 i:Nat
 c:AV
 v:AV
def FN.has (f:FN) (o:BinOp) (x y:AV):Bool:=decide (o=f.o)&&(match f.l with
 |true=>CG x (.sym f.i)&&CG y f.c
 |false=>CG y (.sym f.i)&&CG x f.c)
def QZ:List FN->XOp->List AV->Option AV
 |[],_,_=>none
 |f::r,op,ag=>match op,ag with
  | .bin o _ _ _,[x,y]=>match f.has o x y with
    |true=>some f.v
    |false=>QZ r op ag
  |_,_=>none
def FN.ok (P:Program) (f:FN) (a:AV):Prop:=∀t cx cy,(match f.l with
 |true=>Dj P f.o t cx cy a f.c
 |false=>Dj P f.o t cx cy f.c a)=some f.v
structure XF where
 f:FuncId
 args:List AV
 v:AV
structure S8 where
 b:List FN
 x:List XF
def SH:List XF->FuncId->List AV->Option AV
 |[],_,_=>none
 |q::r,f,ag=>match Nat.beq f q.f&&Ek ag q.args with
  |true=>some q.v
  |false=>SH r f ag
def br (x:List XF) (T:Tm) (o:Oper):Option AV:=match o.op with
 | .call c=>match c.callee with
   | .value f=>match f with
     | .func id=>SH x id (I7 (look T) c.args.toList)
     |_=>none
   |_=>none
 |_=>none
def tn (P:Program) (Y:Sy) (q:XF):Prop:=∀(B:World) (pr:Nat->Prop) (E:Ag) (H:AHeap) (w:World) (vs:List Value),(∀i,i<64->E.sy i=Y.v i)->BQ E->As B pr E H w->Ah E q.args vs->
 ∃u,(callFunc q.f ⟨vs⟩).run P w=.ok (.value u) w/\Ac E q.v u
def Br (P:Program) (fc:S8) (Y:Sy):Prop:=(∀f∈fc.b,okC f.v=true/\okC f.c=true/\∃a,Y.v f.i=some a/\f.ok P a)/\∀q∈fc.x,tn P Y q
end Go.Sx
namespace Go.Sx
variable [Gl]
section
variable {P:Program} {N k:Nat}
theorem W3 {all:List Oper} {K K':KP} {X X':XP} (hk:∀Y T H D,K Y T H D->K' Y T H D) (hx:∀Y r,X Y r->X' Y r):∀(l:List Oper) (Y:Sy) (T:Tm) (H:AHeap) (D:Bj),
  Hq P N k all l Y T H D K X->Hq P N k all l Y T H D K' X'
 |[],Y,T,H,D,h=>hk _ _ _ _ h
 |o::r,Y0,T0,H0,D0,h=>by
  obtain ⟨Y,T,H,D,hw,h⟩:=h;refine ⟨Y,T,H,D,hw,?_⟩;split at h;exact h.elim
  .obtain ⟨t,ht,h1,h2⟩:=h;have ih:=W3 (all:=all) hk hx r;refine ⟨t,ht,λe=>?_,λe=>ih _ _ _ _ (h2 e)⟩;rcases h1 e with h1|h1|h1|h1
   .unfold HK at h1⊢;split at h1<;>grind [CX.mono]
   refine .inr (.inl ?_);obtain ⟨Y',r,H',h3,h4⟩:=h1;exact ⟨Y',r,H',ih _ _ _ _ h3,h4⟩;refine .inr (.inr (.inl ?_));obtain ⟨g,ag,Y',r,h2,h3,h4⟩:=h1;exact ⟨g,ag,Y',r,h2,ih _ _ _ _ h3,h4⟩;refine .inr (.inr (.inr ?_));obtain ⟨g,ag,R,h2,h3,h4,h5⟩:=h1;exact ⟨g,ag,R,h2,λY' r H' h=>ih _ _ _ _ (h3 Y' r H' h),λY' v H' h=>hx _ _ (h4 Y' v H' h),h5⟩
omit [Gl]in
def aB {K K':KP} {X X':XP} (hk:∀Y T H D,K Y T H D->K' Y T H D) (hx:∀Y r,X Y r->X' Y r) {Y:Sy} {r:A7} (h:DH K X Y r):DH K' X' Y r:=by
 cases r with
 |norm T H D=>exact hk _ _ _ _ h
 |exit id T H D=>exact hx _ _ h
 |ret T H D=>exact hx _ _ h
 |pan v T H D=>exact hx _ _ h
omit [Gl]in
def uJ {id:Nat} {K K':KP} {X X':XP} (hk:∀Y T H D,K Y T H D->K' Y T H D) (hx:∀Y r,X Y r->X' Y r) {Y:Sy} {r:A7} (h:XI id K X Y r):XI id K' X' Y r:=by
 cases r with
 |norm T H D=>exact hx _ _ h
 |exit id' T H D=>exact ⟨λe=>hk _ _ _ _ (h.1 e),λe=>hx _ _ (h.2 e)⟩
 |ret T H D=>exact hx _ _ h
 |pan v T H D=>exact hx _ _ h
def Fs:∀(c:Code) {K K':KP} {X X':XP} (hk:∀Y T H D,K Y T H D->K' Y T H D) (hx:∀Y r,X Y r->X' Y r) (Y:Sy) (T:Tm) (H:AHeap) (D:Bj),
  Cc P N k c Y T H D K X->Cc P N k c Y T H D K' X'
 | .skip,_,_,_,_,hk,hx,Y,T,H,D,h=>by grind [Cc]
 | .label _,_,_,_,_,hk,hx,Y,T,H,D,h=>by grind [Cc]
 | .exit id,_,_,_,_,hk,hx,Y,T,H,D,h=>by grind [Cc]
 | .ret,_,_,_,_,hk,hx,Y,T,H,D,h=>by grind [Cc]
 | .region id Af false,_,_,_,_,hk,hx,Y,T,H,D,h=>by grind [Cc,W3]
 | .region id Af true,_,_,_,_,hk,hx,Y,T,H,D,h=>by rcases h with h|h;obtain ⟨Y1,T1,H1,D1,hw,call,r,hc,hd,hr⟩:=h;exact .inl ⟨Y1,T1,H1,D1,hw,call,r,hc,hd,aB hk hx hr⟩;refine .inr λB pr E a w hy st=>Code.wp_mono (λe a w hq=>?_) (h B pr E a w hy st);obtain ⟨Y',r,hr,hq⟩:=hq;exact ⟨Y',r,aB hk hx hr,hq⟩
 | .seq a b,_,_,_,_,hk,hx,Y,T,H,D,h=>by unfold Cc at h⊢;exact Fs a (λY T H D h=>Fs b hk hx Y T H D h) hx Y T H D h
 | .cond c a b,_,_,_,_,hk,hx,Y,T,H,D,h=>by unfold Cc at h⊢;obtain ⟨Y1,T1,H1,D1,hw,t,ht,h1,h2⟩:=h;exact ⟨Y1,T1,H1,D1,hw,t,ht,λe=>Fs a hk hx _ _ _ _ (h1 e),λe=>Fs b hk hx _ _ _ _ (h2 e)⟩
 | .block id b,_,_,_,_,hk,hx,Y,T,H,D,h=>by unfold Cc at h⊢;exact Fs b hk (λY r h=>uJ hk hx h) _ _ _ _ h
 | .loop b,_,_,_,_,hk,hx,Y,T,H,D,h=>by unfold Cc at h⊢;obtain ⟨ι,S,μ,i0,hw,hb⟩:=h;exact ⟨ι,S,μ,i0,hw,λi=>Fs b (λ_ _ _ _ h=>h) hx _ _ _ _ (hb i)⟩
 | .scope _,_,_,_,_,hk,hx,Y,T,H,D,h=>by grind [Cc]
 | .goto _,_,_,_,_,hk,hx,Y,T,H,D,h=>by grind [Cc]
 | .refuse _,_,_,_,_,hk,hx,Y,T,H,D,h=>by grind [Cc]
 | .rangeFunc _ _ _ _,_,_,_,_,hk,hx,Y,T,H,D,h=>by grind [Cc]
end
section
variable {P:Program} {N k:Nat} {Q:AV->Prop} {fuel:Nat} {fc:S8}
omit [Gl]in
def aV {E:Ag} {i:Nat} {b:Bool} (hi:E.sy i=some (.bool b)) {a:AV} {v:Value} (h:Ac E a v):Ac E (Gt i b a) v:=by
 unfold Gt
 grind [zb',Ac,Aj]
def UX {Y:Sy} {i:Nat} {b:Bool} (hi:Y.v i=some (.bool b)) (S:XS) (D:Bj):A1 P N k Y S.T S.H D Y (S.know i b).T S.H D:=λB pr E a w hy st=>
 ⟨E,Ag.leF_refl k E,hy,⟨st.t.size,st.t.le,λt ht=>by show Ac E (Ao (BZ (Gt i b) S.T) t) _;rw [E8];exact aV (by rw [hy.v];exact hi) (st.t.con t ht),st.t.gl⟩,st.r,st.d⟩
def Rg (s:Nat->Option AV) (T:Tm) (x:Operand):AV:=match Bh (look T x)with
 |true=>Ar s (look T x)
 |false=>look T x
def y0 {E:Ag} {N:Nat} {T:Tm} {a:Act} (h:Bf E N T a.tmps) (x:Operand):Ac E (Rg E.sy T x) (a.eval x):=by have hl:=h.look x;unfold Rg;split;rename_i hs;exact (CZ hs hl).con;exact hl
theorem Gj {s:Nat->Option AV} {T:Tm} {x:Operand} (h:Bh (look T x)=true):Rg s T x=Ar s (look T x):=by unfold Rg;rw [h]
omit [Gl]in
def DR {a:AV} {r:List AV} (h:Bm (a::r)=true):Bh a=true/\Bm r=true:=by
 simp only [Bm]at h
 grind
def qg {o:Oper} {op:XOp} {ag:List AV} {T:Tm} (hl:FO T o=some (op,ag)) (hmm:∀mx,op≠ .mm mx) (hs:Bm ag=true) {s:Nat->Option AV} {r:AV} (hr:op.run P (An s ag)=some r) (H:AHeap):
  B0 P (Rg s T) H o=some (.val r H):=by
 unfold FO at hl;unfold B0;split at hl
 .cases hl;obtain ⟨s1,s2⟩:=DR hs;obtain ⟨s2,_⟩:=DR s2
  grind [An,XOp.run,Gj,oV]
 .cases hl;obtain ⟨s1,_⟩:=DR hs
  grind [An,XOp.run,Gj,oV]
 .cases hl;obtain ⟨s1,_⟩:=DR hs
  grind [An,XOp.run,M3,Gj,OV,uA,oP]
 .cases hl;obtain ⟨s1,s2⟩:=DR hs;obtain ⟨s2,_⟩:=DR s2
  grind [An,XOp.run,Gj,oV]
 .cases hl;obtain ⟨s1,s2⟩:=DR hs;obtain ⟨s2,_⟩:=DR s2
  grind [An,XOp.run,Gj,oV]
 .cases hl;obtain ⟨s1,_⟩:=DR hs
  grind [An,XOp.run,Gj,oV]
 .cases hl;obtain ⟨s1,_⟩:=DR hs
  grind [An,XOp.run,M3,Gj,tV,oV]
 .cases hl;obtain ⟨s1,_⟩:=DR hs
  grind [An,XOp.run,Gj,oV]
 .rename_i t x lo hi mx ho;cases mx with
  |some _=>cases hl
  |none=>
   cases lo with
   |none=>
    cases hi with
    |none=>
     cases hl;obtain ⟨s1,_⟩:=DR hs
     grind [An,XOp.run,M3,M1,Gj,VG,oV]
    |some b=>
     cases hl;obtain ⟨s1,s2⟩:=DR hs;obtain ⟨s2,_⟩:=DR s2
     grind [An,XOp.run,M3,M1,Gj,VG,oV]
   |some a=>
    cases hi with
    |none=>
     cases hl;obtain ⟨s1,s2⟩:=DR hs;obtain ⟨s2,_⟩:=DR s2
     grind [An,XOp.run,M3,M1,Gj,VG,oV]
    |some b=>
     cases hl;obtain ⟨s1,s2⟩:=DR hs;obtain ⟨s2,s3⟩:=DR s2;obtain ⟨s3,_⟩:=DR s3
     grind [An,XOp.run,M3,M1,Gj,VG,oV]
 .cases hl;obtain ⟨s1,_⟩:=DR hs
  grind [An,XOp.run,Gj]
 .rename_i c ho;split at hl
  .rename_i b hb;split at hl
   .split at hl
    .cases hl;obtain ⟨s1,_⟩:=DR hs
     grind [An,XOp.run,M3,Jt,Gj,yH,oV]
    cases hl
   all_goals grind
  cases hl
 cases hl
def vg_ {o:Oper} {mx:Bool} {ag:List AV} {T:Tm} (hl:FO T o=some (.mm mx,ag)):∃x y ty,o.op=.call ⟨.builtin (match mx with|true=>.max|false=>.min),#[x,y],ty⟩/\ag=[look T x,look T y]:=by
 unfold FO at hl;split at hl<;>(first|(cases hl;done)|skip)
 .grind
 .rename_i c ho;split at hl
  .rename_i b hb;obtain ⟨callee,cargs,ty⟩:=c;subst hb;split at hl
   .grind
   .split at hl
    .rename_i x y h1;have h1:=Dt h1
     grind
    cases hl
   .split at hl
    .rename_i x y h1;have h1:=Dt h1
     grind
    cases hl
   cases hl
  cases hl
def XJ {o:Oper} {op:XOp} {ag:List AV} {T:Tm} (hl:FO T o=some (op,ag)) (hs:Bm ag=true) {B:World} {pr:Nat->Prop} {E:Ag} {a:Act} {w:World} {H:AHeap} {N:Nat} {r:AV} (hr:op.run P (An E.sy ag)=some r)
  (hrel:As B pr E H w) (ht:Bf E N T a.tmps):∃E' n v w',(execOp a.eval o).run P w=.ok n w'/\(n=.value v\/(n=.skip/\v=undef))/\E.le E'/\As B pr E' H w'/\Ac E' r v:=by
 by_cases hmm:∃mx,op=.mm mx
 .obtain ⟨mx,rfl⟩:=hmm;obtain ⟨x,y,ty,ho,rfl⟩:=vg_ hl;obtain ⟨s1,s2⟩:=DR hs;obtain ⟨s2,_⟩:=DR s2;have c1:=CZ s1 (ht.look x);have c2:=CZ s2 (ht.look y);simp only [An,XOp.run]at hr;split at hr
  .rename_i k p hp;split at hr
   .rename_i k' q hq;split at hr
    .cases hr;rw [hp]at c1;rw [hq]at c2;simp only [Aj]at c1 c2;have e:Array.map a.eval #[x,y]= #[a.eval x,a.eval y]:=(by simp);cases mx with
     |true=>refine ⟨E,.value (.int k (max p q)),_,w,?_,.inl rfl,Ag.le_refl E,hrel,by simp [Ac]⟩;unfold execOp;simp only [ho,resolve,Sem.run_bind,Sem.run_pure,Result.andThen_ok,invoke,builtin,e,c1,c2];simp [Builtin.max_,Builtin.max2,Int.max_def];omega
     |false=>refine ⟨E,.value (.int k (min p q)),_,w,?_,.inl rfl,Ag.le_refl E,hrel,by simp [Ac]⟩;unfold execOp;simp only [ho,resolve,Sem.run_bind,Sem.run_pure,Result.andThen_ok,invoke,builtin,e,c1,c2];simp [Builtin.min_,Builtin.min2,Int.min_def];omega
    cases hr
   cases hr
  cases hr
 exact We hrel (λx=>y0 ht x) (qg hl (λmx h=>hmm ⟨mx,h⟩) hs hr H)
def bl {o:Oper} {op:XOp} {ag:List AV} {T:Tm} (hl:FO T o=some (op,ag)) (hs:Bm ag=true) {Y:Sy} {r:AV} (hr:op.run P (An Y.v ag)=some r)
  {B:World} {pr:Nat->Prop} {E:Ag} {a:Act} {w:World} {H:AHeap} {D:Bj} (hy:E.At Y) (st:St P B pr N E T H D a w):
  ∃E' n v w',(execOp a.eval o).run P w=.ok n w'/\(n=.value v\/(n=.skip/\v=undef))/\E.le E'/\St P B pr N E' T H D a w'/\Ac E' r v:=by
 have hE:E.sy=Y.v:=hy.v;rw [←hE]at hr;obtain ⟨E',n,v,w',h1,h2,h3,h4,h5⟩:=XJ hl hs hr st.r st.t;exact ⟨E',n,v,w',h1,h2,h3,⟨st.t.mono h3,h4,st.d.mono h3⟩,h5⟩
def Br.sub {Y Y':Sy} (h:Br P fc Y) (hs:∀i x,Y.v i=some x->Y'.v i=some x) (hl:∀i,i<64->Y'.v i=Y.v i):Br P fc Y':=
 ⟨λf hf=>by
  obtain ⟨h1,h2,a,h3,h4⟩:=h.1 f hf
  grind,λq hq B pr E H w vs hy=>h.2 q hq B pr E H w vs λi hi=>(hy i hi).trans (hl i hi)⟩
omit [Gl]in
def mg:∀{l:List XF} {f:FuncId} {ag:List AV} {v:AV},SH l f ag=some v->⟨f,ag,v⟩∈l
 |[],f,ag,v,h=>by cases h
 |q::r,f,ag,v,h=>by unfold SH at h;split at h;rename_i hb;cases h;obtain ⟨h1,h2⟩:=Au hb;have h1:=zb' h1;have h2:=Fv h2;subst h1 h2;exact zd' ..;exact ze' _ (mg h)
def qN_ {o:Oper} {S:XS} {Y:Sy} {D:Bj} (hfc:Br P fc Y) {u:Tm->AV->Tm} {next:KP} {v:AV} (hv:br fc.x S.T o=some v) (hn:next Y (u S.T v) S.H D):F4 P N k o u Y S.T S.H D next:=by
 unfold br at hv;split at hv
 .rename_i c ho;split at hv
  .rename_i f hf;split at hv
   .rename_i id;have hq:=hfc.2 _ (mg hv);refine ⟨Y,v,S.H,hn,λB pr E a w hy st=>?_⟩;have hcon:Ah E (I7 (look S.T) c.args.toList) (c.args.toList.map a.eval):=QA (λx=>st.t.look x) _;obtain ⟨w1,h1,h2⟩:=hq B pr E S.H w _ (λi _=>by rw [hy.v]) st.t.gl st.r hcon;refine ⟨E,.value w1,w1,w,?_,.inl rfl,Ag.leF_refl k E,hy,st,h2⟩;obtain ⟨callee,ag,argTypes⟩:=c;have e:(⟨ag.toList.map a.eval⟩:Array Value)=ag.map a.eval:=(by grind);have ev:a.eval (.func id)=.func (.func id) #[] #[]:=rfl
    grind [execOp,resolve,Deferred.ofValue,invoke]
   cases hv
  cases hv
 cases hv
omit [Gl]in
def hJ:∀{l:List FN} {op:XOp} {ag:List AV} {v:AV},QZ l op ag=some v->∃f∈l,∃t cx cy x y,op=.bin f.o t cx cy/\ag=[x,y]/\v=f.v/\f.has f.o x y=true
 |[],op,ag,v,h=>by cases h
 |f::r,op,ag,v,h=>by unfold QZ at h;split at h;rename_i o t cx cy x y;split at h;rename_i hb;cases h;have h1:o=f.o:=AU (Au hb).1;subst h1;exact ⟨f,zd' ..,t,cx,cy,x,y,rfl,rfl,rfl,hb⟩;obtain ⟨f',hf,h⟩:=hJ h;exact ⟨f',ze' _ hf,h⟩;cases h
def wq {o:Oper} {op:XOp} {ag:List AV} {S:XS} {Y:Sy} {D:Bj} (hfc:Br P fc Y) (hl:FO S.T o=some (op,ag)) (hs:Bm ag=true) {u:Tm->AV->Tm} {next:KP} {v:AV}
  (hv:QZ fc.b op ag=some v) (hn:next Y (u S.T v) S.H D):F4 P N k o u Y S.T S.H D next:=by
 obtain ⟨f,hf,t,cx,cy,x,y,rfl,rfl,rfl,hb⟩:=hJ hv;obtain ⟨h1,h2,a,h3,h4⟩:=hfc.1 f hf;have hr:(XOp.bin f.o t cx cy).run P (An Y.v [x,y])=some f.v:=by
  have h4:=h4 t cx cy;have hb:=(Au hb).2;cases hl:f.l with
  |true=>
   grind [Dz,An,Ar,XOp.run,Tz]
  |false=>
   grind [Dz,An,Ar,XOp.run,Tz]
 refine ⟨Y,f.v,S.H,hn,λB pr E a w hy st=>?_⟩;obtain ⟨E',n,v,w',g1,g2,g3,st',g5⟩:=bl hl hs hr hy st;exact ⟨E',n,v,w',g1,g2,g3.leF k,hy.le g3,st',g5⟩
def WB {T:Tm} {c:Operand} {i:Nat} (h:RG T c=some i) (S:XS) (hS:S.T=T) (b:Bool):look (S.know i b).T c=.bool b:=by
 subst hS;unfold RG at h;split at h
 .rename_i t;split at h
  .rename_i hb;unfold Wc at h;split at h
   .have e1:look (S.know i b).T (.tmp t)=Ao (S.know i b).T t:=(by unfold look BE;simp only [hb];rfl);rw [e1];show Ao (BZ (Gt i b) S.T) t=_
    grind [E8,Gt,zh']
   cases h
  cases h
 cases h
omit [Gl]in
def gp {all:List Oper} {o:Oper} {g:Tm->Option Bool} (hg:Du all o=.mk g) {S:XS} {t:Bool} (h:g S.T=some t) (i:Nat) (b:Bool):g (S.know i b).T=some t:=by
 unfold Du at hg;split at hg;cases hg
 .rename_i j want hgu;split at hg
  .split at hg
   .rename_i d hd;split at hg
    .cases hg;have e:(Dy d).f (S.know i b).T=Gt i b ((Dy d).f S.T):=E8 _ _ _;show Es ((Dy d).f (S.know i b).T) want=some t;have h:Es ((Dy d).f S.T) want=some t:=h;rw [e];generalize (Dy d).f S.T=x at h⊢;cases x<;>first|exact h|(simp [Es]at h)
    grind
   grind
  grind
def Vz (Q:AV->Prop) (Y:Sy) (r:A5):Prop:=∃a H1 v m,r=.ret a H1/\Fe m H1 a=some v/\Bh v=true/\Q (Ar Y.v v)
end
end Go.Sx
namespace Go.Sx
def Gn:List AV->Bool
 |[]=>true
 |a::r=>match okI a with
  |true=>Gn r
  |false=>false
def dS {E:Ag}:∀{as:List AV} {vs:List Value},Gn as=true->Ah E as vs->AB E as vs
 |[],_,_,hc=>by grind [AB,Ah]
 |a::as,vs,h,hc=>by
  simp only [Ah]at hc;simp only [AB];obtain ⟨v,r,e,c1,c2⟩:=hc;simp only [Gn]at h;cases ha:okI a with
  |true=>rw [ha]at h;exact ⟨v,r,e,Xp ha c1,dS h c2⟩
  |false=>rw [ha]at h;cases h
theorem JN:∀{l:List AV},Ak l=true->∀a∈l,okC a=true
 |[],_,a,h=>by cases h
 |b::r,h,a,hm=>by
  rw [CA]at h;obtain ⟨h1,h2⟩:=Au h;cases hm with
  |head=>exact h1
  |tail _ hm=>exact JN h2 a hm
def kf:∀{Y:Sy} {n:Nat} (l:List AV) (i:Nat) (a:AV),(Y.puts n l).v i=some a->Y.v i=some a\/a∈l
 |Y,n,[],i,a,h=>.inl h
 |Y,n,b::r,i,a,h=>by rcases kf (Y:=Y.put n b) (n:=n+1) r i a h with h|h;by_cases e:i=n;subst e;rw [Sy.put_same]at h;cases h;exact .inr (zd' ..);rw [Sy.put_ne _ _ e]at h;exact .inl h;exact .inr (ze' _ h)
theorem bQ:∀n m:Nat,Bm (Ae n m)=true
 |_,0=>rfl
 |n,m+1=>by simp only [Ae,Bm,Bh];exact bQ (n+1) m
theorem pB {a:AV} (h:okC a=true):okI a=true:=by cases a<;>first|(exact h)|(simp [okC]at h)
variable [Gl]
def E9 {P:Program} {f:FuncId} {ag args' ls:List AV} {v:AV} (hok:Gn ag=true) (hv:BS v=true) (hso:Bm args'=true) (hls:Ak ls=true)
  (hden:∀Y,AA Y 64->An (Y.puts 64 ls).v args'=ag) (h:∀Y,AA Y 64->Gl.gt Y.v->A0 P 0 (Y.puts 64 ls) f args' H0 (Vz (· =v))):HL P f ag v:=by
 intro H B pr E w vs hg hr hc
 let Yg:Sy:=⟨λi=>if i<64 then E.sy i else none,λ_=>none⟩
 have hfr:AA Yg 64:=⟨za' _,λi hi=>Ab (by omega)⟩;have hlow:∀i,i<64->Yg.v i=E.sy i:=λi hi=>Ad hi;have hgt:Gl.gt Yg.v:=Gl.gtm _ _ hlow hg.2;obtain ⟨p1,p2,p3,p4⟩:=hfr.puts ls
 let E1:Ag:=⟨λ_=>none,E.sz,E.imm,λ_=>False,E.imm,(Yg.puts 64 ls).v,(Yg.puts 64 ls).l,λ_=>False⟩
 have hlow1:∀i,i<64->E1.sy i=E.sy i:=λi hi=>(p4 i hi).trans (hlow i hi);have hg1:BQ E1:=⟨λg=>MP (E:=E) (E':=E1) (λ_ _ _ h=>h) (λi a hi hx=>(hlow1 i hi).trans hx) (Gl.nr g) (hg.1 g),Gl.gtm _ _ hlow1 hg.2⟩
 have hrel:As w (λb=>b<w.heap.size) E1 H0 w:={
  own:=⟨λ_=>none,λid k hk=>(Xy hk).elim,λ_ _=>rfl,λ_ _ _ _=>rfl⟩
  imm:=hr.imm
  ib:=λ_ _ _ _ h=>h
  fresh:=λ_ _ _=>rfl
  resv:=λ_ h=>h.elim
  vds:=λ_ h=>h.elim
  szs:=hr.szs
  prot:=λb h=>⟨h,rfl⟩
  size:=za' _
  os:=rfl
  output:=rfl }
 have hone:∀i a,E1.sy i=some a->a.one=true:=λi a hx=>by
  rcases kf ls i a hx with hx|hx
  .by_cases hi:i<64
   .grind [Gl.gto]
   grind
  grind [Fx,JN]
 have hcon:Ah E1 args' vs:=by refine M4 hone hso ?_;have:An E1.sy args'=ag:=hden Yg hfr;rw [this];exact I9 (E:=E) (E':=E1) (λ_ _ _ h=>h) (dS hok hc)
 refine Calls.mono (h Yg hfr hgt w (λb=>b<w.heap.size) E1 w vs ⟨rfl,rfl,λ_ h=>h⟩ hg1 hrel hcon) λe w' he=>?_;obtain ⟨Y',r,⟨a,H1,v',m,rfl,hs,hso',hQ⟩,E',hle,hy',u,rfl,h1,h2⟩:=he;obtain ⟨E2,f1,f2,f3,f4,_,f5,f6⟩:=h2.freeze;have hcon2:=d7 h2 f1 f6 m _ _ _ hs h1;have hv0:Aj E2 v u:=by have:=CZ hso' hcon2;rw [f1.2.2.2.1,hy'.v,hQ]at this;exact this
 obtain ⟨own,g1,g2,g3⟩:=hr.own;have hsz:∀b n,E.sz b=some n->E2.sz b=some n:=λb n hx=>f1.2.1 b n (hle.sz b n hx);have him:∀b o v,E.imm b o=some v->E2.imm b o=some v:=λb o v hx=>f1.2.2.1 b o v (hle.imm b o v hx);have hold:∀b o v,b<w.heap.size->E2.imm b o=some v->E.imm b o=some v:=λb o v hb hx=>by have:=f5.ib b o v hb hx;rw [f4,hle.bim]at this;exact this
 refine ⟨⟨E.φ,E2.sz,E2.imm,E.res,E.bim,E.sy,E.syl,E.vd⟩,⟨⟨λ_ _ h=>h,hsz,him,rfl,rfl⟩,rfl,rfl,rfl⟩,u,rfl,(Js (E:=E2) (E':=⟨E.φ,E2.sz,E2.imm,E.res,E.bim,E.sy,E.syl,E.vd⟩) (λ_ _ _ h=>h) hv0).con,?_⟩;have hsub:E.sub ⟨E.φ,E2.sz,E2.imm,E.res,E.bim,E.sy,E.syl,E.vd⟩:=⟨λ_ _ h=>h,hsz,him,rfl,rfl⟩
 refine { own:=⟨λb=>if b<w.heap.size then own b else none,λid k hk=>?_,λb hb=>?_,λb o v hx=>?_⟩,imm:=f5.imm,ib:=λb o v hb hx=>?_,fresh:=hr.fresh,resv:=hr.resv,vds:=hr.vds,szs:=f5.szs,prot:=λb hb=>?_,
          size:=zg' hr.size h2.size,os:=h2.os.trans hr.os,output:=h2.output.trans hr.output }
 exact (g1 id k hk).imp (λ_ h=>h) (λh=>h) λb o e1 e2 e3=>⟨(Ad e3.lt).trans e2,e3.sub hsub (h2.prot b e3.lt).2⟩
 .grind
 .grind
 have hlt:=zc' (hr.prot b hb).1 hr.size;exact hr.ib b o v hb (hold b o v hlt hx);obtain ⟨e1,e2⟩:=hr.prot b hb;exact ⟨e1,(h2.prot b (zc' e1 hr.size)).2.trans e2⟩
end Go.Sx
namespace Go.Sx
variable [Gl]
omit [Gl]in
def gL {P:Program} {k:IntKind} {x c r:Int} (hc:c≠0) (hr:x.tmod c=r) (t:TypeId) (cx cy:Bool):Dj P .rem t cx cy (.int k x) (.int k c)=some (.int k r):=by subst hr;show JG P .rem k x k c=_;have hb:Nat.beq (Fi k) (Fi k)=true:=zh' _;unfold JG;rw [hb];unfold M5;simp only [binOp,Op.intDiv,hc,ne_eq,not_true_eq_false,if_false];rfl
end Go.Sx
