/-
  Regions whose order is open are sound; so are calls to any depth, and a run that answers true.
-/
import Derived.Test.YtmgenobllanmjaaGreatDoorSxU
import Derived.RowKit3
set_option linter.unusedVariables false
set_option linter.unusedSimpArgs false
namespace Go.Sx
variable [Gl]
section
variable {P:Program} {call:CallF} {N:Nat} {ops:List Oper} {l:List SI} {T0:Tm} {base:Nat}
omit [Gl]in
theorem mM_ {i:Nat} {x:SI} (hx:l[i]? =some x):be_ l base (i+1)=match x.kd with| .mem=>Nat.succ (be_ l base i)|_=>be_ l base i:=by
 grind [be_,bX_]
theorem fT_ (hP:PlanOk ops l):∀(rest:List SI) (i id:Nat) (s s':DS) (ev0:Nat->Evt),(∀k,rest[k]? =l[i+k]?)->DInv P call N ops l T0 base i ev0 s->id=be_ l base i->
  dv_ P call N ops rest i id s=some s'->∃ev,DInv P call N ops l T0 base (i+rest.length) ev s'
 |[],i,id,s,s',ev0,hrest,inv,hid,h=>by cases h;grind
 |x::r,i,id,s,s',ev0,hrest,inv,hid,h=>by
  have hx:l[i]? =some x:=(by have:=hrest 0;grind);unfold dv_ at h;split at h;cases h
  .rename_i s1 h1;have hr:∀k,r[k]? =l[i+1+k]? :=λk=>by
    have:=hrest (k+1)
    grind
   obtain ⟨e,he⟩:=mo_ hP inv hx hid hr h1;have inv1:=he (λj=>if j=i then e else ev0 j) (λj hj=>if_neg (by omega)) (if_pos rfl);have hid':=mM_ (base:=base) hx;have el:i+(x::r).length=i+1+r.length:=(by simp;omega);rw [el];split at h;rename_i hk;rw [hk]at hid';exact fT_ hP r (i+1) (Nat.succ id) s1 s' _ hr inv1 (by rw [hid',hid]) h
   .rename_i hk;refine fT_ hP r (i+1) id s1 s' _ hr inv1 ?_ h;rw [hid',hid];cases hkd:x.kd<;>first|rfl|exact absurd hkd hk
theorem rw_ (hP:PlanOk ops l) {ev:Nat->Evt} {s:DS} (inv:DInv P call N ops l T0 base l.length ev s) (hr:fy_ P s.Gs s.rd=true):Facts P call N ops l ev T0 (be_ l base) s.Gs s.dead where
 each:=λi x hx=>by
  have hi:i<l.length:=(List.getElem?_eq_some_iff.1 hx).1;rcases inv.each i x hx hi with h|⟨u,R,h1,h2,h3⟩;exact .inl h
  .refine .inr ⟨u,R,h1,h2,?_⟩;generalize ev i=e at h3;cases h3 with
   |off hg hw=>exact .off hg hw
   |pure hg hk h=>exact .pure hg hk h
   |read hg hk g1 h hm=>
    refine .read hg hk λm G q1 q2 q3=>?_;by_cases e:m=x.lo
    .grind
    exact gG_ s.rd hr _ hm m G (by grind) q2 q3
   |fl hg hk hy hj hbit hno hlater ht h=>exact .fl hg hk hy hj hbit hno hlater ht h
   |mem hg hk h hb=>exact .mem hg hk h hb
   |wr hg hk h1 h2 ht h=>exact .wr hg hk h1 h2 ht h
   |die hg hk h1 ht hd h=>exact .die hg hk h1 ht hd h
 dead:=λd v H hd=>(inv.gsd d v H hd).1
 row:=λj y a id b hy he=>inv.row j y a id b hy (List.getElem?_eq_some_iff.1 hy).1 he
 inj:=λi j x y hx hy kx ky h=>n8_ hx hy kx ky h
end
theorem ll_ {P:Program} {call:CallF} {N:Nat} {ops:List Oper} {x:SI} {rest:List SI} {i id:Nat} {s s':DS} (h:eF_ P call N ops x rest i id s=some s'):∃gs,s'.Gs=s.Gs++gs:=by
 unfold eF_ at h;split at h;simp_all
 .split at h;cases h
  .split at h;cases h
   .split at h
    .unfold nV_ at h;repeat' split at h
     all_goals first
      |(cases h;done)
      |(cases h;exact ⟨_,bE_ _ _⟩)
      |(cases h;exact ⟨[],(List.append_nil _).symm⟩)
    .unfold lk_ at h;repeat' split at h
     all_goals first
      |(cases h;done)
      |(cases h;exact ⟨_,bE_ _ _⟩)
      |(cases h;exact ⟨[],(List.append_nil _).symm⟩)
theorem gm_ {P:Program} {call:CallF} {N:Nat} {ops:List Oper}:∀{rest:List SI} {i id:Nat} {s s':DS},dv_ P call N ops rest i id s=some s'->∃gs,s'.Gs=s.Gs++gs
 |[],i,id,s,s',h=>by cases h;simp_all
 |x::r,i,id,s,s',h=>by
  unfold dv_ at h;split at h;cases h
  .rename_i s1 h1;obtain ⟨g1,e1⟩:=ll_ h1;split at h;all_goals
    obtain ⟨g2,e2⟩:=gm_ h;exact ⟨g1++g2,by rw [e2,e1,List.append_assoc]⟩
theorem mn_ {P:Program} {call:CallF} {N:Nat} {ops:List Oper} {rest:List SI} {i id:Nat} {T:Tm} {G:AHeap} {s':DS} (h:dv_ P call N ops rest i id ⟨T,[G],[],[],none⟩=some s'):s'.Gs[0]? =some G:=by
 grind [gm_]
theorem ic_ {P:Program} (hm:P.follows .mixedOrders=true) {call:CallF} (hcall:an_ P call) (N:Nat):gK_ P N call:=by
 intro id ops T H D r h B pr E a w st;unfold iJ_ at h;split at h;cases h
 .rename_i l n hpl;obtain ⟨hP,hn⟩:=lN_ hpl;split at h;cases h
  .rename_i hroom;have hroom:H.next+n<=H.hi:=by simp_all
   split at h;cases h
   .rename_i s hrun
    have inv0:DInv P call N ops.toList l T (H.hi-n) 0 (λ_=>.gone) ⟨T,[⟨H.tr,H.next,H.hi-n⟩],[],[],none⟩:={
     slot:=λt ht=>.inl ⟨rfl,λj x _ hs=>by simp at hs⟩
     gs:=λ_=>by
      grind [wAt,fc_]
     gsd:=λd v H hd=>by cases hd
     fl:=λf hf=>by simp at hf
     each:=λj x _ hj=>by omega
     row:=λj y a id b _ hj=>by omega
     ft:=λf hf=>by simp at hf }
    obtain ⟨ev,inv⟩:=fT_ hP l 0 (H.hi-n) _ s _ (λk=>by grind) inv0 (by simp [be_,a2_]) hrun;rw [Nat.zero_add]at inv;split at h;cases h
    .rename_i hre;have F:=rw_ hP inv hre;have hidr:∀(j:Nat) (x:SI),l[j]? =some x->x.kd=.mem->H.next<=be_ l (H.hi-n) j/\be_ l (H.hi-n) j<H.hi/\H.hi-n<=be_ l (H.hi-n) j:=λj x hx hk=>by
      have h1:=bX_ l j x hx
      grind [eE_,be_]
     have h0:∀(j:Nat) (x:SI),l[j]? =some x->x.kd=.mem->¬E.res (be_ l (H.hi-n) j):=λj x hx hk hres=>(by obtain ⟨g1,g2,_⟩:=hidr j x hx hk;exact (st.r.resv _ hres).2 ⟨g1,g2⟩);have hres0:∀id,b9_ E l (be_ l (H.hi-n)) (λj=>(Array.replicate ops.size false).getD j false) id->E.φ id=none/\¬(H.next<=id/\id<H.hi-n):=λid hid=>by
      rcases hid with hid|⟨j,x,hx,_,hk,rfl⟩
      .obtain ⟨g1,g2⟩:=st.r.resv id hid
       grind
      obtain ⟨g1,g2,g3⟩:=hidr j x hx hk;exact ⟨st.r.fresh _ g1 g2,λhx=>by omega⟩
     have hempty:∀j,(Array.replicate ops.size false).getD j false=false:=λj=>(by rw [Array.getD_eq_getD_getElem?,Array.getElem?_replicate];split<;>rfl);have invS:jZ_ P B pr N E D ops.toList l ev T (be_ l (H.hi-n)) s.Gs (λj=>(Array.replicate ops.size false).getD j false) a { w with drawn:=w.drawn+1 }:=by
      refine ⟨E.withRes _,⟨H.tr,H.next,H.hi-n⟩,⟨H.tr,H.next,H.hi-n⟩,{ sub:=Env.sub_withRes _ _,res:=rfl,bim:=rfl,vd:=rfl,vd0:=st.r.vds,gl:=st.t.gl,size:=st.t.size,dfs:=st.d,slot:=?_,g:=?_,r:=?_,nx:=rfl,hi:=rfl,old:=λ_ _ h=>h,row:=?_ }⟩;intro t ht;exact ⟨tget T t,.inl ⟨rfl,λj x _ hs=>Bool.noConfusion ((hempty j).symm.trans hs)⟩,(st.t.con t ht).sub (Env.sub_withRes _ _)⟩
      .grind [fc_,mn_]
      have h1:Rel B pr E ⟨H.tr,H.next,H.hi-n⟩ { w with drawn:=w.drawn+1 }:=(st.r.drawn _).forget (H':=⟨H.tr,H.next,H.hi-n⟩) (λid k hk=>hk) (Nat.le_refl _) (by grind);exact h1.reres hres0 (λid h=>.inl (st.r.vds id h))
      grind
     refine wp_region_any hm ?_;have hcl0:Cl l ev (λj=>(Array.replicate ops.size false).getD j false):=⟨λi hi=>Bool.noConfusion ((hempty i).symm.trans hi),λi hi=>Bool.noConfusion ((hempty i).symm.trans hi),λi x j _ hi=>Bool.noConfusion ((hempty i).symm.trans hi)⟩;cases hdd:s.dead with
     |some p=>
      obtain ⟨d,v,H'⟩:=p;rw [hdd]at h;simp only at h;split at h
      .rename_i T' hT';cases h;refine q1_ hcall hP st.t.le F h0 (me_ l T T' hT') (λd' v' H'' hd'=>by grind) (λS a w inv' hcl hall=>?_) ops.size _ a _ (by simp) ?_ hcl0 invS;have hd1:=(inv.gsd d v H' hdd);exact absurd hd1.1 (hcl.ev d (hall d hd1.2.1)).2
       grind
      cases h
     |none=>
      rw [hdd]at h;simp only at h;split at h
      .rename_i G hG;cases h;refine q1_ (T':=topq) hcall hP st.t.le F h0 (λt _=>.inl (ca_ t)) (λd' v' H'' hd'=>by grind) (λS a w inv' hcl hall=>?_) ops.size _ a _ (by simp) ?_ hcl0 invS
       .obtain ⟨E',G',K,inv'⟩:=inv';have hS:∀j x,l[j]? =some x->S j=decide (j<l.length):=λj x hj=>by
         grind
        have hGG:G'=G:=by
         have h1:=inv'.g;have h2:cc_ S ops.toList 0=wAt ops.toList l.length:=by
          refine db_ _ _ λj o ho hw=>?_
          grind [ik_]
         rw [i6_,inv.gs hdd]at hG
         grind
        subst hGG;obtain ⟨t1,t2,t3⟩:=k8_ s.fl G' inv.ft;have hsub:∀id k,(f8_ s.fl G').get id=some k->K.get id=some k:=λid k hk=>by rcases t3 id k hk with hk|⟨f,hf,rfl,rfl⟩;exact inv'.old id k hk;obtain ⟨y,q,f1,f2,f3,f4⟩:=inv.fl f hf;exact (inv'.row f.op y q f.id f.b f1 f3 (hall _ f2) λk' y' q' g1 g2 g3=>f4 k' y' q' g1 ((List.getElem?_eq_some_iff.1 g1).1) g3).1
        have hr1:Rel B pr E' (f8_ s.fl G') w:=inv'.r.forget hsub (by rw [t1,inv'.nx];grind) (by rw [t2,inv'.hi];grind);have hs:=Env.sub_withRes E' E.res;refine ⟨E'.withRes E.res,⟨Env.sub_trans inv'.sub hs,rfl,inv'.bim,inv'.vd⟩,rfl,?_,?_,?_⟩;refine ⟨inv'.size,st.t.le,λt ht=>?_,(st.t.gl.sub inv'.sub).sub hs⟩;obtain ⟨q,q1,q2⟩:=inv'.slot t ht;have q3:=(inv.slot t ht).congr (S':=S) λj x hj _=>(hS j x hj).symm;rw [q3.unique q1];exact q2.sub hs;refine hr1.reres (λid hid=>?_) (λid h=>st.r.vds id (by rw [←inv'.vd];exact h));have:=inv'.r.resv id (by rw [inv'.res];exact .inl hid);rw [t1,t2,←inv'.nx,←inv'.hi];exact this;exact inv'.dfs.sub (Env.sub_trans inv'.sub hs)
       grind
      cases h
def j0_ (P:Program):Prop:=∀(f:FuncId) (args:List AV) (v:AV) (H:AHeap),Gl.ov f args H=some v->∀(B:World) (pr:Nat->Prop) (E:Env) (w:World) (vs:List Value),GlOk E->Rel B pr E H w->ConL E args vs->
    Calls P f ⟨vs⟩ w (FPost B pr E (.ret v H))
theorem cd_ {P:Program} (hm:P.follows .mixedOrders=true) (ho:j0_ P):∀n,an_ P (aM_ P n)
 |0=>λf args H r h=>by cases h
 |n+1=>λf args H r h=>by unfold aM_ at h;split at h;rename_i v hv;cases h;exact ho f args v H hv;exact mg_ (cd_ hm ho n) (λN=>ic_ hm (cd_ hm ho n) N) n f args H r h
def E0:Env:=⟨λ_=>none,λ_=>none,λ_ _=>none,λ_=>False,λ_ _=>none,λ_=>none,λ_=>none,λ_=>False⟩
omit [Gl]in
theorem lD_ {id:Nat} {k:ABlk} (hk:H0.get id=some k):False:=by
 grind [c5_,AHeap.get,H0]
def fI_ (im:Nat->Nat->Option Value):Env:=⟨λ_=>none,λ_=>none,im,λ_=>False,im,λ_=>none,λ_=>none,λ_=>False⟩
def GrownB (W w':World):Prop:=W.keptBut w' (λ_=>False)/\(∀a,a.block<W.heap.size->w'.frozen? a=W.frozen? a)/\W.heap.size<=w'.heap.size
omit [Gl]in
theorem rB_ {w w':World} (h1:w.heap.size<=w'.heap.size) (h2:∀b,b<w.heap.size->w'.heap[b]? =w.heap[b]?) (h3:w'.os=w.os) (h4:w'.output=w.output):GrownB w w':=by
 refine ⟨⟨h3,h4,λi hi=>?_⟩,λa ha=>by grind [World.frozen?],h1⟩
 grind
end Go.Sx
namespace Go.Sx
def e2_ (f:AV->Option AV):List AV->Option (List AV)
 |[]=>some []
 |a::r=>match f a with
  |some b=>match e2_ f r with
   |some l=>some (b::l)
   |none=>none
  |none=>none
def ex_:Nat->AHeap->AV->Option AV
 |0,_,_=>none
 |n+1,H,a=>match a with
  | .sl id off len sz _=>match H.get id with
    |some (.cells cs)=>match aX_ (Nat.mul len sz) (aj_ off cs)with
     |some l=>match e2_ (ex_ n H) l with
      |some l'=>some (.vsl len sz l')
      |none=>none
     |none=>none
    |_=>none
  | .ptr id off=>match H.get id with
    |some (.cells cs)=>match e2_ (ex_ n H) (aj_ off cs)with
     |some l'=>match l' with
      |[]=>none
      |_=>some (.vptr l')
     |none=>none
    |_=>none
  | .map _=>none
  | .slx id _ i=>match H.get id with
    |some (.syl j)=>match Nat.beq j i with
     |true=>some (.sym i)
     |false=>none
    |_=>none
  | .ptx _ _ _ _=>none
  | .vptr cs=>match e2_ (ex_ n H) cs with
    |some l'=>some (.vptr l')
    |none=>none
  | .vsl len sz cs=>match e2_ (ex_ n H) cs with
    |some l'=>some (.vsl len sz l')
    |none=>none
  | .fn f cs=>match e2_ (ex_ n H) cs with
    |some l'=>some (.fn f l')
    |none=>none
  | .agg cs=>match e2_ (ex_ n H) cs with
    |some l'=>some (.agg l')
    |none=>none
  | .tup cs=>match e2_ (ex_ n H) cs with
    |some l'=>some (.tup l')
    |none=>none
  | .iface t a=>match ex_ n H a with
    |some b=>some (.iface t b)
    |none=>none
  |a=>some a
section
variable {B:World} {pr:Nat->Prop} {E:Env} {H:AHeap} {w:World}
theorem dY_ (nx hi id:Nat):(⟨hnil,nx,hi⟩:AHeap).get id=none:=by
 grind [AHeap.get_of_lt,c5_,AHeap.get_of_ge]
theorem Rel.freezeS (h:Rel B pr E H w) {F H':AHeap} (hF:∀id k,F.get id=some k->H.get id=some k) (hH:∀id k,H'.get id=some k->H.get id=some k/\F.get id=none) (hn:H'.next=H.next) (hh:H'.hi=H.hi):
  ∃E',E.sub E'/\E'.φ=E.φ/\E'.res=E.res/\E'.bim=E.bim/\E'.vd=E.vd/\Rel B pr E' H' w/\
  ∀id k b o,F.get id=some k->E.φ id=some (b,o)->∀i v,w.cell? ⟨b,i,none⟩=some v->E'.imm b i=some v:=by
 obtain ⟨own,g1,g2,g3⟩:=h.own
 let im:Nat->Nat->Option Value:=λb o=>match own b with
  |some id=>match F.get id with
   |some _=>w.cell? ⟨b,o,none⟩
   |none=>E.imm b o
  |none=>E.imm b o
 have him:∀b o v,im b o=some v->w.cell? ⟨b,o,none⟩=some v:=λb o v hv=>by
  simp only [im]at hv;split at hv
  .grind
  exact h.imm b o v hv
 have hsub:E.sub { E with imm:=im }:=⟨λ_ _ h=>h,λ_ _ h=>h,λb o v hv=>by
  grind,rfl,rfl⟩
 refine ⟨{ E with imm:=im },hsub,rfl,rfl,rfl,rfl,?_,λid k b o hk hφ i v hv=>?_⟩
 .refine { own:=⟨λb=>match own b with
    |some id=>match F.get id with
     |some _=>none
     |none=>some id
    |none=>none,λid k hk=>?_,λb hb=>?_,λb o v hv=>?_⟩,imm:=him,ib:=λb o v hb hv=>?_,fresh:=λid e1 e2=>h.fresh id (hn▸e1) (hh▸e2),resv:=λid hi=>by rw [hn,hh];exact h.resv id hi,vds:=h.vds,szs:=h.szs,prot:=h.prot,size:=h.size,
           os:=h.os,output:=h.output }
  obtain ⟨q1,q2⟩:=hH id k hk;exact (g1 id k q1).imp (λ_ h=>h) (λh=>h) λb o e1 e2 e3=>⟨by grind,e3.sub hsub rfl⟩
  .grind
  .grind
  simp only [im,g2 b hb]at hv;exact h.ib b o v hb hv
 .obtain ⟨hv1,_⟩|⟨b',o',e1,e2,_⟩:=g1 id _ (hF id k hk);rw [(h.resv id (h.vds id hv1)).1]at hφ;cases hφ
  grind
theorem Rel.freeze (h:Rel B pr E H w):∃E',E.sub E'/\E'.φ=E.φ/\E'.res=E.res/\E'.bim=E.bim/\E'.vd=E.vd/\Rel B pr E' ⟨hnil,H.next,H.hi⟩ w/\
  ∀id k b o,H.get id=some k->E.φ id=some (b,o)->∀i v,w.cell? ⟨b,i,none⟩=some v->E'.imm b i=some v:=
 h.freezeS (F:=H) (H':=⟨hnil,H.next,H.hi⟩) (λ_ _ h=>h) (λid k hk=>by grind [dY_]) rfl rfl
theorem k3_ {E':Env} {f:AV->Option AV} (hf:∀a a' v,f a=some a'->Con E a v->Con E' a' v):∀{l l':List AV} {vs:List Value},e2_ f l=some l'->ConL E l vs->ConL E' l' vs
 |[],l',vs,h,hc=>by
  grind [e2_,ConL]
 |a::r,l',vs,h,hc=>by unfold e2_ at h;split at h;rename_i b hb;split at h;rename_i l hl;cases h;obtain ⟨v,rest,rfl,h1,h2⟩:=hc;exact ⟨v,rest,rfl,hf _ _ _ hb h1,k3_ hf hl h2⟩;cases h;cases h
theorem hC_ {E:Env}:∀{as:List AV} {vs:List Value},vs.length=as.length->(∀(i:Nat) (a:AV) (v:Value),as[i]? =some a->vs[i]? =some v->Con0 E a v)->Con0L E as vs
 |[],vs,hl,_=>by grind [Con0L]
 |a::as,vs,hl,h=>by
  cases vs with
  |nil=>simp at hl
  |cons v r=>exact ⟨v,r,rfl,h 0 a v rfl rfl,hC_ (by grind) (λi a v h1 h2=>h (i+1) a v (by grind) (by grind))⟩
theorem d4_ (hr:Rel B pr E H w) {F:AHeap} (hF:∀id k,F.get id=some k->H.get id=some k) {E':Env} (hs:E.sub E')
  (him:∀id k b o,F.get id=some k->E.φ id=some (b,o)->∀i v,w.cell? ⟨b,i,none⟩=some v->E'.imm b i=some v):∀(n:Nat) (a a':AV) (v:Value),ex_ n F a=some a'->Con E a v->Con E' a' v
 |0,a,a',v,h,hc=>by cases h
 |n+1,a,a',v,h,hc=>by
  have ih:=λ{l l':List AV} {vs:List Value}=>k3_ (E:=E) (E':=E') (f:=ex_ n F) (d4_ hr hF hs him n) (l:=l) (l':=l') (vs:=vs);have row:∀(id off m:Nat) (cs l:List AV) (b o:Nat),F.get id=some (.cells cs)->E.φ id=some (b,o)->l=(cs.drop off).take m->∃vs,ConL E l vs/\ImmAt E' b (o+off) vs:=by
   intro id off m cs l b o hk hφ hl;obtain ⟨arr,t,e1,e2,e3,e4⟩:=hr.blk (hF _ _ hk) hφ;refine ⟨(arr.toList.drop (o+off)).take l.length,ConL.of_at ?_ ?_,λi u hu=>?_⟩
   .grind
   .grind
   grind [World.cell?]
  unfold ex_ at h;split at h
  ·
   rename_i id off len sz cap;split at h
   .rename_i cs hk;split at h
    .rename_i l hl;split at h
     .rename_i l' hl';cases h;simp only [Con]at hc⊢;obtain ⟨b,o,nn,c,off',h1,h2,rfl,h4,h5,h6,h7⟩:=hc;obtain ⟨q1,q2⟩:=bH_ hl;rw [aA_]at q1;obtain ⟨vs,v1,v2⟩:=row id off _ cs l b o hk h1 q1;by_cases hc0:c=0
      .have hlen:len=0:=(by omega);subst hlen;have:l=[]:=by
        grind
       subst this;cases hl';exact ⟨b,o+off',[],c,.inl rfl,h5,by simp [ConL],λi u hu=>by simp at hu⟩
      obtain rfl:=h4 hc0;have hsl:SlA (.slice (some ⟨b,o+off',none⟩) len c) b (o+off') len c:=.inl rfl
      grind
     cases h
    cases h
   cases h
  ·
   rename_i id off;split at h
   .rename_i cs hk;split at h
    .rename_i l' hl';split at h;cases h
     .cases h;simp only [Con]at hc⊢;obtain ⟨b,o,h1,rfl⟩:=hc;rw [aA_]at hl';obtain ⟨vs,v1,v2⟩:=row id off (cs.drop off).length cs (cs.drop off) b o hk h1 (by grind)
      grind
    cases h
   cases h
  cases h
  ·
   rename_i id sz i;split at h
   .rename_i j hk;split at h
    .rename_i hji;cases h;have hji:=Nat.eq_of_beq_eq_true hji;subst hji;obtain ⟨a,ha,hc⟩:=hc;rcases hc with ⟨rfl,rfl⟩|⟨len,cs,rfl,b,o,nn,c,off',h1,h2,rfl,h4,h5,h6⟩;exact ⟨.nsl,by rw [hs.2.2.2.1];exact ha,rfl,by simp [Con0]⟩
     .refine ⟨_,by rw [hs.2.2.2.1];exact ha,rfl,?_⟩;obtain ⟨len',sz',cs',e,hlen,arr,t,f1,f2,f3,f4⟩:=hr.blk (hF _ _ hk) h1 (by
       show ¬E.sy j=some .nsl
       grind)
      rw [ha]at e;cases e;by_cases hc0:c=0;have hl0:len=0:=(by omega);have:cs=[]:=List.eq_nil_of_length_eq_zero (by grind);subst this;exact ⟨b,o+off',[],c,.inl rfl,h5,by simp [Con0L],λi u hu=>by simp at hu⟩
      .rw [h4 hc0,Nat.add_zero];refine ⟨b,o,(arr.toList.drop o).take cs.length,c,.inl rfl,h5,?_,λq u hu=>?_⟩
       .refine hC_ ?_ λq x u hx hu=>?_
        .grind
        obtain ⟨u',k1,_,k2⟩:=f4 q x hx;rw [List.getElem?_take]at hu;split at hu;rw [List.getElem?_drop,Array.getElem?_toList,k1]at hu;cases hu;exact k2.sub hs;cases hu
       grind [World.cell?]
    cases h
   cases h
  cases h;split at h;rename_i l' hl';cases h;obtain ⟨b,o,vs,rfl,h2,h3⟩:=hc;exact ⟨b,o,vs,rfl,ih hl' h2,h3.sub hs⟩;cases h;split at h;rename_i l' hl';cases h;obtain ⟨b,o,vs,c,h0,h1,h2,h3⟩:=hc;exact ⟨b,o,vs,c,h0,h1,ih hl' h2,h3.sub hs⟩;cases h
  .split at h
   .cases h;simp only [Con]at hc⊢
    grind
   cases h
  .split at h
   .cases h;simp only [Con]at hc⊢
    grind
   cases h
  .split at h
   .cases h;simp only [Con]at hc⊢
    grind
   cases h
  split at h;rename_i b hb;cases h;obtain ⟨u,rfl,h2⟩:=hc;exact ⟨u,rfl,d4_ hr hF hs him n _ _ _ hb h2⟩;cases h;cases h;exact hc.sub hs
theorem nr_ (hr:Rel B pr E H w) {E':Env} (hs:E.sub E')
  (him:∀id k b o,H.get id=some k->E.φ id=some (b,o)->∀i v,w.cell? ⟨b,i,none⟩=some v->E'.imm b i=some v) (n:Nat) (a a':AV) (v:Value) (h:ex_ n H a=some a') (hc:Con E a v):Con E' a' v:=
 d4_ hr (λ_ _ h=>h) hs him n a a' v h hc
end
mutual
theorem ce_ {E E':Env} (hi:∀b o v,E.imm b o=some v->E'.imm b o=some v):∀{a:AV} {v:Value},Con0 E a v->Con0 E' a v
 | .opq,_,hc=>by simp [Con0]at hc
 | .bool _,_,hc=>by grind [Con0]
 | .int _ _,_,hc=>by grind [Con0]
 | .flt _ _,_,hc=>by grind [Con0]
 | .nan _,_,hc=>by grind [Con0]
 | .str _,_,hc=>by grind [Con0]
 | .nptr,_,hc=>by grind [Con0]
 | .ptr _ _,_,hc=>by simp [Con0]at hc
 | .vptr cs,v,hc=>by obtain ⟨b,o,vs,h1,h2,h3⟩:=hc;exact ⟨b,o,vs,h1,bs_ hi h2,λi u hu=>hi _ _ _ (h3 i u hu)⟩
 | .nsl,_,hc=>by grind [Con0]
 | .sl ..,_,hc=>by simp [Con0]at hc
 | .vsl _ _ cs,v,hc=>by obtain ⟨b,o,vs,c,h1,h2,h3,h4⟩:=hc;exact ⟨b,o,vs,c,h1,h2,bs_ hi h3,λi u hu=>hi _ _ _ (h4 i u hu)⟩
 | .nmap,_,hc=>by grind [Con0]
 | .map _,_,hc=>by simp [Con0]at hc
 | .nfn,_,hc=>by grind [Con0]
 | .fn f cap,v,hc=>by simp only [Con0]at hc⊢;obtain ⟨vs,h1,h2⟩:=hc;exact ⟨vs,h1,bs_ hi h2⟩
 | .nif,_,hc=>by grind [Con0]
 | .iface t a,v,hc=>by simp only [Con0]at hc⊢;obtain ⟨u,h1,h2⟩:=hc;exact ⟨u,h1,ce_ hi h2⟩
 | .agg cs,v,hc=>by simp only [Con0]at hc⊢;obtain ⟨vs,h1,h2⟩:=hc;exact ⟨vs,h1,bs_ hi h2⟩
 | .tup cs,v,hc=>by simp only [Con0]at hc⊢;obtain ⟨vs,h1,h2⟩:=hc;exact ⟨vs,h1,bs_ hi h2⟩
 | .sym _,_,hc=>by simp [Con0]at hc
 | .slx ..,_,hc=>by simp [Con0]at hc
 | .ptx ..,_,hc=>by simp [Con0]at hc
theorem bs_ {E E':Env} (hi:∀b o v,E.imm b o=some v->E'.imm b o=some v):∀{as:List AV} {vs:List Value},Con0L E as vs->Con0L E' as vs
 |[],_,hc=>by grind [Con0L]
 |a::as,vs,hc=>by simp only [Con0L]at hc⊢;obtain ⟨v,r,h1,h2,h3⟩:=hc;exact ⟨v,r,h1,ce_ hi h2,bs_ hi h3⟩
end
mutual
theorem cy_ {E E':Env} (hi:∀b o v,E.imm b o=some v->E'.imm b o=some v) (hs:∀i a,i<64->E.sy i=some a->E'.sy i=some a):∀{a:AV} {v:Value},a1_ a=true->Con E a v->Con E' a v
 | .opq,_,_,_=>by simp [Con]
 | .bool _,_,_,hc=>by grind [Con]
 | .int _ _,_,_,hc=>by grind [Con]
 | .flt _ _,_,_,hc=>by grind [Con]
 | .nan _,_,_,hc=>by grind [Con]
 | .str _,_,_,hc=>by grind [Con]
 | .nptr,_,_,hc=>by grind [Con]
 | .ptr id off,v,h,hc=>by simp [a1_]at h
 | .vptr cs,v,h,hc=>by obtain ⟨b,o,vs,h1,h2,h3⟩:=hc;exact ⟨b,o,vs,h1,bK_ hi hs h h2,λi u hu=>hi _ _ _ (h3 i u hu)⟩
 | .nsl,_,_,hc=>by grind [Con]
 | .sl ..,v,h,hc=>by simp [a1_]at h
 | .vsl _ _ cs,v,h,hc=>by obtain ⟨b,o,vs,c,h1,h2,h3,h4⟩:=hc;exact ⟨b,o,vs,c,h1,h2,bK_ hi hs h h3,λi u hu=>hi _ _ _ (h4 i u hu)⟩
 | .nmap,_,_,hc=>by grind [Con]
 | .map id,v,h,hc=>by simp [a1_]at h
 | .nfn,_,_,hc=>by grind [Con]
 | .fn f cap,v,h,hc=>by simp only [a1_]at h;simp only [Con]at hc⊢;obtain ⟨vs,h1,h2⟩:=hc;exact ⟨vs,h1,bK_ hi hs h h2⟩
 | .nif,_,_,hc=>by grind [Con]
 | .iface t a,v,h,hc=>by simp only [a1_]at h;simp only [Con]at hc⊢;obtain ⟨u,h1,h2⟩:=hc;exact ⟨u,h1,cy_ hi hs h h2⟩
 | .agg cs,v,h,hc=>by simp only [a1_]at h;simp only [Con]at hc⊢;obtain ⟨vs,h1,h2⟩:=hc;exact ⟨vs,h1,bK_ hi hs h h2⟩
 | .tup cs,v,h,hc=>by simp only [a1_]at h;simp only [Con]at hc⊢;obtain ⟨vs,h1,h2⟩:=hc;exact ⟨vs,h1,bK_ hi hs h h2⟩
 | .sym i,v,h,hc=>by
   grind [Con,a1_,Nat.blt_eq,ce_]
 | .slx ..,v,h,hc=>by simp [a1_]at h
 | .ptx ..,v,h,hc=>by simp [a1_]at h
theorem bK_ {E E':Env} (hi:∀b o v,E.imm b o=some v->E'.imm b o=some v) (hs:∀i a,i<64->E.sy i=some a->E'.sy i=some a):∀{as:List AV} {vs:List Value},cl_ as=true->ConL E as vs->ConL E' as vs
 |[],_,_,hc=>by grind [ConL]
 |a::as,vs,h,hc=>by
  simp only [cl_]at h;simp only [ConL]at hc⊢;obtain ⟨v,r,h1,h2,h3⟩:=hc;cases ha:a1_ a with
  |true=>rw [ha]at h;exact ⟨v,r,h1,cy_ hi hs ha h2,bK_ hi hs h h3⟩
  |false=>rw [ha]at h;cases h
end
variable [Gl]
def iu_ (P:Program) (f:FuncId) (args:List AV) (v:AV):Prop:=
 ∀(H:AHeap) (B:World) (pr:Nat->Prop) (E:Env) (w:World) (vs:List Value),GlOk E->Rel B pr E H w->ConL E args vs->Calls P f ⟨vs⟩ w (FPost B pr E (.ret v H))
theorem tz_ {P:Program} {f:FuncId} {args:List AV} {v a:AV} {H1:AHeap} {n:Nat} (hargs:cl_ args=true) (hv:a1_ v=true) (hs:ex_ n H1 a=some v)
  (h:∀(B:World) (pr:Nat->Prop) (E:Env) (w:World) (vs:List Value),GlOk E->Rel B pr E H0 w->ConL E args vs->Calls P f ⟨vs⟩ w (FPost B pr E (.ret a H1))):iu_ P f args v:=by
 intro H B pr E w vs hg hr hc;have hEc:∀(b o:Nat) (v:Value),E.imm b o=some v->(Env.mk (λ_=>none) E.sz E.imm (λ_=>False) E.imm E.sy E.syl λ_=>False).imm b o=some v:=λ_ _ _ h=>h
 have hrel:Rel w (λb=>b<w.heap.size) ⟨λ_=>none,E.sz,E.imm,λ_=>False,E.imm,E.sy,E.syl,λ_=>False⟩ H0 w:={
  own:=⟨λ_=>none,λid k hk=>(lD_ hk).elim,λ_ _=>rfl,λ_ _ _ _=>rfl⟩
  imm:=hr.imm
  ib:=λ_ _ _ _ h=>h
  fresh:=λ_ _ _=>rfl
  resv:=λ_ h=>h.elim
  vds:=λ_ h=>h.elim
  szs:=hr.szs
  prot:=λb h=>⟨h,rfl⟩
  size:=Nat.le_refl _
  os:=rfl
  output:=rfl }
 refine Calls.mono (h w (λb=>b<w.heap.size) ⟨λ_=>none,E.sz,E.imm,λ_=>False,E.imm,E.sy,E.syl,λ_=>False⟩ w vs ⟨λg=>cy_ hEc (λ_ _ _ h=>h) (Gl.nr g) (hg.1 g),hg.2⟩ hrel (bK_ hEc (λ_ _ _ h=>h) hargs hc)) λe w' he=>?_;obtain ⟨E',hle,u,rfl,h1,h2⟩:=he;obtain ⟨E2,f1,f2,f3,f4,_,f5,f6⟩:=h2.freeze;have hcon:=nr_ h2 f1 f6 n _ _ _ hs h1;obtain ⟨own,g1,g2,g3⟩:=hr.own;have hsz:∀b n,E.sz b=some n->E2.sz b=some n:=λb n hx=>f1.2.1 b n (hle.1.2.1 b n hx);have him:∀b o v,E.imm b o=some v->E2.imm b o=some v:=λb o v hx=>f1.2.2.1 b o v (hle.1.2.2.1 b o v hx);have hsy:E2.sy=E.sy:=f1.2.2.2.1.trans hle.1.2.2.2.1;have hsyl:E2.syl=E.syl:=f1.2.2.2.2.trans hle.1.2.2.2.2;have hold:∀b o v,b<w.heap.size->E2.imm b o=some v->E.imm b o=some v:=λb o v hb hx=>by have:=f5.ib b o v hb hx;rw [f4,hle.2.2.1]at this;exact this
 refine ⟨⟨E.φ,E2.sz,E2.imm,E.res,E.bim,E2.sy,E2.syl,E.vd⟩,⟨⟨λ_ _ h=>h,hsz,him,hsy,hsyl⟩,rfl,rfl,rfl⟩,u,rfl,cy_ (E:=E2) (E':=⟨E.φ,E2.sz,E2.imm,E.res,E.bim,E2.sy,E2.syl,E.vd⟩) (λ_ _ _ h=>h) (λ_ _ _ h=>h) hv hcon,?_⟩;have hsub:E.sub ⟨E.φ,E2.sz,E2.imm,E.res,E.bim,E2.sy,E2.syl,E.vd⟩:=⟨λ_ _ h=>h,hsz,him,hsy,hsyl⟩
 refine { own:=⟨λb=>if b<w.heap.size then own b else none,λid k hk=>?_,λb hb=>?_,λb o v hx=>?_⟩,imm:=f5.imm,ib:=λb o v hb hx=>?_,fresh:=hr.fresh,resv:=hr.resv,vds:=hr.vds,szs:=f5.szs,prot:=λb hb=>?_,
          size:=Nat.le_trans hr.size h2.size,os:=h2.os.trans hr.os,output:=h2.output.trans hr.output }
 exact (g1 id k hk).imp (λ_ h=>h) (λh=>⟨h.1,h.2.sub λi hi=>by grind⟩) λb o e1 e2 e3=>⟨(if_pos e3.lt).trans e2,e3.sub hsub (h2.prot b e3.lt).2⟩
 .grind
 .grind
 have hlt:=Nat.lt_of_lt_of_le (hr.prot b hb).1 hr.size;exact hr.ib b o v hb (hold b o v hlt hx);obtain ⟨e1,e2⟩:=hr.prot b hb;exact ⟨e1,(h2.prot b (Nat.lt_of_lt_of_le e1 hr.size)).2.trans e2⟩
def vQ_ (P:Program) (n:Nat) (f:FuncId) (args:List AV) (v:AV):Bool:=match cl_ args&&a1_ v with
 |true=>match aM_ P n f args H0 with
  |some (.ret a H)=>match ex_ 100 H a with
   |some v'=>bV_ v' v
   |none=>false
  |_=>false
 |false=>false
theorem we_ {P:Program} (hm:P.follows .mixedOrders=true) (ho:j0_ P) {n:Nat} {f:FuncId} {args:List AV} {v:AV} (h:vQ_ P n f args v=true):iu_ P f args v:=by unfold vQ_ at h;split at h;rename_i hn;obtain ⟨h1,h2⟩:=aa_ hn;split at h;rename_i a H hc;split at h;rename_i v' hs;have:=aF_ h;subst this;exact tz_ h1 h2 hs λB pr E w vs hg hr hc'=>cd_ hm ho n f args H0 _ hc B pr E w vs hg hr hc';cases h;cases h;cases h
def oq_:List (FuncId×List AV×AV)->FuncId->List AV->Option AV
 |[],_,_=>none
 |(F,A,V)::r,f,args=>match Nat.beq f F with
  |true=>match ds_ args A with
   |true=>some V
   |false=>oq_ r f args
  |false=>oq_ r f args
end Go.Sx
