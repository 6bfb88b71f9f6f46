/-
  Regions whose order is open are sound; so are calls to any depth, and a run that answers true.
-/
import Derived.Test.YteegdnoekakdbaaGreatDoorSxR
import Derived.RowKit3
set_option linter.unusedVariables false
set_option linter.unusedSimpArgs false
namespace Go.Sx
variable [Gl]
section
variable {P:Program} {call:CallF} {N:Nat} {ops:List Oper} {l:List SI} {T0:Tm} {base:Nat}
omit [Gl]in
theorem l3_ {i:Nat} {x:SI} (hx:l[i]? =some x):a7_ l base (i+1)=match x.kd with| .mem=>Nat.succ (a7_ l base i)|_=>a7_ l base i:=by
 grind [a7_,bQ_]
theorem fr_ (hP:PlanOk ops l):∀(rest:List SI) (i id:Nat) (s s':DS) (ev0:Nat->Evt),(∀k,rest[k]? =l[i+k]?)->DInv P call N ops l T0 base i ev0 s->id=a7_ l base i->
  dd_ P call N ops rest i id s=some s'->∃ev,DInv P call N ops l T0 base (i+rest.length) ev s'
 |[],i,id,s,s',ev0,hrest,inv,hid,h=>by cases h;grind
 |x::r,i,id,s,s',ev0,hrest,inv,hid,h=>by
  have hx:l[i]? =some x:=(by have:=hrest 0;grind);unfold dd_ at h;split at h;cases h
  .rename_i s1 h1;have hr:∀k,r[k]? =l[i+1+k]? :=λk=>by
    have:=hrest (k+1)
    grind
   obtain ⟨e,he⟩:=lF_ hP inv hx hid hr h1;have inv1:=he (λj=>if j=i then e else ev0 j) (λj hj=>if_neg (by omega)) (if_pos rfl);have hid':=l3_ (base:=base) hx;have el:i+(x::r).length=i+1+r.length:=(by simp;omega);rw [el];split at h;rename_i hk;rw [hk]at hid';exact fr_ hP r (i+1) (Nat.succ id) s1 s' _ hr inv1 (by rw [hid',hid]) h
   .rename_i hk;refine fr_ hP r (i+1) id s1 s' _ hr inv1 ?_ h;rw [hid',hid];cases hkd:x.kd<;>first|rfl|exact absurd hkd hk
theorem qE_ (hP:PlanOk ops l) {ev:Nat->Evt} {s:DS} (inv:DInv P call N ops l T0 base l.length ev s) (hr:fa_ P s.Gs s.rd=true):Facts P call N ops l ev T0 (a7_ l base) s.Gs s.dead where
 each:=λi x hx=>by
  have hi:i<l.length:=(List.getElem?_eq_some_iff.1 hx).1;rcases inv.each i x hx hi with h|⟨u,R,h1,h2,h3⟩;exact .inl h
  .refine .inr ⟨u,R,h1,h2,?_⟩;generalize ev i=e at h3;cases h3 with
   |off hg hw=>exact .off hg hw
   |pure hg hk h=>exact .pure hg hk h
   |read hg hk g1 h hm=>
    refine .read hg hk λm G q1 q2 q3=>?_;by_cases e:m=x.lo
    .grind
    exact ge_ s.rd hr _ hm m G (by grind) q2 q3
   |fl hg hk hy hj hbit hno hlater ht h=>exact .fl hg hk hy hj hbit hno hlater ht h
   |mem hg hk h hb=>exact .mem hg hk h hb
   |wr hg hk h1 h2 ht h=>exact .wr hg hk h1 h2 ht h
   |die hg hk h1 ht hd h=>exact .die hg hk h1 ht hd h
 dead:=λd v H hd=>(inv.gsd d v H hd).1
 row:=λj y a id b hy he=>inv.row j y a id b hy (List.getElem?_eq_some_iff.1 hy).1 he
 inj:=λi j x y hx hy kx ky h=>nn_ hx hy kx ky h
end
theorem kF_ {P:Program} {call:CallF} {N:Nat} {ops:List Oper} {x:SI} {rest:List SI} {i id:Nat} {s s':DS} (h:en_ P call N ops x rest i id s=some s'):∃gs,s'.Gs=s.Gs++gs:=by
 unfold en_ at h;split at h;simp_all
 .split at h;cases h
  .split at h;cases h
   .split at h
    .unfold na_ at h;repeat' split at h
     all_goals first
      |(cases h;done)
      |(cases h;exact ⟨_,bt_ _ _⟩)
      |(cases h;exact ⟨[],(List.append_nil _).symm⟩)
    .unfold kE_ at h;repeat' split at h
     all_goals first
      |(cases h;done)
      |(cases h;exact ⟨_,bt_ _ _⟩)
      |(cases h;exact ⟨[],(List.append_nil _).symm⟩)
theorem fU_ {P:Program} {call:CallF} {N:Nat} {ops:List Oper}:∀{rest:List SI} {i id:Nat} {s s':DS},dd_ P call N ops rest i id s=some s'->∃gs,s'.Gs=s.Gs++gs
 |[],i,id,s,s',h=>by cases h;simp_all
 |x::r,i,id,s,s',h=>by
  unfold dd_ at h;split at h;cases h
  .rename_i s1 h1;obtain ⟨g1,e1⟩:=kF_ h1;split at h;all_goals
    obtain ⟨g2,e2⟩:=fU_ h;exact ⟨g1++g2,by rw [e2,e1,List.append_assoc]⟩
theorem lE_ {P:Program} {call:CallF} {N:Nat} {ops:List Oper} {rest:List SI} {i id:Nat} {T:Tm} {G:AHeap} {s':DS} (h:dd_ P call N ops rest i id ⟨T,[G],[],[],none⟩=some s'):s'.Gs[0]? =some G:=by
 grind [fU_]
theorem fV_ {P:Program} (hm:P.follows .mixedOrders=true) {call:CallF} (hcall:an_ P call) (N:Nat):gi_ P N call:=by
 intro id ops T H D r h B pr E a w st;unfold h8_ at h;split at h;cases h
 .rename_i l n hpl;obtain ⟨hP,hn⟩:=k8_ hpl;split at h;cases h
  .rename_i hroom;have hroom:H.next+n<=H.hi:=by simp_all
   split at h;cases h
   .rename_i s hrun
    have inv0:DInv P call N ops.toList l T (H.hi-n) 0 (λ_=>.gone) ⟨T,[⟨H.tr,H.next,H.hi-n⟩],[],[],none⟩:={
     slot:=λt ht=>.inl ⟨rfl,λj x _ hs=>by simp at hs⟩
     gs:=λ_=>by
      grind [wAt,eT_]
     gsd:=λd v H hd=>by cases hd
     fl:=λf hf=>by simp at hf
     each:=λj x _ hj=>by omega
     row:=λj y a id b _ hj=>by omega
     ft:=λf hf=>by simp at hf }
    obtain ⟨ev,inv⟩:=fr_ hP l 0 (H.hi-n) _ s _ (λk=>by grind) inv0 (by simp [a7_,aV_]) hrun;rw [Nat.zero_add]at inv;split at h;cases h
    .rename_i hre;have F:=qE_ hP inv hre;have hidr:∀(j:Nat) (x:SI),l[j]? =some x->x.kd=.mem->H.next<=a7_ l (H.hi-n) j/\a7_ l (H.hi-n) j<H.hi/\H.hi-n<=a7_ l (H.hi-n) j:=λj x hx hk=>by
      have h1:=bQ_ l j x hx
      grind [em_,a7_]
     have h0:∀(j:Nat) (x:SI),l[j]? =some x->x.kd=.mem->¬E.res (a7_ l (H.hi-n) j):=λj x hx hk hres=>(by obtain ⟨g1,g2,_⟩:=hidr j x hx hk;exact (st.r.resv _ hres).2 ⟨g1,g2⟩);have hres0:∀id,b1_ E l (a7_ l (H.hi-n)) (λj=>(Array.replicate ops.size false).getD j false) id->E.φ id=none/\¬(H.next<=id/\id<H.hi-n):=λid hid=>by
      rcases hid with hid|⟨j,x,hx,_,hk,rfl⟩
      .obtain ⟨g1,g2⟩:=st.r.resv id hid
       grind
      obtain ⟨g1,g2,g3⟩:=hidr j x hx hk;exact ⟨st.r.fresh _ g1 g2,λhx=>by omega⟩
     have hempty:∀j,(Array.replicate ops.size false).getD j false=false:=λj=>(by rw [Array.getD_eq_getD_getElem?,Array.getElem?_replicate];split<;>rfl);have invS:ji_ P B pr N E D ops.toList l ev T (a7_ l (H.hi-n)) s.Gs (λj=>(Array.replicate ops.size false).getD j false) a { w with drawn:=w.drawn+1 }:=by
      refine ⟨E.withRes _,⟨H.tr,H.next,H.hi-n⟩,⟨H.tr,H.next,H.hi-n⟩,{ sub:=Env.sub_withRes _ _,res:=rfl,bim:=rfl,vd:=rfl,vd0:=st.r.vds,gl:=st.t.gl,size:=st.t.size,dfs:=st.d,slot:=?_,g:=?_,r:=?_,nx:=rfl,hi:=rfl,old:=λ_ _ h=>h,row:=?_ }⟩;intro t ht;exact ⟨tget T t,.inl ⟨rfl,λj x _ hs=>Bool.noConfusion ((hempty j).symm.trans hs)⟩,(st.t.con t ht).sub (Env.sub_withRes _ _)⟩
      .grind [eT_,lE_]
      have h1:Rel B pr E ⟨H.tr,H.next,H.hi-n⟩ { w with drawn:=w.drawn+1 }:=(st.r.drawn _).forget (H':=⟨H.tr,H.next,H.hi-n⟩) (λid k hk=>hk) (Nat.le_refl _) (by grind);exact h1.reres hres0 (λid h=>.inl (st.r.vds id h))
      grind
     refine wp_region_any hm ?_;have hcl0:Cl l ev (λj=>(Array.replicate ops.size false).getD j false):=⟨λi hi=>Bool.noConfusion ((hempty i).symm.trans hi),λi hi=>Bool.noConfusion ((hempty i).symm.trans hi),λi x j _ hi=>Bool.noConfusion ((hempty i).symm.trans hi)⟩;cases hdd:s.dead with
     |some p=>
      obtain ⟨d,v,H'⟩:=p;rw [hdd]at h;simp only at h;split at h
      .rename_i T' hT';cases h;refine qa_ hcall hP st.t.le F h0 (lw_ l T T' hT') (λd' v' H'' hd'=>by grind) (λS a w inv' hcl hall=>?_) ops.size _ a _ (by simp) ?_ hcl0 invS;have hd1:=(inv.gsd d v H' hdd);exact absurd hd1.1 (hcl.ev d (hall d hd1.2.1)).2
       grind
      cases h
     |none=>
      rw [hdd]at h;simp only at h;split at h
      .rename_i G hG;cases h;refine qa_ (T':=topq) hcall hP st.t.le F h0 (λt _=>.inl (cq_ t)) (λd' v' H'' hd'=>by grind) (λS a w inv' hcl hall=>?_) ops.size _ a _ (by simp) ?_ hcl0 invS
       .obtain ⟨E',G',K,inv'⟩:=inv';have hS:∀j x,l[j]? =some x->S j=decide (j<l.length):=λj x hj=>by
         grind
        have hGG:G'=G:=by
         have h1:=inv'.g;have h2:b3_ S ops.toList 0=wAt ops.toList l.length:=by
          refine cY_ _ _ λj o ho hw=>?_
          grind [hL_]
         rw [ix_,inv.gs hdd]at hG
         grind
        subst hGG;obtain ⟨t1,t2,t3⟩:=kp_ s.fl G' inv.ft;have hsub:∀id k,(fG_ s.fl G').get id=some k->K.get id=some k:=λid k hk=>by rcases t3 id k hk with hk|⟨f,hf,rfl,rfl⟩;exact inv'.old id k hk;obtain ⟨y,q,f1,f2,f3,f4⟩:=inv.fl f hf;exact (inv'.row f.op y q f.id f.b f1 f3 (hall _ f2) λk' y' q' g1 g2 g3=>f4 k' y' q' g1 ((List.getElem?_eq_some_iff.1 g1).1) g3).1
        have hr1:Rel B pr E' (fG_ s.fl G') w:=inv'.r.forget hsub (by rw [t1,inv'.nx];grind) (by rw [t2,inv'.hi];grind);have hs:=Env.sub_withRes E' E.res;refine ⟨E'.withRes E.res,⟨Env.sub_trans inv'.sub hs,rfl,inv'.bim,inv'.vd⟩,rfl,?_,?_,?_⟩;refine ⟨inv'.size,st.t.le,λt ht=>?_,(st.t.gl.sub inv'.sub).sub hs⟩;obtain ⟨q,q1,q2⟩:=inv'.slot t ht;have q3:=(inv.slot t ht).congr (S':=S) λj x hj _=>(hS j x hj).symm;rw [q3.unique q1];exact q2.sub hs;refine hr1.reres (λid hid=>?_) (λid h=>st.r.vds id (by rw [←inv'.vd];exact h));have:=inv'.r.resv id (by rw [inv'.res];exact .inl hid);rw [t1,t2,←inv'.nx,←inv'.hi];exact this;exact inv'.dfs.sub (Env.sub_trans inv'.sub hs)
       grind
      cases h
def ku_ (P:Program):Prop:=∀(f:FuncId) (args:List AV) (v:AV) (H:AHeap),Gl.ov f args H=some v->∀(B:World) (pr:Nat->Prop) (E:Env) (w:World) (vs:List Value),GlOk E->Rel B pr E H w->ConL E args vs->
    Calls P f ⟨vs⟩ w (FPost B pr E (.ret v H))
theorem dt_ {P:Program} (hm:P.follows .mixedOrders=true) (ho:ku_ P):∀n,an_ P (aM_ P n)
 |0=>λf args H r h=>by cases h
 |n+1=>λf args H r h=>by unfold aM_ at h;split at h;rename_i v hv;cases h;exact ho f args v H hv;exact g3_ (dt_ hm ho n) (λN=>fV_ hm (dt_ hm ho n) N) n f args H r h
def E0:Env:=⟨λ_=>none,λ_=>none,λ_ _=>none,λ_=>False,λ_ _=>none,λ_=>none,λ_=>none,λ_=>False⟩
omit [Gl]in
theorem kX_ {id:Nat} {k:ABlk} (hk:H0.get id=some k):False:=by
 grind [cR_,AHeap.get,H0]
def qt_ (im:Nat->Nat->Option Value):Env:=⟨λ_=>none,λ_=>none,im,λ_=>False,im,λ_=>none,λ_=>none,λ_=>False⟩
def GrownB (W w':World):Prop:=W.keptBut w' (λ_=>False)/\(∀a,a.block<W.heap.size->w'.frozen? a=W.frozen? a)/\W.heap.size<=w'.heap.size
omit [Gl]in
theorem qI_ {w w':World} (h1:w.heap.size<=w'.heap.size) (h2:∀b,b<w.heap.size->w'.heap[b]? =w.heap[b]?) (h3:w'.os=w.os) (h4:w'.output=w.output):GrownB w w':=by
 refine ⟨⟨h3,h4,λi hi=>?_⟩,λa ha=>by grind [World.frozen?],h1⟩
 grind
end Go.Sx
namespace Go.Sx
def eJ_ (f:AV->Option AV):List AV->Option (List AV)
 |[]=>some []
 |a::r=>match f a with
  |some b=>match eJ_ f r with
   |some l=>some (b::l)
   |none=>none
  |none=>none
def ef_:Nat->AHeap->AV->Option AV
 |0,_,_=>none
 |n+1,H,a=>match a with
  | .sl id off len sz _=>match H.get id with
    |some (.cells cs)=>match bi_ (Nat.mul len sz) (ah_ off cs)with
     |some l=>match eJ_ (ef_ n H) l with
      |some l'=>some (.vsl len sz l')
      |none=>none
     |none=>none
    |_=>none
  | .ptr id off=>match H.get id with
    |some (.cells cs)=>match eJ_ (ef_ n H) (ah_ off cs)with
     |some l'=>match l' with
      |[]=>none
      |_=>some (.vptr l')
     |none=>none
    |_=>none
  | .map _=>none
  | .slx id _ i=>match H.get id with
    |some (.syl j)=>match Nat.beq j i with
     |true=>some (.sym i)
     |false=>none
    |_=>none
  | .ptx _ _ _ _=>none
  | .vptr cs=>match eJ_ (ef_ n H) cs with
    |some l'=>some (.vptr l')
    |none=>none
  | .vsl len sz cs=>match eJ_ (ef_ n H) cs with
    |some l'=>some (.vsl len sz l')
    |none=>none
  | .fn f cs=>match eJ_ (ef_ n H) cs with
    |some l'=>some (.fn f l')
    |none=>none
  | .agg cs=>match eJ_ (ef_ n H) cs with
    |some l'=>some (.agg l')
    |none=>none
  | .tup cs=>match eJ_ (ef_ n H) cs with
    |some l'=>some (.tup l')
    |none=>none
  | .iface t a=>match ef_ n H a with
    |some b=>some (.iface t b)
    |none=>none
  |a=>some a
section
variable {B:World} {pr:Nat->Prop} {E:Env} {H:AHeap} {w:World}
theorem dF_ (nx hi id:Nat):(⟨hnil,nx,hi⟩:AHeap).get id=none:=by
 grind [AHeap.get_of_lt,cR_,AHeap.get_of_ge]
theorem Rel.freezeS (h:Rel B pr E H w) {F H':AHeap} (hF:∀id k,F.get id=some k->H.get id=some k) (hH:∀id k,H'.get id=some k->H.get id=some k/\F.get id=none) (hn:H'.next=H.next) (hh:H'.hi=H.hi):
  ∃E',E.sub E'/\E'.φ=E.φ/\E'.res=E.res/\E'.bim=E.bim/\E'.vd=E.vd/\Rel B pr E' H' w/\
  ∀id k b o,F.get id=some k->E.φ id=some (b,o)->∀i v,w.cell? ⟨b,i,none⟩=some v->E'.imm b i=some v:=by
 obtain ⟨own,g1,g2,g3⟩:=h.own
 let im:Nat->Nat->Option Value:=λb o=>match own b with
  |some id=>match F.get id with
   |some _=>w.cell? ⟨b,o,none⟩
   |none=>E.imm b o
  |none=>E.imm b o
 have him:∀b o v,im b o=some v->w.cell? ⟨b,o,none⟩=some v:=λb o v hv=>by
  simp only [im]at hv;split at hv
  .grind
  exact h.imm b o v hv
 have hsub:E.sub { E with imm:=im }:=⟨λ_ _ h=>h,λ_ _ h=>h,λb o v hv=>by
  grind,rfl,rfl⟩
 refine ⟨{ E with imm:=im },hsub,rfl,rfl,rfl,rfl,?_,λid k b o hk hφ i v hv=>?_⟩
 .refine { own:=⟨λb=>match own b with
    |some id=>match F.get id with
     |some _=>none
     |none=>some id
    |none=>none,λid k hk=>?_,λb hb=>?_,λb o v hv=>?_⟩,imm:=him,ib:=λb o v hb hv=>?_,fresh:=λid e1 e2=>h.fresh id (hn▸e1) (hh▸e2),resv:=λid hi=>by rw [hn,hh];exact h.resv id hi,vds:=h.vds,szs:=h.szs,prot:=h.prot,size:=h.size,
           os:=h.os,output:=h.output }
  obtain ⟨q1,q2⟩:=hH id k hk;exact (g1 id k q1).imp (λ_ h=>h) (λh=>h) λb o e1 e2 e3=>⟨by grind,e3.sub hsub rfl⟩
  .grind
  .grind
  simp only [im,g2 b hb]at hv;exact h.ib b o v hb hv
 .obtain ⟨hv1,_⟩|⟨b',o',e1,e2,_⟩:=g1 id _ (hF id k hk);rw [(h.resv id (h.vds id hv1)).1]at hφ;cases hφ
  grind
theorem Rel.freeze (h:Rel B pr E H w):∃E',E.sub E'/\E'.φ=E.φ/\E'.res=E.res/\E'.bim=E.bim/\E'.vd=E.vd/\Rel B pr E' ⟨hnil,H.next,H.hi⟩ w/\
  ∀id k b o,H.get id=some k->E.φ id=some (b,o)->∀i v,w.cell? ⟨b,i,none⟩=some v->E'.imm b i=some v:=
 h.freezeS (F:=H) (H':=⟨hnil,H.next,H.hi⟩) (λ_ _ h=>h) (λid k hk=>by grind [dF_]) rfl rfl
theorem kk_ {E':Env} {f:AV->Option AV} (hf:∀a a' v,f a=some a'->Con E a v->Con E' a' v):∀{l l':List AV} {vs:List Value},eJ_ f l=some l'->ConL E l vs->ConL E' l' vs
 |[],l',vs,h,hc=>by
  grind [eJ_,ConL]
 |a::r,l',vs,h,hc=>by unfold eJ_ at h;split at h;rename_i b hb;split at h;rename_i l hl;cases h;obtain ⟨v,rest,rfl,h1,h2⟩:=hc;exact ⟨v,rest,rfl,hf _ _ _ hb h1,kk_ hf hl h2⟩;cases h;cases h
theorem g7_ {E:Env}:∀{as:List AV} {vs:List Value},vs.length=as.length->(∀(i:Nat) (a:AV) (v:Value),as[i]? =some a->vs[i]? =some v->Con0 E a v)->Con0L E as vs
 |[],vs,hl,_=>by grind [Con0L]
 |a::as,vs,hl,h=>by
  cases vs with
  |nil=>simp at hl
  |cons v r=>exact ⟨v,r,rfl,h 0 a v rfl rfl,g7_ (by grind) (λi a v h1 h2=>h (i+1) a v (by grind) (by grind))⟩
theorem cU_ (hr:Rel B pr E H w) {F:AHeap} (hF:∀id k,F.get id=some k->H.get id=some k) {E':Env} (hs:E.sub E')
  (him:∀id k b o,F.get id=some k->E.φ id=some (b,o)->∀i v,w.cell? ⟨b,i,none⟩=some v->E'.imm b i=some v):∀(n:Nat) (a a':AV) (v:Value),ef_ n F a=some a'->Con E a v->Con E' a' v
 |0,a,a',v,h,hc=>by cases h
 |n+1,a,a',v,h,hc=>by
  have ih:=λ{l l':List AV} {vs:List Value}=>kk_ (E:=E) (E':=E') (f:=ef_ n F) (cU_ hr hF hs him n) (l:=l) (l':=l') (vs:=vs);have row:∀(id off m:Nat) (cs l:List AV) (b o:Nat),F.get id=some (.cells cs)->E.φ id=some (b,o)->l=(cs.drop off).take m->∃vs,ConL E l vs/\ImmAt E' b (o+off) vs:=by
   intro id off m cs l b o hk hφ hl;obtain ⟨arr,t,e1,e2,e3,e4⟩:=hr.blk (hF _ _ hk) hφ;refine ⟨(arr.toList.drop (o+off)).take l.length,ConL.of_at ?_ ?_,λi u hu=>?_⟩
   .grind
   .grind
   grind [World.cell?]
  unfold ef_ at h;split at h
  ·
   rename_i id off len sz cap;split at h
   .rename_i cs hk;split at h
    .rename_i l hl;split at h
     .rename_i l' hl';cases h;simp only [Con]at hc⊢;obtain ⟨b,o,nn,c,off',h1,h2,rfl,h4,h5,h6,h7⟩:=hc;obtain ⟨q1,q2⟩:=bJ_ hl;rw [aG_]at q1;obtain ⟨vs,v1,v2⟩:=row id off _ cs l b o hk h1 q1;by_cases hc0:c=0
      .have hlen:len=0:=(by omega);subst hlen;have:l=[]:=by
        grind
       subst this;cases hl';exact ⟨b,o+off',[],c,rfl,h5,by simp [ConL],λi u hu=>by simp at hu⟩
      grind
     cases h
    cases h
   cases h
  ·
   rename_i id off;split at h
   .rename_i cs hk;split at h
    .rename_i l' hl';split at h;cases h
     .cases h;simp only [Con]at hc⊢;obtain ⟨b,o,h1,rfl⟩:=hc;rw [aG_]at hl';obtain ⟨vs,v1,v2⟩:=row id off (cs.drop off).length cs (cs.drop off) b o hk h1 (by grind)
      grind
    cases h
   cases h
  cases h
  ·
   rename_i id sz i;split at h
   .rename_i j hk;split at h
    .rename_i hji;cases h;have hji:=Nat.eq_of_beq_eq_true hji;subst hji;obtain ⟨a,ha,hc⟩:=hc;rcases hc with ⟨rfl,rfl⟩|⟨len,cs,rfl,b,o,nn,c,off',h1,h2,rfl,h4,h5,h6⟩;exact ⟨.nsl,by rw [hs.2.2.2.1];exact ha,rfl,by simp [Con0]⟩
     .refine ⟨_,by rw [hs.2.2.2.1];exact ha,rfl,?_⟩;obtain ⟨len',sz',cs',e,hlen,arr,t,f1,f2,f3,f4⟩:=hr.blk (hF _ _ hk) h1 (by
       show ¬E.sy j=some .nsl
       grind)
      rw [ha]at e;cases e;by_cases hc0:c=0;have hl0:len=0:=(by omega);have:cs=[]:=List.eq_nil_of_length_eq_zero (by grind);subst this;exact ⟨b,o+off',[],c,rfl,h5,by simp [Con0L],λi u hu=>by simp at hu⟩
      .rw [h4 hc0,Nat.add_zero];refine ⟨b,o,(arr.toList.drop o).take cs.length,c,rfl,h5,?_,λq u hu=>?_⟩
       .refine g7_ ?_ λq x u hx hu=>?_
        .grind
        obtain ⟨u',k1,_,k2⟩:=f4 q x hx;rw [List.getElem?_take]at hu;split at hu;rw [List.getElem?_drop,Array.getElem?_toList,k1]at hu;cases hu;exact k2.sub hs;cases hu
       grind [World.cell?]
    cases h
   cases h
  cases h;split at h;rename_i l' hl';cases h;obtain ⟨b,o,vs,rfl,h2,h3⟩:=hc;exact ⟨b,o,vs,rfl,ih hl' h2,h3.sub hs⟩;cases h;split at h;rename_i l' hl';cases h;obtain ⟨b,o,vs,c,rfl,h1,h2,h3⟩:=hc;exact ⟨b,o,vs,c,rfl,h1,ih hl' h2,h3.sub hs⟩;cases h
  .split at h
   .cases h;simp only [Con]at hc⊢
    grind
   cases h
  .split at h
   .cases h;simp only [Con]at hc⊢
    grind
   cases h
  .split at h
   .cases h;simp only [Con]at hc⊢
    grind
   cases h
  split at h;rename_i b hb;cases h;obtain ⟨u,rfl,h2⟩:=hc;exact ⟨u,rfl,cU_ hr hF hs him n _ _ _ hb h2⟩;cases h;cases h;exact hc.sub hs
theorem mH_ (hr:Rel B pr E H w) {E':Env} (hs:E.sub E')
  (him:∀id k b o,H.get id=some k->E.φ id=some (b,o)->∀i v,w.cell? ⟨b,i,none⟩=some v->E'.imm b i=some v) (n:Nat) (a a':AV) (v:Value) (h:ef_ n H a=some a') (hc:Con E a v):Con E' a' v:=
 cU_ hr (λ_ _ h=>h) hs him n a a' v h hc
end
mutual
theorem b5_ {E E':Env} (hi:∀b o v,E.imm b o=some v->E'.imm b o=some v):∀{a:AV} {v:Value},Con0 E a v->Con0 E' a v
 | .opq,_,hc=>by simp [Con0]at hc
 | .bool _,_,hc=>by grind [Con0]
 | .int _ _,_,hc=>by grind [Con0]
 | .flt _ _,_,hc=>by grind [Con0]
 | .nan _,_,hc=>by grind [Con0]
 | .str _,_,hc=>by grind [Con0]
 | .nptr,_,hc=>by grind [Con0]
 | .ptr _ _,_,hc=>by simp [Con0]at hc
 | .vptr cs,v,hc=>by obtain ⟨b,o,vs,h1,h2,h3⟩:=hc;exact ⟨b,o,vs,h1,bl_ hi h2,λi u hu=>hi _ _ _ (h3 i u hu)⟩
 | .nsl,_,hc=>by grind [Con0]
 | .sl ..,_,hc=>by simp [Con0]at hc
 | .vsl _ _ cs,v,hc=>by obtain ⟨b,o,vs,c,h1,h2,h3,h4⟩:=hc;exact ⟨b,o,vs,c,h1,h2,bl_ hi h3,λi u hu=>hi _ _ _ (h4 i u hu)⟩
 | .nmap,_,hc=>by grind [Con0]
 | .map _,_,hc=>by simp [Con0]at hc
 | .nfn,_,hc=>by grind [Con0]
 | .fn f cap,v,hc=>by simp only [Con0]at hc⊢;obtain ⟨vs,h1,h2⟩:=hc;exact ⟨vs,h1,bl_ hi h2⟩
 | .nif,_,hc=>by grind [Con0]
 | .iface t a,v,hc=>by simp only [Con0]at hc⊢;obtain ⟨u,h1,h2⟩:=hc;exact ⟨u,h1,b5_ hi h2⟩
 | .agg cs,v,hc=>by simp only [Con0]at hc⊢;obtain ⟨vs,h1,h2⟩:=hc;exact ⟨vs,h1,bl_ hi h2⟩
 | .tup cs,v,hc=>by simp only [Con0]at hc⊢;obtain ⟨vs,h1,h2⟩:=hc;exact ⟨vs,h1,bl_ hi h2⟩
 | .sym _,_,hc=>by simp [Con0]at hc
 | .slx ..,_,hc=>by simp [Con0]at hc
 | .ptx ..,_,hc=>by simp [Con0]at hc
theorem bl_ {E E':Env} (hi:∀b o v,E.imm b o=some v->E'.imm b o=some v):∀{as:List AV} {vs:List Value},Con0L E as vs->Con0L E' as vs
 |[],_,hc=>by grind [Con0L]
 |a::as,vs,hc=>by simp only [Con0L]at hc⊢;obtain ⟨v,r,h1,h2,h3⟩:=hc;exact ⟨v,r,h1,b5_ hi h2,bl_ hi h3⟩
end
mutual
theorem ck_ {E E':Env} (hi:∀b o v,E.imm b o=some v->E'.imm b o=some v) (hs:∀i a,i<64->E.sy i=some a->E'.sy i=some a):∀{a:AV} {v:Value},bL_ a=true->Con E a v->Con E' a v
 | .opq,_,_,_=>by simp [Con]
 | .bool _,_,_,hc=>by grind [Con]
 | .int _ _,_,_,hc=>by grind [Con]
 | .flt _ _,_,_,hc=>by grind [Con]
 | .nan _,_,_,hc=>by grind [Con]
 | .str _,_,_,hc=>by grind [Con]
 | .nptr,_,_,hc=>by grind [Con]
 | .ptr id off,v,h,hc=>by simp [bL_]at h
 | .vptr cs,v,h,hc=>by obtain ⟨b,o,vs,h1,h2,h3⟩:=hc;exact ⟨b,o,vs,h1,bw_ hi hs h h2,λi u hu=>hi _ _ _ (h3 i u hu)⟩
 | .nsl,_,_,hc=>by grind [Con]
 | .sl ..,v,h,hc=>by simp [bL_]at h
 | .vsl _ _ cs,v,h,hc=>by obtain ⟨b,o,vs,c,h1,h2,h3,h4⟩:=hc;exact ⟨b,o,vs,c,h1,h2,bw_ hi hs h h3,λi u hu=>hi _ _ _ (h4 i u hu)⟩
 | .nmap,_,_,hc=>by grind [Con]
 | .map id,v,h,hc=>by simp [bL_]at h
 | .nfn,_,_,hc=>by grind [Con]
 | .fn f cap,v,h,hc=>by simp only [bL_]at h;simp only [Con]at hc⊢;obtain ⟨vs,h1,h2⟩:=hc;exact ⟨vs,h1,bw_ hi hs h h2⟩
 | .nif,_,_,hc=>by grind [Con]
 | .iface t a,v,h,hc=>by simp only [bL_]at h;simp only [Con]at hc⊢;obtain ⟨u,h1,h2⟩:=hc;exact ⟨u,h1,ck_ hi hs h h2⟩
 | .agg cs,v,h,hc=>by simp only [bL_]at h;simp only [Con]at hc⊢;obtain ⟨vs,h1,h2⟩:=hc;exact ⟨vs,h1,bw_ hi hs h h2⟩
 | .tup cs,v,h,hc=>by simp only [bL_]at h;simp only [Con]at hc⊢;obtain ⟨vs,h1,h2⟩:=hc;exact ⟨vs,h1,bw_ hi hs h h2⟩
 | .sym i,v,h,hc=>by
   grind [Con,bL_,Nat.blt_eq,b5_]
 | .slx ..,v,h,hc=>by simp [bL_]at h
 | .ptx ..,v,h,hc=>by simp [bL_]at h
theorem bw_ {E E':Env} (hi:∀b o v,E.imm b o=some v->E'.imm b o=some v) (hs:∀i a,i<64->E.sy i=some a->E'.sy i=some a):∀{as:List AV} {vs:List Value},cm_ as=true->ConL E as vs->ConL E' as vs
 |[],_,_,hc=>by grind [ConL]
 |a::as,vs,h,hc=>by
  simp only [cm_]at h;simp only [ConL]at hc⊢;obtain ⟨v,r,h1,h2,h3⟩:=hc;cases ha:bL_ a with
  |true=>rw [ha]at h;exact ⟨v,r,h1,ck_ hi hs ha h2,bw_ hi hs h h3⟩
  |false=>rw [ha]at h;cases h
end
variable [Gl]
def kv_ (P:Program) (f:FuncId) (args:List AV) (v:AV):Prop:=
 ∀(H:AHeap) (B:World) (pr:Nat->Prop) (E:Env) (w:World) (vs:List Value),GlOk E->Rel B pr E H w->ConL E args vs->Calls P f ⟨vs⟩ w (FPost B pr E (.ret v H))
theorem sx_ {P:Program} {f:FuncId} {args:List AV} {v a:AV} {H1:AHeap} {n:Nat} (hargs:cm_ args=true) (hv:bL_ v=true) (hs:ef_ n H1 a=some v)
  (h:∀(B:World) (pr:Nat->Prop) (E:Env) (w:World) (vs:List Value),GlOk E->Rel B pr E H0 w->ConL E args vs->Calls P f ⟨vs⟩ w (FPost B pr E (.ret a H1))):kv_ P f args v:=by
 intro H B pr E w vs hg hr hc;have hEc:∀(b o:Nat) (v:Value),E.imm b o=some v->(Env.mk (λ_=>none) E.sz E.imm (λ_=>False) E.imm E.sy E.syl λ_=>False).imm b o=some v:=λ_ _ _ h=>h
 have hrel:Rel w (λb=>b<w.heap.size) ⟨λ_=>none,E.sz,E.imm,λ_=>False,E.imm,E.sy,E.syl,λ_=>False⟩ H0 w:={
  own:=⟨λ_=>none,λid k hk=>(kX_ hk).elim,λ_ _=>rfl,λ_ _ _ _=>rfl⟩
  imm:=hr.imm
  ib:=λ_ _ _ _ h=>h
  fresh:=λ_ _ _=>rfl
  resv:=λ_ h=>h.elim
  vds:=λ_ h=>h.elim
  szs:=hr.szs
  prot:=λb h=>⟨h,rfl⟩
  size:=Nat.le_refl _
  os:=rfl
  output:=rfl }
 refine Calls.mono (h w (λb=>b<w.heap.size) ⟨λ_=>none,E.sz,E.imm,λ_=>False,E.imm,E.sy,E.syl,λ_=>False⟩ w vs ⟨λg=>ck_ hEc (λ_ _ _ h=>h) (Gl.nr g) (hg.1 g),hg.2⟩ hrel (bw_ hEc (λ_ _ _ h=>h) hargs hc)) λe w' he=>?_;obtain ⟨E',hle,u,rfl,h1,h2⟩:=he;obtain ⟨E2,f1,f2,f3,f4,_,f5,f6⟩:=h2.freeze;have hcon:=mH_ h2 f1 f6 n _ _ _ hs h1;obtain ⟨own,g1,g2,g3⟩:=hr.own;have hsz:∀b n,E.sz b=some n->E2.sz b=some n:=λb n hx=>f1.2.1 b n (hle.1.2.1 b n hx);have him:∀b o v,E.imm b o=some v->E2.imm b o=some v:=λb o v hx=>f1.2.2.1 b o v (hle.1.2.2.1 b o v hx);have hsy:E2.sy=E.sy:=f1.2.2.2.1.trans hle.1.2.2.2.1;have hsyl:E2.syl=E.syl:=f1.2.2.2.2.trans hle.1.2.2.2.2;have hold:∀b o v,b<w.heap.size->E2.imm b o=some v->E.imm b o=some v:=λb o v hb hx=>by have:=f5.ib b o v hb hx;rw [f4,hle.2.2.1]at this;exact this
 refine ⟨⟨E.φ,E2.sz,E2.imm,E.res,E.bim,E2.sy,E2.syl,E.vd⟩,⟨⟨λ_ _ h=>h,hsz,him,hsy,hsyl⟩,rfl,rfl,rfl⟩,u,rfl,ck_ (E:=E2) (E':=⟨E.φ,E2.sz,E2.imm,E.res,E.bim,E2.sy,E2.syl,E.vd⟩) (λ_ _ _ h=>h) (λ_ _ _ h=>h) hv hcon,?_⟩;have hsub:E.sub ⟨E.φ,E2.sz,E2.imm,E.res,E.bim,E2.sy,E2.syl,E.vd⟩:=⟨λ_ _ h=>h,hsz,him,hsy,hsyl⟩
 refine { own:=⟨λb=>if b<w.heap.size then own b else none,λid k hk=>?_,λb hb=>?_,λb o v hx=>?_⟩,imm:=f5.imm,ib:=λb o v hb hx=>?_,fresh:=hr.fresh,resv:=hr.resv,vds:=hr.vds,szs:=f5.szs,prot:=λb hb=>?_,
          size:=Nat.le_trans hr.size h2.size,os:=h2.os.trans hr.os,output:=h2.output.trans hr.output }
 exact (g1 id k hk).imp (λ_ h=>h) (λh=>⟨h.1,h.2.sub λi hi=>by grind⟩) λb o e1 e2 e3=>⟨(if_pos e3.lt).trans e2,e3.sub hsub (h2.prot b e3.lt).2⟩
 .grind
 .grind
 have hlt:=Nat.lt_of_lt_of_le (hr.prot b hb).1 hr.size;exact hr.ib b o v hb (hold b o v hlt hx);obtain ⟨e1,e2⟩:=hr.prot b hb;exact ⟨e1,(h2.prot b (Nat.lt_of_lt_of_le e1 hr.size)).2.trans e2⟩
def us_ (P:Program) (n:Nat) (f:FuncId) (args:List AV) (v:AV):Bool:=match cm_ args&&bL_ v with
 |true=>match aM_ P n f args H0 with
  |some (.ret a H)=>match ef_ 100 H a with
   |some v'=>bM_ v' v
   |none=>false
  |_=>false
 |false=>false
theorem uK_ {P:Program} (hm:P.follows .mixedOrders=true) (ho:ku_ P) {n:Nat} {f:FuncId} {args:List AV} {v:AV} (h:us_ P n f args v=true):kv_ P f args v:=by unfold us_ at h;split at h;rename_i hn;obtain ⟨h1,h2⟩:=aa_ hn;split at h;rename_i a H hc;split at h;rename_i v' hs;have:=aD_ h;subst this;exact sx_ h1 h2 hs λB pr E w vs hg hr hc'=>dt_ hm ho n f args H0 _ hc B pr E w vs hg hr hc';cases h;cases h;cases h
def nF_:List (FuncId×List AV×AV)->FuncId->List AV->Option AV
 |[],_,_=>none
 |(F,A,V)::r,f,args=>match Nat.beq f F with
  |true=>match dl_ args A with
   |true=>some V
   |false=>nF_ r f args
  |false=>nF_ r f args
end Go.Sx
namespace Go.Sx
structure Env.leF (k:Nat) (E E':Env):Prop where
 phi:∀i x,i<k->E.φ i=some x->E'.φ i=some x
 sz:∀b n,E.sz b=some n->E'.sz b=some n
 imm:∀b o v,E.imm b o=some v->E'.imm b o=some v
 bim:E'.bim=E.bim
 sy:∀i,i<64->E'.sy i=E.sy i
theorem Env.leF_refl (k:Nat) (E:Env):E.leF k E:=⟨λ_ _ _ h=>h,λ_ _ h=>h,λ_ _ _ h=>h,rfl,λ_ _=>rfl⟩
theorem Env.leF.trans {k:Nat} {E E' E'':Env} (h:E.leF k E') (h':E'.leF k E''):E.leF k E'':=
 ⟨λi x hi hx=>h'.phi i x hi (h.phi i x hi hx),λb n hx=>h'.sz b n (h.sz b n hx),λb o v hx=>h'.imm b o v (h.imm b o v hx),h'.bim.trans h.bim,λi hi=>(h'.sy i hi).trans (h.sy i hi)⟩
theorem Env.le.leF {E E':Env} (h:E.le E') (k:Nat):E.leF k E':=⟨λi x _ hx=>h.1.1 i x hx,h.1.2.1,h.1.2.2.1,h.2.2.1,λi _=>by rw [h.1.2.2.2.1]⟩
structure Sy where
 v:Nat->Option AV
 l:Nat->Option (List AV)
structure Env.At (E:Env) (Y:Sy):Prop where
 v:E.sy=Y.v
 l:E.syl=Y.l
 res:∀id,E.res id->E.vd id
theorem Env.At.le {E E':Env} {Y:Sy} (h:E.At Y) (hle:E.le E'):E'.At Y:=⟨hle.1.2.2.2.1.trans h.v,hle.1.2.2.2.2.trans h.l,by rw [hle.2.1,hle.2.2.2];exact h.res⟩
variable [Gl]
def SemCall (P:Program) (Y:Sy) (f:FuncId) (args:List AV) (H:AHeap) (Q:FRes->Prop):Prop:=
 ∀(B:World) (pr:Nat->Prop) (E:Env) (w:World) (vs:List Value),E.At Y->GlOk E->Rel B pr E H w->ConL E args vs->
  Calls P f ⟨vs⟩ w (λe w'=>∃r,Q r/\FPost B pr E r e w')
theorem SemCall.mono {P:Program} {Y:Sy} {f:FuncId} {args:List AV} {H:AHeap} {Q Q':FRes->Prop} (hq:∀r,Q r->Q' r) (h:SemCall P Y f args H Q):SemCall P Y f args H Q':=
 λB pr E w vs hy hg hr hc=>Calls.mono (h B pr E w vs hy hg hr hc) λe w' he=>by grind
def QOutF (P:Program) (B:World) (pr:Nat->Prop) (N k:Nat) (E:Env) (Y:Sy) (r:CRes) (e:Exit) (a:Act) (w:World):Prop:=
 ∃E',E.leF k E'/\E'.At Y/\match r with
  | .norm T H D=>e=.normal/\St P B pr N E' T H D a w
  | .exit id T H D=>e=.exit id/\St P B pr N E' T H D a w
  | .ret T H D=>e=.ret/\St P B pr N E' T H D a w
  | .pan v T H D=>∃u,e=.panic [{ v:=u,recovered:=false }]/\Con E' v u/\St P B pr N E' T H D a w
abbrev KP:=Sy->Tm->AHeap->Dfs->Prop
abbrev XP:=Sy->CRes->Prop
def ay_ (K:KP) (X:XP) (Y:Sy) (r:CRes):Prop:=match r with
 | .norm T H D=>K Y T H D
 |r=>X Y r
def Weak (P:Program) (N k:Nat) (Y:Sy) (T:Tm) (H:AHeap) (D:Dfs) (Y':Sy) (T':Tm) (H':AHeap) (D':Dfs):Prop:=
 ∀(B:World) (pr:Nat->Prop) (E:Env) (a:Act) (w:World),E.At Y->St P B pr N E T H D a w->∃E',E.leF k E'/\E'.At Y'/\St P B pr N E' T' H' D' a w
theorem Weak.refl (P:Program) (N k:Nat) (Y:Sy) (T:Tm) (H:AHeap) (D:Dfs):Weak P N k Y T H D Y T H D:=λB pr E a w hy st=>⟨E,Env.leF_refl k E,hy,st⟩
theorem Weak.trans {P:Program} {N k:Nat} {Y Y' Y'':Sy} {T T' T'':Tm} {H H' H'':AHeap} {D D' D'':Dfs} (h:Weak P N k Y T H D Y' T' H' D') (h':Weak P N k Y' T' H' D' Y'' T'' H'' D''):Weak P N k Y T H D Y'' T'' H'' D'':=
 λB pr E a w hy st=>by obtain ⟨E',h1,hy',st'⟩:=h B pr E a w hy st;obtain ⟨E'',h2,hy'',st''⟩:=h' B pr E' a w hy' st';exact ⟨E'',h1.trans h2,hy'',st''⟩
section
variable {P:Program} {B:World} {pr:Nat->Prop} {N k:Nat} {E:Env}
theorem QOut.toF {Y:Sy} (hy:E.At Y) {r:CRes} {e:Exit} {a:Act} {w:World} (h:QOut P B pr N E r e a w):QOutF P B pr N k E Y r e a w:=by obtain ⟨E',h1,h2⟩:=h;exact ⟨E',h1.leF k,hy.le h1,h2⟩
theorem QOutF.le {Y:Sy} {E':Env} (h:E.leF k E') {r:CRes} {e:Exit} {a:Act} {w:World} (hq:QOutF P B pr N k E' Y r e a w):QOutF P B pr N k E Y r e a w:=by obtain ⟨E'',h1,h2⟩:=hq;exact ⟨E'',h.trans h1,h2⟩
end
def OutF (P:Program) (B:World) (pr:Nat->Prop) (N k:Nat) (E:Env) (R:Sy->CRes->Prop) (e:Exit) (a:Act) (w:World):Prop:=∃Y r,R Y r/\QOutF P B pr N k E Y r e a w
theorem OutF.le {P:Program} {B:World} {pr:Nat->Prop} {N k:Nat} {E E':Env} (h:E.leF k E') {R:Sy->CRes->Prop} {e:Exit} {a:Act} {w:World} (hq:OutF P B pr N k E' R e a w):OutF P B pr N k E R e a w:=by obtain ⟨Y,r,h1,h2⟩:=hq;exact ⟨Y,r,h1,h2.le h⟩
def cF_ (P:Program) (o:Oper) (u:Tm->AV->Tm) (Y:Sy) (T:Tm) (H:AHeap) (D:Dfs) (next:KP) (X:XP):Prop:=match (ac_ P o).run T H with
 |some (.val a H')=>next Y (u T a) H' D
 |some (.call g args)=>SemCall P Y g args H λr=>match r with
  | .ret a H'=>next Y (u T a) H' D
  | .pan v H'=>X Y (.pan v T H' D)
 |some (.dfr g args)=>next Y (u T (.tup [])) H ((g,args)::D)
 |some (.pan v)=>X Y (.pan v T H D)
 |_=>False
def eO_ (P:Program) (N k:Nat) (o:Oper) (u:Tm->AV->Tm) (Y:Sy) (T:Tm) (H:AHeap) (D:Dfs) (next:KP):Prop:=
 ∃(Y':Sy) (r:AV) (H':AHeap),next Y' (u T r) H' D/\∀(B:World) (pr:Nat->Prop) (E:Env) (a:Act) (w:World),E.At Y->St P B pr N E T H D a w->
  ∃E' n v w',(execOp a.eval o).run P w=.ok n w'/\(n=.value v\/(n=.skip/\v=undef))/\E.leF k E'/\E'.At Y'/\St P B pr N E' T H' D a w'/\Con E' r v
def wCL (P:Program) (N k:Nat) (o:Oper) (u:Tm->AV->Tm) (Y:Sy) (T:Tm) (H:AHeap) (D:Dfs) (next:KP):Prop:=
 ∃(g:FuncId) (args:List AV) (Y':Sy) (r:AV),(ac_ P o).run T H=some (.call g args)/\next Y' (u T r) H D/\∀(B:World) (pr:Nat->Prop) (E:Env) (a:Act) (w:World) (vs:List Value),E.At Y->St P B pr N E T H D a w->
  ConL E args vs->Calls P g ⟨vs⟩ w λe w'=>∃E' v,e=.returned v/\E.leF k E'/\E'.At Y'/\St P B pr N E' T H D a w'/\Con E' r v
def wCF (P:Program) (N k:Nat) (o:Oper) (u:Tm->AV->Tm) (Y:Sy) (T:Tm) (H:AHeap) (D:Dfs) (next:KP) (X:XP):Prop:=
 ∃(g:FuncId) (args:List AV) (R:Sy->Bool->AV->AHeap->Prop),(ac_ P o).run T H=some (.call g args)/\(∀Y' r H',R Y' false r H'->next Y' (u T r) H' D)/\(∀Y' v H',R Y' true v H'->X Y' (.pan v T H' D))/\
  ∀(B:World) (pr:Nat->Prop) (E:Env) (a:Act) (w:World) (vs:List Value),E.At Y->St P B pr N E T H D a w->ConL E args vs->
   Calls P g ⟨vs⟩ w λe w'=>∃E' Y' b r H' v,R Y' b r H'/\E.leF k E'/\E'.At Y'/\St P B pr N E' T H' D a w'/\Con E' r v/\e=(match b with
    |true=>.panicked [{ v:=v,recovered:=false }]
    |false=>.returned v)
def fH_ (P:Program) (N k:Nat) (all:List Oper):List Oper->Sy->Tm->AHeap->Dfs->KP->XP->Prop
 |[],Y,T,H,D,K,X=>K Y T H D
 |o::r,Y0,T0,H0,D0,K,X=>∃Y T H D,Weak P N k Y0 T0 H0 D0 Y T H D/\match bN_ N o.dst with
  | .bad=>False
  | .mk u=>∃t,(match aT_ all o with
     | .always=>some true
     | .mk g=>g T)=some t/\
     (t=true->cF_ P o u Y T H D (λY T H D=>fH_ P N k all r Y T H D K X) X\/eO_ P N k o u Y T H D (λY T H D=>fH_ P N k all r Y T H D K X)\/wCL P N k o u Y T H D (λY T H D=>fH_ P N k all r Y T H D K X)\/wCF P N k o u Y T H D (λY T H D=>fH_ P N k all r Y T H D K X) X)/\
     (t=false->fH_ P N k all r Y (u T (.tup [])) H D K X)
section
variable {P:Program} {N k:Nat}
theorem hT_ (ops:Array Oper):∀(l:List Oper) (Y:Sy) (T:Tm) (H:AHeap) (D:Dfs) (K:KP) (X:XP),fH_ P N k ops.toList l Y T H D K X->∀B pr E a w,E.At Y->St P B pr N E T H D a w->
  wpList P ops (OutF P B pr N k E (ay_ K X)) l a w
 |[],Y,T,H,D,K,X,h,B,pr,E,a,w,hy,st=>⟨Y,.norm T H D,h,E,Env.leF_refl k E,hy,rfl,st⟩
 |o::l,Y0,T0,H0,D0,K,X,h,B,pr,E0,a,w,hy0,st0=>by
  obtain ⟨Y,T,H,D,hweak,h⟩:=h;obtain ⟨E,hle0,hy,st⟩:=hweak B pr E0 a w hy0 st0;refine wpList_mono (λe a w hq=>OutF.le hle0 hq) _ _ _ ?_;have ih:=hT_ ops l;split at h;exact h.elim
  .rename_i u hu;obtain ⟨t,ht,h1,h2⟩:=h;have key:Region.wanted o (yielded ops a.tmps)=t:=by
    split at ht
    .grind [cK_]
    rename_i g hg;exact ew_ st.t hg ht
   have pd:∀v,(a.put o.dst v).defers=a.defers:=λv=>(by unfold Act.put;split<;>rfl);unfold wpList;cases t with
   |false=>rw [if_neg (by grind)];exact ih _ _ _ _ _ _ (h2 rfl) B pr E _ w hy ⟨st.t.put hu (a1_ E),st.r,by rw [pd];exact st.d⟩
   |true=>
    rw [if_pos key];refine .inl ?_;rcases h1 rfl with h1|h1|h1|h1
    .unfold cF_ at h1;split at h1
     .rename_i x H' hrun;obtain ⟨E',n,v,w',g1,g2,g3,g4,g5⟩:=aw_ hrun st.r st.t;unfold Oper.wp;rw [g1];have key:wpList P ops (OutF P B pr N k E (ay_ K X)) l (a.put o.dst v) w':=
       wpList_mono (λe a w hq=>OutF.le (g3.leF k) hq) _ _ _ (ih _ _ _ _ _ _ h1 B pr E' (a.put o.dst v) w' (hy.le g3) ⟨(st.t.mono g3).put hu g5,g4,by rw [pd];exact st.d.mono g3⟩)
      rcases g2 with rfl|⟨rfl,rfl⟩;exact key;exact key
     .rename_i g args hrun;obtain ⟨vs,g1,g2⟩:=aw_ hrun st.r st.t;unfold Oper.wp;rw [g1];refine Calls.mono (h1 B pr E w vs hy st.t.gl st.r g2) λe w' he=>?_;obtain ⟨r,hq,E',g3,he⟩:=he;cases r with
      |ret x H'=>obtain ⟨v,rfl,g4,g5⟩:=he;exact wpList_mono (λe a w hq=>OutF.le (g3.leF k) hq) _ _ _ (ih _ _ _ _ _ _ hq B pr E' (a.put o.dst v) w' (hy.le g3) ⟨(st.t.mono g3).put hu g4,g5,by rw [pd];exact st.d.mono g3⟩)
      |pan x H'=>obtain ⟨v,rfl,g4,g5⟩:=he;exact ⟨Y,.pan x T H' D,hq,E',g3.leF k,hy.le g3,v,rfl,g4,st.t.mono g3,g5,st.d.mono g3⟩
     .rename_i g args hrun;obtain ⟨vs,g1,g2,g3⟩:=aw_ hrun st.r st.t;unfold Oper.wp;rw [g1];refine ih _ _ _ _ _ _ h1 B pr E _ w hy ⟨?_,st.r,?_⟩
      .have:=st.t.put (a:=a) hu (a1_ E);have e:(({ a with defers:={ target:=.fn (.func g) #[],args:=⟨vs⟩ }::a.defers }:Act).put o.dst undef).tmps=(a.put o.dst undef).tmps:=by unfold Act.put;split<;>rfl
       grind
      have e:(({ a with defers:={ target:=.fn (.func g) #[],args:=⟨vs⟩ }::a.defers }:Act).put o.dst undef).defers={ target:=.fn (.func g) #[],args:=⟨vs⟩ }::a.defers:=(by unfold Act.put;split<;>rfl);rw [e];exact ⟨vs,a.defers,rfl,g2,g3,st.d⟩
     rename_i v hrun;obtain ⟨u',g1,g2⟩:=aw_ hrun st.r st.t;unfold Oper.wp;rw [g1];exact ⟨Y,.pan v T H D,h1,E,Env.leF_refl k E,hy,u',rfl,g2,st⟩
     grind
    .obtain ⟨Y',r,H',hnext,hrun⟩:=h1;obtain ⟨E',n,v,w',g1,g2,g3,hy',st',g5⟩:=hrun B pr E a w hy st;unfold Oper.wp;rw [g1];have key:wpList P ops (OutF P B pr N k E (ay_ K X)) l (a.put o.dst v) w':=
      wpList_mono (λe a w hq=>OutF.le g3 hq) _ _ _ (ih _ _ _ _ _ _ hnext B pr E' (a.put o.dst v) w' hy' ⟨st'.t.put hu g5,st'.r,by rw [pd];exact st'.d⟩)
     rcases g2 with rfl|⟨rfl,rfl⟩;exact key;exact key
    obtain ⟨g,args,Y',r,hst,hnext,hrun⟩:=h1;obtain ⟨vs,g1,g2⟩:=aw_ hst st.r st.t;unfold Oper.wp;rw [g1];refine Calls.mono (hrun B pr E a w vs hy st g2) λe w' he=>?_;obtain ⟨E',v,rfl,g3,hy',st',g5⟩:=he;exact wpList_mono (λe a w hq=>OutF.le g3 hq) _ _ _ (ih _ _ _ _ _ _ hnext B pr E' (a.put o.dst v) w' hy' ⟨st'.t.put hu g5,st'.r,by rw [pd];exact st'.d⟩)
    .obtain ⟨g,args,R,hst,hnext,hX,hrun⟩:=h1;obtain ⟨vs,g1,g2⟩:=aw_ hst st.r st.t;unfold Oper.wp;rw [g1];refine Calls.mono (hrun B pr E a w vs hy st g2) λe w' he=>?_;obtain ⟨E',Y',b,r,H',v,hR,g3,hy',st',g5,rfl⟩:=he;cases b with
     |false=>exact wpList_mono (λe a w hq=>OutF.le g3 hq) _ _ _ (ih _ _ _ _ _ _ (hnext Y' r H' hR) B pr E' (a.put o.dst v) w' hy' ⟨st'.t.put hu g5,st'.r,by rw [pd];exact st'.d⟩)
     |true=>exact ⟨Y',.pan r T H' D,hX Y' r H' hR,E',g3,hy',v,rfl,g5,st'⟩
end
def m5_ (id:Nat) (K:KP) (X:XP) (Y:Sy) (r:CRes):Prop:=match r with
 | .exit id' T H D=>(id'=id->K Y T H D)/\(id'≠id->X Y r)
 |r=>X Y r
structure AS where
 Y:Sy
 T:Tm
 H:AHeap
 D:Dfs
def aC_ (P:Program) (N k:Nat):Code->Sy->Tm->AHeap->Dfs->KP->XP->Prop
 | .skip,Y,T,H,D,K,X=>K Y T H D
 | .label _,Y,T,H,D,K,X=>K Y T H D
 | .region id ops draw,Y,T,H,D,K,X=>match draw with
   |false=>fH_ P N k ops.toList ops.toList Y T H D K X
   |true=>(∃Y1 T1 H1 D1,Weak P N k Y T H D Y1 T1 H1 D1/\∃call r,an_ P call/\h8_ P call N ops.toList T1 H1 D1=some r/\ay_ K X Y1 r)\/
     ∀B pr E a w,E.At Y->St P B pr N E T H D a w->(Code.region id ops true).wp P (OutF P B pr N k E (ay_ K X)) a w
 | .seq a b,Y,T,H,D,K,X=>aC_ P N k a Y T H D (λY T H D=>aC_ P N k b Y T H D K X) X
 | .cond c a b,Y,T,H,D,K,X=>∃Y1 T1 H1 D1,Weak P N k Y T H D Y1 T1 H1 D1/\∃t,look T1 c=.bool t/\(t=true->aC_ P N k a Y1 T1 H1 D1 K X)/\(t=false->aC_ P N k b Y1 T1 H1 D1 K X)
 | .block id b,Y,T,H,D,K,X=>aC_ P N k b Y T H D K (m5_ id K X)
 | .loop b,Y,T,H,D,K,X=>∃(ι:Type) (S:ι->AS) (μ:ι->Nat) (i0:ι),Weak P N k Y T H D (S i0).Y (S i0).T (S i0).H (S i0).D/\
    ∀i,aC_ P N k b (S i).Y (S i).T (S i).H (S i).D (λY' T' H' D'=>∃j,μ j<μ i/\Weak P N k Y' T' H' D' (S j).Y (S j).T (S j).H (S j).D) X
 | .exit id,Y,T,H,D,K,X=>X Y (.exit id T H D)
 | .ret,Y,T,H,D,K,X=>X Y (.ret T H D)
 |_,_,_,_,_,_,_=>False
section
variable {P:Program} {N k:Nat}
theorem OutF.then {B:World} {pr:Nat->Prop} {E:Env} {K:KP} {X:XP} {Q:Exit->Act->World->Prop} {KA:Act->World->Prop} {e:Exit} {a:Act} {w:World} (h:OutF P B pr N k E (ay_ K X) e a w)
  (hk:∀E' Y T H D a w,K Y T H D->E.leF k E'->E'.At Y->St P B pr N E' T H D a w->KA a w) (hx:∀Y r e a w,(∀T H D,r≠ .norm T H D)->X Y r->QOutF P B pr N k E Y r e a w->Q e a w):Exit.then KA Q e a w:=by
 obtain ⟨Y,r,hr,hq⟩:=h;have hex:∀e,(∀T H D,r≠ .norm T H D)->QOutF P B pr N k E Y r e a w->e≠ .normal:=λe hn hq he=>by
  obtain ⟨E',h1,_,h2⟩:=hq
  grind
 cases r with
 |norm T H D=>obtain ⟨E',h1,hy,rfl,h2⟩:=hq;exact hk E' Y T H D a w hr h1 hy h2
 |exit id T H D=>have:=hx Y _ e a w (λ_ _ _ h=>by cases h) hr hq;have hne:=hex e (λ_ _ _ h=>by cases h) hq;cases e<;>first|exact absurd rfl hne|exact this
 |ret T H D=>have:=hx Y _ e a w (λ_ _ _ h=>by cases h) hr hq;have hne:=hex e (λ_ _ _ h=>by cases h) hq;cases e<;>first|exact absurd rfl hne|exact this
 |pan v T H D=>have:=hx Y _ e a w (λ_ _ _ h=>by cases h) hr hq;have hne:=hex e (λ_ _ _ h=>by cases h) hq;cases e<;>first|exact absurd rfl hne|exact this
omit [Gl]in
theorem g8_ {K:KP} {X:XP} {Y:Sy} {r:CRes} (hn:∀T H D,r≠ .norm T H D) (h:X Y r):ay_ K X Y r:=by
 cases r with
 |norm T H D=>grind
 |exit id T H D=>exact h
 |ret T H D=>exact h
 |pan v T H D=>exact h
theorem cy_ (hm:P.follows .mixedOrders=true):∀(c:Code) (Y:Sy) (T:Tm) (H:AHeap) (D:Dfs) (K:KP) (X:XP),aC_ P N k c Y T H D K X->∀B pr E a w,E.At Y->St P B pr N E T H D a w->
  c.wp P (OutF P B pr N k E (ay_ K X)) a w
 | .skip,Y,T,H,D,K,X,h,B,pr,E,a,w,hy,st=>by exact wp_skip ⟨Y,.norm T H D,h,E,Env.leF_refl k E,hy,rfl,st⟩
 | .label _,Y,T,H,D,K,X,h,B,pr,E,a,w,hy,st=>by exact wp_label ⟨Y,.norm T H D,h,E,Env.leF_refl k E,hy,rfl,st⟩
 | .exit id,Y,T,H,D,K,X,h,B,pr,E,a,w,hy,st=>by exact wp_exit ⟨Y,.exit id T H D,h,E,Env.leF_refl k E,hy,rfl,st⟩
 | .ret,Y,T,H,D,K,X,h,B,pr,E,a,w,hy,st=>by exact wp_ret ⟨Y,.ret T H D,h,E,Env.leF_refl k E,hy,rfl,st⟩
 | .region id ops false,Y,T,H,D,K,X,h,B,pr,E,a,w,hy,st=>by
   grind [aC_,wp_region_list,hT_]
 | .region id ops true,Y,T,H,D,K,X,h,B,pr,E,a,w,hy,st=>by
   rcases h with h|h;obtain ⟨Y1,T1,H1,D1,hweak,call,r,hc,hd,hr⟩:=h;obtain ⟨E1,hle,hy1,st1⟩:=hweak B pr E a w hy st;exact Code.wp_mono (λe a w hq=>⟨Y1,r,hr,(QOut.toF hy1 hq).le hle⟩) (fV_ hm hc N id ops T1 H1 D1 r hd B pr E1 a w st1)
   grind
 | .seq x y,Y,T,H,D,K,X,h,B,pr,E,a,w,hy,st=>by unfold aC_ at h;refine wp_seq (Code.wp_mono (λe a w hq=>?_) (cy_ hm x Y T H D _ X h B pr E a w hy st));refine OutF.then hq (λE' Y T H D a w hK hle hy' st'=>?_) λY r e a w hn hX hq=>⟨Y,r,g8_ hn hX,hq⟩;exact Code.wp_mono (λe a w hq=>OutF.le hle hq) (cy_ hm y Y T H D K X hK B pr E' a w hy' st')
 | .cond c x y,Y,T,H,D,K,X,h,B,pr,E,a,w,hy,st=>by
   obtain ⟨Y1,T1,H1,D1,hweak,t,ht,h1,h2⟩:=h;obtain ⟨E1,hle,hy1,st1⟩:=hweak B pr E a w hy st;refine Code.wp_mono (λe a w hq=>OutF.le hle hq) ?_;have hl:a.eval c=.bool t:=(by have:=st1.t.look c;grind [Con]);cases t with
   |true=>exact wp_cond_true hl (cy_ hm x Y1 T1 H1 D1 K X (h1 rfl) B pr E1 a w hy1 st1)
   |false=>exact wp_cond_false hl (cy_ hm y Y1 T1 H1 D1 K X (h2 rfl) B pr E1 a w hy1 st1)
 | .block id b,Y,T,H,D,K,X,h,B,pr,E,a,w,hy,st=>by
   refine wp_block (Code.wp_mono (λe a w hq=>?_) (cy_ hm b Y T H D K _ h B pr E a w hy st));obtain ⟨Y',r,hr,hq⟩:=hq;cases e with
   |exit id'=>
    show if id'=id then _ else _
    obtain ⟨E',h1,hy',h2⟩:=hq;cases r with
    |norm T H D=>cases h2.1
    |ret T H D=>cases h2.1
    |pan v T H D=>grind
    |exit i2 T' H' D'=>obtain ⟨he,st'⟩:=h2;cases he;split;rename_i hid;exact ⟨Y',.norm T' H' D',hr.1 hid,E',h1,hy',rfl,st'⟩;rename_i hid;exact ⟨Y',.exit id' T' H' D',hr.2 hid,E',h1,hy',rfl,st'⟩
   |normal=>
    obtain ⟨E',h1,hy',h2⟩:=hq;cases r with
    |norm T' H' D'=>exact ⟨Y',.norm T' H' D',hr,E',h1,hy',h2⟩
    |exit i2 T H D=>cases h2.1
    |ret T H D=>cases h2.1
    |pan v T H D=>grind
   |ret=>
    obtain ⟨E',h1,hy',h2⟩:=hq;cases r with
    |ret T' H' D'=>exact ⟨Y',.ret T' H' D',hr,E',h1,hy',h2⟩
    |exit i2 T H D=>cases h2.1
    |norm T H D=>cases h2.1
    |pan v T H D=>grind
   |panic ch=>
    obtain ⟨E',h1,hy',h2⟩:=hq;cases r with
    |pan v T' H' D'=>exact ⟨Y',.pan v T' H' D',hr,E',h1,hy',h2⟩
    |exit i2 T H D=>cases h2.1
    |norm T H D=>cases h2.1
    |ret T H D=>cases h2.1
   |goto l=>
    obtain ⟨E',h1,hy',h2⟩:=hq
    grind
   |outgrown=>
    obtain ⟨E',h1,hy',h2⟩:=hq
    grind
 | .loop b,Y,T,H,D,K,X,h,B,pr,E,a,w,hy,st=>by
   obtain ⟨ι,S,μ,i0,hw0,hb⟩:=h;have rounds:∀(m:Nat) (i:ι),μ i<m->∀E' a w,E.leF k E'->E'.At (S i).Y->St P B pr N E' (S i).T (S i).H (S i).D a w->Code.rounds P b (OutF P B pr N k E (ay_ K X)) m a w:=by
    intro m
    induction m with
    |zero=>grind
    |succ m ih=>intro i hi E' a w hle hy st;refine Code.wp_mono (λe a w hq=>?_) (cy_ hm b _ _ _ _ _ X (hb i) B pr E' a w hy st);refine OutF.then hq (λE2 Y T H D a w hK hle2 hy2 st2=>?_) λY r e a w hn hX hq=>⟨Y,r,g8_ hn hX,hq.le hle⟩;obtain ⟨j,hj,hweak⟩:=hK;obtain ⟨E3,hle3,hy3,st3⟩:=hweak B pr E2 a w hy2 st2;exact ih j (by omega) E3 a w (hle.trans (hle2.trans hle3)) hy3 st3
   obtain ⟨E1,hle1,hy1,st1⟩:=hw0 B pr E a w hy st;exact wp_loop_rounds (μ i0+1) (rounds (μ i0+1) i0 (Nat.lt_succ_self _) E1 a w hle1 hy1 st1)
 | .scope _,Y,T,H,D,K,X,h,B,pr,E,a,w,hy,st=>by grind [aC_]
 | .goto _,Y,T,H,D,K,X,h,B,pr,E,a,w,hy,st=>by grind [aC_]
 | .refuse _,Y,T,H,D,K,X,h,B,pr,E,a,w,hy,st=>by grind [aC_]
 | .rangeFunc _ _ _ _,Y,T,H,D,K,X,h,B,pr,E,a,w,hy,st=>by grind [aC_]
def kt_ (k:Nat) (B:World) (pr:Nat->Prop) (E:Env) (Y:Sy) (r:FRes) (e:Ending) (w':World):Prop:=
 ∃E',E.leF k E'/\E'.At Y/\match r with
  | .ret v H'=>∃u,e=.returned u/\Con E' v u/\Rel B pr E' H' w'
  | .pan v H'=>∃u,e=.panicked [{ v:=u,recovered:=false }]/\Con E' v u/\Rel B pr E' H' w'
def d6_ (P:Program) (k:Nat) (fn:Func) (Q:Sy->FRes->Prop) (Y:Sy) (T:Tm) (H:AHeap) (D:Dfs) (u:Option AV):Prop:=
 (∃call n r,an_ P call/\cC_ P call n fn.results.toList T D H u=some r/\Q Y r)\/
 ∀B pr E w tmps ds m,E.At Y->TRel E fn.ntmps T tmps->Rel B pr E H w->DRel P E D ds->ModeAt E u m->Leaves P fn tmps (λe w'=>∃Y r,Q Y r/\kt_ k B pr E Y r e w') ds m w
def sR_ (P:Program) (k:Nat) (fn:Func) (Q:Sy->FRes->Prop) (Y:Sy) (r:CRes):Prop:=match r with
 | .norm T H D=>d6_ P k fn Q Y T H D none
 | .ret T H D=>d6_ P k fn Q Y T H D none
 | .pan v T H D=>d6_ P k fn Q Y T H D (some v)
 | .exit _ _ _ _=>False
def SemCallF (P:Program) (k:Nat) (Y:Sy) (f:FuncId) (args:List AV) (H:AHeap) (Q:Sy->FRes->Prop):Prop:=
 ∀(B:World) (pr:Nat->Prop) (E:Env) (w:World) (vs:List Value),E.At Y->GlOk E->Rel B pr E H w->ConL E args vs->
  Calls P f ⟨vs⟩ w (λe w'=>∃Y' r,Q Y' r/\kt_ k B pr E Y' r e w')
def wFn (P:Program) (k:Nat) (fn:Func) (c:Code) (Y:Sy) (args:List AV) (H:AHeap) (Q:Sy->FRes->Prop):Prop:=
 args.length<=fn.ntmps/\fn.ntmps<=512/\aC_ P fn.ntmps k c Y (aX_ args 0 tnil) H [] (λY T H D=>d6_ P k fn Q Y T H D none) (sR_ P k fn Q)
theorem nX_ (hm:P.follows .mixedOrders=true) {f:FuncId} {fn:Func} {c:Code} (hf:P.funcs[f]? =some fn) (hb:fn.body=some c) {Y:Sy} {args:List AV} {H:AHeap} {Q:Sy->FRes->Prop}
  (h:wFn P k fn c Y args H Q):SemCallF P k Y f args H Q:=by
 intro B pr E w vs hy hg hr hc;obtain ⟨hle,h5,h⟩:=h;have leave:∀(E':Env) (Y':Sy) (a:Act) (w':World) (T:Tm) (H':AHeap) (D:Dfs) (u:Option AV) (m:FrameMode),d6_ P k fn Q Y' T H' D u->E.leF k E'->E'.At Y'->St P B pr fn.ntmps E' T H' D a w'->ModeAt E' u m->
   Leaves P fn a.tmps (λe w'=>∃Y r,Q Y r/\kt_ k B pr E Y r e w') a.defers m w':=by
  intro E' Y' a w' T H' D u m hl hle hy' st hmode;rcases hl with ⟨call,n,r,h1,h2,h3⟩|hl
  case inr=>exact Leaves.mono (λe w ⟨Y,r,h1,E'',g1,g2⟩=>⟨Y,r,h1,E'',hle.trans g1,g2⟩) _ _ _ (hl B pr E' w' a.tmps a.defers m hy' st.t st.r st.d hmode)
  refine Leaves.mono (λe w hq=>?_) _ _ _ (cS_ h1 (λN=>fV_ hm h1 N) D H' u r h2 E' w' a.defers m st.t st.r st.d hmode);obtain ⟨E'',g1,g2⟩:=hq;exact ⟨Y',r,h3,E'',hle.trans (g1.leF k),hy'.le g1,g2⟩
 refine calls_of_wp_defers hf hb (Code.wp_mono (λe a w' hq=>?_) (cy_ hm c _ _ _ _ _ _ h B pr E _ w hy ⟨eY_ hg hc hle h5,hr,rfl⟩));obtain ⟨Y',r',hd,E',h1,hy',h2⟩:=hq;cases r' with
 |norm T H' D=>obtain ⟨rfl,st⟩:=h2;exact leave E' Y' a w' T H' D none .returning hd h1 hy' st rfl
 |ret T H' D=>obtain ⟨rfl,st⟩:=h2;exact leave E' Y' a w' T H' D none .returning hd h1 hy' st rfl
 |pan v T H' D=>obtain ⟨u,rfl,h3,st⟩:=h2;exact leave E' Y' a w' T H' D (some v) _ hd h1 hy' st ⟨u,rfl,h3⟩
 |exit id T H' D=>exact hd.elim
end
end Go.Sx
