/-
  Regions whose order is open are sound; so are calls to any depth, and a run that answers true.
-/
import Derived.Test.YtjconanknjgpnaaGreatSxW
import Derived.RowKit3
set_option linter.unusedVariables false
set_option linter.unusedSimpArgs false
namespace Go.Sx
variable [Gl]
section
variable {P:Program} {call:CallF} {N:Nat} {ops:List Oper} {l:List SI} {T0:Tm} {base:Nat}
omit [Gl]in
theorem my_ {i:Nat} {x:SI} (hx:l[i]? =some x):a9_ l base (i+1)=match x.kd with| .mem=>Nat.succ (a9_ l base i)|_=>a9_ l base i:=by
 unfold a9_
 rw [bX_ l i x hx]
 cases x.kd<;>simp only [Nat.succ_eq_add_one]<;>omega
theorem fI_ (hP:PlanOk ops l):∀(rest:List SI) (i id:Nat) (s s':DS) (ev0:Nat->Evt),(∀k,rest[k]? =l[i+k]?)->DInv P call N ops l T0 base i ev0 s->id=a9_ l base i->
  dt_ P call N ops rest i id s=some s'->∃ev,DInv P call N ops l T0 base (i+rest.length) ev s'
 |[],i,id,s,s',ev0,hrest,inv,hid,h=>by cases h;exact ⟨ev0,inv⟩
 |x::r,i,id,s,s',ev0,hrest,inv,hid,h=>by
  have hx:l[i]? =some x:=by have:=hrest 0;simpa using this.symm
  unfold dt_ at h
  split at h
  .cases h
  .rename_i s1 h1
   have hr:∀k,r[k]? =l[i+1+k]? :=λk=>by
    have:=hrest (k+1)
    rw [show i+1+k=i+(k+1) by omega,←this];simp
   obtain ⟨e,he⟩:=l6_ hP inv hx hid hr h1
   have inv1:=he (λj=>if j=i then e else ev0 j) (λj hj=>if_neg (by omega)) (if_pos rfl)
   have hid':=my_ (base:=base) hx
   have el:i+(x::r).length=i+1+r.length:=by simp;omega
   rw [el]
   split at h
   .rename_i hk
    rw [hk]at hid'
    exact fI_ hP r (i+1) (Nat.succ id) s1 s' _ hr inv1 (by rw [hid',hid]) h
   .rename_i hk
    refine fI_ hP r (i+1) id s1 s' _ hr inv1 ?_ h
    rw [hid',hid]
    cases hkd:x.kd<;>first|rfl|exact absurd hkd hk
theorem q4_ (hP:PlanOk ops l) {ev:Nat->Evt} {s:DS} (inv:DInv P call N ops l T0 base l.length ev s) (hr:dY_ P s.Gs s.rd=true):Facts P call N ops l ev T0 (a9_ l base) s.Gs s.dead where
 each:=λi x hx=>by
  have hi:i<l.length:=(List.getElem?_eq_some_iff.1 hx).1
  rcases inv.each i x hx hi with h|⟨u,R,h1,h2,h3⟩
  .exact .inl h
  .refine .inr ⟨u,R,h1,h2,?_⟩
   generalize ev i=e at h3
   cases h3 with
   |off hg hw=>exact .off hg hw
   |pure hg hk h=>exact .pure hg hk h
   |read hg hk g1 h hm=>
    refine .read hg hk λm G q1 q2 q3=>?_
    by_cases e:m=x.lo
    .subst e;rw [g1]at q3;cases q3;exact h
    .exact go_ s.rd hr _ hm m G (by show x.lo<m;omega) q2 q3
   |fl hg hk hy hj hbit hno hlater ht h=>exact .fl hg hk hy hj hbit hno hlater ht h
   |mem hg hk h hb=>exact .mem hg hk h hb
   |wr hg hk h1 h2 ht h=>exact .wr hg hk h1 h2 ht h
   |die hg hk h1 ht hd h=>exact .die hg hk h1 ht hd h
 dead:=λd v H hd=>(inv.gsd d v H hd).1
 row:=λj y a id b hy he=>inv.row j y a id b hy (List.getElem?_eq_some_iff.1 hy).1 he
 inj:=λi j x y hx hy kx ky h=>nS_ hx hy kx ky h
end
theorem k0_ {P:Program} {call:CallF} {N:Nat} {ops:List Oper} {x:SI} {rest:List SI} {i id:Nat} {s s':DS} (h:ez_ P call N ops x rest i id s=some s'):∃gs,s'.Gs=s.Gs++gs:=by
 unfold ez_ at h
 split at h
 .cases h;exact ⟨[],by simp⟩
 .split at h
  .cases h
  .split at h
   .cases h
   .split at h
    .unfold nG_ at h
     repeat' split at h
     all_goals first
      |(cases h;done)
      |(cases h;exact ⟨_,bC_ _ _⟩)
      |(cases h;exact ⟨[],(List.append_nil _).symm⟩)
    .unfold kZ_ at h
     repeat' split at h
     all_goals first
      |(cases h;done)
      |(cases h;exact ⟨_,bC_ _ _⟩)
      |(cases h;exact ⟨[],(List.append_nil _).symm⟩)
theorem f8_ {P:Program} {call:CallF} {N:Nat} {ops:List Oper}:∀{rest:List SI} {i id:Nat} {s s':DS},dt_ P call N ops rest i id s=some s'->∃gs,s'.Gs=s.Gs++gs
 |[],i,id,s,s',h=>by cases h;exact ⟨[],by simp⟩
 |x::r,i,id,s,s',h=>by
  unfold dt_ at h
  split at h
  .cases h
  .rename_i s1 h1
   obtain ⟨g1,e1⟩:=k0_ h1
   split at h
   all_goals
    obtain ⟨g2,e2⟩:=f8_ h
    exact ⟨g1++g2,by rw [e2,e1,List.append_assoc]⟩
theorem l5_ {P:Program} {call:CallF} {N:Nat} {ops:List Oper} {rest:List SI} {i id:Nat} {T:Tm} {G:AHeap} {s':DS} (h:dt_ P call N ops rest i id ⟨T,[G],[],[],none⟩=some s'):s'.Gs[0]? =some G:=by
 obtain ⟨gs,e⟩:=f8_ h
 rw [e];rfl
theorem h1_ {P:Program} (hm:P.follows .mixedOrders=true) {call:CallF} (hcall:as_ P call) (N:Nat):gw_ P N call:=by
 intro id ops T H D r h B pr E a w st
 unfold j7_ at h
 split at h
 .cases h
 .rename_i l n hpl
  obtain ⟨hP,hn⟩:=lx_ hpl
  split at h
  .cases h
  .rename_i hroom
   have hroom:H.next+n<=H.hi:=by
    have:Nat.ble (Nat.add H.next n) H.hi=true:=hroom
    simpa [Nat.ble_eq]using this
   have hbase:Nat.sub H.hi n=H.hi-n:=rfl
   split at h
   .cases h
   .rename_i s hrun
    have inv0:DInv P call N ops.toList l T (H.hi-n) 0 (λ_=>.gone) ⟨T,[⟨H.tr,H.next,H.hi-n⟩],[],[],none⟩:={
     slot:=λt ht=>.inl ⟨rfl,λj x _ hs=>by simp at hs⟩
     gs:=λ_=>by
      have:wAt ops.toList 0=0:=e3_ _ _ λi o _ _=>by simp
      simp [this]
     gsd:=λd v H hd=>by cases hd
     fl:=λf hf=>by simp at hf
     each:=λj x _ hj=>by omega
     row:=λj y a id b _ hj=>by omega
     ft:=λf hf=>by simp at hf }
    obtain ⟨ev,inv⟩:=fI_ hP l 0 (H.hi-n) _ s _ (λk=>by rw [Nat.zero_add]) inv0 (by simp [a9_,a1_]) hrun
    rw [Nat.zero_add]at inv
    split at h
    .cases h
    .rename_i hre
     have F:=q4_ hP inv hre
     have hidr:∀(j:Nat) (x:SI),l[j]? =some x->x.kd=.mem->H.next<=a9_ l (H.hi-n) j/\a9_ l (H.hi-n) j<H.hi/\H.hi-n<=a9_ l (H.hi-n) j:=λj x hx hk=>by
      have h1:=bX_ l j x hx
      rw [hk]at h1
      have h2:=ey_ l (j+1)
      unfold a9_
      simp only at h1
      omega
     have h0:∀(j:Nat) (x:SI),l[j]? =some x->x.kd=.mem->¬E.res (a9_ l (H.hi-n) j):=λj x hx hk hres=>by
      obtain ⟨g1,g2,_⟩:=hidr j x hx hk
      exact (st.r.resv _ hres).2 ⟨g1,g2⟩
     have hres0:∀id,cl_ E l (a9_ l (H.hi-n)) (λj=>(Array.replicate ops.size false).getD j false) id->E.φ id=none/\¬(H.next<=id/\id<H.hi-n):=λid hid=>by
      rcases hid with hid|⟨j,x,hx,_,hk,rfl⟩
      .obtain ⟨g1,g2⟩:=st.r.resv id hid
       exact ⟨g1,λhx=>g2 ⟨hx.1,by omega⟩⟩
      .obtain ⟨g1,g2,g3⟩:=hidr j x hx hk
       exact ⟨st.r.fresh _ g1 g2,λhx=>by omega⟩
     have hempty:∀j,(Array.replicate ops.size false).getD j false=false:=λj=>by
      rw [Array.getD_eq_getD_getElem?,Array.getElem?_replicate]
      split<;>rfl
     have invS:jz_ P B pr N E D ops.toList l ev T (a9_ l (H.hi-n)) s.Gs (λj=>(Array.replicate ops.size false).getD j false) a { w with drawn:=w.drawn+1 }:=by
      refine ⟨E.withRes _,⟨H.tr,H.next,H.hi-n⟩,⟨H.tr,H.next,H.hi-n⟩,{ sub:=Env.sub_withRes _ _,res:=rfl,bim:=rfl,vd:=rfl,vd0:=st.r.vds,gl:=st.t.gl,size:=st.t.size,dfs:=st.d,slot:=?_,g:=?_,r:=?_,nx:=rfl,hi:=rfl,old:=λ_ _ h=>h,row:=?_ }⟩
      .intro t ht
       exact ⟨tget T t,.inl ⟨rfl,λj x _ hs=>Bool.noConfusion ((hempty j).symm.trans hs)⟩,(st.t.con t ht).sub (Env.sub_withRes _ _)⟩
      .have:b4_ (λj=>(Array.replicate ops.size false).getD j false) ops.toList 0=0:=e3_ _ _ λi o _ _=>hempty _
       rw [this]
       exact l5_ hrun
      .have h1:Rel B pr E ⟨H.tr,H.next,H.hi-n⟩ { w with drawn:=w.drawn+1 }:=(st.r.drawn _).forget (H':=⟨H.tr,H.next,H.hi-n⟩) (λid k hk=>hk) (Nat.le_refl _) (by show H.hi-n<=H.hi;omega)
       exact h1.reres hres0 (λid h=>.inl (st.r.vds id h))
      .intro j y q id b _ _ hj
       exact Bool.noConfusion ((hempty j).symm.trans hj)
     refine wp_region_any hm ?_
     have hcl0:Cl l ev (λj=>(Array.replicate ops.size false).getD j false):=⟨λi hi=>Bool.noConfusion ((hempty i).symm.trans hi),λi hi=>Bool.noConfusion ((hempty i).symm.trans hi),λi x j _ hi=>Bool.noConfusion ((hempty i).symm.trans hi)⟩
     cases hdd:s.dead with
     |some p=>
      obtain ⟨d,v,H'⟩:=p
      rw [hdd]at h
      simp only at h
      split at h
      .rename_i T' hT'
       cases h
       refine qC_ hcall hP st.t.le F h0 (lZ_ l T T' hT') (λd' v' H'' hd'=>by rw [hdd]at hd';cases hd';rfl) (λS a w inv' hcl hall=>?_) ops.size _ a _ (by simp) ?_ hcl0 invS
       .have hd1:=(inv.gsd d v H' hdd)
        exact absurd hd1.1 (hcl.ev d (hall d hd1.2.1)).2
       .exact Nat.le_trans (List.countP_le_length) (by simp)
      .cases h
     |none=>
      rw [hdd]at h
      simp only at h
      split at h
      .rename_i G hG
       cases h
       refine qC_ (T':=topq) hcall hP st.t.le F h0 (λt _=>.inl (bG_ t)) (λd' v' H'' hd'=>by rw [hdd]at hd';cases hd') (λS a w inv' hcl hall=>?_) ops.size _ a _ (by simp) ?_ hcl0 invS
       .obtain ⟨E',G',K,inv'⟩:=inv'
        have hS:∀j x,l[j]? =some x->S j=decide (j<l.length):=λj x hj=>by
         have:=(List.getElem?_eq_some_iff.1 hj).1
         rw [hall j this];simp [this]
        have hGG:G'=G:=by
         have h1:=inv'.g
         have h2:b4_ S ops.toList 0=wAt ops.toList l.length:=by
          unfold wAt
          refine dd_ _ _ λj o ho hw=>?_
          rw [Nat.zero_add]
          obtain ⟨y,hy,_⟩:=h7_ hP ho
          exact hS j y hy
         rw [h2]at h1
         rw [iR_,inv.gs hdd]at hG
         simp only [Nat.add_sub_cancel]at hG
         rw [h1]at hG;cases hG;rfl
        subst hGG
        obtain ⟨t1,t2,t3⟩:=kL_ s.fl G' inv.ft
        have hsub:∀id k,(eX_ s.fl G').get id=some k->K.get id=some k:=λid k hk=>by
         rcases t3 id k hk with hk|⟨f,hf,rfl,rfl⟩
         .exact inv'.old id k hk
         .obtain ⟨y,q,f1,f2,f3,f4⟩:=inv.fl f hf
          exact (inv'.row f.op y q f.id f.b f1 f3 (hall _ f2) λk' y' q' g1 g2 g3=>f4 k' y' q' g1 ((List.getElem?_eq_some_iff.1 g1).1) g3).1
        have hr1:Rel B pr E' (eX_ s.fl G') w:=inv'.r.forget hsub (by rw [t1,inv'.nx];exact Nat.le_refl _) (by rw [t2,inv'.hi];exact Nat.le_refl _)
        have hs:=Env.sub_withRes E' E.res
        refine ⟨E'.withRes E.res,⟨Env.sub_trans inv'.sub hs,rfl,inv'.bim,inv'.vd⟩,rfl,?_,?_,?_⟩
        .refine ⟨inv'.size,st.t.le,λt ht=>?_,(st.t.gl.sub inv'.sub).sub hs⟩
         obtain ⟨q,q1,q2⟩:=inv'.slot t ht
         have q3:=(inv.slot t ht).congr (S':=S) λj x hj _=>(hS j x hj).symm
         rw [q3.unique q1]
         exact q2.sub hs
        .refine hr1.reres (λid hid=>?_) (λid h=>st.r.vds id (by rw [←inv'.vd];exact h))
         have:=inv'.r.resv id (by rw [inv'.res];exact .inl hid)
         rw [t1,t2,←inv'.nx,←inv'.hi]
         exact this
        .exact inv'.dfs.sub (Env.sub_trans inv'.sub hs)
       .exact Nat.le_trans (List.countP_le_length) (by simp)
      .cases h
def kQ_ (P:Program):Prop:=∀(f:FuncId) (args:List AV) (v:AV) (H:AHeap),Gl.ov f args H=some v->∀(B:World) (pr:Nat->Prop) (E:Env) (w:World) (vs:List Value),GlOk E->Rel B pr E H w->ConL E args vs->
    Calls P f ⟨vs⟩ w (FPost B pr E (.ret v H))
theorem dc_ {P:Program} (hm:P.follows .mixedOrders=true) (ho:kQ_ P):∀n,as_ P (a6_ P n)
 |0=>λf args H r h=>by cases h
 |n+1=>λf args H r h=>by
  unfold a6_ at h
  split at h
  .rename_i v hv
   cases h
   exact ho f args v H hv
  .exact l1_ (dc_ hm ho n) (λN=>h1_ hm (dc_ hm ho n) N) n f args H r h
omit [Gl]in
theorem li_ {id:Nat} {k:ABlk} (hk:H0.get id=some k):False:=by
 by_cases h:id<top
 .rw [AHeap.get_of_lt h]at hk
  have:cd_ hnil id=some k:=hk
  rw [c5_]at this;cases this
 .rw [AHeap.get_of_ge h]at hk;cases hk
def j9_ (im:Nat->Nat->Option Value):Env:=⟨λ_=>none,λ_=>none,im,λ_=>False,im,λ_=>none,λ_=>none,λ_=>False⟩
omit [Gl]in
theorem u2_ (w:World) (im:Nat->Nat->Option Value) (hi:∀b o v,im b o=some v->w.cell? ⟨b,o,none⟩=some v):Rel w (λb=>b<w.heap.size) (j9_ im) H0 w where
 own:=⟨λ_=>none,λid k hk=>(li_ hk).elim,λ_ _=>rfl,λ_ _ _ _=>rfl⟩
 imm:=hi
 ib:=λ_ _ _ _ h=>h
 fresh:=λ_ _ _=>rfl
 resv:=λ_ h=>h.elim
 vds:=λ_ h=>h.elim
 szs:=λ_ _ h=>by cases h
 prot:=λb h=>⟨h,rfl⟩
 size:=Nat.le_refl _
 os:=rfl
 output:=rfl
def GrownB (W w':World):Prop:=W.keptBut w' (λ_=>False)/\(∀a,a.block<W.heap.size->w'.frozen? a=W.frozen? a)/\W.heap.size<=w'.heap.size
omit [Gl]in
theorem q8_ {w w':World} (h1:w.heap.size<=w'.heap.size) (h2:∀b,b<w.heap.size->w'.heap[b]? =w.heap[b]?) (h3:w'.os=w.os) (h4:w'.output=w.output):GrownB w w':=by
 refine ⟨⟨h3,h4,λi hi=>?_⟩,λa ha=>by unfold World.frozen?;rw [h2 _ ha],h1⟩
 rw [h2 i hi]
 cases w.heap[i]? with
 |none=>rfl
 |some o=>cases o<;>simp
end Go.Sx
