/-
  A part of the heap runs, the rest stays.
-/
import Derived.Test.YtjconanknjgpnaaGreatSxB
set_option linter.unusedVariables false
set_option linter.unusedSimpArgs false
namespace Go.Sx
theorem AHeap.ofFun (f:Nat->Option ABlk) (nx hi:Nat):∃H:AHeap,H.next=nx/\H.hi=hi/\∀id k,H.get id=some k↔id<top/\f id=some k:=by
 have key:∀n,n<=top->∃H:AHeap,H.next=nx/\H.hi=hi/\∀id k,H.get id=some k↔id<n/\f id=some k:=by
  intro n
  induction n with
  |zero=>
   intro _
   refine ⟨⟨hnil,nx,hi⟩,rfl,rfl,λid k=>⟨λh=>?_,λh=>absurd h.1 (Nat.not_lt_zero _)⟩⟩
   by_cases hid:id<top
   .rw [AHeap.get_of_lt hid,c5_]at h;cases h
   .rw [AHeap.get_of_ge hid]at h;cases h
  |succ n ih=>
   intro hn
   obtain ⟨H,h1,h2,h3⟩:=ih (by omega)
   cases hf:f n with
   |none=>
    refine ⟨H,h1,h2,λid k=>(h3 id k).trans ⟨λh=>⟨by omega,h.2⟩,λh=>⟨?_,h.2⟩⟩⟩
    have:id≠n:=by intro e;subst e;rw [hf]at h;cases h.2
    omega
   |some b=>
    refine ⟨H.set n b,h1,h2,λid k=>?_⟩
    by_cases e:n=id
    .subst e
     rw [AHeap.get_set_same H (by omega),hf]
     exact ⟨λh=>⟨by omega,h⟩,λh=>h.2⟩
    .rw [AHeap.get_set_ne H (by omega) e]
     exact (h3 id k).trans ⟨λh=>⟨by omega,h.2⟩,λh=>⟨by omega,h.2⟩⟩
 exact key top (Nat.le_refl _)
def Env.withRes (E:Env) (r:Nat->Prop):Env:={ E with res:=r }
def Env.re (E:Env) (r:Nat->Prop) (m:Nat->Nat->Option Value) (d:Nat->Prop):Env:={ E with res:=r,bim:=m,vd:=d }
theorem Env.sub_re (E:Env) (r:Nat->Prop) (m:Nat->Nat->Option Value) (d:Nat->Prop):E.sub (E.re r m d):=⟨λ_ _ h=>h,λ_ _ h=>h,λ_ _ _ h=>h,rfl,rfl⟩
theorem Env.sub_withRes (E:Env) (r:Nat->Prop):E.sub (E.withRes r):=⟨λ_ _ h=>h,λ_ _ h=>h,λ_ _ _ h=>h,rfl,rfl⟩
theorem Rel.frame {B:World} {pr:Nat->Prop} {E:Env} {H:AHeap} {w:World} (h:Rel B pr E H w) {K:AHeap} (hK:∀id k,K.get id=some k->H.get id=some k)
  (res':Nat->Prop) (hvd:∀id,E.vd id->res' id) (hres:∀id,res' id->E.φ id=none) (hrng:∀id,K.next<=id->id<K.hi->E.φ id=none/\¬res' id):
  ∃pr':Nat->Prop,Rel w pr' (E.re res' E.imm λid=>E.vd id/\K.get id≠none) K w/\∀(E':Env) (K':AHeap) (w':World),(E.re res' E.imm λid=>E.vd id/\K.get id≠none).le E'->Rel w pr' E' K' w'->
   (∀id,res' id->E'.φ id=none)/\(∀id,K'.next<=id->id<K'.hi->E'.φ id=none)/\E.sub E'/\
   (∀id k,H.get id=some k->K.get id=none->K'.get id=none)/\
   ∀(nx hi:Nat) (res'':Nat->Prop),(∀id,nx<=id->id<hi->E'.φ id=none/\¬res'' id)->(∀id,res'' id->E'.φ id=none)->(∀id,E.vd id->res'' id)->
   ∃H':AHeap,H'.next=nx/\H'.hi=hi/\Rel B pr (E'.re res'' E.bim E.vd) H' w'/\(∀id k,K'.get id=some k->H'.get id=some k)/\
    (∀id k,H.get id=some k->K.get id=none->H'.get id=some k):=by
 obtain ⟨own,g1,g2,g3,g4⟩:∃own:Nat->Option Nat,(∀id k,H.get id=some k->RowAt E w own id k)/\
   (∀b,pr b->own b=none)/\(∀b o v,E.imm b o=some v->own b=none)/\∀b,¬b<w.heap.size->own b=none:=by
  obtain ⟨own,g1,g2,g3⟩:=h.own
  refine ⟨λb=>if b<w.heap.size then own b else none,λid k hk=>?_,λb hb=>?_,λb o v hi=>?_,λb hb=>if_neg hb⟩
  .exact (g1 id k hk).imp (λ_ h=>h) (λh=>h) λb o h1 h2 h3=>⟨(if_pos h3.lt).trans h2,h3⟩
  .show (if b<w.heap.size then own b else none)=none
   split
   .exact g2 b hb
   .rfl
  .show (if b<w.heap.size then own b else none)=none
   split
   .exact g3 b o v hi
   .rfl
 refine ⟨λb=>b<w.heap.size/\¬∃id k,own b=some id/\K.get id=some k,?_,?_⟩
 .refine { own:=?_,imm:=h.imm,ib:=λ_ _ _ _ h=>h,fresh:=λid h1 h2=>(hrng id h1 h2).1,resv:=λid hi=>⟨hres id hi,λhx=>(hrng id hx.1 hx.2).2 hi⟩,vds:=λid h=>hvd id h.1,szs:=h.szs,
           prot:=λb hb=>⟨hb.1,rfl⟩,size:=Nat.le_refl _,os:=rfl,output:=rfl }
  refine ⟨λb=>match own b with
   |some id=>match K.get id with
    |some _=>some id
    |none=>none
   |none=>none,λid k hk=>?_,λb hb=>?_,λb o v hi=>?_⟩
  .obtain ⟨hv,hv2⟩|⟨b,o,h1,h2,h3⟩:=g1 id k (hK id k hk)
   .exact .inl ⟨⟨hv,by rw [hk];exact λh=>by cases h⟩,hv2⟩
   .refine .inr ⟨b,o,h1,?_,h3.sub (Env.sub_re E res' E.imm _) rfl⟩
    simp only [h2,hk]
  .cases ho:own b with
   |none=>simp only [ho]
   |some id=>
    cases hk:K.get id with
    |none=>simp only [ho,hk]
    |some k=>exact absurd ⟨id,k,ho,hk⟩ hb.2
  .have:own b=none:=g3 b o v hi
   simp only [this]
 .intro E' K' w' hle hr'
  obtain ⟨own',q1,q2,q3⟩:=hr'.own
  have hsub:E.sub E':=⟨λi x hx=>hle.1.1 i x hx,λb n hx=>hle.1.2.1 b n hx,hle.1.2.2⟩
  have hresE:E'.res=res':=hle.2.1
  have hbimE:E'.bim=E.imm:=hle.2.2.1
  have hvdE:∀id,E'.vd id->E.vd id/\K.get id≠none:=λid hx=>by rw [hle.2.2.2]at hx;exact hx
  have hr1:∀id,res' id->E'.φ id=none:=λid hi=>(hr'.resv id (by rw [hresE];exact hi)).1
  have hstay:∀id k,H.get id=some k->K.get id=none->((E.vd id/\Void E k)\/∃b o,E.φ id=some (b,o)/\own b=some id/\BlkAt E w b o k/\own' b=none/\w'.heap[b]? =w.heap[b]?)/\K'.get id=none:=by
   intro id k hk hn
   obtain hvoid|⟨b,o,h1,h2,h3⟩:=g1 id k hk
   .refine ⟨.inl hvoid,?_⟩
    cases hk':K'.get id with
    |none=>rfl
    |some k'=>
     obtain ⟨hv',_⟩|⟨b',o',e1,_⟩:=q1 id k' hk'
     .exact absurd hn (hvdE id hv').2
     .rw [hr1 id (hvd id hvoid.1)]at e1;cases e1
   have hpr:b<w.heap.size/\¬∃id k,own b=some id/\K.get id=some k:=by
    refine ⟨h3.lt,λhx=>?_⟩
    obtain ⟨id2,k2,e1,e2⟩:=hx
    rw [h2]at e1;cases e1;rw [hn]at e2;cases e2
   have ho':=q2 b hpr
   refine ⟨.inr ⟨b,o,h1,h2,h3,ho',(hr'.prot b hpr).2⟩,?_⟩
   cases hk':K'.get id with
   |none=>rfl
   |some k'=>
    obtain ⟨hv',_⟩|⟨b',o',e1,e2,_⟩:=q1 id k' hk'
    .exact absurd hn (hvdE id hv').2
    .rw [hsub.1 _ _ h1]at e1;cases e1
     rw [ho']at e2;cases e2
  refine ⟨hr1,hr'.fresh,hsub,λid k h1 h2=>(hstay id k h1 h2).2,?_⟩
  intro nx hi res'' hrng' hres'' hvd''
  obtain ⟨H',e1,e2,e3⟩:=AHeap.ofFun (λid=>match K'.get id with
   |some k=>some k
   |none=>match K.get id with
    |some _=>none
    |none=>H.get id) nx hi
  have cd_:∀id k,H'.get id=some k->K'.get id=some k\/(H.get id=some k/\K.get id=none):=by
   intro id k hk
   have:=((e3 id k).1 hk).2
   cases hk':K'.get id with
   |some k'=>simp only [hk']at this;exact .inl this
   |none=>
    simp only [hk']at this
    cases hk2:K.get id with
    |some k2=>simp only [hk2]at this;cases this
    |none=>simp only [hk2]at this;exact .inr ⟨this,rfl⟩
  refine ⟨H',e1,e2,?_,λid k hk=>(e3 id k).2 ⟨AHeap.get_lt hk,by simp only [hk]⟩,λid k hk hn=>?_⟩
  .have hs2:=Env.sub_re E' res'' E.bim E.vd
   have hprpr:∀b,pr b->b<w.heap.size/\¬∃id k,own b=some id/\K.get id=some k:=λb hb=>by
    refine ⟨Nat.lt_of_lt_of_le (h.prot b hb).1 h.size,λhx=>?_⟩
    obtain ⟨id2,k2,f1,f2⟩:=hx
    rw [g2 b hb]at f1;cases f1
   have himm:∀b o v,(b<w.heap.size/\¬∃id k,own b=some id/\K.get id=some k)->E'.imm b o=some v->E.imm b o=some v:=λb o v hb hv=>by
    rw [←hbimE];exact hr'.ib b o v hb hv
   refine { own:=?_,imm:=hr'.imm,ib:=λb o v hb hv=>h.ib b o v hb (himm b o v (hprpr b hb) hv),fresh:=λid h1 h2=>(hrng' id (e1▸h1) (e2▸h2)).1,
            resv:=λid hi=>⟨hres'' id hi,λhx=>(hrng' id (e1▸hx.1) (e2▸hx.2)).2 hi⟩,vds:=hvd'',szs:=hr'.szs,prot:=λb hb=>?_,size:=Nat.le_trans h.size hr'.size,os:=hr'.os.trans h.os,output:=hr'.output.trans h.output }
   .refine ⟨λb=>match own' b with
      |some id=>some id
      |none=>match own b with
       |some id=>match K.get id with
        |some _=>none
        |none=>some id
       |none=>none,λid k hk=>?_,λb hb=>?_,λb o v hi=>?_⟩
    .rcases cd_ id k hk with hk|⟨hk,hn⟩
     .obtain ⟨hv',hv2⟩|⟨b,o,f1,f2,f3⟩:=q1 id k hk
      .exact .inl ⟨(hvdE id hv').1,hv2⟩
      .exact .inr ⟨b,o,f1,by simp only [f2],f3.sub hs2 rfl⟩
     .obtain ⟨hv1,hv2⟩|⟨b,o,f1,f2,f3,f4,f5⟩:=(hstay id k hk hn).1
      .exact .inl ⟨hv1,hv2.sub λi hi=>by show E'.sy i=_;rw [hsub.2.2.2.1];exact hi⟩
      .exact .inr ⟨b,o,hsub.1 _ _ f1,by simp only [f4,f2,hn],BlkAt.sub (Env.sub_trans hsub hs2) f5 f3⟩
    .have hpr:b<w.heap.size/\¬∃id k,own b=some id/\K.get id=some k:=by
       refine ⟨Nat.lt_of_lt_of_le (h.prot b hb).1 h.size,λhx=>?_⟩
       obtain ⟨id2,k2,f1,f2⟩:=hx
       rw [g2 b hb]at f1;cases f1
     simp only [q2 b hpr,g2 b hb]
    .have hi1:E'.imm b o=some v:=hi
     have ho':=q3 b o v hi1
     simp only [ho']
     cases ho:own b with
     |none=>rfl
     |some id=>
      cases hk:K.get id with
      |some k=>simp only [hk]
      |none=>
       by_cases hlt:b<w.heap.size
       .have hpr:b<w.heap.size/\¬∃id k,own b=some id/\K.get id=some k:=⟨hlt,λhx=>by
          obtain ⟨id2,k2,f1,f2⟩:=hx
          rw [ho]at f1;cases f1;rw [hk]at f2;cases f2⟩
        have:=g3 b o v (himm b o v hpr hi1)
        rw [ho]at this;cases this
       .rw [g4 b hlt]at ho;cases ho
   .have hpr:b<w.heap.size/\¬∃id k,own b=some id/\K.get id=some k:=by
      refine ⟨Nat.lt_of_lt_of_le (h.prot b hb).1 h.size,λhx=>?_⟩
      obtain ⟨id2,k2,f1,f2⟩:=hx
      rw [g2 b hb]at f1;cases f1
    exact ⟨(h.prot b hb).1,(hr'.prot b hpr).2.trans (h.prot b hb).2⟩
  .have e:=(hstay id k hk hn).2
   exact (e3 id k).2 ⟨AHeap.get_lt hk,by simp only [e,hn,hk]⟩
end Go.Sx
