/-
  A call of cp_ values that gives a cp_ value: what it does in an empty heap, it does anywhere.
-/
import Derived.Test.YtjconanknjgpnaaGreatSxX
set_option linter.unusedVariables false
set_option linter.unusedSimpArgs false
namespace Go.Sx
def eq_ (f:AV->Option AV):List AV->Option (List AV)
 |[]=>some []
 |a::r=>match f a with
  |some b=>match eq_ f r with
   |some l=>some (b::l)
   |none=>none
  |none=>none
def eT_:Nat->AHeap->AV->Option AV
 |0,_,_=>none
 |n+1,H,a=>match a with
  | .sl id off len sz _=>match H.get id with
    |some (.cells cs)=>match a3_ (Nat.mul len sz) (af_ off cs)with
     |some l=>match eq_ (eT_ n H) l with
      |some l'=>some (.vsl len sz l')
      |none=>none
     |none=>none
    |_=>none
  | .ptr id off=>match H.get id with
    |some (.cells cs)=>match eq_ (eT_ n H) (af_ off cs)with
     |some l'=>match l' with
      |[]=>none
      |_=>some (.vptr l')
     |none=>none
    |_=>none
  | .map _=>none
  | .slx id _ i=>match H.get id with
    |some (.syl j)=>match Nat.beq j i with
     |true=>some (.sym i)
     |false=>none
    |_=>none
  | .ptx _ _ _ _=>none
  | .vptr cs=>match eq_ (eT_ n H) cs with
    |some l'=>some (.vptr l')
    |none=>none
  | .vsl len sz cs=>match eq_ (eT_ n H) cs with
    |some l'=>some (.vsl len sz l')
    |none=>none
  | .fn f cs=>match eq_ (eT_ n H) cs with
    |some l'=>some (.fn f l')
    |none=>none
  | .agg cs=>match eq_ (eT_ n H) cs with
    |some l'=>some (.agg l')
    |none=>none
  | .tup cs=>match eq_ (eT_ n H) cs with
    |some l'=>some (.tup l')
    |none=>none
  | .iface t a=>match eT_ n H a with
    |some b=>some (.iface t b)
    |none=>none
  |a=>some a
section
variable {B:World} {pr:Nat->Prop} {E:Env} {H:AHeap} {w:World}
theorem dU_ (nx hi id:Nat):(⟨hnil,nx,hi⟩:AHeap).get id=none:=by
 cases h:(⟨hnil,nx,hi⟩:AHeap).get id with
 |none=>rfl
 |some k=>
  by_cases hid:id<top
  .rw [AHeap.get_of_lt hid,c5_]at h;cases h
  .rw [AHeap.get_of_ge hid]at h;cases h
theorem Rel.freezeS (h:Rel B pr E H w) {F H':AHeap} (hF:∀id k,F.get id=some k->H.get id=some k) (hH:∀id k,H'.get id=some k->H.get id=some k/\F.get id=none) (hn:H'.next=H.next) (hh:H'.hi=H.hi):
  ∃E',E.sub E'/\E'.φ=E.φ/\E'.res=E.res/\E'.bim=E.bim/\E'.vd=E.vd/\Rel B pr E' H' w/\
  ∀id k b o,F.get id=some k->E.φ id=some (b,o)->∀i v,w.cell? ⟨b,i,none⟩=some v->E'.imm b i=some v:=by
 obtain ⟨own,g1,g2,g3⟩:=h.own
 let im:Nat->Nat->Option Value:=λb o=>match own b with
  |some id=>match F.get id with
   |some _=>w.cell? ⟨b,o,none⟩
   |none=>E.imm b o
  |none=>E.imm b o
 have him:∀b o v,im b o=some v->w.cell? ⟨b,o,none⟩=some v:=λb o v hv=>by
  simp only [im]at hv
  split at hv
  .split at hv
   .exact hv
   .exact h.imm b o v hv
  .exact h.imm b o v hv
 have hsub:E.sub { E with imm:=im }:=⟨λ_ _ h=>h,λ_ _ h=>h,λb o v hv=>by
  show im b o=some v
  simp only [im,g3 b o v hv];exact hv,rfl,rfl⟩
 refine ⟨{ E with imm:=im },hsub,rfl,rfl,rfl,rfl,?_,λid k b o hk hφ i v hv=>?_⟩
 .refine { own:=⟨λb=>match own b with
    |some id=>match F.get id with
     |some _=>none
     |none=>some id
    |none=>none,λid k hk=>?_,λb hb=>?_,λb o v hv=>?_⟩,imm:=him,ib:=λb o v hb hv=>?_,fresh:=λid e1 e2=>h.fresh id (hn▸e1) (hh▸e2),resv:=λid hi=>by rw [hn,hh];exact h.resv id hi,vds:=h.vds,szs:=h.szs,prot:=h.prot,size:=h.size,
           os:=h.os,output:=h.output }
  .obtain ⟨q1,q2⟩:=hH id k hk
   exact (g1 id k q1).imp (λ_ h=>h) (λh=>h) λb o e1 e2 e3=>⟨by simp only [e2,q2],e3.sub hsub rfl⟩
  .simp only [g2 b hb]
  .have hv:im b o=some v:=hv
   simp only [im]at hv
   cases ho:own b with
   |none=>simp only [ho]
   |some id=>
    rw [ho]at hv
    simp only at hv
    cases hf:F.get id with
    |some k=>simp only [ho,hf]
    |none=>
     rw [hf]at hv
     simp only at hv
     rw [g3 b o v hv]at ho;cases ho
  .have hv:im b o=some v:=hv
   simp only [im,g2 b hb]at hv
   exact h.ib b o v hb hv
 .obtain ⟨hv1,_⟩|⟨b',o',e1,e2,_⟩:=g1 id _ (hF id k hk)
  .rw [(h.resv id (h.vds id hv1)).1]at hφ;cases hφ
  rw [hφ]at e1;cases e1
  show im b i=some v
  simp only [im,e2,hk]
  exact hv
theorem Rel.freeze (h:Rel B pr E H w):∃E',E.sub E'/\E'.φ=E.φ/\E'.res=E.res/\E'.bim=E.bim/\E'.vd=E.vd/\Rel B pr E' ⟨hnil,H.next,H.hi⟩ w/\
  ∀id k b o,H.get id=some k->E.φ id=some (b,o)->∀i v,w.cell? ⟨b,i,none⟩=some v->E'.imm b i=some v:=
 h.freezeS (F:=H) (H':=⟨hnil,H.next,H.hi⟩) (λ_ _ h=>h) (λid k hk=>by rw [dU_]at hk;cases hk) rfl rfl
theorem kG_ {E':Env} {f:AV->Option AV} (hf:∀a a' v,f a=some a'->Con E a v->Con E' a' v):∀{l l':List AV} {vs:List Value},eq_ f l=some l'->ConL E l vs->ConL E' l' vs
 |[],l',vs,h,hc=>by
  simp only [eq_]at h;cases h
  simpa [ConL]using hc
 |a::r,l',vs,h,hc=>by
  unfold eq_ at h
  split at h
  .rename_i b hb
   split at h
   .rename_i l hl
    cases h
    simp only [ConL]at hc⊢
    obtain ⟨v,rest,rfl,h1,h2⟩:=hc
    exact ⟨v,rest,rfl,hf _ _ _ hb h1,kG_ hf hl h2⟩
   .cases h
  .cases h
theorem hu_ {E:Env}:∀{as:List AV} {vs:List Value},vs.length=as.length->(∀(i:Nat) (a:AV) (v:Value),as[i]? =some a->vs[i]? =some v->Con0 E a v)->Con0L E as vs
 |[],vs,hl,_=>by simp only [Con0L];exact List.eq_nil_of_length_eq_zero (by simpa using hl)
 |a::as,vs,hl,h=>by
  cases vs with
  |nil=>simp at hl
  |cons v r=>
   simp only [Con0L]
   exact ⟨v,r,rfl,h 0 a v rfl rfl,hu_ (by simpa using hl) (λi a v h1 h2=>h (i+1) a v (by simpa using h1) (by simpa using h2))⟩
theorem d0_ (hr:Rel B pr E H w) {F:AHeap} (hF:∀id k,F.get id=some k->H.get id=some k) {E':Env} (hs:E.sub E')
  (him:∀id k b o,F.get id=some k->E.φ id=some (b,o)->∀i v,w.cell? ⟨b,i,none⟩=some v->E'.imm b i=some v):∀(n:Nat) (a a':AV) (v:Value),eT_ n F a=some a'->Con E a v->Con E' a' v
 |0,a,a',v,h,hc=>by cases h
 |n+1,a,a',v,h,hc=>by
  have ih:=λ{l l':List AV} {vs:List Value}=>kG_ (E:=E) (E':=E') (f:=eT_ n F) (d0_ hr hF hs him n) (l:=l) (l':=l') (vs:=vs)
  have row:∀(id off m:Nat) (cs l:List AV) (b o:Nat),F.get id=some (.cells cs)->E.φ id=some (b,o)->l=(cs.drop off).take m->∃vs,ConL E l vs/\ImmAt E' b (o+off) vs:=by
   intro id off m cs l b o hk hφ hl
   obtain ⟨arr,t,e1,e2,e3,e4⟩:=hr.blk (hF _ _ hk) hφ
   refine ⟨(arr.toList.drop (o+off)).take l.length,ConL.of_at ?_ ?_,λi u hu=>?_⟩
   .have:l.length<=cs.length-off:=by rw [hl];simp;omega
    simp only [List.length_take,List.length_drop,Array.length_toList]
    rw [hl]at this⊢
    simp only [List.length_take,List.length_drop]at this⊢
    omega
   .intro i a u hi hu
    have hi2:cs[off+i]? =some a:=by
     rw [hl]at hi
     rw [List.getElem?_take]at hi
     split at hi
     .rwa [List.getElem?_drop]at hi
     .cases hi
    obtain ⟨u',h1,h2⟩:=e4 _ _ hi2
    rw [List.getElem?_take]at hu
    split at hu
    .rw [List.getElem?_drop,Array.getElem?_toList]at hu
     rw [show o+off+i=o+(off+i) by omega,h1]at hu
     cases hu;exact h2
    .cases hu
   .rw [List.getElem?_take]at hu
    split at hu
    .rw [List.getElem?_drop,Array.getElem?_toList]at hu
     exact him id _ b o hk hφ _ _ (by simp [World.cell?,e1,hu])
    .cases hu
  unfold eT_ at h
  split at h
  ·
   rename_i id off len sz cap
   split at h
   .rename_i cs hk
    split at h
    .rename_i l hl
     split at h
     .rename_i l' hl'
      cases h
      simp only [Con]at hc⊢
      obtain ⟨b,o,nn,c,off',h1,h2,rfl,h4,h5,h6,h7⟩:=hc
      obtain ⟨q1,q2⟩:=bT_ hl
      rw [aq_]at q1
      obtain ⟨vs,v1,v2⟩:=row id off _ cs l b o hk h1 q1
      by_cases hc0:c=0
      .have hlen:len=0:=by omega
       subst hlen
       have:l=[]:=by
        have:Nat.mul 0 sz=0:=Nat.zero_mul sz
        rw [this]at q2
        exact List.eq_nil_of_length_eq_zero q2
       subst this
       simp only [eq_]at hl';cases hl'
       exact ⟨b,o+off',[],c,rfl,h5,by simp [ConL],λi u hu=>by simp at hu⟩
      .rw [h4 hc0]
       exact ⟨b,o+off,vs,c,rfl,h5,ih hl' v1,v2⟩
     .cases h
    .cases h
   .cases h
  ·
   rename_i id off
   split at h
   .rename_i cs hk
    split at h
    .rename_i l' hl'
     split at h
     .cases h
     .cases h
      simp only [Con]at hc⊢
      obtain ⟨b,o,h1,rfl⟩:=hc
      rw [aq_]at hl'
      obtain ⟨vs,v1,v2⟩:=row id off (cs.drop off).length cs (cs.drop off) b o hk h1 (by rw [List.take_length])
      exact ⟨b,o+off,vs,rfl,ih hl' v1,v2⟩
    .cases h
   .cases h
  .cases h
  ·
   rename_i id sz i
   split at h
   .rename_i j hk
    split at h
    .rename_i hji
     cases h
     have hji:=Nat.eq_of_beq_eq_true hji
     subst hji
     simp only [Con]at hc⊢
     obtain ⟨a,ha,hc⟩:=hc
     rcases hc with ⟨rfl,rfl⟩|⟨len,cs,rfl,b,o,nn,c,off',h1,h2,rfl,h4,h5,h6⟩
     .exact ⟨.nsl,by rw [hs.2.2.2.1];exact ha,rfl,by simp [Con0]⟩
     .refine ⟨_,by rw [hs.2.2.2.1];exact ha,rfl,?_⟩
      obtain ⟨len',sz',cs',e,hlen,arr,t,f1,f2,f3,f4⟩:=hr.blk (hF _ _ hk) h1 (by
       show ¬E.sy j=some .nsl
       rw [ha];intro e;cases e)
      rw [ha]at e;cases e
      simp only [Con0]
      by_cases hc0:c=0
      .have hl0:len=0:=by omega
       have:cs=[]:=List.eq_nil_of_length_eq_zero (by rw [hlen,hl0,Nat.zero_mul])
       subst this
       exact ⟨b,o+off',[],c,rfl,h5,by simp [Con0L],λi u hu=>by simp at hu⟩
      .rw [h4 hc0,Nat.add_zero]
       refine ⟨b,o,(arr.toList.drop o).take cs.length,c,rfl,h5,?_,λq u hu=>?_⟩
       .refine hu_ ?_ λq x u hx hu=>?_
        .simp only [List.length_take,List.length_drop,Array.length_toList];omega
        .obtain ⟨u',k1,_,k2⟩:=f4 q x hx
         rw [List.getElem?_take]at hu
         split at hu
         .rw [List.getElem?_drop,Array.getElem?_toList,k1]at hu
          cases hu;exact k2.sub hs
         .cases hu
       .rw [List.getElem?_take]at hu
        split at hu
        .rw [List.getElem?_drop,Array.getElem?_toList]at hu
         exact him id _ b o hk h1 _ _ (by simp [World.cell?,f1,hu])
        .cases hu
    .cases h
   .cases h
  .cases h
  .split at h
   .rename_i l' hl'
    cases h
    simp only [Con]at hc⊢
    obtain ⟨b,o,vs,rfl,h2,h3⟩:=hc
    exact ⟨b,o,vs,rfl,ih hl' h2,h3.sub hs⟩
   .cases h
  .split at h
   .rename_i l' hl'
    cases h
    simp only [Con]at hc⊢
    obtain ⟨b,o,vs,c,rfl,h1,h2,h3⟩:=hc
    exact ⟨b,o,vs,c,rfl,h1,ih hl' h2,h3.sub hs⟩
   .cases h
  .split at h
   .rename_i l' hl'
    cases h
    simp only [Con]at hc⊢
    obtain ⟨vs,rfl,h2⟩:=hc
    exact ⟨vs,rfl,ih hl' h2⟩
   .cases h
  .split at h
   .rename_i l' hl'
    cases h
    simp only [Con]at hc⊢
    obtain ⟨vs,rfl,h2⟩:=hc
    exact ⟨vs,rfl,ih hl' h2⟩
   .cases h
  .split at h
   .rename_i l' hl'
    cases h
    simp only [Con]at hc⊢
    obtain ⟨vs,rfl,h2⟩:=hc
    exact ⟨vs,rfl,ih hl' h2⟩
   .cases h
  .split at h
   .rename_i b hb
    cases h
    simp only [Con]at hc⊢
    obtain ⟨u,rfl,h2⟩:=hc
    exact ⟨u,rfl,d0_ hr hF hs him n _ _ _ hb h2⟩
   .cases h
  .cases h
   exact hc.sub hs
theorem ne_ (hr:Rel B pr E H w) {E':Env} (hs:E.sub E')
  (him:∀id k b o,H.get id=some k->E.φ id=some (b,o)->∀i v,w.cell? ⟨b,i,none⟩=some v->E'.imm b i=some v) (n:Nat) (a a':AV) (v:Value) (h:eT_ n H a=some a') (hc:Con E a v):Con E' a' v:=
 d0_ hr (λ_ _ h=>h) hs him n a a' v h hc
end
mutual
theorem ce_ {E E':Env} (hi:∀b o v,E.imm b o=some v->E'.imm b o=some v):∀{a:AV} {v:Value},Con0 E a v->Con0 E' a v
 | .opq,_,hc=>by simp [Con0]at hc
 | .bool _,_,hc=>by simpa [Con0]using hc
 | .int _ _,_,hc=>by simpa [Con0]using hc
 | .flt _ _,_,hc=>by simpa [Con0]using hc
 | .nan _,_,hc=>by simpa [Con0]using hc
 | .str _,_,hc=>by simpa [Con0]using hc
 | .nptr,_,hc=>by simpa [Con0]using hc
 | .ptr _ _,_,hc=>by simp [Con0]at hc
 | .vptr cs,v,hc=>by
   simp only [Con0]at hc⊢
   obtain ⟨b,o,vs,h1,h2,h3⟩:=hc
   exact ⟨b,o,vs,h1,bE_ hi h2,λi u hu=>hi _ _ _ (h3 i u hu)⟩
 | .nsl,_,hc=>by simpa [Con0]using hc
 | .sl ..,_,hc=>by simp [Con0]at hc
 | .vsl _ _ cs,v,hc=>by
   simp only [Con0]at hc⊢
   obtain ⟨b,o,vs,c,h1,h2,h3,h4⟩:=hc
   exact ⟨b,o,vs,c,h1,h2,bE_ hi h3,λi u hu=>hi _ _ _ (h4 i u hu)⟩
 | .nmap,_,hc=>by simpa [Con0]using hc
 | .map _,_,hc=>by simp [Con0]at hc
 | .nfn,_,hc=>by simpa [Con0]using hc
 | .fn f cap,v,hc=>by
   simp only [Con0]at hc⊢
   obtain ⟨vs,h1,h2⟩:=hc
   exact ⟨vs,h1,bE_ hi h2⟩
 | .nif,_,hc=>by simpa [Con0]using hc
 | .iface t a,v,hc=>by
   simp only [Con0]at hc⊢
   obtain ⟨u,h1,h2⟩:=hc
   exact ⟨u,h1,ce_ hi h2⟩
 | .agg cs,v,hc=>by
   simp only [Con0]at hc⊢
   obtain ⟨vs,h1,h2⟩:=hc
   exact ⟨vs,h1,bE_ hi h2⟩
 | .tup cs,v,hc=>by
   simp only [Con0]at hc⊢
   obtain ⟨vs,h1,h2⟩:=hc
   exact ⟨vs,h1,bE_ hi h2⟩
 | .sym _,_,hc=>by simp [Con0]at hc
 | .slx ..,_,hc=>by simp [Con0]at hc
 | .ptx ..,_,hc=>by simp [Con0]at hc
theorem bE_ {E E':Env} (hi:∀b o v,E.imm b o=some v->E'.imm b o=some v):∀{as:List AV} {vs:List Value},Con0L E as vs->Con0L E' as vs
 |[],_,hc=>by simpa [Con0L]using hc
 |a::as,vs,hc=>by
  simp only [Con0L]at hc⊢
  obtain ⟨v,r,h1,h2,h3⟩:=hc
  exact ⟨v,r,h1,ce_ hi h2,bE_ hi h3⟩
end
mutual
theorem cs_ {E E':Env} (hi:∀b o v,E.imm b o=some v->E'.imm b o=some v) (hs:∀i a,i<64->E.sy i=some a->E'.sy i=some a):∀{a:AV} {v:Value},aT_ a=true->Con E a v->Con E' a v
 | .opq,_,_,_=>by simp [Con]
 | .bool _,_,_,hc=>by simpa [Con]using hc
 | .int _ _,_,_,hc=>by simpa [Con]using hc
 | .flt _ _,_,_,hc=>by simpa [Con]using hc
 | .nan _,_,_,hc=>by simpa [Con]using hc
 | .str _,_,_,hc=>by simpa [Con]using hc
 | .nptr,_,_,hc=>by simpa [Con]using hc
 | .ptr id off,v,h,hc=>by simp [aT_]at h
 | .vptr cs,v,h,hc=>by
   simp only [aT_]at h
   simp only [Con]at hc⊢
   obtain ⟨b,o,vs,h1,h2,h3⟩:=hc
   exact ⟨b,o,vs,h1,b5_ hi hs h h2,λi u hu=>hi _ _ _ (h3 i u hu)⟩
 | .nsl,_,_,hc=>by simpa [Con]using hc
 | .sl ..,v,h,hc=>by simp [aT_]at h
 | .vsl _ _ cs,v,h,hc=>by
   simp only [aT_]at h
   simp only [Con]at hc⊢
   obtain ⟨b,o,vs,c,h1,h2,h3,h4⟩:=hc
   exact ⟨b,o,vs,c,h1,h2,b5_ hi hs h h3,λi u hu=>hi _ _ _ (h4 i u hu)⟩
 | .nmap,_,_,hc=>by simpa [Con]using hc
 | .map id,v,h,hc=>by simp [aT_]at h
 | .nfn,_,_,hc=>by simpa [Con]using hc
 | .fn f cap,v,h,hc=>by
   simp only [aT_]at h
   simp only [Con]at hc⊢
   obtain ⟨vs,h1,h2⟩:=hc
   exact ⟨vs,h1,b5_ hi hs h h2⟩
 | .nif,_,_,hc=>by simpa [Con]using hc
 | .iface t a,v,h,hc=>by
   simp only [aT_]at h
   simp only [Con]at hc⊢
   obtain ⟨u,h1,h2⟩:=hc
   exact ⟨u,h1,cs_ hi hs h h2⟩
 | .agg cs,v,h,hc=>by
   simp only [aT_]at h
   simp only [Con]at hc⊢
   obtain ⟨vs,h1,h2⟩:=hc
   exact ⟨vs,h1,b5_ hi hs h h2⟩
 | .tup cs,v,h,hc=>by
   simp only [aT_]at h
   simp only [Con]at hc⊢
   obtain ⟨vs,h1,h2⟩:=hc
   exact ⟨vs,h1,b5_ hi hs h h2⟩
 | .sym i,v,h,hc=>by
   simp only [Con]at hc⊢
   obtain ⟨a,h1,h2,h3⟩:=hc
   exact ⟨a,hs _ _ (by simpa [aT_,Nat.blt_eq]using h) h1,h2,ce_ hi h3⟩
 | .slx ..,v,h,hc=>by simp [aT_]at h
 | .ptx ..,v,h,hc=>by simp [aT_]at h
theorem b5_ {E E':Env} (hi:∀b o v,E.imm b o=some v->E'.imm b o=some v) (hs:∀i a,i<64->E.sy i=some a->E'.sy i=some a):∀{as:List AV} {vs:List Value},cK_ as=true->ConL E as vs->ConL E' as vs
 |[],_,_,hc=>by simpa [ConL]using hc
 |a::as,vs,h,hc=>by
  simp only [cK_]at h
  simp only [ConL]at hc⊢
  obtain ⟨v,r,h1,h2,h3⟩:=hc
  cases ha:aT_ a with
  |true=>
   rw [ha]at h
   exact ⟨v,r,h1,cs_ hi hs ha h2,b5_ hi hs h h3⟩
  |false=>rw [ha]at h;cases h
end
variable [Gl]
def jA_ (P:Program) (f:FuncId) (args:List AV) (v:AV):Prop:=
 ∀(H:AHeap) (B:World) (pr:Nat->Prop) (E:Env) (w:World) (vs:List Value),GlOk E->Rel B pr E H w->ConL E args vs->Calls P f ⟨vs⟩ w (FPost B pr E (.ret v H))
theorem sW_ {P:Program} {f:FuncId} {args:List AV} {v a:AV} {H1:AHeap} {n:Nat} (hargs:cK_ args=true) (hv:aT_ v=true) (hs:eT_ n H1 a=some v)
  (h:∀(B:World) (pr:Nat->Prop) (E:Env) (w:World) (vs:List Value),GlOk E->Rel B pr E H0 w->ConL E args vs->Calls P f ⟨vs⟩ w (FPost B pr E (.ret a H1))):jA_ P f args v:=by
 intro H B pr E w vs hg hr hc
 have hEc:∀(b o:Nat) (v:Value),E.imm b o=some v->(Env.mk (λ_=>none) E.sz E.imm (λ_=>False) E.imm E.sy E.syl λ_=>False).imm b o=some v:=λ_ _ _ h=>h
 have hrel:Rel w (λb=>b<w.heap.size) ⟨λ_=>none,E.sz,E.imm,λ_=>False,E.imm,E.sy,E.syl,λ_=>False⟩ H0 w:={
  own:=⟨λ_=>none,λid k hk=>(li_ hk).elim,λ_ _=>rfl,λ_ _ _ _=>rfl⟩
  imm:=hr.imm
  ib:=λ_ _ _ _ h=>h
  fresh:=λ_ _ _=>rfl
  resv:=λ_ h=>h.elim
  vds:=λ_ h=>h.elim
  szs:=hr.szs
  prot:=λb h=>⟨h,rfl⟩
  size:=Nat.le_refl _
  os:=rfl
  output:=rfl }
 refine Calls.mono (h w (λb=>b<w.heap.size) ⟨λ_=>none,E.sz,E.imm,λ_=>False,E.imm,E.sy,E.syl,λ_=>False⟩ w vs ⟨λg=>cs_ hEc (λ_ _ _ h=>h) (Gl.nr g) (hg.1 g),hg.2⟩ hrel (b5_ hEc (λ_ _ _ h=>h) hargs hc)) λe w' he=>?_
 obtain ⟨E',hle,u,rfl,h1,h2⟩:=he
 obtain ⟨E2,f1,f2,f3,f4,_,f5,f6⟩:=h2.freeze
 have hcon:=ne_ h2 f1 f6 n _ _ _ hs h1
 obtain ⟨own,g1,g2,g3⟩:=hr.own
 have hsz:∀b n,E.sz b=some n->E2.sz b=some n:=λb n hx=>f1.2.1 b n (hle.1.2.1 b n hx)
 have him:∀b o v,E.imm b o=some v->E2.imm b o=some v:=λb o v hx=>f1.2.2.1 b o v (hle.1.2.2.1 b o v hx)
 have hsy:E2.sy=E.sy:=f1.2.2.2.1.trans hle.1.2.2.2.1
 have hsyl:E2.syl=E.syl:=f1.2.2.2.2.trans hle.1.2.2.2.2
 have hold:∀b o v,b<w.heap.size->E2.imm b o=some v->E.imm b o=some v:=λb o v hb hx=>by
  have:=f5.ib b o v hb hx
  rw [f4,hle.2.2.1]at this
  exact this
 refine ⟨⟨E.φ,E2.sz,E2.imm,E.res,E.bim,E2.sy,E2.syl,E.vd⟩,⟨⟨λ_ _ h=>h,hsz,him,hsy,hsyl⟩,rfl,rfl,rfl⟩,u,rfl,cs_ (E:=E2) (E':=⟨E.φ,E2.sz,E2.imm,E.res,E.bim,E2.sy,E2.syl,E.vd⟩) (λ_ _ _ h=>h) (λ_ _ _ h=>h) hv hcon,?_⟩
 have hsub:E.sub ⟨E.φ,E2.sz,E2.imm,E.res,E.bim,E2.sy,E2.syl,E.vd⟩:=⟨λ_ _ h=>h,hsz,him,hsy,hsyl⟩
 refine { own:=⟨λb=>if b<w.heap.size then own b else none,λid k hk=>?_,λb hb=>?_,λb o v hx=>?_⟩,imm:=f5.imm,ib:=λb o v hb hx=>?_,fresh:=hr.fresh,resv:=hr.resv,vds:=hr.vds,szs:=f5.szs,prot:=λb hb=>?_,
          size:=Nat.le_trans hr.size h2.size,os:=h2.os.trans hr.os,output:=h2.output.trans hr.output }
 .exact (g1 id k hk).imp (λ_ h=>h) (λh=>⟨h.1,h.2.sub λi hi=>by show E2.sy i=_;rw [hsy];exact hi⟩) λb o e1 e2 e3=>⟨(if_pos e3.lt).trans e2,e3.sub hsub (h2.prot b e3.lt).2⟩
 .show (if b<w.heap.size then own b else none)=none
  split
  .exact g2 b hb
  .rfl
 .show (if b<w.heap.size then own b else none)=none
  split
  .rename_i hlt
   exact g3 b o v (hold b o v hlt hx)
  .rfl
 .have hlt:=Nat.lt_of_lt_of_le (hr.prot b hb).1 hr.size
  exact hr.ib b o v hb (hold b o v hlt hx)
 .obtain ⟨e1,e2⟩:=hr.prot b hb
  exact ⟨e1,(h2.prot b (Nat.lt_of_lt_of_le e1 hr.size)).2.trans e2⟩
def uV_ (P:Program) (n:Nat) (f:FuncId) (args:List AV) (v:AV):Bool:=match cK_ args&&aT_ v with
 |true=>match a6_ P n f args H0 with
  |some (.ret a H)=>match eT_ 100 H a with
   |some v'=>bL_ v' v
   |none=>false
  |_=>false
 |false=>false
theorem vk_ {P:Program} (hm:P.follows .mixedOrders=true) (ho:kQ_ P) {n:Nat} {f:FuncId} {args:List AV} {v:AV} (h:uV_ P n f args v=true):jA_ P f args v:=by
 unfold uV_ at h
 split at h
 .rename_i hn
  obtain ⟨h1,h2⟩:=aa_ hn
  split at h
  .rename_i a H hc
   split at h
   .rename_i v' hs
    have:=aD_ h
    subst this
    exact sW_ h1 h2 hs λB pr E w vs hg hr hc'=>dc_ hm ho n f args H0 _ hc B pr E w vs hg hr hc'
   .cases h
  .cases h
 .cases h
def rA_:List (FuncId×List AV×AV)->FuncId->List AV->Option AV
 |[],_,_=>none
 |(F,A,V)::r,f,args=>match Nat.beq f F with
  |true=>match dM_ args A with
   |true=>some V
   |false=>rA_ r f args
  |false=>rA_ r f args
abbrev glT (gl:Nat->AV) (nr:∀g,aT_ (gl g)=true) (l:List (FuncId×List AV×AV)):Gl:=⟨gl,λf args _=>rA_ l f args,nr,λs=>∀i a,i<64->s i=some a->a.one=true,λ_ _ h h1 i a hi ha=>h1 i a hi (by rw [←h i hi];exact ha),λ_ h=>h⟩
omit [Gl]in
theorem vI_ (gl:Nat->AV) (nr:∀g,aT_ (gl g)=true) (P:Program): @kQ_ (glT gl nr []) P:=λf args v H h=>by cases h
omit [Gl]in
theorem vo_ {gl:Nat->AV} {nr:∀g,aT_ (gl g)=true} {P:Program} {l l':List (FuncId×List AV×AV)} {F:FuncId} {A:List AV} {V:AV} (ho: @kQ_ (glT gl nr l) P) (hp: @jA_ (glT gl nr l') P F A V):
  @kQ_ (glT gl nr ((F,A,V)::l)) P:=by
 intro f args v H h
 have h:rA_ ((F,A,V)::l) f args=some v:=h
 unfold rA_ at h
 split at h
 .rename_i hf
  split at h
  .rename_i ha
   cases h
   have:=Nat.eq_of_beq_eq_true hf
   subst this
   rw [bp_ ha]
   exact hp H
  .exact ho f args v H h
 .exact ho f args v H h
def gl0:Nat->AV:=λ_=>.opq
omit [Gl]in
theorem nr0 (g:Nat):aT_ (gl0 g)=true:=by simp [gl0,aT_]
end Go.Sx
