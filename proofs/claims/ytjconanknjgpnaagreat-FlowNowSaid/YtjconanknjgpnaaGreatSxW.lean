/-
  A region whose order is open: the run, operation by operation.
-/
import Derived.Test.YtjconanknjgpnaaGreatSxV
set_option linter.unusedVariables false
set_option linter.unusedSimpArgs false
namespace Go.Sx
variable [Gl]
section
variable {P:Program} {call:CallF} {N:Nat} {ops:List Oper} {l:List SI} {T0:Tm} {base:Nat} {i:Nat} {ev:Nat->Evt} {s:DS}
theorem DInv.last (inv:DInv P call N ops l T0 base i ev s) (hd:s.dead=none) {G:AHeap} (h:iQ_ s.Gs=some G):s.Gs[wAt ops i]? =some G/\∀G',(s.Gs++[G'])[wAt ops i+1]? =some G':=by
 have hl:=inv.gs hd
 rw [iR_,hl]at h
 refine ⟨by simpa using h,λG'=>?_⟩
 rw [←hl];simp
theorem DInv.took (inv:DInv P call N ops l T0 base i ev s) {x:SI} (hx:l[i]? =some x) {G:AHeap}:Took l ev i x G (dD_ x.bef s.fl G):=by
 obtain ⟨h1,h2,h3⟩:=gx_ x.bef s.fl G inv.ft
 refine ⟨h1,h2,λid k hk=>?_⟩
 rcases h3 id k hk with h|⟨f,hf,hb,rfl,rfl⟩
 .exact .inl h
 .obtain ⟨y,a,g1,g2,g3,g4⟩:=inv.fl f hf
  exact .inr ⟨f.op,y,a,g1,g3,hb,g4⟩
omit [Gl]in
theorem fM_ {i j:Nat}:∀(rest:List SI),fk_ rest i j=true->∀(k:Nat) (y:SI),rest[k]? =some y->a5_ y.kd=true->bit y.bef j=true->bit y.bef i=true
 |[],h,k,y,hy,_,_=>by simp at hy
 |z::r,h,k,y,hy,h1,h2=>by
  unfold fk_ at h
  split at h
  .split at h
   .rename_i hz
    cases k with
    |zero=>simp at hy;subst hy;exact hz
    |succ k=>exact fM_ r h k y (by simpa using hy) h1 h2
   .cases h
  .rename_i hz
   cases k with
   |zero=>simp at hy;subst hy;rw [h1,h2]at hz;cases hz
   |succ k=>exact fM_ r h k y (by simpa using hy) h1 h2
omit [Gl]in
theorem g9_ {c:OC} {R:Tm} {bef:Nat} {rest:List SI} {i:Nat} {a:AV}:∀(fl:List Fl),jd_ c R bef rest i fl=some a->
  ∃f∈fl,bit bef f.op=true/\fk_ rest i f.op=true/\ck_ c R ((⟨hnil,0,0⟩:AHeap).set f.id f.b)=some a
 |[],h=>by cases h
 |f::r,h=>by
  unfold jd_ at h
  split at h
  .rename_i hb
   obtain ⟨h1,h2⟩:=aa_ hb
   split at h
   .rename_i a' ha
    cases h
    exact ⟨f,List.mem_cons_self ..,h1,h2,ha⟩
   .obtain ⟨g,q1,q2⟩:=g9_ r h
    exact ⟨g,List.mem_cons_of_mem _ q1,q2⟩
  .obtain ⟨g,q1,q2⟩:=g9_ r h
   exact ⟨g,List.mem_cons_of_mem _ q1,q2⟩
theorem l6_ (hP:PlanOk ops l) {i id:Nat} {ev0:Nat->Evt} {s s':DS} {x:SI} (inv0:DInv P call N ops l T0 base i ev0 s) (hx:l[i]? =some x) (hid:id=a9_ l base i) {rest:List SI} (hrest:∀k,rest[k]? =l[i+1+k]?)
  (h:ez_ P call N ops x rest i id s=some s'):∃e,∀ev:Nat->Evt,(∀j,j<i->ev j=ev0 j)->ev i=e->DInv P call N ops l T0 base (i+1) ev s':=by
 unfold ez_ at h
 split at h
 ·
  rename_i hdead
  cases h
  unfold rc_ at hdead
  cases hd:s.dead with
  |none=>rw [hd]at hdead;cases hdead
  |some p=>
   obtain ⟨d,v,H⟩:=p
   rw [hd]at hdead
   refine ⟨.gone,λev hev he=>?_⟩
   have inv:=inv0.congr hP hev
   exact inv.step hP hx (gs:=[]) (.inl ⟨rfl,by rw [he];rfl⟩) (by simp) (λh=>by rw [hd]at h;cases h) (.inl rfl) (λr hr=>hr) (λf hf=>.inl ⟨hf,λa ha=>by rw [he]at ha;cases ha⟩)
    (.inl ⟨he,d,v,H,hd,hdead⟩) (λa id b hr=>by rw [he]at hr;cases hr) inv.ft
 .split at h
  .cases h
  .rename_i u hu
   split at h
   .cases h
   .rename_i t hg
    have hR:=re_ s.T x.rd
    split at h
    ·
     unfold nG_ at h
     split at h
     .rename_i hk
      split at h
      .rename_i a ha
       cases h
       refine ⟨.val a,λev hev he=>?_⟩
       have inv:=inv0.congr hP hev
       exact inv.step hP hx (gs:=[]) (.inr ⟨u,a,hu,by rw [he];rfl,rfl⟩) (by simp) (λ_=>by rw [hk];rfl) (.inl rfl) (λr hr=>hr) (λf hf=>.inl ⟨hf,λa ha=>by rw [he]at ha;cases ha⟩)
        (.inr ⟨u,_,hu,hR,by rw [he];exact .pure hg hk ha⟩) (λa id b hr=>by rw [he]at hr;cases hr) inv.ft
      .cases h
     .rename_i hk
      split at h
      .cases h
      .rename_i G hG
       split at h
       .rename_i a ha
        cases h
        refine ⟨.val a,λev hev he=>?_⟩
        have inv:=inv0.congr hP hev
        exact inv.step hP hx (gs:=[]) (.inr ⟨u,a,hu,by rw [he];rfl,rfl⟩) (by simp) (λ_=>by rw [hk];rfl) (.inl rfl) (λr hr=>List.mem_cons_of_mem _ hr) (λf hf=>.inl ⟨hf,λa ha=>by rw [he]at ha;cases ha⟩)
         (.inr ⟨u,_,hu,hR,by rw [he];exact .read hg hk (by rw [←pb_];exact hG) ha (List.mem_cons_self ..)⟩) (λa id b hr=>by rw [he]at hr;cases hr) inv.ft
       .split at h
        .rename_i a ha
         cases h
         obtain ⟨f,hf,hbit,hlat,hrd⟩:=g9_ _ ha
         refine ⟨.val a,λev hev he=>?_⟩
         have inv:=inv0.congr hP hev
         obtain ⟨y,c,g1,g2,g3,g4⟩:=inv.fl f hf
         refine inv.step hP hx (gs:=[]) (.inr ⟨u,a,hu,by rw [he];rfl,rfl⟩) (by simp) (λ_=>by rw [hk];rfl) (.inl rfl) (λr hr=>hr) (λf hf=>.inl ⟨hf,λa ha=>by rw [he]at ha;cases ha⟩)
          (.inr ⟨u,_,hu,hR,by rw [he];exact .fl hg hk g1 g3 hbit g4 (λk y' q1 q2 q3 q4=>fM_ rest hlat (k-(i+1)) y' (by rw [hrest,show i+1+(k-(i+1))=k by omega];exact q1) q3 q4) (inv.ft f hf) hrd⟩) (λa id b hr=>by rw [he]at hr;cases hr) inv.ft
        .cases h
     .rename_i hk
      split at h
      .rename_i a H' hrun
       split at h
       .rename_i b hb
        cases h
        refine ⟨.row a id b,λev hev he=>?_⟩
        have inv:=inv0.congr hP hev
        refine inv.step hP hx (gs:=[]) (.inr ⟨u,a,hu,by rw [he];rfl,rfl⟩) (by simp) (λ_=>by rw [hk];rfl) (.inl rfl) (λr hr=>hr) (λf hf=>?_)
         (.inr ⟨u,_,hu,hR,by rw [he];subst hid;exact .mem hg hk hrun hb⟩) (λa id b hr=>by rw [he]at hr;cases hr;exact ⟨hid,hk⟩) (λf hf=>?_)
        .rcases List.mem_cons.1 hf with rfl|hf
         .exact .inr ⟨rfl,hk,a,he⟩
         .exact .inl ⟨hf,λa ha=>by rw [he]at ha;cases ha⟩
        .rcases List.mem_cons.1 hf with rfl|hf
         .exact AHeap.get_lt hb
         .exact inv.ft f hf
       .cases h
      .cases h
     .rename_i hk
      split at h
      .cases h
      .rename_i hd
       split at h
       .cases h
       .rename_i G hG
        have hw:a5_ x.kd=true:=by rw [hk];rfl
        split at h
        .rename_i a H' hrun
         cases h
         refine ⟨.step a,λev hev he=>?_⟩
         have inv:=inv0.congr hP hev
         obtain ⟨q1,q2⟩:=inv.last hd hG
         refine inv.step hP hx (gs:=[H']) (.inr ⟨u,a,hu,by rw [he];rfl,rfl⟩) (bC_ _ _) (λ_=>by rw [hw];rfl) (.inl rfl) (λr hr=>hr) (λf hf=>?_)
          (.inr ⟨u,_,hu,hR,by rw [he];exact .wr hg hk (by rw [bC_];exact getElem?_app q1 _) (by rw [bC_];exact q2 H') (inv.took hx) (.inl hrun)⟩) (λa id b hr=>by rw [he]at hr;cases hr) (λf hf=>?_)
         .obtain ⟨f1,f2⟩:=cw_ _ _ _ hf
          exact .inl ⟨f1,λ_ _=>f2⟩
         .exact inv.ft f (cw_ _ _ _ hf).1
        .rename_i f args hrun
         split at h
         .rename_i a H' hc
          cases h
          refine ⟨.step a,λev hev he=>?_⟩
          have inv:=inv0.congr hP hev
          obtain ⟨q1,q2⟩:=inv.last hd hG
          refine inv.step hP hx (gs:=[H']) (.inr ⟨u,a,hu,by rw [he];rfl,rfl⟩) (bC_ _ _) (λ_=>by rw [hw];rfl) (.inl rfl) (λr hr=>hr) (λf hf=>?_)
           (.inr ⟨u,_,hu,hR,by rw [he];exact .wr hg hk (by rw [bC_];exact getElem?_app q1 _) (by rw [bC_];exact q2 H') (inv.took hx) (.inr ⟨f,args,hrun,hc⟩)⟩) (λa id b hr=>by rw [he]at hr;cases hr) (λf hf=>?_)
          .obtain ⟨f1,f2⟩:=cw_ _ _ _ hf
           exact .inl ⟨f1,λ_ _=>f2⟩
          .exact inv.ft f (cw_ _ _ _ hf).1
         .rename_i v H' hc
          cases h
          refine ⟨.die,λev hev he=>?_⟩
          have inv:=inv0.congr hP hev
          obtain ⟨q1,q2⟩:=inv.last hd hG
          exact inv.step hP hx (gs:=[]) (.inl ⟨rfl,by rw [he];rfl⟩) (by simp) (λh=>by cases h) (.inr ⟨hd,he,hw,v,H',rfl⟩) (λr hr=>hr) (λf hf=>.inl ⟨hf,λa ha=>by rw [he]at ha;cases ha⟩)
           (.inr ⟨u,_,hu,hR,by rw [he];exact .die hg hk q1 (inv.took hx) rfl (.inr ⟨f,args,hrun,hc⟩)⟩) (λa id b hr=>by rw [he]at hr;cases hr) inv.ft
         .cases h
        .rename_i v hrun
         cases h
         refine ⟨.die,λev hev he=>?_⟩
         have inv:=inv0.congr hP hev
         obtain ⟨q1,q2⟩:=inv.last hd hG
         exact inv.step hP hx (gs:=[]) (.inl ⟨rfl,by rw [he];rfl⟩) (by simp) (λh=>by cases h) (.inr ⟨hd,he,hw,v,_,rfl⟩) (λr hr=>hr) (λf hf=>.inl ⟨hf,λa ha=>by rw [he]at ha;cases ha⟩)
          (.inr ⟨u,_,hu,hR,by rw [he];exact .die hg hk q1 (inv.took hx) rfl (.inl ⟨hrun,rfl⟩)⟩) (λa id b hr=>by rw [he]at hr;cases hr) inv.ft
        .cases h
    ·
     unfold kZ_ at h
     split at h
     .rename_i hk
      split at h
      .cases h
      .rename_i hd
       split at h
       .cases h
       .rename_i G hG
        cases h
        have hw:a5_ x.kd=true:=by rw [hk];rfl
        refine ⟨.off,λev hev he=>?_⟩
        have inv:=inv0.congr hP hev
        obtain ⟨q1,q2⟩:=inv.last hd hG
        exact inv.step hP hx (gs:=[G]) (.inr ⟨u,.tup [],hu,by rw [he];rfl,rfl⟩) (bC_ _ _) (λ_=>by rw [hw];rfl) (.inl rfl) (λr hr=>hr) (λf hf=>.inl ⟨hf,λa ha=>by rw [he]at ha;cases ha⟩)
         (.inr ⟨u,_,hu,hR,by rw [he];exact .off hg λ_=>⟨G,by rw [bC_];exact getElem?_app q1 _,by rw [bC_];exact q2 G⟩⟩) (λa id b hr=>by rw [he]at hr;cases hr) inv.ft
     .rename_i hk
      cases h
      have hw:a5_ x.kd=false:=by
       cases hkd:x.kd<;>first|rfl|exact absurd hkd (by simpa using hk)
      refine ⟨.off,λev hev he=>?_⟩
      have inv:=inv0.congr hP hev
      exact inv.step hP hx (gs:=[]) (.inr ⟨u,.tup [],hu,by rw [he];rfl,rfl⟩) (by simp) (λ_=>by rw [hw];rfl) (.inl rfl) (λr hr=>hr) (λf hf=>.inl ⟨hf,λa ha=>by rw [he]at ha;cases ha⟩)
       (.inr ⟨u,_,hu,hR,by rw [he];exact .off hg λh=>by rw [hw]at h;cases h⟩) (λa id b hr=>by rw [he]at hr;cases hr) inv.ft
end
end Go.Sx
