/-
  A region whose order is open: all orders.
-/
import Derived.Test.YtjconanknjgpnaaGreatSxS
set_option linter.unusedVariables false
set_option linter.unusedSimpArgs false
namespace Go.Sx
variable [Gl]
section
variable {P:Program} {call:CallF} {N:Nat} {B:World} {pr:Nat->Prop} {E0:Env} {D:Dfs} {ops:Array Oper} {l:List SI} {ev:Nat->Evt} {T0:Tm} {idOf:Nat->Nat} {Gs:List AHeap}
 {dd:Option (Nat×AV×AHeap)} {S:Nat->Bool} {a:Act} {w:World} {i:Nat} {x:SI}
theorem Facts.stepWr (F:Facts P call N ops.toList l ev T0 idOf Gs dd) (j:Nat) (y:SI) (q:AV) (hy:l[j]? =some y) (he:ev j=.step q):a5_ y.kd=true:=by
 rcases F.each j y hy with ⟨h,_⟩|⟨u,R,_,_,h⟩
 .rw [he]at h;cases h
 .rw [he]at h
  cases h with
  |wr hg hk=>rw [hk];rfl
theorem rQ_ (hcall:as_ P call) (hP:PlanOk ops.toList l) (hN:N<=512) (F:Facts P call N ops.toList l ev T0 idOf Gs dd) (hcl:Cl l ev S) (inv:jz_ P B pr N E0 D ops.toList l ev T0 idOf Gs S a w)
  (hx:l[i]? =some x) (hS:S i=false) (hb:∀j,bit x.bef j=true->S j=true) (h0:x.kd=.mem->¬E0.res (idOf i)) {T':Tm}
  (hT:∀t,t<512->tget T' t=.opq\/(tget T' t=tget T0 t/\∀(j:Nat) (y:SI),l[j]? =some y->y.o.dst≠some t)) {r:CRes} (hr:∀d v H',dd=some (d,v,H')->r=.pan v T' H' D):
  wpOp P ops (QOut P B pr N E0 r) i (λa w=>jz_ P B pr N E0 D ops.toList l ev T0 idOf Gs (plus S i) a w/\Cl l ev (plus S i)) a w:=by
 obtain ⟨E,G,H,inv⟩:=inv
 rcases F.each i x hx with ⟨_,d,v,H',hd,hbit⟩|⟨u,R,hu,hR,hdid⟩
 .exact absurd (F.dead d v H' hd) (hcl.ev d (hb d hbit)).2
 .have hplus:ev i≠ .gone->ev i≠ .die->Cl l ev (plus S i):=λh1 h2=>hcl.plus hx hb ⟨h1,h2⟩
  generalize he:ev i=e at hdid
  cases hdid with
  |off hg hw=>exact wpOp_mono (λa w h=>⟨h,hplus (by rw [he];simp) (by rw [he];simp)⟩) (rT_ inv hP hN hcl hx hS hb hu hR he hg hw)
  |pure hg hk h=>
   refine wpOp_mono (λa w h=>⟨h,hplus (by rw [he];simp) (by rw [he];simp)⟩) (jn_ inv hP hN hcl hx hS hb hu hR he hg (by rw [hk];rfl) (K:=⟨hnil,0,0⟩) (λid k hk=>?_) (λid _ h2=>absurd h2 (Nat.not_lt_zero _)) h)
   by_cases hid:id<top
   .rw [AHeap.get_of_lt hid,c5_]at hk;cases hk
   .rw [AHeap.get_of_ge hid]at hk;cases hk
  |read hg hk h=>
   obtain ⟨c1,c2⟩:=qP_ hP hcl hx hS hb
   exact wpOp_mono (λa w h=>⟨h,hplus (by rw [he];simp) (by rw [he];simp)⟩)
    (jn_ inv hP hN hcl hx hS hb hu hR he hg (by rw [hk];rfl) (K:=G) inv.old (λid h1 h2=>⟨by rw [inv.nx];exact h1,by rw [inv.hi];exact h2⟩) (h _ G c1 c2 inv.g))
  |fl hg hk hy hj hbit hno hlater ht h=>
   rename_i q j id y c b
   refine wpOp_mono (λa w h=>⟨h,hplus (by rw [he];simp) (by rw [he];simp)⟩) (jn_ inv hP hN hcl hx hS hb hu hR he hg (by rw [hk];rfl) (K:=(⟨hnil,0,0⟩:AHeap).set id b) (λid' k hk'=>?_) (λid' _ h2=>absurd h2 (Nat.not_lt_zero _)) h)
   by_cases e:id=id'
   .subst e
    rw [AHeap.get_set_same _ ht]at hk'
    cases hk'
    refine (inv.row j y c id b hy hj (hb j hbit) λk y' q' g1 g2 g3=>?_).1
    rcases Nat.lt_trichotomy k i with hlt|rfl|hgt
    .exact hno k y' q' g1 hlt g3
    .rw [hS]at g2;cases g2
    .cases hbk:bit y'.bef j with
     |false=>rfl
     |true=>
      have h1:=hlater k y' g1 hgt (F.stepWr k y' q' g1 g3) hbk
      have:=hcl.bef k y' i g1 g2 h1
      rw [hS]at this;cases this
   .rw [AHeap.get_set_ne _ ht e]at hk'
    by_cases hid:id'<top
    .rw [AHeap.get_of_lt hid,c5_]at hk';cases hk'
    .rw [AHeap.get_of_ge hid]at hk';cases hk'
  |mem hg hk h hrow=>
   exact wpOp_mono (λa w h=>⟨h,hplus (by rw [he];simp) (by rw [he];simp)⟩) (rS_ inv hP hN hcl hx hS hb hu hR he hg hk h hrow F.row F.inj (h0 hk))
  |wr hg hk h1 h2 ht h=>
   exact wpOp_mono (λa w h=>⟨h,hplus (by rw [he];simp) (by rw [he];simp)⟩) (s8_ hcall inv hP hN hcl hx hS hb hu hR he hg (by rw [hk];rfl) h1 ht h2 F.row F.inj F.stepWr h)
  |die hg hk h1 ht hd h=>
   rw [hr _ _ _ hd]
   exact rR_ hcall inv hP hN hcl hx hS hb hR hg (by rw [hk];rfl) h1 ht F.stepWr hT h _
omit [Gl]in
theorem dT_ {listed:Array Bool} {i:Nat} (h:i<listed.size):(λj=>(listed.setIfInBounds i true).getD j false)=plus (λj=>listed.getD j false) i:=by
 funext j
 unfold plus
 by_cases e:j=i
 .subst e;simp [h]
 .rw [if_neg e];exact getD_set_ne false (Ne.symm e)
omit [Gl]in
theorem bO_ {listed:Array Bool} {i:Nat} (h:i<listed.size) (hi:listed[i]=false):(listed.setIfInBounds i true).toList.countP (· ==false)+1=listed.toList.countP (· ==false):=by
 rw [Array.toList_setIfInBounds,List.countP_set (by simpa using h)]
 have h1:listed.toList[i]'(by simpa using h)=false:=by simpa using hi
 have h2:0<listed.toList.countP (· ==false):=by
  rw [List.countP_pos_iff]
  exact ⟨false,by rw [←h1];exact List.getElem_mem _,rfl⟩
 rw [h1]
 have e1:((false:Bool)==false)=true:=rfl
 have e2:((true:Bool)==false)=false:=rfl
 simp only [e1,e2,if_true,Bool.false_eq_true,if_false]
 omega
theorem qC_ (hcall:as_ P call) (hP:PlanOk ops.toList l) (hN:N<=512) (F:Facts P call N ops.toList l ev T0 idOf Gs dd) (h0:∀(i:Nat) (x:SI),l[i]? =some x->x.kd=.mem->¬E0.res (idOf i)) {T':Tm}
  (hT:∀t,t<512->tget T' t=.opq\/(tget T' t=tget T0 t/\∀(j:Nat) (y:SI),l[j]? =some y->y.o.dst≠some t)) {r:CRes} (hr:∀d v H',dd=some (d,v,H')->r=.pan v T' H' D)
  (hend:∀(S:Nat->Bool) (a:Act) (w:World),jz_ P B pr N E0 D ops.toList l ev T0 idOf Gs S a w->Cl l ev S->(∀j,j<l.length->S j=true)->QOut P B pr N E0 r .normal a w):
  ∀(fuel:Nat) (listed:Array Bool) (a:Act) (w:World),listed.size=ops.size->listed.toList.countP (· ==false)<=fuel->Cl l ev (λj=>listed.getD j false)->
   jz_ P B pr N E0 D ops.toList l ev T0 idOf Gs (λj=>listed.getD j false) a w->wpAny P .any ops (QOut P B pr N E0 r) fuel listed a w:=by
 have hlen:l.length=ops.size:=by rw [hP.len];simp
 have hall:∀(listed:Array Bool),listed.size=ops.size->Region.ready .any ops listed=[]->∀j,j<l.length->listed.getD j false=true:=by
  intro listed hs hrd j
  induction j using Nat.strongRecOn with
  |_ j ih=>
   intro hj
   cases hg:listed.getD j false with
   |true=>rfl
   |false=>
    have hx:l[j]? =some l[j]:=by simp [hj]
    have:j∈Region.ready .any ops listed:=by
     rw [mem_ready]
     refine ⟨?_,l[j].o,dl_ hP hx,λe he hb=>?_⟩
     .have hj':j<listed.size:=by omega
      simpa [hj']using hg
     .have:=hP.lt j l[j] e hx he hb
      exact ih e.on this (by omega)
    rw [hrd]at this;cases this
 intro fuel
 induction fuel with
 |zero=>
  intro listed a w hs hc hcl inv
  have hrd:Region.ready .any ops listed=[]:=by
   rw [List.eq_nil_iff_forall_not_mem]
   intro j hj
   obtain ⟨h1,o,h2,_⟩:=mem_ready.1 hj
   have hlt:j<listed.size:=by rw [hs];exact (Array.getElem?_eq_some_iff.1 h2).1
   have hg:listed[j]=false:=by simpa [hlt]using h1
   have:=bO_ hlt hg
   omega
  exact ⟨hrd,hend _ a w inv hcl (hall listed hs hrd)⟩
 |succ fuel ih=>
  intro listed a w hs hc hcl inv
  refine ⟨λhrd=>hend _ a w inv hcl (hall listed hs hrd),λi hi=>?_⟩
  obtain ⟨h1,o,h2,h3⟩:=mem_ready.1 hi
  have hlt:i<listed.size:=by rw [hs];exact (Array.getElem?_eq_some_iff.1 h2).1
  have hg:listed[i]=false:=by simpa [hlt]using h1
  have hx:l[i]? =some l[i]:=by simp [show i<l.length by omega]
  have ho:l[i].o=o:=by have:=dl_ hP hx;rw [h2]at this;cases this;rfl
  refine wpOp_mono (λa w h=>?_) (rQ_ hcall hP hN F hcl inv hx (by simpa [hlt]using hg) (λj hj=>?_) (h0 i _ hx) hT hr)
  .rw [←dT_ hlt]at h
   refine ih _ a w (by simpa using hs) ?_ h.2 h.1
   have:=bO_ hlt hg
   omega
  .obtain ⟨e,he,hb,hj⟩:=(hP.bef i _ j hx).1 hj
   have hon:=h3 e (by rw [←ho];exact he) hb
   rcases hj with rfl|⟨y,hy,hj⟩
   .exact hon
   .exact hcl.bef e.on y j hy hon hj
end
end Go.Sx
