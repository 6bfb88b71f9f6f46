/-
  A region whose order is open: a step.
-/
import Derived.Test.YtjconanknjgpnaaGreatSxQ
set_option linter.unusedVariables false
set_option linter.unusedSimpArgs false
namespace Go.Sx
variable [Gl]
section
variable {P:Program} {call:CallF} {N:Nat} {B:World} {pr:Nat->Prop} {E0:Env} {D:Dfs} {ops:List Oper} {l:List SI} {ev:Nat->Evt} {T0:Tm} {idOf:Nat->Nat} {Gs:List AHeap}
 {dd:Option (Nat×AV×AHeap)} {S:Nat->Bool} {a:Act} {w:World} {E:Env} {G H:AHeap} {i:Nat} {x:SI}
theorem InvE.trel (inv:InvE P B pr N E0 D ops l ev T0 idOf Gs S a w E G H) (hP:PlanOk ops l) (hN:N<=512) (hcl:Cl l ev S) (hx:l[i]? =some x) (hS:S i=false) (hb:∀j,bit x.bef j=true->S j=true)
  {R:Tm} (hR:∀t,t<512->tget R t=.opq\/(t∈x.rd/\Sl l ev T0 (λj=>decide (j<i)) t (tget R t))):TRel E N R a.tmps:=by
 refine ⟨inv.size,hN,λt ht=>?_,inv.gl.sub inv.sub⟩
 rcases hR t ht with h|⟨h1,h2⟩
 .rw [h];simp [Con]
 .obtain ⟨q,h3,h4⟩:=inv.slot t ht
  have:Sl l ev T0 S t (tget R t):=h2.congr λj y hj hd=>by
   rcases Nat.lt_trichotomy j i with hlt|rfl|hgt
   .have:=hb j (hP.pair j i y x hlt hj hx (.inl (ir_ hd h1)))
    simp [hlt,this]
   .rw [hS];simp
   .have hbit:=hP.pair i j x y hgt hx hj (.inl (ht_ hd h1))
    cases hs:S j with
    |false=>simp;omega
    |true=>have:=hcl.bef j y i hj hs hbit;rw [hS]at this;cases this
  rw [this.unique h3];exact h4
theorem InvE.slot_put (inv:InvE P B pr N E0 D ops l ev T0 idOf Gs S a w E G H) (hP:PlanOk ops l) (hcl:Cl l ev S) (hx:l[i]? =some x) (hS:S i=false) {u:Tm->AV->Tm} (hu:b8_ N x.o.dst=.mk u)
  {q:AV} (hq:(ev i).put=some q) {E':Env} (hs:E.sub E') {v:Value} (hc:Con E' q v):
  ∀t,t<512->∃q',Sl l ev T0 (plus S i) t q'/\Con E' q' ((a.put x.o.dst v).tmps.getD t undef):=by
 intro t ht
 by_cases hd:x.o.dst=some t
 .refine ⟨q,Sl.put hx hd hq λj y hj hsj hdj=>?_,?_⟩
  .rcases Nat.lt_or_ge i j with hgt|hle
   .have hbit:=hP.pair i j x y hgt hx hj (.inl (j1_ hd hdj))
    have:=hcl.bef j y i hj hsj hbit
    rw [hS]at this;cases this
   .exact hle
  .rw [hd]at hu⊢
   rw [fy_ (by rw [inv.size];exact (pn_ hu).1)]
   exact hc
 .obtain ⟨q',h1,h2⟩:=inv.slot t ht
  refine ⟨q',h1.keep λy hy hdy=>?_,?_⟩
  .rw [hx]at hy;cases hy;exact absurd hdy hd
  .rw [hC_ hd];exact h2.sub hs
omit [Gl]in
theorem Cl.plus (hcl:Cl l ev S) (hx:l[i]? =some x) (hb:∀j,bit x.bef j=true->S j=true) (he:ev i≠ .gone/\ev i≠ .die):Cl l ev (plus S i) where
 lt:=λj hj=>by
  by_cases e:j=i
  .subst e;exact (List.getElem?_eq_some_iff.1 hx).1
  .exact hcl.lt j (by simpa [Sx.plus,e]using hj)
 ev:=λj hj=>by
  by_cases e:j=i
  .subst e;exact he
  .exact hcl.ev j (by simpa [Sx.plus,e]using hj)
 bef:=λj y k hy hj hk=>by
  by_cases e:j=i
  .subst e
   rw [hx]at hy;cases hy
   unfold Sx.plus;split
   .rfl
   .exact hb k hk
  .have:=hcl.bef j y k hy (by simpa [Sx.plus,e]using hj) hk
   unfold Sx.plus;split
   .rfl
   .exact this
omit [Gl]in
theorem h7_ (hP:PlanOk ops l) {j:Nat} {o:Oper} (ho:ops[j]? =some o):∃y,l[j]? =some y/\y.o=o/\y.kd=bI_ o.op:=by
 have:j<l.length:=by rw [hP.len];exact (List.getElem?_eq_some_iff.1 ho).1
 refine ⟨l[j],by simp [this],?_,?_⟩
 .have:=hP.op j l[j] (by simp [this]);rw [ho]at this;cases this;rfl
 .have h1:=hP.op j l[j] (by simp [this]);rw [ho]at h1;cases h1
  exact hP.kd j l[j] (by simp [this])
omit [Gl]in
theorem kY_ (hP:PlanOk ops l) (hcl:Cl l ev S) (hx:l[i]? =some x) (hS:S i=false) (hb:∀j,bit x.bef j=true->S j=true) (hw:a5_ x.kd=true):
  wAt ops i=b4_ S ops 0/\b4_ (plus S i) ops 0=b4_ S ops 0+1:=by
 constructor
 .unfold wAt
  refine dd_ ops 0 λj o ho hwo=>?_
  rw [Nat.zero_add]
  obtain ⟨y,hy,_,hk⟩:=h7_ hP ho
  have hwy:a5_ y.kd=true:=by rw [hk];exact hwo
  rcases Nat.lt_trichotomy j i with hlt|rfl|hgt
  .simp [hlt,hb j (hP.pair j i y x hlt hy hx (.inr ⟨hwy,hw⟩))]
  .rw [hS];simp
  .have hbit:=hP.pair i j x y hgt hx hy (.inr ⟨hw,hwy⟩)
   cases hs:S j with
   |false=>simp;omega
   |true=>have:=hcl.bef j y i hy hs hbit;rw [hS]at this;cases this
 .have:=gC_ (S:=S) ops 0 i x.o (hP.op i x hx) (by rw [←hP.kd i x hx];exact hw) (by rw [Nat.zero_add];exact hS)
  rwa [Nat.zero_add]at this
omit [Gl]in
theorem kX_ (hP:PlanOk ops l) (hx:l[i]? =some x) (hw:a5_ x.kd=false):b4_ (plus S i) ops 0=b4_ S ops 0:=by
 refine dd_ ops 0 λj o ho hwo=>?_
 rw [Nat.zero_add]
 have:j≠i:=by
  intro e;subst e
  have:=hP.op j x hx;rw [ho]at this;cases this
  rw [←hP.kd j x hx,hw]at hwo;cases hwo
 simp [plus,this]
omit [Gl]in
theorem qP_ (hP:PlanOk ops l) (hcl:Cl l ev S) (hx:l[i]? =some x) (hS:S i=false) (hb:∀j,bit x.bef j=true->S j=true):x.lo<=b4_ S ops 0/\b4_ S ops 0<=x.hi:=by
 constructor
 .rw [hP.lo i x hx,o2_]
  exact j2_ hb ops 0
 .rw [hP.hi i x hx]
  refine oG_ ops _ 0 (by simp [hP.len]) (λj b o hbj ho hwo hs=>?_) λj j' o o' hjj ho ho' hwo hwo' hs=>?_
  .rw [Nat.zero_add]at hs
   rw [List.getElem?_map]at hbj
   cases hy:l[j]? with
   |none=>rw [hy]at hbj;cases hbj
   |some y=>
    rw [hy]at hbj;cases hbj
    cases hbit:bit y.bef i with
    |false=>rfl
    |true=>have:=hcl.bef j y i hy hs hbit;rw [hS]at this;cases this
  .rw [Nat.zero_add]at hs⊢
   obtain ⟨y,hy,_,hk⟩:=h7_ hP ho
   obtain ⟨y',hy',_,hk'⟩:=h7_ hP ho'
   exact hcl.bef j' y' j hy' hs (hP.pair j j' y y' hjj hy hy' (.inr ⟨by rw [hk];exact hwo,by rw [hk'];exact hwo'⟩))
end
end Go.Sx
