/-
  Rows of a known length, laid open.
-/
import Derived.Test.YtjconanknjgpnaaGreatSyH
import Derived.Test.YtjconanknjgpnaaGreatSyM
set_option linter.unusedVariables false
set_option linter.unusedSimpArgs false
namespace Go.Sx
theorem gr_:∀n m:Nat,(ai_ n m).length=m
 |_,0=>rfl
 |n,m+1=>by simp only [ai_,List.length_cons,gr_ (Nat.succ n) m]
theorem hL_:∀{n m j:Nat} {a:AV},(ai_ n m)[j]? =some a->j<m/\a=.sym (n+j)
 |n,0,j,a,h=>by simp [ai_]at h
 |n,m+1,0,a,h=>by
  simp only [ai_,List.getElem?_cons_zero,Option.some.injEq]at h
  exact ⟨by omega,h.symm⟩
 |n,m+1,j+1,a,h=>by
  simp only [ai_,List.getElem?_cons_succ]at h
  obtain ⟨h1,h2⟩:=hL_ h
  exact ⟨by omega,by rw [h2];congr 1;omega⟩
theorem rz_ {B:World} {pr:Nat->Prop} {E:Env} {H:AHeap} {w:World} (hr:Rel B pr E H w) {id i n0 len sz:Nat} {cs:List AV} (hk:H.get id=some (.syl i)) (hi:E.sy i=some (.vsl len sz cs)) (hs:∀(j:Nat) (a:AV),cs[j]? =some a->E.sy (n0+j)=some a):
  Rel B pr E (H.set id (.cells (ai_ n0 cs.length))) w:=by
 refine hr.setTo hk λown h=>?_
 rcases h with ⟨_,hv⟩|⟨b,o,h1,h2,len',sz',cs',h3,h4,arr,t,h5,h6,h7,h8⟩
 .have hv:E.sy i=some .nsl:=hv
  rw [hi]at hv;cases hv
 .rw [hi]at h3
  cases h3
  refine .inr ⟨b,o,h1,h2,arr,t,h5,h6,by rw [gr_];exact h7,λj a ha=>?_⟩
  obtain ⟨hj,rfl⟩:=hL_ ha
  obtain ⟨v,k1,k2,k3⟩:=h8 j cs[j] (List.getElem?_eq_getElem hj)
  exact ⟨v,k1,by simp only [Con];exact ⟨cs[j],hs j _ (List.getElem?_eq_getElem hj),k2,k3⟩⟩
theorem ob_ {B:World} {pr:Nat->Prop} {E:Env} {H:AHeap} {w:World} (hr:Rel B pr E H w) {id:Nat} {cs ds:List AV} (hk:H.get id=some (.cells cs)) (hl:ds.length=cs.length) (hc:∀(j:Nat) (a:AV),ds[j]? =some a->∃b,cs[j]? =some b/\∀v,Con E b v->Con E a v):
  Rel B pr E (H.set id (.cells ds)) w:=by
 refine hr.setTo hk λown h=>?_
 rcases h with ⟨_,hv⟩|⟨b,o,h1,h2,arr,t,h5,h6,h7,h8⟩
 .exact hv.elim
 .refine .inr ⟨b,o,h1,h2,arr,t,h5,h6,by rw [hl];exact h7,λj a ha=>?_⟩
  obtain ⟨y,hy,hcv⟩:=hc j a ha
  obtain ⟨v,k1,k2⟩:=h8 j y hy
  exact ⟨v,k1,hcv v k2⟩
theorem sT_ {E:Env} {id sz i len:Nat} {cs:List AV} (hi:E.sy i=some (.vsl len sz cs)) {v:Value} (h:Con E (.slx id sz i) v):Con E (.sl id 0 len sz none) v:=by
 simp only [Con]at h⊢
 obtain ⟨a,h1,h2⟩:=h
 rw [hi]at h1
 cases h1
 rcases h2 with ⟨h2,_⟩|⟨len',cs',h2,b,o,n,c,off',q1,q2,q3,q4,q5,q6⟩
 .cases h2
 .cases h2
  exact ⟨b,o,n,c,off',q1,q2,q3,q4,q5,by omega,λk hk=>by cases hk⟩
mutual
theorem i5_ {E:Env} {id sz i len:Nat} {cs:List AV} (hi:E.sy i=some (.vsl len sz cs)):∀(a:AV) (v:Value),Con E a v->Con E (mT_ id sz i len a) v
 | .slx id' z j,v,h=>by
   unfold mT_
   split
   .rename_i hb
    obtain ⟨e1,hb⟩:=aa_ hb
    obtain ⟨e2,e3⟩:=aa_ hb
    have e1:=Nat.eq_of_beq_eq_true e1
    have e2:=Nat.eq_of_beq_eq_true e2
    have e3:=Nat.eq_of_beq_eq_true e3
    subst e1 e2 e3
    exact sT_ hi h
   .exact h
 | .agg l,v,h=>by
   simp only [mT_,Con]at h⊢
   obtain ⟨vs,h1,h2⟩:=h
   exact ⟨vs,h1,i6_ hi l vs h2⟩
 | .tup l,v,h=>by
   simp only [mT_,Con]at h⊢
   obtain ⟨vs,h1,h2⟩:=h
   exact ⟨vs,h1,i6_ hi l vs h2⟩
 | .opq,v,h=>h
 | .bool _,v,h=>h
 | .int _ _,v,h=>h
 | .flt _ _,v,h=>h
 | .nan _,v,h=>h
 | .str _,v,h=>h
 | .nptr,v,h=>h
 | .ptr _ _,v,h=>h
 | .vptr _,v,h=>h
 | .nsl,v,h=>h
 | .sl ..,v,h=>h
 | .vsl ..,v,h=>h
 | .nmap,v,h=>h
 | .map _,v,h=>h
 | .nfn,v,h=>h
 | .fn _ _,v,h=>h
 | .nif,v,h=>h
 | .iface _ _,v,h=>h
 | .sym _,v,h=>h
 | .ptx ..,v,h=>h
theorem i6_ {E:Env} {id sz i len:Nat} {cs:List AV} (hi:E.sy i=some (.vsl len sz cs)):∀(l:List AV) (vs:List Value),ConL E l vs->ConL E (hQ_ id sz i len l) vs
 |[],vs,h=>h
 |a::r,vs,h=>by
  simp only [hQ_,ConL]at h⊢
  obtain ⟨v,q,h1,h2,h3⟩:=h
  exact ⟨v,q,h1,i5_ hi a v h2,i6_ hi r q h3⟩
end
theorem pi_ {id sz i len:Nat}:∀(l:List AV) (j:Nat) (a:AV),(hQ_ id sz i len l)[j]? =some a->∃b,l[j]? =some b/\a=mT_ id sz i len b
 |[],j,a,h=>by simp [hQ_]at h
 |b::r,0,a,h=>by
  simp only [hQ_,List.getElem?_cons_zero,Option.some.injEq]at h
  exact ⟨b,rfl,h.symm⟩
 |b::r,j+1,a,h=>by
  simp only [hQ_,List.getElem?_cons_succ]at h
  exact pi_ r j a h
theorem mU_ {id sz i len:Nat}:∀l:List AV,(hQ_ id sz i len l).length=l.length
 |[]=>rfl
 |b::r=>by simp only [hQ_,List.length_cons,mU_ r]
theorem ph_ {B:World} {pr:Nat->Prop} {E:Env} {w:World} {id sz i len:Nat} {cs:List AV} (hi:E.sy i=some (.vsl len sz cs)) {H:AHeap} (hr:Rel B pr E H w):∀l:List Nat,Rel B pr E (qj_ id sz i len H l) w
 |[]=>hr
 |q::r=>by
  have ih:=ph_ (id:=id) hi hr r
  unfold qj_
  split
  .rename_i l hk
   refine ob_ ih hk (mU_ l) λj a ha=>?_
   obtain ⟨b,hb,rfl⟩:=pi_ _ _ _ ha
   exact ⟨b,hb,λv hv=>i5_ hi b v hv⟩
  .exact ih
theorem sU_ {P:Program} {i len sz:Nat} {Y:Sy} {cs:List AV} (h:(XOp.opn len sz).run P (ab_ Y.v [.sym i])=some (.agg cs)):Y.v i=some (.vsl len sz cs)/\cs.length=len*sz:=by
 have h:(match den Y.v (.sym i)with
  | .vsl n z cs=>match Nat.beq n len&&(Nat.beq z sz&&Nat.beq (a0_ cs) (Nat.mul len sz))with
    |true=>some (AV.agg cs)
    |false=>none
  |_=>none)=some (AV.agg cs):=h
 cases hy:Y.v i with
 |none=>simp only [den,hy]at h;cases h
 |some a=>
  simp only [den,hy]at h
  split at h
  .split at h
   .rename_i hb
    cases h
    obtain ⟨e1,hb⟩:=aa_ hb
    obtain ⟨e2,e3⟩:=aa_ hb
    have e1:=Nat.eq_of_beq_eq_true e1
    have e2:=Nat.eq_of_beq_eq_true e2
    have e3:=Nat.eq_of_beq_eq_true e3
    subst e1 e2
    rw [ah_]at e3
    exact ⟨rfl,e3⟩
   .cases h
  .cases h
end Go.Sx
