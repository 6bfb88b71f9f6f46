/-
  The evaluator of code: slots, guards, one staged operation, operations in a row.
-/
import Derived.Test.YtjconanknjgpnaaGreatSxI
set_option linter.unusedVariables false
set_option linter.unusedSimpArgs false
namespace Go.Sx
variable [Gl]
open Q8 (AtC atc UpC upc)
omit [Gl]in
theorem ej_ (T:Tm) (t:Nat):tget T t=Q8.at8 (Nat.mod t 8) (Q8.at8 (Nat.mod (Nat.div t 8) 8) (Q8.at8 (Nat.div t 64) T)):=by
 unfold tget acs Q8.at8
 cases atc (Q8 (Q8 AV)) (Nat.div t 64)
 cases atc (Q8 AV) (Nat.mod (Nat.div t 8) 8)
 cases atc AV (Nat.mod t 8)
 rfl
omit [Gl]in
theorem px_ (T:Tm) (t:Nat) (a:AV):dq_ T t a=Q8.up8 (Nat.div t 64) T λq=>Q8.up8 (Nat.mod (Nat.div t 8) 8) q λr=>Q8.up8 (Nat.mod t 8) r λ_=>a:=by
 unfold dq_ ups Q8.up8
 cases upc (Q8 (Q8 AV)) (Nat.div t 64)
 cases upc (Q8 AV) (Nat.mod (Nat.div t 8) 8)
 cases upc AV (Nat.mod t 8)
 rfl
omit [Gl]in
theorem an_ (T:Tm) {t:Nat} (h:t<512) (a:AV):tget (dq_ T t a) t=a:=by
 have h2:Nat.div t 64<8:=by show t/64<8;omega
 rw [ej_,px_,Q8.at_up_same _ h2,Q8.at_up_same _ (bU_ _ _),Q8.at_up_same _ (e7_ _)]
omit [Gl]in
theorem ar_ (T:Tm) {t d:Nat} (h:t<512) (h':d<512) (hne:d≠t) (a:AV):tget (dq_ T d a) t=tget T t:=by
 have h2:Nat.div t 64<8:=by show t/64<8;omega
 have h2':Nat.div d 64<8:=by show d/64<8;omega
 rw [ej_,px_,ej_]
 by_cases e2:Nat.div d 64=Nat.div t 64
 .rw [←e2,Q8.at_up_same _ h2']
  by_cases e1:Nat.mod (Nat.div d 8) 8=Nat.mod (Nat.div t 8) 8
  .rw [←e1,Q8.at_up_same _ (bU_ _ _)]
   by_cases e0:Nat.mod d 8=Nat.mod t 8
   .exfalso
    have e2:d/64=t/64:=e2
    have e1:d/8%8=t/8%8:=e1
    have e0:d%8=t%8:=e0
    omega
   .rw [Q8.at_up_ne _ (e7_ _) (e7_ _) e0]
  .rw [Q8.at_up_ne _ (bU_ _ _) (bU_ _ _) e1]
 .rw [Q8.at_up_ne _ h2' h2 e2]
omit [Gl]in
theorem qs_ (t:Nat):tget tnil t=.tup []:=by
 rw [ej_];unfold tnil;rw [Q8.at_all,Q8.at_all,Q8.at_all]
def GlOk (E:Env):Prop:=(∀g:Nat,Con E (Gl.gl g) (.pointer (some ⟨g,0,none⟩)))/\Gl.gt E.sy
theorem GlOk.sub {E E':Env} (h:GlOk E) (hs:E.sub E'):GlOk E':=⟨λg=>(h.1 g).sub hs,by rw [hs.2.2.2.1];exact h.2⟩
structure TRel (E:Env) (N:Nat) (T:Tm) (tmps:Array Value):Prop where
 size:tmps.size=N
 le:N<=512
 con:∀t,t<512->Con E (tget T t) (tmps.getD t undef)
 gl:GlOk E
theorem TRel.mono {E E':Env} {N:Nat} {T:Tm} {tmps:Array Value} (h:TRel E N T tmps) (hl:E.le E'):TRel E' N T tmps:=⟨h.size,h.le,λt ht=>(h.con t ht).mono hl,h.gl.sub hl.1⟩
omit [Gl]in
theorem bd_ (E:Env):Con E (.tup []) undef:=by simp [Con,undef,ConL]
theorem TRel.look {E:Env} {N:Nat} {T:Tm} {a:Act} (h:TRel E N T a.tmps) (x:Operand):Con E (look T x) (a.eval x):=by
 unfold Sx.look aX_
 cases x with
 |tmp t=>
  simp only
  split
  .rename_i hb
   have hb:t<512:=by simpa [Nat.blt_eq]using hb
   exact h.con t hb
  .rename_i hb
   have hb:¬t<512:=λhlt=>by
    have:Nat.blt t 512=true:=by simpa [Nat.blt_eq]using hlt
    rw [this]at hb;cases hb
   have:a.tmps.getD t undef=undef:=by
    have hs:=h.size
    have hN:=h.le
    have hge:¬t<a.tmps.size:=Nat.not_lt.2 (Nat.le_trans (hs▸hN) (Nat.le_of_not_lt hb))
    simp [Array.getD,hge]
   show Con E (.tup []) (a.tmps.getD t undef)
   rw [this];exact bd_ E
 |const v=>exact cS_ E v
 |global g=>exact h.gl.1 g
 |func f=>show Con E (.fn f []) _;simp only [Con];exact ⟨[],rfl,ConL.nil E⟩
theorem TRel.put {E:Env} {N:Nat} {T:Tm} {a:Act} (h:TRel E N T a.tmps) {dst:Option Nat} {u:Tm->AV->Tm} (hu:b8_ N dst=.mk u) {x:AV} {v:Value} (hc:Con E x v):
  TRel E N (u T x) (a.put dst v).tmps:=by
 unfold b8_ at hu
 split at hu
 .cases hu;exact h
 .rename_i d
  split at hu
  .rename_i hb
   cases hu
   obtain ⟨h1,h2⟩:=aa_ hb
   have h1:d<N:=by simpa [Nat.blt_eq]using h1
   have h2:d<512:=by simpa [Nat.blt_eq]using h2
   refine ⟨by simp [Act.put,h.size],h.le,λt ht=>?_,h.gl⟩
   have hs:=h.size
   by_cases e:d=t
   .subst e
    have:tget ((ups d).f T x) d=x:=an_ T h2 x
    rw [this]
    have hv:(a.put (some d) v).tmps.getD d undef=v:=by
     simp [Act.put,Array.getD,hs,h1]
    rw [hv];exact hc
   .have:tget ((ups d).f T x) t=tget T t:=ar_ T ht h2 e x
    rw [this]
    have hv:(a.put (some d) v).tmps.getD t undef=a.tmps.getD t undef:=by
     simp only [Act.put,Array.getD_eq_getD_getElem?,Array.getElem?_setIfInBounds]
     rw [if_neg e]
    rw [hv];exact h.con t ht
  .cases hu
omit [Gl]in
theorem iZ_:∀(l:List Oper) (n:Nat),iY_ l n=l[n]?
 |[],n=>by simp [iY_]
 |a::r,0=>rfl
 |a::r,n+1=>by simp [iY_,iZ_ r n]
def bOf (v:Value):Option Bool:=match v with
 | .bool b=>some b
 |_=>none
omit [Gl]in
theorem hO_ (ops:Array Oper) (tmps:Array Value) {j d:Nat} {oj:Oper} (hj:ops[j]? =some oj) (hd:oj.dst=some d):yielded ops tmps j=bOf (tmps.getD d undef):=by
 unfold yielded
 simp only [hj,Option.bind_some,hd]
 rcases Nat.lt_or_ge d tmps.size with hlt|hge
 .have e1:tmps[d]? =some tmps[d]:=by simp [hlt]
  have e2:tmps.getD d undef=tmps[d]:=by simp [Array.getD,hlt]
  rw [e1,e2]
  generalize tmps[d]=v
  cases v<;>rfl
 .have e1:tmps[d]? =none:=by simp [hge]
  have e2:tmps.getD d undef=undef:=by
   have:¬d<tmps.size:=by omega
   simp [Array.getD,this]
  rw [e1,e2]
  rfl
omit [Gl]in
theorem pJ_ {E:Env} {x:AV} {v:Value} (hc:Con E x v) {want t:Bool} (h:br_ x want=some t):(bOf v==some want)=t:=by
 unfold br_ at h
 split at h
 .rename_i b
  simp only [Con]at hc
  subst hc
  cases want<;>cases b<;>simp at h<;>subst h<;>rfl
 .split at h
  .cases h
   simp only [Con,ConL]at hc
   obtain ⟨vs,rfl,rfl⟩:=hc
   rfl
  .cases h
 .cases h
omit [Gl]in
theorem cW_ {ops:Array Oper} {o:Oper} (h:a2_ ops.toList o=.always) (tmps:Array Value):Region.wanted o (yielded ops tmps)=true:=by
 unfold a2_ at h
 unfold Region.wanted
 split at h
 .rename_i hg;rw [hg]
 .rename_i j want hg
  repeat' (split at h)
  all_goals (cases h)
theorem eJ_ {E:Env} {N:Nat} {T:Tm} {ops:Array Oper} {o:Oper} {tmps:Array Value} (ht:TRel E N T tmps) {g:Tm->Option Bool} (h:a2_ ops.toList o=.mk g) {t:Bool} (hg:g T=some t):
  Region.wanted o (yielded ops tmps)=t:=by
 unfold a2_ at h
 unfold Region.wanted
 split at h
 .cases h
 .rename_i j want hgu
  rw [hgu]
  simp only
  rw [iZ_]at h
  have hj:ops.toList[j]? =ops[j]? :=by simp
  rw [hj]at h
  split at h
  .rename_i oj hoj
   split at h
   .rename_i d hd
    split at h
    .rename_i hb
     cases h
     have hb:d<512:=by simpa [Nat.blt_eq]using hb
     have hc:=ht.con d hb
     have:=pJ_ hc (want:=want) (t:=t) hg
     rw [←this,hO_ ops tmps hoj hd]
    .rename_i hb
     cases h
     cases hg
     have hb:¬d<512:=λhlt=>by
      have:Nat.blt d 512=true:=by simpa [Nat.blt_eq]using hlt
      rw [this]at hb;cases hb
     have hs:=ht.size
     have hN:=ht.le
     have hge:¬d<tmps.size:=Nat.not_lt.2 (Nat.le_trans (hs▸hN) (Nat.le_of_not_lt hb))
     have e2:tmps.getD d undef=undef:=by simp [Array.getD,hge]
     rw [hO_ ops tmps hoj hd,e2]
     rfl
   .rename_i hd
    cases h
    cases hg
    unfold yielded
    simp only [hoj,Option.bind_some,hd,Option.bind_none]
    rfl
  .rename_i hoj
   cases h
   cases hg
   unfold yielded
   simp only [hoj,Option.bind_none]
   rfl
omit [Gl]in
theorem fU_:∀(off:Nat) (cs:List AV),(match a3_ 1 (af_ off cs)with|some [c]=>some c|_=>none)=cE_ off cs
 |0,[]=>rfl
 |0,a::r=>rfl
 |n+1,[]=>rfl
 |n+1,a::r=>by simp only [af_,cE_];exact fU_ n r
def ry_ (r:Option (List AV)):Option AV:=match r with
 |some [c]=>some c
 |_=>none
omit [Gl]in
theorem rh_ (H:AHeap) (a:AV):tz_ H a=ry_ (aV_ H a 1):=by
 cases a<;>try rfl
 case vptr cs=>exact (fU_ 0 cs).symm
 case ptr id off=>
  show (match H.get id with|some (.cells cs)=>cE_ off cs|_=>none)=ry_ (match H.get id with|some (.cells cs)=>a3_ 1 (af_ off cs)|_=>none)
  cases H.get id with
  |none=>rfl
  |some k=>cases k with
   |cells cs=>exact (fU_ off cs).symm
   |map es c=>rfl
   |syl j=>rfl
   |fz cs=>rfl
   |mpl j=>rfl
theorem fZ_ (T:Tm):∀l:List Operand,(match im_ l with| .mk g=>g T)=iV_ (look T) l
 |[]=>rfl
 |x::r=>by
  have ih:=fZ_ T r
  unfold im_
  cases ha:aX_ x with
  |mk f=>
   cases hr:im_ r with
   |mk g=>
    rw [hr]at ih
    simp only at ih⊢
    rw [ih]
    simp only [iV_]
    congr 1
    unfold look;rw [ha]
theorem g5_ (T:Tm):∀l:List (Nat×Operand),(match g4_ l with| .mk g=>g T)=cL_ (look T) l
 |[]=>rfl
 |(i,x)::r=>by
  have ih:=g5_ T r
  unfold g4_
  cases ha:aX_ x with
  |mk f=>
   cases hr:g4_ r with
   |mk g=>
    rw [hr]at ih
    simp only at ih⊢
    rw [ih]
    simp only [cL_]
    congr 2
    unfold look;rw [ha]
end Go.Sx
