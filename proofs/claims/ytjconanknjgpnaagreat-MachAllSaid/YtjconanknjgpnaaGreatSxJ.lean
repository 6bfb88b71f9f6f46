/-
  The evaluator of code: slots, guards, one staged operation, operations in a row.
-/
import Derived.Test.YtjconanknjgpnaaGreatSxI
set_option linter.unusedVariables false
set_option linter.unusedSimpArgs false
namespace Go.Sx
variable [Gl]
open Q8 (AtC atc UpC upc)
omit [Gl]in
theorem ei_ (T:Tm) (t:Nat):tget T t=Q8.at8 (Nat.mod t 8) (Q8.at8 (Nat.mod (Nat.div t 8) 8) (Q8.at8 (Nat.div t 64) T)):=by unfold tget acs Q8.at8;cases atc (Q8 (Q8 AV)) (Nat.div t 64);cases atc (Q8 AV) (Nat.mod (Nat.div t 8) 8);cases atc AV (Nat.mod t 8);rfl
omit [Gl]in
theorem po_ (T:Tm) (t:Nat) (a:AV):dY_ T t a=Q8.up8 (Nat.div t 64) T λq=>Q8.up8 (Nat.mod (Nat.div t 8) 8) q λr=>Q8.up8 (Nat.mod t 8) r λ_=>a:=by unfold dY_ ups Q8.up8;cases upc (Q8 (Q8 AV)) (Nat.div t 64);cases upc (Q8 AV) (Nat.mod (Nat.div t 8) 8);cases upc AV (Nat.mod t 8);rfl
omit [Gl]in
theorem ao_ (T:Tm) {t:Nat} (h:t<512) (a:AV):tget (dY_ T t a) t=a:=by
 have h2:Nat.div t 64<8:=by show t/64<8;omega
 rw [ei_,po_,Q8.at_up_same _ h2,Q8.at_up_same _ (ca_ _ _),Q8.at_up_same _ (e5_ _)]
omit [Gl]in
theorem ap_ (T:Tm) {t d:Nat} (h:t<512) (h':d<512) (hne:d≠t) (a:AV):tget (dY_ T d a) t=tget T t:=by
 have h2:Nat.div t 64<8:=by show t/64<8;omega
 have h2':Nat.div d 64<8:=by show d/64<8;omega
 rw [ei_,po_,ei_];by_cases e2:Nat.div d 64=Nat.div t 64;rw [←e2,Q8.at_up_same _ h2'];by_cases e1:Nat.mod (Nat.div d 8) 8=Nat.mod (Nat.div t 8) 8;rw [←e1,Q8.at_up_same _ (ca_ _ _)];by_cases e0:Nat.mod d 8=Nat.mod t 8;exfalso;have e2:d/64=t/64:=e2;have e1:d/8%8=t/8%8:=e1;have e0:d%8=t%8:=e0;omega;rw [Q8.at_up_ne _ (e5_ _) (e5_ _) e0];rw [Q8.at_up_ne _ (ca_ _ _) (ca_ _ _) e1];rw [Q8.at_up_ne _ h2' h2 e2]
omit [Gl]in
theorem qg_ (t:Nat):tget tnil t=.tup []:=by rw [ei_];unfold tnil;rw [Q8.at_all,Q8.at_all,Q8.at_all]
def GlOk (E:Env):Prop:=(∀g:Nat,Con E (Gl.gl g) (.pointer (some ⟨g,0,none⟩)))/\Gl.gt E.sy
theorem GlOk.sub {E E':Env} (h:GlOk E) (hs:E.sub E'):GlOk E':=⟨λg=>(h.1 g).sub hs,by rw [hs.2.2.2.1];exact h.2⟩
structure TRel (E:Env) (N:Nat) (T:Tm) (tmps:Array Value):Prop where
 size:tmps.size=N
 le:N<=512
 con:∀t,t<512->Con E (tget T t) (tmps.getD t undef)
 gl:GlOk E
theorem TRel.mono {E E':Env} {N:Nat} {T:Tm} {tmps:Array Value} (h:TRel E N T tmps) (hl:E.le E'):TRel E' N T tmps:=⟨h.size,h.le,λt ht=>(h.con t ht).mono hl,h.gl.sub hl.1⟩
omit [Gl]in
theorem bd_ (E:Env):Con E (.tup []) undef:=by simp [Con,undef,ConL]
theorem TRel.look {E:Env} {N:Nat} {T:Tm} {a:Act} (h:TRel E N T a.tmps) (x:Operand):Con E (look T x) (a.eval x):=by
 unfold Sx.look aW_;cases x with
 |tmp t=>
  simp only;split;rename_i hb;have hb:t<512:=(by simpa [Nat.blt_eq]using hb);exact h.con t hb
  .rename_i hb;have hb:¬t<512:=λhlt=>by have:Nat.blt t 512=true:=(by simpa [Nat.blt_eq]using hlt);rw [this]at hb;cases hb
   have:a.tmps.getD t undef=undef:=(by have hs:=h.size;have hN:=h.le;have hge:¬t<a.tmps.size:=Nat.not_lt.2 (Nat.le_trans (hs▸hN) (Nat.le_of_not_lt hb));simp [Array.getD,hge]);show Con E (.tup []) (a.tmps.getD t undef);rw [this];exact bd_ E
 |const v=>exact cN_ E v
 |global g=>exact h.gl.1 g
 |func f=>show Con E (.fn f []) _;simp only [Con];exact ⟨[],rfl,ConL.nil E⟩
theorem TRel.put {E:Env} {N:Nat} {T:Tm} {a:Act} (h:TRel E N T a.tmps) {dst:Option Nat} {u:Tm->AV->Tm} (hu:b3_ N dst=.mk u) {x:AV} {v:Value} (hc:Con E x v):
  TRel E N (u T x) (a.put dst v).tmps:=by
 unfold b3_ at hu;split at hu;cases hu;exact h
 .rename_i d;split at hu
  .rename_i hb;cases hu;obtain ⟨h1,h2⟩:=aa_ hb;have h1:d<N:=(by simpa [Nat.blt_eq]using h1);have h2:d<512:=(by simpa [Nat.blt_eq]using h2);refine ⟨by simp [Act.put,h.size],h.le,λt ht=>?_,h.gl⟩;have hs:=h.size;by_cases e:d=t
   .subst e;have:tget ((ups d).f T x) d=x:=ao_ T h2 x;rw [this];have hv:(a.put (some d) v).tmps.getD d undef=v:=by simp [Act.put,Array.getD,hs,h1]
    rw [hv];exact hc
   have:tget ((ups d).f T x) t=tget T t:=ap_ T ht h2 e x;rw [this];have hv:(a.put (some d) v).tmps.getD t undef=a.tmps.getD t undef:=(by simp only [Act.put,Array.getD_eq_getD_getElem?,Array.getElem?_setIfInBounds];rw [if_neg e]);rw [hv];exact h.con t ht
  cases hu
omit [Gl]in
theorem iM_:∀(l:List Oper) (n:Nat),iL_ l n=l[n]?
 |[],n=>by simp [iL_]
 |a::r,0=>rfl
 |a::r,n+1=>by simp [iL_,iM_ r n]
def bOf (v:Value):Option Bool:=match v with
 | .bool b=>some b
 |_=>none
omit [Gl]in
theorem hE_ (ops:Array Oper) (tmps:Array Value) {j d:Nat} {oj:Oper} (hj:ops[j]? =some oj) (hd:oj.dst=some d):yielded ops tmps j=bOf (tmps.getD d undef):=by
 unfold yielded;simp only [hj,Option.bind_some,hd];rcases Nat.lt_or_ge d tmps.size with hlt|hge
 .have e1:tmps[d]? =some tmps[d]:=(by simp [hlt]);have e2:tmps.getD d undef=tmps[d]:=(by simp [Array.getD,hlt]);rw [e1,e2];generalize tmps[d]=v;cases v<;>rfl
 have e1:tmps[d]? =none:=(by simp [hge]);have e2:tmps.getD d undef=undef:=(by have:¬d<tmps.size:=(by omega);simp [Array.getD,this]);rw [e1,e2];rfl
omit [Gl]in
theorem pz_ {E:Env} {x:AV} {v:Value} (hc:Con E x v) {want t:Bool} (h:bp_ x want=some t):(bOf v==some want)=t:=by
 unfold bp_ at h;split at h
 .rename_i b;simp only [Con]at hc;subst hc;cases want<;>cases b<;>simp at h<;>subst h<;>rfl
 split at h;cases h;simp only [Con,ConL]at hc;obtain ⟨vs,rfl,rfl⟩:=hc;rfl;cases h;cases h
omit [Gl]in
theorem cR_ {ops:Array Oper} {o:Oper} (h:a4_ ops.toList o=.always) (tmps:Array Value):Region.wanted o (yielded ops tmps)=true:=by
 unfold a4_ at h;unfold Region.wanted;split at h;rename_i hg;rw [hg]
 .rename_i j want hg;repeat' (split at h)
  all_goals (cases h)
theorem eH_ {E:Env} {N:Nat} {T:Tm} {ops:Array Oper} {o:Oper} {tmps:Array Value} (ht:TRel E N T tmps) {g:Tm->Option Bool} (h:a4_ ops.toList o=.mk g) {t:Bool} (hg:g T=some t):
  Region.wanted o (yielded ops tmps)=t:=by
 unfold a4_ at h;unfold Region.wanted;split at h;cases h
 .rename_i j want hgu;rw [hgu];simp only;rw [iM_]at h;have hj:ops.toList[j]? =ops[j]? :=(by simp);rw [hj]at h;split at h
  .rename_i oj hoj;split at h
   .rename_i d hd;split at h;rename_i hb;cases h;have hb:d<512:=(by simpa [Nat.blt_eq]using hb);have hc:=ht.con d hb;have:=pz_ hc (want:=want) (t:=t) hg;rw [←this,hE_ ops tmps hoj hd]
    .rename_i hb;cases h;cases hg;have hb:¬d<512:=λhlt=>by have:Nat.blt d 512=true:=(by simpa [Nat.blt_eq]using hlt);rw [this]at hb;cases hb
     have hs:=ht.size;have hN:=ht.le;have hge:¬d<tmps.size:=Nat.not_lt.2 (Nat.le_trans (hs▸hN) (Nat.le_of_not_lt hb));have e2:tmps.getD d undef=undef:=(by simp [Array.getD,hge]);rw [hE_ ops tmps hoj hd,e2];rfl
   rename_i hd;cases h;cases hg;unfold yielded;simp only [hoj,Option.bind_some,hd,Option.bind_none];rfl
  rename_i hoj;cases h;cases hg;unfold yielded;simp only [hoj,Option.bind_none];rfl
omit [Gl]in
theorem fP_:∀(off:Nat) (cs:List AV),(match a2_ 1 (ak_ off cs)with|some [c]=>some c|_=>none)=cB_ off cs
 |0,[]=>rfl
 |0,a::r=>rfl
 |n+1,[]=>rfl
 |n+1,a::r=>by simp only [ak_,cB_];exact fP_ n r
def rt_ (r:Option (List AV)):Option AV:=match r with
 |some [c]=>some c
 |_=>none
omit [Gl]in
theorem ra_ (H:AHeap) (a:AV):tu_ H a=rt_ (aU_ H a 1):=by
 cases a<;>try rfl
 case vptr cs=>exact (fP_ 0 cs).symm
 case ptr id off=>
  show (match H.get id with|some (.cells cs)=>cB_ off cs|_=>none)=rt_ (match H.get id with|some (.cells cs)=>a2_ 1 (ak_ off cs)|_=>none);cases H.get id with
  |none=>rfl
  |some k=>cases k with
   |cells cs=>exact (fP_ off cs).symm
   |map es c=>rfl
   |syl j=>rfl
   |fz cs=>rfl
   |mpl j=>rfl
theorem fU_ (T:Tm):∀l:List Operand,(match ib_ l with| .mk g=>g T)=jD_ (look T) l
 |[]=>rfl
 |x::r=>by
  have ih:=fU_ T r;unfold ib_;cases ha:aW_ x with
  |mk f=>
   cases hr:ib_ r with
   |mk g=>
    rw [hr]at ih;simp only at ih⊢;rw [ih];simp only [jD_]
    congr 1
    unfold look;rw [ha]
theorem gY_ (T:Tm):∀l:List (Nat×Operand),(match gX_ l with| .mk g=>g T)=cJ_ (look T) l
 |[]=>rfl
 |(i,x)::r=>by
  have ih:=gY_ T r;unfold gX_;cases ha:aW_ x with
  |mk f=>
   cases hr:gX_ r with
   |mk g=>
    rw [hr]at ih;simp only at ih⊢;rw [ih];simp only [cJ_]
    congr 2
    unfold look;rw [ha]
end Go.Sx
namespace Go.Sx
variable [Gl]
def nq_ (P:Program) (T:Tm) (H:AHeap) (o:Oper) (r:ORes):Prop:=aA_ P (look T) H o=some r\/fd_ P (look T) H o=some r
omit [Gl]in
theorem dt_ {P:Program} {ρ:Operand->AV} {o:Oper} {a:AV} (h:dM_ P ρ o=some a) (H:AHeap):fd_ P ρ H o=some (.val a H):=by
 unfold dM_ at h;split at h
 .rename_i a' H' h';cases h;unfold fd_ at h'⊢;split at h'
  .split at h'<;>(first|(cases h';done)|skip)<;>(cases h';rfl)
  cases h'
 cases h
theorem iU_ {P:Program} {T:Tm} {H:AHeap} {o:Oper} {x:Option AV} {a:AV} (h:hW_ P T o x=some a) (hx:∀b,x=some b->aA_ P (look T) H o=some (.val b H)):nq_ P T H o (.val a H):=by unfold hW_ at h;split at h;cases h;exact .inl (hx _ rfl);exact .inr (dt_ h H)
theorem eJ_ (T:Tm) (x:Operand):(aW_ x).f T=look T x:=rfl
section
variable {P:Program} {T:Tm} {H:AHeap}
omit [Gl]in
theorem ch_ {f:Tm->Option AV} {r:ORes} (h:(OC.po f).run T H=some r):∃a,f T=some a/\r=.val a H:=by unfold OC.run at h;simp only at h;split at h;rename_i a ha;cases h;exact ⟨a,ha,rfl⟩;cases h
omit [Gl]in
theorem g2_ {f:Tm->AHeap->Option AV} {r:ORes} (h:(OC.ho f).run T H=some r):∃a,f T H=some a/\r=.val a H:=by unfold OC.run at h;simp only at h;split at h;rename_i a ha;cases h;exact ⟨a,ha,rfl⟩;cases h
omit [Gl]in
theorem dj_ {f:Tm->AHeap->Option (AV×AHeap)} {r:ORes} (h:(OC.hm f).run T H=some r):∃p,f T H=some p/\r=.val p.1 p.2:=by unfold OC.run at h;simp only at h;split at h;rename_i a H' ha;cases h;exact ⟨(a,H'),ha,rfl⟩;cases h
omit [Gl]in
theorem lq_ {f:Tm->Option (FuncId×List AV)} {r:ORes} (h:(OC.cl f).run T H=some r):∃p,f T=some p/\r=.call p.1 p.2:=by unfold OC.run at h;simp only at h;split at h;rename_i a H' ha;cases h;exact ⟨(a,H'),ha,rfl⟩;cases h
omit [Gl]in
theorem ub_ {f:Tm->Option (FuncId×List AV)} {r:ORes} (h:(OC.df f).run T H=some r):∃p,f T=some p/\r=.dfr p.1 p.2:=by unfold OC.run at h;simp only at h;split at h;rename_i a H' ha;cases h;exact ⟨(a,H'),ha,rfl⟩;cases h
omit [Gl]in
theorem bX_ {x:Option AV} {a:AV} (h:x=some a):oV H x=some (.val a H):=by subst h;rfl
omit [Gl]in
theorem bW_ {x:Option (AV×AHeap)} {p:AV×AHeap} (h:x=some p):oP x=some (.val p.1 p.2):=by subst h;rfl
omit [Gl]in
theorem sn_ {op:BinOp} {t:TypeId} {cx cy:Bool} {g:IntKind->Int->Int->AV} (hg:∀k a b,ma_ op k a b=some (g k a b)) (x y:AV):
  id_ g (λx y=>bC_ P op t cx cy x y) x y=bC_ P op t cx cy x y:=by
 unfold id_;split;split;split;rename_i hk;unfold bC_ cP_;simp only [hk,hg];rfl;rfl;rfl
omit [Gl]in
theorem sm_ (op:BinOp) (t:TypeId) (cx cy:Bool) (x y:AV):tK_ P op t cx cy x y=bC_ P op t cx cy x y:=by cases op<;>first|rfl|exact sn_ (λ_ _ _=>rfl) x y
theorem oe_ {o:Oper} {t:TypeId} {a:Operand} (ho:o.op=.load t a) {r:ORes} (h:(ac_ P o).run T H=some r):nq_ P T H o r:=by unfold ac_ at h;rw [ho]at h;simp only at h;left;unfold aA_;rw [ho];simp only;unfold bl_;split at h;cases h;rename_i d hd;rw [hd];simp only;split at h;rename_i hag;split at h;cases h;rename_i i hi;obtain ⟨v,hv,rfl⟩:=g2_ h;rw [hi];simp only;unfold rb_ at hv;rw [←eJ_];split at hv;rename_i l hl;cases hv;simp only [hag,hl];rfl;cases hv;rename_i hag;obtain ⟨v,hv,rfl⟩:=g2_ h;rw [ra_]at hv;rw [←eJ_];unfold rt_ at hv;split at hv;rename_i c hc;cases hv;simp only [hag,hc];rfl;cases hv
theorem od_ {o:Oper} {c:Call} (ho:o.op=.call c) {r:ORes} (h:(ac_ P o).run T H=some r):nq_ P T H o r:=by
 unfold ac_ at h;rw [ho]at h;simp only at h;unfold tl_ at h;have hargs:=fU_ T c.args.toList;split at h
 .rename_i f hf;split at h;rename_i g hgl;rw [hgl]at hargs;simp only at hargs;have gen:∀p,fnA P (look T f) (g T)=some p->aA_ P (look T) H o=some (.call p.1 p.2):=by intro p hp;unfold aA_ d5_;rw [ho];simp only [hf];unfold fnA at hp;split at hp;rename_i g' cap hv;split at hp;rename_i hcall;cases hp;rw [hv];simp only [hcall,hargs];cases hp;cases hp
  cases f with
  |func id=>simp only at h;split at h;rename_i hcall;obtain ⟨p,hp,rfl⟩:=lq_ h;cases hp;left;refine gen (id,g T) ?_;have:look T (.func id)=.fn id []:=rfl;rw [this];unfold fnA;simp only [hcall,kI_,List.append_nil];obtain ⟨a,ha,rfl⟩:=ch_ h;exact .inr (dt_ ha H)
  |tmp t=>obtain ⟨p,hp,rfl⟩:=lq_ h;exact .inl (gen p hp)
  |const v=>obtain ⟨p,hp,rfl⟩:=lq_ h;exact .inl (gen p hp)
  |global v=>obtain ⟨p,hp,rfl⟩:=lq_ h;exact .inl (gen p hp)
 rename_i b hb;split at h;split at h;rename_i x t h1 h2;obtain ⟨a,ha,rfl⟩:=g2_ h;left;unfold aA_ d5_;rw [ho];simp only [hb,h1,h2];exact bX_ ha;cases h;split at h;rename_i s x t tx h1 h2;obtain ⟨p,hp,rfl⟩:=dj_ h;left;unfold aA_ d5_;rw [ho];simp only [hb,h1,h2];exact bW_ hp;cases h;split at h;rename_i d s t tx h1 h2;obtain ⟨p,hp,rfl⟩:=dj_ h;left;unfold aA_ d5_;rw [ho];simp only [hb,h1,h2];exact bW_ hp;cases h;split at h;rename_i h1;cases h;left;unfold aA_ d5_;rw [ho];simp only [hb,h1];cases h;obtain ⟨a,ha,rfl⟩:=ch_ h;exact .inr (dt_ ha H);cases h
theorem m5_ {o:Oper} {t:TypeId} {x:Operand} {lo hi mx:Option Operand} (ho:o.op=.slice t x lo hi mx) {r:ORes} (h:(ac_ P o).run T H=some r):nq_ P T H o r:=by
 unfold ac_ at h;rw [ho]at h;simp only at h;left;unfold aA_;rw [ho];simp only;cases mx with
 |some _=>cases h
 |none=>cases lo<;>cases hi<;>simp only at h<;>(obtain ⟨a,ha,rfl⟩:=g2_ h;exact bX_ ha)
theorem hH_ {o:Oper} {s:TypeId} {x:Operand} {f:Nat} (ho:o.op=.fieldAddr s x f) {r:ORes} (h:(ac_ P o).run T H=some r):nq_ P T H o r:=by unfold ac_ at h;rw [ho]at h;simp only at h;left;unfold aA_ bV_;rw [ho];simp only;split at h;rename_i fields hd;rw [hd];simp only;split at h;rename_i fl hfl;rw [hfl];simp only;split at h;rename_i i hi;rw [hi];simp only;split at h;cases h;rename_i n hn;rw [hn];simp only;obtain ⟨a,ha,rfl⟩:=ch_ h;rw [eJ_]at ha;unfold qr_ at ha;split at ha;rename_i id o' hv;cases ha;rw [hv];rfl;rename_i cs hv;split at ha;rename_i hb;cases ha;rw [hv];simp only [hb];rfl;cases ha;cases ha;cases h;cases h;cases h
theorem hI_ {o:Oper} {t:TypeId} {x ix:Operand} (ho:o.op=.indexAddr t x ix) {r:ORes} (h:(ac_ P o).run T H=some r):nq_ P T H o r:=by unfold ac_ at h;rw [ho]at h;simp only at h;left;unfold aA_;rw [ho];simp only;split at h;rename_i e hd;split at h;rename_i ti hti;obtain ⟨a,ha,rfl⟩:=ch_ h;rw [eJ_,eJ_]at ha;refine bX_ ?_;unfold aS_;unfold tt_ at ha;split at ha;rename_i k i hi;rw [hi];simp only [hd,hti];split at ha;rename_i hv;rw [hv];simp only;split at ha;rename_i n hn;cases ha;rw [hn];cases ha;rename_i hv;rw [hv];simp only;split at ha;rename_i n hn;cases ha;rw [hn];cases ha;cases ha;cases ha;cases h;obtain ⟨a,ha,rfl⟩:=ch_ h;exact bX_ ha
theorem rK_ {o:Oper} {r:ORes} (h:(ac_ P o).run T H=some r):nq_ P T H o r:=by
 cases ho:o.op with
 |load t a=>exact oe_ ho h
 |call c=>exact od_ ho h
 |slice t x lo hi mx=>exact m5_ ho h
 |fieldAddr s x f=>exact hH_ ho h
 |indexAddr t x ix=>exact hI_ ho h
 |move x=>unfold ac_ at h;rw [ho]at h;cases h;left;unfold aA_;rw [ho];rfl
 |assign x=>unfold ac_ at h;rw [ho]at h;cases h;left;unfold aA_;rw [ho];rfl
 |pick c a b=>
  unfold ac_ at h;rw [ho]at h;obtain ⟨v,hv,rfl⟩:=ch_ h;left;unfold aA_;rw [ho];simp only;have hv:pa_ (look T c) (look T a) (look T b)=some v:=hv;unfold pa_ at hv;split at hv
  .rename_i t ht;rw [ht];split at hv<;>(cases hv;rfl)
  cases hv
 |alloc t=>unfold ac_ at h;rw [ho]at h;obtain ⟨p,hp,rfl⟩:=dj_ h;left;unfold aA_;rw [ho];exact bW_ hp
 |box _ x=>unfold ac_ at h;rw [ho]at h;obtain ⟨p,hp,rfl⟩:=dj_ h;left;unfold aA_;rw [ho];exact bW_ hp
 |build t parts=>unfold ac_ at h;rw [ho]at h;obtain ⟨v,hv,rfl⟩:=ch_ h;left;unfold aA_;rw [ho];simp only;have hv:f5_ P t (cJ_ (look T) parts.toList)=some v:=(by rw [←gY_ T parts.toList];exact hv);exact bX_ hv
 |buildSlice t n parts=>unfold ac_ at h;rw [ho]at h;obtain ⟨v,hv,rfl⟩:=dj_ h;left;unfold aA_;rw [ho];simp only;have hv:bh_ P H t n (cJ_ (look T) parts.toList)=some v:=(by rw [←gY_ T parts.toList];exact hv);exact bW_ hv
 |store t a x=>unfold ac_ at h;rw [ho]at h;obtain ⟨p,hp,rfl⟩:=dj_ h;left;unfold aA_;rw [ho];exact bW_ hp
 |nilCheck x=>unfold ac_ at h;rw [ho]at h;obtain ⟨v,hv,rfl⟩:=ch_ h;left;unfold aA_;rw [ho];simp only;have hv:t2_ (look T x)=some v:=hv;unfold t2_ at hv;split at hv;rename_i ht;rw [ht];cases hv;rfl;rename_i ht;rw [ht];cases hv;rfl;cases hv
 |binOp op t x y yt=>unfold ac_ at h;rw [ho]at h;obtain ⟨v,hv,rfl⟩:=ch_ h;left;unfold aA_;rw [ho];simp only;have hv:tK_ P op t (bi_ x) (bi_ y) (look T x) (look T y)=some v:=hv;rw [sm_]at hv;exact bX_ hv
 |unOp op t x=>unfold ac_ at h;rw [ho]at h;obtain ⟨v,hv,rfl⟩:=ch_ h;refine iU_ hv λb hb=>?_;unfold aA_;rw [ho];exact bX_ hb
 |convert s d x=>unfold ac_ at h;rw [ho]at h;simp only at h;split at h;obtain ⟨v,hv,rfl⟩:=dj_ h;left;unfold aA_;rw [ho];exact bW_ hv;obtain ⟨v,hv,rfl⟩:=g2_ h;split at hv;rename_i a ha;cases hv;left;unfold aA_;rw [ho];refine bW_ (p:=(v,H)) ?_;unfold e9_;have ha:b2_ P H s d (look T x)=some v:=ha;rw [ha];exact .inr (dt_ hv H)
 |index t x i=>unfold ac_ at h;rw [ho]at h;obtain ⟨v,hv,rfl⟩:=ch_ h;refine iU_ hv λb hb=>?_;unfold aA_;rw [ho];exact bX_ hb
 |makeInterface t x=>unfold ac_ at h;rw [ho]at h;simp only at h;split at h;rename_i hc;cases h;left;unfold aA_;rw [ho];simp only [hc];rfl;cases h
 |makeFunc fn first captured=>unfold ac_ at h;rw [ho]at h;simp only at h;split at h;split at h;rename_i f _ hf;cases h;left;unfold aA_;rw [ho];simp only [hf];rw [←fU_ T captured.toList];cases h;cases h
 |makeMap t r'=>
  unfold ac_ at h;rw [ho]at h;cases r' with
  |none=>obtain ⟨p,hp,rfl⟩:=dj_ h;left;unfold aA_;rw [ho];exact bW_ hp
  |some _=>cases h
 |makeSlice t l c=>unfold ac_ at h;rw [ho]at h;obtain ⟨p,hp,rfl⟩:=dj_ h;left;unfold aA_;rw [ho];exact bW_ hp
 |field s x f=>unfold ac_ at h;rw [ho]at h;obtain ⟨p,hp,rfl⟩:=ch_ h;left;unfold aA_;rw [ho];exact bX_ hp
 |lookup t x ix ok=>unfold ac_ at h;rw [ho]at h;obtain ⟨p,hp,rfl⟩:=g2_ h;left;unfold aA_;rw [ho];exact bX_ hp
 |mapUpdate t m k x=>unfold ac_ at h;rw [ho]at h;obtain ⟨p,hp,rfl⟩:=dj_ h;left;unfold aA_;rw [ho];exact bW_ hp
 |insert t m k x=>unfold ac_ at h;rw [ho]at h;obtain ⟨p,hp,rfl⟩:=dj_ h;left;unfold aA_;rw [ho];exact bW_ hp
 |typeAssert x xt asserted ok=>unfold ac_ at h;rw [ho]at h;obtain ⟨p,hp,rfl⟩:=ch_ h;left;unfold aA_;rw [ho];exact bX_ hp
 |extract t ix=>unfold ac_ at h;rw [ho]at h;obtain ⟨p,hp,rfl⟩:=ch_ h;left;unfold aA_;rw [ho];exact bX_ hp
 |defer c=>unfold ac_ at h;rw [ho]at h;simp only at h;split at h;rename_i x hx;obtain ⟨p,hp,rfl⟩:=ub_ h;left;unfold aA_ kZ_;rw [ho];simp only [hx];have hp:dfA P (look T x) (jD_ (look T) c.args.toList)=some p:=(by rw [←fU_ T c.args.toList];exact hp);unfold dfA at hp;split at hp;rename_i g' cap hv;rw [hv];split at hp;split at hp;rename_i hcall;cases hp;simp only [hcall];cases hp;cases hp;cases hp;cases h
 |panic x=>unfold ac_ at h;rw [ho]at h;left;unfold aA_;rw [ho];simp only;unfold OC.run at h;simp only at h;split at h;rename_i v hv;cases h;have hv:t5_ (look T x)=some v:=hv;unfold t5_ at hv;split at hv;rename_i t a ht;cases hv;rw [ht];cases hv;cases h
 |_=>unfold ac_ at h;rw [ho]at h;cases h
end
end Go.Sx
