/-
  The evaluator of code: slots, guards, one staged operation, operations in a row.
-/
import Derived.Test.YtmgenobllanmjaaGreatDoorSxI
set_option linter.unusedVariables false
set_option linter.unusedSimpArgs false
namespace Go.Sx
variable [Gl]
open Q8 (AtC atc UpC upc)
omit [Gl]in
theorem fB_ (T:Tm) (t:Nat):tget T t=Q8.at8 (Nat.mod t 8) (Q8.at8 (Nat.mod (Nat.div t 8) 8) (Q8.at8 (Nat.div t 64) T)):=by
 grind [tget,acs,Q8.at8]
omit [Gl]in
theorem pQ_ (T:Tm) (t:Nat) (a:AV):dL_ T t a=Q8.up8 (Nat.div t 64) T λq=>Q8.up8 (Nat.mod (Nat.div t 8) 8) q λr=>Q8.up8 (Nat.mod t 8) r λ_=>a:=by simp_all [dL_,ups,Q8.up8]
omit [Gl]in
theorem ar_ (T:Tm) {t:Nat} (h:t<512) (a:AV):tget (dL_ T t a) t=a:=by
 have h2:Nat.div t 64<8:=by show t/64<8;omega
 grind [fB_,pQ_,Q8.at_up_same,gl_]
omit [Gl]in
theorem ap_ (T:Tm) {t d:Nat} (h:t<512) (h':d<512) (hne:d≠t) (a:AV):tget (dL_ T d a) t=tget T t:=by
 have h2:Nat.div t 64<8:=by show t/64<8;omega
 have h2':Nat.div d 64<8:=by show d/64<8;omega
 rw [fB_,pQ_,fB_];by_cases e2:Nat.div d 64=Nat.div t 64
 .rw [←e2,Q8.at_up_same _ h2'];by_cases e1:Nat.mod (Nat.div d 8) 8=Nat.mod (Nat.div t 8) 8
  .rw [←e1,Q8.at_up_same _ (cQ_ _ _)];by_cases e0:Nat.mod d 8=Nat.mod t 8;have e2:d/64=t/64:=e2;have e1:d/8%8=t/8%8:=e1;have e0:d%8=t%8:=e0;omega
   grind [Q8.at_up_ne,gl_]
  grind [Q8.at_up_ne,cQ_]
 grind [Q8.at_up_ne]
omit [Gl]in
theorem qN_ (t:Nat):tget tnil t=.tup []:=by
 grind [fB_,tnil,Q8.at_all]
def GlOk (E:Env):Prop:=(∀g:Nat,Con E (Gl.gl g) (.pointer (some ⟨g,0,none⟩)))/\Gl.gt E.sy
theorem GlOk.sub {E E':Env} (h:GlOk E) (hs:E.sub E'):GlOk E':=⟨λg=>(h.1 g).sub hs,by rw [hs.2.2.2.1];exact h.2⟩
structure TRel (E:Env) (N:Nat) (T:Tm) (tmps:Array Value):Prop where
 size:tmps.size=N
 le:N<=512
 con:∀t,t<512->Con E (tget T t) (tmps.getD t undef)
 gl:GlOk E
theorem TRel.mono {E E':Env} {N:Nat} {T:Tm} {tmps:Array Value} (h:TRel E N T tmps) (hl:E.le E'):TRel E' N T tmps:=⟨h.size,h.le,λt ht=>(h.con t ht).mono hl,h.gl.sub hl.1⟩
omit [Gl]in
theorem a6_ (E:Env):Con E (.tup []) undef:=by simp [Con,undef,ConL]
theorem TRel.look {E:Env} {N:Nat} {T:Tm} {a:Act} (h:TRel E N T a.tmps) (x:Operand):Con E (look T x) (a.eval x):=by
 unfold Sx.look aW_;cases x with
 |tmp t=>
  simp only;split;rename_i hb;have hb:t<512:=(by simp_all);exact h.con t hb
  .rename_i hb;have hb:¬t<512:=λhlt=>by
    grind [Nat.blt_eq]
   have:a.tmps.getD t undef=undef:=by
    have hs:=h.size;have hN:=h.le
    grind
   show Con E (.tup []) (a.tmps.getD t undef)
   grind [a6_]
 |const v=>exact cX_ E v
 |global g=>exact h.gl.1 g
 |func f=>exact ⟨[],rfl,ConL.nil E⟩
theorem TRel.put {E:Env} {N:Nat} {T:Tm} {a:Act} (h:TRel E N T a.tmps) {dst:Option Nat} {u:Tm->AV->Tm} (hu:bT_ N dst=.mk u) {x:AV} {v:Value} (hc:Con E x v):
  TRel E N (u T x) (a.put dst v).tmps:=by
 unfold bT_ at hu;split at hu;cases hu;exact h
 .rename_i d;split at hu
  .rename_i hb;cases hu;obtain ⟨h1,h2⟩:=aa_ hb;have h1:d<N:=(by simp_all);have h2:d<512:=(by simp_all);refine ⟨by simp [Act.put,h.size],h.le,λt ht=>?_,h.gl⟩;have hs:=h.size;by_cases e:d=t;have:tget ((ups d).f T x) d=x:=ar_ T h2 x;simp_all [Act.put]
   have:tget ((ups d).f T x) t=tget T t:=ap_ T ht h2 e x;rw [this];have hv:(a.put (some d) v).tmps.getD t undef=a.tmps.getD t undef:=(by simp_all [Act.put]);rw [hv];exact h.con t ht
  cases hu
omit [Gl]in
theorem je_:∀(l:List Oper) (n:Nat),jd_ l n=l[n]?
 |[],n=>by simp [jd_]
 |a::r,0=>rfl
 |a::r,n+1=>by simp [jd_,je_ r n]
def d_ (v:Value):Option Bool:=match v with
 | .bool b=>some b
 |_=>none
omit [Gl]in
theorem hY_ (ops:Array Oper) (tmps:Array Value) {j d:Nat} {oj:Oper} (hj:ops[j]? =some oj) (hd:oj.dst=some d):yielded ops tmps j=d_ (tmps.getD d undef):=by
 unfold yielded;simp only [hj,Option.bind_some,hd];rcases Nat.lt_or_ge d tmps.size with hlt|hge
 .have e1:tmps[d]? =some tmps[d]:=(by simp [hlt]);have e2:tmps.getD d undef=tmps[d]:=(by simp_all);rw [e1,e2];generalize tmps[d]=v;cases v<;>rfl
 .have e1:tmps[d]? =none:=(by simp [hge]);have e2:tmps.getD d undef=undef:=by
   grind
  rw [e1,e2];rfl
omit [Gl]in
theorem p3_ {E:Env} {x:AV} {v:Value} (hc:Con E x v) {want t:Bool} (h:br_ x want=some t):(d_ v==some want)=t:=by
 unfold br_ at h;split at h
 .rename_i b;subst hc;cases want<;>cases b<;>simp at h<;>subst h<;>rfl
 split at h;cases h;obtain ⟨vs,rfl,rfl⟩:=hc;rfl;cases h;cases h
omit [Gl]in
theorem cZ_ {ops:Array Oper} {o:Oper} (h:aZ_ ops.toList o=.always) (tmps:Array Value):Region.wanted o (yielded ops tmps)=true:=by
 grind [aZ_,Region.wanted]
theorem eO_ {E:Env} {N:Nat} {T:Tm} {ops:Array Oper} {o:Oper} {tmps:Array Value} (ht:TRel E N T tmps) {g:Tm->Option Bool} (h:aZ_ ops.toList o=.mk g) {t:Bool} (hg:g T=some t):
  Region.wanted o (yielded ops tmps)=t:=by
 unfold aZ_ at h;unfold Region.wanted;split at h;cases h
 .rename_i j want hgu;rw [hgu];simp only;rw [je_]at h;have hj:ops.toList[j]? =ops[j]? :=(by simp);rw [hj]at h;split at h
  .rename_i oj hoj;split at h
   .rename_i d hd;split at h
    .rename_i hb;cases h;have hb:d<512:=(by simp_all);have hc:=ht.con d hb;have:=p3_ hc (want:=want) (t:=t) hg
     grind [hY_]
    .rename_i hb;cases h;cases hg;have hb:¬d<512:=λhlt=>by
      grind [Nat.blt_eq]
     have hs:=ht.size;have hN:=ht.le;have hge:¬d<tmps.size:=Nat.not_lt.2 (Nat.le_trans (hs▸hN) (Nat.le_of_not_lt hb));have e2:tmps.getD d undef=undef:=(by grind);rw [hY_ ops tmps hoj hd,e2];rfl
   grind [yielded]
  grind [yielded]
omit [Gl]in
theorem f7_:∀(off:Nat) (cs:List AV),(match aX_ 1 (aj_ off cs)with|some [c]=>some c|_=>none)=cB_ off cs
 |0,[]=>rfl
 |0,a::r=>rfl
 |n+1,[]=>rfl
 |n+1,a::r=>by simp only [aj_,cB_];exact f7_ n r
def pA_ (r:Option (List AV)):Option AV:=match r with
 |some [c]=>some c
 |_=>none
omit [Gl]in
theorem rL_ (H:AHeap) (a:AV):uh_ H a=pA_ (aV_ H a 1):=by
 cases a<;>try rfl
 case vptr cs=>exact (f7_ 0 cs).symm
 case ptr id off=>
  show (match H.get id with|some (.cells cs)=>cB_ off cs|_=>none)=pA_ (match H.get id with|some (.cells cs)=>aX_ 1 (aj_ off cs)|_=>none);cases H.get id<;>grind [id,cB_,pA_,aX_,aj_,f7_]
theorem ge_ (T:Tm):∀l:List Operand,(match iC_ l with| .mk g=>g T)=ka_ (look T) l
 |[]=>rfl
 |x::r=>by
  have ih:=ge_ T r;unfold iC_;cases ha:aW_ x with
  |mk f=>
   cases hr:iC_ r with
   |mk g=>
    rw [hr]at ih;simp only at ih⊢;rw [ih];simp only [ka_]
    congr 1
    unfold look;rw [ha]
theorem hi_ (T:Tm):∀l:List (Nat×Operand),(match hh_ l with| .mk g=>g T)=dJ_ (look T) l
 |[]=>rfl
 |(i,x)::r=>by
  have ih:=hi_ T r;unfold hh_;cases ha:aW_ x with
  |mk f=>
   cases hr:hh_ r with
   |mk g=>
    rw [hr]at ih;simp only at ih⊢;rw [ih];simp only [dJ_]
    congr 2
    unfold look;rw [ha]
end Go.Sx
namespace Go.Sx
variable [Gl]
def nN_ (P:Program) (T:Tm) (H:AHeap) (o:Oper) (r:ORes):Prop:=aB_ P (look T) H o=some r\/fn_ P (look T) H o=some r
omit [Gl]in
theorem dz_ {P:Program} {ρ:Operand->AV} {o:Oper} {a:AV} (h:dS_ P ρ o=some a) (H:AHeap):fn_ P ρ H o=some (.val a H):=by
 grind [dS_,fn_]
theorem jn_ {P:Program} {T:Tm} {H:AHeap} {o:Oper} {x:Option AV} {a:AV} (h:ij_ P T o x=some a) (hx:∀b,x=some b->aB_ P (look T) H o=some (.val b H)):nN_ P T H o (.val a H):=by unfold ij_ at h;split at h;cases h;exact .inl (hx _ rfl);exact .inr (dz_ h H)
theorem eR_ (T:Tm) (x:Operand):(aW_ x).f T=look T x:=rfl
section
variable {P:Program} {T:Tm} {H:AHeap}
omit [Gl]in
theorem co_ {f:Tm->Option AV} {r:ORes} (h:(OC.po f).run T H=some r):∃a,f T=some a/\r=.val a H:=by
 unfold OC.run at h
 grind
omit [Gl]in
theorem hm_ {f:Tm->AHeap->Option AV} {r:ORes} (h:(OC.ho f).run T H=some r):∃a,f T H=some a/\r=.val a H:=by
 unfold OC.run at h
 grind
omit [Gl]in
theorem dj_ {f:Tm->AHeap->Option (AV×AHeap)} {r:ORes} (h:(OC.hm f).run T H=some r):∃p,f T H=some p/\r=.val p.1 p.2:=by
 unfold OC.run at h
 grind
omit [Gl]in
theorem lR_ {f:Tm->Option (FuncId×List AV)} {r:ORes} (h:(OC.cl f).run T H=some r):∃p,f T=some p/\r=.call p.1 p.2:=by
 unfold OC.run at h
 grind
omit [Gl]in
theorem u0_ {f:Tm->Option (FuncId×List AV)} {r:ORes} (h:(OC.df f).run T H=some r):∃p,f T=some p/\r=.dfr p.1 p.2:=by
 unfold OC.run at h
 grind
omit [Gl]in
theorem b1_ {x:Option AV} {a:AV} (h:x=some a):oV H x=some (.val a H):=by subst h;rfl
omit [Gl]in
theorem b0_ {x:Option (AV×AHeap)} {p:AV×AHeap} (h:x=some p):oP x=some (.val p.1 p.2):=by subst h;rfl
omit [Gl]in
theorem s2_ {op:BinOp} {t:TypeId} {cx cy:Bool} {g:IntKind->Int->Int->AV} (hg:∀k a b,dy_ op k a b=some (g k a b)) (x y:AV):
  iD_ g (λx y=>bI_ P op t cx cy x y) x y=bI_ P op t cx cy x y:=by
 unfold iD_
 grind [bI_,cg_]
omit [Gl]in
theorem s1_ (op:BinOp) (t:TypeId) (cx cy:Bool) (x y:AV):vD_ P op t cx cy x y=bI_ P op t cx cy x y:=by cases op<;>first|rfl|exact s2_ (λ_ _ _=>rfl) x y
theorem oB_ {o:Oper} {t:TypeId} {a:Operand} (ho:o.op=.load t a) {r:ORes} (h:(ac_ P o).run T H=some r):nN_ P T H o r:=by unfold ac_ at h;rw [ho]at h;simp only at h;left;unfold aB_;rw [ho];simp only;unfold bn_;split at h;cases h;rename_i d hd;rw [hd];split at h;rename_i hag;split at h;cases h;rename_i i hi;obtain ⟨v,hv,rfl⟩:=hm_ h;rw [hi];unfold rM_ at hv;rw [←eR_];split at hv;rename_i l hl;cases hv;simp only [hag,hl];rfl;cases hv;rename_i hag;obtain ⟨v,hv,rfl⟩:=hm_ h;rw [rL_]at hv;rw [←eR_];unfold pA_ at hv;split at hv;rename_i c hc;cases hv;simp only [hag,hc];rfl;cases hv
theorem oA_ {o:Oper} {c:Call} (ho:o.op=.call c) {r:ORes} (h:(ac_ P o).run T H=some r):nN_ P T H o r:=by
 unfold ac_ at h;rw [ho]at h;simp only at h;unfold t7_ at h;have hargs:=ge_ T c.args.toList;split at h
 .rename_i f hf;split at h;rename_i g hgl;rw [hgl]at hargs;have gen:∀p,fnA P (look T f) (g T)=some p->aB_ P (look T) H o=some (.call p.1 p.2):=by
   grind [aB_,eb_,fnA]
  cases f with
  |func id=>
   simp only at h;split at h
   .obtain ⟨p,hp,rfl⟩:=lR_ h;cases hp;left;refine gen (id,g T) ?_;have:look T (.func id)=.fn id []:=rfl
    grind [fnA,ld_]
   obtain ⟨a,ha,rfl⟩:=co_ h;exact .inr (dz_ ha H)
  |tmp t=>obtain ⟨p,hp,rfl⟩:=lR_ h;exact .inl (gen p hp)
  |const v=>obtain ⟨p,hp,rfl⟩:=lR_ h;exact .inl (gen p hp)
  |global v=>obtain ⟨p,hp,rfl⟩:=lR_ h;exact .inl (gen p hp)
 .rename_i b hb;split at h;split at h;rename_i x t h1 h2;obtain ⟨a,ha,rfl⟩:=hm_ h;left;unfold aB_ eb_;rw [ho];simp only [hb,h1,h2];exact b1_ ha;cases h;split at h;rename_i s x t tx h1 h2;obtain ⟨p,hp,rfl⟩:=dj_ h;left;unfold aB_ eb_;rw [ho];simp only [hb,h1,h2];exact b0_ hp;cases h;split at h;rename_i d s t tx h1 h2;obtain ⟨p,hp,rfl⟩:=dj_ h;left;unfold aB_ eb_;rw [ho];simp only [hb,h1,h2];exact b0_ hp;cases h
  .split at h
   .cases h;left
    grind [aB_,eb_]
   cases h
  obtain ⟨a,ha,rfl⟩:=co_ h;exact .inr (dz_ ha H)
 cases h
theorem ns_ {o:Oper} {t:TypeId} {x:Operand} {lo hi mx:Option Operand} (ho:o.op=.slice t x lo hi mx) {r:ORes} (h:(ac_ P o).run T H=some r):nN_ P T H o r:=by
 unfold ac_ at h;rw [ho]at h;left;unfold aB_;rw [ho];cases mx with
 |some _=>cases h
 |none=>cases lo<;>cases hi<;>simp only at h<;>(obtain ⟨a,ha,rfl⟩:=hm_ h;exact b1_ ha)
theorem h2_ {o:Oper} {s:TypeId} {x:Operand} {f:Nat} (ho:o.op=.fieldAddr s x f) {r:ORes} (h:(ac_ P o).run T H=some r):nN_ P T H o r:=by unfold ac_ at h;rw [ho]at h;simp only at h;left;unfold aB_ bY_;rw [ho];simp only;split at h;rename_i fields hd;rw [hd];simp only;split at h;rename_i fl hfl;rw [hfl];simp only;split at h;rename_i i hi;rw [hi];simp only;split at h;cases h;rename_i n hn;rw [hn];obtain ⟨a,ha,rfl⟩:=co_ h;rw [eR_]at ha;unfold q0_ at ha;split at ha;rename_i id o' hv;cases ha;rw [hv];rfl;rename_i cs hv;split at ha;rename_i hb;cases ha;rw [hv];simp only [hb];rfl;cases ha;cases ha;cases h;cases h;cases h
theorem h3_ {o:Oper} {t:TypeId} {x ix:Operand} (ho:o.op=.indexAddr t x ix) {r:ORes} (h:(ac_ P o).run T H=some r):nN_ P T H o r:=by
 unfold ac_ at h;rw [ho]at h;simp only at h;left;unfold aB_;rw [ho];split at h
 .rename_i e hd;split at h
  .obtain ⟨a,ha,rfl⟩:=co_ h;rw [eR_,eR_]at ha;refine b1_ ?_;unfold aS_;unfold ug_ at ha
   grind
  cases h
 obtain ⟨a,ha,rfl⟩:=co_ h;exact b1_ ha
theorem sn_ {o:Oper} {r:ORes} (h:(ac_ P o).run T H=some r):nN_ P T H o r:=by
 cases ho:o.op with
 |load t a=>exact oB_ ho h
 |call c=>exact oA_ ho h
 |slice t x lo hi mx=>exact ns_ ho h
 |fieldAddr s x f=>exact h2_ ho h
 |indexAddr t x ix=>exact h3_ ho h
 |move x=>unfold ac_ at h;rw [ho]at h;cases h;left;unfold aB_;rw [ho];rfl
 |assign x=>unfold ac_ at h;rw [ho]at h;cases h;left;unfold aB_;rw [ho];rfl
 |pick c a b=>
  unfold ac_ at h;rw [ho]at h;obtain ⟨v,hv,rfl⟩:=co_ h;left;unfold aB_;rw [ho];have hv:m9_ (look T c) (look T a) (look T b)=some v:=hv;unfold m9_ at hv
  grind
 |alloc t=>unfold ac_ at h;rw [ho]at h;obtain ⟨p,hp,rfl⟩:=dj_ h;left;grind [aB_,b0_]
 |box _ x=>unfold ac_ at h;rw [ho]at h;obtain ⟨p,hp,rfl⟩:=dj_ h;left;unfold aB_;rw [ho];exact b0_ hp
 |build t parts=>unfold ac_ at h;rw [ho]at h;obtain ⟨v,hv,rfl⟩:=co_ h;left;grind [aB_,hi_,b1_]
 |buildSlice t n parts=>unfold ac_ at h;rw [ho]at h;obtain ⟨v,hv,rfl⟩:=dj_ h;left;grind [aB_,hi_,b0_]
 |store t a x=>unfold ac_ at h;rw [ho]at h;obtain ⟨p,hp,rfl⟩:=dj_ h;left;unfold aB_;rw [ho];exact b0_ hp
 |nilCheck x=>
  unfold ac_ at h;rw [ho]at h;obtain ⟨v,hv,rfl⟩:=co_ h;left;unfold aB_;have hv:uT_ (look T x)=some v:=hv
  grind [uT_]
 |binOp op t x y yt=>unfold ac_ at h;rw [ho]at h;obtain ⟨v,hv,rfl⟩:=co_ h;left;grind [aB_,look,s1_,b1_]
 |unOp op t x=>unfold ac_ at h;rw [ho]at h;obtain ⟨v,hv,rfl⟩:=co_ h;refine jn_ hv λb hb=>?_;unfold aB_;rw [ho];exact b1_ hb
 |convert s d x=>
  unfold ac_ at h;rw [ho]at h;simp only at h;split at h;obtain ⟨v,hv,rfl⟩:=dj_ h;left;unfold aB_;rw [ho];exact b0_ hv
  .obtain ⟨v,hv,rfl⟩:=hm_ h;split at hv;left;simp_all [aB_,b0_,fk_,look]
   exact .inr (dz_ hv H)
 |index t x i=>unfold ac_ at h;rw [ho]at h;obtain ⟨v,hv,rfl⟩:=co_ h;refine jn_ hv λb hb=>?_;unfold aB_;rw [ho];exact b1_ hb
 |makeInterface t x=>unfold ac_ at h;rw [ho]at h;simp only at h;split at h;rename_i hc;cases h;left;unfold aB_;rw [ho];simp only [hc];rfl;cases h
 |makeFunc fn first captured=>
  unfold ac_ at h;rw [ho]at h;simp only at h;split at h
  .split at h
   .cases h;left;grind [aB_,ge_]
   cases h
  cases h
 |makeMap t r'=>
  unfold ac_ at h;rw [ho]at h;cases r' with
  |none=>obtain ⟨p,hp,rfl⟩:=dj_ h;left;grind [aB_,b0_]
  |some _=>cases h
 |makeSlice t l c=>unfold ac_ at h;rw [ho]at h;obtain ⟨p,hp,rfl⟩:=dj_ h;left;unfold aB_;rw [ho];exact b0_ hp
 |field s x f=>unfold ac_ at h;rw [ho]at h;obtain ⟨p,hp,rfl⟩:=co_ h;left;unfold aB_;rw [ho];exact b1_ hp
 |lookup t x ix ok=>unfold ac_ at h;rw [ho]at h;obtain ⟨p,hp,rfl⟩:=hm_ h;left;unfold aB_;rw [ho];exact b1_ hp
 |mapUpdate t m k x=>unfold ac_ at h;rw [ho]at h;obtain ⟨p,hp,rfl⟩:=dj_ h;left;unfold aB_;rw [ho];exact b0_ hp
 |insert t m k x=>unfold ac_ at h;rw [ho]at h;obtain ⟨p,hp,rfl⟩:=dj_ h;left;unfold aB_;rw [ho];exact b0_ hp
 |typeAssert x xt asserted ok=>unfold ac_ at h;rw [ho]at h;obtain ⟨p,hp,rfl⟩:=co_ h;left;unfold aB_;rw [ho];exact b1_ hp
 |extract t ix=>unfold ac_ at h;rw [ho]at h;obtain ⟨p,hp,rfl⟩:=co_ h;left;unfold aB_;rw [ho];exact b1_ hp
 |defer c=>
  unfold ac_ at h;rw [ho]at h;simp only at h;split at h
  .rename_i x hx;obtain ⟨p,hp,rfl⟩:=u0_ h;left;unfold aB_ lt_;have hp:dfA P (look T x) (ka_ (look T) c.args.toList)=some p:=by rw [←ge_ T c.args.toList];exact hp
   unfold dfA at hp
   grind
  cases h
 |panic x=>unfold ac_ at h;left;grind [aB_,OC.run,vU_,look]
 |_=>unfold ac_ at h;rw [ho]at h;cases h
end
end Go.Sx
namespace Go.Sx
variable [Gl]
def DRel (P:Program) (E:Env):Dfs->List Deferred->Prop
 |[],ds=>ds=[]
 |(f,args)::D,ds=>∃vs r,ds={ target:=.fn (.func f) #[],args:=⟨vs⟩ }::r/\ConL E args vs/\bW_ P f=true/\DRel P E D r
omit [Gl]in
theorem DRel.mono {P:Program} {E E':Env} (h:E.le E'):∀{D:Dfs} {ds:List Deferred},DRel P E D ds->DRel P E' D ds
 |[],ds,hd=>hd
 |(f,args)::D,ds,hd=>by obtain ⟨vs,r,h1,h2,h3,h4⟩:=hd;exact ⟨vs,r,h1,h2.mono h,h3,h4.mono h⟩
structure St (P:Program) (B:World) (pr:Nat->Prop) (N:Nat) (E:Env) (T:Tm) (H:AHeap) (D:Dfs) (a:Act) (w:World):Prop where
 t:TRel E N T a.tmps
 r:Rel B pr E H w
 d:DRel P E D a.defers
def FPost (B:World) (pr:Nat->Prop) (E:Env) (r:FRes) (e:Ending) (w':World):Prop:=
 ∃E',E.le E'/\match r with
  | .ret v H'=>∃u,e=.returned u/\Con E' v u/\Rel B pr E' H' w'
  | .pan v H'=>∃u,e=.panicked [{ v:=u,recovered:=false }]/\Con E' v u/\Rel B pr E' H' w'
def an_ (P:Program) (call:CallF):Prop:=
 ∀(f:FuncId) (args:List AV) (H:AHeap) (r:FRes),call f args H=some r->∀(B:World) (pr:Nat->Prop) (E:Env) (w:World) (vs:List Value),GlOk E->Rel B pr E H w->ConL E args vs->
  Calls P f ⟨vs⟩ w (FPost B pr E r)
def QOut (P:Program) (B:World) (pr:Nat->Prop) (N:Nat) (E:Env) (r:CRes) (e:Exit) (a:Act) (w:World):Prop:=
 ∃E',E.le E'/\match r with
  | .norm T H D=>e=.normal/\St P B pr N E' T H D a w
  | .exit id T H D=>e=.exit id/\St P B pr N E' T H D a w
  | .ret T H D=>e=.ret/\St P B pr N E' T H D a w
  | .pan v T H D=>∃u,e=.panic [{ v:=u,recovered:=false }]/\Con E' v u/\St P B pr N E' T H D a w
def gj_ (K:Kn) (X:CRes->Res) (r:CRes):Res:=match r with
 | .norm T H D=>K T H D
 |r=>X r
section
variable {P:Program} {B:World} {pr:Nat->Prop} {N:Nat} {E:Env}
theorem QOut.le {E':Env} (h:E.le E') {r:CRes} {e:Exit} {a:Act} {w:World} (hq:QOut P B pr N E' r e a w):QOut P B pr N E r e a w:=by obtain ⟨E'',h1,h2⟩:=hq;exact ⟨E'',Env.le_trans h h1,h2⟩
omit [Gl]in
theorem Oper.wp_mono2 {o:Oper} {a:Act} {w:World} {K K':Act->World->Prop} {Q Q':Exit->Act->World->Prop} (h:∀a w,K a w->K' a w) (hq:∀e a w,Q e a w->Q' e a w)
  (hh:o.wp P a w K Q):o.wp P a w K' Q':=by
 unfold Oper.wp at*;generalize (execOp a.eval o).run P w=r at*;cases r with
 |ok n w'=>
  cases n<;>simp only [Oper.upon]at hh⊢<;>
   first
    |exact h _ _ hh
    |exact Calls.mono hh (λe w'' he=>by cases e<;>first|exact h _ _ he|exact hq _ _ _ he|exact he.imp λ_ hx=>hx.imp λ_ hy=>hq _ _ _ hy)
    |exact Rows.mono hh (λ_ _ he=>h _ _ he)
 |halt x w'=>cases x<;>simp only [Oper.upon]at hh⊢<;>first|exact hh|exact hq _ _ _ hh
omit [Gl]in
theorem wpList_mono {ops:Array Oper} {Q Q':Exit->Act->World->Prop} (hq:∀e a w,Q e a w->Q' e a w):∀(l:List Oper) (a:Act) (w:World),wpList P ops Q l a w->wpList P ops Q' l a w
 |[],a,w,h=>hq _ _ _ h
 |o::r,a,w,h=>by unfold wpList at h⊢;split;rename_i hw;rw [if_pos hw]at h;refine h.imp (λh=>Oper.wp_mono2 (wpList_mono hq r) hq h) λh=>⟨h.1,?_⟩;obtain ⟨a',w',h'⟩:=h.2;exact ⟨a',w',hq _ _ _ h'⟩;rename_i hw;rw [if_neg hw]at h;exact wpList_mono hq r _ _ h
omit [Gl]in
theorem jk_ {r:Option AV} {k:AV->Res} {res:FRes} (h:onP r k=some res):∃a,r=some a/\k a=some res:=by
 cases r with
 |none=>cases h
 |some a=>exact ⟨a,rfl,h⟩
omit [Gl]in
theorem r5_ {r:Option (AV×AHeap)} {k:AV->AHeap->Res} {res:FRes} (h:onM r k=some res):∃p,r=some p/\k p.1 p.2=some res:=by
 cases r with
 |none=>cases h
 |some a=>exact ⟨a,rfl,h⟩
omit [Gl]in
theorem m5_ {r:Option (FuncId×List AV)} {k:FuncId->List AV->Res} {res:FRes} (h:onC r k=some res):∃p,r=some p/\k p.1 p.2=some res:=by
 cases r with
 |none=>cases h
 |some a=>exact ⟨a,rfl,h⟩
omit [Gl]in
theorem r4_ {r:Option FRes} {k x:AV->AHeap->Res} {res:FRes} (h:onF r k x=some res):(∃a H,r=some (.ret a H)/\k a H=some res)\/∃a H,r=some (.pan a H)/\x a H=some res:=by
 cases r with
 |none=>cases h
 |some f=>cases f with
  |ret a H=>exact .inl ⟨a,H,rfl,h⟩
  |pan a H=>exact .inr ⟨a,H,rfl,h⟩
omit [Gl]in
theorem on_ {c:OC} {u:Tm->AV->Tm} {k:LC} {call:CallF} {T:Tm} {H:AHeap} {D:Dfs} {K:Kn} {X:CRes->Res} {res:FRes} (h:(tu_ c u k).f call T H D K X=some res):
  (∃x H',c.run T H=some (.val x H')/\k.f call (u T x) H' D K X=some res)\/
  (∃g args,c.run T H=some (.call g args)/\((∃x H',call g args H=some (.ret x H')/\k.f call (u T x) H' D K X=some res)\/∃v H',call g args H=some (.pan v H')/\X (.pan v T H' D)=some res))\/
  (∃g args,c.run T H=some (.dfr g args)/\k.f call (u T (.tup [])) H ((g,args)::D) K X=some res)\/
  (∃v,c.run T H=some (.pan v)/\X (.pan v T H D)=some res):=by
 cases c with
 |pv f=>exact .inl ⟨f T,H,rfl,h⟩
 |po f=>
  obtain ⟨a,ha,hk⟩:=jk_ (r:=f T) h
  grind [OC.run]
 |ho f=>
  obtain ⟨a,ha,hk⟩:=jk_ (r:=f T H) h
  grind [OC.run]
 |hm f=>
  obtain ⟨⟨x,H'⟩,ha,hk⟩:=r5_ (r:=f T H) (k:=λa H'=>k.f call (u T a) H' D K X) h
  grind [OC.run]
 |cl f=>
  obtain ⟨⟨g,args⟩,ha,hk⟩:=m5_ (r:=f T) (k:=λg args=>onF (call g args H) (λa H'=>k.f call (u T a) H' D K X) (λv H'=>X (.pan v T H' D))) h
  grind [OC.run,r4_]
 |df f=>
  obtain ⟨⟨g,args⟩,ha,hk⟩:=m5_ (r:=f T) (k:=λg args=>k.f call (u T (.tup [])) H ((g,args)::D) K X) h
  grind [OC.run]
 |pn f=>
  obtain ⟨a,ha,hk⟩:=jk_ (r:=f T) h
  grind [OC.run]
 |rc=>cases h
 |no=>cases h
theorem aw_ {T:Tm} {H:AHeap} {o:Oper} {r:ORes} (h:(ac_ P o).run T H=some r) {a:Act} {w:World} (hr:Rel B pr E H w) (ht:TRel E N T a.tmps):OpOk P B pr E w (execOp a.eval o) r:=by rcases sn_ h with h|h;exact gZ_ hr (λx=>ht.look x) h;exact mD_ hr (λx=>ht.look x) h
def vx_ (P:Program) (N:Nat) (call:CallF) (ops:Array Oper) (k:LC) (l:List Oper):Prop:=
 ∀(T:Tm) (H:AHeap) (D:Dfs) (K:Kn) (X:CRes->Res) (res:FRes),k.f call T H D K X=some res->
  ∃r:CRes,gj_ K X r=some res/\∀B pr E a w,St P B pr N E T H D a w->wpList P ops (QOut P B pr N E r) l a w
theorem pB_ {call:CallF} (hcall:an_ P call) {ops:Array Oper} {o:Oper} {l:List Oper} {k:LC} (hk:vx_ P N call ops k l) {u:Tm->AV->Tm} (hu:bT_ N o.dst=.mk u)
  {T:Tm} {H:AHeap} {D:Dfs} {K:Kn} {X:CRes->Res} {res:FRes} (h:(tu_ (ac_ P o) u k).f call T H D K X=some res):
  ∃r:CRes,gj_ K X r=some res/\∀B pr E a w,St P B pr N E T H D a w->o.wp P a w (wpList P ops (QOut P B pr N E r) l) (QOut P B pr N E r):=by
 rcases on_ h with ⟨x,H',hrun,hrest⟩|⟨g,args,hrun,hrest⟩|⟨g,args,hrun,hrest⟩|⟨v,hrun,hX⟩;obtain ⟨r,hd,hw⟩:=hk _ _ _ _ _ _ hrest;refine ⟨r,hd,λB pr E a w st=>?_⟩;obtain ⟨E',n,v,w',h1,h2,h3,h4,h5⟩:=aw_ hrun st.r st.t;unfold Oper.wp;rw [h1];have key:wpList P ops (QOut P B pr N E r) l (a.put o.dst v) w':=(by refine wpList_mono (λe a w hq=>QOut.le h3 hq) _ _ _ (hw B pr E' (a.put o.dst v) w' ⟨(st.t.mono h3).put hu h5,h4,?_⟩);have:(a.put o.dst v).defers=a.defers:=(by unfold Act.put;split<;>rfl);rw [this];exact st.d.mono h3);rcases h2 with rfl|⟨rfl,rfl⟩;exact key;exact key;rcases hrest with ⟨x,H',hc,hrest⟩|⟨v,H',hc,hX⟩;obtain ⟨r,hd,hw⟩:=hk _ _ _ _ _ _ hrest;refine ⟨r,hd,λB pr E a w st=>?_⟩;obtain ⟨vs,h1,h2⟩:=aw_ hrun st.r st.t;unfold Oper.wp;rw [h1];refine Calls.mono (hcall g args H _ hc B pr E w vs st.t.gl st.r h2) λe w' he=>?_;obtain ⟨E',h3,v,rfl,h4,h5⟩:=he;refine wpList_mono (λe a w hq=>QOut.le h3 hq) _ _ _ (hw B pr E' (a.put o.dst v) w' ⟨(st.t.mono h3).put hu h4,h5,?_⟩);have:(a.put o.dst v).defers=a.defers:=(by unfold Act.put;split<;>rfl);rw [this];exact st.d.mono h3;refine ⟨.pan v T H' D,hX,λB pr E a w st=>?_⟩;obtain ⟨vs,h1,h2⟩:=aw_ hrun st.r st.t;unfold Oper.wp;rw [h1];refine Calls.mono (hcall g args H _ hc B pr E w vs st.t.gl st.r h2) λe w' he=>?_;obtain ⟨E',h3,u',rfl,h4,h5⟩:=he;exact ⟨E',h3,u',rfl,h4,st.t.mono h3,h5,st.d.mono h3⟩
 .obtain ⟨r,hd,hw⟩:=hk _ _ _ _ _ _ hrest;refine ⟨r,hd,λB pr E a w st=>?_⟩;obtain ⟨vs,h1,h2,h3⟩:=aw_ hrun st.r st.t;unfold Oper.wp;rw [h1];refine hw B pr E _ w ⟨?_,st.r,?_⟩
  .have:=st.t.put (a:=a) hu (a6_ E);have e:(({ a with defers:={ target:=.fn (.func g) #[],args:=⟨vs⟩ }::a.defers }:Act).put o.dst undef).tmps=(a.put o.dst undef).tmps:=by unfold Act.put;split<;>rfl
   grind
  have e:(({ a with defers:={ target:=.fn (.func g) #[],args:=⟨vs⟩ }::a.defers }:Act).put o.dst undef).defers={ target:=.fn (.func g) #[],args:=⟨vs⟩ }::a.defers:=(by unfold Act.put;split<;>rfl);rw [e];exact ⟨vs,a.defers,rfl,h2,h3,st.d⟩
 refine ⟨.pan v T H D,hX,λB pr E a w st=>?_⟩;obtain ⟨u',h1,h2⟩:=aw_ hrun st.r st.t;unfold Oper.wp;rw [h1];exact ⟨E,Env.le_refl _,u',rfl,h2,st⟩
theorem iG_ {call:CallF} (hcall:an_ P call) (ops:Array Oper):∀l:List Oper,vx_ P N call ops (fd_ P N ops.toList l) l
 |[]=>λT H D K X res h=>⟨.norm T H D,h,λB pr E a w st=>⟨E,Env.le_refl _,rfl,st⟩⟩
 |o::l=>λT H D K X res h=>by
  have ih:=iG_ hcall ops l;unfold fd_ at h;split at h;cases h
  .rename_i u hu;split at h;obtain ⟨r,hd,hw⟩:=pB_ hcall ih hu h;refine ⟨r,hd,λB pr E a w st=>?_⟩;simp_all [wpList,cZ_]
   .rename_i g hg;simp only at h;split at h
    .rename_i t ht;split at h
     .obtain ⟨r,hd,hw⟩:=pB_ hcall ih hu h;refine ⟨r,hd,λB pr E a w st=>?_⟩;unfold wpList;rw [if_pos (eO_ st.t hg ht)]
      grind
     obtain ⟨r,hd,hw⟩:=ih _ _ _ _ _ _ h;refine ⟨r,hd,λB pr E a w st=>?_⟩;unfold wpList;rw [if_neg (by rw [eO_ st.t hg ht];simp)];refine hw B pr E _ w ⟨st.t.put hu (a6_ E),st.r,?_⟩;have:(a.put o.dst undef).defers=a.defers:=(by unfold Act.put;split<;>rfl);rw [this];exact st.d
    cases h
def vw_ (P:Program) (N:Nat) (call:CallF) (n:Nat) (k:CC) (c:Code):Prop:=
 ∀(T:Tm) (H:AHeap) (D:Dfs) (K:Kn) (X:CRes->Res) (res:FRes),k.f call n T H D K X=some res->
  ∃r:CRes,gj_ K X r=some res/\∀B pr E a w,St P B pr N E T H D a w->c.wp P (QOut P B pr N E r) a w
def gK_ (P:Program) (N:Nat) (call:CallF):Prop:=
 ∀(id:Nat) (ops:Array Oper) (T:Tm) (H:AHeap) (D:Dfs) (r:CRes),iJ_ P call N ops.toList T H D=some r->
  ∀B pr E a w,St P B pr N E T H D a w->(Code.region id ops true).wp P (QOut P B pr N E r) a w
omit [Gl]in
theorem mb_ {id:Nat} {K:Kn} {X:CRes->Res} {r:CRes} {res:FRes} (h:gj_ K (t6_ id K X) r=some res):
  (∃T H D,r=.exit id T H D/\K T H D=some res)\/((∀T H D,r≠ .exit id T H D)/\gj_ K X r=some res):=by
 cases r with
 |norm T H D=>exact .inr ⟨λ_ _ _ e=>(nomatch e),h⟩
 |ret T H D=>exact .inr ⟨λ_ _ _ e=>(nomatch e),h⟩
 |pan v T H D=>exact .inr ⟨λ_ _ _ e=>(nomatch e),h⟩
 |exit id' T H D=>
  have h2:(match Nat.beq id' id with|true=>K T H D|false=>X (.exit id' T H D))=some res:=h;cases hb:Nat.beq id' id with
  |true=>
   grind [Nat.eq_of_beq_eq_true]
  |false=>simp only [hb]at h2;refine .inr ⟨λT' H' D' e=>?_,h2⟩;simp_all
omit [Gl]in
theorem hT_ {c:Code} {Q Q':Exit->Act->World->Prop} (hq:∀e a w,Q e a w->Q' e a w):∀(m:Nat) (a:Act) (w:World),Code.rounds P c Q m a w->Code.rounds P c Q' m a w
 |0,_,_,h=>h
 |m+1,a,w,h=>Code.wp_mono (λe a w hx=>by
   cases e with
   |normal=>exact hT_ hq m a w hx
   |exit id=>exact hq _ _ _ hx
   |goto l=>exact hq _ _ _ hx
   |ret=>exact hq _ _ _ hx
   |panic ch=>exact hq _ _ _ hx
   |outgrown=>exact hq _ _ _ hx) h
theorem QOut.then {r:CRes} (hr:∀T H D,r≠ .norm T H D) {K:Act->World->Prop} {e:Exit} {a:Act} {w:World} (h:QOut P B pr N E r e a w):Exit.then K (QOut P B pr N E r) e a w:=by
 cases e with
 |normal=>
  obtain ⟨E',h1,h2⟩:=h
  grind
 |exit id=>exact h
 |goto l=>exact h
 |ret=>exact h
 |panic ch=>exact h
 |outgrown=>exact h
theorem QOut.norm {T:Tm} {H:AHeap} {D:Dfs} {Q:Exit->Act->World->Prop} {K:Act->World->Prop} {e:Exit} {a:Act} {w:World} (h:QOut P B pr N E (.norm T H D) e a w)
  (hk:∀E' a w,E.le E'->St P B pr N E' T H D a w->K a w):Exit.then K Q e a w:=by
 obtain ⟨E',h1,rfl,h2⟩:=h;exact hk E' a w h1 h2
theorem pl_ {call:CallF} {n:Nat} {k:CC} {c:Code} (hk:vw_ P N call n k c):∀(m:Nat) (T:Tm) (H:AHeap) (D:Dfs) (X:CRes->Res) (res:FRes),
  loopE (λT H D K X=>k.f call n T H D K X) m T H D X=some res->
  ∃r:CRes,(∀T H D,r≠ .norm T H D)/\X r=some res/\∀B pr E a w,St P B pr N E T H D a w->Code.rounds P c (QOut P B pr N E r) m a w
 |0,T,H,D,X,res,h=>by cases h
 |m+1,T,H,D,X,res,h=>by
  obtain ⟨r,hd,hw⟩:=hk _ _ _ _ _ _ h;by_cases hr:∀T H D,r≠ .norm T H D
  .refine ⟨r,hr,?_,λB pr E a w st=>Code.wp_mono (λe a w hq=>hq.then hr) (hw B pr E a w st)⟩;cases r with
   |norm T H D=>grind
   |exit id T H D=>exact hd
   |ret T H D=>exact hd
   |pan v T H D=>exact hd
  .cases r with
   |exit id T H D=>grind
   |ret T H D=>grind
   |pan v T H D=>grind
   |norm T' H' D'=>obtain ⟨r2,hn,hX,hw2⟩:=pl_ hk m T' H' D' X res hd;refine ⟨r2,hn,hX,λB pr E a w st=>Code.wp_mono (λe a w hq=>?_) (hw B pr E a w st)⟩;exact hq.norm λE' a w hle st'=>hT_ (λe a w hq=>QOut.le hle hq) m a w (hw2 B pr E' a w st')
theorem d8_ {call:CallF} (hcall:an_ P call) (hdraw:gK_ P N call) (n:Nat):∀c:Code,vw_ P N call n (bj_ P N c) c
 | .skip=>λT H D K X res h=>by exact ⟨.norm T H D,h,λB pr E a w st=>wp_skip ⟨E,Env.le_refl _,rfl,st⟩⟩
 | .label l=>λT H D K X res h=>by exact ⟨.norm T H D,h,λB pr E a w st=>wp_label ⟨E,Env.le_refl _,rfl,st⟩⟩
 | .exit id=>λT H D K X res h=>by exact ⟨.exit id T H D,h,λB pr E a w st=>wp_exit ⟨E,Env.le_refl _,rfl,st⟩⟩
 | .ret=>λT H D K X res h=>by exact ⟨.ret T H D,h,λB pr E a w st=>wp_ret ⟨E,Env.le_refl _,rfl,st⟩⟩
 | .region id ops false=>λT H D K X res h=>by
   obtain ⟨r,hd,hw⟩:=iG_ hcall ops ops.toList _ _ _ _ _ _ h
   grind [wp_region_list]
 | .region id ops true=>λT H D K X res h=>by
   unfold bj_ at h;simp only at h;unfold ua_ at h;split at h;cases h
   .rename_i r hr;refine ⟨r,?_,λB pr E a w st=>hdraw id ops T H D r hr B pr E a w st⟩;cases r<;>exact h
 | .seq x y=>λT H D K X res h=>by
   obtain ⟨r,hd,hw⟩:=d8_ hcall hdraw n x _ _ _ _ _ _ h;by_cases hr:∀T H D,r≠ .norm T H D
   .refine ⟨r,?_,λB pr E a w st=>wp_seq (Code.wp_mono (λe a w hq=>hq.then hr) (hw B pr E a w st))⟩;cases r with
    |norm T H D=>grind
    |exit id T H D=>exact hd
    |ret T H D=>exact hd
    |pan v T H D=>exact hd
   .cases r with
    |exit id T H D=>grind
    |ret T H D=>grind
    |pan v T H D=>grind
    |norm T' H' D'=>obtain ⟨r2,hd2,hw2⟩:=d8_ hcall hdraw n y _ _ _ _ _ _ hd;refine ⟨r2,hd2,λB pr E a w st=>wp_seq (Code.wp_mono (λe a w hq=>?_) (hw B pr E a w st))⟩;exact hq.norm λE' a w hle st'=>Code.wp_mono (λe a w hq=>QOut.le hle hq) (hw2 B pr E' a w st')
 | .cond c x y=>λT H D K X res h=>by
   unfold bj_ at h;simp only at h;unfold t8_ at h;split at h
   .rename_i t ht;split at h
    .obtain ⟨r,hd,hw⟩:=d8_ hcall hdraw n x _ _ _ _ _ _ h;refine ⟨r,hd,λB pr E a w st=>?_⟩;have:a.eval c=.bool true:=by have:=st.t.look c;grind [look,Con]
     grind [wp_cond_true]
    .obtain ⟨r,hd,hw⟩:=d8_ hcall hdraw n y _ _ _ _ _ _ h;refine ⟨r,hd,λB pr E a w st=>?_⟩;have:a.eval c=.bool false:=by have:=st.t.look c;grind [look,Con]
     grind [wp_cond_false]
   cases h
 | .block id b=>λT H D K X res h=>by
   obtain ⟨r,hd,hw⟩:=d8_ hcall hdraw n b _ _ _ _ _ _ h;rcases mb_ hd with ⟨T',H',D',rfl,hk⟩|⟨hne,hk⟩
   .refine ⟨.norm T' H' D',hk,λB pr E a w st=>wp_block (Code.wp_mono (λe a w hq=>?_) (hw B pr E a w st))⟩;obtain ⟨E',h1,rfl,h2⟩:=hq;show if id=id then _ else _
    rw [if_pos rfl];exact ⟨E',h1,rfl,h2⟩
   .refine ⟨r,hk,λB pr E a w st=>wp_block (Code.wp_mono (λe a w hq=>?_) (hw B pr E a w st))⟩;cases e with
    |exit id'=>
     show if id'=id then _ else _
     split
     .obtain ⟨E',h1,h2⟩:=hq
      grind
     exact hq
    |normal=>exact hq
    |goto l=>exact hq
    |ret=>exact hq
    |panic ch=>exact hq
    |outgrown=>exact hq
 | .loop b=>λT H D K X res h=>by
   obtain ⟨r,hn,hX,hw⟩:=pl_ (d8_ hcall hdraw n b) n T H D X res h;refine ⟨r,?_,λB pr E a w st=>wp_loop_rounds n (hw B pr E a w st)⟩;cases r with
   |norm T H D=>grind
   |exit id T H D=>exact hX
   |ret T H D=>exact hX
   |pan v T H D=>exact hX
 | .scope _=>λT H D K X res h=>by grind [bj_]
 | .goto _=>λT H D K X res h=>by grind [bj_]
 | .refuse _=>λT H D K X res h=>by grind [bj_]
 | .rangeFunc _ _ _ _=>λT H D K X res h=>by grind [bj_]
end
end Go.Sx
