/-
  Floats: order with powers of two and whole parts; quotients; truncation.
-/
import Derived.Test.YtelnbodnjmldeaaGreatSyP
import Derived.Test.YtelnbodnjmldeaaGreatSyM
import Derived.Test.YtelnbodnjmldeaaGreatSyB
set_option linter.unusedVariables false
set_option linter.unusedSimpArgs false
open Nat renaming le_trans→za',pow_le_pow_right→zb',le_refl→zc'
namespace Go.Sx
theorem qS_ (s:Bool) (n drop:Nat):Ieee.Toward.zero.cut s n drop=n/2^drop:=by
 unfold Ieee.Toward.cut;simp only [Bool.toNat_false,Nat.add_zero,Nat.one_shiftLeft];by_cases h:drop<=n.log2+2
 .grind
 rw [Nat.min_eq_right (by omega)];have h1:n<2^(n.log2+1):=Nat.lt_log2_self;have h2:2^(n.log2+1)<=2^(n.log2+2):=zb' (by omega) (by omega);have h3:2^(n.log2+2)<=2^drop:=zb' (by omega) (by omega);rw [Nat.div_eq_of_lt (by omega),Nat.div_eq_of_lt (by omega)]
def fX_ (m:Nat) (i:Int):Nat:=(m<<<i.toNat)/2^(-i).toNat
theorem lC_ (s:Bool) (m:Nat) (i:Int):(Ieee.Datum.number s m i).toInt .zero=some (if s then -(fX_ m i:Int)else (fX_ m i:Int)):=by
 grind [Ieee.Datum.toInt,Ieee.Datum.integral,qS_,Ieee.signed,fX_]
theorem kL_ (m:Nat) (i:Int) (T:Nat) (hT:i.natAbs<=T):fX_ m i*2^T<=m*2^(i+T).toNat:=by
 unfold fX_;rw [Nat.shiftLeft_eq];rcases Int.le_total 0 i with h|h
 .have e1:(-i).toNat=0:=(by omega);have e2:(i+T).toNat=i.toNat+T:=(by omega);rw [e1,e2,Nat.pow_zero,Nat.div_one,Nat.pow_add,Nat.mul_assoc]
  grind
 have e1:i.toNat=0:=(by omega);have e2:T=(-i).toNat+(i+T).toNat:=(by omega);rw [e1,Nat.pow_zero,Nat.mul_one];generalize (i+T).toNat=b at*;rw [e2,Nat.pow_add,←Nat.mul_assoc];exact Nat.mul_le_mul_right _ (Nat.div_mul_le_self ..)
theorem rl_ {m n:Nat} {i j:Int} (T:Nat) (hi:i.natAbs<=T) (hj:j.natAbs<=T):m<<<(i-min i j).toNat<n<<<(j-min i j).toNat↔m*2^(i+T).toNat<n*2^(j+T).toNat:=by
 have e1:(i+T).toNat=(i-min i j).toNat+(min i j+T).toNat:=by omega
 have e2:(j+T).toNat=(j-min i j).toNat+(min i j+T).toNat:=by omega
 rw [e1,e2,Nat.shiftLeft_eq,Nat.shiftLeft_eq,Nat.pow_add,Nat.pow_add,←Nat.mul_assoc,←Nat.mul_assoc];simp_all [Nat.pow_pos]
theorem sp_ {m k:Nat} {i j:Int} (hk:(k:Int)=52+j) (h:m<<<(i-min i j).toNat<4503599627370496<<<(j-min i j).toNat):fX_ m i<2^k:=by
 have h1:=(rl_ (i.natAbs+j.natAbs) (by omega) (by omega)).1 h;have h2:=kL_ m i (i.natAbs+j.natAbs) (by omega);have e:4503599627370496*2^(j+(i.natAbs+j.natAbs:Nat)).toNat=2^k*2^(i.natAbs+j.natAbs):=by
  have:(4503599627370496:Nat)=2^52:=(by decide);rw [this,←Nat.pow_add,←Nat.pow_add]
  grind
 rw [e]at h1;exact Nat.lt_of_mul_lt_mul_right (Nat.lt_of_le_of_lt h2 h1)
theorem so_ {m k:Nat} {i j:Int} (hk:(k:Int)=52+j) (h:m<<<(i-min i j).toNat<=4503599627370496<<<(j-min i j).toNat):fX_ m i<=2^k:=by
 have h1:¬(4503599627370496*2^(j+(i.natAbs+j.natAbs:Nat)).toNat<m*2^(i+(i.natAbs+j.natAbs:Nat)).toNat):=λhh=>by
  have:=(rl_ (m:=4503599627370496) (n:=m) (i:=j) (j:=i) (i.natAbs+j.natAbs) (by omega) (by omega)).2 hh
  grind
 have h2:=kL_ m i (i.natAbs+j.natAbs) (by omega);have e:4503599627370496*2^(j+(i.natAbs+j.natAbs:Nat)).toNat=2^k*2^(i.natAbs+j.natAbs):=by
  have:(4503599627370496:Nat)=2^52:=(by decide);rw [this,←Nat.pow_add,←Nat.pow_add]
  grind
 rw [e]at h1;exact Nat.le_of_mul_le_mul_right (za' h2 (Nat.le_of_not_lt h1)) (Nat.pow_pos (by omega))
theorem ne_ {b lo hi k:Nat} {j:Int} (hk:(k:Int)=52+j) (hlo:Ieee.double.read lo=.number true 4503599627370496 j) (hhi:Ieee.double.read hi=.number false 4503599627370496 j)
  (h1:Ieee.double.order b lo≠some .lt) (h2:Ieee.double.order b hi=some .lt):∃n:Int,(Ieee.double.read b).toInt .zero=some n/\ -((2^k:Nat):Int)<=n/\n<((2^k:Nat):Int):=by
 unfold Ieee.Format.order at h1 h2;rw [hlo]at h1;rw [hhi]at h2;cases hb:Ieee.double.read b with
 |nan s t=>rw [hb]at h2;cases h2
 |infinity s=>
  rw [hb]at h1 h2;cases s
  .grind [Ieee.Datum.order]
  exact absurd rfl h1
 |number s m i=>
  rw [hb]at h1 h2;simp only [Ieee.Datum.order,Option.some.injEq,ne_eq]at h1 h2;have h2:=Int.compare_eq_lt.1 h2;have h1:¬_:=λhh=>h1 (Int.compare_eq_lt.2 hh);refine ⟨_,lC_ s m i,?_⟩;cases s with
  |false=>simp only [Ieee.signed,Bool.false_eq_true,if_false]at h2⊢;have:=sp_ hk (m:=m) (i:=i) (j:=j) (by omega);omega
  |true=>
   simp only [Ieee.signed,if_true]at h1⊢;have:=so_ hk (m:=m) (i:=i) (j:=j) (by omega)
   grind
theorem n6_ {a b:Nat} (ha:d9_ a=false) (hb:d9_ b=false):∃o,Ieee.double.order a b=some o:=by
 unfold Ieee.Format.order;rcases ct_ a with ⟨h,_⟩|⟨_,_,s,e⟩|⟨_,_,⟨s,m,i,hm,hi,e⟩|⟨s,e⟩⟩
 .grind
 all_goals
  rw [e];rcases ct_ b with ⟨h,_⟩|⟨_,_,t,f⟩|⟨_,_,⟨t,n,j,hn,hj,f⟩|⟨t,f⟩⟩
  .grind
  all_goals
   rw [f];exact ⟨_,rfl⟩
theorem uO_ {n:Nat}:(Ieee.double.read n).isNaN=d9_ n:=by rcases ct_ n with ⟨h,s,q,e⟩|⟨h,_,s,e⟩|⟨h,_,⟨s,m,i,hm,hi,e⟩|⟨s,e⟩⟩;all_goals rw [e,h];rfl
theorem mK_ (s:Bool) {r:Nat} (h:r<=9218868437227405312):d9_ (Ieee.double.word s r)=false:=by
 have e1:Ieee.double.signWeight=9223372036854775808:=rfl
 grind [d9_,Ieee.Format.word]
theorem hD_ (s:Bool) (m:Nat) (i:Int):d9_ (Ieee.double.nearest s m i)=false:=by have e2:Ieee.double.infRung=9218868437227405312:=rfl;unfold Ieee.Format.nearest;split<;>simp_all [mK_,Nat.min_le_right]
def lD_ (b:Nat):Nat:=Ieee.double.write ((Ieee.double.read b).integral .zero)
theorem p6_ {b:Nat} (h:d9_ b=false):d9_ (lD_ b)=false:=by
 unfold lD_;rcases ct_ b with ⟨h',_⟩|⟨_,_,s,e⟩|⟨_,_,⟨s,m,i,hm,hi,e⟩|⟨s,e⟩⟩
 .grind
 rw [e];exact hD_ ..;rw [e];exact hD_ ..;rw [e];exact mK_ s (zc' _)
theorem s4_ {P:Program} {k:IntKind} {x c:Int} (hc:c≠0) (t:TypeId) (cx cy:Bool):bD_ P .quo t cx cy (.int k x) (.int k c)=some (.int k (k.wrap (x.tdiv c))):=by show cM_ P .quo k x k c=_;have hb:Nat.beq (kix k) (kix k)=true:=Nat.beq_refl _;unfold cM_;rw [hb];unfold gK_;simp only [binOp,Op.intDiv,hc,ne_eq,not_true_eq_false,if_false];rfl
section
variable {P:Program}
theorem vN_ {k:IntKind} {x c:Int} (hc:c≠0) (t:TypeId) (cx cy:Bool):(XOp.bin .quo t cx cy).run P [.int k x,.int k c]=some (.int k (k.wrap (x.tdiv c))):=s4_ hc t cx cy
theorem vp_ {k:IntKind} {x c:Int} (hc:c≠0) (t:TypeId) (cx cy:Bool):(XOp.bin .rem t cx cy).run P [.int k x,.int k c]=some (.int k (x.tmod c)):=s8_ hc rfl t cx cy
theorem vK_ {k:IntKind} {x:Int}:(XOp.un .neg).run P [.int k x]=some (.int k (k.wrap (0-x))):=by
 grind [mg_,da_,cC_,XOp.run]
theorem m1_ {s d:TypeId} {ds:TypeDesc} {k:FloatKind} {j:IntKind} (hs:P.underlying s=some ds) (hd:P.underlying d=some (.int j)) {b:Nat} {n:Int} (h:(k.decode b).toInt .zero=some n) (h1:j.min<=n) (h2:n<=j.max):(XOp.conv s d).run P [.flt k b]=some (.int j n):=by
 show cq_ P h0 s d (.flt k b)=_
 grind [cq_,e9_]
end
def fv (o:Option Nat):AV:=mkF .f64 o
theorem v8_ (o:Option Nat):okC (fv o)=true:=by cases o<;>rfl
def lj_:Option Nat->Bool
 |none=>true
 |some b=>d9_ b
def ordF (a b:Option Nat):Option Ordering:=fOrd .f64 a b
theorem vo_ (P:Program) (op:BinOp) (t:TypeId) (cx cy:Bool) (a b:Option Nat):(XOp.bin op t cx cy).run P [fv a,fv b]=oL_ op .f64 a b:=by show bD_ P op t cx cy (fv a) (fv b)=_;cases a<;>cases b<;>(simp_all [bD_,fv,mkF,iw_,flA])
theorem uQ_ (a:Option Nat):(ordF a a==some .eq)= !lj_ a:=by
 cases a with
 |none=>rfl
 |some b=>exact i5_ b
theorem vh_ {a b:Option Nat} (h:lj_ a=true):ordF a b=none:=by
 cases a with
 |none=>rfl
 |some x=>cases b with
  |none=>rfl
  |some y=>show Ieee.double.order x y=none;unfold Ieee.Format.order;rcases ct_ x with ⟨_,s,q,e⟩|⟨h',_⟩|⟨h',_⟩;rw [e];rfl;all_goals grind [lj_]
theorem uR_ {a b:Option Nat} (h:lj_ a=false) (h2:lj_ b=false):∃o,ordF a b=some o:=by
 cases a with
 |none=>cases h
 |some x=>cases b with
  |none=>cases h2
  |some y=>exact n6_ h h2
def uw_:Option Nat->Option Nat
 |none=>none
 |some b=>if d9_ b=true then none else some (lD_ b)
theorem ux_ (a:Option Nat):lj_ (uw_ a)=lj_ a:=by
 cases a with
 |none=>rfl
 |some b=>
  show lj_ (if d9_ b=true then none else some (lD_ b))=d9_ b;by_cases h:d9_ b=true;rw [if_pos h,h];rfl
  .grind [p6_,lj_]
def sn_ (a:Option Nat):Option Int:=match a with
 |none=>none
 |some b=>(Ieee.double.read b).toInt .zero
theorem tu_ {a:Option Nat} {lo hi k:Nat} {j:Int} (hk:(k:Int)=52+j) (hlo:Ieee.double.read lo=.number true 4503599627370496 j) (hhi:Ieee.double.read hi=.number false 4503599627370496 j)
  (h1:ordF a (some lo)≠some .lt) (h2:ordF a (some hi)=some .lt):∃n:Int,sn_ a=some n/\ -((2^k:Nat):Int)<=n/\n<((2^k:Nat):Int):=by
 cases a with
 |none=>cases h2
 |some b=>exact ne_ hk hlo hhi h1 h2
theorem uo_ {P:Program} {s d:TypeId} {ds:TypeDesc} {j:IntKind} (hs:P.underlying s=some ds) (hd:P.underlying d=some (.int j)) {a:Option Nat} {n:Int} (h:sn_ a=some n) (h1:j.min<=n) (h2:n<=j.max):(XOp.conv s d).run P [fv a]=some (.int j n):=by
 cases a with
 |none=>cases h
 |some b=>exact m1_ hs hd h h1 h2
section
variable [Gl]
def uB_ (P:Program) (fuel:Nat) (c:VC) (f:FuncId) (ft:FT) (args:List AV) (H:AHeap) (n:Nat):VT:=match P.funcs[f]? with
 |some fn=>match fn.body with
  |some cd=>match Nat.ble (aK_ args) fn.ntmps&&(Nat.ble fn.ntmps 512&&Nat.beq c.k ft.k)with
   |true=>cl_ P fn.ntmps fuel (inN P fuel 12) c 0 cd ⟨aV_ args 0 tnil,H,n,0,[]⟩ (hh_ P fuel (inN P fuel 12) c fn.results.toList ft none) (tU_ P fuel (inN P fuel 12) c fn.results.toList ft)
   |false=>.bad
  |none=>.bad
 |none=>.bad
end
section
variable [Gl] {P:Program} {c:VC} {fuel:Nat}
theorem FEndW.callO {ft:FT} {R:Nat->List AV->Prop} {Y0 Y:Sy} {f:FuncId} {args:List AV} {H:AHeap} (h:SemCallF P ft.k Y f args H (FEndW P ft R Y0)):SemCallF P ft.k Y f args H (pz_ ft (Nat.add 64 ft.ent.nv) Y0 R):=λB pr E w vs hy hg hr hcon=>
 Calls.mono (h B pr E w vs hy hg hr hcon) λe w' he=>by
  obtain ⟨Y',r,⟨b,a,H',j,ws,tp,rfl,h1,h2,h3,h4,hw⟩,E',hle,hy',hres⟩:=he;have hend:∃u,e=(match b with
    |true=>.panicked [{ v:=u,recovered:=false }]
    |false=>.returned u)/\Con E' a u/\Rel B pr E' H' w':=by
   grind
  obtain ⟨u,he,hcu,hr'⟩:=hend;have hgl:GlOk E':=hg.leF hle
  let ac:Act:={ tmps:= #[u],defers:=[] }
  have st:St P B pr 1 E' (dB_ topq 0 a) H' [] ac w':=⟨⟨rfl,by omega,λt ht=>by
   by_cases e:0=t;subst e;exact hcu
   grind [ao_,b4_,Con],hgl⟩,hr',rfl⟩
  obtain ⟨E2,hle2,hy2,st2⟩:=hw 1 B pr E' ac w' hy' st;have hcu2:=st2.t.con 0 (by omega);refine ⟨_,_,⟨j,ws,b,tp,h1,h2,h3,h4,rfl,rfl⟩,E2,hle.trans hle2,hy2,?_⟩;cases b with
  |true=>exact ⟨u,he,hcu2,st2.r⟩
  |false=>exact ⟨u,he,hcu2,st2.r⟩
theorem to_ (hm:P.follows .mixedOrders=true) (hc:as_ P (a8_ P fuel)) {f:FuncId} {ft:FT} {R:Nat->List AV->Prop} {Y0 Y:Sy} {args:List AV} {H:AHeap} {n:Nat} (hf0:Fresh Y0 (Nat.add 64 ft.ent.nv)) (hf:Good P c n Y) (hx0:Ext (Nat.add 64 ft.ent.nv) Y0 Y) (hn0:Nat.add 64 ft.ent.nv<=n) (h:VOK P (QF R) [] Y (uB_ P fuel c f ft args H n)):
  SemCallF P ft.k Y f args H (pz_ ft (Nat.add 64 ft.ent.nv) Y0 R):=by
 unfold uB_ at h;split at h
 .rename_i fn hfn;split at h
  .rename_i cd hb;split at h
   .rename_i hle;obtain ⟨h1,hle⟩:=aa_ hle;obtain ⟨h2,h3⟩:=aa_ hle;have h1:args.length<=fn.ntmps:=(by grind [ah_,Nat.ble_eq]);have h2:fn.ntmps<=512:=(by simp_all);have h3:=Nat.eq_of_beq_eq_true h3;have fin:∀u L Y' S,L.length=S.lv->Good P c S.n Y'->Nat.add 64 ft.ent.nv<=S.n->Ext (Nat.add 64 ft.ent.nv) Y0 Y'->VOK P (QF R) L Y' (hh_ P fuel (inN P fuel 12) c fn.results.toList ft u S)->dD_ P c.k fn (FEndW P ft R Y0) Y' S.T S.H S.D u:=by
     intro u L Y' S hL hg hn hx h;refine fs_ hm hc hL hg h λr n' lv' L' Y2 _ _ _ hx2 _ h=>?_;have hx:=hx.trans hx2 hn;cases r with
     |ret a H=>obtain ⟨j,ws,tp,q1,q2,q3,q4,q5⟩:=fr_ (a:=a) rfl rfl hf0 hx ft.exs 0 (λj q hj=>by grind) h;exact ⟨false,a,H,j,ws,tp,rfl,q1,q2,q3,q4,q5⟩
     |pan a H=>obtain ⟨j,ws,tp,q1,q2,q3,q4,q5⟩:=fr_ (a:=a) rfl rfl hf0 hx ft.exs 0 (λj q hj=>by grind) h;exact ⟨true,a,H,j,ws,tp,rfl,q1,q2,q3,q4,q5⟩
    refine FEndW.callO ?_;rw [←h3];refine lK_ hm hfn hb ⟨h1,h2,aA_ cd (λY' T' H' D' hk=>?_) (λY' r hx=>?_) _ _ _ _ (bA_ hm hc cd 0 ⟨aV_ args 0 tnil,H,n,0,[]⟩ _ _ Y [] rfl hf h)⟩;obtain ⟨n',lv,L',_,q2,q3,hx,q5,h'⟩:=hk;exact fin none L' Y' ⟨T',H',n',lv,D'⟩ q2 q5 (za' hn0 q3) (hx0.trans hx hn0) h'
    .cases r with
     |norm T H D=>exact hx.elim
     |pan v T H D=>obtain ⟨n',lv,L',_,q2,q3,hx,q5,h'⟩:=hx;exact fin (some v) L' Y' ⟨T,H,n',lv,D⟩ q2 q5 (za' hn0 q3) (hx0.trans hx hn0) h'
     |exit id T H D=>obtain ⟨n',lv,L',_,_,_,_,_,h'⟩:=hx;exact h'.elim
     |ret T H D=>obtain ⟨n',lv,L',_,q2,q3,hx,q5,h'⟩:=hx;exact fin none L' Y' ⟨T,H,n',lv,D⟩ q2 q5 (za' hn0 q3) (hx0.trans hx hn0) h'
   exact h.elim
  exact h.elim
 exact h.elim
theorem vB_ (hm:P.follows .mixedOrders=true) (ho:kN_ P) {f:FuncId} {ft:FT} {vs ex args:List AV} {H:AHeap} {n1 n:Nat} {R:Nat->List AV->Prop} {t:VT} (hlen:vs.length=ft.ent.nv) (hk:∀Y,KnownF P c.fc Y) (hn:64+ft.ent.nv+ex.length=n1)
  (hopen:∀(B:World) (pr:Nat->Prop) (E:Env) (w:World) (us:List Value),(∀(i:Nat) (a:AV),vs[i]? =some a->E.sy (64+i)=some a)->(∀(i:Nat) (a:AV),ex[i]? =some a->E.sy (64+ft.ent.nv+i)=some a)->Rel B pr E (ft.ent.heap 64) w->ConL E (bs_ 64 (cm_ ft.ent.slots)) us->Rel B pr E H w/\ConL E args us)
  (ht:uB_ P n c f ft args H n1=t) (h:∀Y,Fresh Y 64->Gl.gt Y.v->VOK P (QF R) [] ((Y.puts 64 vs).puts (64+ft.ent.nv) ex) t):CF P f ft vs R:=
 ⟨hlen,λY hf B pr E w us hy hg hr hcon=>by obtain ⟨p1,p2,p3,p4⟩:=hf.puts vs;have hat:=bF_ vs hf;rw [hlen]at p1;obtain ⟨q1,q2,q3,q4⟩:=p1.puts ex;have hae:=bF_ ex p1;have hgt:Gl.gt Y.v:=Gl.gtm _ _ (λi hi=>by rw [hy.v];grind) hg.2;have hv:∀i a,E.sy i=some a->((Y.puts 64 vs).puts (64+ft.ent.nv) ex).v i=some a:=λi a ha=>(by rw [hy.v]at ha;grind);have hl:∀i l,E.syl i=some l->((Y.puts 64 vs).puts (64+ft.ent.nv) ex).l i=some l:=λi l ha=>(by rw [hy.l]at ha;grind);have hle:E.leF ft.k (E.with ((Y.puts 64 vs).puts (64+ft.ent.nv) ex)):=Env.with_leF ft.k λi hi=>(by rw [hy.v];exact q4 i hi);have hx:Ext (Nat.add 64 ft.ent.nv) (Y.puts 64 vs) ((Y.puts 64 vs).puts (64+ft.ent.nv) ex):=Ext.puts ex _ (zc' _);have hr1:=hr.with hv hl;have hc1:=hcon.with hv hl;obtain ⟨hr2,hc2⟩:=hopen B pr (E.with ((Y.puts 64 vs).puts (64+ft.ent.nv) ex)) w us (λi a ha=>q2 _ _ (hat i a ha)) (λi a ha=>hae i a ha) hr1 hc1;have hsem:=to_ (c:=c) (fuel:=n) (R:=R) (args:=args) (H:=H) (n:=n1) hm (c3_ hm ho n) p1 ⟨by grind,hk _⟩ hx (by grind) (by rw [ht];grind);refine Calls.mono (hsem B pr (E.with ((Y.puts 64 vs).puts (64+ft.ent.nv) ex)) w us ⟨rfl,rfl,hy.res⟩ (hg.leF hle) hr2 hc2) λe w' he=>?_;obtain ⟨Y',r,h1,E',h2,h3⟩:=he;exact ⟨Y',r,h1,E',hle.trans h2,h3⟩⟩
omit [Gl]in
theorem uP_ {E:Env} {i:Nat} {k:IntKind} {n:Int} (hi:E.sy i=some (.int k n)) {v:Value} (h:Con E (.sym i) v):Con E (.int k n) v:=by
 grind [Con,Con0]
end
end Go.Sx
