/-
  Floats: order with powers of two and whole parts; quotients; truncation.
-/
import Derived.Test.YtjconanknjgpnaaGreatSyK
import Derived.Test.YtjconanknjgpnaaGreatSyM
import Derived.Test.YtjconanknjgpnaaGreatSyD
set_option linter.unusedVariables false
set_option linter.unusedSimpArgs false
namespace Go.Sx
theorem qJ_ (s:Bool) (n drop:Nat):Ieee.Toward.zero.cut s n drop=n/2^drop:=by unfold Ieee.Toward.cut;simp only [Bool.toNat_false,Nat.add_zero,Nat.one_shiftLeft];by_cases h:drop<=n.log2+2;rw [Nat.min_eq_left h];rw [Nat.min_eq_right (by omega)];have h1:n<2^(n.log2+1):=Nat.lt_log2_self;have h2:2^(n.log2+1)<=2^(n.log2+2):=Nat.pow_le_pow_right (by omega) (by omega);have h3:2^(n.log2+2)<=2^drop:=Nat.pow_le_pow_right (by omega) (by omega);rw [Nat.div_eq_of_lt (by omega),Nat.div_eq_of_lt (by omega)]
def he_ (m:Nat) (i:Int):Nat:=(m<<<i.toNat)/2^(-i).toNat
theorem lx_ (s:Bool) (m:Nat) (i:Int):(Ieee.Datum.number s m i).toInt .zero=some (if s then -(he_ m i:Int)else (he_ m i:Int)):=by unfold Ieee.Datum.toInt Ieee.Datum.integral;simp only [qJ_,Ieee.signed,Nat.shiftLeft_zero];rfl
theorem kF_ (m:Nat) (i:Int) (T:Nat) (hT:i.natAbs<=T):he_ m i*2^T<=m*2^(i+T).toNat:=by unfold he_;rw [Nat.shiftLeft_eq];rcases Int.le_total 0 i with h|h;have e1:(-i).toNat=0:=(by omega);have e2:(i+T).toNat=i.toNat+T:=(by omega);rw [e1,e2,Nat.pow_zero,Nat.div_one,Nat.pow_add,Nat.mul_assoc];exact Nat.le_refl _;have e1:i.toNat=0:=(by omega);have e2:T=(-i).toNat+(i+T).toNat:=(by omega);rw [e1,Nat.pow_zero,Nat.mul_one];generalize (-i).toNat=a at*;generalize (i+T).toNat=b at*;rw [e2,Nat.pow_add,←Nat.mul_assoc];exact Nat.mul_le_mul_right _ (Nat.div_mul_le_self ..)
theorem re_ {m n:Nat} {i j:Int} (T:Nat) (hi:i.natAbs<=T) (hj:j.natAbs<=T):m<<<(i-min i j).toNat<n<<<(j-min i j).toNat↔m*2^(i+T).toNat<n*2^(j+T).toNat:=by
 have e1:(i+T).toNat=(i-min i j).toNat+(min i j+T).toNat:=by omega
 have e2:(j+T).toNat=(j-min i j).toNat+(min i j+T).toNat:=by omega
 rw [e1,e2,Nat.shiftLeft_eq,Nat.shiftLeft_eq,Nat.pow_add,Nat.pow_add,←Nat.mul_assoc,←Nat.mul_assoc];exact (Nat.mul_lt_mul_right (Nat.pow_pos (by omega))).symm
theorem sg_ {m k:Nat} {i j:Int} (hk:(k:Int)=52+j) (h:m<<<(i-min i j).toNat<4503599627370496<<<(j-min i j).toNat):he_ m i<2^k:=by
 have h1:=(re_ (i.natAbs+j.natAbs) (by omega) (by omega)).1 h;have h2:=kF_ m i (i.natAbs+j.natAbs) (by omega);have e:4503599627370496*2^(j+(i.natAbs+j.natAbs:Nat)).toNat=2^k*2^(i.natAbs+j.natAbs):=by
  have:(4503599627370496:Nat)=2^52:=(by decide);rw [this,←Nat.pow_add,←Nat.pow_add]
  congr 1
  omega
 rw [e]at h1;exact Nat.lt_of_mul_lt_mul_right (Nat.lt_of_le_of_lt h2 h1)
theorem sf_ {m k:Nat} {i j:Int} (hk:(k:Int)=52+j) (h:m<<<(i-min i j).toNat<=4503599627370496<<<(j-min i j).toNat):he_ m i<=2^k:=by
 have h1:¬(4503599627370496*2^(j+(i.natAbs+j.natAbs:Nat)).toNat<m*2^(i+(i.natAbs+j.natAbs:Nat)).toNat):=λhh=>by have:=(re_ (m:=4503599627370496) (n:=m) (i:=j) (j:=i) (i.natAbs+j.natAbs) (by omega) (by omega)).2 hh;rw [Int.min_comm j i]at this;omega
 have h2:=kF_ m i (i.natAbs+j.natAbs) (by omega);have e:4503599627370496*2^(j+(i.natAbs+j.natAbs:Nat)).toNat=2^k*2^(i.natAbs+j.natAbs):=by
  have:(4503599627370496:Nat)=2^52:=(by decide);rw [this,←Nat.pow_add,←Nat.pow_add]
  congr 1
  omega
 rw [e]at h1;exact Nat.le_of_mul_le_mul_right (Nat.le_trans h2 (Nat.le_of_not_lt h1)) (Nat.pow_pos (by omega))
theorem m9_ {b lo hi k:Nat} {j:Int} (hk:(k:Int)=52+j) (hlo:Ieee.double.read lo=.number true 4503599627370496 j) (hhi:Ieee.double.read hi=.number false 4503599627370496 j)
  (h1:Ieee.double.order b lo≠some .lt) (h2:Ieee.double.order b hi=some .lt):∃n:Int,(Ieee.double.read b).toInt .zero=some n/\ -((2^k:Nat):Int)<=n/\n<((2^k:Nat):Int):=by
 unfold Ieee.Format.order at h1 h2;rw [hlo]at h1;rw [hhi]at h2;cases hb:Ieee.double.read b with
 |nan s t=>rw [hb]at h2;cases h2
 |infinity s=>rw [hb]at h1 h2;cases s;exact absurd h2 (by simp [Ieee.Datum.order]);exact absurd rfl h1
 |number s m i=>
  rw [hb]at h1 h2;simp only [Ieee.Datum.order,Option.some.injEq,ne_eq]at h1 h2;have h2:=Int.compare_eq_lt.1 h2;have h1:¬_:=λhh=>h1 (Int.compare_eq_lt.2 hh);refine ⟨_,lx_ s m i,?_⟩;cases s with
  |false=>simp only [Ieee.signed,Bool.false_eq_true,if_false]at h2⊢;have:=sg_ hk (m:=m) (i:=i) (j:=j) (by omega);omega
  |true=>simp only [Ieee.signed,if_true]at h1⊢;have:=sf_ hk (m:=m) (i:=i) (j:=j) (by omega);have:0<2^k:=Nat.pow_pos (by omega);omega
theorem n3_ {a b:Nat} (ha:de_ a=false) (hb:de_ b=false):∃o,Ieee.double.order a b=some o:=by
 unfold Ieee.Format.order;rcases cr_ a with ⟨h,_⟩|⟨_,_,s,e⟩|⟨_,_,⟨s,m,i,hm,hi,e⟩|⟨s,e⟩⟩;rw [ha]at h;cases h;all_goals
  rw [e];rcases cr_ b with ⟨h,_⟩|⟨_,_,t,f⟩|⟨_,_,⟨t,n,j,hn,hj,f⟩|⟨t,f⟩⟩;rw [hb]at h;cases h;all_goals
   rw [f];exact ⟨_,rfl⟩
theorem uz_ {n:Nat}:(Ieee.double.read n).isNaN=de_ n:=by rcases cr_ n with ⟨h,s,q,e⟩|⟨h,_,s,e⟩|⟨h,_,⟨s,m,i,hm,hi,e⟩|⟨s,e⟩⟩;all_goals rw [e,h];rfl
theorem iK_ (s:Bool) {r:Nat} (h:r<=9218868437227405312):de_ (Ieee.double.word s r)=false:=by have e1:Ieee.double.signWeight=9223372036854775808:=rfl;unfold de_ Ieee.Format.word;rw [e1];cases s;simp;omega;simp;omega
theorem hw_ (s:Bool) (m:Nat) (i:Int):de_ (Ieee.double.nearest s m i)=false:=by have e2:Ieee.double.infRung=9218868437227405312:=rfl;unfold Ieee.Format.nearest;split;exact iK_ s (Nat.zero_le _);refine iK_ s ?_;rw [e2];exact Nat.min_le_right _ _
def jk_ (b:Nat):Nat:=Ieee.double.write ((Ieee.double.read b).integral .zero)
theorem p1_ {b:Nat} (h:de_ b=false):de_ (jk_ b)=false:=by unfold jk_;rcases cr_ b with ⟨h',_⟩|⟨_,_,s,e⟩|⟨_,_,⟨s,m,i,hm,hi,e⟩|⟨s,e⟩⟩;rw [h]at h';cases h';rw [e];exact hw_ ..;rw [e];exact hw_ ..;rw [e];exact iK_ s (Nat.le_refl _)
theorem sR_ {P:Program} {k:IntKind} {x c:Int} (hc:c≠0) (t:TypeId) (cx cy:Bool):bC_ P .quo t cx cy (.int k x) (.int k c)=some (.int k (k.wrap (x.tdiv c))):=by show cP_ P .quo k x k c=_;have hb:Nat.beq (kix k) (kix k)=true:=Nat.beq_refl _;unfold cP_;rw [hb];show (match (none:Option AV)with|some r=>some r|none=>eD_ P .quo k x k c)=_;simp only;unfold eD_;simp only [binOp,Op.intDiv,hc,ne_eq,not_true_eq_false,if_false];rfl
section
variable {P:Program}
theorem vr_ {k:IntKind} {x c:Int} (hc:c≠0) (t:TypeId) (cx cy:Bool):(XOp.bin .quo t cx cy).run P [.int k x,.int k c]=some (.int k (k.wrap (x.tdiv c))):=sR_ hc t cx cy
theorem u4_ {k:IntKind} {x c:Int} (hc:c≠0) (t:TypeId) (cx cy:Bool):(XOp.bin .rem t cx cy).run P [.int k x,.int k c]=some (.int k (x.tmod c)):=sV_ hc rfl t cx cy
theorem vo_ {k:IntKind} {x:Int}:(XOp.un .neg).run P [.int k x]=some (.int k (k.wrap (0-x))):=by show j4_ .neg (.int k x)=_;unfold j4_;simp only [dd_,cE_]
theorem mV_ {s d:TypeId} {ds:TypeDesc} {k:FloatKind} {j:IntKind} (hs:P.underlying s=some ds) (hd:P.underlying d=some (.int j)) {b:Nat} {n:Int} (h:(k.decode b).toInt .zero=some n) (h1:j.min<=n) (h2:n<=j.max):(XOp.conv s d).run P [.flt k b]=some (.int j n):=by show b2_ P h0 s d (.flt k b)=_;unfold b2_ e8_;have:decide (j.min<=n/\n<=j.max)=true:=decide_eq_true ⟨h1,h2⟩;simp only [hs,hd,h,this]
end
def fv (o:Option Nat):AV:=mkF .f64 o
theorem vM_ (o:Option Nat):okC (fv o)=true:=by cases o<;>rfl
def nX_:Option Nat->Bool
 |none=>true
 |some b=>de_ b
def ordF (a b:Option Nat):Option Ordering:=fOrd .f64 a b
theorem u3_ (P:Program) (op:BinOp) (t:TypeId) (cx cy:Bool) (a b:Option Nat):(XOp.bin op t cx cy).run P [fv a,fv b]=oH_ op .f64 a b:=by show bC_ P op t cx cy (fv a) (fv b)=_;cases a<;>cases b<;>(unfold bC_;simp only [fv,mkF,im_,flA,decide_true])
theorem uB_ (a:Option Nat):(ordF a a==some .eq)= !nX_ a:=by
 cases a with
 |none=>rfl
 |some b=>exact n2_ b
theorem uX_ {a b:Option Nat} (h:nX_ a=true):ordF a b=none:=by
 cases a with
 |none=>rfl
 |some x=>cases b with
  |none=>rfl
  |some y=>show Ieee.double.order x y=none;unfold Ieee.Format.order;rcases cr_ x with ⟨_,s,q,e⟩|⟨h',_⟩|⟨h',_⟩;rw [e];rfl;rw [show de_ x=true from h]at h';cases h';rw [show de_ x=true from h]at h';cases h'
theorem uC_ {a b:Option Nat} (h:nX_ a=false) (h2:nX_ b=false):∃o,ordF a b=some o:=by
 cases a with
 |none=>cases h
 |some x=>cases b with
  |none=>cases h2
  |some y=>exact n3_ h h2
def ui_:Option Nat->Option Nat
 |none=>none
 |some b=>if de_ b=true then none else some (jk_ b)
theorem uj_ (a:Option Nat):nX_ (ui_ a)=nX_ a:=by
 cases a with
 |none=>rfl
 |some b=>show nX_ (if de_ b=true then none else some (jk_ b))=de_ b;by_cases h:de_ b=true;rw [if_pos h,h];rfl;have h':de_ b=false:=(by simpa using h);rw [if_neg h];show de_ (jk_ b)=de_ b;rw [p1_ h',h']
def se_ (a:Option Nat):Option Int:=match a with
 |none=>none
 |some b=>(Ieee.double.read b).toInt .zero
theorem tg_ {a:Option Nat} {lo hi k:Nat} {j:Int} (hk:(k:Int)=52+j) (hlo:Ieee.double.read lo=.number true 4503599627370496 j) (hhi:Ieee.double.read hi=.number false 4503599627370496 j)
  (h1:ordF a (some lo)≠some .lt) (h2:ordF a (some hi)=some .lt):∃n:Int,se_ a=some n/\ -((2^k:Nat):Int)<=n/\n<((2^k:Nat):Int):=by
 cases a with
 |none=>cases h2
 |some b=>exact m9_ hk hlo hhi h1 h2
theorem ua_ {P:Program} {s d:TypeId} {ds:TypeDesc} {j:IntKind} (hs:P.underlying s=some ds) (hd:P.underlying d=some (.int j)) {a:Option Nat} {n:Int} (h:se_ a=some n) (h1:j.min<=n) (h2:n<=j.max):(XOp.conv s d).run P [fv a]=some (.int j n):=by
 cases a with
 |none=>cases h
 |some b=>exact mV_ hs hd h h1 h2
section
variable [Gl]
def um_ (P:Program) (fuel:Nat) (c:VC) (f:FuncId) (ft:FT) (args:List AV) (H:AHeap) (n:Nat):VT:=match P.funcs[f]? with
 |some fn=>match fn.body with
  |some cd=>match Nat.ble (a0_ args) fn.ntmps&&(Nat.ble fn.ntmps 512&&Nat.beq c.k ft.k)with
   |true=>cl_ P fn.ntmps fuel (inN P fuel 6) c 0 cd ⟨aY_ args 0 tnil,H,n,0,[]⟩ (hb_ P fuel (inN P fuel 6) c fn.results.toList ft none) (tG_ P fuel (inN P fuel 6) c fn.results.toList ft)
   |false=>.bad
  |none=>.bad
 |none=>.bad
end
section
variable [Gl] {P:Program} {c:VC} {fuel:Nat}
theorem FEndW.callO {ft:FT} {R:Nat->List AV->Prop} {Y0 Y:Sy} {f:FuncId} {args:List AV} {H:AHeap} (h:SemCallF P ft.k Y f args H (FEndW P ft R Y0)):SemCallF P ft.k Y f args H (pu_ ft (Nat.add 64 ft.ent.nv) Y0 R):=λB pr E w vs hy hg hr hcon=>
 Calls.mono (h B pr E w vs hy hg hr hcon) λe w' he=>by
  obtain ⟨Y',r,⟨b,a,H',j,ws,tp,rfl,h1,h2,h3,h4,hw⟩,E',hle,hy',hres⟩:=he;have hend:∃u,e=(match b with
    |true=>.panicked [{ v:=u,recovered:=false }]
    |false=>.returned u)/\Con E' a u/\Rel B pr E' H' w':=by
   cases b with
   |true=>exact hres
   |false=>exact hres
  obtain ⟨u,he,hcu,hr'⟩:=hend;have hgl:GlOk E':=hg.leF hle
  let ac:Act:={ tmps:= #[u],defers:=[] }
  have st:St P B pr 1 E' (dY_ topq 0 a) H' [] ac w':=⟨⟨rfl,by omega,λt ht=>by
   by_cases e:0=t;subst e;rw [ao_ _ ht];exact hcu
   .rw [ap_ _ ht (by omega) e,bO_];simp [Con],hgl⟩,hr',rfl⟩
  obtain ⟨E2,hle2,hy2,st2⟩:=hw 1 B pr E' ac w' hy' st;have hcu2:=st2.t.con 0 (by omega);refine ⟨_,_,⟨j,ws,b,tp,h1,h2,h3,h4,rfl,rfl⟩,E2,hle.trans hle2,hy2,?_⟩;cases b with
  |true=>exact ⟨u,he,hcu2,st2.r⟩
  |false=>exact ⟨u,he,hcu2,st2.r⟩
theorem ta_ (hm:P.follows .mixedOrders=true) (hc:aq_ P (a9_ P fuel)) {f:FuncId} {ft:FT} {R:Nat->List AV->Prop} {Y0 Y:Sy} {args:List AV} {H:AHeap} {n:Nat} (hf0:Fresh Y0 (Nat.add 64 ft.ent.nv)) (hf:Good P c n Y) (hx0:Ext (Nat.add 64 ft.ent.nv) Y0 Y) (hn0:Nat.add 64 ft.ent.nv<=n) (h:VOK P (QF R) [] Y (um_ P fuel c f ft args H n)):
  SemCallF P ft.k Y f args H (pu_ ft (Nat.add 64 ft.ent.nv) Y0 R):=by
 unfold um_ at h;split at h
 .rename_i fn hfn;split at h
  .rename_i cd hb;split at h
   .rename_i hle;obtain ⟨h1,hle⟩:=aa_ hle;obtain ⟨h2,h3⟩:=aa_ hle;have h1:args.length<=fn.ntmps:=(by rw [aj_]at h1;simpa [Nat.ble_eq]using h1);have h2:fn.ntmps<=512:=(by simpa [Nat.ble_eq]using h2);have h3:=Nat.eq_of_beq_eq_true h3;have fin:∀u L Y' S,L.length=S.lv->Good P c S.n Y'->Nat.add 64 ft.ent.nv<=S.n->Ext (Nat.add 64 ft.ent.nv) Y0 Y'->VOK P (QF R) L Y' (hb_ P fuel (inN P fuel 6) c fn.results.toList ft u S)->dF_ P c.k fn (FEndW P ft R Y0) Y' S.T S.H S.D u:=by
     intro u L Y' S hL hg hn hx h;refine fp_ hm hc hL hg h λr n' lv' L' Y2 _ _ _ hx2 _ h=>?_;have hx:=hx.trans hx2 hn;cases r with
     |ret a H=>obtain ⟨j,ws,tp,q1,q2,q3,q4,q5⟩:=fo_ (a:=a) rfl rfl hf0 hx ft.exs 0 (λj q hj=>by rw [Nat.zero_add];exact hj) h;exact ⟨false,a,H,j,ws,tp,rfl,q1,q2,q3,q4,q5⟩
     |pan a H=>obtain ⟨j,ws,tp,q1,q2,q3,q4,q5⟩:=fo_ (a:=a) rfl rfl hf0 hx ft.exs 0 (λj q hj=>by rw [Nat.zero_add];exact hj) h;exact ⟨true,a,H,j,ws,tp,rfl,q1,q2,q3,q4,q5⟩
    refine FEndW.callO ?_;rw [←h3];refine lE_ hm hfn hb ⟨h1,h2,az_ cd (λY' T' H' D' hk=>?_) (λY' r hx=>?_) _ _ _ _ (by_ hm hc cd 0 ⟨aY_ args 0 tnil,H,n,0,[]⟩ _ _ Y [] rfl hf h)⟩;obtain ⟨n',lv,L',_,q2,q3,hx,q5,h'⟩:=hk;exact fin none L' Y' ⟨T',H',n',lv,D'⟩ q2 q5 (Nat.le_trans hn0 q3) (hx0.trans hx hn0) h'
    .cases r with
     |norm T H D=>exact hx.elim
     |pan v T H D=>obtain ⟨n',lv,L',_,q2,q3,hx,q5,h'⟩:=hx;exact fin (some v) L' Y' ⟨T,H,n',lv,D⟩ q2 q5 (Nat.le_trans hn0 q3) (hx0.trans hx hn0) h'
     |exit id T H D=>obtain ⟨n',lv,L',_,_,_,_,_,h'⟩:=hx;exact h'.elim
     |ret T H D=>obtain ⟨n',lv,L',_,q2,q3,hx,q5,h'⟩:=hx;exact fin none L' Y' ⟨T,H,n',lv,D⟩ q2 q5 (Nat.le_trans hn0 q3) (hx0.trans hx hn0) h'
   exact h.elim
  exact h.elim
 exact h.elim
theorem vg_ (hm:P.follows .mixedOrders=true) (ho:no_ P) {f:FuncId} {ft:FT} {vs ex args:List AV} {H:AHeap} {n1 n:Nat} {R:Nat->List AV->Prop} {t:VT} (hlen:vs.length=ft.ent.nv) (hk:∀Y,KnownF P c.fc Y) (hn:64+ft.ent.nv+ex.length=n1)
  (hopen:∀(B:World) (pr:Nat->Prop) (E:Env) (w:World) (us:List Value),(∀(i:Nat) (a:AV),vs[i]? =some a->E.sy (64+i)=some a)->(∀(i:Nat) (a:AV),ex[i]? =some a->E.sy (64+ft.ent.nv+i)=some a)->Rel B pr E (ft.ent.heap 64) w->ConL E (bq_ 64 (cm_ ft.ent.slots)) us->Rel B pr E H w/\ConL E args us)
  (ht:um_ P n c f ft args H n1=t) (h:∀Y,Fresh Y 64->Gl.gt Y.v->VOK P (QF R) [] ((Y.puts 64 vs).puts (64+ft.ent.nv) ex) t):CF P f ft vs R:=
 ⟨hlen,λY hf B pr E w us hy hg hr hcon=>by obtain ⟨p1,p2,p3,p4⟩:=hf.puts vs;have hat:=bE_ vs hf;rw [hlen]at p1;obtain ⟨q1,q2,q3,q4⟩:=p1.puts ex;have hae:=bE_ ex p1;have hgt:Gl.gt Y.v:=Gl.gtm _ _ (λi hi=>by rw [hy.v];exact (p4 i hi).symm) hg.2;have hv:∀i a,E.sy i=some a->((Y.puts 64 vs).puts (64+ft.ent.nv) ex).v i=some a:=λi a ha=>(by rw [hy.v]at ha;exact q2 i a ha);have hl:∀i l,E.syl i=some l->((Y.puts 64 vs).puts (64+ft.ent.nv) ex).l i=some l:=λi l ha=>(by rw [hy.l]at ha;rw [q3];exact ha);have hle:E.leF ft.k (E.with ((Y.puts 64 vs).puts (64+ft.ent.nv) ex)):=Env.with_leF ft.k λi hi=>(by rw [hy.v];exact q4 i hi);have hx:Ext (Nat.add 64 ft.ent.nv) (Y.puts 64 vs) ((Y.puts 64 vs).puts (64+ft.ent.nv) ex):=Ext.puts ex _ (Nat.le_refl _);have hr1:=hr.with hv hl;have hc1:=hcon.with hv hl;obtain ⟨hr2,hc2⟩:=hopen B pr (E.with ((Y.puts 64 vs).puts (64+ft.ent.nv) ex)) w us (λi a ha=>q2 _ _ (hat i a ha)) (λi a ha=>hae i a ha) hr1 hc1;have hsem:=ta_ (c:=c) (fuel:=n) (R:=R) (args:=args) (H:=H) (n:=n1) hm (c6_ hm ho n) p1 ⟨by rw [←hn];exact q1,hk _⟩ hx (by rw [←hn];exact Nat.le_add_right _ _) (by rw [ht];exact h Y hf hgt);refine Calls.mono (hsem B pr (E.with ((Y.puts 64 vs).puts (64+ft.ent.nv) ex)) w us ⟨rfl,rfl,hy.res⟩ (hg.leF hle) hr2 hc2) λe w' he=>?_;obtain ⟨Y',r,h1,E',h2,h3⟩:=he;exact ⟨Y',r,h1,E',hle.trans h2,h3⟩⟩
omit [Gl]in
theorem uA_ {E:Env} {i:Nat} {k:IntKind} {n:Int} (hi:E.sy i=some (.int k n)) {v:Value} (h:Con E (.sym i) v):Con E (.int k n) v:=by simp only [Con]at h⊢;obtain ⟨a,h1,_,h2⟩:=h;rw [hi]at h1;cases h1;simpa only [Con0]using h2
end
end Go.Sx
