/-
  The evaluator's arithmetic, comparisons, conversions, maps, copies and makes.
-/
import Derived.Test.YtelnbodnjmldeaaGreatSxD
set_option linter.unusedVariables false
set_option linter.unusedSimpArgs false
open Nat renaming le_of_ble_eq_true→za'
namespace Go.Sx
def fB_ (k:IntKind) (n:Int):Int:=match n with
 | .ofNat m=>match k with
   | .i64=>match Nat.blt m 9223372036854775808 with
     |true=>n
     |false=>k.wrap n
   |_=>match Nat.blt m 128 with
    |true=>n
    |false=>k.wrap n
 | .negSucc m=>match k with
   | .i64=>match Nat.blt m 9223372036854775808 with
     |true=>n
     |false=>k.wrap n
   |_=>k.wrap n
theorem cC_ (k:IntKind) (n:Int):fB_ k n=k.wrap n:=by
 unfold fB_;split
 .rename_i m;split
  .split
   .rename_i h;have h:m<9223372036854775808:=(by simp_all);rw [IntKind.wrap_i64]
    grind
   rfl
  .split
   .rename_i hk _ h;have h:m<128:=(by simp_all);cases k<;>simp [IntKind.wrap,IntKind.bits,IntKind.signed]<;>omega
   rfl
 grind [Nat.blt_eq,IntKind.wrap_i64]
def mkI (k:IntKind) (n:Int):AV:=match n with
 | .ofNat m=>match m with
   |0=>.int k (.ofNat 0)
   | .succ j=>.int k (.ofNat (.succ j))
 | .negSucc m=>match m with
   |0=>.int k (.negSucc 0)
   | .succ j=>.int k (.negSucc (.succ j))
theorem da_ (k:IntKind) (n:Int):mkI k n=.int k n:=by unfold mkI;split<;>split<;>rfl
def ltI (a b:Int):Bool:=match a,b with
 | .ofNat m,.ofNat n=>Nat.blt m n
 | .negSucc m,.negSucc n=>Nat.blt n m
 | .negSucc _,.ofNat _=>true
 | .ofNat _,.negSucc _=>false
theorem iS_ (a b:Int):ltI a b=decide (a<b):=by
 cases a with
 |ofNat m=>cases b with
  |ofNat n=>
   show Nat.blt m n=_;rw [Bool.eq_iff_iff,Nat.blt_eq,decide_eq_true_iff]
   grind
  |negSucc n=>
   show false=_
   grind
 |negSucc m=>cases b with
  |ofNat n=>
   show true=_
   grind
  |negSucc n=>show Nat.blt n m=_;rw [Bool.eq_iff_iff,Nat.blt_eq,decide_eq_true_iff];omega
def eqI (a b:Int):Bool:=match a,b with
 | .ofNat m,.ofNat n=>Nat.beq m n
 | .negSucc m,.negSucc n=>Nat.beq m n
 |_,_=>false
theorem fJ_ (a b:Int):eqI a b=(a==b):=by
 cases a with
 |ofNat m=>cases b with
  |ofNat n=>
   show Nat.beq m n=_;rw [Bool.eq_iff_iff,Nat.beq_eq,beq_iff_eq]
   grind
  |negSucc n=>
   show false=_
   grind
 |negSucc m=>cases b with
  |ofNat n=>
   show false=_
   grind
  |negSucc n=>show Nat.beq m n=_;rw [Bool.eq_iff_iff,Nat.beq_eq,beq_iff_eq];omega
def dp_ (op:BinOp) (k:IntKind) (a b:Int):Option AV:=match op with
 | .add=>some (mkI k (fB_ k (Int.add a b)))
 | .sub=>some (mkI k (fB_ k (Int.sub a b)))
 | .mul=>some (mkI k (fB_ k (Int.mul a b)))
 | .eql=>some (.bool (eqI a b))
 | .neq=>some (.bool (not (eqI a b)))
 | .lss=>some (.bool (ltI a b))
 | .leq=>some (.bool (not (ltI b a)))
 | .gtr=>some (.bool (ltI b a))
 | .geq=>some (.bool (not (ltI a b)))
 |_=>none
theorem p7_ (a b:Int):(!decide (a<b))=decide (b<=a):=by
 grind
theorem pM_ {P:Program} {op:BinOp} {k:IntKind} {a b:Int} {r:AV} (h:dp_ op k a b=some r) (t:TypeId) (w:World) (E:Env):
  ∃v,(binOp op t (.int k a) (.int k b)).run P w=.ok v w/\Con E r v:=by
 cases op<;>simp only [dp_,Option.some.injEq,reduceCtorEq]at h<;>subst h<;>
  simp only [da_,cC_,fJ_,iS_,p7_,Con]<;>refine ⟨_,?_,rfl⟩<;>simp [binOp,Op.intArith,Op.intCmp,bne]<;>rfl
def eqB:List UInt8->List UInt8->Bool
 |[],[]=>true
 |a::x,b::y=>match Nat.beq a.toNat b.toNat with
  |true=>eqB x y
  |false=>false
 |_,_=>false
theorem d3_:∀a b:List UInt8,eqB a b=(a==b)
 |[],[]=>rfl
 |[],_::_=>rfl
 |_::_,[]=>rfl
 |a::x,b::y=>by
  simp only [eqB];have e:Nat.beq a.toNat b.toNat=(a==b):=by
   rw [Bool.eq_iff_iff,Nat.beq_eq,beq_iff_eq]
   grind [UInt8.toNat_inj]
  split;rename_i h;rw [d3_ x y];rw [e]at h;show _=((a==b)&&(x==y));rw [h];simp;rename_i h;rw [e]at h;show _=((a==b)&&(x==y));rw [h];simp
def jj_ (d:TypeDesc) (x y:AV):Option Bool:=match d with
 | .bool=>match x,y with
   | .bool a,.bool b=>some (a==b)
   |_,_=>none
 | .int _=>match x,y with
   | .int k a,.int k' b=>match decide (k=k')with
     |true=>some (eqI a b)
     |false=>none
   |_,_=>none
 | .float _=>match x,y with
   | .flt k a,.flt k' b=>match decide (k=k')with
     |true=>some (Op.floatEq k a b)
     |false=>none
   | .nan k,.flt k' _=>match decide (k=k')with
     |true=>some false
     |false=>none
   | .flt k _,.nan k'=>match decide (k=k')with
     |true=>some false
     |false=>none
   | .nan k,.nan k'=>match decide (k=k')with
     |true=>some false
     |false=>none
   |_,_=>none
 | .string=>match x,y with
   | .str a,.str b=>some (eqB a b)
   |_,_=>none
 | .pointer _=>match x,y with
   | .nptr,.nptr=>some true
   | .nptr,.ptr _ _=>some false
   | .ptr _ _,.nptr=>some false
   | .nptr,.vptr _=>some false
   | .vptr _,.nptr=>some false
   |_,_=>none
 | .slice _=>match x,y with
   | .nsl,.nsl=>some true
   | .nsl,.sl _ _ _ _ _=>some false
   | .sl _ _ _ _ _,.nsl=>some false
   | .nsl,.vsl _ _ _=>some false
   | .vsl _ _ _,.nsl=>some false
   |_,_=>none
 | .map _ _=>match x,y with
   | .nmap,.nmap=>some true
   | .nmap,.map _=>some false
   | .map _,.nmap=>some false
   |_,_=>none
 | .interface _=>match x,y with
   | .nif,.nif=>some true
   | .nif,.iface _ _=>some false
   | .iface _ _,.nif=>some false
   |_,_=>none
 |_=>none
theorem eN_ {k:FloatKind} {a:Nat} (h:(k.format.read a).isNaN=true) (b:Nat):k.format.order a b=none:=by
 unfold Ieee.Format.order;revert h;generalize k.format.read a=x;generalize k.format.read b=y;intro h;cases x<;>simp [Ieee.Datum.isNaN]at h
 cases y<;>rfl
theorem hF_ {k:FloatKind} {b:Nat} (h:(k.format.read b).isNaN=true) (a:Nat):k.format.order a b=none:=by
 unfold Ieee.Format.order;revert h;generalize k.format.read a=x;generalize k.format.read b=y;intro h;cases y<;>simp [Ieee.Datum.isNaN]at h
 cases x<;>rfl
def qZ_ (P:Program) (eq:TypeId->AV->AV->Option Bool):List Field->List AV->List AV->Option Bool
 |[],_,_=>some true
 |f::fs,xs,ys=>match f.name== "_" with
  |true=>none
  |false=>match iy_ P f.type xs f.offset with
   |none=>none
   |some a=>match iy_ P f.type ys f.offset with
    |none=>none
    |some b=>match eq f.type a b with
     |some true=>qZ_ P eq fs xs ys
     |some false=>some false
     |none=>none
def eqA (P:Program):Nat->TypeId->AV->AV->Option Bool
 |0,_,_,_=>none
 |d+1,t,x,y=>match P.underlying t with
  |none=>none
  |some (.struct fs)=>match x,y with
   | .agg xs,.agg ys=>match P.stoodInHeld t with
     |false=>qZ_ P (eqA P d) fs.toList xs ys
     |true=>none
   |_,_=>none
  |some dsc=>jj_ dsc x y
section
variable {P:Program} {B:World} {pr:Nat->Prop} {E:Env} {H:AHeap} {w:World}
set_option maxHeartbeats 2000000 in
theorem ly_ {d:TypeDesc} {t:TypeId} (hd:P.underlying t=some d) {x y:AV} {u v:Value} (hx:Con E x u) (hy:Con E y v) {b:Bool} (h:jj_ d x y=some b) (n:Nat):
  (Op.equalIn (n+1) t u v).run P w=.ok b w:=by
 unfold jj_ at h;split at h<;>(first|(cases h;done)|skip)
 .split at h<;>(first|(cases h;done)|skip)
  cases h;simp only [Con]at hx hy;subst hx hy;simp [Op.equalIn,run_underlying hd]
 .split at h<;>(first|(cases h;done)|skip)
  split at h<;>(first|(cases h;done)|skip)
  rename_i hk;cases h;simp only [Con]at hx hy;subst hx hy;have hk:=of_decide_eq_true hk;subst hk;simp [Op.equalIn,run_underlying hd,fJ_]
 .split at h<;>(first|(cases h;done)|skip)
  split at h<;>(first|(cases h;done)|skip)
  rename_i hk;cases h;simp only [Con]at hx hy;subst hx hy;have hk:=of_decide_eq_true hk;subst hk;simp [Op.equalIn,run_underlying hd];all_goals
   split at h<;>(first|(cases h;done)|skip)
   rename_i hk;cases h;simp only [Con]at hx hy;have hk:=of_decide_eq_true hk;subst hk
  obtain ⟨b,rfl,hn⟩:=hx;subst hy;simp [Op.equalIn,run_underlying hd,Op.floatEq,eN_ hn];obtain ⟨b,rfl,hn⟩:=hy;subst hx;simp [Op.equalIn,run_underlying hd,Op.floatEq,hF_ hn];obtain ⟨b,rfl,hn⟩:=hx;obtain ⟨c,rfl,_⟩:=hy;simp [Op.equalIn,run_underlying hd,Op.floatEq,eN_ hn]
 .split at h<;>(first|(cases h;done)|skip)
  rename_i a b;cases h;simp only [Con]at hx hy;subst hx hy;simp [Op.equalIn,run_underlying hd,d3_]
  grind [beq_toListBytes,ByteArray.toList_eq]
 .split at h<;>(first|(cases h;done)|skip)<;>cases h<;>simp only [Con]at hx hy
  subst hx hy;simp [Op.equalIn,run_underlying hd];obtain ⟨_,_,_,rfl⟩:=hy;subst hx;simp [Op.equalIn,run_underlying hd];obtain ⟨_,_,_,rfl⟩:=hx;subst hy;simp [Op.equalIn,run_underlying hd];obtain ⟨_,_,_,rfl,_⟩:=hy;subst hx;simp [Op.equalIn,run_underlying hd];obtain ⟨_,_,_,rfl,_⟩:=hx;subst hy;simp [Op.equalIn,run_underlying hd]
 .split at h<;>(first|(cases h;done)|skip)<;>cases h<;>simp only [Con]at hx hy
  subst hx hy;simp [Op.equalIn,run_underlying hd];obtain ⟨_,_,_,_,_,_,_,rfl,_⟩:=hy;subst hx;simp [Op.equalIn,run_underlying hd];obtain ⟨_,_,_,_,_,_,_,rfl,_⟩:=hx;subst hy;simp [Op.equalIn,run_underlying hd];obtain ⟨_,_,_,_,rfl,_⟩:=hy;subst hx;simp [Op.equalIn,run_underlying hd];obtain ⟨_,_,_,_,rfl,_⟩:=hx;subst hy;simp [Op.equalIn,run_underlying hd]
 .split at h<;>(first|(cases h;done)|skip)<;>cases h<;>simp only [Con]at hx hy
  subst hx hy;simp [Op.equalIn,run_underlying hd];obtain ⟨_,_,rfl⟩:=hy;subst hx;simp [Op.equalIn,run_underlying hd];obtain ⟨_,_,rfl⟩:=hx;subst hy;simp [Op.equalIn,run_underlying hd]
 .split at h<;>(first|(cases h;done)|skip)<;>cases h<;>simp only [Con]at hx hy
  subst hx hy;simp [Op.equalIn,run_underlying hd];obtain ⟨_,rfl,_⟩:=hy;subst hx;simp [Op.equalIn,run_underlying hd];obtain ⟨_,rfl,_⟩:=hx;subst hy;simp [Op.equalIn,run_underlying hd]
theorem l6_ {eq:TypeId->AV->AV->Option Bool} {d:Nat}
  (heq:∀(t:TypeId) (x y:AV) (u v:Value) (b:Bool),Con E x u->Con E y v->eq t x y=some b->(Op.equalIn d t u v).run P w=.ok b w) {xs ys:List AV} {us vs:List Value} (hx:ConL E xs us) (hy:ConL E ys vs):
  ∀{fs:List Field} {b:Bool},qZ_ P eq fs xs ys=some b->(Op.eqFields d ⟨us⟩ ⟨vs⟩ fs).run P w=.ok b w
 |[],b,h=>by simp_all [qZ_,Op.eqFields]
 |f::fs,b,h=>by
  simp only [qZ_]at h;split at h;cases h;rename_i hn;have hn:f.name≠ "_" :=(by grind);split at h;cases h;rename_i a ha;split at h;cases h;rename_i c hc;obtain ⟨u,hu,hcu⟩:=fK_ (P:=P) (w:=w) hx ha;obtain ⟨v,hv,hcv⟩:=fK_ (P:=P) (w:=w) hy hc;split at h;rename_i he;have:=heq _ _ _ _ _ _ hcu hcv he;simp [Op.eqFields,hn,hu,hv,this,l6_ heq hx hy h];rename_i he;have:=heq _ _ _ _ _ _ hcu hcv he;simp_all [Op.eqFields]
  cases h
theorem oD_:∀{d:Nat} {t:TypeId} {x y:AV} {u v:Value} {b:Bool},Con E x u->Con E y v->eqA P d t x y=some b->∀n,d<=n->(Op.equalIn n t u v).run P w=.ok b w
 |0,t,x,y,u,v,b,_,_,h,n,hn=>by simp [eqA]at h
 |d+1,t,x,y,u,v,b,hx,hy,h,n,hn=>by
  obtain ⟨m,rfl⟩:∃m,n=m+1:=⟨n-1,by omega⟩;simp only [eqA]at h;split at h;cases h;rename_i fs hd;split at h;split at h;rename_i hs;simp only [Con]at hx hy;obtain ⟨us,rfl,hxl⟩:=hx;obtain ⟨vs,rfl,hyl⟩:=hy;have hf:P.fieldsOf t=fs:=(by simp [Program.fieldsOf,hd]);rw [run_equalIn_struct w m t ⟨us⟩ ⟨vs⟩ (by rw [hf];exact hd) hs,hf];exact l6_ (λt' x' y' u' v' b' h1 h2 h3=>oD_ h1 h2 h3 m (by omega)) hxl hyl h;cases h;cases h
  grind [ly_]
def by_:Operand->Bool
 | .const _=>true
 |_=>false
def gi_ (P:Program) (t:TypeId) (cx cy:Bool) (x y:AV):Bool:=match x,y with
 | .nif,.nif=>cx||cy
 | .agg _,.agg _=>not (P.eqGuardType P.depth t)
 | .opq,_=>false
 |_,.opq=>false
 | .sym _,_=>false
 |_,.sym _=>false
 | .slx _ _ _,_=>false
 |_,.slx _ _ _=>false
 | .ptx _ _ _ _,_=>false
 |_,.ptx _ _ _ _=>false
 |_,_=>true
set_option maxHeartbeats 2000000 in
theorem pW_ {t:TypeId} {ox oy:Operand} {x y:AV} {u v:Value} (hx:Con E x u) (hy:Con E y v) (h:gi_ P t (by_ ox) (by_ oy) x y=true) (op:BinOp):
  (eqGuard op t ox oy u v).run P w=.ok () w:=by
 by_cases hop:op=.eql\/op=.neq
 case neg=>cases op<;>first|rfl|exact absurd (.inl rfl) hop|exact absurd (.inr rfl) hop
 have e0:eqGuard op t ox oy u v=eqGuard .eql t ox oy u v:=by rcases hop with rfl|rfl<;>rfl
 rw [e0];clear e0 hop;unfold eqGuard;simp only [Bool.not_true,Bool.false_eq_true,if_false];by_cases h1:x=.nif/\y=.nif
 .obtain ⟨rfl,rfl⟩:=h1;subst hx hy;simp only [gi_]at h;have hh:by_ ox=true\/by_ oy=true:=(by simpa using h);cases ox<;>cases oy<;>simp only [by_,Bool.false_eq_true,or_self]at hh<;>simp
 .by_cases h2:(∃xs,x=.agg xs)/\(∃ys,y=.agg ys);obtain ⟨⟨xs,rfl⟩,⟨ys,rfl⟩⟩:=h2;obtain ⟨us,rfl,_⟩:=hx;obtain ⟨vs,rfl,_⟩:=hy;simp_all [gi_]
  .have hu:(match u,v with
     | .nilIface,.nilIface=>False
     | .agg _,.agg _=>False
     |_,_=>True):=by
     cases x<;>cases y<;>simp only [gi_,Bool.false_eq_true]at h<;>
      first
       |(exact absurd ⟨rfl,rfl⟩ h1)
       |(exact absurd ⟨⟨_,rfl⟩,⟨_,rfl⟩⟩ h2)
       |(simp only [Con]at hx hy
         (try subst hx)
         (try subst hy)
         (try (obtain ⟨_,_,_,rfl⟩:=hx))
         (try (obtain ⟨_,_,_,rfl,_⟩:=hx))
         (try (obtain ⟨_,_,_,_,_,_,_,rfl,_⟩:=hx))
         (try (obtain ⟨_,_,_,_,rfl,_⟩:=hx))
         (try (obtain ⟨_,_,rfl⟩:=hx))
         (try (obtain ⟨_,rfl,_⟩:=hx))
         (try (obtain ⟨_,_,_,rfl⟩:=hy))
         (try (obtain ⟨_,_,_,rfl,_⟩:=hy))
         (try (obtain ⟨_,_,_,_,_,_,_,rfl,_⟩:=hy))
         (try (obtain ⟨_,_,_,_,rfl,_⟩:=hy))
         (try (obtain ⟨_,_,rfl⟩:=hy))
         (try (obtain ⟨_,rfl,_⟩:=hy))
         trivial)
   split<;>simp_all
def oK_ (P:Program) (neg:Bool) (t:TypeId) (cx cy:Bool) (x y:AV):Option AV:=match gi_ P t cx cy x y with
 |false=>none
 |true=>match eqA P 8 t x y with
  |some b=>some (.bool (xor neg b))
  |none=>none
end
section
variable {P:Program} {B:World} {pr:Nat->Prop} {E:Env} {H:AHeap} {w:World}
def hA_ (d:TypeDesc) (x y:AV):Option Bool:=match d with
 | .bool=>match x,y with
   | .bool a,.bool b=>some (a==b)
   |_,_=>none
 | .int _=>match x,y with
   | .int k a,.int k' b=>match decide (k=k')with
     |true=>some (eqI a b)
     |false=>none
   |_,_=>none
 | .string=>match x,y with
   | .str a,.str b=>some (eqB a b)
   |_,_=>none
 |_=>none
def gl_ (d:TypeDesc) (x:AV):Bool:=match d,x with
 | .bool,.bool _=>true
 | .int _,.int _ _=>true
 | .string,.str _=>true
 |_,_=>false
theorem jZ_ (a b:List UInt8):((⟨⟨a⟩⟩:ByteArray)==⟨⟨b⟩⟩)=(a==b):=
 by simp [beq_toListBytes,trans,ByteArray.toList_eq]
theorem kn_ {d:TypeDesc} {x y:AV} {u v:Value} (hx:Con E x u) (hy:Con E y v) {b:Bool} (h:hA_ d x y=some b):Instr.sameNow d u v=some b:=by
 unfold hA_ at h;split at h<;>(first|(cases h;done)|skip)
 .split at h<;>(first|(cases h;done)|skip)
  cases h;subst hx hy;rfl
 .split at h<;>(first|(cases h;done)|skip)
  split at h<;>(first|(cases h;done)|skip)
  simp_all [Con,Instr.sameNow,fJ_]
 grind [Con,Instr.sameNow,d3_,jZ_]
theorem nT_ {d:TypeDesc} {x y:AV} {u v:Value} (hx:Con E x u) (hy:Con E y v) (h:hA_ d x y=some true):u=v:=by
 unfold hA_ at h;split at h<;>(first|(cases h;done)|skip)
 .grind [Con]
 .split at h<;>(first|(cases h;done)|skip)
  split at h<;>(first|(cases h;done)|skip)
  simp_all [Con,fJ_]
 grind [Con,d3_]
theorem hB_ {d:TypeDesc} {t:TypeId} (hd:P.underlying t=some d) {x:AV} {u:Value} (hx:Con E x u) (h:gl_ d x=true) (e:Bool) (n:Nat):
  (Instr.checkKey e (n+1) t u).run P w=.ok () w:=by
 cases d<;>cases x<;>simp only [gl_,Bool.false_eq_true]at h<;>(simp_all [Instr.checkKey,run_underlying])
def dL_ (d:TypeDesc) (k:AV):List (AV×AV×Nat)->Nat->Option (Option (Nat×AV))
 |[],_=>some none
 |(q,v,_)::r,i=>match hA_ d k q with
  |some true=>some (some (i,v))
  |some false=>dL_ d k r (Nat.succ i)
  |none=>none
theorem dM_ {d:TypeDesc} {k:AV} {kv:Value} (hk:Con E k kv):∀{es:List (AV×AV×Nat)} {ms:List MapEntry} (hc:ConE E es ms) {i:Nat} {r:Option (Nat×AV)},dL_ d k es i=some r->
  match r with
  |none=>Instr.findNow d kv ms i=some none
  |some (j,a)=>i<=j/\∃e q n,ms[j-i]? =some e/\Instr.findNow d kv ms i=some (some (j,e.val))/\Con E a e.val/\es[j-i]? =some (q,a,n)/\e.key=kv/\Con E q e.key
 |[],ms,hc,i,r,h=>by cases h;subst hc;rfl
 |(q,v,n)::es,ms,hc,i,r,h=>by
  obtain ⟨e,ms',rfl,h1,h2,h3,h4⟩:=hc;simp only [dL_]at h;split at h;rename_i hq;cases h;have hs:=kn_ hk h1 hq;have he:=nT_ hk h1 hq;simp_all [Instr.findNow]
  .rename_i hq;have hs:=kn_ hk h1 hq;have ih:=dM_ hk h4 h;cases r with
   |none=>
    grind [Instr.findNow]
   |some p=>
    grind [Instr.findNow]
  cases h
def h1_ (P:Program) (kt:TypeId) (k q:AV):Option Bool:=match ck_ k with
 |some kv=>match ck_ q with
  |some qv=>aI_ P (Op.equal kt kv qv)
  |none=>none
 |none=>none
def dF_ (k q:AV):Bool:=match ck_ k with
 |some kv=>match ck_ q with
  |some qv=>Instr.sameBits 10000 qv kv
  |none=>false
 |none=>false
def isSome {α:Type} (x:Option α):Bool:=match x with
 |some _=>true
 |none=>false
def d0_ (P:Program) (kt:TypeId) (k:AV):Bool:=match ck_ k with
 |some kv=>isSome (aI_ P (Instr.checkKey true 10000 kt kv))&&isSome (aI_ P (Instr.checkKey false 10000 kt kv))
 |none=>false
def ec_ (d:TypeDesc):Bool:=match d with
 | .struct _=>true
 | .array _ _=>true
 |_=>false
def dN_ (P:Program) (kt:TypeId) (k:AV):List (AV×AV×Nat)->Nat->Option (Option (Nat×AV×AV))
 |[],_=>some none
 |(q,v,_)::r,i=>match h1_ P kt k q with
  |some true=>some (some (i,q,v))
  |some false=>dN_ P kt k r (Nat.succ i)
  |none=>none
theorem hq_ {kt:TypeId} {k q:AV} {kv qv:Value} (hk:Con E k kv) (hq:Con E q qv) {b:Bool} (h:h1_ P kt k q=some b):(Op.equal kt kv qv).run P w=.ok b w:=by
 grind [h1_,eP_,bv_]
theorem kR_ {k q:AV} {kv qv:Value} (hk:Con E k kv) (hq:Con E q qv) (h:dF_ k q=true):Instr.sameBits 10000 qv kv=true:=by
 grind [dF_,eP_]
theorem nS_ {s:Sem Unit} (h:isSome (aI_ P s)=true):s.run P w=.ok () w:=by
 unfold isSome at h
 grind [bv_]
theorem hl_ {kt:TypeId} {k:AV} {kv:Value} (hk:Con E k kv) (h:d0_ P kt k=true) (b:Bool):(Instr.checkKey b 10000 kt kv).run P w=.ok () w:=by
 unfold d0_ at h;split at h
 .rename_i kv' h1;rw [eP_ h1 hk];cases b<;>grind [nS_]
 cases h
theorem cc_ {kt:TypeId} {d:TypeDesc} (hd:P.underlying kt=some d) (hn:ec_ d=true) (kv:Value) (ms:List MapEntry):(Instr.findKey kt kv ms).run P w=(Instr.findAsking kt kv ms).run P w:=by
 have e:Instr.findNow d kv ms 0=match ms with|[]=>some none|_::_=>none:=by
  cases ms with
  |nil=>rfl
  |cons e ms=>cases d<;>simp only [ec_,Bool.false_eq_true]at hn<;>simp [Instr.findNow,Instr.sameNow]
 simp only [Instr.findKey,Sem.run_bind,run_underlying hd,Result.andThen_ok,e];cases ms<;>rfl
theorem dO_ {kt:TypeId} {k:AV} {kv:Value} (hk:Con E k kv):∀{es:List (AV×AV×Nat)} {ms:List MapEntry} (hc:ConE E es ms) {i:Nat} {r:Option (Nat×AV×AV)},dN_ P kt k es i=some r->
  match r with
  |none=>(Instr.findAsking kt kv ms i).run P w=.ok none w
  |some (j,q,a)=>i<=j/\∃e n,ms[j-i]? =some e/\(Instr.findAsking kt kv ms i).run P w=.ok (some (j,e.val)) w/\Con E a e.val/\es[j-i]? =some (q,a,n)/\Con E q e.key
 |[],ms,hc,i,r,h=>by cases h;subst hc;rfl
 |(q,v,n)::es,ms,hc,i,r,h=>by
  obtain ⟨e,ms',rfl,h1,h2,h3,h4⟩:=hc;simp only [dN_]at h;split at h;rename_i hq;cases h;have hs:=hq_ (w:=w) hk h1 hq;simp_all [Instr.findAsking]
  .rename_i hq;have hs:=hq_ (w:=w) hk h1 hq;have ih:=dO_ hk h4 h;cases r with
   |none=>simp_all [Instr.findAsking]
   |some p=>
    obtain ⟨j,q',a⟩:=p;obtain ⟨g1,e',n',g2,g3,g4,g5,g6⟩:=ih;refine ⟨by omega,e',n',?_,?_,g4,?_,g6⟩
    .grind
    simp_all [Instr.findAsking]
    grind
  cases h
def fc_ (P:Program) (H:AHeap) (t:TypeId):Option (AV×AHeap):=match H.room with
 |true=>some (.map H.next,H.push (.map [] 0))
 |false=>none
theorem jJ_ (hr:Rel B pr E H w) {t:TypeId} {r:AV×AHeap} (h:fc_ P H t=some r):Gives P B pr E w (Instr.makeMap t none) r:=by unfold fc_ at h;split at h;rename_i hroom;cases h;obtain ⟨h1,h2⟩:=hr.new_map hroom;refine ⟨_,.map (some w.heap.size),w.alloc (.map #[] 0),by rfl,h1,h2,?_⟩;exact ⟨w.heap.size,by simp [Env.bind],rfl⟩;cases h
def i0_ (ok:Bool) (a:AV) (b:Bool):AV:=match ok with
 |true=>.tup [a,.bool b]
 |false=>a
theorem cY_ {a:AV} {v:Value} (h:Con E a v) (ok b:Bool):Con E (i0_ ok a b) (if ok then .tuple #[v,.bool b]else v):=by cases ok;exact h;exact ⟨[v,.bool b],rfl,ConL.cons h (ConL.cons (by simp [Con]) (ConL.nil E))⟩
def dJ_ (P:Program) (H:AHeap) (kt et:TypeId) (d:TypeDesc) (m k:AV) (ok:Bool):Option AV:=match ec_ d&&d0_ P kt k with
 |false=>none
 |true=>match P.info? et with
  |none=>none
  |some i=>match i.zero with
   |none=>none
   |some z=>match m with
    | .map id=>match H.get id with
      |some (.map es _)=>match dN_ P kt k es 0 with
        |some (some (_,_,a))=>some (i0_ ok a true)
        |some none=>some (i0_ ok (ofV z) false)
        |none=>none
      |_=>none
    |_=>none
theorem hM_ (hr:Rel B pr E H w) {t kt et:TypeId} {d:TypeDesc} (hd:P.underlying t=some (.map kt et)) (hkd:P.underlying kt=some d) {m k:AV} {mv kv:Value} (hm:Con E m mv) (hk:Con E k kv) {ok:Bool} {r:AV}
  (h:dJ_ P H kt et d m k ok=some r):∃v,(Instr.lookup t mv kv ok).run P w=.ok v w/\Con E r v:=by
 unfold dJ_ at h;split at h;cases h;rename_i hb;obtain ⟨hn,hck0⟩:ec_ d=true/\d0_ P kt k=true:=by grind
 split at h;cases h;rename_i i hi;split at h;cases h;rename_i z hz;have hck:∀b,(Instr.checkKey b 10000 kt kv).run P w=.ok () w:=λb=>hl_ hk hck0 b;have hzv:(zeroValue et).run P w=.ok z w:=by simp [zeroValue,typeInfo,hi,hz]
 split at h;obtain ⟨b,hφ,rfl⟩:=hm;split at h;rename_i es clock cg_;obtain ⟨_,es',hg,hce⟩:=hr.blk cg_ hφ;have hgo:(getObj b).run P w=.ok (.map es' clock) w:=(by simp [getObj,Sem.run,hg]);split at h;rename_i j q a hf;cases h;have:=dO_ (w:=w) hk hce hf;obtain ⟨_,e,n,_,hfn,hca,_⟩:=this;refine ⟨_,?_,cY_ hca ok true⟩;simp [Instr.lookup,run_underlying hd,hgo,hck,cc_ hkd hn,hfn];rename_i hf;cases h;have:=dO_ (w:=w) hk hce hf;refine ⟨_,?_,cY_ (cK_ E z) ok false⟩;simp [Instr.lookup,run_underlying hd,hgo,hck,cc_ hkd hn,this,hzv];cases h;cases h;cases h
def br_ (P:Program) (H:AHeap) (t:TypeId) (m k:AV) (ok:Bool):Option AV:=match P.underlying t with
 |some (.map kt et)=>match P.underlying kt with
  |some d=>match gl_ d k with
   |false=>dJ_ P H kt et d m k ok
   |true=>match P.info? et with
    |none=>none
    |some i=>match i.zero with
     |none=>none
     |some z=>match m with
      | .nmap=>some (i0_ ok (ofV z) false)
      | .map id=>match H.get id with
        |some (.map es _)=>match dL_ d k es 0 with
          |some (some (_,a))=>some (i0_ ok a true)
          |some none=>some (i0_ ok (ofV z) false)
          |none=>none
        |_=>none
      |_=>none
  |none=>none
 |_=>none
theorem eD_ (hr:Rel B pr E H w) {t:TypeId} {m k:AV} {mv kv:Value} (hm:Con E m mv) (hk:Con E k kv) {ok:Bool} {r:AV} (h:br_ P H t m k ok=some r):
  ∃v,(Instr.lookup t mv kv ok).run P w=.ok v w/\Con E r v:=by
 unfold br_ at h;split at h
 case h_2=>cases h
 rename_i kt et hd;split at h
 case h_2=>cases h
 rename_i d hkd;split at h;exact hM_ hr hd hkd hm hk h;rename_i hko;split at h;cases h;rename_i i hi;split at h;cases h;rename_i z hz;have hck:∀b,(Instr.checkKey b 10000 kt kv).run P w=.ok () w:=λb=>hB_ hkd hk hko b 9999;have hzv:(zeroValue et).run P w=.ok z w:=by simp [zeroValue,typeInfo,hi,hz]
 cases m<;>simp only [reduceCtorEq]at h
 case nmap=>
  cases h;refine ⟨_,?_,cY_ (cK_ E z) ok false⟩;simp_all [Con,Instr.lookup,run_underlying,Instr.findKey,Instr.findNow]
 case map id=>
  obtain ⟨b,hφ,rfl⟩:=hm;split at h;rename_i es clock cg_;obtain ⟨_,es',hg,hce⟩:=hr.blk cg_ hφ;have hgo:(getObj b).run P w=.ok (.map es' clock) w:=(by simp [getObj,Sem.run,hg]);split at h;rename_i j a hf;cases h;have:=dM_ hk hce hf;obtain ⟨_,e,q,n,_,hfn,hca,_⟩:=this;refine ⟨_,?_,cY_ hca ok true⟩;simp [Instr.lookup,run_underlying hd,hgo,hck,Instr.findKey,run_underlying hkd,hfn];rename_i hf;cases h;have:=dM_ hk hce hf;refine ⟨_,?_,cY_ (cK_ E z) ok false⟩;simp [Instr.lookup,run_underlying hd,hgo,hck,Instr.findKey,run_underlying hkd,this,hzv];cases h;cases h
theorem ge_ (hr:Rel B pr E H w) {t:TypeId} {m k:AV} {mv kv:Value} (hm:Con E m mv) (hk:Con E k kv) {ok:Bool} {r:AV} (h:br_ P H t m k ok=some r):
  Gives P B pr E w (Instr.lookup t mv kv ok) (r,H):=by
 obtain ⟨v,h1,h2⟩:=eD_ hr hm hk h;exact Gives.still hr h1 h2
def n1_:List (AV×AV×Nat)->Nat->AV->List (AV×AV×Nat)
 |[],_,_=>[]
 |(k,_,n)::r,0,v=>(k,v,n)::r
 |e::r,i+1,v=>e::n1_ r i v
def eV_:List (AV×AV×Nat)->(AV×AV×Nat)->List (AV×AV×Nat)
 |[],e=>[e]
 |a::r,e=>a::eV_ r e
theorem hc_ {q v:AV} {n:Nat} {e:MapEntry} (h1:Con E q e.key) (h2:Con E v e.val) (h3:e.born=n):∀{es:List (AV×AV×Nat)} {ms:List MapEntry},ConE E es ms->ConE E (eV_ es (q,v,n)) (ms++[e])
 |[],ms,h=>by simp only [ConE]at h;simp only [eV_,ConE];grind
 |(k,u,m)::r,ms,h=>by obtain ⟨e',ms',rfl,g1,g2,g3,g4⟩:=h;exact ⟨e',ms'++[e],rfl,g1,g2,g3,hc_ h1 h2 h3 g4⟩
theorem mE_ {v:AV} {vv kv:Value} (hv:Con E v vv):∀{es:List (AV×AV×Nat)} {ms:List MapEntry} {i:Nat} {q a:AV} {n:Nat},ConE E es ms->es[i]? =some (q,a,n)->Con E q kv->
  ConE E (n1_ es i v) (ms.modify i λe=>{ e with key:=kv,val:=vv })
 |[],ms,i,q,a,n,h,hi,_=>by simp at hi
 |(k,u,m)::r,ms,0,q,a,n,h,hi,hq=>by
  grind [n1_,ConE]
 |(k,u,m)::r,ms,i+1,q,a,n,h,hi,hq=>by obtain ⟨e',ms',rfl,g1,g2,g3,g4⟩:=h;simp only [n1_,ConE];exact ⟨e',_,by simp,g1,g2,g3,mE_ hv g4 (by simpa using hi) hq⟩
def mF_:List (AV×AV×Nat)->Nat->AV->AV->List (AV×AV×Nat)
 |[],_,_,_=>[]
 |(_,_,n)::r,0,k,v=>(k,v,n)::r
 |e::r,i+1,k,v=>e::mF_ r i k v
theorem mG_ {k v:AV} {kv vv:Value} (hk:Con E k kv) (hv:Con E v vv):∀{es:List (AV×AV×Nat)} {ms:List MapEntry} {i:Nat},ConE E es ms->ConE E (mF_ es i k v) (ms.modify i λe=>{ e with key:=kv,val:=vv })
 |[],ms,i,hc=>by
  grind [ConE,mF_]
 |(q,a,n)::es,ms,0,hc=>by
  simp only [ConE]at hc;simp only [mF_,ConE,List.modify_zero_cons]
  grind
 |(q,a,n)::es,ms,i+1,hc=>by obtain ⟨e,ms',rfl,h1,h2,h3,h4⟩:=hc;exact ⟨_,_,rfl,h1,h2,h3,mG_ hk hv h4⟩
def ca_ (P:Program) (H:AHeap) (kt:TypeId) (d:TypeDesc) (m k v:AV):Option (AV×AHeap):=match ec_ d&&d0_ P kt k with
 |false=>none
 |true=>match m with
  | .map id=>match H.get id with
    |some (.map es clock)=>match dN_ P kt k es 0 with
     |some (some (i,q,_))=>match dF_ k q with
      |true=>some (.tup [],H.set id (.map (mF_ es i k v) clock))
      |false=>none
     |some none=>some (.tup [],H.set id (.map (eV_ es (k,v,clock)) (Nat.succ clock)))
     |none=>none
    |_=>none
  |_=>none
theorem gL_ (hr:Rel B pr E H w) {t kt et:TypeId} {d:TypeDesc} (hd:P.underlying t=some (.map kt et)) (hkd:P.underlying kt=some d) {m k v:AV} {mv kv vv:Value} (hm:Con E m mv) (hk:Con E k kv) (hv:Con E v vv)
  {r:AV×AHeap} (h:ca_ P H kt d m k v=some r):∃w',(Instr.mapUpdate t mv kv vv).run P w=.ok () w'/\Rel B pr E r.2 w'/\r.1=.tup []:=by
 unfold ca_ at h;split at h;cases h;rename_i hb;obtain ⟨hn,hck0⟩:ec_ d=true/\d0_ P kt k=true:=by grind
 have hck:(Instr.checkKey false 10000 kt kv).run P w=.ok () w:=hl_ hk hck0 false;split at h
 case h_2=>cases h
 obtain ⟨b,hφ,rfl⟩:=hm;split at h
 case h_2=>cases h
 rename_i es clock cg_;obtain ⟨_,es',hg,hce⟩:=hr.blk cg_ hφ;have hgo:(getObj b).run P w=.ok (.map es' clock) w:=by simp [getObj,Sem.run,hg]
 have hso:∀o:Obj,(setObj b o).run P w=.ok () { w with heap:=w.heap.setIfInBounds b o }:=λo=>by simp [setObj,Sem.run,hg]
 split at h
 .rename_i i q a hf;split at h
  .rename_i hbits;cases h;have:=dO_ (w:=w) hk hce hf;obtain ⟨_,e,n,hmi,hfn,hca,hqi,hq⟩:=this;have hes:es'[i]? =some e:=(by grind);refine ⟨{ w with heap:=w.heap.setIfInBounds b (.map (es'.modify i λe=>{ e with key:=kv,val:=vv }) clock) },?_,?_,rfl⟩;have hsb:=kR_ hk hq hbits;simp_all [Instr.mapUpdate,run_underlying,cc_,Instr.keyThatStays]
   .refine hr.set_map cg_ hφ ?_
    grind [mG_]
  cases h
 .rename_i hf;cases h;have:=dO_ (w:=w) hk hce hf;refine ⟨{ w with heap:=w.heap.setIfInBounds b (.map (es'.push { key:=kv,val:=vv,born:=clock }) (clock+1)) },?_,?_,rfl⟩;simp_all [Instr.mapUpdate,run_underlying,cc_]
  refine hr.set_map cg_ hφ ?_;rw [Array.toList_push];exact hc_ (e:={ key:=kv,val:=vv,born:=clock }) hk hv rfl hce
 cases h
def a6_ (P:Program) (H:AHeap) (t:TypeId) (m k v:AV):Option (AV×AHeap):=match P.underlying t with
 |some (.map kt _)=>match P.underlying kt with
  |some d=>match gl_ d k with
   |false=>ca_ P H kt d m k v
   |true=>match m with
    | .map id=>match H.get id with
      |some (.map es clock)=>match dL_ d k es 0 with
       |some (some (i,_))=>some (.tup [],H.set id (.map (n1_ es i v) clock))
       |some none=>some (.tup [],H.set id (.map (eV_ es (k,v,clock)) (Nat.succ clock)))
       |none=>none
      |_=>none
    |_=>none
  |none=>none
 |_=>none
theorem lx_ {d:TypeDesc} {k:AV} {kv:Value} (hk:Con E k kv) (h:gl_ d k=true):Instr.sameBits 10000 kv kv=true:=by cases d<;>cases k<;>simp only [gl_,Bool.false_eq_true]at h<;>(grind [Con,Instr.sameBits,jZ_])
theorem bU_ (hr:Rel B pr E H w) {t:TypeId} {m k v:AV} {mv kv vv:Value} (hm:Con E m mv) (hk:Con E k kv) (hv:Con E v vv) {r:AV×AHeap} (h:a6_ P H t m k v=some r):
  ∃w',(Instr.mapUpdate t mv kv vv).run P w=.ok () w'/\Rel B pr E r.2 w'/\r.1=.tup []:=by
 unfold a6_ at h;split at h
 case h_2=>cases h
 rename_i kt et hd;split at h
 case h_2=>cases h
 rename_i d hkd;split at h
 .grind [gL_]
 rename_i hko;have hck:(Instr.checkKey false 10000 kt kv).run P w=.ok () w:=hB_ hkd hk hko false 9999;split at h
 case h_2=>cases h
 obtain ⟨b,hφ,rfl⟩:=hm;split at h
 case h_2=>cases h
 rename_i es clock cg_;obtain ⟨_,es',hg,hce⟩:=hr.blk cg_ hφ;have hgo:(getObj b).run P w=.ok (.map es' clock) w:=by simp [getObj,Sem.run,hg]
 have hso:∀o:Obj,(setObj b o).run P w=.ok () { w with heap:=w.heap.setIfInBounds b o }:=λo=>by simp [setObj,Sem.run,hg]
 split at h
 .rename_i i a hf;cases h;have:=dM_ hk hce hf;obtain ⟨_,e,q,n,hmi,hfn,hca,hqi,hke,hq⟩:=this;have hes:es'[i]? =some e:=(by grind);refine ⟨{ w with heap:=w.heap.setIfInBounds b (.map (es'.modify i λe=>{ e with key:=kv,val:=vv }) clock) },?_,?_,rfl⟩;have hsb:=lx_ hk hko;simp_all [Instr.mapUpdate,run_underlying,Instr.findKey,Instr.keyThatStays]
  .refine hr.set_map cg_ hφ ?_;rw [Array.toList_modify]
   grind [mE_]
 .rename_i hf;cases h;have:=dM_ hk hce hf;refine ⟨{ w with heap:=w.heap.setIfInBounds b (.map (es'.push { key:=kv,val:=vv,born:=clock }) (clock+1)) },?_,?_,rfl⟩;simp_all [Instr.mapUpdate,run_underlying,Instr.findKey]
  refine hr.set_map cg_ hφ ?_;rw [Array.toList_push];exact hc_ (e:={ key:=kv,val:=vv,born:=clock }) hk hv rfl hce
 cases h
def mw_:List (AV×AV×Nat)->Nat
 |[]=>0
 |_::r=>Nat.succ (mw_ r)
theorem iQ_:∀{es:List (AV×AV×Nat)} {ms:List MapEntry},ConE E es ms->mw_ es=ms.length
 |[],ms,h=>by grind [ConE,mw_]
 |(k,u,m)::r,ms,h=>by obtain ⟨e',ms',rfl,g1,g2,g3,g4⟩:=h;simp [mw_,iQ_ g4]
def b9_ (P:Program) (H:AHeap) (t:TypeId) (x:AV):Option AV:=match P.underlying t with
 |some .string=>match x with
  | .str s=>some (mkI .i64 (.ofNat (g0_ s)))
  |_=>none
 |some (.slice _)=>match x with
  | .nsl=>some (.int .i64 (.ofNat 0))
  | .sl _ _ n _ _=>some (.int .i64 (.ofNat n))
  | .vsl n _ _=>some (.int .i64 (.ofNat n))
  |_=>none
 |some (.array n _)=>some (.int .i64 (.ofNat n))
 |some (.map _ _)=>match x with
  | .nmap=>some (.int .i64 (.ofNat 0))
  | .map id=>match H.get id with
    |some (.map es _)=>some (mkI .i64 (.ofNat (mw_ es)))
    |_=>none
  |_=>none
 |_=>none
theorem pO_ (hr:Rel B pr E H w) {t ty:TypeId} {x:AV} {v:Value} (hx:Con E x v) {r:AV} (h:b9_ P H t x=some r):Gives P B pr E w (Builtin.len_ #[t] ty #[v]) (r,H):=by unfold b9_ at h;split at h;rename_i hd;split at h;rename_i s;cases h;subst hx;rw [da_];refine Gives.still hr (v:=.int .i64 (Int.ofNat (g0_ s))) ?_ (by simp [Con]);simp [Builtin.len_,run_underlying hd,goInt,cQ_];rfl;cases h;rename_i hd;split at h;cases h;subst hx;exact Gives.still hr (v:=.int .i64 (Int.ofNat 0)) (by simp [Builtin.len_,run_underlying hd,goInt]) (by simp [Con]);rename_i n sz c;cases h;obtain ⟨_,_,_,_,_,_,_,rfl,_⟩:=hx;exact Gives.still hr (v:=.int .i64 (Int.ofNat n)) (by simp [Builtin.len_,run_underlying hd,goInt]) (by simp [Con]);rename_i n sz c;cases h;obtain ⟨_,_,_,_,rfl,_⟩:=hx;exact Gives.still hr (v:=.int .i64 (Int.ofNat n)) (by simp [Builtin.len_,run_underlying hd,goInt]) (by simp [Con]);cases h;rename_i n _ hd;cases h;exact Gives.still hr (v:=.int .i64 (Int.ofNat n)) (by simp_all [Builtin.len_,run_underlying,goInt]) (by simp [Con]);rename_i hd;split at h;cases h;subst hx;exact Gives.still hr (v:=.int .i64 (Int.ofNat 0)) (by simp [Builtin.len_,run_underlying hd,goInt]) (by simp [Con]);obtain ⟨b,hφ,rfl⟩:=hx;split at h;rename_i es clock cg_;cases h;obtain ⟨_,es',hg,hce⟩:=hr.blk cg_ hφ;have hgo:(getObj b).run P w=.ok (.map es' clock) w:=(by simp [getObj,Sem.run,hg]);rw [da_];refine Gives.still hr (v:=.int .i64 (Int.ofNat (mw_ es))) ?_ (by simp [Con]);simp [Builtin.len_,run_underlying hd,goInt,hgo,iQ_ hce];cases h;cases h;cases h
def uc_ (a b:Nat):Nat:=match Nat.ble a b with
 |true=>a
 |false=>b
theorem o2_ (a b:Nat):uc_ a b=min a b:=by
 grind [uc_,za',Nat.ble_eq_true_of_le]
theorem jK_ {x:AV} {v:Value} (hx:Con E x v) {n:Nat} (h:aS_ x=some n) (size:Nat):(Builtin.firstCells size 0 v).run P w=.ok #[] w:=by
 cases x<;>simp only [aS_,reduceCtorEq]at h<;>simp only [Con]at hx
 case nsl=>subst hx;rfl
 case sl=>obtain ⟨b,o,m,c,off',_,_,rfl,_⟩:=hx;simp [Builtin.firstCells,loadCells,loadCellsFrom]
 case vsl=>obtain ⟨b,o,vs,c,rfl,_⟩:=hx;simp [Builtin.firstCells,loadCells,loadCellsFrom]
 simp_all [Builtin.firstCells]
def k3_ (P:Program) (H:AHeap) (t:TypeId) (d s:AV):Option (AV×AHeap):=match P.underlying t with
 |some (.slice e)=>match P.info? e with
  |some i=>match aS_ d with
   |some dn=>match aS_ s with
    |some sn=>match uc_ sn dn with
     |0=>match d with
      | .sl _ _ _ _ _=>some (.int .i64 (.ofNat 0),H)
      | .nsl=>some (.int .i64 (.ofNat 0),H)
      |_=>none
     | .succ n'=>match aj_ H s (.succ n') i.size with
       |some l=>match d with
        | .sl id off _ _ _=>match H.get id with
           |some (.cells cs)=>match bb_ l with
            |true=>match dg_ off l cs with
             |some cs'=>some (.int .i64 (.ofNat (.succ n')),H.set id (.cells cs'))
             |none=>none
            |false=>none
           |_=>none
        |_=>none
       |none=>none
    |none=>none
   |none=>none
  |none=>none
 |_=>none
theorem nH_ (hr:Rel B pr E H w) {t tx ty:TypeId} {d s:AV} {dv sv:Value} (hd:Con E d dv) (hs:Con E s sv) {r:AV×AHeap} (h:k3_ P H t d s=some r):
  Gives P B pr E w (Builtin.copy_ #[t,tx] ty #[dv,sv]) r:=by
 unfold k3_ at h;split at h
 case h_2=>cases h
 rename_i e ht;split at h
 case h_2=>cases h
 rename_i i hi;split at h
 case h_2=>cases h
 rename_i dn hdn;split at h
 case h_2=>cases h
 rename_i sn hsn;have hsl:=fU_ hs hsn;split at h
 .rename_i hmin;rw [o2_]at hmin;have hf:=jK_ (P:=P) (w:=w) hs hsn i.size;cases d<;>simp only [reduceCtorEq]at h
  cases h;simp only [Con]at hd;cases hdn;refine Gives.still hr (v:=goInt (0:Nat)) ?_ (by rfl);simp_all [Builtin.copy_,run_underlying,af_]
  cases h;cases hdn;obtain ⟨b,o,m,c,off',hφ,hbs,rfl,hoff,hle,hfit,hcap⟩:=hd;refine Gives.still hr (v:=goInt (0:Nat)) ?_ (by rfl);simp [Builtin.copy_,run_underlying ht,af_ hi,hsl,hmin,hf,storeCells]
 .rename_i n' hmin;rw [o2_]at hmin;have hmin':Nat.min sn dn=n'+1:=hmin;have hmin:min sn dn=n'+1:=hmin;split at h
  case h_2=>cases h
  rename_i l hl;obtain ⟨vs,hf,hL,hlen⟩:=aP_ (P:=P) hr hs hsn (by omega) hl;cases d<;>simp only [reduceCtorEq]at h
  rename_i id off dn' sz cap;simp only [aS_]at hdn;cases hdn;simp only [Con]at hd;obtain ⟨b,o,m,c,off',hφ,hbs,rfl,hoff,hle,hfit,hcap⟩:=hd;split at h
  case h_2=>cases h
  rename_i cs hk;split at h
  case h_2=>cases h
  rename_i hone;split at h
  case h_2=>cases h
  rename_i cs' cP_;cases h;obtain rfl:=hoff (by omega);obtain ⟨w',g1,g2⟩:=he_ (P:=P) hr hk hφ hL hone cP_;refine ⟨E,goInt ((n'+1:Nat):Int),w',?_,Env.le_refl _,g2,by rfl⟩;simp_all [Builtin.copy_,run_underlying,af_]
def b1_ (P:Program) (H:AHeap) (t:TypeId) (l c:AV):Option (AV×AHeap):=match P.underlying t with
 |some (.slice e)=>match P.info? e with
  |some i=>match i.zero with
   |some z=>match l,c with
    | .int _ (.ofNat ln),.int _ (.ofNat cn)=>match Nat.ble ln cn&&Nat.ble (Nat.mul i.bytes cn) 16777216&&Nat.ble cn 16777216&&Nat.beq (aK_ (ar_ z)) i.size with
      |true=>match H.room with
       |true=>some (.sl H.next 0 ln i.size (some cn),H.push (.cells (ax_ (ar_ z) cn)))
       |false=>none
      |false=>none
    |_,_=>none
   |none=>none
  |none=>none
 |_=>none
theorem em_ (hr:Rel B pr E H w) {t:TypeId} {l c:AV} {lv cv:Value} (hl:Con E l lv) (hc:Con E c cv) {r:AV×AHeap} (h:b1_ P H t l c=some r):
  Gives P B pr E w (Instr.makeSlice t lv cv) r:=by
 unfold b1_ at h;split at h
 case h_2=>cases h
 rename_i e hd;split at h
 case h_2=>cases h
 rename_i i hi;split at h
 case h_2=>cases h
 rename_i z hz;split at h
 case h_2=>cases h
 rename_i k ln k' cn;split at h
 case h_2=>cases h
 rename_i hb;obtain ⟨hb,b4⟩:=aa_ hb;obtain ⟨hb,b3⟩:=aa_ hb;obtain ⟨b1,b2⟩:=aa_ hb;have b1:=za' b1;have b2:i.bytes*cn<=16777216:=za' b2;have b3:=za' b3;have b4:=Nat.eq_of_beq_eq_true b4;rw [ah_]at b4;split at h
 case h_2=>cases h
 rename_i hroom;cases h;subst hl hc;have hzs:z.cells.size=i.size:=by have:=(a9_ E z).length;grind
 have hrun:=run_make (P:=P) w t e i z hd hi hz k k' (Int.ofNat ln) (Int.ofNat cn) (by simp) (by simp;omega) (by
  grind) (by grind)
 have hbase:ConL E (ax_ (ar_ z) cn) (madeCells z.cells (cn*i.size)).toList:=by
  refine ConL.of_at ?_ λq x u hx hu=>?_
  .grind [aO_,size_madeCells]
  .have hq:q<cn*i.size:=by
     grind [aO_]
   rw [eg_ _ _ _ (by grind),b4]at hx;obtain ⟨u',hu',hcu⟩:=(a9_ E z).at _ _ hx
   grind [madeCells]
 have hne:eE_ H (ax_ (ar_ z) cn)=some (.ptr H.next 0,H.push (.cells (ax_ (ar_ z) cn))):=by simp [eE_,hroom]
 obtain ⟨E',g1,g2,g3,g4,g5⟩:=gM_ hr e hbase hne;refine ⟨E',_,_,hrun,g1,g2,?_⟩;refine ⟨w.heap.size,0,_,cn,0,g5,g3,rfl,λ_=>rfl,b1,?_,λq hq=>by cases hq;rfl⟩;simp [size_madeCells]
def f3_:List AV->Option (List UInt8)
 |[]=>some []
 | .int .u8 (.ofNat n)::r=>match f3_ r with
   |some l=>some (UInt8.ofNat n::l)
   |none=>none
 |_=>none
theorem ex_:∀{as:List AV} {vs:List Value} {l:List UInt8},f3_ as=some l->ConL E as vs->∃ns:List Int,vs=ns.map (Value.int .u8)/\ns.map (λn=>UInt8.ofNat n.toNat)=l
 |[],vs,l,h,hc=>by simp only [f3_]at h;simp only [ConL]at hc;simp_all
 |a::as,vs,l,h,hc=>by
  obtain ⟨v,r,rfl,h2,h3⟩:=hc;unfold f3_ at h;split at h
  .grind
  rename_i n r' heq;cases heq;split at h;rename_i l' hl';cases h;obtain ⟨ns,h4,h5⟩:=ex_ hl' h3;subst h2;exact ⟨(n:Int)::ns,by simp [h4],by simp [h5]⟩;cases h;cases h
def cp_ (P:Program) (H:AHeap) (src dst:TypeId) (x:AV):Option AV:=match P.underlying src,P.underlying dst with
 |some (.slice e),some .string=>match P.underlying e with
  |some (.int .u8)=>match x with
   | .nsl=>some (.str [])
   | .str _=>none
   |x=>match aS_ x with
    |some n=>match aj_ H x n 1 with
     |some l=>match Nat.beq (aK_ l) n with
      |true=>match f3_ l with
       |some s=>some (.str s)
       |none=>none
      |false=>none
     |none=>none
    |none=>none
  |_=>none
 |_,_=>none
theorem iD_ (l:List UInt8):∀(s:ByteArray),l.foldl (λr b=>r.push b) s=⟨⟨s.data.toList++l⟩⟩:=by
 induction l<;>simp_all
theorem ix_ (hr:Rel B pr E H w) {src dst:TypeId} {x:AV} {v:Value} (hx:Con E x v) {r:AV} (h:cp_ P H src dst x=some r):Gives P B pr E w (convert src dst v) (r,H):=by
 unfold cp_ at h;split at h
 case h_2=>cases h
 rename_i e hs hd;split at h
 case h_2=>cases h
 rename_i he;split at h;cases h;simp only [Con]at hx;refine Gives.still hr (v:=.string .empty) ?_ (by rfl);simp_all [convert,run_underlying,Conv.bytesToString]
 cases h
 .rename_i hne hns;split at h
  case h_2=>cases h
  rename_i n hn;split at h
  case h_2=>cases h
  rename_i l hl;split at h
  case h_2=>cases h
  split at h
  case h_2=>cases h
  rename_i s hbs;cases h;obtain ⟨vs,hf,hL,_⟩:=aP_ (P:=P) hr hx hn (Nat.le_refl _) hl;obtain ⟨ns,rfl,hns⟩:=ex_ hbs hL;have key:∀(a:Addr) (m c:Nat),v=.slice (some a) m c->m=n->Gives P B pr E w (convert src dst v) (.str s,H):=by
   intro a m c hv hm;subst hv hm;have hlc:(loadCells a m).run P w=.ok (ns.map (Value.int .u8)).toArray w:=by
    have hf':(loadCells a (m*1)).run P w=.ok (ns.map (Value.int .u8)).toArray w:=hf
    grind
   refine Gives.still hr (v:=.string ⟨⟨s⟩⟩) ?_ (by simp [Con]);rw [run_convert_bytes_string w src dst e (some a) m c hs he hd,run_bytesToString w a m c ns hlc];have e1:ns.foldl (λr n=>r.push (UInt8.ofNat n.toNat)) ByteArray.empty=(ns.map (λn=>UInt8.ofNat n.toNat)).foldl (λr b=>r.push b) ByteArray.empty:=(by rw [List.foldl_map]);simp_all [iD_]
  cases x<;>simp only [aS_,reduceCtorEq]at hn
  case nsl=>grind
  case sl=>
   simp only [Con]at hx
   grind
  case vsl=>
   simp only [Con]at hx
   grind
  grind
end
end Go.Sx
