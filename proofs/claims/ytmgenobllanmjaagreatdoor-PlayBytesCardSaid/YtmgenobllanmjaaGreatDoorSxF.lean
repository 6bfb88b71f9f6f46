/-
  The evaluator's arithmetic, comparisons, conversions, maps, copies and makes.
-/
import Derived.Test.YtmgenobllanmjaaGreatDoorSxE
set_option linter.unusedVariables false
set_option linter.unusedSimpArgs false
namespace Go.Sx
def e7_ (k:IntKind) (n:Int):Int:=match n with
 | .ofNat m=>match k with
   | .i64=>match Nat.blt m 9223372036854775808 with
     |true=>n
     |false=>k.wrap n
   |_=>match Nat.blt m 128 with
    |true=>n
    |false=>k.wrap n
 | .negSucc m=>match k with
   | .i64=>match Nat.blt m 9223372036854775808 with
     |true=>n
     |false=>k.wrap n
   |_=>k.wrap n
theorem cp_ (k:IntKind) (n:Int):e7_ k n=k.wrap n:=by
 unfold e7_;split
 .rename_i m;split
  .split
   .rename_i h;have h:m<9223372036854775808:=(by simp_all);rw [IntKind.wrap_i64]
    grind
   rfl
  .split
   .rename_i hk _ h;have h:m<128:=(by simp_all);cases k<;>simp [IntKind.wrap,IntKind.bits,IntKind.signed]<;>omega
   rfl
 grind [Nat.blt_eq,IntKind.wrap_i64]
def mkI (k:IntKind) (n:Int):AV:=match n with
 | .ofNat m=>match m with
   |0=>.int k (.ofNat 0)
   | .succ j=>.int k (.ofNat (.succ j))
 | .negSucc m=>match m with
   |0=>.int k (.negSucc 0)
   | .succ j=>.int k (.negSucc (.succ j))
theorem cA_ (k:IntKind) (n:Int):mkI k n=.int k n:=by unfold mkI;split<;>split<;>rfl
def ltI (a b:Int):Bool:=match a,b with
 | .ofNat m,.ofNat n=>Nat.blt m n
 | .negSucc m,.negSucc n=>Nat.blt n m
 | .negSucc _,.ofNat _=>true
 | .ofNat _,.negSucc _=>false
theorem eS_ (a b:Int):ltI a b=decide (a<b):=by
 cases a with
 |ofNat m=>cases b with
  |ofNat n=>
   show Nat.blt m n=_;rw [Bool.eq_iff_iff,Nat.blt_eq,decide_eq_true_iff]
   grind
  |negSucc n=>
   show false=_
   grind
 |negSucc m=>cases b with
  |ofNat n=>
   show true=_
   grind
  |negSucc n=>show Nat.blt n m=_;rw [Bool.eq_iff_iff,Nat.blt_eq,decide_eq_true_iff];omega
def eqI (a b:Int):Bool:=match a,b with
 | .ofNat m,.ofNat n=>Nat.beq m n
 | .negSucc m,.negSucc n=>Nat.beq m n
 |_,_=>false
theorem fU_ (a b:Int):eqI a b=(a==b):=by
 cases a with
 |ofNat m=>cases b with
  |ofNat n=>
   show Nat.beq m n=_;rw [Bool.eq_iff_iff,Nat.beq_eq,beq_iff_eq]
   grind
  |negSucc n=>
   show false=_
   grind
 |negSucc m=>cases b with
  |ofNat n=>
   show false=_
   grind
  |negSucc n=>show Nat.beq m n=_;rw [Bool.eq_iff_iff,Nat.beq_eq,beq_iff_eq];omega
def dy_ (op:BinOp) (k:IntKind) (a b:Int):Option AV:=match op with
 | .add=>some (mkI k (e7_ k (Int.add a b)))
 | .sub=>some (mkI k (e7_ k (Int.sub a b)))
 | .mul=>some (mkI k (e7_ k (Int.mul a b)))
 | .eql=>some (.bool (eqI a b))
 | .neq=>some (.bool (not (eqI a b)))
 | .lss=>some (.bool (ltI a b))
 | .leq=>some (.bool (not (ltI b a)))
 | .gtr=>some (.bool (ltI b a))
 | .geq=>some (.bool (not (ltI a b)))
 |_=>none
theorem kR_ (a b:Int):(!decide (a<b))=decide (b<=a):=by
 grind
theorem qd_ {P:Program} {op:BinOp} {k:IntKind} {a b:Int} {r:AV} (h:dy_ op k a b=some r) (t:TypeId) (w:World) (E:Env):
  ∃v,(binOp op t (.int k a) (.int k b)).run P w=.ok v w/\Con E r v:=by
 cases op<;>simp only [dy_,Option.some.injEq,reduceCtorEq]at h<;>subst h<;>
  simp only [cA_,cp_,fU_,eS_,kR_,Con]<;>refine ⟨_,?_,rfl⟩<;>simp [binOp,Op.intArith,Op.intCmp,bne]<;>rfl
def eqB:List UInt8->List UInt8->Bool
 |[],[]=>true
 |a::x,b::y=>match Nat.beq a.toNat b.toNat with
  |true=>eqB x y
  |false=>false
 |_,_=>false
theorem ea_:∀a b:List UInt8,eqB a b=(a==b)
 |[],[]=>rfl
 |[],_::_=>rfl
 |_::_,[]=>rfl
 |a::x,b::y=>by
  simp only [eqB];have e:Nat.beq a.toNat b.toNat=(a==b):=by
   rw [Bool.eq_iff_iff,Nat.beq_eq,beq_iff_eq]
   grind [UInt8.toNat_inj]
  split;rename_i h;rw [ea_ x y];rw [e]at h;show _=((a==b)&&(x==y));rw [h];simp;rename_i h;rw [e]at h;show _=((a==b)&&(x==y));rw [h];simp
def jE_ (d:TypeDesc) (x y:AV):Option Bool:=match d with
 | .bool=>match x,y with
   | .bool a,.bool b=>some (a==b)
   |_,_=>none
 | .int _=>match x,y with
   | .int k a,.int k' b=>match decide (k=k')with
     |true=>some (eqI a b)
     |false=>none
   |_,_=>none
 | .float _=>match x,y with
   | .flt k a,.flt k' b=>match decide (k=k')with
     |true=>some (Op.floatEq k a b)
     |false=>none
   | .nan k,.flt k' _=>match decide (k=k')with
     |true=>some false
     |false=>none
   | .flt k _,.nan k'=>match decide (k=k')with
     |true=>some false
     |false=>none
   | .nan k,.nan k'=>match decide (k=k')with
     |true=>some false
     |false=>none
   |_,_=>none
 | .string=>match x,y with
   | .str a,.str b=>some (eqB a b)
   |_,_=>none
 | .pointer _=>match x,y with
   | .nptr,.nptr=>some true
   | .nptr,.ptr _ _=>some false
   | .ptr _ _,.nptr=>some false
   | .nptr,.vptr _=>some false
   | .vptr _,.nptr=>some false
   |_,_=>none
 | .slice _=>match x,y with
   | .nsl,.nsl=>some true
   | .nsl,.sl _ _ _ _ _=>some false
   | .sl _ _ _ _ _,.nsl=>some false
   | .nsl,.vsl _ _ _=>some false
   | .vsl _ _ _,.nsl=>some false
   |_,_=>none
 | .map _ _=>match x,y with
   | .nmap,.nmap=>some true
   | .nmap,.map _=>some false
   | .map _,.nmap=>some false
   |_,_=>none
 | .interface _=>match x,y with
   | .nif,.nif=>some true
   | .nif,.iface _ _=>some false
   | .iface _ _,.nif=>some false
   |_,_=>none
 |_=>none
theorem eW_ {k:FloatKind} {a:Nat} (h:(k.format.read a).isNaN=true) (b:Nat):k.format.order a b=none:=by
 unfold Ieee.Format.order;revert h;generalize k.format.read a=x;generalize k.format.read b=y;intro h;cases x<;>simp [Ieee.Datum.isNaN]at h
 cases y<;>rfl
theorem hR_ {k:FloatKind} {b:Nat} (h:(k.format.read b).isNaN=true) (a:Nat):k.format.order a b=none:=by
 unfold Ieee.Format.order;revert h;generalize k.format.read a=x;generalize k.format.read b=y;intro h;cases y<;>simp [Ieee.Datum.isNaN]at h
 cases x<;>rfl
def rp_ (P:Program) (eq:TypeId->AV->AV->Option Bool):List Field->List AV->List AV->Option Bool
 |[],_,_=>some true
 |f::fs,xs,ys=>match f.name== "_" with
  |true=>none
  |false=>match iN_ P f.type xs f.offset with
   |none=>none
   |some a=>match iN_ P f.type ys f.offset with
    |none=>none
    |some b=>match eq f.type a b with
     |some true=>rp_ P eq fs xs ys
     |some false=>some false
     |none=>none
def eqA (P:Program):Nat->TypeId->AV->AV->Option Bool
 |0,_,_,_=>none
 |d+1,t,x,y=>match P.underlying t with
  |none=>none
  |some (.struct fs)=>match x,y with
   | .agg xs,.agg ys=>match P.stoodInHeld t with
     |false=>rp_ P (eqA P d) fs.toList xs ys
     |true=>none
   |_,_=>none
  |some dsc=>jE_ dsc x y
section
variable {P:Program} {B:World} {pr:Nat->Prop} {E:Env} {H:AHeap} {w:World}
set_option maxHeartbeats 2000000 in
theorem lV_ {d:TypeDesc} {t:TypeId} (hd:P.underlying t=some d) {x y:AV} {u v:Value} (hx:Con E x u) (hy:Con E y v) {b:Bool} (h:jE_ d x y=some b) (n:Nat):
  (Op.equalIn (n+1) t u v).run P w=.ok b w:=by
 unfold jE_ at h;split at h<;>(first|(cases h;done)|skip)
 .split at h<;>(first|(cases h;done)|skip)
  cases h;simp only [Con]at hx hy;subst hx hy;simp [Op.equalIn,run_underlying hd]
 .split at h<;>(first|(cases h;done)|skip)
  split at h<;>(first|(cases h;done)|skip)
  rename_i hk;cases h;simp only [Con]at hx hy;subst hx hy;have hk:=of_decide_eq_true hk;subst hk;simp [Op.equalIn,run_underlying hd,fU_]
 .split at h<;>(first|(cases h;done)|skip)
  split at h<;>(first|(cases h;done)|skip)
  rename_i hk;cases h;simp only [Con]at hx hy;subst hx hy;have hk:=of_decide_eq_true hk;subst hk;simp [Op.equalIn,run_underlying hd];all_goals
   split at h<;>(first|(cases h;done)|skip)
   rename_i hk;cases h;simp only [Con]at hx hy;have hk:=of_decide_eq_true hk;subst hk
  obtain ⟨b,rfl,hn⟩:=hx;subst hy;simp [Op.equalIn,run_underlying hd,Op.floatEq,eW_ hn];obtain ⟨b,rfl,hn⟩:=hy;subst hx;simp [Op.equalIn,run_underlying hd,Op.floatEq,hR_ hn];obtain ⟨b,rfl,hn⟩:=hx;obtain ⟨c,rfl,_⟩:=hy;simp [Op.equalIn,run_underlying hd,Op.floatEq,eW_ hn]
 .split at h<;>(first|(cases h;done)|skip)
  rename_i a b;cases h;simp only [Con]at hx hy;subst hx hy;simp [Op.equalIn,run_underlying hd,ea_]
  grind [beq_toListBytes,ByteArray.toList_eq]
 .split at h<;>(first|(cases h;done)|skip)<;>cases h<;>simp only [Con]at hx hy
  subst hx hy;simp [Op.equalIn,run_underlying hd];obtain ⟨_,_,_,rfl⟩:=hy;subst hx;simp [Op.equalIn,run_underlying hd];obtain ⟨_,_,_,rfl⟩:=hx;subst hy;simp [Op.equalIn,run_underlying hd];obtain ⟨_,_,_,rfl,_⟩:=hy;subst hx;simp [Op.equalIn,run_underlying hd];obtain ⟨_,_,_,rfl,_⟩:=hx;subst hy;simp [Op.equalIn,run_underlying hd]
 .split at h<;>(first|(cases h;done)|skip)<;>cases h<;>simp only [Con]at hx hy
  subst hx hy;simp [Op.equalIn,run_underlying hd];obtain ⟨_,_,_,_,_,_,_,rfl,_⟩:=hy;subst hx;simp [Op.equalIn,run_underlying hd];obtain ⟨_,_,_,_,_,_,_,rfl,_⟩:=hx;subst hy;simp [Op.equalIn,run_underlying hd];obtain ⟨_,_,_,_,hq,_⟩:=hy;obtain ⟨_,rfl⟩:=hq.sl;subst hx;simp [Op.equalIn,run_underlying hd];obtain ⟨_,_,_,_,hq,_⟩:=hx;obtain ⟨_,rfl⟩:=hq.sl;subst hy;simp [Op.equalIn,run_underlying hd]
 .split at h<;>(first|(cases h;done)|skip)<;>cases h<;>simp only [Con]at hx hy
  subst hx hy;simp [Op.equalIn,run_underlying hd];obtain ⟨_,_,rfl⟩:=hy;subst hx;simp [Op.equalIn,run_underlying hd];obtain ⟨_,_,rfl⟩:=hx;subst hy;simp [Op.equalIn,run_underlying hd]
 .split at h<;>(first|(cases h;done)|skip)<;>cases h<;>simp only [Con]at hx hy
  subst hx hy;simp [Op.equalIn,run_underlying hd];obtain ⟨_,rfl,_⟩:=hy;subst hx;simp [Op.equalIn,run_underlying hd];obtain ⟨_,rfl,_⟩:=hx;subst hy;simp [Op.equalIn,run_underlying hd]
theorem mt_ {eq:TypeId->AV->AV->Option Bool} {d:Nat}
  (heq:∀(t:TypeId) (x y:AV) (u v:Value) (b:Bool),Con E x u->Con E y v->eq t x y=some b->(Op.equalIn d t u v).run P w=.ok b w) {xs ys:List AV} {us vs:List Value} (hx:ConL E xs us) (hy:ConL E ys vs):
  ∀{fs:List Field} {b:Bool},rp_ P eq fs xs ys=some b->(Op.eqFields d ⟨us⟩ ⟨vs⟩ fs).run P w=.ok b w
 |[],b,h=>by simp_all [rp_,Op.eqFields]
 |f::fs,b,h=>by
  simp only [rp_]at h;split at h;cases h;rename_i hn;have hn:f.name≠ "_" :=(by grind);split at h;cases h;rename_i a ha;split at h;cases h;rename_i c hc;obtain ⟨u,hu,hcu⟩:=fV_ (P:=P) (w:=w) hx ha;obtain ⟨v,hv,hcv⟩:=fV_ (P:=P) (w:=w) hy hc;split at h;rename_i he;have:=heq _ _ _ _ _ _ hcu hcv he;simp [Op.eqFields,hn,hu,hv,this,mt_ heq hx hy h];rename_i he;have:=heq _ _ _ _ _ _ hcu hcv he;simp_all [Op.eqFields]
  cases h
theorem o0_:∀{d:Nat} {t:TypeId} {x y:AV} {u v:Value} {b:Bool},Con E x u->Con E y v->eqA P d t x y=some b->∀n,d<=n->(Op.equalIn n t u v).run P w=.ok b w
 |0,t,x,y,u,v,b,_,_,h,n,hn=>by simp [eqA]at h
 |d+1,t,x,y,u,v,b,hx,hy,h,n,hn=>by
  obtain ⟨m,rfl⟩:∃m,n=m+1:=⟨n-1,by omega⟩;simp only [eqA]at h;split at h;cases h;rename_i fs hd;split at h;split at h;rename_i hs;simp only [Con]at hx hy;obtain ⟨us,rfl,hxl⟩:=hx;obtain ⟨vs,rfl,hyl⟩:=hy;have hf:P.fieldsOf t=fs:=(by simp [Program.fieldsOf,hd]);rw [run_equalIn_struct w m t ⟨us⟩ ⟨vs⟩ (by rw [hf];exact hd) hs,hf];exact mt_ (λt' x' y' u' v' b' h1 h2 h3=>o0_ h1 h2 h3 m (by omega)) hxl hyl h;cases h;cases h
  grind [lV_]
def bA_:Operand->Bool
 | .const _=>true
 |_=>false
def gt_ (P:Program) (t:TypeId) (cx cy:Bool) (x y:AV):Bool:=match x,y with
 | .nif,.nif=>cx||cy
 | .agg _,.agg _=>not (P.eqGuardType P.depth t)
 | .opq,_=>false
 |_,.opq=>false
 | .sym _,_=>false
 |_,.sym _=>false
 | .slx _ _ _,_=>false
 |_,.slx _ _ _=>false
 | .ptx _ _ _ _,_=>false
 |_,.ptx _ _ _ _=>false
 |_,_=>true
set_option maxHeartbeats 2000000 in
theorem qo_ {t:TypeId} {ox oy:Operand} {x y:AV} {u v:Value} (hx:Con E x u) (hy:Con E y v) (h:gt_ P t (bA_ ox) (bA_ oy) x y=true) (op:BinOp):
  (eqGuard op t ox oy u v).run P w=.ok () w:=by
 by_cases hop:op=.eql\/op=.neq
 case neg=>cases op<;>first|rfl|exact absurd (.inl rfl) hop|exact absurd (.inr rfl) hop
 have e0:eqGuard op t ox oy u v=eqGuard .eql t ox oy u v:=by rcases hop with rfl|rfl<;>rfl
 rw [e0];clear e0 hop;unfold eqGuard;simp only [Bool.not_true,Bool.false_eq_true,if_false];by_cases h1:x=.nif/\y=.nif
 .obtain ⟨rfl,rfl⟩:=h1;subst hx hy;simp only [gt_]at h;have hh:bA_ ox=true\/bA_ oy=true:=(by simpa using h);cases ox<;>cases oy<;>simp only [bA_,Bool.false_eq_true,or_self]at hh<;>simp
 .by_cases h2:(∃xs,x=.agg xs)/\(∃ys,y=.agg ys);obtain ⟨⟨xs,rfl⟩,⟨ys,rfl⟩⟩:=h2;obtain ⟨us,rfl,_⟩:=hx;obtain ⟨vs,rfl,_⟩:=hy;simp_all [gt_]
  .have hu:(match u,v with
     | .nilIface,.nilIface=>False
     | .agg _,.agg _=>False
     |_,_=>True):=by
     cases x<;>cases y<;>simp only [gt_,Bool.false_eq_true]at h<;>
      first
       |(exact absurd ⟨rfl,rfl⟩ h1)
       |(exact absurd ⟨⟨_,rfl⟩,⟨_,rfl⟩⟩ h2)
       |(simp only [Con]at hx hy
         (try subst hx)
         (try subst hy)
         (try (obtain ⟨_,_,_,rfl⟩:=hx))
         (try (obtain ⟨_,_,_,rfl,_⟩:=hx))
         (try (obtain ⟨_,_,_,_,_,_,_,rfl,_⟩:=hx))
         (try (obtain ⟨_,_,_,_,hq,_⟩:=hx;obtain ⟨_,rfl⟩:=SlA.sl hq))
         (try (obtain ⟨_,_,rfl⟩:=hx))
         (try (obtain ⟨_,rfl,_⟩:=hx))
         (try (obtain ⟨_,_,_,rfl⟩:=hy))
         (try (obtain ⟨_,_,_,rfl,_⟩:=hy))
         (try (obtain ⟨_,_,_,_,_,_,_,rfl,_⟩:=hy))
         (try (obtain ⟨_,_,_,_,hq,_⟩:=hy;obtain ⟨_,rfl⟩:=SlA.sl hq))
         (try (obtain ⟨_,_,rfl⟩:=hy))
         (try (obtain ⟨_,rfl,_⟩:=hy))
         trivial)
   split<;>simp_all
def o8_ (P:Program) (neg:Bool) (t:TypeId) (cx cy:Bool) (x y:AV):Option AV:=match gt_ P t cx cy x y with
 |false=>none
 |true=>match eqA P 8 t x y with
  |some b=>some (.bool (xor neg b))
  |none=>none
end
end Go.Sx
