/-
  Floats: order with powers of two and whole parts; quotients; truncation.
-/
import Derived.Test.YtjconanknjgpnaaGreatSyT
import Derived.Test.YtjconanknjgpnaaGreatSyM
import Derived.Test.YtjconanknjgpnaaGreatSyG
import Derived.Test.YtjconanknjgpnaaGreatSyU
set_option linter.unusedVariables false
set_option linter.unusedSimpArgs false
namespace Go.Sx
theorem vk_ (s:Bool) (n drop:Nat):Ieee.Toward.zero.cut s n drop=n/2^drop:=by
 unfold Ieee.Toward.cut
 simp only [Bool.toNat_false,Nat.add_zero,Nat.one_shiftLeft]
 by_cases h:drop<=n.log2+2
 .rw [Nat.min_eq_left h]
 .rw [Nat.min_eq_right (by omega)]
  have h1:n<2^(n.log2+1):=Nat.lt_log2_self
  have h2:2^(n.log2+1)<=2^(n.log2+2):=Nat.pow_le_pow_right (by omega) (by omega)
  have h3:2^(n.log2+2)<=2^drop:=Nat.pow_le_pow_right (by omega) (by omega)
  rw [Nat.div_eq_of_lt (by omega),Nat.div_eq_of_lt (by omega)]
def iw_ (m:Nat) (i:Int):Nat:=(m<<<i.toNat)/2^(-i).toNat
theorem mN_ (s:Bool) (m:Nat) (i:Int):(Ieee.Datum.number s m i).toInt .zero=some (if s then -(iw_ m i:Int)else (iw_ m i:Int)):=by
 unfold Ieee.Datum.toInt Ieee.Datum.integral
 simp only [vk_,Ieee.signed,Nat.shiftLeft_zero]
 rfl
theorem l9_ (m:Nat) (i:Int) (T:Nat) (hT:i.natAbs<=T):iw_ m i*2^T<=m*2^(i+T).toNat:=by
 unfold iw_
 rw [Nat.shiftLeft_eq]
 rcases Int.le_total 0 i with h|h
 .have e1:(-i).toNat=0:=by omega
  have e2:(i+T).toNat=i.toNat+T:=by omega
  rw [e1,e2,Nat.pow_zero,Nat.div_one,Nat.pow_add,Nat.mul_assoc]
  exact Nat.le_refl _
 .have e1:i.toNat=0:=by omega
  have e2:T=(-i).toNat+(i+T).toNat:=by omega
  rw [e1,Nat.pow_zero,Nat.mul_one]
  generalize (-i).toNat=a at*
  generalize (i+T).toNat=b at*
  rw [e2,Nat.pow_add,←Nat.mul_assoc]
  exact Nat.mul_le_mul_right _ (Nat.div_mul_le_self ..)
theorem vi_ {m n:Nat} {i j:Int} (T:Nat) (hi:i.natAbs<=T) (hj:j.natAbs<=T):m<<<(i-min i j).toNat<n<<<(j-min i j).toNat↔m*2^(i+T).toNat<n*2^(j+T).toNat:=by
 have e1:(i+T).toNat=(i-min i j).toNat+(min i j+T).toNat:=by omega
 have e2:(j+T).toNat=(j-min i j).toNat+(min i j+T).toNat:=by omega
 rw [e1,e2,Nat.shiftLeft_eq,Nat.shiftLeft_eq,Nat.pow_add,Nat.pow_add,←Nat.mul_assoc,←Nat.mul_assoc]
 exact (Nat.mul_lt_mul_right (Nat.pow_pos (by omega))).symm
theorem uL_ {m k:Nat} {i j:Int} (hk:(k:Int)=52+j) (h:m<<<(i-min i j).toNat<4503599627370496<<<(j-min i j).toNat):iw_ m i<2^k:=by
 have h1:=(vi_ (i.natAbs+j.natAbs) (by omega) (by omega)).1 h
 have h2:=l9_ m i (i.natAbs+j.natAbs) (by omega)
 have e:4503599627370496*2^(j+(i.natAbs+j.natAbs:Nat)).toNat=2^k*2^(i.natAbs+j.natAbs):=by
  have:(4503599627370496:Nat)=2^52:=by decide
  rw [this,←Nat.pow_add,←Nat.pow_add]
  congr 1
  omega
 rw [e]at h1
 exact Nat.lt_of_mul_lt_mul_right (Nat.lt_of_le_of_lt h2 h1)
theorem uj_ {m k:Nat} {i j:Int} (hk:(k:Int)=52+j) (h:m<<<(i-min i j).toNat<=4503599627370496<<<(j-min i j).toNat):iw_ m i<=2^k:=by
 have h1:¬(4503599627370496*2^(j+(i.natAbs+j.natAbs:Nat)).toNat<m*2^(i+(i.natAbs+j.natAbs:Nat)).toNat):=λhh=>by
  have:=(vi_ (m:=4503599627370496) (n:=m) (i:=j) (j:=i) (i.natAbs+j.natAbs) (by omega) (by omega)).2 hh
  rw [Int.min_comm j i]at this
  omega
 have h2:=l9_ m i (i.natAbs+j.natAbs) (by omega)
 have e:4503599627370496*2^(j+(i.natAbs+j.natAbs:Nat)).toNat=2^k*2^(i.natAbs+j.natAbs):=by
  have:(4503599627370496:Nat)=2^52:=by decide
  rw [this,←Nat.pow_add,←Nat.pow_add]
  congr 1
  omega
 rw [e]at h1
 exact Nat.le_of_mul_le_mul_right (Nat.le_trans h2 (Nat.le_of_not_lt h1)) (Nat.pow_pos (by omega))
theorem pD_ {b lo hi k:Nat} {j:Int} (hk:(k:Int)=52+j) (hlo:Ieee.double.read lo=.number true 4503599627370496 j) (hhi:Ieee.double.read hi=.number false 4503599627370496 j)
  (h1:Ieee.double.order b lo≠some .lt) (h2:Ieee.double.order b hi=some .lt):∃n:Int,(Ieee.double.read b).toInt .zero=some n/\ -((2^k:Nat):Int)<=n/\n<((2^k:Nat):Int):=by
 unfold Ieee.Format.order at h1 h2
 rw [hlo]at h1
 rw [hhi]at h2
 cases hb:Ieee.double.read b with
 |nan s t=>rw [hb]at h2;cases h2
 |infinity s=>
  rw [hb]at h1 h2
  cases s
  .exact absurd h2 (by simp [Ieee.Datum.order])
  .exact absurd rfl h1
 |number s m i=>
  rw [hb]at h1 h2
  simp only [Ieee.Datum.order,Option.some.injEq,ne_eq]at h1 h2
  have h2:=Int.compare_eq_lt.1 h2
  have h1:¬_:=λhh=>h1 (Int.compare_eq_lt.2 hh)
  refine ⟨_,mN_ s m i,?_⟩
  cases s with
  |false=>
   simp only [Ieee.signed,Bool.false_eq_true,if_false]at h2⊢
   have:=uL_ hk (m:=m) (i:=i) (j:=j) (by omega)
   omega
  |true=>
   simp only [Ieee.signed,if_true]at h1⊢
   have:=uj_ hk (m:=m) (i:=i) (j:=j) (by omega)
   have:0<2^k:=Nat.pow_pos (by omega)
   omega
theorem qL_ {a b:Nat} (ha:bC_ a=false) (hb:bC_ b=false):∃o,Ieee.double.order a b=some o:=by
 unfold Ieee.Format.order
 rcases cI_ a with ⟨h,_⟩|⟨_,_,s,e⟩|⟨_,_,⟨s,m,i,hm,hi,e⟩|⟨s,e⟩⟩
 .rw [ha]at h;cases h
 all_goals
  rw [e]
  rcases cI_ b with ⟨h,_⟩|⟨_,_,t,f⟩|⟨_,_,⟨t,n,j,hn,hj,f⟩|⟨t,f⟩⟩
  .rw [hb]at h;cases h
  all_goals
   rw [f]
   exact ⟨_,rfl⟩
theorem mx_ {n:Nat}:(Ieee.double.read n).isNaN=bC_ n:=by
 rcases cI_ n with ⟨h,s,q,e⟩|⟨h,_,s,e⟩|⟨h,_,⟨s,m,i,hm,hi,e⟩|⟨s,e⟩⟩
 all_goals rw [e,h];rfl
theorem la_ (s:Bool) {r:Nat} (h:r<=9218868437227405312):bC_ (Ieee.double.word s r)=false:=by
 have e1:Ieee.double.signWeight=9223372036854775808:=rfl
 unfold bC_ Ieee.Format.word
 rw [e1]
 cases s
 .simp;omega
 .simp;omega
theorem i4_ (s:Bool) (m:Nat) (i:Int):bC_ (Ieee.double.nearest s m i)=false:=by
 have e2:Ieee.double.infRung=9218868437227405312:=rfl
 unfold Ieee.Format.nearest
 split
 .exact la_ s (Nat.zero_le _)
 .refine la_ s ?_
  rw [e2]
  exact Nat.min_le_right _ _
def cA_ (b:Nat):Nat:=Ieee.double.write ((Ieee.double.read b).integral .zero)
theorem tB_ {b:Nat} (h:bC_ b=false):bC_ (cA_ b)=false:=by
 unfold cA_
 rcases cI_ b with ⟨h',_⟩|⟨_,_,s,e⟩|⟨_,_,⟨s,m,i,hm,hi,e⟩|⟨s,e⟩⟩
 .rw [h]at h';cases h'
 .rw [e];exact i4_ ..
 .rw [e];exact i4_ ..
 .rw [e]
  exact la_ s (Nat.le_refl _)
theorem wM_ {P:Program} {k:IntKind} {x c:Int} (hc:c≠0) (t:TypeId) (cx cy:Bool):bl_ P .quo t cx cy (.int k x) (.int k c)=some (.int k (k.wrap (x.tdiv c))):=by
 show di_ P .quo k x k c=_
 have hb:Nat.beq (kix k) (kix k)=true:=Nat.beq_refl _
 unfold di_
 rw [hb]
 show (match (none:Option AV)with|some r=>some r|none=>fE_ P .quo k x k c)=_
 simp only
 unfold fE_
 simp only [binOp,Op.intDiv,hc,ne_eq,not_true_eq_false,if_false]
 rfl
section
variable {P:Program}
theorem wK_ {k:IntKind} {x c:Int} (hc:c≠0) (t:TypeId) (cx cy:Bool):(XOp.bin .quo t cx cy).run P [.int k x,.int k c]=some (.int k (k.wrap (x.tdiv c))):=wM_ hc t cx cy
theorem jL_ {k:IntKind} {x c:Int} (hc:c≠0) (t:TypeId) (cx cy:Bool):(XOp.bin .rem t cx cy).run P [.int k x,.int k c]=some (.int k (x.tmod c)):=ro_ hc rfl t cx cy
theorem wZ_ {k:IntKind} {x:Int}:(XOp.un .neg).run P [.int k x]=some (.int k (k.wrap (0-x))):=by
 show l5_ .neg (.int k x)=_
 unfold l5_
 simp only [dv_,cT_]
theorem op_ {s d:TypeId} {ds:TypeDesc} {k:FloatKind} {j:IntKind} (hs:P.underlying s=some ds) (hd:P.underlying d=some (.int j)) {b:Nat} {n:Int} (h:(k.decode b).toInt .zero=some n) (h1:j.min<=n) (h2:n<=j.max):(XOp.conv s d).run P [.flt k b]=some (.int j n):=by
 show b7_ P h0 s d (.flt k b)=_
 unfold b7_ fM_
 have:decide (j.min<=n/\n<=j.max)=true:=decide_eq_true ⟨h1,h2⟩
 simp only [hs,hd,h,this]
end
def fv (o:Option Nat):AV:=mkF .f64 o
theorem c7_ (o:Option Nat):I_ (fv o)=true:=by cases o<;>rfl
def eH_:Option Nat->Bool
 |none=>true
 |some b=>bC_ b
def ordF (a b:Option Nat):Option Ordering:=fOrd .f64 a b
theorem cr_ (P:Program) (op:BinOp) (t:TypeId) (cx cy:Bool) (a b:Option Nat):(XOp.bin op t cx cy).run P [fv a,fv b]=rS_ op .f64 a b:=by
 show bl_ P op t cx cy (fv a) (fv b)=_
 cases a<;>cases b<;>(unfold bl_;simp only [fv,mkF,kP_,flA,decide_true])
theorem sV_ (a:Option Nat):(ordF a a==some .eq)= !eH_ a:=by
 cases a with
 |none=>rfl
 |some b=>exact q2_ b
theorem uy_ {a b:Option Nat} (h:eH_ a=true):ordF a b=none:=by
 cases a with
 |none=>rfl
 |some x=>cases b with
  |none=>rfl
  |some y=>
   show Ieee.double.order x y=none
   unfold Ieee.Format.order
   rcases cI_ x with ⟨_,s,q,e⟩|⟨h',_⟩|⟨h',_⟩
   .rw [e];rfl
   .rw [show bC_ x=true from h]at h';cases h'
   .rw [show bC_ x=true from h]at h';cases h'
theorem s4_ {a b:Option Nat} (h:eH_ a=false) (h2:eH_ b=false):∃o,ordF a b=some o:=by
 cases a with
 |none=>cases h
 |some x=>cases b with
  |none=>cases h2
  |some y=>exact qL_ h h2
def bQ_:Option Nat->Option Nat
 |none=>none
 |some b=>if bC_ b=true then none else some (cA_ b)
theorem jU_ (a:Option Nat):eH_ (bQ_ a)=eH_ a:=by
 cases a with
 |none=>rfl
 |some b=>
  show eH_ (if bC_ b=true then none else some (cA_ b))=bC_ b
  by_cases h:bC_ b=true
  .rw [if_pos h,h];rfl
  .have h':bC_ b=false:=by simpa using h
   rw [if_neg h]
   show bC_ (cA_ b)=bC_ b
   rw [tB_ h',h']
def qD_ (a:Option Nat):Option Int:=match a with
 |none=>none
 |some b=>(Ieee.double.read b).toInt .zero
theorem bI_ {a:Option Nat} {lo hi k:Nat} {j:Int} (hk:(k:Int)=52+j) (hlo:Ieee.double.read lo=.number true 4503599627370496 j) (hhi:Ieee.double.read hi=.number false 4503599627370496 j)
  (h1:ordF a (some lo)≠some .lt) (h2:ordF a (some hi)=some .lt):∃n:Int,qD_ a=some n/\ -((2^k:Nat):Int)<=n/\n<((2^k:Nat):Int):=by
 cases a with
 |none=>cases h2
 |some b=>exact pD_ hk hlo hhi h1 h2
theorem qP_ {P:Program} {s d:TypeId} {ds:TypeDesc} {j:IntKind} (hs:P.underlying s=some ds) (hd:P.underlying d=some (.int j)) {a:Option Nat} {n:Int} (h:qD_ a=some n) (h1:j.min<=n) (h2:n<=j.max):(XOp.conv s d).run P [fv a]=some (.int j n):=by
 cases a with
 |none=>cases h
 |some b=>exact op_ hs hd h h1 h2
end Go.Sx
