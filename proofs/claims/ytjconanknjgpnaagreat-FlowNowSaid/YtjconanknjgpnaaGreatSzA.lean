/-
  Floats: order with powers of two and whole parts; quotients; truncation.
-/
import Derived.Test.YtjconanknjgpnaaGreatSyT
import Derived.Test.YtjconanknjgpnaaGreatSyM
import Derived.Test.YtjconanknjgpnaaGreatSyG
import Derived.Test.YtjconanknjgpnaaGreatSyU
set_option linter.unusedVariables false
set_option linter.unusedSimpArgs false
namespace Go.Sx
theorem qT_ (s:Bool) (n drop:Nat):Ieee.Toward.zero.cut s n drop=n/2^drop:=by
 unfold Ieee.Toward.cut
 simp only [Bool.toNat_false,Nat.add_zero,Nat.one_shiftLeft]
 by_cases h:drop<=n.log2+2
 .rw [Nat.min_eq_left h]
 .rw [Nat.min_eq_right (by omega)]
  have h1:n<2^(n.log2+1):=Nat.lt_log2_self
  have h2:2^(n.log2+1)<=2^(n.log2+2):=Nat.pow_le_pow_right (by omega) (by omega)
  have h3:2^(n.log2+2)<=2^drop:=Nat.pow_le_pow_right (by omega) (by omega)
  rw [Nat.div_eq_of_lt (by omega),Nat.div_eq_of_lt (by omega)]
def hp_ (m:Nat) (i:Int):Nat:=(m<<<i.toNat)/2^(-i).toNat
theorem lI_ (s:Bool) (m:Nat) (i:Int):(Ieee.Datum.number s m i).toInt .zero=some (if s then -(hp_ m i:Int)else (hp_ m i:Int)):=by
 unfold Ieee.Datum.toInt Ieee.Datum.integral
 simp only [qT_,Ieee.signed,Nat.shiftLeft_zero]
 rfl
theorem kN_ (m:Nat) (i:Int) (T:Nat) (hT:i.natAbs<=T):hp_ m i*2^T<=m*2^(i+T).toNat:=by
 unfold hp_
 rw [Nat.shiftLeft_eq]
 rcases Int.le_total 0 i with h|h
 .have e1:(-i).toNat=0:=by omega
  have e2:(i+T).toNat=i.toNat+T:=by omega
  rw [e1,e2,Nat.pow_zero,Nat.div_one,Nat.pow_add,Nat.mul_assoc]
  exact Nat.le_refl _
 .have e1:i.toNat=0:=by omega
  have e2:T=(-i).toNat+(i+T).toNat:=by omega
  rw [e1,Nat.pow_zero,Nat.mul_one]
  generalize (-i).toNat=a at*
  generalize (i+T).toNat=b at*
  rw [e2,Nat.pow_add,←Nat.mul_assoc]
  exact Nat.mul_le_mul_right _ (Nat.div_mul_le_self ..)
theorem rk_ {m n:Nat} {i j:Int} (T:Nat) (hi:i.natAbs<=T) (hj:j.natAbs<=T):m<<<(i-min i j).toNat<n<<<(j-min i j).toNat↔m*2^(i+T).toNat<n*2^(j+T).toNat:=by
 have e1:(i+T).toNat=(i-min i j).toNat+(min i j+T).toNat:=by omega
 have e2:(j+T).toNat=(j-min i j).toNat+(min i j+T).toNat:=by omega
 rw [e1,e2,Nat.shiftLeft_eq,Nat.shiftLeft_eq,Nat.pow_add,Nat.pow_add,←Nat.mul_assoc,←Nat.mul_assoc]
 exact (Nat.mul_lt_mul_right (Nat.pow_pos (by omega))).symm
theorem sl_ {m k:Nat} {i j:Int} (hk:(k:Int)=52+j) (h:m<<<(i-min i j).toNat<4503599627370496<<<(j-min i j).toNat):hp_ m i<2^k:=by
 have h1:=(rk_ (i.natAbs+j.natAbs) (by omega) (by omega)).1 h
 have h2:=kN_ m i (i.natAbs+j.natAbs) (by omega)
 have e:4503599627370496*2^(j+(i.natAbs+j.natAbs:Nat)).toNat=2^k*2^(i.natAbs+j.natAbs):=by
  have:(4503599627370496:Nat)=2^52:=by decide
  rw [this,←Nat.pow_add,←Nat.pow_add]
  congr 1
  omega
 rw [e]at h1
 exact Nat.lt_of_mul_lt_mul_right (Nat.lt_of_le_of_lt h2 h1)
theorem sk_ {m k:Nat} {i j:Int} (hk:(k:Int)=52+j) (h:m<<<(i-min i j).toNat<=4503599627370496<<<(j-min i j).toNat):hp_ m i<=2^k:=by
 have h1:¬(4503599627370496*2^(j+(i.natAbs+j.natAbs:Nat)).toNat<m*2^(i+(i.natAbs+j.natAbs:Nat)).toNat):=λhh=>by
  have:=(rk_ (m:=4503599627370496) (n:=m) (i:=j) (j:=i) (i.natAbs+j.natAbs) (by omega) (by omega)).2 hh
  rw [Int.min_comm j i]at this
  omega
 have h2:=kN_ m i (i.natAbs+j.natAbs) (by omega)
 have e:4503599627370496*2^(j+(i.natAbs+j.natAbs:Nat)).toNat=2^k*2^(i.natAbs+j.natAbs):=by
  have:(4503599627370496:Nat)=2^52:=by decide
  rw [this,←Nat.pow_add,←Nat.pow_add]
  congr 1
  omega
 rw [e]at h1
 exact Nat.le_of_mul_le_mul_right (Nat.le_trans h2 (Nat.le_of_not_lt h1)) (Nat.pow_pos (by omega))
theorem nj_ {b lo hi k:Nat} {j:Int} (hk:(k:Int)=52+j) (hlo:Ieee.double.read lo=.number true 4503599627370496 j) (hhi:Ieee.double.read hi=.number false 4503599627370496 j)
  (h1:Ieee.double.order b lo≠some .lt) (h2:Ieee.double.order b hi=some .lt):∃n:Int,(Ieee.double.read b).toInt .zero=some n/\ -((2^k:Nat):Int)<=n/\n<((2^k:Nat):Int):=by
 unfold Ieee.Format.order at h1 h2
 rw [hlo]at h1
 rw [hhi]at h2
 cases hb:Ieee.double.read b with
 |nan s t=>rw [hb]at h2;cases h2
 |infinity s=>
  rw [hb]at h1 h2
  cases s
  .exact absurd h2 (by simp [Ieee.Datum.order])
  .exact absurd rfl h1
 |number s m i=>
  rw [hb]at h1 h2
  simp only [Ieee.Datum.order,Option.some.injEq,ne_eq]at h1 h2
  have h2:=Int.compare_eq_lt.1 h2
  have h1:¬_:=λhh=>h1 (Int.compare_eq_lt.2 hh)
  refine ⟨_,lI_ s m i,?_⟩
  cases s with
  |false=>
   simp only [Ieee.signed,Bool.false_eq_true,if_false]at h2⊢
   have:=sl_ hk (m:=m) (i:=i) (j:=j) (by omega)
   omega
  |true=>
   simp only [Ieee.signed,if_true]at h1⊢
   have:=sk_ hk (m:=m) (i:=i) (j:=j) (by omega)
   have:0<2^k:=Nat.pow_pos (by omega)
   omega
theorem od_ {a b:Nat} (ha:dk_ a=false) (hb:dk_ b=false):∃o,Ieee.double.order a b=some o:=by
 unfold Ieee.Format.order
 rcases cv_ a with ⟨h,_⟩|⟨_,_,s,e⟩|⟨_,_,⟨s,m,i,hm,hi,e⟩|⟨s,e⟩⟩
 .rw [ha]at h;cases h
 all_goals
  rw [e]
  rcases cv_ b with ⟨h,_⟩|⟨_,_,t,f⟩|⟨_,_,⟨t,n,j,hn,hj,f⟩|⟨t,f⟩⟩
  .rw [hb]at h;cases h
  all_goals
   rw [f]
   exact ⟨_,rfl⟩
theorem uA_ {n:Nat}:(Ieee.double.read n).isNaN=dk_ n:=by
 rcases cv_ n with ⟨h,s,q,e⟩|⟨h,_,s,e⟩|⟨h,_,⟨s,m,i,hm,hi,e⟩|⟨s,e⟩⟩
 all_goals rw [e,h];rfl
theorem iX_ (s:Bool) {r:Nat} (h:r<=9218868437227405312):dk_ (Ieee.double.word s r)=false:=by
 have e1:Ieee.double.signWeight=9223372036854775808:=rfl
 unfold dk_ Ieee.Format.word
 rw [e1]
 cases s
 .simp;omega
 .simp;omega
theorem hH_ (s:Bool) (m:Nat) (i:Int):dk_ (Ieee.double.nearest s m i)=false:=by
 have e2:Ieee.double.infRung=9218868437227405312:=rfl
 unfold Ieee.Format.nearest
 split
 .exact iX_ s (Nat.zero_le _)
 .refine iX_ s ?_
  rw [e2]
  exact Nat.min_le_right _ _
def js_ (b:Nat):Nat:=Ieee.double.write ((Ieee.double.read b).integral .zero)
theorem qc_ {b:Nat} (h:dk_ b=false):dk_ (js_ b)=false:=by
 unfold js_
 rcases cv_ b with ⟨h',_⟩|⟨_,_,s,e⟩|⟨_,_,⟨s,m,i,hm,hi,e⟩|⟨s,e⟩⟩
 .rw [h]at h';cases h'
 .rw [e];exact hH_ ..
 .rw [e];exact hH_ ..
 .rw [e]
  exact iX_ s (Nat.le_refl _)
theorem sX_ {P:Program} {k:IntKind} {x c:Int} (hc:c≠0) (t:TypeId) (cx cy:Bool):bJ_ P .quo t cx cy (.int k x) (.int k c)=some (.int k (k.wrap (x.tdiv c))):=by
 show cU_ P .quo k x k c=_
 have hb:Nat.beq (kix k) (kix k)=true:=Nat.beq_refl _
 unfold cU_
 rw [hb]
 show (match (none:Option AV)with|some r=>some r|none=>eD_ P .quo k x k c)=_
 simp only
 unfold eD_
 simp only [binOp,Op.intDiv,hc,ne_eq,not_true_eq_false,if_false]
 rfl
section
variable {P:Program}
theorem vt_ {k:IntKind} {x c:Int} (hc:c≠0) (t:TypeId) (cx cy:Bool):(XOp.bin .quo t cx cy).run P [.int k x,.int k c]=some (.int k (k.wrap (x.tdiv c))):=sX_ hc t cx cy
theorem u5_ {k:IntKind} {x c:Int} (hc:c≠0) (t:TypeId) (cx cy:Bool):(XOp.bin .rem t cx cy).run P [.int k x,.int k c]=some (.int k (x.tmod c)):=s1_ hc rfl t cx cy
theorem vq_ {k:IntKind} {x:Int}:(XOp.un .neg).run P [.int k x]=some (.int k (k.wrap (0-x))):=by
 show ke_ .neg (.int k x)=_
 unfold ke_
 simp only [dj_,cG_]
theorem m5_ {s d:TypeId} {ds:TypeDesc} {k:FloatKind} {j:IntKind} (hs:P.underlying s=some ds) (hd:P.underlying d=some (.int j)) {b:Nat} {n:Int} (h:(k.decode b).toInt .zero=some n) (h1:j.min<=n) (h2:n<=j.max):(XOp.conv s d).run P [.flt k b]=some (.int j n):=by
 show b7_ P h0 s d (.flt k b)=_
 unfold b7_ fa_
 have:decide (j.min<=n/\n<=j.max)=true:=decide_eq_true ⟨h1,h2⟩
 simp only [hs,hd,h,this]
end
def fv (o:Option Nat):AV:=mkF .f64 o
theorem vO_ (o:Option Nat):okC (fv o)=true:=by cases o<;>rfl
def n7_:Option Nat->Bool
 |none=>true
 |some b=>dk_ b
def ordF (a b:Option Nat):Option Ordering:=fOrd .f64 a b
theorem u4_ (P:Program) (op:BinOp) (t:TypeId) (cx cy:Bool) (a b:Option Nat):(XOp.bin op t cx cy).run P [fv a,fv b]=oT_ op .f64 a b:=by
 show bJ_ P op t cx cy (fv a) (fv b)=_
 cases a<;>cases b<;>(unfold bJ_;simp only [fv,mkF,ix_,flA,decide_true])
theorem uC_ (a:Option Nat):(ordF a a==some .eq)= !n7_ a:=by
 cases a with
 |none=>rfl
 |some b=>exact oc_ b
theorem uY_ {a b:Option Nat} (h:n7_ a=true):ordF a b=none:=by
 cases a with
 |none=>rfl
 |some x=>cases b with
  |none=>rfl
  |some y=>
   show Ieee.double.order x y=none
   unfold Ieee.Format.order
   rcases cv_ x with ⟨_,s,q,e⟩|⟨h',_⟩|⟨h',_⟩
   .rw [e];rfl
   .rw [show dk_ x=true from h]at h';cases h'
   .rw [show dk_ x=true from h]at h';cases h'
theorem uD_ {a b:Option Nat} (h:n7_ a=false) (h2:n7_ b=false):∃o,ordF a b=some o:=by
 cases a with
 |none=>cases h
 |some x=>cases b with
  |none=>cases h2
  |some y=>exact od_ h h2
def uj_:Option Nat->Option Nat
 |none=>none
 |some b=>if dk_ b=true then none else some (js_ b)
theorem uk_ (a:Option Nat):n7_ (uj_ a)=n7_ a:=by
 cases a with
 |none=>rfl
 |some b=>
  show n7_ (if dk_ b=true then none else some (js_ b))=dk_ b
  by_cases h:dk_ b=true
  .rw [if_pos h,h];rfl
  .have h':dk_ b=false:=by simpa using h
   rw [if_neg h]
   show dk_ (js_ b)=dk_ b
   rw [qc_ h',h']
def sj_ (a:Option Nat):Option Int:=match a with
 |none=>none
 |some b=>(Ieee.double.read b).toInt .zero
theorem tl_ {a:Option Nat} {lo hi k:Nat} {j:Int} (hk:(k:Int)=52+j) (hlo:Ieee.double.read lo=.number true 4503599627370496 j) (hhi:Ieee.double.read hi=.number false 4503599627370496 j)
  (h1:ordF a (some lo)≠some .lt) (h2:ordF a (some hi)=some .lt):∃n:Int,sj_ a=some n/\ -((2^k:Nat):Int)<=n/\n<((2^k:Nat):Int):=by
 cases a with
 |none=>cases h2
 |some b=>exact nj_ hk hlo hhi h1 h2
theorem uc_ {P:Program} {s d:TypeId} {ds:TypeDesc} {j:IntKind} (hs:P.underlying s=some ds) (hd:P.underlying d=some (.int j)) {a:Option Nat} {n:Int} (h:sj_ a=some n) (h1:j.min<=n) (h2:n<=j.max):(XOp.conv s d).run P [fv a]=some (.int j n):=by
 cases a with
 |none=>cases h
 |some b=>exact m5_ hs hd h h1 h2
end Go.Sx
