/-
  One operation of the evaluator, and that the model's does the same.
-/
import Derived.Test.YtelnbodnjmldeaaGreatSxE
import Derived.Laws.IdiomStrings
set_option linter.all false
open Nat renaming eq_of_beq_eq_true→za',blt_eq→zb'
namespace Go.Sx
inductive BN where
 |val (a:AV) (H:AHeap)
 |call (f:FuncId) (ag:List AV)
 |dfr (f:FuncId) (ag:List AV)
 |pan (a:AV)
 |rcv
def I7 (ρ:Operand->AV):List Operand->List AV
 |[]=>[]
 |x::r=>ρ x::I7 ρ r
def II (ρ:Operand->AV):List (Nat×Operand)->List (Nat×AV)
 |[]=>[]
 |(i,x)::r=>(i,ρ x)::II ρ r
def M1 (ρ:Operand->AV):Option Operand->Option AV
 |none=>none
 |some x=>some (ρ x)
def IV:List AV->List AV->List AV
 |[],l=>l
 |a::r,l=>a::IV r l
theorem XR:∀a b:List AV,IV a b=a++b
 |[],b=>rfl
 |x::r,b=>by simp [IV,XR r b]
def IX (P:Program) (f:FuncId):Bool:=match P.funcs[f]? with
 |some fn=>match fn.body with
  |some _=>not (fn.name== "runtime.NumGoroutine")
  |none=>false
 |none=>false
theorem Xj {P:Program} {f:FuncId} (h:IX P f=true) (ag:Array Value) (w:World):(callFunc f ag).run P w=.ok (.enter f ag) w:=by
 unfold IX at h;split at h
 .split at h<;>simp_all [callFunc]
 cases h
def Us (ρ:Operand->AV):List Operand->Bool
 |[]=>true
 |x::r=>match FD (ρ x)with
  |some _=>Us ρ r
  |none=>false
def zI:Op->Bool
 | .select _ _=>false
 |_=>true
def TG (a:AV):Value:=match FD a with
 |some v=>v
 |none=>.tuple #[]
def N1 (P:Program) (ρ:Operand->AV) (H:AHeap) (o:Oper):Option BN:=match zI o.op&&Us ρ o.op.operands.toList with
 |true=>match Cs P (execOp (λx=>TG (ρ x)) o)with
  |some (.value v)=>some (.val (Gd v) H)
  |some .skip=>some (.val (.tup []) H)
  |_=>none
 |false=>none
def PQ:AV->Option (FloatKind×Option Nat)
 | .flt k b=>some (k,some b)
 | .nan k=>some (k,none)
 |_=>none
def In (k:FloatKind) (r:Option Nat):AV:=match r with
 |some n=>.flt k n
 |none=>.nan k
def DL (k:FloatKind) (a b:Option Nat):Option Ordering:=match a with
 |some a=>match b with
  |some b=>k.format.order a b
  |none=>none
 |none=>none
def Ex (f:Nat->Nat->Option Nat) (a b:Option Nat):Option Nat:=match a with
 |some a=>match b with
  |some b=>f a b
  |none=>none
 |none=>none
def UF (op:BinOp) (k:FloatKind) (a b:Option Nat):Option AV:=match op with
 | .add=>some (In k (Ex k.format.add a b))
 | .sub=>some (In k (Ex k.format.sub a b))
 | .mul=>some (In k (Ex k.format.mul a b))
 | .quo=>some (In k (Ex k.format.div a b))
 | .eql=>some (.bool (DL k a b==some .eq))
 | .neq=>some (.bool (DL k a b !=some .eq))
 | .lss=>some (.bool (DL k a b==some .lt))
 | .leq=>some (.bool (DL k a b==some .lt||DL k a b==some .eq))
 | .gtr=>some (.bool (DL k a b==some .gt))
 | .geq=>some (.bool (DL k a b==some .gt||DL k a b==some .eq))
 |_=>none
def PH:AV->Bool
 | .int _ _| .flt _ _| .nan _| .str _| .opq| .sym _| .slx _ _ _| .ptx _ _ _ _=>false
 |_=>true
def SC:List UInt8->List UInt8->List UInt8
 |[],l=>l
 |a::r,l=>a::SC r l
theorem dt:∀a b:List UInt8,SC a b=a++b
 |[],b=>rfl
 |x::r,b=>by simp [SC,dt r b]
def Fi:IntKind->Nat
 | .i8=>0
 | .i16=>1
 | .i32=>2
 | .i64=>3
 | .u8=>4
 | .u16=>5
 | .u32=>6
 | .u64=>7
def jz {k k':IntKind} (h:Nat.beq (Fi k) (Fi k')=true):k=k':=by cases k<;>cases k'<;>first|rfl|(exact absurd h (by decide))
def M5 (P:Program) (op:BinOp) (k:IntKind) (a:Int) (k':IntKind) (b:Int):Option AV:=match Cs P (binOp op 0 (.int k a) (.int k' b))with
 |some v=>some (Gd v)
 |none=>none
def JG (P:Program) (op:BinOp) (k:IntKind) (a:Int) (k':IntKind) (b:Int):Option AV:=match Nat.beq (Fi k) (Fi k')with
 |true=>match Gb op k a b with
  |some r=>some r
  |none=>M5 P op k a k' b
 |false=>M5 P op k a k' b
def Dj (P:Program) (op:BinOp) (t:TypeId) (cx cy:Bool) (x y:AV):Option AV:=match x,y with
 | .int k a,.int k' b=>JG P op k a k' b
 | .str a,.str b=>match op with
   | .eql=>some (.bool (G8 a b))
   | .neq=>some (.bool (not (G8 a b)))
   | .add=>match Nat.blt (Nat.add (GN a) (GN b)) 9223372036854775807 with
     |true=>some (.str (SC a b))
     |false=>none
   |_=>none
 |x,y=>match PH x with
  |true=>match op with
   | .eql=>R2 P false t cx cy x y
   | .neq=>R2 P true t cx cy x y
   |_=>none
  |false=>match PQ x with
   |some (k,a)=>match PQ y with
    |some (k',b)=>match decide (k=k')with
     |true=>UF op k a b
     |false=>none
    |none=>none
   |none=>none
def oV (H:AHeap) (r:Option AV):Option BN:=match r with
 |some a=>some (.val a H)
 |none=>none
def oP (r:Option (AV×AHeap)):Option BN:=match r with
 |some p=>some (.val p.1 p.2)
 |none=>none
def Jt (P:Program) (ρ:Operand->AV) (H:AHeap) (c:Call):Option BN:=match c.callee with
 | .value f=>match ρ f with
   | .fn g cap=>match IX P g with
     |true=>some (.call g (IV (I7 ρ c.args.toList) cap))
     |false=>none
   |_=>none
 | .builtin b=>match b with
   | .len=>match c.args.toList,c.argTypes.toList with
     |[x],[t]=>oV H (Ey P H t (ρ x))
     |_,_=>none
   | .append=>match c.args.toList,c.argTypes.toList with
     |[s,x],[t,tx]=>oP (U7 P H t tx (ρ s) (ρ x))
     |_,_=>none
   | .copy=>match c.args.toList,c.argTypes.toList with
     |[d,s],[t,_]=>oP (TF P H t (ρ d) (ρ s))
     |_,_=>none
   | .recover=>match c.args.toList with
     |[]=>some .rcv
     |_=>none
   |_=>none
 |_=>none
def X9 (P:Program) (ρ:Operand->AV) (c:Call):Option BN:=match c.callee with
 | .value f=>match ρ f with
   | .fn g []=>match IX P g with
     |true=>some (.dfr g (I7 ρ c.args.toList))
     |false=>none
   |_=>none
 |_=>none
def So (P:Program) (x:AV) (asserted:TypeId) (ok:Bool):Option AV:=match P.underlying asserted with
 |some (.interface _)=>none
 |some _=>match P.info? asserted with
  |none=>none
  |some i=>match i.zero with
   |none=>none
   |some z=>match x with
    | .nif=>match ok with
      |true=>some (.tup [Gd z,.bool false])
      |false=>none
    | .iface t v=>match Nat.beq t asserted with
      |true=>some (Mb ok v true)
      |false=>match ok with
       |true=>some (.tup [Gd z,.bool false])
       |false=>none
    |_=>none
 |none=>none
def OY (P:Program) (s d:TypeId) (x:AV):Option AV:=match P.underlying s with
 |some _=>match P.underlying d with
  |some (.int k)=>match x with
   | .int _ n=>some (GH k (I3 k n))
   | .flt f b=>match (f.decode b).toInt .zero with
     |some n=>match decide (k.min<=n/\n<=k.max)with
      |true=>some (.int k n)
      |false=>none
     |none=>none
   |_=>none
  |some (.float k)=>match x with
   | .int _ n=>some (.flt k (k.nearest n))
   |_=>none
  |_=>none
 |none=>none
def aL (P:Program) (s d:TypeId) (x:AV):Option AV:=match x with
 | .str l=>match P.underlying s with
   |some .string=>match P.underlying d with
    |some (.slice e)=>match P.underlying e with
     |some (.int .u8)=>some (.vsl (GN l) 1 (OS l))
     |_=>none
    |_=>none
   |_=>none
 |_=>none
def Gw (P:Program) (H:AHeap) (s d:TypeId) (x:AV):Option AV:=match OY P s d x with
 |some r=>some r
 |none=>match NK P H s d x with
  |some r=>some r
  |none=>aL P s d x
def ff (P:Program) (s:TypeId):Bool:=match P.underlying s with
 |some (.slice e)=>match P.underlying e with
  |some (.int .u8)=>true
  |_=>false
 |_=>false
def Yu (P:Program) (s d:TypeId):Bool:=Nat.beq s d&&ff P s
def XH (P:Program) (H:AHeap) (s d:TypeId) (x:AV):Option (AV×AHeap):=match x with
 | .sl id off len sz _=>match len with
   |0=>none
   |n+1=>match Nat.beq sz 1&&Yu P s d with
    |true=>match DB H (.ptr id off) (Nat.succ n)with
     |some l=>some (.vsl (Nat.succ n) 1 l,H.erase id)
     |none=>none
    |false=>none
 |_=>none
def OV (P:Program) (H:AHeap) (s d:TypeId) (x:AV):Option (AV×AHeap):=match Gw P H s d x with
 |some a=>some (a,H)
 |none=>XH P H s d x
def Ra:List UInt8->Nat->Option UInt8
 |[],_=>none
 |b::_,0=>some b
 |_::r,n+1=>Ra r n
theorem pf:∀(l:List UInt8) (n:Nat),Ra l n=l[n]?
 |[],n=>by simp [Ra]
 |b::r,0=>rfl
 |b::r,n+1=>by simp [Ra,pf r n]
def mj (b:UInt8):AV:=GH .u8 (.ofNat b.toNat)
def QP (P:Program) (t:TypeId) (x i:AV):Option AV:=match P.underlying t with
 |some .string=>match x with
  | .str s=>match i with
    | .int _ (.ofNat n)=>match Ra s n with
      |some b=>some (mj b)
      |none=>none
    |_=>none
  |_=>none
 |_=>none
def RK (op:UnOp) (x:AV):Option AV:=match op with
 | .not=>match x with
   | .bool b=>some (.bool (not b))
   |_=>none
 | .neg=>match x with
   | .int k n=>some (GH k (I3 k (0-n)))
   | .flt k b=>some (.flt k (Op.negFloat k b))
   | .nan k=>some (.nan k)
   |_=>none
 |_=>none
def Tu (P:Program) (t:TypeId):Bool:=match P.underlying t with
 |some (.interface _)=>false
 |some _=>true
 |none=>false
def B0 (P:Program) (ρ:Operand->AV) (H:AHeap) (o:Oper):Option BN:=match o.op with
 | .move x=>some (.val (ρ x) H)
 | .assign x=>some (.val (ρ x) H)
 | .pick c a b=>match ρ c with
   | .bool true=>some (.val (ρ a) H)
   | .bool false=>some (.val (ρ b) H)
   |_=>none
 | .alloc t=>oP (M9 P H t)
 | .box _ x=>oP (Rc H (ρ x))
 | .build t parts=>oV H (Vj P t (II ρ parts.toList))
 | .buildSlice t n parts=>oP (MX P H t n (II ρ parts.toList))
 | .load t a=>oV H (Ds P H t (ρ a))
 | .store t a x=>oP (EU P H t (ρ a) (ρ x))
 | .nilCheck x=>match ρ x with
   | .ptr id off=>some (.val (.ptr id off) H)
   | .vptr cs=>some (.val (.vptr cs) H)
   |_=>none
 | .binOp op t x y _=>oV H (Dj P op t (FW x) (FW y) (ρ x) (ρ y))
 | .convert s d x=>oP (OV P H s d (ρ x))
 | .index t x i=>oV H (QP P t (ρ x) (ρ i))
 | .unOp op _ x=>oV H (RK op (ρ x))
 | .makeInterface t x=>match Tu P t with
   |true=>some (.val (.iface t (ρ x)) H)
   |false=>none
 | .makeFunc fn first captured=>match fn with
   | .func f=>match first.toList with
     |[]=>some (.val (.fn f (I7 ρ captured.toList)) H)
     |_=>none
   |_=>none
 | .makeMap t r=>match r with
   |none=>oP (Ve P H t)
   |some _=>none
 | .makeSlice t l c=>oP (Ot P H t (ρ l) (ρ c))
 | .slice t x lo hi mx=>match mx with
   |none=>oV H (DT P H t (ρ x) (M1 ρ lo) (M1 ρ hi))
   |some _=>none
 | .fieldAddr s x f=>oV H (Hd P s (ρ x) f)
 | .field s x f=>oV H (RH P s (ρ x) f)
 | .indexAddr t x ix=>oV H (Ht P t (ρ x) (ρ ix))
 | .lookup t x ix ok=>oV H (E6 P H t (ρ x) (ρ ix) ok)
 | .mapUpdate t m k x=>oP (IJ P H t (ρ m) (ρ k) (ρ x))
 | .insert t m k x=>oP (IJ P H t (ρ m) (ρ k) (ρ x))
 | .typeAssert x _ asserted ok=>oV H (So P (ρ x) asserted ok)
 | .extract t ix=>oV H (Ud (ρ t) ix)
 | .call c=>Jt P ρ H c
 | .defer c=>X9 P ρ c
 | .panic x=>match ρ x with
   | .iface t v=>some (.pan (.iface t v))
   |_=>none
 |_=>none
section
variable {P:Program} {B:World} {pr:Nat->Prop} {E:Ag} {H:AHeap} {w:World}
def Bi (P:Program) (B:World) (pr:Nat->Prop) (E:Ag) (w:World) (s:Sem Next):BN->Prop
 | .val a H'=>∃E' n v w',s.run P w=.ok n w'/\(n=.value v\/(n=.skip/\v=undef))/\E.le E'/\As B pr E' H' w'/\Ac E' a v
 | .call f ag=>∃vs,s.run P w=.ok (.enter f ⟨vs⟩) w/\Ah E ag vs
 | .dfr f ag=>∃vs,s.run P w=.ok (.defer { target:=.fn (.func f) #[],args:=⟨vs⟩ }) w/\Ah E ag vs/\IX P f=true
 | .pan a=>∃v,s.run P w=.halt (.panic v) w/\Ac E a v
 | .rcv=>s.run P w=.ok .recover w
theorem Bi.of_gives {s:Sem Value} {a:AV} {H':AHeap} (h:Gives P B pr E w s (a,H')):Bi P B pr E w (do pure (.value (←s))) (.val a H'):=by obtain ⟨E',v,w',h1,h2,h3,h4⟩:=h;exact ⟨E',.value v,v,w',by simp [h1],.inl rfl,h2,h3,h4⟩
theorem Bi.oV {s:Sem Value} {x:Option AV} {r:BN} (h:oV H x=some r) (hg:∀a,x=some a->Gives P B pr E w s (a,H)):Bi P B pr E w (do pure (.value (←s))) r:=by unfold Sx.oV at h;split at h;cases h;exact Bi.of_gives (hg _ rfl);cases h
theorem Bi.oP {s:Sem Value} {x:Option (AV×AHeap)} {r:BN} (h:oP x=some r) (hg:∀p,x=some p->Gives P B pr E w s p):Bi P B pr E w (do pure (.value (←s))) r:=by unfold Sx.oP at h;split at h;cases h;exact Bi.of_gives (hg _ rfl);cases h
def QA {ρ:Operand->AV} {σ:Operand->Value} (h:∀x,Ac E (ρ x) (σ x)):∀l:List Operand,Ah E (I7 ρ l) (l.map σ)
 |[]=>by rfl
 |x::r=>Ah.cons (h x) (QA h r)
def Tq {ρ:Operand->AV} {σ:Operand->Value} (h:∀x,Ac E (ρ x) (σ x)):∀l:List (Nat×Operand),Ah E ((II ρ l).map (·.2)) ((l.map λp=>(p.1,σ p.2)).map (·.2))/\
  (l.map λp=>(p.1,σ p.2)).map (·.1)=(II ρ l).map (·.1)
 |[]=>by simp [II,Ah]
 |(i,x)::r=>by
  obtain ⟨h1,h2⟩:=Tq h r
  grind [Ah.cons,II]
def eP {ρ:Operand->AV} {σ:Operand->Value} (h:∀x,Ac E (ρ x) (σ x)) (x:Option Operand):K7 E (M1 ρ x) (x.map σ):=by
 cases x with
 |none=>rfl
 |some x=>exact ⟨σ x,rfl,h x⟩
def sB (hr:As B pr E H w) {ρ:Operand->AV} {σ:Operand->Value} (hσ:∀x,Ac E (ρ x) (σ x)) {o:Oper} {r:BN} (h:N1 P ρ H o=some r):Bi P B pr E w (execOp σ o) r:=by
 unfold N1 at h;split at h
 case h_2=>cases h
 rename_i hb;obtain ⟨hsel,hall⟩:=Au hb;have heq:execOp σ o=execOp (λx=>TG (ρ x)) o:=by
  refine execOp_congr o (λcs b e=>?_) λx hx=>?_;rw [e]at hsel;cases hsel
  .have:∀l:List Operand,Us ρ l=true->∀x∈l,σ x=TG (ρ x):=by
     intro l
     induction l<;>grind [Us,TG,P3]
   exact this _ hall x (Array.mem_toList_iff.2 hx)
 rw [heq];split at h;rename_i v hv;cases h;exact ⟨E,_,v,w,KN hv w,.inl rfl,Ag.le_refl _,hr,J1 E v⟩;rename_i hv;cases h;exact ⟨E,_,undef,w,KN hv w,.inr ⟨rfl,rfl⟩,Ag.le_refl _,hr,by simp [Ac,undef,Ah]⟩;cases h
def kP_ {x:AV} {u:Value} (hx:Ac E x u) (h:PH x=true) (t:TypeId) (v:Value) (neg:Bool) {b:Bool} (he:(Op.equal t u v).run P w=.ok b w):
  (binOp (if neg then .neq else .eql) t u v).run P w=.ok (.bool (neg ^^ b)) w:=by
 have hu:(match u with
   | .int _ _| .float _ _| .complex _ _ _| .string _=>False
   |_=>True):=by
  cases x<;>simp only [PH,Bool.false_eq_true]at h<;>
   (simp only [Ac]at hx
    grind)
 cases neg;have e:binOp .eql t u v=(do pure (.bool (←Op.equal t u v))):=(by cases u<;>first|rfl|exact hu.elim);simp_all
 have e:binOp .neq t u v=(do pure (.bool (!(←Op.equal t u v)))):=(by cases u<;>first|rfl|exact hu.elim);simp_all
theorem qk (hr:As B pr E H w) {neg:Bool} {t:TypeId} {ox oy:Operand} {x y:AV} {u v:Value} (hx:Ac E x u) (hy:Ac E y v) {r:AV} (h:R2 P neg t (FW ox) (FW oy) x y=some r)
  (hq:PH x=true):Gives P B pr E w (do eqGuard (if neg then .neq else .eql) t ox oy u v;binOp (if neg then .neq else .eql) t u v) (r,H):=by
 unfold R2 at h;split at h;cases h;rename_i hg;split at h;rename_i b hb;cases h;have hgr:=pT (P:=P) (w:=w) hx hy hg (if neg then BinOp.neq else BinOp.eql);have heq:=gJ (P:=P) (w:=w) hx hy hb 10000 (by omega);have hequal:(Op.equal t u v).run P w=.ok b w:=heq;refine Gives.still hr (v:=.bool (neg ^^ b)) ?_ (by simp [Ac]);simp only [Sem.run_bind,hgr,Result.andThen_ok];exact kP_ hx hq t v neg hequal;cases h
def bH {op:BinOp} {t:TypeId} {ox oy:Operand} {u v:Value} (hu:(match u with| .nilIface| .agg _=>False|_=>True)):(eqGuard op t ox oy u v).run P w=.ok () w:=by
 unfold eqGuard;cases op<;>first
  |rfl
  |(simp only [Bool.not_true,Bool.false_eq_true,if_false]
    cases u<;>first|rfl|exact hu.elim)
def Ix (k:FloatKind) (a:Option Nat) (n:Nat):Prop:=match a with
 |some m=>m=n
 |none=>(k.format.read n).isNaN=true
def nh {x:AV} {u:Value} (hx:Ac E x u) {k:FloatKind} {a:Option Nat} (h:PQ x=some (k,a)):∃n,u=.float k n/\Ix k a n:=by unfold PQ at h;all_goals grind [Ac,Ix]
theorem VR {f:Ieee.Format} {q:Nat} (h:f.infRung<q%f.signWeight) (hb:f.binade<=f.infRung):(f.read q).isNaN=true:=by unfold Ieee.Format.read;rw [Ab (by omega),Ab (by omega),Ab (by omega)];rfl
def wn {f:Ieee.Format} {q:Nat} (h:(f.read q).isNaN=true):f.infRung<q%f.signWeight:=by unfold Ieee.Format.read at h;simp only at h;split at h;cases h;split at h;cases h;split at h;cases h;omega
def th {k:FloatKind} {b:Nat} (h:(k.format.read b).isNaN=true):(k.format.read (Op.negFloat k b)).isNaN=true:=by
 have h1:=wn h;have e2:k.format.signWeight=2^(k.format.exponentBits+k.format.fractionBits):=by rfl
 have key:Op.negFloat k b%k.format.signWeight=b%k.format.signWeight:=by
  unfold Op.negFloat;apply Nat.eq_of_testBit_eq
  grind
 exact VR (by omega) (by cases k<;>decide)
def qR (k:FloatKind) (x y t:Nat):(k.format.read ((Question.nanBits k x y).cut t)).isNaN=true:=by
 cases k
 .have e1:FloatKind.f32.format.infRung=2139095040:=(by decide);have e2:FloatKind.f32.format.signWeight=2147483648:=(by decide);have e3:FloatKind.f32.format.binade=8388608:=(by decide);have e4:(Question.nanBits .f32 x y).cut t=(t%2)*2147483648+2139095040+1+(t/2)%8388607:=rfl
  grind [VR]
 .have e1:FloatKind.f64.format.infRung=9218868437227405312:=(by decide);have e2:FloatKind.f64.format.signWeight=9223372036854775808:=(by decide);have e3:FloatKind.f64.format.binade=4503599627370496:=(by decide);have e4:(Question.nanBits .f64 x y).cut t=(t%2)*9223372036854775808+9218868437227405312+1+(t/2)%4503599627370495:=rfl
  grind [VR]
def sI_ {k:FloatKind} {a b:Option Nat} {m n:Nat} (ha:Ix k a m) (hb:Ix k b n):
  DL k a b=k.format.order m n:=by
 cases a with
 |none=>exact (ai ha n).symm
 |some a=>
  cases b with
  |none=>exact (bM hb m).symm
  |some b=>grind [Ix,DL]
def Sw {k:FloatKind} {m n:Nat} (h:(k.format.read m).isNaN=true\/(k.format.read n).isNaN=true):
  k.format.add m n=none/\k.format.sub m n=none/\k.format.mul m n=none/\k.format.div m n=none:=by
 unfold Ieee.Format.add Ieee.Format.sub Ieee.Format.mul Ieee.Format.div;generalize k.format.read m=x at*;generalize k.format.read n=y at*;rcases h with h|h
 .cases x<;>simp [Ieee.Datum.isNaN]at h
  cases y<;>refine ⟨?_,?_,?_,?_⟩<;>rfl
 .cases y<;>simp [Ieee.Datum.isNaN]at h
  cases x<;>refine ⟨?_,?_,?_,?_⟩<;>rfl
def Uq (hr:As B pr E H w) {k:FloatKind} {f:Nat->Nat->Option Nat} {a b:Option Nat} {m n:Nat} (ha:Ix k a m)
  (hb:Ix k b n) (hf:(k.format.read m).isNaN=true\/(k.format.read n).isNaN=true->f m n=none):
  Gives P B pr E w (match f m n with|some r=>pure (.float k r)|none=>do pure (.float k (←choose (.nanBits k m n)))) (In k (Ex f a b),H):=by
 have key:Ex f a b=f m n:=by
  cases a with
  |none=>exact (hf (.inl ha)).symm
  |some a=>
   cases b with
   |none=>exact (hf (.inr hb)).symm
   |some b=>grind [Ix,Ex]
 rw [key];cases hfm:f m n with
 |some r=>exact Gives.still hr rfl (by rfl)
 |none=>refine ⟨E,.float k ((Question.nanBits k m n).cut (w.tape w.drawn (.nanBits k m n))),{ w with drawn:=w.drawn+1 },?_,Ag.le_refl _,hr.drawn _,?_⟩;rfl;exact ⟨_,rfl,qR k m n _⟩
def Gives.eqv {s s':Sem Value} {r:AV×AHeap} (h:Gives P B pr E w s r) (e:s'.run P w=s.run P w):Gives P B pr E w s' r:=by
 grind [Go.Sx.Gives]
def pM_ (hr:As B pr E H w) {op:BinOp} {t:TypeId} {k:FloatKind} {a b:Option Nat} {m n:Nat} (ha:Ix k a m)
  (hb:Ix k b n) {r:AV} (h:UF op k a b=some r):Gives P B pr E w (binOp op t (.float k m) (.float k n)) (r,H):=by
 have ho:=sI_ ha hb;cases op<;>simp only [UF,A6,reduceCtorEq]at h<;>subst h
 case add=>exact (Uq hr (f:=k.format.add) ha hb λh=>(Sw h).1).eqv (by grind [binOp,Op.floatArith])
 case sub=>exact (Uq hr (f:=k.format.sub) ha hb λh=>(Sw h).2.1).eqv (by grind [binOp,Op.floatArith])
 case mul=>exact (Uq hr (f:=k.format.mul) ha hb λh=>(Sw h).2.2.1).eqv (by grind [binOp,Op.floatArith])
 case quo=>exact (Uq hr (f:=k.format.div) ha hb λh=>(Sw h).2.2.2).eqv (by grind [binOp,Op.floatArith])
 all_goals
  rw [ho];exact Gives.still hr (by simp [binOp,Op.floatCmp];rfl) (by rfl)
theorem pJ_ (hr:As B pr E H w) {op:BinOp} {t:TypeId} {ox oy:Operand} {x y:AV} {u v:Value} (hx:Ac E x u) (hy:Ac E y v) {r:AV} (h:Dj P op t (FW ox) (FW oy) x y=some r):
  Gives P B pr E w (do eqGuard op t ox oy u v;binOp op t u v) (r,H):=by
 unfold Dj at h;split at h
 .rename_i k a k' b;subst hx hy;have hg:=bH (P:=P) (w:=w) (op:=op) (t:=t) (ox:=ox) (oy:=oy) (u:=.int k a) (v:=.int k' b) trivial;have h2':∀r,M5 P op k a k' b=some r->Gives P B pr E w (do eqGuard op t ox oy (.int k a) (.int k' b);binOp op t (.int k a) (.int k' b)) (r,H):=by
   intro r h;unfold M5 at h;split at h
   .rename_i v hv;cases h;refine Gives.still hr (v:=v) ?_ (J1 E v);have e:binOp op t (.int k a) (.int k' b)=binOp op 0 (.int k a) (.int k' b):=by cases op<;>rfl
    grind [Sem.run_bind,Result.andThen_ok,KN]
   cases h
  unfold JG at h;split at h
  .rename_i hk;have hk:=jz hk;subst hk;split at h
   .rename_i r' hi;obtain ⟨v,h1,h2⟩:=pE (P:=P) hi t w E
    grind [Gives.still,Sem.run_bind,Result.andThen_ok]
   grind
  grind
 .rename_i a b;subst hx hy;have hg:=bH (P:=P) (w:=w) (op:=op) (t:=t) (ox:=ox) (oy:=oy) (u:=.string ⟨⟨a⟩⟩) (v:=.string ⟨⟨b⟩⟩) trivial;split at h;cases h;refine Gives.still hr (v:=.bool (G8 a b)) ?_ (by simp [Ac]);simp_all [binOp_string_eql,JZ]
  cases h;refine Gives.still hr (v:=.bool (not (G8 a b))) ?_ (by simp [Ac]);simp_all [binOp_string_neq,JZ]
  .split at h
   .rename_i hlt;cases h;have hlt:GN a+GN b<9223372036854775807:=(by simp_all);rw [J5,J5]at hlt;refine Gives.still hr (v:=.string (⟨⟨a⟩⟩++⟨⟨b⟩⟩)) ?_ ?_
    .rw [binOp_string_add];have:¬((((ByteArray.mk ⟨a⟩).size+(ByteArray.mk ⟨b⟩).size:Nat):Int)>IntKind.i64.max):=by rw [cV,cV];have hm:IntKind.i64.max=9223372036854775807:=(by decide);omega
     simp_all [Op.stringOp]
    simp only [Ac,dt];rfl
   cases h
  cases h
 .split at h
  .grind [qk]
  .split at h
   case h_2=>cases h
   rename_i k a hfa;split at h
   case h_2=>cases h
   rename_i k' b hfb;split at h
   case h_2=>cases h
   rename_i hk;have hk:=AU hk;subst hk;obtain ⟨m,rfl,ha⟩:=nh hx hfa;obtain ⟨n,rfl,hb⟩:=nh hy hfb;have hg:=bH (P:=P) (w:=w) (op:=op) (t:=t) (ox:=ox) (oy:=oy) (u:=.float k m) (v:=.float k n) trivial;refine (pM_ (t:=t) hr ha hb h).eqv ?_;simp_all
theorem yI (hr:As B pr E H w) {x:AV} {v:Value} (hx:Ac E x v) {xt asserted:TypeId} {ok:Bool} {r:AV} (h:So P x asserted ok=some r):
  Gives P B pr E w (Instr.typeAssert v xt asserted ok) (r,H):=by
 unfold So at h;split at h;cases h
 .rename_i d hni hd;split at h;cases h;rename_i i hi;split at h;cases h;rename_i z hz;have hzv:(zeroValue asserted).run P w=.ok z w:=(by simp [zeroValue,typeInfo,hi,hz]);cases x<;>simp only [reduceCtorEq]at h
  case nif=>
   subst hx;split at h;cases h;refine Gives.still hr (v:=.tuple #[z,.bool false]) ?_ (by exact ⟨[z,.bool false],rfl,Ah.cons (J1 E z) (Ah.cons (by simp [Ac]) (Ah.nil E))⟩);simp only [Instr.typeAssert,Sem.run_bind,run_underlying hd,Result.andThen_ok];simp_all
   cases h
  case iface t a=>
   obtain ⟨u,rfl,hu⟩:=hx;split at h;rename_i hbt;cases h;have hbt:=za' hbt;subst hbt;refine Gives.still hr ?_ (OP hu ok true);simp only [Instr.typeAssert,Sem.run_bind,run_underlying hd,Result.andThen_ok];rfl
   .rename_i hbt;have hne:t≠asserted:=λe=>(by simp_all);split at h;cases h;refine Gives.still hr (v:=.tuple #[z,.bool false]) ?_ (by exact ⟨[z,.bool false],rfl,Ah.cons (J1 E z) (Ah.cons (by simp [Ac]) (Ah.nil E))⟩);simp only [Instr.typeAssert,Sem.run_bind,run_underlying hd,Result.andThen_ok];simp_all
    cases h
 cases h
def As.new_imm (h:As B pr E H w) {arr:Array Value} {t:TypeId} {fr:Nat×Nat} {vs:List Value} (hv:∀(i:Nat) (v:Value),vs[i]? =some v->arr[i]? =some v):
  E.le { E with imm:=λb o=>if b=w.heap.size then vs[o]? else E.imm b o }/\As B pr { E with imm:=λb o=>if b=w.heap.size then vs[o]? else E.imm b o } H (w.alloc (.cells arr t fr)):=by
 have hne:∀b o v,E.imm b o=some v->b≠w.heap.size:=λb o v hi e=>by
  have:=h.imm b o v hi
  grind [World.cell?]
 have hle:E.le { E with imm:=λb o=>if b=w.heap.size then vs[o]? else E.imm b o }:=⟨⟨λ_ _ h=>h,λ_ _ h=>h,λb o v hi=>by
  grind,rfl,rfl⟩,rfl,rfl,rfl⟩
 refine ⟨hle,?_⟩;obtain ⟨own,g1,g2,g3⟩:=h.own;refine { own:=⟨λb=>if b=w.heap.size then none else own b,λid k hk=>?_,λb hb=>?_,λb o v hi=>?_⟩,imm:=λb o v hi=>?_,ib:=λb o v hb hi=>?_,fresh:=h.fresh,resv:=h.resv,vds:=h.vds,szs:=λb n hn=>?_,prot:=λb hb=>?_,size:=?_,os:=h.os,output:=h.output };refine (g1 id k hk).imp (λ_ h=>h) (λh=>h) λb o e1 e2 e3=>?_;have hlt:=e3.lt;have hb:b≠w.heap.size:=(by omega);exact ⟨(Ab hb).trans e2,e3.mono hle (Je hb)⟩
 .grind
 .grind
 .have hi':(if b=w.heap.size then vs[o]? else E.imm b o)=some v:=hi;by_cases hb:b=w.heap.size
  .grind [World.cell?,T5]
  rw [Ab hb]at hi';exact ZH (h.imm b o v hi')
 have hlt:=Nat.lt_of_lt_of_le (h.prot b hb).1 h.size;have hi:(if b=w.heap.size then vs[o]? else E.imm b o)=some v:=hi;rw [Ab (by omega)]at hi;exact h.ib b o v hb hi
 .obtain ⟨arr',t',fr',e1,e2⟩:=h.szs b n hn
  grind [Je]
 .obtain ⟨e1,e2⟩:=h.prot b hb
  grind [Je]
 have:=h.size;simp;omega
theorem uH (hr:As B pr E H w) {src dst:TypeId} {x:AV} {v:Value} (hx:Ac E x v) {r:AV} (h:aL P src dst x=some r):Gives P B pr E w (convert src dst v) (r,H):=by
 unfold aL at h;split at h
 case h_2=>cases h
 rename_i l;split at h
 case h_2=>cases h
 rename_i hs;split at h
 case h_2=>cases h
 rename_i e hd;split at h
 case h_2=>cases h
 rename_i he;cases h;subst hx;obtain ⟨hle,hr'⟩:=(hr.drawn (w.drawn+1)).new_imm (arr:=bytesRow ⟨⟨l⟩⟩ (grownCap w (ByteArray.mk ⟨l⟩).size 0 e)) (t:=e) (fr:=((bytesRow ⟨⟨l⟩⟩ (grownCap w (ByteArray.mk ⟨l⟩).size 0 e)).size,(bytesRow ⟨⟨l⟩⟩ (grownCap w (ByteArray.mk ⟨l⟩).size 0 e)).size+1))
  (vs:=l.map λb=>Value.int .u8 b.toNat) λi v hv=>by
    grind [bytesRow]
 refine ⟨_,_,_,run_bytes_of_string w src dst e ⟨⟨l⟩⟩ hs hd he,hle,hr',?_⟩;refine ⟨w.heap.size,0,l.map λb=>Value.int .u8 b.toNat,grownCap w (ByteArray.mk ⟨l⟩).size 0 e,by rw [J5];rfl,by rw [J5];exact grownCap_ge ..,bt _ l,λi v hv=>?_⟩
 grind
theorem rA (hr:As B pr E H w) {src dst:TypeId} {x:AV} {v:Value} (hx:Ac E x v) {r:AV} (h:Gw P H src dst x=some r):Gives P B pr E w (convert src dst v) (r,H):=by
 unfold Gw at h;split at h
 .rename_i r' h1;cases h;unfold OY at h1;split at h1
  case h_2=>cases h1
  rename_i ds hs;split at h1
  case h_3=>cases h1
  .rename_i k hd;split at h1;rename_i j n;cases h1;subst hx;refine Gives.still hr (v:=.int k (k.wrap n)) ?_ (by rw [H5,Ls];simp [Ac]);simp only [convert,Sem.run_bind,run_underlying hs,run_underlying hd,Result.andThen_ok];rfl
   .split at h1
    case h_2=>cases h1
    rename_i n hn;split at h1
    case h_2=>cases h1
    cases h1;simp only [Ac]at hx;refine Gives.still hr (v:=.int k n) ?_ (by simp [Ac]);simp_all [Conv.floatToInt,convert,run_underlying]
   cases h1
  .rename_i k hd;split at h1
   case h_2=>cases h1
   rename_i j n;cases h1;subst hx;refine Gives.still hr (v:=.float k (k.nearest n)) ?_ (by simp [Ac]);simp only [convert,Sem.run_bind,run_underlying hs,run_underlying hd,Result.andThen_ok];rfl
 grind [vq,uH]
def As.mark (h:As B pr E H w) {id:Nat} {k:A2} (hk:H.get id=some k) {b o:Nat} (hφ:E.φ id=some (b,o)) {arr:Array Value} {t:TypeId} {fr0 fr:Nat×Nat} (hg:w.heap[b]? =some (.cells arr t fr0)) {o0:Nat} {vs:List Value}
  (hv:∀(i:Nat) (v:Value),vs[i]? =some v->arr[o0+i]? =some v) (hnv:¬CW E k:=by exact λh=>h):
  E.le { E with imm:=λb' o'=>if b'=b then (if o0<=o' then vs[o'-o0]? else none)else E.imm b' o' }/\
  As B pr { E with imm:=λb' o'=>if b'=b then (if o0<=o' then vs[o'-o0]? else none)else E.imm b' o' } (H.erase id) { w with heap:=w.heap.setIfInBounds b (.cells arr t fr) }:=by
 obtain ⟨own,g1,g2,g3⟩:=h.own;obtain ⟨_,hvoid⟩|⟨b',o',hφ',hown,hb⟩:=g1 id _ hk
 .grind
 rw [hφ]at hφ';cases hφ';have hblt:=getElem?_lt_of_some hg;have hother:∀j,j≠b->(w.heap.setIfInBounds b (.cells arr t fr))[j]? =w.heap[j]? :=λj hj=>by
  grind
 have hsame:(w.heap.setIfInBounds b (.cells arr t fr))[b]? =some (.cells arr t fr):=by
  grind
 have hne:∀b' o v,E.imm b' o=some v->b'≠b:=λb' o v hi e=>by
  grind
 have hle:E.le { E with imm:=λb' o'=>if b'=b then (if o0<=o' then vs[o'-o0]? else none)else E.imm b' o' }:=⟨⟨λ_ _ h=>h,λ_ _ h=>h,λb' o' v hi=>by
  grind,rfl,rfl⟩,rfl,rfl,rfl⟩
 have hbn:∀b',pr b'->b'≠b:=λb' hp e=>by grind
 refine ⟨hle,?_⟩;refine { own:=⟨λb'=>if b'=b then none else own b',λid' k' hk'=>?_,λb' hb'=>?_,λb' o' v hi=>?_⟩,imm:=λb' o' v hi=>?_,ib:=λb' o' v hb' hi=>?_,fresh:=h.fresh,resv:=h.resv,vds:=h.vds,szs:=λb' n hn=>?_,prot:=λb' hb'=>?_,size:=by simpa using h.size,os:=h.os,output:=h.output };have hne':id≠id':=(by grind [AHeap.get_erase_same]);rw [AHeap.get_erase_ne H hne']at hk';refine (g1 id' k' hk').imp (λ_ h=>h) (λh=>h) λb2 o2 e1 e2 e3=>?_;have hb2:b2≠b:=(by grind);exact ⟨(Ab hb2).trans e2,e3.mono hle (hother b2 hb2)⟩
 .grind
 .grind
 .have hi':(if b'=b then (if o0<=o' then vs[o'-o0]? else none)else E.imm b' o')=some v:=hi;by_cases e:b'=b
  .grind [World.cell?]
  .rw [Ab e]at hi';have:=h.imm b' o' v hi'
   grind [World.cell?]
 have hi':(if b'=b then (if o0<=o' then vs[o'-o0]? else none)else E.imm b' o')=some v:=hi;rw [Ab (hbn b' hb')]at hi';exact h.ib b' o' v hb' hi'
 .obtain ⟨arr2,t2,fr2,e1,e2⟩:=h.szs b' n hn
  grind
 exact ⟨(h.prot b' hb').1,(hother b' (hbn b' hb')).trans (h.prot b' hb').2⟩
theorem rO_ {b off:Nat} {arr:Array Value} {t:TypeId} (hg:w.heap[b]? =some (.cells arr t (0,0))):(markStringish ⟨b,off,none⟩).run P w=.ok () { w with heap:=w.heap.setIfInBounds b (.cells arr t (arr.size,arr.size+1)) }:=by
 have hb:=getElem?_lt_of_some hg;have hs:w.shape? b=some (t,arr.size):=by simp [World.shape?,hg]
 have hf:w.freeze ⟨b,arr.size,none⟩ 1={ w with heap:=w.heap.setIfInBounds b (.cells arr t (arr.size,arr.size+1)) }:=by
  unfold World.freeze;rw [Ab (by decide)]
  congr 1
  grind
 simp [markStringish,hs,hf]
theorem xh (hr:As B pr E H w) {src dst:TypeId} {x:AV} {v:Value} (hx:Ac E x v) {r:AV×AHeap} (h:XH P H src dst x=some r):Gives P B pr E w (convert src dst v) r:=by
 unfold XH at h;split at h
 case h_2=>cases h
 rename_i id off len sz cap;split at h
 case h_1=>cases h
 rename_i n;split at h
 case h_2=>cases h
 rename_i hsb;split at h
 case h_2=>cases h
 rename_i l hl;cases h;obtain ⟨hz1,hs1⟩:=Au hsb;unfold Yu at hs1;obtain ⟨hs2,hs3⟩:=Au hs1;have e1:=za' hz1;have e2:=za' hs2;have hu:∃e,P.underlying src=some (.slice e)/\P.underlying e=some (.int .u8):=by
  grind [ff]
 obtain ⟨e,hs,he⟩:=hu;subst e1 e2;obtain ⟨b,o,m,c,off',hφ,hsz,rfl,hoff,hle,hfit,_⟩:=hx;obtain rfl:=hoff (by omega);have hp:Ac E (.ptr id off') (.pointer (some ⟨b,o+off',none⟩)):=by simp only [Ac];grind
 obtain ⟨b2,o2,vs,e3,hlen,hL,hcell⟩:=KQ hr hp hl;cases e3;have hk:∃cs,H.get id=some (.cells cs):=by
  cases hg:H.get id with
  |none=>grind [DB]
  |some k=>cases k with
   |cells cs=>simp
   |map es c=>grind [DB]
   |syl j=>grind [DB]
   |fz cs=>grind [DB]
   |mpl j=>grind [DB]
 obtain ⟨cs,hk⟩:=hk;obtain ⟨arr,t,hg,_,_,_⟩:=hr.blk hk hφ;obtain ⟨hle',hr'⟩:=hr.mark (fr:=(arr.size,arr.size+1)) hk hφ hg (o0:=o+off') (vs:=vs) λi v hv=>by
  grind [World.cell?]
 refine ⟨_,.slice (some ⟨b,o+off',none⟩) (n+1) c,_,?_,hle',hr',?_⟩;simp [convert,run_underlying hs,run_underlying he,rO_ hg]
 .refine ⟨b,o+off',vs,c,rfl,hle,hL.mono hle',λi v hv=>?_⟩
  grind
theorem tT (hr:As B pr E H w) {src dst:TypeId} {x:AV} {v:Value} (hx:Ac E x v) {r:AV×AHeap} (h:OV P H src dst x=some r):Gives P B pr E w (convert src dst v) r:=by
 grind [OV,rA,xh]
theorem qF (hr:As B pr E H w) {t:TypeId} {x i:AV} {v u:Value} (hx:Ac E x v) (hi:Ac E i u) {r:AV} (h:QP P t x i=some r):Gives P B pr E w (Instr.index t v u) (r,H):=by
 unfold QP at h;split at h
 case h_2=>cases h
 rename_i hd;split at h
 case h_2=>cases h
 rename_i s;split at h
 case h_2=>cases h
 rename_i k n;split at h
 case h_2=>cases h
 rename_i b hb;cases h;simp only [Ac]at hx hi;rw [pf]at hb;refine Gives.still hr (v:=.int .u8 b.toNat) ?_ (by simp [mj,H5,Ac]);have h0:(0:Int)<=Int.ofNat n:=Int.natCast_nonneg n;have hlt:n<s.length:=by
  grind
 have hg:(ByteArray.mk ⟨s⟩)[n]? =some b:=by rw [ByteArray.getElem?_lt' _ _ (by exact hlt)];rw [List.getElem?_eq_getElem hlt]at hb;exact hb
 simp only [Instr.index,asIntOf,Sem.run_bind,Sem.run_pure,Result.andThen_ok,run_underlying hd,h0,if_true];simp_all
theorem qG {t:TypeId} (h:Tu P t=true) (x:Value):(Instr.makeInterface t x).run P w=.ok (.iface t x) w:=by
 refine run_makeInterface w t x ?_;unfold Tu at h;unfold Program.concrete
 grind
def Dt {α:Type} {a:Array α} {l:List α} (h:a.toList=l):a=⟨l⟩:=by grind
def We (hr:As B pr E H w) {ρ:Operand->AV} {σ:Operand->Value} (hσ:∀x,Ac E (ρ x) (σ x)) {o:Oper} {r:BN} (h:B0 P ρ H o=some r):Bi P B pr E w (execOp σ o) r:=by
 unfold B0 at h;unfold execOp;split at h<;>rename_i hop<;>simp only [hop]
 case h_1 x=>cases h;exact ⟨E,_,σ x,w,rfl,.inl rfl,Ag.le_refl _,hr,hσ x⟩
 case h_2 x=>cases h;exact ⟨E,_,σ x,w,rfl,.inl rfl,Ag.le_refl _,hr,hσ x⟩
 case h_3 c a b=>
  have hc:=hσ c;split at h;rename_i hv;cases h;rw [hv]at hc;simp only [Ac]at hc;exact ⟨E,_,σ a,w,by simp [hc,asBool],.inl rfl,Ag.le_refl _,hr,hσ a⟩;rename_i hv;cases h;rw [hv]at hc;simp only [Ac]at hc;exact ⟨E,_,σ b,w,by simp [hc,asBool],.inl rfl,Ag.le_refl _,hr,hσ b⟩;cases h
 case h_4 t=>grind [Bi.oP,mb_]
 case h_5 t x=>grind [Bi.oP,uM]
 case h_6 t parts=>
  refine Bi.oV h λa ha=>?_;obtain ⟨h1,h2⟩:=Tq hσ parts.toList;have e:(parts.map λp=>(p.1,σ p.2)).toList=parts.toList.map λp=>(p.1,σ p.2):=by simp
  grind [wP]
 case h_7 t n parts=>
  refine Bi.oP h λa ha=>?_;obtain ⟨h1,h2⟩:=Tq hσ parts.toList;have e:(parts.map λp=>(p.1,σ p.2)).toList=parts.toList.map λp=>(p.1,σ p.2):=by simp
  grind [gK_]
 case h_8 t a=>grind [Bi.oV,xR]
 case h_9 t a x=>
  unfold oP at h;split at h
  .rename_i p hp;cases h;obtain ⟨w',h1,h2⟩:=eF hr (hσ a) (hσ x) hp;have h3:p.1=.tup []:=by
    unfold EU at hp;repeat' (split at hp<;>first|(cases hp;done)|skip)
    cases hp;rfl
   refine ⟨E,.skip,undef,w',by simp [h1],.inr ⟨rfl,rfl⟩,Ag.le_refl _,h2,?_⟩
   grind [Ac,undef,Ah]
  cases h
 case h_10 x=>
  have hx:=hσ x;split at h;rename_i id off hv;cases h;rw [hv]at hx;have hx0:=hx;obtain ⟨b,o,hφ,he⟩:=hx;exact ⟨E,_,σ x,w,by rw [he];rfl,.inl rfl,Ag.le_refl _,hr,hx0⟩;rename_i cs hv;cases h;rw [hv]at hx;have hx0:=hx;obtain ⟨b,o,vs,he,_⟩:=hx;exact ⟨E,_,σ x,w,by rw [he];rfl,.inl rfl,Ag.le_refl _,hr,hx0⟩;cases h
 case h_11 op t x y _=>grind [Bi.oV,pJ_]
 case h_12 s d x=>grind [Bi.oP,tT]
 case h_13 t x i=>grind [Bi.oV,qF]
 case h_14 op _ x=>
  refine Bi.oV h λp hp=>?_;unfold RK at hp;have hx:=hσ x;split at hp;split at hp;rename_i b hv;cases hp;rw [hv]at hx;rw [hx];exact Gives.still hr (v:=.bool (!b)) rfl (by simp [Ac]);cases hp;split at hp;rename_i k n hv;cases hp;rw [hv]at hx;rw [hx];exact Gives.still hr (v:=.int k (k.wrap (0-n))) rfl (by rw [H5,Ls];simp [Ac]);rename_i k b hv;cases hp;rw [hv]at hx;rw [hx];exact Gives.still hr (v:=.float k (Op.negFloat k b)) rfl (by simp [Ac]);rename_i k hv;cases hp;rw [hv]at hx;obtain ⟨b,h1,h2⟩:=hx;rw [h1];exact Gives.still hr (v:=.float k (Op.negFloat k b)) rfl (by exact ⟨_,rfl,th h2⟩);cases hp;cases hp
 case h_15 t x=>
  split at h
  .rename_i hc;cases h;refine ⟨E,_,.iface t (σ x),w,by simp_all [qG],.inl rfl,Ag.le_refl _,hr,?_⟩;simp only [Ac]
   grind
  cases h
 case h_16 fn first captured=>
  split at h;rename_i f;split at h;rename_i hf;cases h;have hf:=Dt hf;subst hf;refine ⟨E,_,.func (.func f) #[] (captured.map σ),w,by simp [Instr.makeFunc],.inl rfl,Ag.le_refl _,hr,?_⟩;refine ⟨captured.toList.map σ,by cases captured;simp,QA hσ _⟩;cases h;cases h
 case h_17 t r'=>
  grind [Bi.oP,jK_]
 case h_18 t l c=>grind [Bi.oP,eE]
 case h_19 t x lo hi mx=>
  split at h;exact Bi.oV h λp hp=>WQ hr (hσ x) (eP hσ lo) (eP hσ hi) hp;cases h
 case h_20 s x f=>grind [Bi.oV,eN]
 case h_21 s x f=>grind [Bi.oV,k5_]
 case h_22 t x ix=>grind [Bi.oV,W0]
 case h_23 t x ix ok=>grind [Bi.oV,fb]
 case h_24 t m k x=>
  unfold oP at h;split at h
  .rename_i p hp;cases h;obtain ⟨w',h1,h2,h3⟩:=UV hr (hσ m) (hσ k) (hσ x) hp;refine ⟨E,.skip,undef,w',by simp [h1],.inr ⟨rfl,rfl⟩,Ag.le_refl _,h2,?_⟩
   grind [Ac,undef,Ah]
  cases h
 case h_25 t m k x=>
  unfold oP at h;split at h
  .rename_i p hp;cases h;obtain ⟨w',h1,h2,h3⟩:=UV hr (hσ m) (hσ k) (hσ x) hp;refine ⟨E,.skip,undef,w',by simp [h1],.inr ⟨rfl,rfl⟩,Ag.le_refl _,h2,?_⟩
   grind [Ac,undef,Ah]
  cases h
 case h_26 x _ asserted ok=>grind [Bi.oV,yI]
 case h_27 t ix=>grind [Bi.oV,ua]
 case h_28 c=>
  obtain ⟨callee,ag,argTypes⟩:=c;unfold Jt at h;simp only at h;split at h
  .rename_i f;have hf:=hσ f;split at h
   .rename_i g cap hv;split at h;cases h;rw [hv]at hf;obtain ⟨cs,he,hcs⟩:=hf;refine ⟨ag.toList.map σ++cs,?_,by rw [XR];exact (QA hσ _).append hcs⟩;simp_all [resolve,Deferred.ofValue,invoke,Xj]
    cases h
   cases h
  .split at h
   .split at h
    .rename_i x t h1 h2;have h1:=Dt h1;have h2:=Dt h2
     grind [resolve,invoke,builtin,Bi.oV,uf]
    cases h
   .split at h
    .rename_i s x t tx h1 h2;have h1:=Dt h1;have h2:=Dt h2
     grind [resolve,invoke,builtin,Bi.oP,xw]
    cases h
   .split at h
    .rename_i d s t tx h1 h2;have h1:=Dt h1;have h2:=Dt h2
     grind [resolve,invoke,builtin,Bi.oP,ub]
    cases h
   all_goals grind [Bi,resolve,Sem.run_pure,invoke,builtin]
  cases h
 case h_29 c=>
  obtain ⟨callee,ag,argTypes⟩:=c;unfold X9 at h;simp only at h;split at h
  .rename_i f;have hf:=hσ f;split at h
   .rename_i g hv;split at h
    .rename_i hcall;cases h;rw [hv]at hf;obtain ⟨cs,he,rfl⟩:=hf;refine ⟨ag.toList.map σ,?_,QA hσ _,hcall⟩;simp [resolve,he,Deferred.ofValue]
     grind
    cases h
   cases h
  cases h
 case h_30 x=>
  have hx:=hσ x;split at h;rename_i t a hv;cases h;rw [hv]at hx;have hx0:=hx;obtain ⟨u,he,_⟩:=hx;simp_all [Instr.panic,Bi]
  cases h
 grind
end
mutual
def BS:AV->Bool
 | .ptr _ _=>false
 | .sl _ _ _ _ _=>false
 | .map _=>false
 | .slx _ _ _=>false
 | .ptx _ _ _ _=>false
 | .sym i=>Nat.blt i 64
 | .vptr cs=>Gg cs
 | .vsl _ _ cs=>Gg cs
 | .fn _ cs=>Gg cs
 | .iface _ a=>BS a
 | .agg cs=>Gg cs
 | .tup cs=>Gg cs
 |_=>true
def Gg:List AV->Bool
 |[]=>true
 |a::r=>match BS a with
  |true=>Gg r
  |false=>false
end
class Gl where
 gl:Nat->AV
 ov:FuncId->List AV->AHeap->Option AV
 nr:∀g,BS (gl g)=true
 gt:(Nat->Option AV)->Prop
 gtm:∀s s':Nat->Option AV,(∀i,i<64->s' i=s i)->gt s->gt s'
 gto:∀s:Nat->Option AV,gt s->∀i a,i<64->s i=some a->a.one=true
variable [Gl]
abbrev Tm:=Q8 (Q8 (Q8 AV))
open Q8 (AtC atc UpC upc)
structure pK where
 f:Tm->AV
def Dy (k:Nat):pK:=match atc (Q8 (Q8 AV)) (Nat.div k 64)with
 | .mk f=>match atc (Q8 AV) (Nat.mod (Nat.div k 8) 8)with
   | .mk g=>match atc AV (Nat.mod k 8)with
     | .mk h=>.mk λT=>h (g (f T))
structure qB where
 f:Tm->AV->Tm
def P7 (k:Nat):qB:=match upc (Q8 (Q8 AV)) (Nat.div k 64)with
 | .mk f=>match upc (Q8 AV) (Nat.mod (Nat.div k 8) 8)with
   | .mk g=>match upc AV (Nat.mod k 8)with
     | .mk h=>.mk λT x=>f T λq=>g q λr=>h r λ_=>x
def B6:Tm:=Q8.all (Q8.all (Q8.all (.tup [])))
def Ao (T:Tm) (t:Nat):AV:=(Dy t).f T
def D9 (T:Tm) (t:Nat) (a:AV):Tm:=(P7 t).f T a
inductive PC where
 |bad
 |mk (u:Tm->AV->Tm)
def CN (N:Nat) (dst:Option Nat):PC:=match dst with
 |none=>.mk λT _=>T
 |some d=>match Nat.blt d N&&Nat.blt d 512 with
  |true=>.mk (P7 d).f
  |false=>.bad
structure Arg where
 f:Tm->AV
def BE:Operand->Arg
 | .tmp t=>match Nat.blt t 512 with
   |true=>match Dy t with
    | .mk f=>.mk f
   |false=>.mk λ_=>.tup []
 | .const v=>.mk λ_=>Gd v
 | .global g=>.mk λ_=>Gl.gl g
 | .func f=>.mk λ_=>.fn f []
def look (T:Tm) (x:Operand):AV:=(BE x).f T
inductive bG where
 |mk (f:Tm->List AV)
def MH:List Operand->bG
 |[]=>.mk λ_=>[]
 |x::r=>match BE x with
  | .mk f=>match MH r with
    | .mk g=>.mk λT=>f T::g T
inductive Pv where
 |mk (f:Tm->List (Nat×AV))
def Nf:List (Nat×Operand)->Pv
 |[]=>.mk λ_=>[]
 |(i,x)::r=>match BE x with
  | .mk f=>match Nf r with
    | .mk g=>.mk λT=>(i,f T)::g T
abbrev Bj:=List (FuncId×List AV)
inductive A7 where
 |norm (T:Tm) (H:AHeap) (D:Bj)
 |exit (id:Nat) (T:Tm) (H:AHeap) (D:Bj)
 |ret (T:Tm) (H:AHeap) (D:Bj)
 |pan (v:AV) (T:Tm) (H:AHeap) (D:Bj)
inductive A5 where
 |ret (v:AV) (H:AHeap)
 |pan (v:AV) (H:AHeap)
abbrev AL:=FuncId->List AV->AHeap->Option A5
def LQ:List Oper->Nat->Option Oper
 |[],_=>none
 |o::_,0=>some o
 |_::r,n+1=>LQ r n
inductive GC where
 |always
 |mk (f:Tm->Option Bool)
def Es (v:AV) (want:Bool):Option Bool:=match v with
 | .bool b=>match want with
   |true=>some b
   |false=>some (not b)
 | .tup l=>match l with
   |[]=>some false
   |_=>none
 |_=>none
def Du (Af:List Oper) (o:Oper):GC:=match o.guard with
 |none=>.always
 |some (j,want)=>match LQ Af j with
  |some oj=>match oj.dst with
   |some d=>match Nat.blt d 512 with
    |true=>match Dy d with
     | .mk f=>.mk λT=>Es (f T) want
    |false=>.mk λ_=>some false
   |none=>.mk λ_=>some false
  |none=>.mk λ_=>some false
inductive OC where
 |pv (f:Tm->AV)
 |po (f:Tm->Option AV)
 |ho (f:Tm->AHeap->Option AV)
 |hm (f:Tm->AHeap->Option (AV×AHeap))
 |cl (f:Tm->Option (FuncId×List AV))
 |df (f:Tm->Option (FuncId×List AV))
 |pn (f:Tm->Option AV)
 |rc
 |no
def jP (H:AHeap) (a:AV) (n:Nat):Option AV:=match DB H a n with
 |some l=>some (.agg l)
 |none=>none
def C8:Nat->List AV->Option AV
 |_,[]=>none
 |0,a::_=>some a
 |n+1,_::r=>C8 n r
def pj (H:AHeap) (a:AV):Option AV:=match a with
 | .ptr id off=>match H.get id with
   |some (.cells cs)=>C8 off cs
   |_=>none
 | .vptr cs=>C8 0 cs
 |_=>none
def eK (off:Nat) (a:AV):Option AV:=match a with
 | .ptr id o=>some (.ptr id (Nat.add o off))
 | .vptr cs=>match Nat.ble off cs.length with
   |true=>some (.vptr (Bk off cs))
   |false=>none
 |_=>none
def nR (size:Nat) (x ix:AV):Option AV:=match ix with
 | .int _ i=>match x with
   | .sl id off len _ _=>match idx i len with
     |some n=>some (.ptr id (Nat.add off (Nat.mul n size)))
     |none=>none
   | .vsl len _ cs=>match idx i len with
     |some n=>some (.vptr (Bk (Nat.mul n size) cs))
     |none=>none
   |_=>none
 |_=>none
def Ic (g:IntKind->Int->Int->AV) (els:AV->AV->Option AV) (x y:AV):Option AV:=match x with
 | .int k a=>match y with
   | .int k' b=>match Nat.beq (Fi k) (Fi k')with
     |true=>some (g k a b)
     |false=>els x y
   |_=>els x y
 |_=>els x y
def N3 (P:Program) (ρ:Operand->AV) (o:Oper):Option AV:=match N1 P ρ ⟨AE,0,0⟩ o with
 |some (.val a _)=>some a
 |_=>none
def Vs (P:Program) (T:Tm) (o:Oper) (r:Option AV):Option AV:=match r with
 |some a=>some a
 |none=>N3 P (look T) o
def fw (P:Program) (op:BinOp) (t:TypeId) (cx cy:Bool):AV->AV->Option AV:=match op with
 | .add=>Ic (λk a b=>GH k (I3 k (Int.add a b))) (λx y=>Dj P .add t cx cy x y)
 | .sub=>Ic (λk a b=>GH k (I3 k (Int.sub a b))) (λx y=>Dj P .sub t cx cy x y)
 | .mul=>Ic (λk a b=>GH k (I3 k (Int.mul a b))) (λx y=>Dj P .mul t cx cy x y)
 | .eql=>Ic (λk a b=>.bool (Ja a b)) (λx y=>Dj P .eql t cx cy x y)
 | .neq=>Ic (λk a b=>.bool (not (Ja a b))) (λx y=>Dj P .neq t cx cy x y)
 | .lss=>Ic (λk a b=>.bool (J2 a b)) (λx y=>Dj P .lss t cx cy x y)
 | .leq=>Ic (λk a b=>.bool (not (J2 b a))) (λx y=>Dj P .leq t cx cy x y)
 | .gtr=>Ic (λk a b=>.bool (J2 b a)) (λx y=>Dj P .gtr t cx cy x y)
 | .geq=>Ic (λk a b=>.bool (not (J2 a b))) (λx y=>Dj P .geq t cx cy x y)
 |op=>λx y=>Dj P op t cx cy x y
structure BC where
 f:AV->AV->Option AV
def vT_ (P:Program) (op:BinOp) (t:TypeId) (x y:Operand):OC:=.po λT=>(BC.mk (fw P op t (FW x) (FW y))).f ((BE x).f T) ((BE y).f T)
def SY (c a b:AV):Option AV:=match c with
 | .bool t=>match t with
   |true=>some a
   |false=>some b
 |_=>none
def bn (a:AV):Option AV:=match a with
 | .ptr id off=>some (.ptr id off)
 | .vptr cs=>some (.vptr cs)
 |_=>none
def Vw (P:Program) (f:AV) (ag:List AV):Option (FuncId×List AV):=match f with
 | .fn g cap=>match IX P g with
   |true=>some (g,IV ag cap)
   |false=>none
 |_=>none
def ax (P:Program) (f:AV) (ag:List AV):Option (FuncId×List AV):=match f with
 | .fn g cap=>match cap with
   |[]=>match IX P g with
    |true=>some (g,ag)
    |false=>none
   |_=>none
 |_=>none
def dX (v:AV):Option AV:=match v with
 | .iface t a=>some (.iface t a)
 |_=>none
def nT (P:Program) (o:Oper) (c:Call):OC:=match c.callee with
 | .value f=>match MH c.args.toList with
   | .mk g=>match f with
     | .func id=>match IX P id with
       |true=>.cl λT=>some (id,g T)
       |false=>.po λT=>N3 P (look T) o
     |x=>match BE x with
      | .mk h=>.cl λT=>Vw P (h T) (g T)
 | .builtin b=>match b with
   | .len=>match c.args.toList,c.argTypes.toList with
     |[x],[t]=>match BE x with
      | .mk f=>.ho λT H=>Ey P H t (f T)
     |_,_=>.no
   | .append=>match c.args.toList,c.argTypes.toList with
     |[s,x],[t,tx]=>match BE s with
      | .mk f=>match BE x with
        | .mk g=>.hm λT H=>U7 P H t tx (f T) (g T)
     |_,_=>.no
   | .copy=>match c.args.toList,c.argTypes.toList with
     |[d,s],[t,_]=>match BE d with
      | .mk f=>match BE s with
        | .mk g=>.hm λT H=>TF P H t (f T) (g T)
     |_,_=>.no
   | .recover=>match c.args.toList with
     |[]=>.rc
     |_=>.no
   |_=>.po λT=>N3 P (look T) o
 |_=>.no
def A3 (P:Program) (o:Oper):OC:=match o.op with
 | .move x=>match BE x with
   | .mk f=>.pv f
 | .assign x=>match BE x with
   | .mk f=>.pv f
 | .pick c a b=>match BE c with
   | .mk f=>match BE a with
     | .mk g=>match BE b with
       | .mk h=>.po λT=>SY (f T) (g T) (h T)
 | .alloc t=>.hm λ_ H=>M9 P H t
 | .box _ x=>match BE x with
   | .mk f=>.hm λT H=>Rc H (f T)
 | .build t parts=>match Nf parts.toList with
   | .mk f=>.po λT=>Vj P t (f T)
 | .buildSlice t n parts=>match Nf parts.toList with
   | .mk f=>.hm λT H=>MX P H t n (f T)
 | .load t a=>match BE a with
   | .mk f=>match P.underlying t with
     |none=>.no
     |some d=>match Iy d with
      |true=>match P.info? t with
       |none=>.no
       |some i=>.ho λT H=>jP H (f T) i.size
      |false=>.ho λT H=>pj H (f T)
 | .store t a x=>match BE a with
   | .mk f=>match BE x with
     | .mk g=>.hm λT H=>EU P H t (f T) (g T)
 | .nilCheck x=>match BE x with
   | .mk f=>.po λT=>bn (f T)
 | .binOp op t x y _=>vT_ P op t x y
 | .unOp op _ x=>match BE x with
   | .mk f=>.po λT=>Vs P T o (RK op (f T))
 | .convert s d x=>match BE x with
   | .mk f=>match Yu P s d with
     |true=>.hm λT H=>OV P H s d (f T)
     |false=>.ho λT H=>match Gw P H s d (f T)with
      |some a=>some a
      |none=>N3 P (look T) o
 | .index t x i=>match BE x with
   | .mk f=>match BE i with
     | .mk g=>.po λT=>Vs P T o (QP P t (f T) (g T))
 | .makeInterface t x=>match Tu P t with
   |true=>match BE x with
    | .mk f=>.pv λT=>.iface t (f T)
   |false=>.no
 | .makeFunc fn first captured=>match fn with
   | .func f=>match first.toList with
     |[]=>match MH captured.toList with
      | .mk g=>.pv λT=>.fn f (g T)
     |_=>.no
   |_=>.no
 | .makeMap t r=>match r with
   |none=>.hm λ_ H=>Ve P H t
   |some _=>.no
 | .makeSlice t l c=>match BE l with
   | .mk f=>match BE c with
     | .mk g=>.hm λT H=>Ot P H t (f T) (g T)
 | .slice t x lo hi mx=>match mx with
   |none=>match BE x with
    | .mk f=>match lo with
      |none=>match hi with
       |none=>.ho λT H=>DT P H t (f T) none none
       |some hi=>match BE hi with
        | .mk h=>.ho λT H=>DT P H t (f T) none (some (h T))
      |some lo=>match BE lo with
       | .mk g=>match hi with
         |none=>.ho λT H=>DT P H t (f T) (some (g T)) none
         |some hi=>match BE hi with
          | .mk h=>.ho λT H=>DT P H t (f T) (some (g T)) (some (h T))
   |some _=>.no
 | .fieldAddr s x f=>match P.underlying s with
   |some (.struct fields)=>match fields[f]? with
    |some fl=>match P.info? fl.type with
     |some i=>match i.size with
      |0=>.no
      |_+1=>match BE x with
       | .mk g=>.po λT=>eK fl.offset (g T)
     |none=>.no
    |none=>.no
   |_=>.no
 | .field s x f=>match BE x with
   | .mk g=>.po λT=>RH P s (g T) f
 | .indexAddr t x ix=>match BE x with
   | .mk f=>match BE ix with
     | .mk g=>match P.underlying t with
       |some (.slice e)=>match P.info? e with
        |some ti=>.po λT=>nR ti.size (f T) (g T)
        |none=>.no
       |_=>.po λT=>Ht P t (f T) (g T)
 | .lookup t x ix ok=>match BE x with
   | .mk f=>match BE ix with
     | .mk g=>.ho λT H=>E6 P H t (f T) (g T) ok
 | .mapUpdate t m k x=>match BE m with
   | .mk f=>match BE k with
     | .mk g=>match BE x with
       | .mk h=>.hm λT H=>IJ P H t (f T) (g T) (h T)
 | .insert t m k x=>match BE m with
   | .mk f=>match BE k with
     | .mk g=>match BE x with
       | .mk h=>.hm λT H=>IJ P H t (f T) (g T) (h T)
 | .typeAssert x _ asserted ok=>match BE x with
   | .mk f=>.po λT=>So P (f T) asserted ok
 | .extract t ix=>match BE t with
   | .mk f=>.po λT=>Ud (f T) ix
 | .call c=>nT P o c
 | .defer c=>match c.callee with
   | .value x=>match BE x with
     | .mk f=>match MH c.args.toList with
       | .mk g=>.df λT=>ax P (f T) (g T)
   |_=>.no
 | .panic x=>match BE x with
   | .mk f=>.pn λT=>dX (f T)
 |_=>.no
def OC.run (c:OC) (T:Tm) (H:AHeap):Option BN:=match c with
 | .pv f=>some (.val (f T) H)
 | .po f=>match f T with
   |some a=>some (.val a H)
   |none=>none
 | .ho f=>match f T H with
   |some a=>some (.val a H)
   |none=>none
 | .hm f=>match f T H with
   |some (a,H')=>some (.val a H')
   |none=>none
 | .cl f=>match f T with
   |some (g,ag)=>some (.call g ag)
   |none=>none
 | .df f=>match f T with
   |some (g,ag)=>some (.dfr g ag)
   |none=>none
 | .pn f=>match f T with
   |some v=>some (.pan v)
   |none=>none
 | .rc=>some .rcv
 | .no=>none
abbrev Ck:=Option A5
abbrev Kn:=Tm->AHeap->Bj->Ck
structure LC where
 f:AL->Tm->AHeap->Bj->Kn->(A7->Ck)->Ck
def Sa (r:Option AV) (k:AV->Ck):Ck:=Option.casesOn r none k
def oG (r:Option (AV×AHeap)) (k:AV->AHeap->Ck):Ck:=Option.casesOn r none λp=>Prod.casesOn p k
def aD (r:Option (FuncId×List AV)) (k:FuncId->List AV->Ck):Ck:=Option.casesOn r none λp=>Prod.casesOn p k
def aS (r:Option A5) (k:AV->AHeap->Ck) (x:AV->AHeap->Ck):Ck:=Option.casesOn r none λp=>A5.casesOn p k x
def VE (c:OC) (u:Tm->AV->Tm) (k:LC):LC:=match c with
 | .pv f=>⟨λcall T H D K X=>k.f call (u T (f T)) H D K X⟩
 | .po f=>⟨λcall T H D K X=>Sa (f T) λa=>k.f call (u T a) H D K X⟩
 | .ho f=>⟨λcall T H D K X=>Sa (f T H) λa=>k.f call (u T a) H D K X⟩
 | .hm f=>⟨λcall T H D K X=>oG (f T H) λa H'=>k.f call (u T a) H' D K X⟩
 | .cl f=>⟨λcall T H D K X=>aD (f T) λg ag=>aS (call g ag H) (λa H'=>k.f call (u T a) H' D K X) (λv H'=>X (.pan v T H' D))⟩
 | .df f=>⟨λcall T H D K X=>aD (f T) λg ag=>k.f call (u T (.tup [])) H ((g,ag)::D) K X⟩
 | .pn f=>⟨λcall T H D K X=>Sa (f T) λv=>X (.pan v T H D)⟩
 | .rc=>⟨λ_ _ _ _ _ _=>none⟩
 | .no=>⟨λ_ _ _ _ _ _=>none⟩
def NU (P:Program) (N:Nat) (all:List Oper):List Oper->LC
 |[]=>⟨λ_ T H D K _=>K T H D⟩
 |o::r=>match CN N o.dst with
  | .bad=>⟨λ_ _ _ _ _ _=>none⟩
  | .mk u=>match Du all o with
    | .always=>VE (A3 P o) u (NU P N all r)
    | .mk g=>⟨λcall T H D K X=>match g T with
       |some t=>match t with
        |true=>(VE (A3 P o) u (NU P N all r)).f call T H D K X
        |false=>(NU P N all r).f call (u T (.tup [])) H D K X
       |none=>none⟩
inductive Kd where
 |pure|read|mem|wr
def EZ:Op->Kd
 | .load _ _| .lookup _ _ _ _| .slice _ _ _ _ _| .convert _ _ _=>.read
 | .alloc _| .box _ _| .buildSlice _ _ _| .makeSlice _ _ _| .makeMap _ _=>.mem
 | .store _ _ _| .mapUpdate _ _ _ _| .insert _ _ _ _| .panic _| .defer _=>.wr
 | .call c=>match c.callee with
   | .builtin b=>match b with
     | .len=>.read
     | .max| .min=>.pure
     |_=>.wr
   |_=>.wr
 | .move _| .assign _| .pick _ _ _| .build _ _| .nilCheck _| .binOp _ _ _ _ _| .unOp _ _ _| .fieldAddr _ _ _| .field _ _ _| .indexAddr _ _ _| .index _ _ _
 | .makeInterface _ _| .makeFunc _ _ _| .typeAssert _ _ _ _| .extract _ _=>.pure
 |_=>.wr
structure SI where
 o:Oper
 bef:Nat
 kd:Kd
 lo:Nat
 hi:Nat
 rd:List Nat
 fz:Bool
def JV (e:Edge):Bool:=match e.ground with
 | .textOnly _=>false
 | .gcOnly _=>false
 |_=>true
def Nu:List Nat->Nat->Nat
 |[],_=>0
 |a::_,0=>a
 |_::r,n+1=>Nu r n
def Hr (bs:List Nat):List Edge->Nat
 |[]=>0
 |e::r=>match JV e with
  |true=>Nat.lor (Nat.lor (Nat.pow 2 e.on) (Nu bs e.on)) (Hr bs r)
  |false=>Hr bs r
def Rp:List Oper->List Nat->List Nat
 |[],bs=>bs
 |o::r,bs=>Rp r (bs++[Hr bs o.after.toList])
def AW (m i:Nat):Bool:=match Nat.land (Nat.shiftRight m i) 1 with
 |0=>false
 |_=>true
def BX:Kd->Bool
 | .wr=>true
 |_=>false
def KV (b:Nat):List Oper->Nat->Nat
 |[],_=>0
 |o::r,k=>match BX (EZ o.op)&&AW b k with
  |true=>Nat.succ (KV b r (Nat.succ k))
  |false=>KV b r (Nat.succ k)
def Lc (i:Nat):List Oper->List Nat->Nat
 |o::r,b::bs=>match BX (EZ o.op)with
  |true=>match AW b i with
   |true=>0
   |false=>Nat.succ (Lc i r bs)
  |false=>Lc i r bs
 |_,_=>0
def BB (t:Nat):List Nat->Bool
 |[]=>false
 |a::r=>match Nat.beq a t with
  |true=>true
  |false=>BB t r
def Jy:List Operand->List Nat
 |[]=>[]
 | .tmp t::r=>t::Jy r
 |_::r=>Jy r
def JB (Af:List Oper) (o:Oper):List Nat:=match o.guard with
 |none=>Jy o.op.operands.toList
 |some (j,_)=>match LQ Af j with
  |some oj=>match oj.dst with
   |some d=>d::Jy o.op.operands.toList
   |none=>Jy o.op.operands.toList
  |none=>Jy o.op.operands.toList
def gw:Op->Option (List Operand)
 | .call c=>match c.callee with
   | .builtin b=>match b with
     | .append=>some c.args.toList
     |_=>none
   |_=>none
 |_=>none
def Pf (d:Nat):List Oper->Bool
 |[]=>false
 |o::r=>(match gw o.op with
  |some l=>match l with
   |[_,x]=>match x with
    | .tmp t=>Nat.beq t d
    |_=>false
   |_=>false
  |none=>false)||Pf d r
def QV (i b:Nat):List Oper->List Nat->Nat->Bool
 |o::r,c::s,j=>(match gw o.op with
  |some _=>not (AW b j)&&not (AW c i)
  |none=>false)||QV i b r s (Nat.succ j)
 |_,_,_=>false
def Xe (Af:List Oper) (bs:List Nat) (b i:Nat) (o:Oper):Bool:=match o.op with
 | .buildSlice _ _ _=>match o.dst with
   |some d=>Pf d Af&&QV i b Af bs 0
   |none=>false
 |_=>false
def JP (Af:List Oper) (bs:List Nat):List Oper->List Nat->Nat->List SI
 |o::r,b::c,i=>⟨o,b,EZ o.op,KV b Af 0,Lc i Af bs,JB Af o,Xe Af bs b i o⟩::JP Af bs r c (Nat.succ i)
 |_,_,_=>[]
def Kv (x y:SI):Bool:=match x.o.dst with
 |some d=>match y.o.dst with
  |some e=>Nat.beq d e||(BB d y.rd||BB e x.rd)
  |none=>BB d y.rd
 |none=>match y.o.dst with
  |some e=>BB e x.rd
  |none=>false
def Sj (x:SI) (i:Nat) (y:SI):Bool:=match Kv x y||(BX x.kd&&BX y.kd)with
 |true=>AW y.bef i
 |false=>true
def WM (x:SI) (i:Nat):List SI->Bool
 |[]=>true
 |y::r=>Sj x i y&&WM x i r
def XL:List SI->Nat->Bool
 |[],_=>true
 |x::r,i=>WM x i r&&XL r (Nat.succ i)
def Om:List Edge->Nat->Bool
 |[],_=>true
 |e::r,i=>match JV e with
  |true=>Nat.blt e.on i&&Om r i
  |false=>Om r i
def aM:List Oper->Nat->Bool
 |[],_=>true
 |o::r,i=>Om o.after.toList i&&aM r (Nat.succ i)
def Fj:List SI->Nat
 |[]=>0
 |x::r=>match x.kd with
  | .mem=>Nat.succ (Fj r)
  |_=>Fj r
inductive Y4 where
 |no
 |mk (l:List SI) (n:Nat)
def M0 (Af:List Oper):Y4:=
 match aM Af 0 with
 |true=>
  match Rp Af []with
  |bs=>match JP Af bs Af bs 0 with
   |l=>match XL l 0 with
    |true=>.mk l (Fj l)
    |false=>.no
 |false=>.no
structure Fl where
 op:Nat
 id:Nat
 b:A2
def IH (bef:Nat):List Fl->AHeap->AHeap
 |[],H=>H
 |f::r,H=>match AW bef f.op with
  |true=>IH bef r (H.set f.id f.b)
  |false=>IH bef r H
def LZ (bef:Nat):List Fl->List Fl
 |[]=>[]
 |f::r=>match AW bef f.op with
  |true=>LZ bef r
  |false=>f::LZ bef r
def MM:List Fl->AHeap->AHeap
 |[],H=>H
 |f::r,H=>MM r (H.set f.id f.b)
def UP:List AHeap->Nat->Option AHeap
 |[],_=>none
 |a::_,0=>some a
 |_::r,n+1=>UP r n
mutual
def CG:AV->AV->Bool
 | .bool a,.bool b=>a==b
 | .int k a,.int k' b=>Nat.beq (Fi k) (Fi k')&&Ja a b
 | .flt k a,.flt k' b=>decide (k=k')&&Nat.beq a b
 | .nan k,.nan k'=>decide (k=k')
 | .str a,.str b=>G8 a b
 | .nptr,.nptr=>true
 | .vptr a,.vptr b=>Ek a b
 | .vsl a b c,.vsl a' b' c'=>Nat.beq a a'&&Nat.beq b b'&&Ek c c'
 | .ptr a b,.ptr c d=>Nat.beq a c&&Nat.beq b d
 | .nsl,.nsl=>true
 | .sl a b c d e,.sl a' b' c' d' e'=>Nat.beq a a'&&Nat.beq b b'&&Nat.beq c c'&&Nat.beq d d'&&(e==e')
 | .nmap,.nmap=>true
 | .map a,.map b=>Nat.beq a b
 | .nfn,.nfn=>true
 | .fn f a,.fn g b=>Nat.beq f g&&Ek a b
 | .nif,.nif=>true
 | .iface t a,.iface u b=>Nat.beq t u&&CG a b
 | .agg a,.agg b=>Ek a b
 | .tup a,.tup b=>Ek a b
 | .sym i,.sym j=>Nat.beq i j
 | .slx i a b,.slx j c d=>Nat.beq i j&&(Nat.beq a c&&Nat.beq b d)
 | .ptx i a b c,.ptx j d e f=>Nat.beq i j&&(Nat.beq a d&&(Nat.beq b e&&Nat.beq c f))
 |_,_=>false
def Ek:List AV->List AV->Bool
 |[],[]=>true
 |a::r,b::s=>CG a b&&Ek r s
 |_,_=>false
end
def Ev (c:OC) (T:Tm) (H:AHeap):Option AV:=match c with
 | .pv f=>some (f T)
 | .po f=>f T
 | .ho f=>f T H
 |_=>none
def Tb (c:OC) (T:Tm) (a:AV):Nat->List AHeap->Bool
 |0,_=>true
 |_+1,[]=>true
 |n+1,H::r=>match Ev c T H with
  |some a'=>CG a a'&&Tb c T a n r
  |none=>false
def AP:Tm:=Q8.all (Q8.all (Q8.all .opq))
def BR (T:Tm):List Nat->Tm->Tm
 |[],R=>R
 |t::r,R=>match Nat.blt t 512 with
  |true=>BR T r (D9 R t (Ao T t))
  |false=>BR T r R
structure Rd where
 T:Tm
 o:Oper
 a:AV
 lo:Nat
 hi:Nat
def Uf:Nat->List AHeap->List AHeap
 |0,l=>l
 |_+1,[]=>[]
 |n+1,_::r=>Uf n r
def T6 (P:Program) (Gs:List AHeap):List Rd->Bool
 |[]=>true
 |x::r=>Tb (A3 P x.o) x.T x.a (Nat.sub x.hi x.lo) (Uf (Nat.succ x.lo) Gs)&&T6 P Gs r
def ST (N:Nat):List SI->Tm->Option Tm
 |[],T=>some T
 |x::r,T=>match CN N x.o.dst with
  | .mk u=>ST N r (u T .opq)
  | .bad=>none
structure DS where
 T:Tm
 Gs:List AHeap
 fl:List Fl
 rd:List Rd
 dead:Option (Nat×AV×AHeap)
def LX:List AHeap->Option AHeap
 |[]=>none
 |a::r=>match r with
  |[]=>some a
  |_=>LX r
def OL:List AHeap->AHeap->List AHeap
 |[],x=>[x]
 |a::r,x=>a::OL r x
def zA (d:Option (Nat×AV×AHeap)) (bef:Nat):Bool:=match d with
 |none=>false
 |some (i,_)=>AW bef i
def Nb:List SI->Nat->Nat->Bool
 |[],_,_=>true
 |y::r,i,j=>match BX y.kd&&AW y.bef j with
  |true=>match AW y.bef i with
   |true=>Nb r i j
   |false=>false
  |false=>Nb r i j
def QH (c:OC) (R:Tm) (bef:Nat) (rest:List SI) (i:Nat):List Fl->Option AV
 |[]=>none
 |f::r=>match AW bef f.op&&Nb rest i f.op with
  |true=>match Ev c R ((⟨AE,0,0⟩:AHeap).set f.id f.b)with
   |some a=>some a
   |none=>QH c R bef rest i r
  |false=>QH c R bef rest i r
def YS (P:Program) (call:AL) (u:Tm->AV->Tm) (x:SI) (rest:List SI) (i:Nat) (id:Nat) (R:Tm) (s:DS):Option DS:=match x.kd with
 | .pure=>match Ev (A3 P x.o) R ⟨AE,0,0⟩with
   |some a=>some ⟨u s.T a,s.Gs,s.fl,s.rd,s.dead⟩
   |none=>none
 | .read=>match UP s.Gs x.lo with
   |none=>none
   |some G=>match Ev (A3 P x.o) R G with
    |some a=>some ⟨u s.T a,s.Gs,s.fl,⟨R,x.o,a,x.lo,x.hi⟩::s.rd,s.dead⟩
    |none=>match QH (A3 P x.o) R x.bef rest i s.fl with
     |some a=>some ⟨u s.T a,s.Gs,s.fl,s.rd,s.dead⟩
     |none=>none
 | .mem=>match (A3 P x.o).run R ⟨AE,id,Nat.succ id⟩with
   |some (.val a H')=>match H'.get id with
    |some b=>some ⟨u s.T a,s.Gs,⟨i,id,b⟩::s.fl,s.rd,s.dead⟩
    |none=>none
   |_=>none
 | .wr=>match s.dead with
   |some _=>none
   |none=>match LX s.Gs with
    |none=>none
    |some G=>match (A3 P x.o).run R (IH x.bef s.fl G)with
     |some (.val a H')=>some ⟨u s.T a,OL s.Gs H',LZ x.bef s.fl,s.rd,s.dead⟩
     |some (.call f ag)=>match call f ag (IH x.bef s.fl G)with
      |some (.ret a H')=>some ⟨u s.T a,OL s.Gs H',LZ x.bef s.fl,s.rd,s.dead⟩
      |some (.pan v H')=>some ⟨s.T,s.Gs,s.fl,s.rd,some (i,v,H')⟩
      |none=>none
     |some (.pan v)=>some ⟨s.T,s.Gs,s.fl,s.rd,some (i,v,IH x.bef s.fl G)⟩
     |_=>none
def Xr (u:Tm->AV->Tm) (x:SI) (s:DS):Option DS:=match x.kd with
 | .wr=>match s.dead with
   |some _=>none
   |none=>match LX s.Gs with
    |none=>none
    |some G=>some ⟨u s.T (.tup []),OL s.Gs G,s.fl,s.rd,s.dead⟩
 |_=>some ⟨u s.T (.tup []),s.Gs,s.fl,s.rd,s.dead⟩
def CR (all:List Oper) (x:SI) (R:Tm):Option Bool:=match Du all x.o with
 | .always=>some true
 | .mk g=>g R
def Pg (P:Program) (call:AL) (N:Nat) (all:List Oper) (x:SI) (rest:List SI) (i:Nat) (id:Nat) (s:DS):Option DS:=
 match zA s.dead x.bef with
 |true=>some s
 |false=>match CN N x.o.dst with
  | .bad=>none
  | .mk u=>match CR all x (BR s.T x.rd AP)with
    |none=>none
    |some t=>match t with
     |true=>YS P call u x rest i id (BR s.T x.rd AP) s
     |false=>Xr u x s
def K9 (P:Program) (call:AL) (N:Nat) (all:List Oper):List SI->Nat->Nat->DS->Option DS
 |[],_,_,s=>some s
 |x::r,i,id,s=>match Pg P call N all x r i id s with
  |none=>none
  |some s'=>match x.kd with
   | .mem=>K9 P call N all r (Nat.succ i) (Nat.succ id) s'
   |_=>K9 P call N all r (Nat.succ i) id s'
def O3 (P:Program) (call:AL) (N:Nat) (Af:List Oper) (T:Tm) (H:AHeap) (D:Bj):Option A7:=match M0 Af with
 | .no=>none
 | .mk l n=>match Nat.ble (Nat.add H.next n) H.hi with
   |false=>none
   |true=>match K9 P call N Af l 0 (Nat.sub H.hi n) ⟨T,[⟨H.tr,H.next,Nat.sub H.hi n⟩],[],[],none⟩with
    |none=>none
    |some s=>match T6 P s.Gs s.rd with
     |false=>none
     |true=>match s.dead with
      |some (_,v,H')=>match ST N l T with
       |some T'=>some (.pan v T' H' D)
       |none=>none
      |none=>match LX s.Gs with
       |some G=>some (.norm s.T (MM s.fl G) D)
       |none=>none
structure CC where
 f:AL->Nat->Tm->AHeap->Bj->Kn->(A7->Ck)->Ck
def Id (b:Tm->AHeap->Bj->Kn->(A7->Ck)->Ck):Nat->Tm->AHeap->Bj->(A7->Ck)->Ck
 |0,_,_,_,_=>none
 |n+1,T,H,D,X=>b T H D (λT' H' D'=>Id b n T' H' D' X) X
def iI (id:Nat) (K:Kn) (X:A7->Ck) (r:A7):Ck:=match r with
 | .exit id' T H D=>match Nat.beq id' id with
   |true=>K T H D
   |false=>X r
 |_=>X r
def mq (r:Option A7) (K:Kn) (X:A7->Ck):Ck:=match r with
 |none=>none
 |some r=>match r with
  | .norm T H D=>K T H D
  |_=>X r
def cP (v:AV) (a b:Ck):Ck:=match v with
 | .bool t=>match t with
   |true=>a
   |false=>b
 |_=>none
def F9 (P:Program) (N:Nat):Code->CC
 | .skip=>⟨λ_ _ T H D K _=>K T H D⟩
 | .region _ Af draw=>match draw with
   |false=>⟨λcall _ T H D K X=>(NU P N Af.toList Af.toList).f call T H D K X⟩
   |true=>⟨λcall _ T H D K X=>mq (O3 P call N Af.toList T H D) K X⟩
 | .seq a b=>⟨λcall n T H D K X=>(F9 P N a).f call n T H D (λT H D=>(F9 P N b).f call n T H D K X) X⟩
 | .cond c a b=>⟨λcall n T H D K X=>cP ((BE c).f T) ((F9 P N a).f call n T H D K X) ((F9 P N b).f call n T H D K X)⟩
 | .block id b=>⟨λcall n T H D K X=>(F9 P N b).f call n T H D K (iI id K X)⟩
 | .loop b=>⟨λcall n T H D _ X=>Id (λT H D K X=>(F9 P N b).f call n T H D K X) n T H D X⟩
 | .exit id=>⟨λ_ _ T H D _ X=>X (.exit id T H D)⟩
 | .label _=>⟨λ_ _ T H D K _=>K T H D⟩
 | .ret=>⟨λ_ _ T H D _ X=>X (.ret T H D)⟩
 |_=>⟨λ_ _ _ _ _ _ _=>none⟩
def C6:List AV->Nat->Tm->Tm
 |[],_,T=>T
 |a::r,i,T=>C6 r (Nat.succ i) (D9 T i a)
def Hv (P:Program) (T:Tm) (H:AHeap):List ResultVar->Option (List AV)
 |[]=>some []
 | .tmp t::r=>match Nat.blt t 512 with
   |true=>match Hv P T H r with
    |some l=>some (Ao T t::l)
    |none=>none
   |false=>none
 | .cell a t::r=>match Nat.blt a 512 with
   |true=>match Ds P H t (Ao T a)with
    |some v=>match Hv P T H r with
     |some l=>some (v::l)
     |none=>none
    |none=>none
   |false=>none
def kJ (l:List AV):AV:=match l with
 |[]=>.tup []
 |a::r=>match r with
  |[]=>a
  |_=>.tup l
inductive GA where
 |norm (T:Tm) (H:AHeap) (u:Option AV)
 |ret (T:Tm) (H:AHeap) (u:Option AV)
def JR (P:Program) (call:AL) (N:Nat) (all:List Oper):List Oper->Tm->AHeap->Option AV->Option GA
 |[],T,H,u=>some (.norm T H u)
 |o::r,T,H,u=>match CN N o.dst with
  | .bad=>none
  | .mk p=>match (match Du all o with
      | .always=>some true
      | .mk g=>g T)with
    |none=>none
    |some false=>JR P call N all r (p T (.tup [])) H u
    |some true=>match (A3 P o).run T H with
     |none=>none
     |some (.val a H')=>JR P call N all r (p T a) H' u
     |some (.call f ag)=>match call f ag H with
      |some (.ret a H')=>JR P call N all r (p T a) H' u
      |_=>none
     |some .rcv=>match u with
      |some v=>JR P call N all r (p T v) H none
      |none=>JR P call N all r (p T .nif) H none
     |_=>none
def EQ (P:Program) (call:AL) (N:Nat) (n:Nat):Code->Tm->AHeap->Option AV->Option GA
 | .seq a b,T,H,u=>match EQ P call N n a T H u with
   |some (.norm T' H' u')=>EQ P call N n b T' H' u'
   |r=>r
 | .cond c a b,T,H,u=>match look T c with
   | .bool true=>EQ P call N n a T H u
   | .bool false=>EQ P call N n b T H u
   |_=>none
 | .region id Af draw,T,H,u=>match draw with
   |false=>JR P call N Af.toList Af.toList T H u
   |true=>match O3 P call N Af.toList T H []with
    |some (.norm T' H' [])=>some (.norm T' H' u)
    |_=>none
 | .block _ b,T,H,u=>EQ P call N n b T H u
 | .skip,T,H,u=>some (.norm T H u)
 | .ret,T,H,u=>some (.ret T H u)
 |_,_,_,_=>none
def bC (P:Program) (call:AL) (n:Nat) (f:FuncId) (ag:List AV) (H:AHeap) (u:Option AV):Option (AHeap×Option AV):=match P.funcs[f]? with
 |some fn=>match fn.body with
  |some c=>match Nat.ble (Bs ag) fn.ntmps&&Nat.ble fn.ntmps 512 with
   |true=>match EQ P call fn.ntmps n c (C6 ag 0 B6) H u with
    |some (.norm T' H' u')=>match Hv P T' H' fn.results.toList with
     |some _=>some (H',u')
     |none=>none
    |some (.ret T' H' u')=>match Hv P T' H' fn.results.toList with
     |some _=>some (H',u')
     |none=>none
    |none=>none
   |false=>none
  |none=>none
 |none=>none
def Io (P:Program) (call:AL) (n:Nat) (rs:List ResultVar) (T:Tm):Bj->AHeap->Option AV->Option A5
 |[],H,u=>match u with
  |none=>match Hv P T H rs with
   |some l=>some (.ret (kJ l) H)
   |none=>none
  |some v=>some (.pan v H)
 |(f,ag)::D,H,u=>match bC P call n f ag H u with
  |some (H',u')=>Io P call n rs T D H' u'
  |none=>none
inductive FC where
 |no
 |mk (N:Nat) (c:CC) (rs:List ResultVar)
def oJ (P:Program) (f:FuncId):FC:=match P.funcs[f]? with
 |some fn=>match fn.body with
  |some c=>match Nat.ble fn.ntmps 512 with
   |true=>.mk fn.ntmps (F9 P fn.ntmps c) fn.results.toList
   |false=>.no
  |none=>.no
 |none=>.no
def sW (P:Program) (call:AL) (n:Nat) (rs:List ResultVar) (r:A7):Ck:=match r with
 | .norm T H D=>Io P call n rs T D H none
 | .ret T H D=>Io P call n rs T D H none
 | .pan v T H D=>Io P call n rs T D H (some v)
 | .exit _ _ _ _=>none
def bh (P:Program) (call:AL) (n:Nat) (f:FuncId) (ag:List AV) (H:AHeap):Option A5:=match oJ P f with
 | .mk N c rs=>match Nat.ble (Bs ag) N with
   |true=>c.f call n (C6 ag 0 B6) H [] (λT H D=>Io P call n rs T D H none) (sW P call n rs)
   |false=>none
 | .no=>none
def CL (P:Program):Nat->AL
 |0=>λ_ _ _=>none
 |n+1=>λf ag H=>match Gl.ov f ag H with
  |some v=>some (.ret v H)
  |none=>bh P (CL P n) n f ag H
def H0:AHeap:=⟨AE,0,Bb⟩
end Go.Sx
namespace Go.Sx
variable [Gl]
open Q8 (AtC atc UpC upc)
section
omit [Gl]
theorem Ou (T:Tm) (t:Nat):Ao T t=Q8.at8 (Nat.mod t 8) (Q8.at8 (Nat.mod (Nat.div t 8) 8) (Q8.at8 (Nat.div t 64) T)):=by
 grind [Ao,Dy,Q8.at8]
theorem gr (T:Tm) (t:Nat) (a:AV):D9 T t a=Q8.up8 (Nat.div t 64) T λq=>Q8.up8 (Nat.mod (Nat.div t 8) 8) q λr=>Q8.up8 (Nat.mod t 8) r λ_=>a:=by simp_all [D9,P7,Q8.up8]
theorem GD (T:Tm) {t:Nat} (h:t<512) (a:AV):Ao (D9 T t a) t=a:=by
 have h2:Nat.div t 64<8:=by show t/64<8;omega
 grind [Ou,gr,Q8.at_up_same,PN]
theorem Fm (T:Tm) {t d:Nat} (h:t<512) (h':d<512) (hne:d≠t) (a:AV):Ao (D9 T d a) t=Ao T t:=by
 have h2:Nat.div t 64<8:=by show t/64<8;omega
 have h2':Nat.div d 64<8:=by show d/64<8;omega
 rw [Ou,gr,Ou];by_cases e2:Nat.div d 64=Nat.div t 64
 .rw [←e2,Q8.at_up_same _ h2'];by_cases e1:Nat.mod (Nat.div d 8) 8=Nat.mod (Nat.div t 8) 8
  .rw [←e1,Q8.at_up_same _ (He _ _)];by_cases e0:Nat.mod d 8=Nat.mod t 8;have e2:d/64=t/64:=e2;have e1:d/8%8=t/8%8:=e1;have e0:d%8=t%8:=e0;omega
   grind [Q8.at_up_ne,PN]
  grind [Q8.at_up_ne,He]
 grind [Q8.at_up_ne]
theorem yv (t:Nat):Ao B6 t=.tup []:=by
 grind [Ou,B6,Q8.at_all]
end
def BQ (E:Ag):Prop:=(∀g:Nat,Ac E (Gl.gl g) (.pointer (some ⟨g,0,none⟩)))/\Gl.gt E.sy
def BQ.sub {E E':Ag} (h:BQ E) (hs:E.sub E'):BQ E':=⟨λg=>(h.1 g).sub hs,by rw [hs.2.2.2.1];exact h.2⟩
structure Bf (E:Ag) (N:Nat) (T:Tm) (tmps:Array Value):Prop where
 size:tmps.size=N
 le:N<=512
 con:∀t,t<512->Ac E (Ao T t) (tmps.getD t undef)
 gl:BQ E
theorem Bf.mono {E E':Ag} {N:Nat} {T:Tm} {tmps:Array Value} (h:Bf E N T tmps) (hl:E.le E'):Bf E' N T tmps:=⟨h.size,h.le,λt ht=>(h.con t ht).mono hl,h.gl.sub hl.1⟩
omit [Gl]in
theorem GG (E:Ag):Ac E (.tup []) undef:=by simp [Ac,undef,Ah]
theorem Bf.look {E:Ag} {N:Nat} {T:Tm} {a:Act} (h:Bf E N T a.tmps) (x:Operand):Ac E (look T x) (a.eval x):=by
 unfold Sx.look BE;cases x with
 |tmp t=>
  simp only;split;rename_i hb;have hb:t<512:=(by simp_all);exact h.con t hb
  .rename_i hb;have hb:¬t<512:=λhlt=>by
    grind [zb']
   have:a.tmps.getD t undef=undef:=by
    have hs:=h.size;have hN:=h.le
    grind
   show Ac E (.tup []) (a.tmps.getD t undef)
   grind [GG]
 |const v=>exact J1 E v
 |global g=>exact h.gl.1 g
 |func f=>exact ⟨[],rfl,Ah.nil E⟩
theorem Bf.put {E:Ag} {N:Nat} {T:Tm} {a:Act} (h:Bf E N T a.tmps) {dst:Option Nat} {u:Tm->AV->Tm} (hu:CN N dst=.mk u) {x:AV} {v:Value} (hc:Ac E x v):
  Bf E N (u T x) (a.put dst v).tmps:=by
 unfold CN at hu;split at hu;cases hu;exact h
 .rename_i d;split at hu
  .rename_i hb;cases hu;obtain ⟨h1,h2⟩:=Au hb;have h1:d<N:=(by simp_all);have h2:d<512:=(by simp_all);refine ⟨by simp [Act.put,h.size],h.le,λt ht=>?_,h.gl⟩;have hs:=h.size;by_cases e:d=t;have:Ao ((P7 d).f T x) d=x:=GD T h2 x;simp_all [Act.put]
   have:Ao ((P7 d).f T x) t=Ao T t:=Fm T ht h2 e x;rw [this];have hv:(a.put (some d) v).tmps.getD t undef=a.tmps.getD t undef:=(by simp_all [Act.put]);rw [hv];exact h.con t ht
  cases hu
omit [Gl]in
theorem X4:∀(l:List Oper) (n:Nat),LQ l n=l[n]?
 |[],n=>by simp [LQ]
 |a::r,0=>rfl
 |a::r,n+1=>by simp [LQ,X4 r n]
def mW (v:Value):Option Bool:=match v with
 | .bool b=>some b
 |_=>none
section
omit [Gl]
theorem fS (Af:Array Oper) (tmps:Array Value) {j d:Nat} {oj:Oper} (hj:Af[j]? =some oj) (hd:oj.dst=some d):yielded Af tmps j=mW (tmps.getD d undef):=by
 unfold yielded;simp only [hj,Option.bind_some,hd];rcases Nat.lt_or_ge d tmps.size with hlt|hge
 .have e1:tmps[d]? =some tmps[d]:=(by simp [hlt]);have e2:tmps.getD d undef=tmps[d]:=(by simp_all);rw [e1,e2];generalize tmps[d]=v;cases v<;>rfl
 .have e1:tmps[d]? =none:=(by simp [hge]);have e2:tmps.getD d undef=undef:=by
   grind
  rw [e1,e2];rfl
def tE {E:Ag} {x:AV} {v:Value} (hc:Ac E x v) {want t:Bool} (h:Es x want=some t):(mW v==some want)=t:=by
 unfold Es at h;split at h
 .rename_i b;subst hc;cases want<;>cases b<;>simp at h<;>subst h<;>rfl
 split at h;cases h;obtain ⟨vs,rfl,rfl⟩:=hc;rfl;cases h;cases h
theorem Su {Af:Array Oper} {o:Oper} (h:Du Af.toList o=.always) (tmps:Array Value):Region.wanted o (yielded Af tmps)=true:=by
 grind [Du,Region.wanted]
end
theorem QR {E:Ag} {N:Nat} {T:Tm} {Af:Array Oper} {o:Oper} {tmps:Array Value} (ht:Bf E N T tmps) {g:Tm->Option Bool} (h:Du Af.toList o=.mk g) {t:Bool} (hg:g T=some t):
  Region.wanted o (yielded Af tmps)=t:=by
 unfold Du at h;unfold Region.wanted;split at h;cases h
 .rename_i j want hgu;rw [hgu];simp only;rw [X4]at h;have hj:Af.toList[j]? =Af[j]? :=(by simp);rw [hj]at h;split at h
  .rename_i oj hoj;split at h
   .rename_i d hd;split at h
    .rename_i hb;cases h;have hb:d<512:=(by simp_all);have hc:=ht.con d hb;have:=tE hc (want:=want) (t:=t) hg
     grind [fS]
    .rename_i hb;cases h;cases hg;have hb:¬d<512:=λhlt=>by
      grind [zb']
     have hs:=ht.size;have hN:=ht.le;have hge:¬d<tmps.size:=Nat.not_lt.2 (Nat.le_trans (hs▸hN) (Nat.le_of_not_lt hb));have e2:tmps.getD d undef=undef:=(by grind);rw [fS Af tmps hoj hd,e2];rfl
   grind [yielded]
  grind [yielded]
omit [Gl]in
theorem ak:∀(off:Nat) (cs:List AV),(match CJ 1 (Bk off cs)with|some [c]=>some c|_=>none)=C8 off cs
 |0,[]=>rfl
 |0,a::r=>rfl
 |n+1,[]=>rfl
 |n+1,a::r=>by simp only [Bk,C8];exact ak n r
def TD (r:Option (List AV)):Option AV:=match r with
 |some [c]=>some c
 |_=>none
omit [Gl]in
theorem ri_ (H:AHeap) (a:AV):pj H a=TD (DB H a 1):=by
 cases a<;>try rfl
 case vptr cs=>exact (ak 0 cs).symm
 case ptr id off=>
  show (match H.get id with|some (.cells cs)=>C8 off cs|_=>none)=TD (match H.get id with|some (.cells cs)=>CJ 1 (Bk off cs)|_=>none);cases H.get id<;>grind [id,C8,TD,CJ,Bk,ak]
theorem SW (T:Tm):∀l:List Operand,(match MH l with| .mk g=>g T)=I7 (look T) l
 |[]=>rfl
 |x::r=>by
  have ih:=SW T r;unfold MH;cases ha:BE x with
  |mk f=>
   cases hr:MH r with
   |mk g=>
    rw [hr]at ih;simp only at ih⊢;rw [ih];simp only [I7]
    congr 1
    unfold look;rw [ha]
theorem Xt (T:Tm):∀l:List (Nat×Operand),(match Nf l with| .mk g=>g T)=II (look T) l
 |[]=>rfl
 |(i,x)::r=>by
  have ih:=Xt T r;unfold Nf;cases ha:BE x with
  |mk f=>
   cases hr:Nf r with
   |mk g=>
    rw [hr]at ih;simp only at ih⊢;rw [ih];simp only [II]
    congr 2
    unfold look;rw [ha]
end Go.Sx
namespace Go.Sx
variable [Gl]
def Mo (P:Program) (T:Tm) (H:AHeap) (o:Oper) (r:BN):Prop:=B0 P (look T) H o=some r\/N1 P (look T) H o=some r
omit [Gl]in
def Vk {P:Program} {ρ:Operand->AV} {o:Oper} {a:AV} (h:N3 P ρ o=some a) (H:AHeap):N1 P ρ H o=some (.val a H):=by
 grind [N3,N1]
def iE {P:Program} {T:Tm} {H:AHeap} {o:Oper} {x:Option AV} {a:AV} (h:Vs P T o x=some a) (hx:∀b,x=some b->B0 P (look T) H o=some (.val b H)):Mo P T H o (.val a H):=by unfold Vs at h;split at h;cases h;exact .inl (hx _ rfl);exact .inr (Vk h H)
theorem P0 (T:Tm) (x:Operand):(BE x).f T=look T x:=rfl
section
variable {P:Program} {T:Tm} {H:AHeap}
section
omit [Gl]
def Gf {f:Tm->Option AV} {r:BN} (h:(OC.po f).run T H=some r):∃a,f T=some a/\r=.val a H:=by
 unfold OC.run at h
 grind
def NY {f:Tm->AHeap->Option AV} {r:BN} (h:(OC.ho f).run T H=some r):∃a,f T H=some a/\r=.val a H:=by
 unfold OC.run at h
 grind
def HR {f:Tm->AHeap->Option (AV×AHeap)} {r:BN} (h:(OC.hm f).run T H=some r):∃p,f T H=some p/\r=.val p.1 p.2:=by
 unfold OC.run at h
 grind
def VM {f:Tm->Option (FuncId×List AV)} {r:BN} (h:(OC.cl f).run T H=some r):∃p,f T=some p/\r=.call p.1 p.2:=by
 unfold OC.run at h
 grind
def va {f:Tm->Option (FuncId×List AV)} {r:BN} (h:(OC.df f).run T H=some r):∃p,f T=some p/\r=.dfr p.1 p.2:=by
 unfold OC.run at h
 grind
theorem Hg {x:Option AV} {a:AV} (h:x=some a):oV H x=some (.val a H):=by subst h;rfl
theorem Ho {x:Option (AV×AHeap)} {p:AV×AHeap} (h:x=some p):oP x=some (.val p.1 p.2):=by subst h;rfl
def ui {op:BinOp} {t:TypeId} {cx cy:Bool} {g:IntKind->Int->Int->AV} (hg:∀k a b,Gb op k a b=some (g k a b)) (x y:AV):
  Ic g (λx y=>Dj P op t cx cy x y) x y=Dj P op t cx cy x y:=by
 unfold Ic
 grind [Dj,JG]
theorem sw_ (op:BinOp) (t:TypeId) (cx cy:Bool) (x y:AV):fw P op t cx cy x y=Dj P op t cx cy x y:=by cases op<;>first|rfl|exact ui (λ_ _ _=>rfl) x y
end
def sq {o:Oper} {t:TypeId} {a:Operand} (ho:o.op=.load t a) {r:BN} (h:(A3 P o).run T H=some r):Mo P T H o r:=by unfold A3 at h;rw [ho]at h;simp only at h;left;unfold B0;rw [ho];simp only;unfold Ds;split at h;cases h;rename_i d hd;rw [hd];split at h;rename_i hag;split at h;cases h;rename_i i hi;obtain ⟨v,hv,rfl⟩:=NY h;rw [hi];unfold jP at hv;rw [←P0];split at hv;rename_i l hl;cases hv;simp only [hag,hl];rfl;cases hv;rename_i hag;obtain ⟨v,hv,rfl⟩:=NY h;rw [ri_]at hv;rw [←P0];unfold TD at hv;split at hv;rename_i c hc;cases hv;simp only [hag,hc];rfl;cases hv
def tH {o:Oper} {c:Call} (ho:o.op=.call c) {r:BN} (h:(A3 P o).run T H=some r):Mo P T H o r:=by
 unfold A3 at h;rw [ho]at h;simp only at h;unfold nT at h;have hargs:=SW T c.args.toList;split at h
 .rename_i f hf;split at h;rename_i g hgl;rw [hgl]at hargs;have gen:∀p,Vw P (look T f) (g T)=some p->B0 P (look T) H o=some (.call p.1 p.2):=by
   grind [B0,Jt,Vw]
  cases f with
  |func id=>
   simp only at h;split at h
   .obtain ⟨p,hp,rfl⟩:=VM h;cases hp;left;refine gen (id,g T) ?_;have:look T (.func id)=.fn id []:=rfl
    grind [Vw,XR]
   obtain ⟨a,ha,rfl⟩:=Gf h;exact .inr (Vk ha H)
  |tmp t=>obtain ⟨p,hp,rfl⟩:=VM h;exact .inl (gen p hp)
  |const v=>obtain ⟨p,hp,rfl⟩:=VM h;exact .inl (gen p hp)
  |global v=>obtain ⟨p,hp,rfl⟩:=VM h;exact .inl (gen p hp)
 .rename_i b hb;split at h;split at h;rename_i x t h1 h2;obtain ⟨a,ha,rfl⟩:=NY h;left;unfold B0 Jt;rw [ho];simp only [hb,h1,h2];exact Hg ha;cases h;split at h;rename_i s x t tx h1 h2;obtain ⟨p,hp,rfl⟩:=HR h;left;unfold B0 Jt;rw [ho];simp only [hb,h1,h2];exact Ho hp;cases h;split at h;rename_i d s t tx h1 h2;obtain ⟨p,hp,rfl⟩:=HR h;left;unfold B0 Jt;rw [ho];simp only [hb,h1,h2];exact Ho hp;cases h
  .split at h
   .cases h;left
    grind [B0,Jt]
   cases h
  obtain ⟨a,ha,rfl⟩:=Gf h;exact .inr (Vk ha H)
 cases h
def sk {o:Oper} {t:TypeId} {x:Operand} {lo hi mx:Option Operand} (ho:o.op=.slice t x lo hi mx) {r:BN} (h:(A3 P o).run T H=some r):Mo P T H o r:=by
 unfold A3 at h;rw [ho]at h;left;unfold B0;rw [ho];cases mx with
 |some _=>cases h
 |none=>cases lo<;>cases hi<;>simp only at h<;>(obtain ⟨a,ha,rfl⟩:=NY h;exact Hg ha)
def zg {o:Oper} {s:TypeId} {x:Operand} {f:Nat} (ho:o.op=.fieldAddr s x f) {r:BN} (h:(A3 P o).run T H=some r):Mo P T H o r:=by unfold A3 at h;rw [ho]at h;simp only at h;left;unfold B0 Hd;rw [ho];simp only;split at h;rename_i fields hd;rw [hd];simp only;split at h;rename_i fl hfl;rw [hfl];simp only;split at h;rename_i i hi;rw [hi];simp only;split at h;cases h;rename_i n hn;rw [hn];obtain ⟨a,ha,rfl⟩:=Gf h;rw [P0]at ha;unfold eK at ha;split at ha;rename_i id o' hv;cases ha;rw [hv];rfl;rename_i cs hv;split at ha;rename_i hb;cases ha;rw [hv];simp only [hb];rfl;cases ha;cases ha;cases h;cases h;cases h
def vX {o:Oper} {t:TypeId} {x ix:Operand} (ho:o.op=.indexAddr t x ix) {r:BN} (h:(A3 P o).run T H=some r):Mo P T H o r:=by
 unfold A3 at h;rw [ho]at h;simp only at h;left;unfold B0;rw [ho];split at h
 .rename_i e hd;split at h
  .obtain ⟨a,ha,rfl⟩:=Gf h;rw [P0,P0]at ha;refine Hg ?_;unfold Ht;unfold nR at ha
   grind
  cases h
 obtain ⟨a,ha,rfl⟩:=Gf h;exact Hg ha
def rU_ {o:Oper} {r:BN} (h:(A3 P o).run T H=some r):Mo P T H o r:=by
 cases ho:o.op with
 |load t a=>exact sq ho h
 |call c=>exact tH ho h
 |slice t x lo hi mx=>exact sk ho h
 |fieldAddr s x f=>exact zg ho h
 |indexAddr t x ix=>exact vX ho h
 |move x=>unfold A3 at h;rw [ho]at h;cases h;left;unfold B0;rw [ho];rfl
 |assign x=>unfold A3 at h;rw [ho]at h;cases h;left;unfold B0;rw [ho];rfl
 |pick c a b=>
  unfold A3 at h;rw [ho]at h;obtain ⟨v,hv,rfl⟩:=Gf h;left;unfold B0;rw [ho];have hv:SY (look T c) (look T a) (look T b)=some v:=hv;unfold SY at hv
  grind
 |alloc t=>unfold A3 at h;rw [ho]at h;obtain ⟨p,hp,rfl⟩:=HR h;left;grind [B0,Ho]
 |box _ x=>unfold A3 at h;rw [ho]at h;obtain ⟨p,hp,rfl⟩:=HR h;left;unfold B0;rw [ho];exact Ho hp
 |build t parts=>unfold A3 at h;rw [ho]at h;obtain ⟨v,hv,rfl⟩:=Gf h;left;grind [B0,Xt,Hg]
 |buildSlice t n parts=>unfold A3 at h;rw [ho]at h;obtain ⟨v,hv,rfl⟩:=HR h;left;grind [B0,Xt,Ho]
 |store t a x=>unfold A3 at h;rw [ho]at h;obtain ⟨p,hp,rfl⟩:=HR h;left;unfold B0;rw [ho];exact Ho hp
 |nilCheck x=>
  unfold A3 at h;rw [ho]at h;obtain ⟨v,hv,rfl⟩:=Gf h;left;unfold B0;have hv:bn (look T x)=some v:=hv
  grind [bn]
 |binOp op t x y yt=>unfold A3 at h;rw [ho]at h;obtain ⟨v,hv,rfl⟩:=Gf h;left;grind [B0,look,sw_,Hg]
 |unOp op t x=>unfold A3 at h;rw [ho]at h;obtain ⟨v,hv,rfl⟩:=Gf h;refine iE hv λb hb=>?_;unfold B0;rw [ho];exact Hg hb
 |convert s d x=>
  unfold A3 at h;rw [ho]at h;simp only at h;split at h;obtain ⟨v,hv,rfl⟩:=HR h;left;unfold B0;rw [ho];exact Ho hv
  .obtain ⟨v,hv,rfl⟩:=NY h;split at hv;left;simp_all [B0,Ho,OV,look]
   exact .inr (Vk hv H)
 |index t x i=>unfold A3 at h;rw [ho]at h;obtain ⟨v,hv,rfl⟩:=Gf h;refine iE hv λb hb=>?_;unfold B0;rw [ho];exact Hg hb
 |makeInterface t x=>unfold A3 at h;rw [ho]at h;simp only at h;split at h;rename_i hc;cases h;left;unfold B0;rw [ho];simp only [hc];rfl;cases h
 |makeFunc fn first captured=>
  unfold A3 at h;rw [ho]at h;simp only at h;split at h
  .split at h
   .cases h;left;grind [B0,SW]
   cases h
  cases h
 |makeMap t r'=>
  unfold A3 at h;rw [ho]at h;cases r' with
  |none=>obtain ⟨p,hp,rfl⟩:=HR h;left;grind [B0,Ho]
  |some _=>cases h
 |makeSlice t l c=>unfold A3 at h;rw [ho]at h;obtain ⟨p,hp,rfl⟩:=HR h;left;unfold B0;rw [ho];exact Ho hp
 |field s x f=>unfold A3 at h;rw [ho]at h;obtain ⟨p,hp,rfl⟩:=Gf h;left;unfold B0;rw [ho];exact Hg hp
 |lookup t x ix ok=>unfold A3 at h;rw [ho]at h;obtain ⟨p,hp,rfl⟩:=NY h;left;unfold B0;rw [ho];exact Hg hp
 |mapUpdate t m k x=>unfold A3 at h;rw [ho]at h;obtain ⟨p,hp,rfl⟩:=HR h;left;unfold B0;rw [ho];exact Ho hp
 |insert t m k x=>unfold A3 at h;rw [ho]at h;obtain ⟨p,hp,rfl⟩:=HR h;left;unfold B0;rw [ho];exact Ho hp
 |typeAssert x xt asserted ok=>unfold A3 at h;rw [ho]at h;obtain ⟨p,hp,rfl⟩:=Gf h;left;unfold B0;rw [ho];exact Hg hp
 |extract t ix=>unfold A3 at h;rw [ho]at h;obtain ⟨p,hp,rfl⟩:=Gf h;left;unfold B0;rw [ho];exact Hg hp
 |defer c=>
  unfold A3 at h;rw [ho]at h;simp only at h;split at h
  .rename_i x hx;obtain ⟨p,hp,rfl⟩:=va h;left;unfold B0 X9;have hp:ax P (look T x) (I7 (look T) c.args.toList)=some p:=by rw [←SW T c.args.toList];exact hp
   unfold ax at hp
   grind
  cases h
 |panic x=>unfold A3 at h;left;grind [B0,OC.run,dX,look]
 |_=>unfold A3 at h;rw [ho]at h;cases h
end
end Go.Sx
namespace Go.Sx
variable [Gl]
def Ca (P:Program) (E:Ag):Bj->List Deferred->Prop
 |[],ds=>ds=[]
 |(f,ag)::D,ds=>∃vs r,ds={ target:=.fn (.func f) #[],args:=⟨vs⟩ }::r/\Ah E ag vs/\IX P f=true/\Ca P E D r
omit [Gl]in
theorem Ca.mono {P:Program} {E E':Ag} (h:E.le E'):∀{D:Bj} {ds:List Deferred},Ca P E D ds->Ca P E' D ds
 |[],ds,hd=>hd
 |(f,ag)::D,ds,hd=>by obtain ⟨vs,r,h1,h2,h3,h4⟩:=hd;exact ⟨vs,r,h1,h2.mono h,h3,h4.mono h⟩
structure St (P:Program) (B:World) (pr:Nat->Prop) (N:Nat) (E:Ag) (T:Tm) (H:AHeap) (D:Bj) (a:Act) (w:World):Prop where
 t:Bf E N T a.tmps
 r:As B pr E H w
 d:Ca P E D a.defers
def B4 (B:World) (pr:Nat->Prop) (E:Ag) (r:A5) (e:Ending) (w':World):Prop:=
 ∃E',E.le E'/\match r with
  | .ret v H'=>∃u,e=.returned u/\Ac E' v u/\As B pr E' H' w'
  | .pan v H'=>∃u,e=.panicked [{ v:=u,recovered:=false }]/\Ac E' v u/\As B pr E' H' w'
def Cj (P:Program) (call:AL):Prop:=
 ∀(f:FuncId) (ag:List AV) (H:AHeap) (r:A5),call f ag H=some r->∀(B:World) (pr:Nat->Prop) (E:Ag) (w:World) (vs:List Value),BQ E->As B pr E H w->Ah E ag vs->
  Calls P f ⟨vs⟩ w (B4 B pr E r)
def BJ (P:Program) (B:World) (pr:Nat->Prop) (N:Nat) (E:Ag) (r:A7) (e:Exit) (a:Act) (w:World):Prop:=
 ∃E',E.le E'/\match r with
  | .norm T H D=>e=.normal/\St P B pr N E' T H D a w
  | .exit id T H D=>e=.exit id/\St P B pr N E' T H D a w
  | .ret T H D=>e=.ret/\St P B pr N E' T H D a w
  | .pan v T H D=>∃u,e=.panic [{ v:=u,recovered:=false }]/\Ac E' v u/\St P B pr N E' T H D a w
def PJ (K:Kn) (X:A7->Ck) (r:A7):Ck:=match r with
 | .norm T H D=>K T H D
 |r=>X r
section
variable {P:Program} {B:World} {pr:Nat->Prop} {N:Nat} {E:Ag}
theorem BJ.le {E':Ag} (h:E.le E') {r:A7} {e:Exit} {a:Act} {w:World} (hq:BJ P B pr N E' r e a w):BJ P B pr N E r e a w:=by obtain ⟨E'',h1,h2⟩:=hq;exact ⟨E'',Ag.le_trans h h1,h2⟩
section
omit [Gl]
def Oper.wp_mono2 {o:Oper} {a:Act} {w:World} {K K':Act->World->Prop} {Q Q':Exit->Act->World->Prop} (h:∀a w,K a w->K' a w) (hq:∀e a w,Q e a w->Q' e a w)
  (hh:o.wp P a w K Q):o.wp P a w K' Q':=by
 unfold Oper.wp at*;generalize (execOp a.eval o).run P w=r at*;cases r with
 |ok n w'=>
  cases n<;>simp only [Oper.upon]at hh⊢<;>
   first|exact h _ _ hh|exact Calls.mono hh (λe w'' he=>by cases e<;>first|exact h _ _ he|exact hq _ _ _ he|exact he.imp λ_ hx=>hx.imp λ_ hy=>hq _ _ _ hy)|exact Rows.mono hh (λ_ _ he=>h _ _ he)
 |halt x w'=>cases x<;>simp only [Oper.upon]at hh⊢<;>first|exact hh|exact hq _ _ _ hh
def AZ {Af:Array Oper} {Q Q':Exit->Act->World->Prop} (hq:∀e a w,Q e a w->Q' e a w):∀(l:List Oper) (a:Act) (w:World),wpList P Af Q l a w->wpList P Af Q' l a w
 |[],a,w,h=>hq _ _ _ h
 |o::r,a,w,h=>by unfold wpList at h⊢;split;rename_i hw;rw [Ad hw]at h;refine h.imp (λh=>Oper.wp_mono2 (AZ hq r) hq h) λh=>⟨h.1,?_⟩;obtain ⟨a',w',h'⟩:=h.2;exact ⟨a',w',hq _ _ _ h'⟩;rename_i hw;rw [Ab hw]at h;exact AZ hq r _ _ h
def ay {r:Option AV} {k:AV->Ck} {res:A5} (h:Sa r k=some res):∃a,r=some a/\k a=some res:=by
 cases r with
 |none=>cases h
 |some a=>exact ⟨a,rfl,h⟩
def qK {r:Option (AV×AHeap)} {k:AV->AHeap->Ck} {res:A5} (h:oG r k=some res):∃p,r=some p/\k p.1 p.2=some res:=by
 cases r with
 |none=>cases h
 |some a=>exact ⟨a,rfl,h⟩
def cB {r:Option (FuncId×List AV)} {k:FuncId->List AV->Ck} {res:A5} (h:aD r k=some res):∃p,r=some p/\k p.1 p.2=some res:=by
 cases r with
 |none=>cases h
 |some a=>exact ⟨a,rfl,h⟩
theorem yc {r:Option A5} {k x:AV->AHeap->Ck} {res:A5} (h:aS r k x=some res):(∃a H,r=some (.ret a H)/\k a H=some res)\/∃a H,r=some (.pan a H)/\x a H=some res:=by
 cases r with
 |none=>cases h
 |some f=>cases f with
  |ret a H=>exact .inl ⟨a,H,rfl,h⟩
  |pan a H=>exact .inr ⟨a,H,rfl,h⟩
def rl {c:OC} {u:Tm->AV->Tm} {k:LC} {call:AL} {T:Tm} {H:AHeap} {D:Bj} {K:Kn} {X:A7->Ck} {res:A5} (h:(VE c u k).f call T H D K X=some res):
  (∃x H',c.run T H=some (.val x H')/\k.f call (u T x) H' D K X=some res)\/
  (∃g ag,c.run T H=some (.call g ag)/\((∃x H',call g ag H=some (.ret x H')/\k.f call (u T x) H' D K X=some res)\/∃v H',call g ag H=some (.pan v H')/\X (.pan v T H' D)=some res))\/
  (∃g ag,c.run T H=some (.dfr g ag)/\k.f call (u T (.tup [])) H ((g,ag)::D) K X=some res)\/
  (∃v,c.run T H=some (.pan v)/\X (.pan v T H D)=some res):=by
 cases c with
 |pv f=>exact .inl ⟨f T,H,rfl,h⟩
 |po f=>
  obtain ⟨a,ha,hk⟩:=ay (r:=f T) h
  grind [OC.run]
 |ho f=>
  obtain ⟨a,ha,hk⟩:=ay (r:=f T H) h
  grind [OC.run]
 |hm f=>
  obtain ⟨⟨x,H'⟩,ha,hk⟩:=qK (r:=f T H) (k:=λa H'=>k.f call (u T a) H' D K X) h
  grind [OC.run]
 |cl f=>
  obtain ⟨⟨g,ag⟩,ha,hk⟩:=cB (r:=f T) (k:=λg ag=>aS (call g ag H) (λa H'=>k.f call (u T a) H' D K X) (λv H'=>X (.pan v T H' D))) h
  grind [OC.run,yc]
 |df f=>
  obtain ⟨⟨g,ag⟩,ha,hk⟩:=cB (r:=f T) (k:=λg ag=>k.f call (u T (.tup [])) H ((g,ag)::D) K X) h
  grind [OC.run]
 |pn f=>
  obtain ⟨a,ha,hk⟩:=ay (r:=f T) h
  grind [OC.run]
 |rc=>cases h
 |no=>cases h
end
def Ej {T:Tm} {H:AHeap} {o:Oper} {r:BN} (h:(A3 P o).run T H=some r) {a:Act} {w:World} (hr:As B pr E H w) (ht:Bf E N T a.tmps):Bi P B pr E w (execOp a.eval o) r:=by rcases rU_ h with h|h;exact We hr (λx=>ht.look x) h;exact sB hr (λx=>ht.look x) h
def n6 (P:Program) (N:Nat) (call:AL) (Af:Array Oper) (k:LC) (l:List Oper):Prop:=
 ∀(T:Tm) (H:AHeap) (D:Bj) (K:Kn) (X:A7->Ck) (res:A5),k.f call T H D K X=some res->
  ∃r:A7,PJ K X r=some res/\∀B pr E a w,St P B pr N E T H D a w->wpList P Af (BJ P B pr N E r) l a w
def en {call:AL} (hcall:Cj P call) {Af:Array Oper} {o:Oper} {l:List Oper} {k:LC} (hk:n6 P N call Af k l) {u:Tm->AV->Tm} (hu:CN N o.dst=.mk u)
  {T:Tm} {H:AHeap} {D:Bj} {K:Kn} {X:A7->Ck} {res:A5} (h:(VE (A3 P o) u k).f call T H D K X=some res):
  ∃r:A7,PJ K X r=some res/\∀B pr E a w,St P B pr N E T H D a w->o.wp P a w (wpList P Af (BJ P B pr N E r) l) (BJ P B pr N E r):=by
 rcases rl h with ⟨x,H',hrun,hrest⟩|⟨g,ag,hrun,hrest⟩|⟨g,ag,hrun,hrest⟩|⟨v,hrun,hX⟩;obtain ⟨r,hd,hw⟩:=hk _ _ _ _ _ _ hrest;refine ⟨r,hd,λB pr E a w st=>?_⟩;obtain ⟨E',n,v,w',h1,h2,h3,h4,h5⟩:=Ej hrun st.r st.t;unfold Oper.wp;rw [h1];have key:wpList P Af (BJ P B pr N E r) l (a.put o.dst v) w':=(by refine AZ (λe a w hq=>BJ.le h3 hq) _ _ _ (hw B pr E' (a.put o.dst v) w' ⟨(st.t.mono h3).put hu h5,h4,?_⟩);have:(a.put o.dst v).defers=a.defers:=(by unfold Act.put;split<;>rfl);rw [this];exact st.d.mono h3);rcases h2 with rfl|⟨rfl,rfl⟩;exact key;exact key;rcases hrest with ⟨x,H',hc,hrest⟩|⟨v,H',hc,hX⟩;obtain ⟨r,hd,hw⟩:=hk _ _ _ _ _ _ hrest;refine ⟨r,hd,λB pr E a w st=>?_⟩;obtain ⟨vs,h1,h2⟩:=Ej hrun st.r st.t;unfold Oper.wp;rw [h1];refine Calls.mono (hcall g ag H _ hc B pr E w vs st.t.gl st.r h2) λe w' he=>?_;obtain ⟨E',h3,v,rfl,h4,h5⟩:=he;refine AZ (λe a w hq=>BJ.le h3 hq) _ _ _ (hw B pr E' (a.put o.dst v) w' ⟨(st.t.mono h3).put hu h4,h5,?_⟩);have:(a.put o.dst v).defers=a.defers:=(by unfold Act.put;split<;>rfl);rw [this];exact st.d.mono h3;refine ⟨.pan v T H' D,hX,λB pr E a w st=>?_⟩;obtain ⟨vs,h1,h2⟩:=Ej hrun st.r st.t;unfold Oper.wp;rw [h1];refine Calls.mono (hcall g ag H _ hc B pr E w vs st.t.gl st.r h2) λe w' he=>?_;obtain ⟨E',h3,u',rfl,h4,h5⟩:=he;exact ⟨E',h3,u',rfl,h4,st.t.mono h3,h5,st.d.mono h3⟩
 .obtain ⟨r,hd,hw⟩:=hk _ _ _ _ _ _ hrest;refine ⟨r,hd,λB pr E a w st=>?_⟩;obtain ⟨vs,h1,h2,h3⟩:=Ej hrun st.r st.t;unfold Oper.wp;rw [h1];refine hw B pr E _ w ⟨?_,st.r,?_⟩
  .have:=st.t.put (a:=a) hu (GG E);have e:(({ a with defers:={ target:=.fn (.func g) #[],args:=⟨vs⟩ }::a.defers }:Act).put o.dst undef).tmps=(a.put o.dst undef).tmps:=by unfold Act.put;split<;>rfl
   grind
  have e:(({ a with defers:={ target:=.fn (.func g) #[],args:=⟨vs⟩ }::a.defers }:Act).put o.dst undef).defers={ target:=.fn (.func g) #[],args:=⟨vs⟩ }::a.defers:=(by unfold Act.put;split<;>rfl);rw [e];exact ⟨vs,a.defers,rfl,h2,h3,st.d⟩
 refine ⟨.pan v T H D,hX,λB pr E a w st=>?_⟩;obtain ⟨u',h1,h2⟩:=Ej hrun st.r st.t;unfold Oper.wp;rw [h1];exact ⟨E,Ag.le_refl _,u',rfl,h2,st⟩
def kh {call:AL} (hcall:Cj P call) (Af:Array Oper):∀l:List Oper,n6 P N call Af (NU P N Af.toList l) l
 |[]=>λT H D K X res h=>⟨.norm T H D,h,λB pr E a w st=>⟨E,Ag.le_refl _,rfl,st⟩⟩
 |o::l=>λT H D K X res h=>by
  have ih:=kh hcall Af l;unfold NU at h;split at h;cases h
  .rename_i u hu;split at h;obtain ⟨r,hd,hw⟩:=en hcall ih hu h;refine ⟨r,hd,λB pr E a w st=>?_⟩;simp_all [wpList,Su]
   .rename_i g hg;simp only at h;split at h
    .rename_i t ht;split at h
     .obtain ⟨r,hd,hw⟩:=en hcall ih hu h;refine ⟨r,hd,λB pr E a w st=>?_⟩;unfold wpList;rw [Ad (QR st.t hg ht)]
      grind
     obtain ⟨r,hd,hw⟩:=ih _ _ _ _ _ _ h;refine ⟨r,hd,λB pr E a w st=>?_⟩;unfold wpList;rw [Ab (by rw [QR st.t hg ht];simp)];refine hw B pr E _ w ⟨st.t.put hu (GG E),st.r,?_⟩;have:(a.put o.dst undef).defers=a.defers:=(by unfold Act.put;split<;>rfl);rw [this];exact st.d
    cases h
def lQ (P:Program) (N:Nat) (call:AL) (n:Nat) (k:CC) (c:Code):Prop:=
 ∀(T:Tm) (H:AHeap) (D:Bj) (K:Kn) (X:A7->Ck) (res:A5),k.f call n T H D K X=some res->
  ∃r:A7,PJ K X r=some res/\∀B pr E a w,St P B pr N E T H D a w->c.wp P (BJ P B pr N E r) a w
def Oh (P:Program) (N:Nat) (call:AL):Prop:=
 ∀(id:Nat) (Af:Array Oper) (T:Tm) (H:AHeap) (D:Bj) (r:A7),O3 P call N Af.toList T H D=some r->
  ∀B pr E a w,St P B pr N E T H D a w->(Code.region id Af true).wp P (BJ P B pr N E r) a w
omit [Gl]in
def pN {id:Nat} {K:Kn} {X:A7->Ck} {r:A7} {res:A5} (h:PJ K (iI id K X) r=some res):
  (∃T H D,r=.exit id T H D/\K T H D=some res)\/((∀T H D,r≠ .exit id T H D)/\PJ K X r=some res):=by
 cases r with
 |norm T H D=>exact .inr ⟨λ_ _ _ e=>(nomatch e),h⟩
 |ret T H D=>exact .inr ⟨λ_ _ _ e=>(nomatch e),h⟩
 |pan v T H D=>exact .inr ⟨λ_ _ _ e=>(nomatch e),h⟩
 |exit id' T H D=>
  have h2:(match Nat.beq id' id with|true=>K T H D|false=>X (.exit id' T H D))=some res:=h;cases hb:Nat.beq id' id with
  |true=>
   grind [za']
  |false=>simp only [hb]at h2;refine .inr ⟨λT' H' D' e=>?_,h2⟩;simp_all
omit [Gl]in
def ek {c:Code} {Q Q':Exit->Act->World->Prop} (hq:∀e a w,Q e a w->Q' e a w):∀(m:Nat) (a:Act) (w:World),Code.rounds P c Q m a w->Code.rounds P c Q' m a w
 |0,_,_,h=>h
 |m+1,a,w,h=>Code.wp_mono (λe a w hx=>by
   cases e with
   |normal=>exact ek hq m a w hx
   |exit id=>exact hq _ _ _ hx
   |goto l=>exact hq _ _ _ hx
   |ret=>exact hq _ _ _ hx
   |panic ch=>exact hq _ _ _ hx
   |outgrown=>exact hq _ _ _ hx) h
def BJ.then {r:A7} (hr:∀T H D,r≠ .norm T H D) {K:Act->World->Prop} {e:Exit} {a:Act} {w:World} (h:BJ P B pr N E r e a w):Exit.then K (BJ P B pr N E r) e a w:=by
 cases e with
 |normal=>
  obtain ⟨E',h1,h2⟩:=h
  grind
 |exit id=>exact h
 |goto l=>exact h
 |ret=>exact h
 |panic ch=>exact h
 |outgrown=>exact h
def BJ.norm {T:Tm} {H:AHeap} {D:Bj} {Q:Exit->Act->World->Prop} {K:Act->World->Prop} {e:Exit} {a:Act} {w:World} (h:BJ P B pr N E (.norm T H D) e a w)
  (hk:∀E' a w,E.le E'->St P B pr N E' T H D a w->K a w):Exit.then K Q e a w:=by
 obtain ⟨E',h1,rfl,h2⟩:=h;exact hk E' a w h1 h2
def eW {call:AL} {n:Nat} {k:CC} {c:Code} (hk:lQ P N call n k c):∀(m:Nat) (T:Tm) (H:AHeap) (D:Bj) (X:A7->Ck) (res:A5),
  Id (λT H D K X=>k.f call n T H D K X) m T H D X=some res->
  ∃r:A7,(∀T H D,r≠ .norm T H D)/\X r=some res/\∀B pr E a w,St P B pr N E T H D a w->Code.rounds P c (BJ P B pr N E r) m a w
 |0,T,H,D,X,res,h=>by cases h
 |m+1,T,H,D,X,res,h=>by
  obtain ⟨r,hd,hw⟩:=hk _ _ _ _ _ _ h;by_cases hr:∀T H D,r≠ .norm T H D
  .refine ⟨r,hr,?_,λB pr E a w st=>Code.wp_mono (λe a w hq=>hq.then hr) (hw B pr E a w st)⟩;cases r with
   |norm T H D=>grind
   |exit id T H D=>exact hd
   |ret T H D=>exact hd
   |pan v T H D=>exact hd
  .cases r with
   |exit id T H D=>grind
   |ret T H D=>grind
   |pan v T H D=>grind
   |norm T' H' D'=>obtain ⟨r2,hn,hX,hw2⟩:=eW hk m T' H' D' X res hd;refine ⟨r2,hn,hX,λB pr E a w st=>Code.wp_mono (λe a w hq=>?_) (hw B pr E a w st)⟩;exact hq.norm λE' a w hle st'=>ek (λe a w hq=>BJ.le hle hq) m a w (hw2 B pr E' a w st')
def LJ {call:AL} (hcall:Cj P call) (hdraw:Oh P N call) (n:Nat):∀c:Code,lQ P N call n (F9 P N c) c
 | .skip=>λT H D K X res h=>by exact ⟨.norm T H D,h,λB pr E a w st=>wp_skip ⟨E,Ag.le_refl _,rfl,st⟩⟩
 | .label l=>λT H D K X res h=>by exact ⟨.norm T H D,h,λB pr E a w st=>wp_label ⟨E,Ag.le_refl _,rfl,st⟩⟩
 | .exit id=>λT H D K X res h=>by exact ⟨.exit id T H D,h,λB pr E a w st=>wp_exit ⟨E,Ag.le_refl _,rfl,st⟩⟩
 | .ret=>λT H D K X res h=>by exact ⟨.ret T H D,h,λB pr E a w st=>wp_ret ⟨E,Ag.le_refl _,rfl,st⟩⟩
 | .region id Af false=>λT H D K X res h=>by
   obtain ⟨r,hd,hw⟩:=kh hcall Af Af.toList _ _ _ _ _ _ h
   grind [wp_region_list]
 | .region id Af true=>λT H D K X res h=>by
   unfold F9 at h;simp only at h;unfold mq at h;split at h;cases h
   .rename_i r hr;refine ⟨r,?_,λB pr E a w st=>hdraw id Af T H D r hr B pr E a w st⟩;cases r<;>exact h
 | .seq x y=>λT H D K X res h=>by
   obtain ⟨r,hd,hw⟩:=LJ hcall hdraw n x _ _ _ _ _ _ h;by_cases hr:∀T H D,r≠ .norm T H D
   .refine ⟨r,?_,λB pr E a w st=>wp_seq (Code.wp_mono (λe a w hq=>hq.then hr) (hw B pr E a w st))⟩;cases r with
    |norm T H D=>grind
    |exit id T H D=>exact hd
    |ret T H D=>exact hd
    |pan v T H D=>exact hd
   .cases r with
    |exit id T H D=>grind
    |ret T H D=>grind
    |pan v T H D=>grind
    |norm T' H' D'=>obtain ⟨r2,hd2,hw2⟩:=LJ hcall hdraw n y _ _ _ _ _ _ hd;refine ⟨r2,hd2,λB pr E a w st=>wp_seq (Code.wp_mono (λe a w hq=>?_) (hw B pr E a w st))⟩;exact hq.norm λE' a w hle st'=>Code.wp_mono (λe a w hq=>BJ.le hle hq) (hw2 B pr E' a w st')
 | .cond c x y=>λT H D K X res h=>by
   unfold F9 at h;simp only at h;unfold cP at h;split at h
   .rename_i t ht;split at h
    .obtain ⟨r,hd,hw⟩:=LJ hcall hdraw n x _ _ _ _ _ _ h;refine ⟨r,hd,λB pr E a w st=>?_⟩;have:a.eval c=.bool true:=by have:=st.t.look c;grind [look,Ac]
     grind [wp_cond_true]
    .obtain ⟨r,hd,hw⟩:=LJ hcall hdraw n y _ _ _ _ _ _ h;refine ⟨r,hd,λB pr E a w st=>?_⟩;have:a.eval c=.bool false:=by have:=st.t.look c;grind [look,Ac]
     grind [wp_cond_false]
   cases h
 | .block id b=>λT H D K X res h=>by
   obtain ⟨r,hd,hw⟩:=LJ hcall hdraw n b _ _ _ _ _ _ h;rcases pN hd with ⟨T',H',D',rfl,hk⟩|⟨hne,hk⟩
   .refine ⟨.norm T' H' D',hk,λB pr E a w st=>wp_block (Code.wp_mono (λe a w hq=>?_) (hw B pr E a w st))⟩;obtain ⟨E',h1,rfl,h2⟩:=hq;show if id=id then _ else _
    rw [Ad rfl];exact ⟨E',h1,rfl,h2⟩
   .refine ⟨r,hk,λB pr E a w st=>wp_block (Code.wp_mono (λe a w hq=>?_) (hw B pr E a w st))⟩;cases e with
    |exit id'=>
     show if id'=id then _ else _
     split
     .obtain ⟨E',h1,h2⟩:=hq
      grind
     exact hq
    |normal=>exact hq
    |goto l=>exact hq
    |ret=>exact hq
    |panic ch=>exact hq
    |outgrown=>exact hq
 | .loop b=>λT H D K X res h=>by
   obtain ⟨r,hn,hX,hw⟩:=eW (LJ hcall hdraw n b) n T H D X res h;refine ⟨r,?_,λB pr E a w st=>wp_loop_rounds n (hw B pr E a w st)⟩;cases r with
   |norm T H D=>grind
   |exit id T H D=>exact hX
   |ret T H D=>exact hX
   |pan v T H D=>exact hX
 | .scope _=>λT H D K X res h=>by grind [F9]
 | .goto _=>λT H D K X res h=>by grind [F9]
 | .refuse _=>λT H D K X res h=>by grind [F9]
 | .rangeFunc _ _ _ _=>λT H D K X res h=>by grind [F9]
end
end Go.Sx
