/-
  One operation of the evaluator, and that the model's does the same.
-/
import Derived.Test.YtelnbodnjmldeaaGreatSxE
import Derived.Laws.IdiomStrings
set_option linter.all false
open Nat renaming eq_of_beq_eq_true→za',blt_eq→zb'
namespace Go.Sx
inductive BJ where
 |val (a:AV) (H:AHeap)
 |call (f:FuncId) (ag:List AV)
 |dfr (f:FuncId) (ag:List AV)
 |pan (a:AV)
 |rcv
def Jg (ρ:Operand->AV):List Operand->List AV
 |[]=>[]
 |x::r=>ρ x::Jg ρ r
def IW (ρ:Operand->AV):List (Nat×Operand)->List (Nat×AV)
 |[]=>[]
 |(i,x)::r=>(i,ρ x)::IW ρ r
def Mk (ρ:Operand->AV):Option Operand->Option AV
 |none=>none
 |some x=>some (ρ x)
def IL:List AV->List AV->List AV
 |[],l=>l
 |a::r,l=>a::IL r l
theorem bd:∀a b:List AV,IL a b=a++b
 |[],b=>rfl
 |x::r,b=>by simp [IL,bd r b]
def Je (P:Program) (f:FuncId):Bool:=match P.funcs[f]? with
 |some fn=>match fn.body with
  |some _=>not (fn.name== "runtime.NumGoroutine")
  |none=>false
 |none=>false
theorem bp {P:Program} {f:FuncId} (h:Je P f=true) (ag:Array Value) (w:World):(callFunc f ag).run P w=.ok (.enter f ag) w:=by
 unfold Je at h;split at h
 .split at h<;>simp_all [callFunc]
 cases h
def US (ρ:Operand->AV):List Operand->Bool
 |[]=>true
 |x::r=>match FP (ρ x)with
  |some _=>US ρ r
  |none=>false
def tO:Op->Bool
 | .select _ _=>false
 |_=>true
def VD (a:AV):Value:=match FP a with
 |some v=>v
 |none=>.tuple #[]
def Ox (P:Program) (ρ:Operand->AV) (H:AHeap) (o:Oper):Option BJ:=match tO o.op&&US ρ o.op.operands.toList with
 |true=>match Cp P (execOp (λx=>VD (ρ x)) o)with
  |some (.value v)=>some (.val (Gc v) H)
  |some .skip=>some (.val (.tup []) H)
  |_=>none
 |false=>none
def P1:AV->Option (FloatKind×Option Nat)
 | .flt k b=>some (k,some b)
 | .nan k=>some (k,none)
 |_=>none
def HN (k:FloatKind) (r:Option Nat):AV:=match r with
 |some n=>.flt k n
 |none=>.nan k
def DJ (k:FloatKind) (a b:Option Nat):Option Ordering:=match a with
 |some a=>match b with
  |some b=>k.format.order a b
  |none=>none
 |none=>none
def EA (f:Nat->Nat->Option Nat) (a b:Option Nat):Option Nat:=match a with
 |some a=>match b with
  |some b=>f a b
  |none=>none
 |none=>none
def Wh (op:BinOp) (k:FloatKind) (a b:Option Nat):Option AV:=match op with
 | .add=>some (HN k (EA k.format.add a b))
 | .sub=>some (HN k (EA k.format.sub a b))
 | .mul=>some (HN k (EA k.format.mul a b))
 | .quo=>some (HN k (EA k.format.div a b))
 | .eql=>some (.bool (DJ k a b==some .eq))
 | .neq=>some (.bool (DJ k a b !=some .eq))
 | .lss=>some (.bool (DJ k a b==some .lt))
 | .leq=>some (.bool (DJ k a b==some .lt||DJ k a b==some .eq))
 | .gtr=>some (.bool (DJ k a b==some .gt))
 | .geq=>some (.bool (DJ k a b==some .gt||DJ k a b==some .eq))
 |_=>none
def PA:AV->Bool
 | .int _ _| .flt _ _| .nan _| .str _| .opq| .sym _| .slx _ _ _| .ptx _ _ _ _=>false
 |_=>true
def UC:List UInt8->List UInt8->List UInt8
 |[],l=>l
 |a::r,l=>a::UC r l
theorem gn:∀a b:List UInt8,UC a b=a++b
 |[],b=>rfl
 |x::r,b=>by simp [UC,gn r b]
def FB:IntKind->Nat
 | .i8=>0
 | .i16=>1
 | .i32=>2
 | .i64=>3
 | .u8=>4
 | .u16=>5
 | .u32=>6
 | .u64=>7
def pK {k k':IntKind} (h:Nat.beq (FB k) (FB k')=true):k=k':=by cases k<;>cases k'<;>first|rfl|(exact absurd h (by decide))
def OL (P:Program) (op:BinOp) (k:IntKind) (a:Int) (k':IntKind) (b:Int):Option AV:=match Cp P (binOp op 0 (.int k a) (.int k' b))with
 |some v=>some (Gc v)
 |none=>none
def JM (P:Program) (op:BinOp) (k:IntKind) (a:Int) (k':IntKind) (b:Int):Option AV:=match Nat.beq (FB k) (FB k')with
 |true=>match F2 op k a b with
  |some r=>some r
  |none=>OL P op k a k' b
 |false=>OL P op k a k' b
def Dk (P:Program) (op:BinOp) (t:TypeId) (cx cy:Bool) (x y:AV):Option AV:=match x,y with
 | .int k a,.int k' b=>JM P op k a k' b
 | .str a,.str b=>match op with
   | .eql=>some (.bool (Hh a b))
   | .neq=>some (.bool (not (Hh a b)))
   | .add=>match Nat.blt (Nat.add (GH a) (GH b)) 9223372036854775807 with
     |true=>some (.str (UC a b))
     |false=>none
   |_=>none
 |x,y=>match PA x with
  |true=>match op with
   | .eql=>V4 P false t cx cy x y
   | .neq=>V4 P true t cx cy x y
   |_=>none
  |false=>match P1 x with
   |some (k,a)=>match P1 y with
    |some (k',b)=>match decide (k=k')with
     |true=>Wh op k a b
     |false=>none
    |none=>none
   |none=>none
def oV (H:AHeap) (r:Option AV):Option BJ:=match r with
 |some a=>some (.val a H)
 |none=>none
def oP (r:Option (AV×AHeap)):Option BJ:=match r with
 |some p=>some (.val p.1 p.2)
 |none=>none
def JD (P:Program) (ρ:Operand->AV) (H:AHeap) (c:Call):Option BJ:=match c.callee with
 | .value f=>match ρ f with
   | .fn g cap=>match Je P g with
     |true=>some (.call g (IL (Jg ρ c.args.toList) cap))
     |false=>none
   |_=>none
 | .builtin b=>match b with
   | .len=>match c.args.toList,c.argTypes.toList with
     |[x],[t]=>oV H (EG P H t (ρ x))
     |_,_=>none
   | .append=>match c.args.toList,c.argTypes.toList with
     |[s,x],[t,tx]=>oP (UR P H t tx (ρ s) (ρ x))
     |_,_=>none
   | .copy=>match c.args.toList,c.argTypes.toList with
     |[d,s],[t,_]=>oP (TB P H t (ρ d) (ρ s))
     |_,_=>none
   | .recover=>match c.args.toList with
     |[]=>some .rcv
     |_=>none
   |_=>none
 |_=>none
def WP (P:Program) (ρ:Operand->AV) (c:Call):Option BJ:=match c.callee with
 | .value f=>match ρ f with
   | .fn g []=>match Je P g with
     |true=>some (.dfr g (Jg ρ c.args.toList))
     |false=>none
   |_=>none
 |_=>none
def Vo (P:Program) (x:AV) (asserted:TypeId) (ok:Bool):Option AV:=match P.underlying asserted with
 |some (.interface _)=>none
 |some _=>match P.info? asserted with
  |none=>none
  |some i=>match i.zero with
   |none=>none
   |some z=>match x with
    | .nif=>match ok with
      |true=>some (.tup [Gc z,.bool false])
      |false=>none
    | .iface t v=>match Nat.beq t asserted with
      |true=>some (L5 ok v true)
      |false=>match ok with
       |true=>some (.tup [Gc z,.bool false])
       |false=>none
    |_=>none
 |none=>none
def Ob (P:Program) (s d:TypeId) (x:AV):Option AV:=match P.underlying s with
 |some _=>match P.underlying d with
  |some (.int k)=>match x with
   | .int _ n=>some (Gy k (IZ k n))
   | .flt f b=>match (f.decode b).toInt .zero with
     |some n=>match decide (k.min<=n/\n<=k.max)with
      |true=>some (.int k n)
      |false=>none
     |none=>none
   |_=>none
  |some (.float k)=>match x with
   | .int _ n=>some (.flt k (k.nearest n))
   |_=>none
  |_=>none
 |none=>none
def bc (P:Program) (s d:TypeId) (x:AV):Option AV:=match x with
 | .str l=>match P.underlying s with
   |some .string=>match P.underlying d with
    |some (.slice e)=>match P.underlying e with
     |some (.int .u8)=>some (.vsl (GH l) 1 (OR l))
     |_=>none
    |_=>none
   |_=>none
 |_=>none
def GP (P:Program) (H:AHeap) (s d:TypeId) (x:AV):Option AV:=match Ob P s d x with
 |some r=>some r
 |none=>match Oa P H s d x with
  |some r=>some r
  |none=>bc P s d x
def na (P:Program) (s:TypeId):Bool:=match P.underlying s with
 |some (.slice e)=>match P.underlying e with
  |some (.int .u8)=>true
  |_=>false
 |_=>false
def Xw (P:Program) (s d:TypeId):Bool:=Nat.beq s d&&na P s
def Xq (P:Program) (H:AHeap) (s d:TypeId) (x:AV):Option (AV×AHeap):=match x with
 | .sl id off len sz _=>match len with
   |0=>none
   |n+1=>match Nat.beq sz 1&&Xw P s d with
    |true=>match Du H (.ptr id off) (Nat.succ n)with
     |some l=>some (.vsl (Nat.succ n) 1 l,H.erase id)
     |none=>none
    |false=>none
 |_=>none
def Ns (P:Program) (H:AHeap) (s d:TypeId) (x:AV):Option (AV×AHeap):=match GP P H s d x with
 |some a=>some (a,H)
 |none=>Xq P H s d x
def Px:List UInt8->Nat->Option UInt8
 |[],_=>none
 |b::_,0=>some b
 |_::r,n+1=>Px r n
theorem eH:∀(l:List UInt8) (n:Nat),Px l n=l[n]?
 |[],n=>by simp [Px]
 |b::r,0=>rfl
 |b::r,n+1=>by simp [Px,eH r n]
def jH (b:UInt8):AV:=Gy .u8 (.ofNat b.toNat)
def Ro (P:Program) (t:TypeId) (x i:AV):Option AV:=match P.underlying t with
 |some .string=>match x with
  | .str s=>match i with
    | .int _ (.ofNat n)=>match Px s n with
      |some b=>some (jH b)
      |none=>none
    |_=>none
  |_=>none
 |_=>none
def QS (op:UnOp) (x:AV):Option AV:=match op with
 | .not=>match x with
   | .bool b=>some (.bool (not b))
   |_=>none
 | .neg=>match x with
   | .int k n=>some (Gy k (IZ k (0-n)))
   | .flt k b=>some (.flt k (Op.negFloat k b))
   | .nan k=>some (.nan k)
   |_=>none
 |_=>none
def VV (P:Program) (t:TypeId):Bool:=match P.underlying t with
 |some (.interface _)=>false
 |some _=>true
 |none=>false
def BZ (P:Program) (ρ:Operand->AV) (H:AHeap) (o:Oper):Option BJ:=match o.op with
 | .move x=>some (.val (ρ x) H)
 | .assign x=>some (.val (ρ x) H)
 | .pick c a b=>match ρ c with
   | .bool true=>some (.val (ρ a) H)
   | .bool false=>some (.val (ρ b) H)
   |_=>none
 | .alloc t=>oP (NA P H t)
 | .box _ x=>oP (P0 H (ρ x))
 | .build t parts=>oV H (Ur P t (IW ρ parts.toList))
 | .buildSlice t n parts=>oP (Me P H t n (IW ρ parts.toList))
 | .load t a=>oV H (Dj P H t (ρ a))
 | .store t a x=>oP (FU P H t (ρ a) (ρ x))
 | .nilCheck x=>match ρ x with
   | .ptr id off=>some (.val (.ptr id off) H)
   | .vptr cs=>some (.val (.vptr cs) H)
   |_=>none
 | .binOp op t x y _=>oV H (Dk P op t (FE x) (FE y) (ρ x) (ρ y))
 | .convert s d x=>oP (Ns P H s d (ρ x))
 | .index t x i=>oV H (Ro P t (ρ x) (ρ i))
 | .unOp op _ x=>oV H (QS op (ρ x))
 | .makeInterface t x=>match VV P t with
   |true=>some (.val (.iface t (ρ x)) H)
   |false=>none
 | .makeFunc fn first captured=>match fn with
   | .func f=>match first.toList with
     |[]=>some (.val (.fn f (Jg ρ captured.toList)) H)
     |_=>none
   |_=>none
 | .makeMap t r=>match r with
   |none=>oP (SF P H t)
   |some _=>none
 | .makeSlice t l c=>oP (Pf P H t (ρ l) (ρ c))
 | .slice t x lo hi mx=>match mx with
   |none=>oV H (EQ P H t (ρ x) (Mk ρ lo) (Mk ρ hi))
   |some _=>none
 | .fieldAddr s x f=>oV H (GZ P s (ρ x) f)
 | .field s x f=>oV H (Se P s (ρ x) f)
 | .indexAddr t x ix=>oV H (Hn P t (ρ x) (ρ ix))
 | .lookup t x ix ok=>oV H (EU P H t (ρ x) (ρ ix) ok)
 | .mapUpdate t m k x=>oP (IA P H t (ρ m) (ρ k) (ρ x))
 | .insert t m k x=>oP (IA P H t (ρ m) (ρ k) (ρ x))
 | .typeAssert x _ asserted ok=>oV H (Vo P (ρ x) asserted ok)
 | .extract t ix=>oV H (Ta (ρ t) ix)
 | .call c=>JD P ρ H c
 | .defer c=>WP P ρ c
 | .panic x=>match ρ x with
   | .iface t v=>some (.pan (.iface t v))
   |_=>none
 |_=>none
section
variable {P:Program} {B:World} {pr:Nat->Prop} {E:Ag} {H:AHeap} {w:World}
def Bh (P:Program) (B:World) (pr:Nat->Prop) (E:Ag) (w:World) (s:Sem Next):BJ->Prop
 | .val a H'=>∃E' n v w',s.run P w=.ok n w'/\(n=.value v\/(n=.skip/\v=undef))/\E.le E'/\Ao B pr E' H' w'/\Ac E' a v
 | .call f ag=>∃vs,s.run P w=.ok (.enter f ⟨vs⟩) w/\Ah E ag vs
 | .dfr f ag=>∃vs,s.run P w=.ok (.defer { target:=.fn (.func f) #[],args:=⟨vs⟩ }) w/\Ah E ag vs/\Je P f=true
 | .pan a=>∃v,s.run P w=.halt (.panic v) w/\Ac E a v
 | .rcv=>s.run P w=.ok .recover w
theorem Bh.of_gives {s:Sem Value} {a:AV} {H':AHeap} (h:Gives P B pr E w s (a,H')):Bh P B pr E w (do pure (.value (←s))) (.val a H'):=by obtain ⟨E',v,w',h1,h2,h3,h4⟩:=h;exact ⟨E',.value v,v,w',by simp [h1],.inl rfl,h2,h3,h4⟩
theorem Bh.oV {s:Sem Value} {x:Option AV} {r:BJ} (h:oV H x=some r) (hg:∀a,x=some a->Gives P B pr E w s (a,H)):Bh P B pr E w (do pure (.value (←s))) r:=by unfold Sx.oV at h;split at h;cases h;exact Bh.of_gives (hg _ rfl);cases h
theorem Bh.oP {s:Sem Value} {x:Option (AV×AHeap)} {r:BJ} (h:oP x=some r) (hg:∀p,x=some p->Gives P B pr E w s p):Bh P B pr E w (do pure (.value (←s))) r:=by unfold Sx.oP at h;split at h;cases h;exact Bh.of_gives (hg _ rfl);cases h
def Sd {ρ:Operand->AV} {σ:Operand->Value} (h:∀x,Ac E (ρ x) (σ x)):∀l:List Operand,Ah E (Jg ρ l) (l.map σ)
 |[]=>by rfl
 |x::r=>Ah.cons (h x) (Sd h r)
def V0 {ρ:Operand->AV} {σ:Operand->Value} (h:∀x,Ac E (ρ x) (σ x)):∀l:List (Nat×Operand),Ah E ((IW ρ l).map (·.2)) ((l.map λp=>(p.1,σ p.2)).map (·.2))/\
  (l.map λp=>(p.1,σ p.2)).map (·.1)=(IW ρ l).map (·.1)
 |[]=>by simp [IW,Ah]
 |(i,x)::r=>by
  obtain ⟨h1,h2⟩:=V0 h r
  grind [Ah.cons,IW]
def gf {ρ:Operand->AV} {σ:Operand->Value} (h:∀x,Ac E (ρ x) (σ x)) (x:Option Operand):Kv E (Mk ρ x) (x.map σ):=by
 cases x with
 |none=>rfl
 |some x=>exact ⟨σ x,rfl,h x⟩
def yC (hr:Ao B pr E H w) {ρ:Operand->AV} {σ:Operand->Value} (hσ:∀x,Ac E (ρ x) (σ x)) {o:Oper} {r:BJ} (h:Ox P ρ H o=some r):Bh P B pr E w (execOp σ o) r:=by
 unfold Ox at h;split at h
 case h_2=>cases h
 rename_i hb;obtain ⟨hsel,hall⟩:=Aq hb;have heq:execOp σ o=execOp (λx=>VD (ρ x)) o:=by
  refine execOp_congr o (λcs b e=>?_) λx hx=>?_;rw [e]at hsel;cases hsel
  .have:∀l:List Operand,US ρ l=true->∀x∈l,σ x=VD (ρ x):=by
     intro l
     induction l<;>grind [US,VD,Rc]
   exact this _ hall x (Array.mem_toList_iff.2 hx)
 rw [heq];split at h;rename_i v hv;cases h;exact ⟨E,_,v,w,Kr hv w,.inl rfl,Ag.le_refl _,hr,JR E v⟩;rename_i hv;cases h;exact ⟨E,_,undef,w,Kr hv w,.inr ⟨rfl,rfl⟩,Ag.le_refl _,hr,by simp [Ac,undef,Ah]⟩;cases h
def kP_ {x:AV} {u:Value} (hx:Ac E x u) (h:PA x=true) (t:TypeId) (v:Value) (neg:Bool) {b:Bool} (he:(Op.equal t u v).run P w=.ok b w):
  (binOp (if neg then .neq else .eql) t u v).run P w=.ok (.bool (neg ^^ b)) w:=by
 have hu:(match u with
   | .int _ _| .float _ _| .complex _ _ _| .string _=>False
   |_=>True):=by
  cases x<;>simp only [PA,Bool.false_eq_true]at h<;>
   (simp only [Ac]at hx
    grind)
 cases neg;have e:binOp .eql t u v=(do pure (.bool (←Op.equal t u v))):=(by cases u<;>first|rfl|exact hu.elim);simp_all
 have e:binOp .neq t u v=(do pure (.bool (!(←Op.equal t u v)))):=(by cases u<;>first|rfl|exact hu.elim);simp_all
theorem pK_ (hr:Ao B pr E H w) {neg:Bool} {t:TypeId} {ox oy:Operand} {x y:AV} {u v:Value} (hx:Ac E x u) (hy:Ac E y v) {r:AV} (h:V4 P neg t (FE ox) (FE oy) x y=some r)
  (hq:PA x=true):Gives P B pr E w (do eqGuard (if neg then .neq else .eql) t ox oy u v;binOp (if neg then .neq else .eql) t u v) (r,H):=by
 unfold V4 at h;split at h;cases h;rename_i hg;split at h;rename_i b hb;cases h;have hgr:=qR (P:=P) (w:=w) hx hy hg (if neg then BinOp.neq else BinOp.eql);have heq:=oL (P:=P) (w:=w) hx hy hb 10000 (by omega);have hequal:(Op.equal t u v).run P w=.ok b w:=heq;refine Gives.still hr (v:=.bool (neg ^^ b)) ?_ (by simp [Ac]);simp only [Sem.run_bind,hgr,Result.andThen_ok];exact kP_ hx hq t v neg hequal;cases h
def ai {op:BinOp} {t:TypeId} {ox oy:Operand} {u v:Value} (hu:(match u with| .nilIface| .agg _=>False|_=>True)):(eqGuard op t ox oy u v).run P w=.ok () w:=by
 unfold eqGuard;cases op<;>first
  |rfl
  |(simp only [Bool.not_true,Bool.false_eq_true,if_false]
    cases u<;>first|rfl|exact hu.elim)
def I5 (k:FloatKind) (a:Option Nat) (n:Nat):Prop:=match a with
 |some m=>m=n
 |none=>(k.format.read n).isNaN=true
def oS {x:AV} {u:Value} (hx:Ac E x u) {k:FloatKind} {a:Option Nat} (h:P1 x=some (k,a)):∃n,u=.float k n/\I5 k a n:=by unfold P1 at h;all_goals grind [Ac,I5]
theorem Sz {f:Ieee.Format} {q:Nat} (h:f.infRung<q%f.signWeight) (hb:f.binade<=f.infRung):(f.read q).isNaN=true:=by unfold Ieee.Format.read;rw [Ab (by omega),Ab (by omega),Ab (by omega)];rfl
def wQ {f:Ieee.Format} {q:Nat} (h:(f.read q).isNaN=true):f.infRung<q%f.signWeight:=by unfold Ieee.Format.read at h;simp only at h;split at h;cases h;split at h;cases h;split at h;cases h;omega
def qW {k:FloatKind} {b:Nat} (h:(k.format.read b).isNaN=true):(k.format.read (Op.negFloat k b)).isNaN=true:=by
 have h1:=wQ h;have e2:k.format.signWeight=2^(k.format.exponentBits+k.format.fractionBits):=by rfl
 have key:Op.negFloat k b%k.format.signWeight=b%k.format.signWeight:=by
  unfold Op.negFloat;apply Nat.eq_of_testBit_eq
  grind
 exact Sz (by omega) (by cases k<;>decide)
def xJ (k:FloatKind) (x y t:Nat):(k.format.read ((Question.nanBits k x y).cut t)).isNaN=true:=by
 cases k
 .have e1:FloatKind.f32.format.infRung=2139095040:=(by decide);have e2:FloatKind.f32.format.signWeight=2147483648:=(by decide);have e3:FloatKind.f32.format.binade=8388608:=(by decide);have e4:(Question.nanBits .f32 x y).cut t=(t%2)*2147483648+2139095040+1+(t/2)%8388607:=rfl
  grind [Sz]
 .have e1:FloatKind.f64.format.infRung=9218868437227405312:=(by decide);have e2:FloatKind.f64.format.signWeight=9223372036854775808:=(by decide);have e3:FloatKind.f64.format.binade=4503599627370496:=(by decide);have e4:(Question.nanBits .f64 x y).cut t=(t%2)*9223372036854775808+9218868437227405312+1+(t/2)%4503599627370495:=rfl
  grind [Sz]
def sH_ {k:FloatKind} {a b:Option Nat} {m n:Nat} (ha:I5 k a m) (hb:I5 k b n):
  DJ k a b=k.format.order m n:=by
 cases a with
 |none=>exact (ah ha n).symm
 |some a=>
  cases b with
  |none=>exact (gE hb m).symm
  |some b=>grind [I5,DJ]
def S0 {k:FloatKind} {m n:Nat} (h:(k.format.read m).isNaN=true\/(k.format.read n).isNaN=true):
  k.format.add m n=none/\k.format.sub m n=none/\k.format.mul m n=none/\k.format.div m n=none:=by
 unfold Ieee.Format.add Ieee.Format.sub Ieee.Format.mul Ieee.Format.div;generalize k.format.read m=x at*;generalize k.format.read n=y at*;rcases h with h|h
 .cases x<;>simp [Ieee.Datum.isNaN]at h
  cases y<;>refine ⟨?_,?_,?_,?_⟩<;>rfl
 .cases y<;>simp [Ieee.Datum.isNaN]at h
  cases x<;>refine ⟨?_,?_,?_,?_⟩<;>rfl
def UU (hr:Ao B pr E H w) {k:FloatKind} {f:Nat->Nat->Option Nat} {a b:Option Nat} {m n:Nat} (ha:I5 k a m)
  (hb:I5 k b n) (hf:(k.format.read m).isNaN=true\/(k.format.read n).isNaN=true->f m n=none):
  Gives P B pr E w (match f m n with|some r=>pure (.float k r)|none=>do pure (.float k (←choose (.nanBits k m n)))) (HN k (EA f a b),H):=by
 have key:EA f a b=f m n:=by
  cases a with
  |none=>exact (hf (.inl ha)).symm
  |some a=>
   cases b with
   |none=>exact (hf (.inr hb)).symm
   |some b=>grind [I5,EA]
 rw [key];cases hfm:f m n with
 |some r=>exact Gives.still hr rfl (by rfl)
 |none=>refine ⟨E,.float k ((Question.nanBits k m n).cut (w.tape w.drawn (.nanBits k m n))),{ w with drawn:=w.drawn+1 },?_,Ag.le_refl _,hr.drawn _,?_⟩;rfl;exact ⟨_,rfl,xJ k m n _⟩
def Gives.eqv {s s':Sem Value} {r:AV×AHeap} (h:Gives P B pr E w s r) (e:s'.run P w=s.run P w):Gives P B pr E w s' r:=by
 grind [Go.Sx.Gives]
def qk (hr:Ao B pr E H w) {op:BinOp} {t:TypeId} {k:FloatKind} {a b:Option Nat} {m n:Nat} (ha:I5 k a m)
  (hb:I5 k b n) {r:AV} (h:Wh op k a b=some r):Gives P B pr E w (binOp op t (.float k m) (.float k n)) (r,H):=by
 have ho:=sH_ ha hb;cases op<;>simp only [Wh,A2,reduceCtorEq]at h<;>subst h
 case add=>exact (UU hr (f:=k.format.add) ha hb λh=>(S0 h).1).eqv (by grind [binOp,Op.floatArith])
 case sub=>exact (UU hr (f:=k.format.sub) ha hb λh=>(S0 h).2.1).eqv (by grind [binOp,Op.floatArith])
 case mul=>exact (UU hr (f:=k.format.mul) ha hb λh=>(S0 h).2.2.1).eqv (by grind [binOp,Op.floatArith])
 case quo=>exact (UU hr (f:=k.format.div) ha hb λh=>(S0 h).2.2.2).eqv (by grind [binOp,Op.floatArith])
 all_goals
  rw [ho];exact Gives.still hr (by simp [binOp,Op.floatCmp];rfl) (by rfl)
theorem yG (hr:Ao B pr E H w) {op:BinOp} {t:TypeId} {ox oy:Operand} {x y:AV} {u v:Value} (hx:Ac E x u) (hy:Ac E y v) {r:AV} (h:Dk P op t (FE ox) (FE oy) x y=some r):
  Gives P B pr E w (do eqGuard op t ox oy u v;binOp op t u v) (r,H):=by
 unfold Dk at h;split at h
 .rename_i k a k' b;subst hx hy;have hg:=ai (P:=P) (w:=w) (op:=op) (t:=t) (ox:=ox) (oy:=oy) (u:=.int k a) (v:=.int k' b) trivial;have h2':∀r,OL P op k a k' b=some r->Gives P B pr E w (do eqGuard op t ox oy (.int k a) (.int k' b);binOp op t (.int k a) (.int k' b)) (r,H):=by
   intro r h;unfold OL at h;split at h
   .rename_i v hv;cases h;refine Gives.still hr (v:=v) ?_ (JR E v);have e:binOp op t (.int k a) (.int k' b)=binOp op 0 (.int k a) (.int k' b):=by cases op<;>rfl
    grind [Sem.run_bind,Result.andThen_ok,Kr]
   cases h
  unfold JM at h;split at h
  .rename_i hk;have hk:=pK hk;subst hk;split at h
   .rename_i r' hi;obtain ⟨v,h1,h2⟩:=vL (P:=P) hi t w E
    grind [Gives.still,Sem.run_bind,Result.andThen_ok]
   grind
  grind
 .rename_i a b;subst hx hy;have hg:=ai (P:=P) (w:=w) (op:=op) (t:=t) (ox:=ox) (oy:=oy) (u:=.string ⟨⟨a⟩⟩) (v:=.string ⟨⟨b⟩⟩) trivial;split at h;cases h;refine Gives.still hr (v:=.bool (Hh a b)) ?_ (by simp [Ac]);simp_all [binOp_string_eql,Ki]
  cases h;refine Gives.still hr (v:=.bool (not (Hh a b))) ?_ (by simp [Ac]);simp_all [binOp_string_neq,Ki]
  .split at h
   .rename_i hlt;cases h;have hlt:GH a+GH b<9223372036854775807:=(by simp_all);rw [JN,JN]at hlt;refine Gives.still hr (v:=.string (⟨⟨a⟩⟩++⟨⟨b⟩⟩)) ?_ ?_
    .rw [binOp_string_add];have:¬((((ByteArray.mk ⟨a⟩).size+(ByteArray.mk ⟨b⟩).size:Nat):Int)>IntKind.i64.max):=by rw [cO,cO];have hm:IntKind.i64.max=9223372036854775807:=(by decide);omega
     simp_all [Op.stringOp]
    simp only [Ac,gn];rfl
   cases h
  cases h
 .split at h
  .grind [pK_]
  .split at h
   case h_2=>cases h
   rename_i k a hfa;split at h
   case h_2=>cases h
   rename_i k' b hfb;split at h
   case h_2=>cases h
   rename_i hk;have hk:=AR hk;subst hk;obtain ⟨m,rfl,ha⟩:=oS hx hfa;obtain ⟨n,rfl,hb⟩:=oS hy hfb;have hg:=ai (P:=P) (w:=w) (op:=op) (t:=t) (ox:=ox) (oy:=oy) (u:=.float k m) (v:=.float k n) trivial;refine (qk (t:=t) hr ha hb h).eqv ?_;simp_all
theorem qi (hr:Ao B pr E H w) {x:AV} {v:Value} (hx:Ac E x v) {xt asserted:TypeId} {ok:Bool} {r:AV} (h:Vo P x asserted ok=some r):
  Gives P B pr E w (Instr.typeAssert v xt asserted ok) (r,H):=by
 unfold Vo at h;split at h;cases h
 .rename_i d hni hd;split at h;cases h;rename_i i hi;split at h;cases h;rename_i z hz;have hzv:(zeroValue asserted).run P w=.ok z w:=(by simp [zeroValue,typeInfo,hi,hz]);cases x<;>simp only [reduceCtorEq]at h
  case nif=>
   subst hx;split at h;cases h;refine Gives.still hr (v:=.tuple #[z,.bool false]) ?_ (by exact ⟨[z,.bool false],rfl,Ah.cons (JR E z) (Ah.cons (by simp [Ac]) (Ah.nil E))⟩);simp only [Instr.typeAssert,Sem.run_bind,run_underlying hd,Result.andThen_ok];simp_all
   cases h
  case iface t a=>
   obtain ⟨u,rfl,hu⟩:=hx;split at h;rename_i hbt;cases h;have hbt:=za' hbt;subst hbt;refine Gives.still hr ?_ (NH hu ok true);simp only [Instr.typeAssert,Sem.run_bind,run_underlying hd,Result.andThen_ok];rfl
   .rename_i hbt;have hne:t≠asserted:=λe=>(by simp_all);split at h;cases h;refine Gives.still hr (v:=.tuple #[z,.bool false]) ?_ (by exact ⟨[z,.bool false],rfl,Ah.cons (JR E z) (Ah.cons (by simp [Ac]) (Ah.nil E))⟩);simp only [Instr.typeAssert,Sem.run_bind,run_underlying hd,Result.andThen_ok];simp_all
    cases h
 cases h
def Ao.new_imm (h:Ao B pr E H w) {arr:Array Value} {t:TypeId} {fr:Nat×Nat} {vs:List Value} (hv:∀(i:Nat) (v:Value),vs[i]? =some v->arr[i]? =some v):
  E.le { E with imm:=λb o=>if b=w.heap.size then vs[o]? else E.imm b o }/\Ao B pr { E with imm:=λb o=>if b=w.heap.size then vs[o]? else E.imm b o } H (w.alloc (.cells arr t fr)):=by
 have hne:∀b o v,E.imm b o=some v->b≠w.heap.size:=λb o v hi e=>by
  have:=h.imm b o v hi
  grind [World.cell?]
 have hle:E.le { E with imm:=λb o=>if b=w.heap.size then vs[o]? else E.imm b o }:=⟨⟨λ_ _ h=>h,λ_ _ h=>h,λb o v hi=>by
  grind,rfl,rfl⟩,rfl,rfl,rfl⟩
 refine ⟨hle,?_⟩;obtain ⟨own,g1,g2,g3⟩:=h.own;refine { own:=⟨λb=>if b=w.heap.size then none else own b,λid k hk=>?_,λb hb=>?_,λb o v hi=>?_⟩,imm:=λb o v hi=>?_,ib:=λb o v hb hi=>?_,fresh:=h.fresh,resv:=h.resv,vds:=h.vds,szs:=λb n hn=>?_,prot:=λb hb=>?_,size:=?_,os:=h.os,output:=h.output };refine (g1 id k hk).imp (λ_ h=>h) (λh=>h) λb o e1 e2 e3=>?_;have hlt:=e3.lt;have hb:b≠w.heap.size:=(by omega);exact ⟨(Ab hb).trans e2,e3.mono hle (Jc hb)⟩
 .grind
 .grind
 .have hi':(if b=w.heap.size then vs[o]? else E.imm b o)=some v:=hi;by_cases hb:b=w.heap.size
  .grind [World.cell?,S7]
  rw [Ab hb]at hi';exact Xd (h.imm b o v hi')
 have hlt:=Nat.lt_of_lt_of_le (h.prot b hb).1 h.size;have hi:(if b=w.heap.size then vs[o]? else E.imm b o)=some v:=hi;rw [Ab (by omega)]at hi;exact h.ib b o v hb hi
 .obtain ⟨arr',t',fr',e1,e2⟩:=h.szs b n hn
  grind [Jc]
 .obtain ⟨e1,e2⟩:=h.prot b hb
  grind [Jc]
 have:=h.size;simp;omega
theorem uA (hr:Ao B pr E H w) {src dst:TypeId} {x:AV} {v:Value} (hx:Ac E x v) {r:AV} (h:bc P src dst x=some r):Gives P B pr E w (convert src dst v) (r,H):=by
 unfold bc at h;split at h
 case h_2=>cases h
 rename_i l;split at h
 case h_2=>cases h
 rename_i hs;split at h
 case h_2=>cases h
 rename_i e hd;split at h
 case h_2=>cases h
 rename_i he;cases h;subst hx;obtain ⟨hle,hr'⟩:=(hr.drawn (w.drawn+1)).new_imm (arr:=bytesRow ⟨⟨l⟩⟩ (grownCap w (ByteArray.mk ⟨l⟩).size 0 e)) (t:=e) (fr:=((bytesRow ⟨⟨l⟩⟩ (grownCap w (ByteArray.mk ⟨l⟩).size 0 e)).size,(bytesRow ⟨⟨l⟩⟩ (grownCap w (ByteArray.mk ⟨l⟩).size 0 e)).size+1))
  (vs:=l.map λb=>Value.int .u8 b.toNat) λi v hv=>by
    grind [bytesRow]
 refine ⟨_,_,_,run_bytes_of_string w src dst e ⟨⟨l⟩⟩ hs hd he,hle,hr',?_⟩;refine ⟨w.heap.size,0,l.map λb=>Value.int .u8 b.toNat,grownCap w (ByteArray.mk ⟨l⟩).size 0 e,by rw [JN];rfl,by rw [JN];exact grownCap_ge ..,Yy _ l,λi v hv=>?_⟩
 grind
theorem zX (hr:Ao B pr E H w) {src dst:TypeId} {x:AV} {v:Value} (hx:Ac E x v) {r:AV} (h:GP P H src dst x=some r):Gives P B pr E w (convert src dst v) (r,H):=by
 unfold GP at h;split at h
 .rename_i r' h1;cases h;unfold Ob at h1;split at h1
  case h_2=>cases h1
  rename_i ds hs;split at h1
  case h_3=>cases h1
  .rename_i k hd;split at h1;rename_i j n;cases h1;subst hx;refine Gives.still hr (v:=.int k (k.wrap n)) ?_ (by rw [Iv,Km];simp [Ac]);simp only [convert,Sem.run_bind,run_underlying hs,run_underlying hd,Result.andThen_ok];rfl
   .split at h1
    case h_2=>cases h1
    rename_i n hn;split at h1
    case h_2=>cases h1
    cases h1;simp only [Ac]at hx;refine Gives.still hr (v:=.int k n) ?_ (by simp [Ac]);simp_all [Conv.floatToInt,convert,run_underlying]
   cases h1
  .rename_i k hd;split at h1
   case h_2=>cases h1
   rename_i j n;cases h1;subst hx;refine Gives.still hr (v:=.float k (k.nearest n)) ?_ (by simp [Ac]);simp only [convert,Sem.run_bind,run_underlying hs,run_underlying hd,Result.andThen_ok];rfl
 grind [ix_,uA]
def Ao.mark (h:Ao B pr E H w) {id:Nat} {k:AZ} (hk:H.get id=some k) {b o:Nat} (hφ:E.φ id=some (b,o)) {arr:Array Value} {t:TypeId} {fr0 fr:Nat×Nat} (hg:w.heap[b]? =some (.cells arr t fr0)) {o0:Nat} {vs:List Value}
  (hv:∀(i:Nat) (v:Value),vs[i]? =some v->arr[o0+i]? =some v) (hnv:¬C0 E k:=by exact λh=>h):
  E.le { E with imm:=λb' o'=>if b'=b then (if o0<=o' then vs[o'-o0]? else none)else E.imm b' o' }/\
  Ao B pr { E with imm:=λb' o'=>if b'=b then (if o0<=o' then vs[o'-o0]? else none)else E.imm b' o' } (H.erase id) { w with heap:=w.heap.setIfInBounds b (.cells arr t fr) }:=by
 obtain ⟨own,g1,g2,g3⟩:=h.own;obtain ⟨_,hvoid⟩|⟨b',o',hφ',hown,hb⟩:=g1 id _ hk
 .grind
 rw [hφ]at hφ';cases hφ';have hblt:=getElem?_lt_of_some hg;have hother:∀j,j≠b->(w.heap.setIfInBounds b (.cells arr t fr))[j]? =w.heap[j]? :=λj hj=>by
  grind
 have hsame:(w.heap.setIfInBounds b (.cells arr t fr))[b]? =some (.cells arr t fr):=by
  grind
 have hne:∀b' o v,E.imm b' o=some v->b'≠b:=λb' o v hi e=>by
  grind
 have hle:E.le { E with imm:=λb' o'=>if b'=b then (if o0<=o' then vs[o'-o0]? else none)else E.imm b' o' }:=⟨⟨λ_ _ h=>h,λ_ _ h=>h,λb' o' v hi=>by
  grind,rfl,rfl⟩,rfl,rfl,rfl⟩
 have hbn:∀b',pr b'->b'≠b:=λb' hp e=>by grind
 refine ⟨hle,?_⟩;refine { own:=⟨λb'=>if b'=b then none else own b',λid' k' hk'=>?_,λb' hb'=>?_,λb' o' v hi=>?_⟩,imm:=λb' o' v hi=>?_,ib:=λb' o' v hb' hi=>?_,fresh:=h.fresh,resv:=h.resv,vds:=h.vds,szs:=λb' n hn=>?_,prot:=λb' hb'=>?_,size:=by simpa using h.size,os:=h.os,output:=h.output };have hne':id≠id':=(by grind [AHeap.get_erase_same]);rw [AHeap.get_erase_ne H hne']at hk';refine (g1 id' k' hk').imp (λ_ h=>h) (λh=>h) λb2 o2 e1 e2 e3=>?_;have hb2:b2≠b:=(by grind);exact ⟨(Ab hb2).trans e2,e3.mono hle (hother b2 hb2)⟩
 .grind
 .grind
 .have hi':(if b'=b then (if o0<=o' then vs[o'-o0]? else none)else E.imm b' o')=some v:=hi;by_cases e:b'=b
  .grind [World.cell?]
  .rw [Ab e]at hi';have:=h.imm b' o' v hi'
   grind [World.cell?]
 have hi':(if b'=b then (if o0<=o' then vs[o'-o0]? else none)else E.imm b' o')=some v:=hi;rw [Ab (hbn b' hb')]at hi';exact h.ib b' o' v hb' hi'
 .obtain ⟨arr2,t2,fr2,e1,e2⟩:=h.szs b' n hn
  grind
 exact ⟨(h.prot b' hb').1,(hother b' (hbn b' hb')).trans (h.prot b' hb').2⟩
theorem vN {b off:Nat} {arr:Array Value} {t:TypeId} (hg:w.heap[b]? =some (.cells arr t (0,0))):(markStringish ⟨b,off,none⟩).run P w=.ok () { w with heap:=w.heap.setIfInBounds b (.cells arr t (arr.size,arr.size+1)) }:=by
 have hb:=getElem?_lt_of_some hg;have hs:w.shape? b=some (t,arr.size):=by simp [World.shape?,hg]
 have hf:w.freeze ⟨b,arr.size,none⟩ 1={ w with heap:=w.heap.setIfInBounds b (.cells arr t (arr.size,arr.size+1)) }:=by
  unfold World.freeze;rw [Ab (by decide)]
  congr 1
  grind
 simp [markStringish,hs,hf]
theorem yV (hr:Ao B pr E H w) {src dst:TypeId} {x:AV} {v:Value} (hx:Ac E x v) {r:AV×AHeap} (h:Xq P H src dst x=some r):Gives P B pr E w (convert src dst v) r:=by
 unfold Xq at h;split at h
 case h_2=>cases h
 rename_i id off len sz cap;split at h
 case h_1=>cases h
 rename_i n;split at h
 case h_2=>cases h
 rename_i hsb;split at h
 case h_2=>cases h
 rename_i l hl;cases h;obtain ⟨hz1,hs1⟩:=Aq hsb;unfold Xw at hs1;obtain ⟨hs2,hs3⟩:=Aq hs1;have e1:=za' hz1;have e2:=za' hs2;have hu:∃e,P.underlying src=some (.slice e)/\P.underlying e=some (.int .u8):=by
  grind [na]
 obtain ⟨e,hs,he⟩:=hu;subst e1 e2;obtain ⟨b,o,m,c,off',hφ,hsz,rfl,hoff,hle,hfit,_⟩:=hx;obtain rfl:=hoff (by omega);have hp:Ac E (.ptr id off') (.pointer (some ⟨b,o+off',none⟩)):=by simp only [Ac];grind
 obtain ⟨b2,o2,vs,e3,hlen,hL,hcell⟩:=Ll hr hp hl;cases e3;have hk:∃cs,H.get id=some (.cells cs):=by
  cases hg:H.get id with
  |none=>grind [Du]
  |some k=>cases k with
   |cells cs=>simp
   |map es c=>grind [Du]
   |syl j=>grind [Du]
   |fz cs=>grind [Du]
   |mpl j=>grind [Du]
 obtain ⟨cs,hk⟩:=hk;obtain ⟨arr,t,hg,_,_,_⟩:=hr.blk hk hφ;obtain ⟨hle',hr'⟩:=hr.mark (fr:=(arr.size,arr.size+1)) hk hφ hg (o0:=o+off') (vs:=vs) λi v hv=>by
  grind [World.cell?]
 refine ⟨_,.slice (some ⟨b,o+off',none⟩) (n+1) c,_,?_,hle',hr',?_⟩;simp [convert,run_underlying hs,run_underlying he,vN hg]
 .refine ⟨b,o+off',vs,c,rfl,hle,hL.mono hle',λi v hv=>?_⟩
  grind
theorem md_ (hr:Ao B pr E H w) {src dst:TypeId} {x:AV} {v:Value} (hx:Ac E x v) {r:AV×AHeap} (h:Ns P H src dst x=some r):Gives P B pr E w (convert src dst v) r:=by
 grind [Ns,zX,yV]
theorem k6_ (hr:Ao B pr E H w) {t:TypeId} {x i:AV} {v u:Value} (hx:Ac E x v) (hi:Ac E i u) {r:AV} (h:Ro P t x i=some r):Gives P B pr E w (Instr.index t v u) (r,H):=by
 unfold Ro at h;split at h
 case h_2=>cases h
 rename_i hd;split at h
 case h_2=>cases h
 rename_i s;split at h
 case h_2=>cases h
 rename_i k n;split at h
 case h_2=>cases h
 rename_i b hb;cases h;simp only [Ac]at hx hi;rw [eH]at hb;refine Gives.still hr (v:=.int .u8 b.toNat) ?_ (by simp [jH,Iv,Ac]);have h0:(0:Int)<=Int.ofNat n:=Int.natCast_nonneg n;have hlt:n<s.length:=by
  grind
 have hg:(ByteArray.mk ⟨s⟩)[n]? =some b:=by rw [ByteArray.getElem?_lt' _ _ (by exact hlt)];rw [List.getElem?_eq_getElem hlt]at hb;exact hb
 simp only [Instr.index,asIntOf,Sem.run_bind,Sem.run_pure,Result.andThen_ok,run_underlying hd,h0,if_true];simp_all
theorem rv {t:TypeId} (h:VV P t=true) (x:Value):(Instr.makeInterface t x).run P w=.ok (.iface t x) w:=by
 refine run_makeInterface w t x ?_;unfold VV at h;unfold Program.concrete
 grind
def DE {α:Type} {a:Array α} {l:List α} (h:a.toList=l):a=⟨l⟩:=by grind
def YT (hr:Ao B pr E H w) {ρ:Operand->AV} {σ:Operand->Value} (hσ:∀x,Ac E (ρ x) (σ x)) {o:Oper} {r:BJ} (h:BZ P ρ H o=some r):Bh P B pr E w (execOp σ o) r:=by
 unfold BZ at h;unfold execOp;split at h<;>rename_i hop<;>simp only [hop]
 case h_1 x=>cases h;exact ⟨E,_,σ x,w,rfl,.inl rfl,Ag.le_refl _,hr,hσ x⟩
 case h_2 x=>cases h;exact ⟨E,_,σ x,w,rfl,.inl rfl,Ag.le_refl _,hr,hσ x⟩
 case h_3 c a b=>
  have hc:=hσ c;split at h;rename_i hv;cases h;rw [hv]at hc;simp only [Ac]at hc;exact ⟨E,_,σ a,w,by simp [hc,asBool],.inl rfl,Ag.le_refl _,hr,hσ a⟩;rename_i hv;cases h;rw [hv]at hc;simp only [Ac]at hc;exact ⟨E,_,σ b,w,by simp [hc,asBool],.inl rfl,Ag.le_refl _,hr,hσ b⟩;cases h
 case h_4 t=>grind [Bh.oP,wL]
 case h_5 t x=>grind [Bh.oP,uz]
 case h_6 t parts=>
  refine Bh.oV h λa ha=>?_;obtain ⟨h1,h2⟩:=V0 hσ parts.toList;have e:(parts.map λp=>(p.1,σ p.2)).toList=parts.toList.map λp=>(p.1,σ p.2):=by simp
  grind [wT]
 case h_7 t n parts=>
  refine Bh.oP h λa ha=>?_;obtain ⟨h1,h2⟩:=V0 hσ parts.toList;have e:(parts.map λp=>(p.1,σ p.2)).toList=parts.toList.map λp=>(p.1,σ p.2):=by simp
  grind [vM]
 case h_8 t a=>grind [Bh.oV,nJ_]
 case h_9 t a x=>
  unfold oP at h;split at h
  .rename_i p hp;cases h;obtain ⟨w',h1,h2⟩:=mp hr (hσ a) (hσ x) hp;have h3:p.1=.tup []:=by
    unfold FU at hp;repeat' (split at hp<;>first|(cases hp;done)|skip)
    cases hp;rfl
   refine ⟨E,.skip,undef,w',by simp [h1],.inr ⟨rfl,rfl⟩,Ag.le_refl _,h2,?_⟩
   grind [Ac,undef,Ah]
  cases h
 case h_10 x=>
  have hx:=hσ x;split at h;rename_i id off hv;cases h;rw [hv]at hx;have hx0:=hx;obtain ⟨b,o,hφ,he⟩:=hx;exact ⟨E,_,σ x,w,by rw [he];rfl,.inl rfl,Ag.le_refl _,hr,hx0⟩;rename_i cs hv;cases h;rw [hv]at hx;have hx0:=hx;obtain ⟨b,o,vs,he,_⟩:=hx;exact ⟨E,_,σ x,w,by rw [he];rfl,.inl rfl,Ag.le_refl _,hr,hx0⟩;cases h
 case h_11 op t x y _=>grind [Bh.oV,yG]
 case h_12 s d x=>grind [Bh.oP,md_]
 case h_13 t x i=>grind [Bh.oV,k6_]
 case h_14 op _ x=>
  refine Bh.oV h λp hp=>?_;unfold QS at hp;have hx:=hσ x;split at hp;split at hp;rename_i b hv;cases hp;rw [hv]at hx;rw [hx];exact Gives.still hr (v:=.bool (!b)) rfl (by simp [Ac]);cases hp;split at hp;rename_i k n hv;cases hp;rw [hv]at hx;rw [hx];exact Gives.still hr (v:=.int k (k.wrap (0-n))) rfl (by rw [Iv,Km];simp [Ac]);rename_i k b hv;cases hp;rw [hv]at hx;rw [hx];exact Gives.still hr (v:=.float k (Op.negFloat k b)) rfl (by simp [Ac]);rename_i k hv;cases hp;rw [hv]at hx;obtain ⟨b,h1,h2⟩:=hx;rw [h1];exact Gives.still hr (v:=.float k (Op.negFloat k b)) rfl (by exact ⟨_,rfl,qW h2⟩);cases hp;cases hp
 case h_15 t x=>
  split at h
  .rename_i hc;cases h;refine ⟨E,_,.iface t (σ x),w,by simp_all [rv],.inl rfl,Ag.le_refl _,hr,?_⟩;simp only [Ac]
   grind
  cases h
 case h_16 fn first captured=>
  split at h;rename_i f;split at h;rename_i hf;cases h;have hf:=DE hf;subst hf;refine ⟨E,_,.func (.func f) #[] (captured.map σ),w,by simp [Instr.makeFunc],.inl rfl,Ag.le_refl _,hr,?_⟩;refine ⟨captured.toList.map σ,by cases captured;simp,Sd hσ _⟩;cases h;cases h
 case h_17 t r'=>
  grind [Bh.oP,zt]
 case h_18 t l c=>grind [Bh.oP,cK]
 case h_19 t x lo hi mx=>
  split at h;exact Bh.oV h λp hp=>ZD hr (hσ x) (gf hσ lo) (gf hσ hi) hp;cases h
 case h_20 s x f=>grind [Bh.oV,jm]
 case h_21 s x f=>grind [Bh.oV,tZ]
 case h_22 t x ix=>grind [Bh.oV,YQ]
 case h_23 t x ix ok=>grind [Bh.oV,d5]
 case h_24 t m k x=>
  unfold oP at h;split at h
  .rename_i p hp;cases h;obtain ⟨w',h1,h2,h3⟩:=Tl hr (hσ m) (hσ k) (hσ x) hp;refine ⟨E,.skip,undef,w',by simp [h1],.inr ⟨rfl,rfl⟩,Ag.le_refl _,h2,?_⟩
   grind [Ac,undef,Ah]
  cases h
 case h_25 t m k x=>
  unfold oP at h;split at h
  .rename_i p hp;cases h;obtain ⟨w',h1,h2,h3⟩:=Tl hr (hσ m) (hσ k) (hσ x) hp;refine ⟨E,.skip,undef,w',by simp [h1],.inr ⟨rfl,rfl⟩,Ag.le_refl _,h2,?_⟩
   grind [Ac,undef,Ah]
  cases h
 case h_26 x _ asserted ok=>grind [Bh.oV,qi]
 case h_27 t ix=>grind [Bh.oV,zm]
 case h_28 c=>
  obtain ⟨callee,ag,argTypes⟩:=c;unfold JD at h;simp only at h;split at h
  .rename_i f;have hf:=hσ f;split at h
   .rename_i g cap hv;split at h;cases h;rw [hv]at hf;obtain ⟨cs,he,hcs⟩:=hf;refine ⟨ag.toList.map σ++cs,?_,by rw [bd];exact (Sd hσ _).append hcs⟩;simp_all [resolve,Deferred.ofValue,invoke,bp]
    cases h
   cases h
  .split at h
   .split at h
    .rename_i x t h1 h2;have h1:=DE h1;have h2:=DE h2
     grind [resolve,invoke,builtin,Bh.oV,rm]
    cases h
   .split at h
    .rename_i s x t tx h1 h2;have h1:=DE h1;have h2:=DE h2
     grind [resolve,invoke,builtin,Bh.oP,k0_]
    cases h
   .split at h
    .rename_i d s t tx h1 h2;have h1:=DE h1;have h2:=DE h2
     grind [resolve,invoke,builtin,Bh.oP,nH_]
    cases h
   all_goals grind [Bh,resolve,Sem.run_pure,invoke,builtin]
  cases h
 case h_29 c=>
  obtain ⟨callee,ag,argTypes⟩:=c;unfold WP at h;simp only at h;split at h
  .rename_i f;have hf:=hσ f;split at h
   .rename_i g hv;split at h
    .rename_i hcall;cases h;rw [hv]at hf;obtain ⟨cs,he,rfl⟩:=hf;refine ⟨ag.toList.map σ,?_,Sd hσ _,hcall⟩;simp [resolve,he,Deferred.ofValue]
     grind
    cases h
   cases h
  cases h
 case h_30 x=>
  have hx:=hσ x;split at h;rename_i t a hv;cases h;rw [hv]at hx;have hx0:=hx;obtain ⟨u,he,_⟩:=hx;simp_all [Instr.panic,Bh]
  cases h
 grind
end
mutual
def BP:AV->Bool
 | .ptr _ _=>false
 | .sl _ _ _ _ _=>false
 | .map _=>false
 | .slx _ _ _=>false
 | .ptx _ _ _ _=>false
 | .sym i=>Nat.blt i 64
 | .vptr cs=>Gh cs
 | .vsl _ _ cs=>Gh cs
 | .fn _ cs=>Gh cs
 | .iface _ a=>BP a
 | .agg cs=>Gh cs
 | .tup cs=>Gh cs
 |_=>true
def Gh:List AV->Bool
 |[]=>true
 |a::r=>match BP a with
  |true=>Gh r
  |false=>false
end
class Gl where
 gl:Nat->AV
 ov:FuncId->List AV->AHeap->Option AV
 nr:∀g,BP (gl g)=true
 gt:(Nat->Option AV)->Prop
 gtm:∀s s':Nat->Option AV,(∀i,i<64->s' i=s i)->gt s->gt s'
 gto:∀s:Nat->Option AV,gt s->∀i a,i<64->s i=some a->a.one=true
variable [Gl]
abbrev Tm:=Q8 (Q8 (Q8 AV))
open Q8 (AtC atc UpC upc)
structure tF where
 f:Tm->AV
def DD (k:Nat):tF:=match atc (Q8 (Q8 AV)) (Nat.div k 64)with
 | .mk f=>match atc (Q8 AV) (Nat.mod (Nat.div k 8) 8)with
   | .mk g=>match atc AV (Nat.mod k 8)with
     | .mk h=>.mk λT=>h (g (f T))
structure rC where
 f:Tm->AV->Tm
def QP (k:Nat):rC:=match upc (Q8 (Q8 AV)) (Nat.div k 64)with
 | .mk f=>match upc (Q8 AV) (Nat.mod (Nat.div k 8) 8)with
   | .mk g=>match upc AV (Nat.mod k 8)with
     | .mk h=>.mk λT x=>f T λq=>g q λr=>h r λ_=>x
def B4:Tm:=Q8.all (Q8.all (Q8.all (.tup [])))
def An (T:Tm) (t:Nat):AV:=(DD t).f T
def Ea (T:Tm) (t:Nat) (a:AV):Tm:=(QP t).f T a
inductive PC where
 |bad
 |mk (u:Tm->AV->Tm)
def CP (N:Nat) (dst:Option Nat):PC:=match dst with
 |none=>.mk λT _=>T
 |some d=>match Nat.blt d N&&Nat.blt d 512 with
  |true=>.mk (QP d).f
  |false=>.bad
structure Arg where
 f:Tm->AV
def BA:Operand->Arg
 | .tmp t=>match Nat.blt t 512 with
   |true=>match DD t with
    | .mk f=>.mk f
   |false=>.mk λ_=>.tup []
 | .const v=>.mk λ_=>Gc v
 | .global g=>.mk λ_=>Gl.gl g
 | .func f=>.mk λ_=>.fn f []
def look (T:Tm) (x:Operand):AV:=(BA x).f T
inductive bH where
 |mk (f:Tm->List AV)
def LO:List Operand->bH
 |[]=>.mk λ_=>[]
 |x::r=>match BA x with
  | .mk f=>match LO r with
    | .mk g=>.mk λT=>f T::g T
inductive Sk where
 |mk (f:Tm->List (Nat×AV))
def Oy:List (Nat×Operand)->Sk
 |[]=>.mk λ_=>[]
 |(i,x)::r=>match BA x with
  | .mk f=>match Oy r with
    | .mk g=>.mk λT=>(i,f T)::g T
abbrev Bg:=List (FuncId×List AV)
inductive A3 where
 |norm (T:Tm) (H:AHeap) (D:Bg)
 |exit (id:Nat) (T:Tm) (H:AHeap) (D:Bg)
 |ret (T:Tm) (H:AHeap) (D:Bg)
 |pan (v:AV) (T:Tm) (H:AHeap) (D:Bg)
inductive A1 where
 |ret (v:AV) (H:AHeap)
 |pan (v:AV) (H:AHeap)
abbrev AG:=FuncId->List AV->AHeap->Option A1
def Mz:List Oper->Nat->Option Oper
 |[],_=>none
 |o::_,0=>some o
 |_::r,n+1=>Mz r n
inductive GC where
 |always
 |mk (f:Tm->Option Bool)
def Ei (v:AV) (want:Bool):Option Bool:=match v with
 | .bool b=>match want with
   |true=>some b
   |false=>some (not b)
 | .tup l=>match l with
   |[]=>some false
   |_=>none
 |_=>none
def Dy (Ae:List Oper) (o:Oper):GC:=match o.guard with
 |none=>.always
 |some (j,want)=>match Mz Ae j with
  |some oj=>match oj.dst with
   |some d=>match Nat.blt d 512 with
    |true=>match DD d with
     | .mk f=>.mk λT=>Ei (f T) want
    |false=>.mk λ_=>some false
   |none=>.mk λ_=>some false
  |none=>.mk λ_=>some false
inductive OC where
 |pv (f:Tm->AV)
 |po (f:Tm->Option AV)
 |ho (f:Tm->AHeap->Option AV)
 |hm (f:Tm->AHeap->Option (AV×AHeap))
 |cl (f:Tm->Option (FuncId×List AV))
 |df (f:Tm->Option (FuncId×List AV))
 |pn (f:Tm->Option AV)
 |rc
 |no
def cM (H:AHeap) (a:AV) (n:Nat):Option AV:=match Du H a n with
 |some l=>some (.agg l)
 |none=>none
def Dd:Nat->List AV->Option AV
 |_,[]=>none
 |0,a::_=>some a
 |n+1,_::r=>Dd n r
def dX (H:AHeap) (a:AV):Option AV:=match a with
 | .ptr id off=>match H.get id with
   |some (.cells cs)=>Dd off cs
   |_=>none
 | .vptr cs=>Dd 0 cs
 |_=>none
def je (off:Nat) (a:AV):Option AV:=match a with
 | .ptr id o=>some (.ptr id (Nat.add o off))
 | .vptr cs=>match Nat.ble off cs.length with
   |true=>some (.vptr (Bj off cs))
   |false=>none
 |_=>none
def jF (size:Nat) (x ix:AV):Option AV:=match ix with
 | .int _ i=>match x with
   | .sl id off len _ _=>match idx i len with
     |some n=>some (.ptr id (Nat.add off (Nat.mul n size)))
     |none=>none
   | .vsl len _ cs=>match idx i len with
     |some n=>some (.vptr (Bj (Nat.mul n size) cs))
     |none=>none
   |_=>none
 |_=>none
def Ie (g:IntKind->Int->Int->AV) (els:AV->AV->Option AV) (x y:AV):Option AV:=match x with
 | .int k a=>match y with
   | .int k' b=>match Nat.beq (FB k) (FB k')with
     |true=>some (g k a b)
     |false=>els x y
   |_=>els x y
 |_=>els x y
def ND (P:Program) (ρ:Operand->AV) (o:Oper):Option AV:=match Ox P ρ ⟨AD,0,0⟩ o with
 |some (.val a _)=>some a
 |_=>none
def Tv (P:Program) (T:Tm) (o:Oper) (r:Option AV):Option AV:=match r with
 |some a=>some a
 |none=>ND P (look T) o
def ph (P:Program) (op:BinOp) (t:TypeId) (cx cy:Bool):AV->AV->Option AV:=match op with
 | .add=>Ie (λk a b=>Gy k (IZ k (Int.add a b))) (λx y=>Dk P .add t cx cy x y)
 | .sub=>Ie (λk a b=>Gy k (IZ k (Int.sub a b))) (λx y=>Dk P .sub t cx cy x y)
 | .mul=>Ie (λk a b=>Gy k (IZ k (Int.mul a b))) (λx y=>Dk P .mul t cx cy x y)
 | .eql=>Ie (λk a b=>.bool (I7 a b)) (λx y=>Dk P .eql t cx cy x y)
 | .neq=>Ie (λk a b=>.bool (not (I7 a b))) (λx y=>Dk P .neq t cx cy x y)
 | .lss=>Ie (λk a b=>.bool (J2 a b)) (λx y=>Dk P .lss t cx cy x y)
 | .leq=>Ie (λk a b=>.bool (not (J2 b a))) (λx y=>Dk P .leq t cx cy x y)
 | .gtr=>Ie (λk a b=>.bool (J2 b a)) (λx y=>Dk P .gtr t cx cy x y)
 | .geq=>Ie (λk a b=>.bool (not (J2 a b))) (λx y=>Dk P .geq t cx cy x y)
 |op=>λx y=>Dk P op t cx cy x y
structure BC where
 f:AV->AV->Option AV
def vS_ (P:Program) (op:BinOp) (t:TypeId) (x y:Operand):OC:=.po λT=>(BC.mk (ph P op t (FE x) (FE y))).f ((BA x).f T) ((BA y).f T)
def S4 (c a b:AV):Option AV:=match c with
 | .bool t=>match t with
   |true=>some a
   |false=>some b
 |_=>none
def bB (a:AV):Option AV:=match a with
 | .ptr id off=>some (.ptr id off)
 | .vptr cs=>some (.vptr cs)
 |_=>none
def TZ (P:Program) (f:AV) (ag:List AV):Option (FuncId×List AV):=match f with
 | .fn g cap=>match Je P g with
   |true=>some (g,IL ag cap)
   |false=>none
 |_=>none
def bg (P:Program) (f:AV) (ag:List AV):Option (FuncId×List AV):=match f with
 | .fn g cap=>match cap with
   |[]=>match Je P g with
    |true=>some (g,ag)
    |false=>none
   |_=>none
 |_=>none
def pC (v:AV):Option AV:=match v with
 | .iface t a=>some (.iface t a)
 |_=>none
def oU (P:Program) (o:Oper) (c:Call):OC:=match c.callee with
 | .value f=>match LO c.args.toList with
   | .mk g=>match f with
     | .func id=>match Je P id with
       |true=>.cl λT=>some (id,g T)
       |false=>.po λT=>ND P (look T) o
     |x=>match BA x with
      | .mk h=>.cl λT=>TZ P (h T) (g T)
 | .builtin b=>match b with
   | .len=>match c.args.toList,c.argTypes.toList with
     |[x],[t]=>match BA x with
      | .mk f=>.ho λT H=>EG P H t (f T)
     |_,_=>.no
   | .append=>match c.args.toList,c.argTypes.toList with
     |[s,x],[t,tx]=>match BA s with
      | .mk f=>match BA x with
        | .mk g=>.hm λT H=>UR P H t tx (f T) (g T)
     |_,_=>.no
   | .copy=>match c.args.toList,c.argTypes.toList with
     |[d,s],[t,_]=>match BA d with
      | .mk f=>match BA s with
        | .mk g=>.hm λT H=>TB P H t (f T) (g T)
     |_,_=>.no
   | .recover=>match c.args.toList with
     |[]=>.rc
     |_=>.no
   |_=>.po λT=>ND P (look T) o
 |_=>.no
def A0 (P:Program) (o:Oper):OC:=match o.op with
 | .move x=>match BA x with
   | .mk f=>.pv f
 | .assign x=>match BA x with
   | .mk f=>.pv f
 | .pick c a b=>match BA c with
   | .mk f=>match BA a with
     | .mk g=>match BA b with
       | .mk h=>.po λT=>S4 (f T) (g T) (h T)
 | .alloc t=>.hm λ_ H=>NA P H t
 | .box _ x=>match BA x with
   | .mk f=>.hm λT H=>P0 H (f T)
 | .build t parts=>match Oy parts.toList with
   | .mk f=>.po λT=>Ur P t (f T)
 | .buildSlice t n parts=>match Oy parts.toList with
   | .mk f=>.hm λT H=>Me P H t n (f T)
 | .load t a=>match BA a with
   | .mk f=>match P.underlying t with
     |none=>.no
     |some d=>match IG d with
      |true=>match P.info? t with
       |none=>.no
       |some i=>.ho λT H=>cM H (f T) i.size
      |false=>.ho λT H=>dX H (f T)
 | .store t a x=>match BA a with
   | .mk f=>match BA x with
     | .mk g=>.hm λT H=>FU P H t (f T) (g T)
 | .nilCheck x=>match BA x with
   | .mk f=>.po λT=>bB (f T)
 | .binOp op t x y _=>vS_ P op t x y
 | .unOp op _ x=>match BA x with
   | .mk f=>.po λT=>Tv P T o (QS op (f T))
 | .convert s d x=>match BA x with
   | .mk f=>match Xw P s d with
     |true=>.hm λT H=>Ns P H s d (f T)
     |false=>.ho λT H=>match GP P H s d (f T)with
      |some a=>some a
      |none=>ND P (look T) o
 | .index t x i=>match BA x with
   | .mk f=>match BA i with
     | .mk g=>.po λT=>Tv P T o (Ro P t (f T) (g T))
 | .makeInterface t x=>match VV P t with
   |true=>match BA x with
    | .mk f=>.pv λT=>.iface t (f T)
   |false=>.no
 | .makeFunc fn first captured=>match fn with
   | .func f=>match first.toList with
     |[]=>match LO captured.toList with
      | .mk g=>.pv λT=>.fn f (g T)
     |_=>.no
   |_=>.no
 | .makeMap t r=>match r with
   |none=>.hm λ_ H=>SF P H t
   |some _=>.no
 | .makeSlice t l c=>match BA l with
   | .mk f=>match BA c with
     | .mk g=>.hm λT H=>Pf P H t (f T) (g T)
 | .slice t x lo hi mx=>match mx with
   |none=>match BA x with
    | .mk f=>match lo with
      |none=>match hi with
       |none=>.ho λT H=>EQ P H t (f T) none none
       |some hi=>match BA hi with
        | .mk h=>.ho λT H=>EQ P H t (f T) none (some (h T))
      |some lo=>match BA lo with
       | .mk g=>match hi with
         |none=>.ho λT H=>EQ P H t (f T) (some (g T)) none
         |some hi=>match BA hi with
          | .mk h=>.ho λT H=>EQ P H t (f T) (some (g T)) (some (h T))
   |some _=>.no
 | .fieldAddr s x f=>match P.underlying s with
   |some (.struct fields)=>match fields[f]? with
    |some fl=>match P.info? fl.type with
     |some i=>match i.size with
      |0=>.no
      |_+1=>match BA x with
       | .mk g=>.po λT=>je fl.offset (g T)
     |none=>.no
    |none=>.no
   |_=>.no
 | .field s x f=>match BA x with
   | .mk g=>.po λT=>Se P s (g T) f
 | .indexAddr t x ix=>match BA x with
   | .mk f=>match BA ix with
     | .mk g=>match P.underlying t with
       |some (.slice e)=>match P.info? e with
        |some ti=>.po λT=>jF ti.size (f T) (g T)
        |none=>.no
       |_=>.po λT=>Hn P t (f T) (g T)
 | .lookup t x ix ok=>match BA x with
   | .mk f=>match BA ix with
     | .mk g=>.ho λT H=>EU P H t (f T) (g T) ok
 | .mapUpdate t m k x=>match BA m with
   | .mk f=>match BA k with
     | .mk g=>match BA x with
       | .mk h=>.hm λT H=>IA P H t (f T) (g T) (h T)
 | .insert t m k x=>match BA m with
   | .mk f=>match BA k with
     | .mk g=>match BA x with
       | .mk h=>.hm λT H=>IA P H t (f T) (g T) (h T)
 | .typeAssert x _ asserted ok=>match BA x with
   | .mk f=>.po λT=>Vo P (f T) asserted ok
 | .extract t ix=>match BA t with
   | .mk f=>.po λT=>Ta (f T) ix
 | .call c=>oU P o c
 | .defer c=>match c.callee with
   | .value x=>match BA x with
     | .mk f=>match LO c.args.toList with
       | .mk g=>.df λT=>bg P (f T) (g T)
   |_=>.no
 | .panic x=>match BA x with
   | .mk f=>.pn λT=>pC (f T)
 |_=>.no
def OC.run (c:OC) (T:Tm) (H:AHeap):Option BJ:=match c with
 | .pv f=>some (.val (f T) H)
 | .po f=>match f T with
   |some a=>some (.val a H)
   |none=>none
 | .ho f=>match f T H with
   |some a=>some (.val a H)
   |none=>none
 | .hm f=>match f T H with
   |some (a,H')=>some (.val a H')
   |none=>none
 | .cl f=>match f T with
   |some (g,ag)=>some (.call g ag)
   |none=>none
 | .df f=>match f T with
   |some (g,ag)=>some (.dfr g ag)
   |none=>none
 | .pn f=>match f T with
   |some v=>some (.pan v)
   |none=>none
 | .rc=>some .rcv
 | .no=>none
abbrev Cn:=Option A1
abbrev Kn:=Tm->AHeap->Bg->Cn
structure LC where
 f:AG->Tm->AHeap->Bg->Kn->(A3->Cn)->Cn
def Sp (r:Option AV) (k:AV->Cn):Cn:=Option.casesOn r none k
def dO (r:Option (AV×AHeap)) (k:AV->AHeap->Cn):Cn:=Option.casesOn r none λp=>Prod.casesOn p k
def W1 (r:Option (FuncId×List AV)) (k:FuncId->List AV->Cn):Cn:=Option.casesOn r none λp=>Prod.casesOn p k
def WJ (r:Option A1) (k:AV->AHeap->Cn) (x:AV->AHeap->Cn):Cn:=Option.casesOn r none λp=>A1.casesOn p k x
def Wd (c:OC) (u:Tm->AV->Tm) (k:LC):LC:=match c with
 | .pv f=>⟨λcall T H D K X=>k.f call (u T (f T)) H D K X⟩
 | .po f=>⟨λcall T H D K X=>Sp (f T) λa=>k.f call (u T a) H D K X⟩
 | .ho f=>⟨λcall T H D K X=>Sp (f T H) λa=>k.f call (u T a) H D K X⟩
 | .hm f=>⟨λcall T H D K X=>dO (f T H) λa H'=>k.f call (u T a) H' D K X⟩
 | .cl f=>⟨λcall T H D K X=>W1 (f T) λg ag=>WJ (call g ag H) (λa H'=>k.f call (u T a) H' D K X) (λv H'=>X (.pan v T H' D))⟩
 | .df f=>⟨λcall T H D K X=>W1 (f T) λg ag=>k.f call (u T (.tup [])) H ((g,ag)::D) K X⟩
 | .pn f=>⟨λcall T H D K X=>Sp (f T) λv=>X (.pan v T H D)⟩
 | .rc=>⟨λ_ _ _ _ _ _=>none⟩
 | .no=>⟨λ_ _ _ _ _ _=>none⟩
def OX (P:Program) (N:Nat) (all:List Oper):List Oper->LC
 |[]=>⟨λ_ T H D K _=>K T H D⟩
 |o::r=>match CP N o.dst with
  | .bad=>⟨λ_ _ _ _ _ _=>none⟩
  | .mk u=>match Dy all o with
    | .always=>Wd (A0 P o) u (OX P N all r)
    | .mk g=>⟨λcall T H D K X=>match g T with
       |some t=>match t with
        |true=>(Wd (A0 P o) u (OX P N all r)).f call T H D K X
        |false=>(OX P N all r).f call (u T (.tup [])) H D K X
       |none=>none⟩
inductive Kd where
 |pure|read|mem|wr
def EV:Op->Kd
 | .load _ _| .lookup _ _ _ _| .slice _ _ _ _ _| .convert _ _ _=>.read
 | .alloc _| .box _ _| .buildSlice _ _ _| .makeSlice _ _ _| .makeMap _ _=>.mem
 | .store _ _ _| .mapUpdate _ _ _ _| .insert _ _ _ _| .panic _| .defer _=>.wr
 | .call c=>match c.callee with
   | .builtin b=>match b with
     | .len=>.read
     | .max| .min=>.pure
     |_=>.wr
   |_=>.wr
 | .move _| .assign _| .pick _ _ _| .build _ _| .nilCheck _| .binOp _ _ _ _ _| .unOp _ _ _| .fieldAddr _ _ _| .field _ _ _| .indexAddr _ _ _| .index _ _ _
 | .makeInterface _ _| .makeFunc _ _ _| .typeAssert _ _ _ _| .extract _ _=>.pure
 |_=>.wr
structure SI where
 o:Oper
 bef:Nat
 kd:Kd
 lo:Nat
 hi:Nat
 rd:List Nat
 fz:Bool
def Kj (e:Edge):Bool:=match e.ground with
 | .textOnly _=>false
 | .gcOnly _=>false
 |_=>true
def Oh:List Nat->Nat->Nat
 |[],_=>0
 |a::_,0=>a
 |_::r,n+1=>Oh r n
def Hm (bs:List Nat):List Edge->Nat
 |[]=>0
 |e::r=>match Kj e with
  |true=>Nat.lor (Nat.lor (Nat.pow 2 e.on) (Oh bs e.on)) (Hm bs r)
  |false=>Hm bs r
def Ra:List Oper->List Nat->List Nat
 |[],bs=>bs
 |o::r,bs=>Ra r (bs++[Hm bs o.after.toList])
def AO (m i:Nat):Bool:=match Nat.land (Nat.shiftRight m i) 1 with
 |0=>false
 |_=>true
def BX:Kd->Bool
 | .wr=>true
 |_=>false
def KI (b:Nat):List Oper->Nat->Nat
 |[],_=>0
 |o::r,k=>match BX (EV o.op)&&AO b k with
  |true=>Nat.succ (KI b r (Nat.succ k))
  |false=>KI b r (Nat.succ k)
def Ln (i:Nat):List Oper->List Nat->Nat
 |o::r,b::bs=>match BX (EV o.op)with
  |true=>match AO b i with
   |true=>0
   |false=>Nat.succ (Ln i r bs)
  |false=>Ln i r bs
 |_,_=>0
def Bx (t:Nat):List Nat->Bool
 |[]=>false
 |a::r=>match Nat.beq a t with
  |true=>true
  |false=>Bx t r
def Jx:List Operand->List Nat
 |[]=>[]
 | .tmp t::r=>t::Jx r
 |_::r=>Jx r
def JF (Ae:List Oper) (o:Oper):List Nat:=match o.guard with
 |none=>Jx o.op.operands.toList
 |some (j,_)=>match Mz Ae j with
  |some oj=>match oj.dst with
   |some d=>d::Jx o.op.operands.toList
   |none=>Jx o.op.operands.toList
  |none=>Jx o.op.operands.toList
def fB:Op->Option (List Operand)
 | .call c=>match c.callee with
   | .builtin b=>match b with
     | .append=>some c.args.toList
     |_=>none
   |_=>none
 |_=>none
def RP (d:Nat):List Oper->Bool
 |[]=>false
 |o::r=>(match fB o.op with
  |some l=>match l with
   |[_,x]=>match x with
    | .tmp t=>Nat.beq t d
    |_=>false
   |_=>false
  |none=>false)||RP d r
def PO (i b:Nat):List Oper->List Nat->Nat->Bool
 |o::r,c::s,j=>(match fB o.op with
  |some _=>not (AO b j)&&not (AO c i)
  |none=>false)||PO i b r s (Nat.succ j)
 |_,_,_=>false
def bj (Ae:List Oper) (bs:List Nat) (b i:Nat) (o:Oper):Bool:=match o.op with
 | .buildSlice _ _ _=>match o.dst with
   |some d=>RP d Ae&&PO i b Ae bs 0
   |none=>false
 |_=>false
def JB (Ae:List Oper) (bs:List Nat):List Oper->List Nat->Nat->List SI
 |o::r,b::c,i=>⟨o,b,EV o.op,KI b Ae 0,Ln i Ae bs,JF Ae o,bj Ae bs b i o⟩::JB Ae bs r c (Nat.succ i)
 |_,_,_=>[]
def KE (x y:SI):Bool:=match x.o.dst with
 |some d=>match y.o.dst with
  |some e=>Nat.beq d e||(Bx d y.rd||Bx e x.rd)
  |none=>Bx d y.rd
 |none=>match y.o.dst with
  |some e=>Bx e x.rd
  |none=>false
def Tz (x:SI) (i:Nat) (y:SI):Bool:=match KE x y||(BX x.kd&&BX y.kd)with
 |true=>AO y.bef i
 |false=>true
def W5 (x:SI) (i:Nat):List SI->Bool
 |[]=>true
 |y::r=>Tz x i y&&W5 x i r
def X9:List SI->Nat->Bool
 |[],_=>true
 |x::r,i=>W5 x i r&&X9 r (Nat.succ i)
def Pa:List Edge->Nat->Bool
 |[],_=>true
 |e::r,i=>match Kj e with
  |true=>Nat.blt e.on i&&Pa r i
  |false=>Pa r i
def bi:List Oper->Nat->Bool
 |[],_=>true
 |o::r,i=>Pa o.after.toList i&&bi r (Nat.succ i)
def Fp:List SI->Nat
 |[]=>0
 |x::r=>match x.kd with
  | .mem=>Nat.succ (Fp r)
  |_=>Fp r
inductive aF where
 |no
 |mk (l:List SI) (n:Nat)
def M1 (Ae:List Oper):aF:=
 match bi Ae 0 with
 |true=>
  match Ra Ae []with
  |bs=>match JB Ae bs Ae bs 0 with
   |l=>match X9 l 0 with
    |true=>.mk l (Fp l)
    |false=>.no
 |false=>.no
structure Fl where
 op:Nat
 id:Nat
 b:AZ
def IE (bef:Nat):List Fl->AHeap->AHeap
 |[],H=>H
 |f::r,H=>match AO bef f.op with
  |true=>IE bef r (H.set f.id f.b)
  |false=>IE bef r H
def LQ (bef:Nat):List Fl->List Fl
 |[]=>[]
 |f::r=>match AO bef f.op with
  |true=>LQ bef r
  |false=>f::LQ bef r
def Mr:List Fl->AHeap->AHeap
 |[],H=>H
 |f::r,H=>Mr r (H.set f.id f.b)
def UN:List AHeap->Nat->Option AHeap
 |[],_=>none
 |a::_,0=>some a
 |_::r,n+1=>UN r n
mutual
def CI:AV->AV->Bool
 | .bool a,.bool b=>a==b
 | .int k a,.int k' b=>Nat.beq (FB k) (FB k')&&I7 a b
 | .flt k a,.flt k' b=>decide (k=k')&&Nat.beq a b
 | .nan k,.nan k'=>decide (k=k')
 | .str a,.str b=>Hh a b
 | .nptr,.nptr=>true
 | .vptr a,.vptr b=>El a b
 | .vsl a b c,.vsl a' b' c'=>Nat.beq a a'&&Nat.beq b b'&&El c c'
 | .ptr a b,.ptr c d=>Nat.beq a c&&Nat.beq b d
 | .nsl,.nsl=>true
 | .sl a b c d e,.sl a' b' c' d' e'=>Nat.beq a a'&&Nat.beq b b'&&Nat.beq c c'&&Nat.beq d d'&&(e==e')
 | .nmap,.nmap=>true
 | .map a,.map b=>Nat.beq a b
 | .nfn,.nfn=>true
 | .fn f a,.fn g b=>Nat.beq f g&&El a b
 | .nif,.nif=>true
 | .iface t a,.iface u b=>Nat.beq t u&&CI a b
 | .agg a,.agg b=>El a b
 | .tup a,.tup b=>El a b
 | .sym i,.sym j=>Nat.beq i j
 | .slx i a b,.slx j c d=>Nat.beq i j&&(Nat.beq a c&&Nat.beq b d)
 | .ptx i a b c,.ptx j d e f=>Nat.beq i j&&(Nat.beq a d&&(Nat.beq b e&&Nat.beq c f))
 |_,_=>false
def El:List AV->List AV->Bool
 |[],[]=>true
 |a::r,b::s=>CI a b&&El r s
 |_,_=>false
end
def Ev (c:OC) (T:Tm) (H:AHeap):Option AV:=match c with
 | .pv f=>some (f T)
 | .po f=>f T
 | .ho f=>f T H
 |_=>none
def Vr (c:OC) (T:Tm) (a:AV):Nat->List AHeap->Bool
 |0,_=>true
 |_+1,[]=>true
 |n+1,H::r=>match Ev c T H with
  |some a'=>CI a a'&&Vr c T a n r
  |none=>false
def AK:Tm:=Q8.all (Q8.all (Q8.all .opq))
def BO (T:Tm):List Nat->Tm->Tm
 |[],R=>R
 |t::r,R=>match Nat.blt t 512 with
  |true=>BO T r (Ea R t (An T t))
  |false=>BO T r R
structure Rd where
 T:Tm
 o:Oper
 a:AV
 lo:Nat
 hi:Nat
def Tg:Nat->List AHeap->List AHeap
 |0,l=>l
 |_+1,[]=>[]
 |n+1,_::r=>Tg n r
def TG (P:Program) (Gs:List AHeap):List Rd->Bool
 |[]=>true
 |x::r=>Vr (A0 P x.o) x.T x.a (Nat.sub x.hi x.lo) (Tg (Nat.succ x.lo) Gs)&&TG P Gs r
def Un (N:Nat):List SI->Tm->Option Tm
 |[],T=>some T
 |x::r,T=>match CP N x.o.dst with
  | .mk u=>Un N r (u T .opq)
  | .bad=>none
structure DS where
 T:Tm
 Gs:List AHeap
 fl:List Fl
 rd:List Rd
 dead:Option (Nat×AV×AHeap)
def MF:List AHeap->Option AHeap
 |[]=>none
 |a::r=>match r with
  |[]=>some a
  |_=>MF r
def O1:List AHeap->AHeap->List AHeap
 |[],x=>[x]
 |a::r,x=>a::O1 r x
def rK (d:Option (Nat×AV×AHeap)) (bef:Nat):Bool:=match d with
 |none=>false
 |some (i,_)=>AO bef i
def Ot:List SI->Nat->Nat->Bool
 |[],_,_=>true
 |y::r,i,j=>match BX y.kd&&AO y.bef j with
  |true=>match AO y.bef i with
   |true=>Ot r i j
   |false=>false
  |false=>Ot r i j
def Pq (c:OC) (R:Tm) (bef:Nat) (rest:List SI) (i:Nat):List Fl->Option AV
 |[]=>none
 |f::r=>match AO bef f.op&&Ot rest i f.op with
  |true=>match Ev c R ((⟨AD,0,0⟩:AHeap).set f.id f.b)with
   |some a=>some a
   |none=>Pq c R bef rest i r
  |false=>Pq c R bef rest i r
def ce (P:Program) (call:AG) (u:Tm->AV->Tm) (x:SI) (rest:List SI) (i:Nat) (id:Nat) (R:Tm) (s:DS):Option DS:=match x.kd with
 | .pure=>match Ev (A0 P x.o) R ⟨AD,0,0⟩with
   |some a=>some ⟨u s.T a,s.Gs,s.fl,s.rd,s.dead⟩
   |none=>none
 | .read=>match UN s.Gs x.lo with
   |none=>none
   |some G=>match Ev (A0 P x.o) R G with
    |some a=>some ⟨u s.T a,s.Gs,s.fl,⟨R,x.o,a,x.lo,x.hi⟩::s.rd,s.dead⟩
    |none=>match Pq (A0 P x.o) R x.bef rest i s.fl with
     |some a=>some ⟨u s.T a,s.Gs,s.fl,s.rd,s.dead⟩
     |none=>none
 | .mem=>match (A0 P x.o).run R ⟨AD,id,Nat.succ id⟩with
   |some (.val a H')=>match H'.get id with
    |some b=>some ⟨u s.T a,s.Gs,⟨i,id,b⟩::s.fl,s.rd,s.dead⟩
    |none=>none
   |_=>none
 | .wr=>match s.dead with
   |some _=>none
   |none=>match MF s.Gs with
    |none=>none
    |some G=>match (A0 P x.o).run R (IE x.bef s.fl G)with
     |some (.val a H')=>some ⟨u s.T a,O1 s.Gs H',LQ x.bef s.fl,s.rd,s.dead⟩
     |some (.call f ag)=>match call f ag (IE x.bef s.fl G)with
      |some (.ret a H')=>some ⟨u s.T a,O1 s.Gs H',LQ x.bef s.fl,s.rd,s.dead⟩
      |some (.pan v H')=>some ⟨s.T,s.Gs,s.fl,s.rd,some (i,v,H')⟩
      |none=>none
     |some (.pan v)=>some ⟨s.T,s.Gs,s.fl,s.rd,some (i,v,IE x.bef s.fl G)⟩
     |_=>none
def WU (u:Tm->AV->Tm) (x:SI) (s:DS):Option DS:=match x.kd with
 | .wr=>match s.dead with
   |some _=>none
   |none=>match MF s.Gs with
    |none=>none
    |some G=>some ⟨u s.T (.tup []),O1 s.Gs G,s.fl,s.rd,s.dead⟩
 |_=>some ⟨u s.T (.tup []),s.Gs,s.fl,s.rd,s.dead⟩
def CT (all:List Oper) (x:SI) (R:Tm):Option Bool:=match Dy all x.o with
 | .always=>some true
 | .mk g=>g R
def PE (P:Program) (call:AG) (N:Nat) (all:List Oper) (x:SI) (rest:List SI) (i:Nat) (id:Nat) (s:DS):Option DS:=
 match rK s.dead x.bef with
 |true=>some s
 |false=>match CP N x.o.dst with
  | .bad=>none
  | .mk u=>match CT all x (BO s.T x.rd AK)with
    |none=>none
    |some t=>match t with
     |true=>ce P call u x rest i id (BO s.T x.rd AK) s
     |false=>WU u x s
def Kx (P:Program) (call:AG) (N:Nat) (all:List Oper):List SI->Nat->Nat->DS->Option DS
 |[],_,_,s=>some s
 |x::r,i,id,s=>match PE P call N all x r i id s with
  |none=>none
  |some s'=>match x.kd with
   | .mem=>Kx P call N all r (Nat.succ i) (Nat.succ id) s'
   |_=>Kx P call N all r (Nat.succ i) id s'
def Nk (P:Program) (call:AG) (N:Nat) (Ae:List Oper) (T:Tm) (H:AHeap) (D:Bg):Option A3:=match M1 Ae with
 | .no=>none
 | .mk l n=>match Nat.ble (Nat.add H.next n) H.hi with
   |false=>none
   |true=>match Kx P call N Ae l 0 (Nat.sub H.hi n) ⟨T,[⟨H.tr,H.next,Nat.sub H.hi n⟩],[],[],none⟩with
    |none=>none
    |some s=>match TG P s.Gs s.rd with
     |false=>none
     |true=>match s.dead with
      |some (_,v,H')=>match Un N l T with
       |some T'=>some (.pan v T' H' D)
       |none=>none
      |none=>match MF s.Gs with
       |some G=>some (.norm s.T (Mr s.fl G) D)
       |none=>none
structure CC where
 f:AG->Nat->Tm->AHeap->Bg->Kn->(A3->Cn)->Cn
def H7 (b:Tm->AHeap->Bg->Kn->(A3->Cn)->Cn):Nat->Tm->AHeap->Bg->(A3->Cn)->Cn
 |0,_,_,_,_=>none
 |n+1,T,H,D,X=>b T H D (λT' H' D'=>H7 b n T' H' D' X) X
def lM (id:Nat) (K:Kn) (X:A3->Cn) (r:A3):Cn:=match r with
 | .exit id' T H D=>match Nat.beq id' id with
   |true=>K T H D
   |false=>X r
 |_=>X r
def ol (r:Option A3) (K:Kn) (X:A3->Cn):Cn:=match r with
 |none=>none
 |some r=>match r with
  | .norm T H D=>K T H D
  |_=>X r
def dp (v:AV) (a b:Cn):Cn:=match v with
 | .bool t=>match t with
   |true=>a
   |false=>b
 |_=>none
def F4 (P:Program) (N:Nat):Code->CC
 | .skip=>⟨λ_ _ T H D K _=>K T H D⟩
 | .region _ Ae draw=>match draw with
   |false=>⟨λcall _ T H D K X=>(OX P N Ae.toList Ae.toList).f call T H D K X⟩
   |true=>⟨λcall _ T H D K X=>ol (Nk P call N Ae.toList T H D) K X⟩
 | .seq a b=>⟨λcall n T H D K X=>(F4 P N a).f call n T H D (λT H D=>(F4 P N b).f call n T H D K X) X⟩
 | .cond c a b=>⟨λcall n T H D K X=>dp ((BA c).f T) ((F4 P N a).f call n T H D K X) ((F4 P N b).f call n T H D K X)⟩
 | .block id b=>⟨λcall n T H D K X=>(F4 P N b).f call n T H D K (lM id K X)⟩
 | .loop b=>⟨λcall n T H D _ X=>H7 (λT H D K X=>(F4 P N b).f call n T H D K X) n T H D X⟩
 | .exit id=>⟨λ_ _ T H D _ X=>X (.exit id T H D)⟩
 | .label _=>⟨λ_ _ T H D K _=>K T H D⟩
 | .ret=>⟨λ_ _ T H D _ X=>X (.ret T H D)⟩
 |_=>⟨λ_ _ _ _ _ _ _=>none⟩
def Dc:List AV->Nat->Tm->Tm
 |[],_,T=>T
 |a::r,i,T=>Dc r (Nat.succ i) (Ea T i a)
def G9 (P:Program) (T:Tm) (H:AHeap):List ResultVar->Option (List AV)
 |[]=>some []
 | .tmp t::r=>match Nat.blt t 512 with
   |true=>match G9 P T H r with
    |some l=>some (An T t::l)
    |none=>none
   |false=>none
 | .cell a t::r=>match Nat.blt a 512 with
   |true=>match Dj P H t (An T a)with
    |some v=>match G9 P T H r with
     |some l=>some (v::l)
     |none=>none
    |none=>none
   |false=>none
def nb (l:List AV):AV:=match l with
 |[]=>.tup []
 |a::r=>match r with
  |[]=>a
  |_=>.tup l
inductive GL where
 |norm (T:Tm) (H:AHeap) (u:Option AV)
 |ret (T:Tm) (H:AHeap) (u:Option AV)
def Jz (P:Program) (call:AG) (N:Nat) (all:List Oper):List Oper->Tm->AHeap->Option AV->Option GL
 |[],T,H,u=>some (.norm T H u)
 |o::r,T,H,u=>match CP N o.dst with
  | .bad=>none
  | .mk p=>match (match Dy all o with
      | .always=>some true
      | .mk g=>g T)with
    |none=>none
    |some false=>Jz P call N all r (p T (.tup [])) H u
    |some true=>match (A0 P o).run T H with
     |none=>none
     |some (.val a H')=>Jz P call N all r (p T a) H' u
     |some (.call f ag)=>match call f ag H with
      |some (.ret a H')=>Jz P call N all r (p T a) H' u
      |_=>none
     |some .rcv=>match u with
      |some v=>Jz P call N all r (p T v) H none
      |none=>Jz P call N all r (p T .nif) H none
     |_=>none
def ER (P:Program) (call:AG) (N:Nat) (n:Nat):Code->Tm->AHeap->Option AV->Option GL
 | .seq a b,T,H,u=>match ER P call N n a T H u with
   |some (.norm T' H' u')=>ER P call N n b T' H' u'
   |r=>r
 | .cond c a b,T,H,u=>match look T c with
   | .bool true=>ER P call N n a T H u
   | .bool false=>ER P call N n b T H u
   |_=>none
 | .region id Ae draw,T,H,u=>match draw with
   |false=>Jz P call N Ae.toList Ae.toList T H u
   |true=>match Nk P call N Ae.toList T H []with
    |some (.norm T' H' [])=>some (.norm T' H' u)
    |_=>none
 | .block _ b,T,H,u=>ER P call N n b T H u
 | .skip,T,H,u=>some (.norm T H u)
 | .ret,T,H,u=>some (.ret T H u)
 |_,_,_,_=>none
def YU (P:Program) (call:AG) (n:Nat) (f:FuncId) (ag:List AV) (H:AHeap) (u:Option AV):Option (AHeap×Option AV):=match P.funcs[f]? with
 |some fn=>match fn.body with
  |some c=>match Nat.ble (Bp ag) fn.ntmps&&Nat.ble fn.ntmps 512 with
   |true=>match ER P call fn.ntmps n c (Dc ag 0 B4) H u with
    |some (.norm T' H' u')=>match G9 P T' H' fn.results.toList with
     |some _=>some (H',u')
     |none=>none
    |some (.ret T' H' u')=>match G9 P T' H' fn.results.toList with
     |some _=>some (H',u')
     |none=>none
    |none=>none
   |false=>none
  |none=>none
 |none=>none
def H8 (P:Program) (call:AG) (n:Nat) (rs:List ResultVar) (T:Tm):Bg->AHeap->Option AV->Option A1
 |[],H,u=>match u with
  |none=>match G9 P T H rs with
   |some l=>some (.ret (nb l) H)
   |none=>none
  |some v=>some (.pan v H)
 |(f,ag)::D,H,u=>match YU P call n f ag H u with
  |some (H',u')=>H8 P call n rs T D H' u'
  |none=>none
inductive FC where
 |no
 |mk (N:Nat) (c:CC) (rs:List ResultVar)
def pP (P:Program) (f:FuncId):FC:=match P.funcs[f]? with
 |some fn=>match fn.body with
  |some c=>match Nat.ble fn.ntmps 512 with
   |true=>.mk fn.ntmps (F4 P fn.ntmps c) fn.results.toList
   |false=>.no
  |none=>.no
 |none=>.no
def t8_ (P:Program) (call:AG) (n:Nat) (rs:List ResultVar) (r:A3):Cn:=match r with
 | .norm T H D=>H8 P call n rs T D H none
 | .ret T H D=>H8 P call n rs T D H none
 | .pan v T H D=>H8 P call n rs T D H (some v)
 | .exit _ _ _ _=>none
def YD (P:Program) (call:AG) (n:Nat) (f:FuncId) (ag:List AV) (H:AHeap):Option A1:=match pP P f with
 | .mk N c rs=>match Nat.ble (Bp ag) N with
   |true=>c.f call n (Dc ag 0 B4) H [] (λT H D=>H8 P call n rs T D H none) (t8_ P call n rs)
   |false=>none
 | .no=>none
def CO (P:Program):Nat->AG
 |0=>λ_ _ _=>none
 |n+1=>λf ag H=>match Gl.ov f ag H with
  |some v=>some (.ret v H)
  |none=>YD P (CO P n) n f ag H
def H0:AHeap:=⟨AD,0,A8⟩
end Go.Sx
namespace Go.Sx
variable [Gl]
open Q8 (AtC atc UpC upc)
section
omit [Gl]
theorem OJ (T:Tm) (t:Nat):An T t=Q8.at8 (Nat.mod t 8) (Q8.at8 (Nat.mod (Nat.div t 8) 8) (Q8.at8 (Nat.div t 64) T)):=by
 grind [An,DD,Q8.at8]
theorem lD (T:Tm) (t:Nat) (a:AV):Ea T t a=Q8.up8 (Nat.div t 64) T λq=>Q8.up8 (Nat.mod (Nat.div t 8) 8) q λr=>Q8.up8 (Nat.mod t 8) r λ_=>a:=by simp_all [Ea,QP,Q8.up8]
theorem Gw (T:Tm) {t:Nat} (h:t<512) (a:AV):An (Ea T t a) t=a:=by
 have h2:Nat.div t 64<8:=by show t/64<8;omega
 grind [OJ,lD,Q8.at_up_same,R2]
theorem Fi (T:Tm) {t d:Nat} (h:t<512) (h':d<512) (hne:d≠t) (a:AV):An (Ea T d a) t=An T t:=by
 have h2:Nat.div t 64<8:=by show t/64<8;omega
 have h2':Nat.div d 64<8:=by show d/64<8;omega
 rw [OJ,lD,OJ];by_cases e2:Nat.div d 64=Nat.div t 64
 .rw [←e2,Q8.at_up_same _ h2'];by_cases e1:Nat.mod (Nat.div d 8) 8=Nat.mod (Nat.div t 8) 8
  .rw [←e1,Q8.at_up_same _ (Hj _ _)];by_cases e0:Nat.mod d 8=Nat.mod t 8;have e2:d/64=t/64:=e2;have e1:d/8%8=t/8%8:=e1;have e0:d%8=t%8:=e0;omega
   grind [Q8.at_up_ne,R2]
  grind [Q8.at_up_ne,Hj]
 grind [Q8.at_up_ne]
theorem xb (t:Nat):An B4 t=.tup []:=by
 grind [OJ,B4,Q8.at_all]
end
def BM (E:Ag):Prop:=(∀g:Nat,Ac E (Gl.gl g) (.pointer (some ⟨g,0,none⟩)))/\Gl.gt E.sy
def BM.sub {E E':Ag} (h:BM E) (hs:E.sub E'):BM E':=⟨λg=>(h.1 g).sub hs,by rw [hs.2.2.2.1];exact h.2⟩
structure Bc (E:Ag) (N:Nat) (T:Tm) (tmps:Array Value):Prop where
 size:tmps.size=N
 le:N<=512
 con:∀t,t<512->Ac E (An T t) (tmps.getD t undef)
 gl:BM E
theorem Bc.mono {E E':Ag} {N:Nat} {T:Tm} {tmps:Array Value} (h:Bc E N T tmps) (hl:E.le E'):Bc E' N T tmps:=⟨h.size,h.le,λt ht=>(h.con t ht).mono hl,h.gl.sub hl.1⟩
omit [Gl]in
theorem GQ (E:Ag):Ac E (.tup []) undef:=by simp [Ac,undef,Ah]
theorem Bc.look {E:Ag} {N:Nat} {T:Tm} {a:Act} (h:Bc E N T a.tmps) (x:Operand):Ac E (look T x) (a.eval x):=by
 unfold Sx.look BA;cases x with
 |tmp t=>
  simp only;split;rename_i hb;have hb:t<512:=(by simp_all);exact h.con t hb
  .rename_i hb;have hb:¬t<512:=λhlt=>by
    grind [zb']
   have:a.tmps.getD t undef=undef:=by
    have hs:=h.size;have hN:=h.le
    grind
   show Ac E (.tup []) (a.tmps.getD t undef)
   grind [GQ]
 |const v=>exact JR E v
 |global g=>exact h.gl.1 g
 |func f=>exact ⟨[],rfl,Ah.nil E⟩
theorem Bc.put {E:Ag} {N:Nat} {T:Tm} {a:Act} (h:Bc E N T a.tmps) {dst:Option Nat} {u:Tm->AV->Tm} (hu:CP N dst=.mk u) {x:AV} {v:Value} (hc:Ac E x v):
  Bc E N (u T x) (a.put dst v).tmps:=by
 unfold CP at hu;split at hu;cases hu;exact h
 .rename_i d;split at hu
  .rename_i hb;cases hu;obtain ⟨h1,h2⟩:=Aq hb;have h1:d<N:=(by simp_all);have h2:d<512:=(by simp_all);refine ⟨by simp [Act.put,h.size],h.le,λt ht=>?_,h.gl⟩;have hs:=h.size;by_cases e:d=t;have:An ((QP d).f T x) d=x:=Gw T h2 x;simp_all [Act.put]
   have:An ((QP d).f T x) t=An T t:=Fi T ht h2 e x;rw [this];have hv:(a.put (some d) v).tmps.getD t undef=a.tmps.getD t undef:=(by simp_all [Act.put]);rw [hv];exact h.con t ht
  cases hu
omit [Gl]in
theorem XK:∀(l:List Oper) (n:Nat),Mz l n=l[n]?
 |[],n=>by simp [Mz]
 |a::r,0=>rfl
 |a::r,n+1=>by simp [Mz,XK r n]
def mG (v:Value):Option Bool:=match v with
 | .bool b=>some b
 |_=>none
section
omit [Gl]
theorem lB (Ae:Array Oper) (tmps:Array Value) {j d:Nat} {oj:Oper} (hj:Ae[j]? =some oj) (hd:oj.dst=some d):yielded Ae tmps j=mG (tmps.getD d undef):=by
 unfold yielded;simp only [hj,Option.bind_some,hd];rcases Nat.lt_or_ge d tmps.size with hlt|hge
 .have e1:tmps[d]? =some tmps[d]:=(by simp [hlt]);have e2:tmps.getD d undef=tmps[d]:=(by simp_all);rw [e1,e2];generalize tmps[d]=v;cases v<;>rfl
 .have e1:tmps[d]? =none:=(by simp [hge]);have e2:tmps.getD d undef=undef:=by
   grind
  rw [e1,e2];rfl
def xP {E:Ag} {x:AV} {v:Value} (hc:Ac E x v) {want t:Bool} (h:Ei x want=some t):(mG v==some want)=t:=by
 unfold Ei at h;split at h
 .rename_i b;subst hc;cases want<;>cases b<;>simp at h<;>subst h<;>rfl
 split at h;cases h;obtain ⟨vs,rfl,rfl⟩:=hc;rfl;cases h;cases h
theorem TP {Ae:Array Oper} {o:Oper} (h:Dy Ae.toList o=.always) (tmps:Array Value):Region.wanted o (yielded Ae tmps)=true:=by
 grind [Dy,Region.wanted]
end
theorem P6 {E:Ag} {N:Nat} {T:Tm} {Ae:Array Oper} {o:Oper} {tmps:Array Value} (ht:Bc E N T tmps) {g:Tm->Option Bool} (h:Dy Ae.toList o=.mk g) {t:Bool} (hg:g T=some t):
  Region.wanted o (yielded Ae tmps)=t:=by
 unfold Dy at h;unfold Region.wanted;split at h;cases h
 .rename_i j want hgu;rw [hgu];simp only;rw [XK]at h;have hj:Ae.toList[j]? =Ae[j]? :=(by simp);rw [hj]at h;split at h
  .rename_i oj hoj;split at h
   .rename_i d hd;split at h
    .rename_i hb;cases h;have hb:d<512:=(by simp_all);have hc:=ht.con d hb;have:=xP hc (want:=want) (t:=t) hg
     grind [lB]
    .rename_i hb;cases h;cases hg;have hb:¬d<512:=λhlt=>by
      grind [zb']
     have hs:=ht.size;have hN:=ht.le;have hge:¬d<tmps.size:=Nat.not_lt.2 (Nat.le_trans (hs▸hN) (Nat.le_of_not_lt hb));have e2:tmps.getD d undef=undef:=(by grind);rw [lB Ae tmps hoj hd,e2];rfl
   grind [yielded]
  grind [yielded]
omit [Gl]in
theorem bZ:∀(off:Nat) (cs:List AV),(match CN 1 (Bj off cs)with|some [c]=>some c|_=>none)=Dd off cs
 |0,[]=>rfl
 |0,a::r=>rfl
 |n+1,[]=>rfl
 |n+1,a::r=>by simp only [Bj,Dd];exact bZ n r
def We (r:Option (List AV)):Option AV:=match r with
 |some [c]=>some c
 |_=>none
omit [Gl]in
theorem xe (H:AHeap) (a:AV):dX H a=We (Du H a 1):=by
 cases a<;>try rfl
 case vptr cs=>exact (bZ 0 cs).symm
 case ptr id off=>
  show (match H.get id with|some (.cells cs)=>Dd off cs|_=>none)=We (match H.get id with|some (.cells cs)=>CN 1 (Bj off cs)|_=>none);cases H.get id<;>grind [id,Dd,We,CN,Bj,bZ]
theorem VR (T:Tm):∀l:List Operand,(match LO l with| .mk g=>g T)=Jg (look T) l
 |[]=>rfl
 |x::r=>by
  have ih:=VR T r;unfold LO;cases ha:BA x with
  |mk f=>
   cases hr:LO r with
   |mk g=>
    rw [hr]at ih;simp only at ih⊢;rw [ih];simp only [Jg]
    congr 1
    unfold look;rw [ha]
theorem XQ (T:Tm):∀l:List (Nat×Operand),(match Oy l with| .mk g=>g T)=IW (look T) l
 |[]=>rfl
 |(i,x)::r=>by
  have ih:=XQ T r;unfold Oy;cases ha:BA x with
  |mk f=>
   cases hr:Oy r with
   |mk g=>
    rw [hr]at ih;simp only at ih⊢;rw [ih];simp only [IW]
    congr 2
    unfold look;rw [ha]
end Go.Sx
namespace Go.Sx
variable [Gl]
def Mw (P:Program) (T:Tm) (H:AHeap) (o:Oper) (r:BJ):Prop:=BZ P (look T) H o=some r\/Ox P (look T) H o=some r
omit [Gl]in
def TH {P:Program} {ρ:Operand->AV} {o:Oper} {a:AV} (h:ND P ρ o=some a) (H:AHeap):Ox P ρ H o=some (.val a H):=by
 grind [ND,Ox]
def cJ {P:Program} {T:Tm} {H:AHeap} {o:Oper} {x:Option AV} {a:AV} (h:Tv P T o x=some a) (hx:∀b,x=some b->BZ P (look T) H o=some (.val b H)):Mw P T H o (.val a H):=by unfold Tv at h;split at h;cases h;exact .inl (hx _ rfl);exact .inr (TH h H)
theorem Pu (T:Tm) (x:Operand):(BA x).f T=look T x:=rfl
section
variable {P:Program} {T:Tm} {H:AHeap}
section
omit [Gl]
def Ge {f:Tm->Option AV} {r:BJ} (h:(OC.po f).run T H=some r):∃a,f T=some a/\r=.val a H:=by
 unfold OC.run at h
 grind
def Nf {f:Tm->AHeap->Option AV} {r:BJ} (h:(OC.ho f).run T H=some r):∃a,f T H=some a/\r=.val a H:=by
 unfold OC.run at h
 grind
def HJ {f:Tm->AHeap->Option (AV×AHeap)} {r:BJ} (h:(OC.hm f).run T H=some r):∃p,f T H=some p/\r=.val p.1 p.2:=by
 unfold OC.run at h
 grind
def TO {f:Tm->Option (FuncId×List AV)} {r:BJ} (h:(OC.cl f).run T H=some r):∃p,f T=some p/\r=.call p.1 p.2:=by
 unfold OC.run at h
 grind
def vG {f:Tm->Option (FuncId×List AV)} {r:BJ} (h:(OC.df f).run T H=some r):∃p,f T=some p/\r=.dfr p.1 p.2:=by
 unfold OC.run at h
 grind
theorem Hz {x:Option AV} {a:AV} (h:x=some a):oV H x=some (.val a H):=by subst h;rfl
theorem Hi {x:Option (AV×AHeap)} {p:AV×AHeap} (h:x=some p):oP x=some (.val p.1 p.2):=by subst h;rfl
def rX {op:BinOp} {t:TypeId} {cx cy:Bool} {g:IntKind->Int->Int->AV} (hg:∀k a b,F2 op k a b=some (g k a b)) (x y:AV):
  Ie g (λx y=>Dk P op t cx cy x y) x y=Dk P op t cx cy x y:=by
 unfold Ie
 grind [Dk,JM]
theorem sv_ (op:BinOp) (t:TypeId) (cx cy:Bool) (x y:AV):ph P op t cx cy x y=Dk P op t cx cy x y:=by cases op<;>first|rfl|exact rX (λ_ _ _=>rfl) x y
end
def sK {o:Oper} {t:TypeId} {a:Operand} (ho:o.op=.load t a) {r:BJ} (h:(A0 P o).run T H=some r):Mw P T H o r:=by unfold A0 at h;rw [ho]at h;simp only at h;left;unfold BZ;rw [ho];simp only;unfold Dj;split at h;cases h;rename_i d hd;rw [hd];split at h;rename_i hag;split at h;cases h;rename_i i hi;obtain ⟨v,hv,rfl⟩:=Nf h;rw [hi];unfold cM at hv;rw [←Pu];split at hv;rename_i l hl;cases hv;simp only [hag,hl];rfl;cases hv;rename_i hag;obtain ⟨v,hv,rfl⟩:=Nf h;rw [xe]at hv;rw [←Pu];unfold We at hv;split at hv;rename_i c hc;cases hv;simp only [hag,hc];rfl;cases hv
def vW {o:Oper} {c:Call} (ho:o.op=.call c) {r:BJ} (h:(A0 P o).run T H=some r):Mw P T H o r:=by
 unfold A0 at h;rw [ho]at h;simp only at h;unfold oU at h;have hargs:=VR T c.args.toList;split at h
 .rename_i f hf;split at h;rename_i g hgl;rw [hgl]at hargs;have gen:∀p,TZ P (look T f) (g T)=some p->BZ P (look T) H o=some (.call p.1 p.2):=by
   grind [BZ,JD,TZ]
  cases f with
  |func id=>
   simp only at h;split at h
   .obtain ⟨p,hp,rfl⟩:=TO h;cases hp;left;refine gen (id,g T) ?_;have:look T (.func id)=.fn id []:=rfl
    grind [TZ,bd]
   obtain ⟨a,ha,rfl⟩:=Ge h;exact .inr (TH ha H)
  |tmp t=>obtain ⟨p,hp,rfl⟩:=TO h;exact .inl (gen p hp)
  |const v=>obtain ⟨p,hp,rfl⟩:=TO h;exact .inl (gen p hp)
  |global v=>obtain ⟨p,hp,rfl⟩:=TO h;exact .inl (gen p hp)
 .rename_i b hb;split at h;split at h;rename_i x t h1 h2;obtain ⟨a,ha,rfl⟩:=Nf h;left;unfold BZ JD;rw [ho];simp only [hb,h1,h2];exact Hz ha;cases h;split at h;rename_i s x t tx h1 h2;obtain ⟨p,hp,rfl⟩:=HJ h;left;unfold BZ JD;rw [ho];simp only [hb,h1,h2];exact Hi hp;cases h;split at h;rename_i d s t tx h1 h2;obtain ⟨p,hp,rfl⟩:=HJ h;left;unfold BZ JD;rw [ho];simp only [hb,h1,h2];exact Hi hp;cases h
  .split at h
   .cases h;left
    grind [BZ,JD]
   cases h
  obtain ⟨a,ha,rfl⟩:=Ge h;exact .inr (TH ha H)
 cases h
def rN {o:Oper} {t:TypeId} {x:Operand} {lo hi mx:Option Operand} (ho:o.op=.slice t x lo hi mx) {r:BJ} (h:(A0 P o).run T H=some r):Mw P T H o r:=by
 unfold A0 at h;rw [ho]at h;left;unfold BZ;rw [ho];cases mx with
 |some _=>cases h
 |none=>cases lo<;>cases hi<;>simp only at h<;>(obtain ⟨a,ha,rfl⟩:=Nf h;exact Hz ha)
def wM {o:Oper} {s:TypeId} {x:Operand} {f:Nat} (ho:o.op=.fieldAddr s x f) {r:BJ} (h:(A0 P o).run T H=some r):Mw P T H o r:=by unfold A0 at h;rw [ho]at h;simp only at h;left;unfold BZ GZ;rw [ho];simp only;split at h;rename_i fields hd;rw [hd];simp only;split at h;rename_i fl hfl;rw [hfl];simp only;split at h;rename_i i hi;rw [hi];simp only;split at h;cases h;rename_i n hn;rw [hn];obtain ⟨a,ha,rfl⟩:=Ge h;rw [Pu]at ha;unfold je at ha;split at ha;rename_i id o' hv;cases ha;rw [hv];rfl;rename_i cs hv;split at ha;rename_i hb;cases ha;rw [hv];simp only [hb];rfl;cases ha;cases ha;cases h;cases h;cases h
def p7 {o:Oper} {t:TypeId} {x ix:Operand} (ho:o.op=.indexAddr t x ix) {r:BJ} (h:(A0 P o).run T H=some r):Mw P T H o r:=by
 unfold A0 at h;rw [ho]at h;simp only at h;left;unfold BZ;rw [ho];split at h
 .rename_i e hd;split at h
  .obtain ⟨a,ha,rfl⟩:=Ge h;rw [Pu,Pu]at ha;refine Hz ?_;unfold Hn;unfold jF at ha
   grind
  cases h
 obtain ⟨a,ha,rfl⟩:=Ge h;exact Hz ha
def qc {o:Oper} {r:BJ} (h:(A0 P o).run T H=some r):Mw P T H o r:=by
 cases ho:o.op with
 |load t a=>exact sK ho h
 |call c=>exact vW ho h
 |slice t x lo hi mx=>exact rN ho h
 |fieldAddr s x f=>exact wM ho h
 |indexAddr t x ix=>exact p7 ho h
 |move x=>unfold A0 at h;rw [ho]at h;cases h;left;unfold BZ;rw [ho];rfl
 |assign x=>unfold A0 at h;rw [ho]at h;cases h;left;unfold BZ;rw [ho];rfl
 |pick c a b=>
  unfold A0 at h;rw [ho]at h;obtain ⟨v,hv,rfl⟩:=Ge h;left;unfold BZ;rw [ho];have hv:S4 (look T c) (look T a) (look T b)=some v:=hv;unfold S4 at hv
  grind
 |alloc t=>unfold A0 at h;rw [ho]at h;obtain ⟨p,hp,rfl⟩:=HJ h;left;grind [BZ,Hi]
 |box _ x=>unfold A0 at h;rw [ho]at h;obtain ⟨p,hp,rfl⟩:=HJ h;left;unfold BZ;rw [ho];exact Hi hp
 |build t parts=>unfold A0 at h;rw [ho]at h;obtain ⟨v,hv,rfl⟩:=Ge h;left;grind [BZ,XQ,Hz]
 |buildSlice t n parts=>unfold A0 at h;rw [ho]at h;obtain ⟨v,hv,rfl⟩:=HJ h;left;grind [BZ,XQ,Hi]
 |store t a x=>unfold A0 at h;rw [ho]at h;obtain ⟨p,hp,rfl⟩:=HJ h;left;unfold BZ;rw [ho];exact Hi hp
 |nilCheck x=>
  unfold A0 at h;rw [ho]at h;obtain ⟨v,hv,rfl⟩:=Ge h;left;unfold BZ;have hv:bB (look T x)=some v:=hv
  grind [bB]
 |binOp op t x y yt=>unfold A0 at h;rw [ho]at h;obtain ⟨v,hv,rfl⟩:=Ge h;left;grind [BZ,look,sv_,Hz]
 |unOp op t x=>unfold A0 at h;rw [ho]at h;obtain ⟨v,hv,rfl⟩:=Ge h;refine cJ hv λb hb=>?_;unfold BZ;rw [ho];exact Hz hb
 |convert s d x=>
  unfold A0 at h;rw [ho]at h;simp only at h;split at h;obtain ⟨v,hv,rfl⟩:=HJ h;left;unfold BZ;rw [ho];exact Hi hv
  .obtain ⟨v,hv,rfl⟩:=Nf h;split at hv;left;simp_all [BZ,Hi,Ns,look]
   exact .inr (TH hv H)
 |index t x i=>unfold A0 at h;rw [ho]at h;obtain ⟨v,hv,rfl⟩:=Ge h;refine cJ hv λb hb=>?_;unfold BZ;rw [ho];exact Hz hb
 |makeInterface t x=>unfold A0 at h;rw [ho]at h;simp only at h;split at h;rename_i hc;cases h;left;unfold BZ;rw [ho];simp only [hc];rfl;cases h
 |makeFunc fn first captured=>
  unfold A0 at h;rw [ho]at h;simp only at h;split at h
  .split at h
   .cases h;left;grind [BZ,VR]
   cases h
  cases h
 |makeMap t r'=>
  unfold A0 at h;rw [ho]at h;cases r' with
  |none=>obtain ⟨p,hp,rfl⟩:=HJ h;left;grind [BZ,Hi]
  |some _=>cases h
 |makeSlice t l c=>unfold A0 at h;rw [ho]at h;obtain ⟨p,hp,rfl⟩:=HJ h;left;unfold BZ;rw [ho];exact Hi hp
 |field s x f=>unfold A0 at h;rw [ho]at h;obtain ⟨p,hp,rfl⟩:=Ge h;left;unfold BZ;rw [ho];exact Hz hp
 |lookup t x ix ok=>unfold A0 at h;rw [ho]at h;obtain ⟨p,hp,rfl⟩:=Nf h;left;unfold BZ;rw [ho];exact Hz hp
 |mapUpdate t m k x=>unfold A0 at h;rw [ho]at h;obtain ⟨p,hp,rfl⟩:=HJ h;left;unfold BZ;rw [ho];exact Hi hp
 |insert t m k x=>unfold A0 at h;rw [ho]at h;obtain ⟨p,hp,rfl⟩:=HJ h;left;unfold BZ;rw [ho];exact Hi hp
 |typeAssert x xt asserted ok=>unfold A0 at h;rw [ho]at h;obtain ⟨p,hp,rfl⟩:=Ge h;left;unfold BZ;rw [ho];exact Hz hp
 |extract t ix=>unfold A0 at h;rw [ho]at h;obtain ⟨p,hp,rfl⟩:=Ge h;left;unfold BZ;rw [ho];exact Hz hp
 |defer c=>
  unfold A0 at h;rw [ho]at h;simp only at h;split at h
  .rename_i x hx;obtain ⟨p,hp,rfl⟩:=vG h;left;unfold BZ WP;have hp:bg P (look T x) (Jg (look T) c.args.toList)=some p:=by rw [←VR T c.args.toList];exact hp
   unfold bg at hp
   grind
  cases h
 |panic x=>unfold A0 at h;left;grind [BZ,OC.run,pC,look]
 |_=>unfold A0 at h;rw [ho]at h;cases h
end
end Go.Sx
namespace Go.Sx
variable [Gl]
def Ce (P:Program) (E:Ag):Bg->List Deferred->Prop
 |[],ds=>ds=[]
 |(f,ag)::D,ds=>∃vs r,ds={ target:=.fn (.func f) #[],args:=⟨vs⟩ }::r/\Ah E ag vs/\Je P f=true/\Ce P E D r
omit [Gl]in
theorem Ce.mono {P:Program} {E E':Ag} (h:E.le E'):∀{D:Bg} {ds:List Deferred},Ce P E D ds->Ce P E' D ds
 |[],ds,hd=>hd
 |(f,ag)::D,ds,hd=>by obtain ⟨vs,r,h1,h2,h3,h4⟩:=hd;exact ⟨vs,r,h1,h2.mono h,h3,h4.mono h⟩
structure St (P:Program) (B:World) (pr:Nat->Prop) (N:Nat) (E:Ag) (T:Tm) (H:AHeap) (D:Bg) (a:Act) (w:World):Prop where
 t:Bc E N T a.tmps
 r:Ao B pr E H w
 d:Ce P E D a.defers
def B6 (B:World) (pr:Nat->Prop) (E:Ag) (r:A1) (e:Ending) (w':World):Prop:=
 ∃E',E.le E'/\match r with
  | .ret v H'=>∃u,e=.returned u/\Ac E' v u/\Ao B pr E' H' w'
  | .pan v H'=>∃u,e=.panicked [{ v:=u,recovered:=false }]/\Ac E' v u/\Ao B pr E' H' w'
def Ci (P:Program) (call:AG):Prop:=
 ∀(f:FuncId) (ag:List AV) (H:AHeap) (r:A1),call f ag H=some r->∀(B:World) (pr:Nat->Prop) (E:Ag) (w:World) (vs:List Value),BM E->Ao B pr E H w->Ah E ag vs->
  Calls P f ⟨vs⟩ w (B6 B pr E r)
def BH (P:Program) (B:World) (pr:Nat->Prop) (N:Nat) (E:Ag) (r:A3) (e:Exit) (a:Act) (w:World):Prop:=
 ∃E',E.le E'/\match r with
  | .norm T H D=>e=.normal/\St P B pr N E' T H D a w
  | .exit id T H D=>e=.exit id/\St P B pr N E' T H D a w
  | .ret T H D=>e=.ret/\St P B pr N E' T H D a w
  | .pan v T H D=>∃u,e=.panic [{ v:=u,recovered:=false }]/\Ac E' v u/\St P B pr N E' T H D a w
def Si (K:Kn) (X:A3->Cn) (r:A3):Cn:=match r with
 | .norm T H D=>K T H D
 |r=>X r
section
variable {P:Program} {B:World} {pr:Nat->Prop} {N:Nat} {E:Ag}
theorem BH.le {E':Ag} (h:E.le E') {r:A3} {e:Exit} {a:Act} {w:World} (hq:BH P B pr N E' r e a w):BH P B pr N E r e a w:=by obtain ⟨E'',h1,h2⟩:=hq;exact ⟨E'',Ag.le_trans h h1,h2⟩
section
omit [Gl]
def Oper.wp_mono2 {o:Oper} {a:Act} {w:World} {K K':Act->World->Prop} {Q Q':Exit->Act->World->Prop} (h:∀a w,K a w->K' a w) (hq:∀e a w,Q e a w->Q' e a w)
  (hh:o.wp P a w K Q):o.wp P a w K' Q':=by
 unfold Oper.wp at*;generalize (execOp a.eval o).run P w=r at*;cases r with
 |ok n w'=>
  cases n<;>simp only [Oper.upon]at hh⊢<;>
   first|exact h _ _ hh|exact Calls.mono hh (λe w'' he=>by cases e<;>first|exact h _ _ he|exact hq _ _ _ he|exact he.imp λ_ hx=>hx.imp λ_ hy=>hq _ _ _ hy)|exact Rows.mono hh (λ_ _ he=>h _ _ he)
 |halt x w'=>cases x<;>simp only [Oper.upon]at hh⊢<;>first|exact hh|exact hq _ _ _ hh
def AU {Ae:Array Oper} {Q Q':Exit->Act->World->Prop} (hq:∀e a w,Q e a w->Q' e a w):∀(l:List Oper) (a:Act) (w:World),wpList P Ae Q l a w->wpList P Ae Q' l a w
 |[],a,w,h=>hq _ _ _ h
 |o::r,a,w,h=>by unfold wpList at h⊢;split;rename_i hw;rw [Ad hw]at h;refine h.imp (λh=>Oper.wp_mono2 (AU hq r) hq h) λh=>⟨h.1,?_⟩;obtain ⟨a',w',h'⟩:=h.2;exact ⟨a',w',hq _ _ _ h'⟩;rename_i hw;rw [Ab hw]at h;exact AU hq r _ _ h
def aX {r:Option AV} {k:AV->Cn} {res:A1} (h:Sp r k=some res):∃a,r=some a/\k a=some res:=by
 cases r with
 |none=>cases h
 |some a=>exact ⟨a,rfl,h⟩
def rC_ {r:Option (AV×AHeap)} {k:AV->AHeap->Cn} {res:A1} (h:dO r k=some res):∃p,r=some p/\k p.1 p.2=some res:=by
 cases r with
 |none=>cases h
 |some a=>exact ⟨a,rfl,h⟩
def iy {r:Option (FuncId×List AV)} {k:FuncId->List AV->Cn} {res:A1} (h:W1 r k=some res):∃p,r=some p/\k p.1 p.2=some res:=by
 cases r with
 |none=>cases h
 |some a=>exact ⟨a,rfl,h⟩
theorem wY {r:Option A1} {k x:AV->AHeap->Cn} {res:A1} (h:WJ r k x=some res):(∃a H,r=some (.ret a H)/\k a H=some res)\/∃a H,r=some (.pan a H)/\x a H=some res:=by
 cases r with
 |none=>cases h
 |some f=>cases f with
  |ret a H=>exact .inl ⟨a,H,rfl,h⟩
  |pan a H=>exact .inr ⟨a,H,rfl,h⟩
def yv {c:OC} {u:Tm->AV->Tm} {k:LC} {call:AG} {T:Tm} {H:AHeap} {D:Bg} {K:Kn} {X:A3->Cn} {res:A1} (h:(Wd c u k).f call T H D K X=some res):
  (∃x H',c.run T H=some (.val x H')/\k.f call (u T x) H' D K X=some res)\/
  (∃g ag,c.run T H=some (.call g ag)/\((∃x H',call g ag H=some (.ret x H')/\k.f call (u T x) H' D K X=some res)\/∃v H',call g ag H=some (.pan v H')/\X (.pan v T H' D)=some res))\/
  (∃g ag,c.run T H=some (.dfr g ag)/\k.f call (u T (.tup [])) H ((g,ag)::D) K X=some res)\/
  (∃v,c.run T H=some (.pan v)/\X (.pan v T H D)=some res):=by
 cases c with
 |pv f=>exact .inl ⟨f T,H,rfl,h⟩
 |po f=>
  obtain ⟨a,ha,hk⟩:=aX (r:=f T) h
  grind [OC.run]
 |ho f=>
  obtain ⟨a,ha,hk⟩:=aX (r:=f T H) h
  grind [OC.run]
 |hm f=>
  obtain ⟨⟨x,H'⟩,ha,hk⟩:=rC_ (r:=f T H) (k:=λa H'=>k.f call (u T a) H' D K X) h
  grind [OC.run]
 |cl f=>
  obtain ⟨⟨g,ag⟩,ha,hk⟩:=iy (r:=f T) (k:=λg ag=>WJ (call g ag H) (λa H'=>k.f call (u T a) H' D K X) (λv H'=>X (.pan v T H' D))) h
  grind [OC.run,wY]
 |df f=>
  obtain ⟨⟨g,ag⟩,ha,hk⟩:=iy (r:=f T) (k:=λg ag=>k.f call (u T (.tup [])) H ((g,ag)::D) K X) h
  grind [OC.run]
 |pn f=>
  obtain ⟨a,ha,hk⟩:=aX (r:=f T) h
  grind [OC.run]
 |rc=>cases h
 |no=>cases h
end
def Ej {T:Tm} {H:AHeap} {o:Oper} {r:BJ} (h:(A0 P o).run T H=some r) {a:Act} {w:World} (hr:Ao B pr E H w) (ht:Bc E N T a.tmps):Bh P B pr E w (execOp a.eval o) r:=by rcases qc h with h|h;exact YT hr (λx=>ht.look x) h;exact yC hr (λx=>ht.look x) h
def kn (P:Program) (N:Nat) (call:AG) (Ae:Array Oper) (k:LC) (l:List Oper):Prop:=
 ∀(T:Tm) (H:AHeap) (D:Bg) (K:Kn) (X:A3->Cn) (res:A1),k.f call T H D K X=some res->
  ∃r:A3,Si K X r=some res/\∀B pr E a w,St P B pr N E T H D a w->wpList P Ae (BH P B pr N E r) l a w
def pf {call:AG} (hcall:Ci P call) {Ae:Array Oper} {o:Oper} {l:List Oper} {k:LC} (hk:kn P N call Ae k l) {u:Tm->AV->Tm} (hu:CP N o.dst=.mk u)
  {T:Tm} {H:AHeap} {D:Bg} {K:Kn} {X:A3->Cn} {res:A1} (h:(Wd (A0 P o) u k).f call T H D K X=some res):
  ∃r:A3,Si K X r=some res/\∀B pr E a w,St P B pr N E T H D a w->o.wp P a w (wpList P Ae (BH P B pr N E r) l) (BH P B pr N E r):=by
 rcases yv h with ⟨x,H',hrun,hrest⟩|⟨g,ag,hrun,hrest⟩|⟨g,ag,hrun,hrest⟩|⟨v,hrun,hX⟩;obtain ⟨r,hd,hw⟩:=hk _ _ _ _ _ _ hrest;refine ⟨r,hd,λB pr E a w st=>?_⟩;obtain ⟨E',n,v,w',h1,h2,h3,h4,h5⟩:=Ej hrun st.r st.t;unfold Oper.wp;rw [h1];have key:wpList P Ae (BH P B pr N E r) l (a.put o.dst v) w':=(by refine AU (λe a w hq=>BH.le h3 hq) _ _ _ (hw B pr E' (a.put o.dst v) w' ⟨(st.t.mono h3).put hu h5,h4,?_⟩);have:(a.put o.dst v).defers=a.defers:=(by unfold Act.put;split<;>rfl);rw [this];exact st.d.mono h3);rcases h2 with rfl|⟨rfl,rfl⟩;exact key;exact key;rcases hrest with ⟨x,H',hc,hrest⟩|⟨v,H',hc,hX⟩;obtain ⟨r,hd,hw⟩:=hk _ _ _ _ _ _ hrest;refine ⟨r,hd,λB pr E a w st=>?_⟩;obtain ⟨vs,h1,h2⟩:=Ej hrun st.r st.t;unfold Oper.wp;rw [h1];refine Calls.mono (hcall g ag H _ hc B pr E w vs st.t.gl st.r h2) λe w' he=>?_;obtain ⟨E',h3,v,rfl,h4,h5⟩:=he;refine AU (λe a w hq=>BH.le h3 hq) _ _ _ (hw B pr E' (a.put o.dst v) w' ⟨(st.t.mono h3).put hu h4,h5,?_⟩);have:(a.put o.dst v).defers=a.defers:=(by unfold Act.put;split<;>rfl);rw [this];exact st.d.mono h3;refine ⟨.pan v T H' D,hX,λB pr E a w st=>?_⟩;obtain ⟨vs,h1,h2⟩:=Ej hrun st.r st.t;unfold Oper.wp;rw [h1];refine Calls.mono (hcall g ag H _ hc B pr E w vs st.t.gl st.r h2) λe w' he=>?_;obtain ⟨E',h3,u',rfl,h4,h5⟩:=he;exact ⟨E',h3,u',rfl,h4,st.t.mono h3,h5,st.d.mono h3⟩
 .obtain ⟨r,hd,hw⟩:=hk _ _ _ _ _ _ hrest;refine ⟨r,hd,λB pr E a w st=>?_⟩;obtain ⟨vs,h1,h2,h3⟩:=Ej hrun st.r st.t;unfold Oper.wp;rw [h1];refine hw B pr E _ w ⟨?_,st.r,?_⟩
  .have:=st.t.put (a:=a) hu (GQ E);have e:(({ a with defers:={ target:=.fn (.func g) #[],args:=⟨vs⟩ }::a.defers }:Act).put o.dst undef).tmps=(a.put o.dst undef).tmps:=by unfold Act.put;split<;>rfl
   grind
  have e:(({ a with defers:={ target:=.fn (.func g) #[],args:=⟨vs⟩ }::a.defers }:Act).put o.dst undef).defers={ target:=.fn (.func g) #[],args:=⟨vs⟩ }::a.defers:=(by unfold Act.put;split<;>rfl);rw [e];exact ⟨vs,a.defers,rfl,h2,h3,st.d⟩
 refine ⟨.pan v T H D,hX,λB pr E a w st=>?_⟩;obtain ⟨u',h1,h2⟩:=Ej hrun st.r st.t;unfold Oper.wp;rw [h1];exact ⟨E,Ag.le_refl _,u',rfl,h2,st⟩
def eV {call:AG} (hcall:Ci P call) (Ae:Array Oper):∀l:List Oper,kn P N call Ae (OX P N Ae.toList l) l
 |[]=>λT H D K X res h=>⟨.norm T H D,h,λB pr E a w st=>⟨E,Ag.le_refl _,rfl,st⟩⟩
 |o::l=>λT H D K X res h=>by
  have ih:=eV hcall Ae l;unfold OX at h;split at h;cases h
  .rename_i u hu;split at h;obtain ⟨r,hd,hw⟩:=pf hcall ih hu h;refine ⟨r,hd,λB pr E a w st=>?_⟩;simp_all [wpList,TP]
   .rename_i g hg;simp only at h;split at h
    .rename_i t ht;split at h
     .obtain ⟨r,hd,hw⟩:=pf hcall ih hu h;refine ⟨r,hd,λB pr E a w st=>?_⟩;unfold wpList;rw [Ad (P6 st.t hg ht)]
      grind
     obtain ⟨r,hd,hw⟩:=ih _ _ _ _ _ _ h;refine ⟨r,hd,λB pr E a w st=>?_⟩;unfold wpList;rw [Ab (by rw [P6 st.t hg ht];simp)];refine hw B pr E _ w ⟨st.t.put hu (GQ E),st.r,?_⟩;have:(a.put o.dst undef).defers=a.defers:=(by unfold Act.put;split<;>rfl);rw [this];exact st.d
    cases h
def pp (P:Program) (N:Nat) (call:AG) (n:Nat) (k:CC) (c:Code):Prop:=
 ∀(T:Tm) (H:AHeap) (D:Bg) (K:Kn) (X:A3->Cn) (res:A1),k.f call n T H D K X=some res->
  ∃r:A3,Si K X r=some res/\∀B pr E a w,St P B pr N E T H D a w->c.wp P (BH P B pr N E r) a w
def O5 (P:Program) (N:Nat) (call:AG):Prop:=
 ∀(id:Nat) (Ae:Array Oper) (T:Tm) (H:AHeap) (D:Bg) (r:A3),Nk P call N Ae.toList T H D=some r->
  ∀B pr E a w,St P B pr N E T H D a w->(Code.region id Ae true).wp P (BH P B pr N E r) a w
omit [Gl]in
def wU {id:Nat} {K:Kn} {X:A3->Cn} {r:A3} {res:A1} (h:Si K (lM id K X) r=some res):
  (∃T H D,r=.exit id T H D/\K T H D=some res)\/((∀T H D,r≠ .exit id T H D)/\Si K X r=some res):=by
 cases r with
 |norm T H D=>exact .inr ⟨λ_ _ _ e=>(nomatch e),h⟩
 |ret T H D=>exact .inr ⟨λ_ _ _ e=>(nomatch e),h⟩
 |pan v T H D=>exact .inr ⟨λ_ _ _ e=>(nomatch e),h⟩
 |exit id' T H D=>
  have h2:(match Nat.beq id' id with|true=>K T H D|false=>X (.exit id' T H D))=some res:=h;cases hb:Nat.beq id' id with
  |true=>
   grind [za']
  |false=>simp only [hb]at h2;refine .inr ⟨λT' H' D' e=>?_,h2⟩;simp_all
omit [Gl]in
def ju {c:Code} {Q Q':Exit->Act->World->Prop} (hq:∀e a w,Q e a w->Q' e a w):∀(m:Nat) (a:Act) (w:World),Code.rounds P c Q m a w->Code.rounds P c Q' m a w
 |0,_,_,h=>h
 |m+1,a,w,h=>Code.wp_mono (λe a w hx=>by
   cases e with
   |normal=>exact ju hq m a w hx
   |exit id=>exact hq _ _ _ hx
   |goto l=>exact hq _ _ _ hx
   |ret=>exact hq _ _ _ hx
   |panic ch=>exact hq _ _ _ hx
   |outgrown=>exact hq _ _ _ hx) h
def BH.then {r:A3} (hr:∀T H D,r≠ .norm T H D) {K:Act->World->Prop} {e:Exit} {a:Act} {w:World} (h:BH P B pr N E r e a w):Exit.then K (BH P B pr N E r) e a w:=by
 cases e with
 |normal=>
  obtain ⟨E',h1,h2⟩:=h
  grind
 |exit id=>exact h
 |goto l=>exact h
 |ret=>exact h
 |panic ch=>exact h
 |outgrown=>exact h
def BH.norm {T:Tm} {H:AHeap} {D:Bg} {Q:Exit->Act->World->Prop} {K:Act->World->Prop} {e:Exit} {a:Act} {w:World} (h:BH P B pr N E (.norm T H D) e a w)
  (hk:∀E' a w,E.le E'->St P B pr N E' T H D a w->K a w):Exit.then K Q e a w:=by
 obtain ⟨E',h1,rfl,h2⟩:=h;exact hk E' a w h1 h2
def mY {call:AG} {n:Nat} {k:CC} {c:Code} (hk:pp P N call n k c):∀(m:Nat) (T:Tm) (H:AHeap) (D:Bg) (X:A3->Cn) (res:A1),
  H7 (λT H D K X=>k.f call n T H D K X) m T H D X=some res->
  ∃r:A3,(∀T H D,r≠ .norm T H D)/\X r=some res/\∀B pr E a w,St P B pr N E T H D a w->Code.rounds P c (BH P B pr N E r) m a w
 |0,T,H,D,X,res,h=>by cases h
 |m+1,T,H,D,X,res,h=>by
  obtain ⟨r,hd,hw⟩:=hk _ _ _ _ _ _ h;by_cases hr:∀T H D,r≠ .norm T H D
  .refine ⟨r,hr,?_,λB pr E a w st=>Code.wp_mono (λe a w hq=>hq.then hr) (hw B pr E a w st)⟩;cases r with
   |norm T H D=>grind
   |exit id T H D=>exact hd
   |ret T H D=>exact hd
   |pan v T H D=>exact hd
  .cases r with
   |exit id T H D=>grind
   |ret T H D=>grind
   |pan v T H D=>grind
   |norm T' H' D'=>obtain ⟨r2,hn,hX,hw2⟩:=mY hk m T' H' D' X res hd;refine ⟨r2,hn,hX,λB pr E a w st=>Code.wp_mono (λe a w hq=>?_) (hw B pr E a w st)⟩;exact hq.norm λE' a w hle st'=>ju (λe a w hq=>BH.le hle hq) m a w (hw2 B pr E' a w st')
def LD {call:AG} (hcall:Ci P call) (hdraw:O5 P N call) (n:Nat):∀c:Code,pp P N call n (F4 P N c) c
 | .skip=>λT H D K X res h=>by exact ⟨.norm T H D,h,λB pr E a w st=>wp_skip ⟨E,Ag.le_refl _,rfl,st⟩⟩
 | .label l=>λT H D K X res h=>by exact ⟨.norm T H D,h,λB pr E a w st=>wp_label ⟨E,Ag.le_refl _,rfl,st⟩⟩
 | .exit id=>λT H D K X res h=>by exact ⟨.exit id T H D,h,λB pr E a w st=>wp_exit ⟨E,Ag.le_refl _,rfl,st⟩⟩
 | .ret=>λT H D K X res h=>by exact ⟨.ret T H D,h,λB pr E a w st=>wp_ret ⟨E,Ag.le_refl _,rfl,st⟩⟩
 | .region id Ae false=>λT H D K X res h=>by
   obtain ⟨r,hd,hw⟩:=eV hcall Ae Ae.toList _ _ _ _ _ _ h
   grind [wp_region_list]
 | .region id Ae true=>λT H D K X res h=>by
   unfold F4 at h;simp only at h;unfold ol at h;split at h;cases h
   .rename_i r hr;refine ⟨r,?_,λB pr E a w st=>hdraw id Ae T H D r hr B pr E a w st⟩;cases r<;>exact h
 | .seq x y=>λT H D K X res h=>by
   obtain ⟨r,hd,hw⟩:=LD hcall hdraw n x _ _ _ _ _ _ h;by_cases hr:∀T H D,r≠ .norm T H D
   .refine ⟨r,?_,λB pr E a w st=>wp_seq (Code.wp_mono (λe a w hq=>hq.then hr) (hw B pr E a w st))⟩;cases r with
    |norm T H D=>grind
    |exit id T H D=>exact hd
    |ret T H D=>exact hd
    |pan v T H D=>exact hd
   .cases r with
    |exit id T H D=>grind
    |ret T H D=>grind
    |pan v T H D=>grind
    |norm T' H' D'=>obtain ⟨r2,hd2,hw2⟩:=LD hcall hdraw n y _ _ _ _ _ _ hd;refine ⟨r2,hd2,λB pr E a w st=>wp_seq (Code.wp_mono (λe a w hq=>?_) (hw B pr E a w st))⟩;exact hq.norm λE' a w hle st'=>Code.wp_mono (λe a w hq=>BH.le hle hq) (hw2 B pr E' a w st')
 | .cond c x y=>λT H D K X res h=>by
   unfold F4 at h;simp only at h;unfold dp at h;split at h
   .rename_i t ht;split at h
    .obtain ⟨r,hd,hw⟩:=LD hcall hdraw n x _ _ _ _ _ _ h;refine ⟨r,hd,λB pr E a w st=>?_⟩;have:a.eval c=.bool true:=by have:=st.t.look c;grind [look,Ac]
     grind [wp_cond_true]
    .obtain ⟨r,hd,hw⟩:=LD hcall hdraw n y _ _ _ _ _ _ h;refine ⟨r,hd,λB pr E a w st=>?_⟩;have:a.eval c=.bool false:=by have:=st.t.look c;grind [look,Ac]
     grind [wp_cond_false]
   cases h
 | .block id b=>λT H D K X res h=>by
   obtain ⟨r,hd,hw⟩:=LD hcall hdraw n b _ _ _ _ _ _ h;rcases wU hd with ⟨T',H',D',rfl,hk⟩|⟨hne,hk⟩
   .refine ⟨.norm T' H' D',hk,λB pr E a w st=>wp_block (Code.wp_mono (λe a w hq=>?_) (hw B pr E a w st))⟩;obtain ⟨E',h1,rfl,h2⟩:=hq;show if id=id then _ else _
    rw [Ad rfl];exact ⟨E',h1,rfl,h2⟩
   .refine ⟨r,hk,λB pr E a w st=>wp_block (Code.wp_mono (λe a w hq=>?_) (hw B pr E a w st))⟩;cases e with
    |exit id'=>
     show if id'=id then _ else _
     split
     .obtain ⟨E',h1,h2⟩:=hq
      grind
     exact hq
    |normal=>exact hq
    |goto l=>exact hq
    |ret=>exact hq
    |panic ch=>exact hq
    |outgrown=>exact hq
 | .loop b=>λT H D K X res h=>by
   obtain ⟨r,hn,hX,hw⟩:=mY (LD hcall hdraw n b) n T H D X res h;refine ⟨r,?_,λB pr E a w st=>wp_loop_rounds n (hw B pr E a w st)⟩;cases r with
   |norm T H D=>grind
   |exit id T H D=>exact hX
   |ret T H D=>exact hX
   |pan v T H D=>exact hX
 | .scope _=>λT H D K X res h=>by grind [F4]
 | .goto _=>λT H D K X res h=>by grind [F4]
 | .refuse _=>λT H D K X res h=>by grind [F4]
 | .rangeFunc _ _ _ _=>λT H D K X res h=>by grind [F4]
end
end Go.Sx
