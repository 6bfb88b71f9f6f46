/-
  One operation of the evaluator, and that the model's does the same.
-/
import Derived.Test.YtmgenobllanmjaaGreatDoorSxG
import Derived.Laws.IdiomStrings
set_option linter.unusedVariables false
set_option linter.unusedSimpArgs false
namespace Go.Sx
inductive ORes where
 |val (a:AV) (H:AHeap)
 |call (f:FuncId) (args:List AV)
 |dfr (f:FuncId) (args:List AV)
 |pan (a:AV)
 |rcv
def ka_ (ρ:Operand->AV):List Operand->List AV
 |[]=>[]
 |x::r=>ρ x::ka_ ρ r
def dJ_ (ρ:Operand->AV):List (Nat×Operand)->List (Nat×AV)
 |[]=>[]
 |(i,x)::r=>(i,ρ x)::dJ_ ρ r
def oh_ (ρ:Operand->AV):Option Operand->Option AV
 |none=>none
 |some x=>some (ρ x)
def j1_:List AV->List AV->List AV
 |[],l=>l
 |a::r,l=>a::j1_ r l
theorem ld_:∀a b:List AV,j1_ a b=a++b
 |[],b=>rfl
 |x::r,b=>by simp [j1_,ld_ r b]
def bW_ (P:Program) (f:FuncId):Bool:=match P.funcs[f]? with
 |some fn=>match fn.body with
  |some _=>not (fn.name== "runtime.NumGoroutine")
  |none=>false
 |none=>false
theorem d6_ {P:Program} {f:FuncId} (h:bW_ P f=true) (args:Array Value) (w:World):(callFunc f args).run P w=.ok (.enter f args) w:=by
 unfold bW_ at h;split at h
 .split at h<;>simp_all [callFunc]
 cases h
def gc_ (ρ:Operand->AV):List Operand->Bool
 |[]=>true
 |x::r=>match plain (ρ x)with
  |some _=>gc_ ρ r
  |none=>false
def uV_:Op->Bool
 | .select _ _=>false
 |_=>true
def iq_ (a:AV):Value:=match plain a with
 |some v=>v
 |none=>.tuple #[]
def fn_ (P:Program) (ρ:Operand->AV) (H:AHeap) (o:Oper):Option ORes:=match uV_ o.op&&gc_ ρ o.op.operands.toList with
 |true=>match aJ_ P (execOp (λx=>iq_ (ρ x)) o)with
  |some (.value v)=>some (.val (ofV v) H)
  |some .skip=>some (.val (.tup []) H)
  |_=>none
 |false=>none
def flA:AV->Option (FloatKind×Option Nat)
 | .flt k b=>some (k,some b)
 | .nan k=>some (k,none)
 |_=>none
def mkF (k:FloatKind) (r:Option Nat):AV:=match r with
 |some n=>.flt k n
 |none=>.nan k
def fOrd (k:FloatKind) (a b:Option Nat):Option Ordering:=match a with
 |some a=>match b with
  |some b=>k.format.order a b
  |none=>none
 |none=>none
def fW_ (f:Nat->Nat->Option Nat) (a b:Option Nat):Option Nat:=match a with
 |some a=>match b with
  |some b=>f a b
  |none=>none
 |none=>none
def rt_ (op:BinOp) (k:FloatKind) (a b:Option Nat):Option AV:=match op with
 | .add=>some (mkF k (fW_ k.format.add a b))
 | .sub=>some (mkF k (fW_ k.format.sub a b))
 | .mul=>some (mkF k (fW_ k.format.mul a b))
 | .quo=>some (mkF k (fW_ k.format.div a b))
 | .eql=>some (.bool (fOrd k a b==some .eq))
 | .neq=>some (.bool (fOrd k a b !=some .eq))
 | .lss=>some (.bool (fOrd k a b==some .lt))
 | .leq=>some (.bool (fOrd k a b==some .lt||fOrd k a b==some .eq))
 | .gtr=>some (.bool (fOrd k a b==some .gt))
 | .geq=>some (.bool (fOrd k a b==some .gt||fOrd k a b==some .eq))
 |_=>none
def lo_:AV->Bool
 | .int _ _| .flt _ _| .nan _| .str _| .opq| .sym _| .slx _ _ _| .ptx _ _ _ _=>false
 |_=>true
def sY_:List UInt8->List UInt8->List UInt8
 |[],l=>l
 |a::r,l=>a::sY_ r l
theorem oL_:∀a b:List UInt8,sY_ a b=a++b
 |[],b=>rfl
 |x::r,b=>by simp [sY_,oL_ r b]
def kix:IntKind->Nat
 | .i8=>0
 | .i16=>1
 | .i32=>2
 | .i64=>3
 | .u8=>4
 | .u16=>5
 | .u32=>6
 | .u64=>7
theorem pi_ {k k':IntKind} (h:Nat.beq (kix k) (kix k')=true):k=k':=by cases k<;>cases k'<;>first|rfl|(exact absurd h (by decide))
def gW_ (P:Program) (op:BinOp) (k:IntKind) (a:Int) (k':IntKind) (b:Int):Option AV:=match aJ_ P (binOp op 0 (.int k a) (.int k' b))with
 |some v=>some (ofV v)
 |none=>none
def cg_ (P:Program) (op:BinOp) (k:IntKind) (a:Int) (k':IntKind) (b:Int):Option AV:=match Nat.beq (kix k) (kix k')with
 |true=>match dy_ op k a b with
  |some r=>some r
  |none=>gW_ P op k a k' b
 |false=>gW_ P op k a k' b
def bI_ (P:Program) (op:BinOp) (t:TypeId) (cx cy:Bool) (x y:AV):Option AV:=match x,y with
 | .int k a,.int k' b=>cg_ P op k a k' b
 | .str a,.str b=>match op with
   | .eql=>some (.bool (eqB a b))
   | .neq=>some (.bool (not (eqB a b)))
   | .add=>match Nat.blt (Nat.add (hd_ a) (hd_ b)) 9223372036854775807 with
     |true=>some (.str (sY_ a b))
     |false=>none
   |_=>none
 |x,y=>match lo_ x with
  |true=>match op with
   | .eql=>o8_ P false t cx cy x y
   | .neq=>o8_ P true t cx cy x y
   |_=>none
  |false=>match flA x with
   |some (k,a)=>match flA y with
    |some (k',b)=>match decide (k=k')with
     |true=>rt_ op k a b
     |false=>none
    |none=>none
   |none=>none
def oV (H:AHeap) (r:Option AV):Option ORes:=match r with
 |some a=>some (.val a H)
 |none=>none
def oP (r:Option (AV×AHeap)):Option ORes:=match r with
 |some p=>some (.val p.1 p.2)
 |none=>none
def eb_ (P:Program) (ρ:Operand->AV) (H:AHeap) (c:Call):Option ORes:=match c.callee with
 | .value f=>match ρ f with
   | .fn g cap=>match bW_ P g with
     |true=>some (.call g (j1_ (ka_ ρ c.args.toList) cap))
     |false=>none
   |_=>none
 | .builtin b=>match b with
   | .len=>match c.args.toList,c.argTypes.toList with
     |[x],[t]=>oV H (cJ_ P H t (ρ x))
     |_,_=>none
   | .append=>match c.args.toList,c.argTypes.toList with
     |[s,x],[t,tx]=>oP (gn_ P H t tx (ρ s) (ρ x))
     |_,_=>none
   | .copy=>match c.args.toList,c.argTypes.toList with
     |[d,s],[t,_]=>oP (ls_ P H t (ρ d) (ρ s))
     |_,_=>none
   | .recover=>match c.args.toList with
     |[]=>some .rcv
     |_=>none
   |_=>none
 |_=>none
def lt_ (P:Program) (ρ:Operand->AV) (c:Call):Option ORes:=match c.callee with
 | .value f=>match ρ f with
   | .fn g []=>match bW_ P g with
     |true=>some (.dfr g (ka_ ρ c.args.toList))
     |false=>none
   |_=>none
 |_=>none
def go_ (P:Program) (x:AV) (asserted:TypeId) (ok:Bool):Option AV:=match P.underlying asserted with
 |some (.interface _)=>none
 |some _=>match P.info? asserted with
  |none=>none
  |some i=>match i.zero with
   |none=>none
   |some z=>match x with
    | .nif=>match ok with
      |true=>some (.tup [ofV z,.bool false])
      |false=>none
    | .iface t v=>match Nat.beq t asserted with
      |true=>some (jj_ ok v true)
      |false=>match ok with
       |true=>some (.tup [ofV z,.bool false])
       |false=>none
    |_=>none
 |none=>none
def fj_ (P:Program) (s d:TypeId) (x:AV):Option AV:=match P.underlying s with
 |some _=>match P.underlying d with
  |some (.int k)=>match x with
   | .int _ n=>some (mkI k (e7_ k n))
   | .flt f b=>match (f.decode b).toInt .zero with
     |some n=>match decide (k.min<=n/\n<=k.max)with
      |true=>some (.int k n)
      |false=>none
     |none=>none
   |_=>none
  |some (.float k)=>match x with
   | .int _ n=>some (.flt k (k.nearest n))
   |_=>none
  |_=>none
 |none=>none
def de_ (P:Program) (s d:TypeId) (x:AV):Option AV:=match x with
 | .str l=>match P.underlying s with
   |some .string=>match P.underlying d with
    |some (.slice e)=>match P.underlying e with
     |some (.int .u8)=>some (.vsl (hd_ l) 1 (gQ_ l))
     |_=>none
    |_=>none
   |_=>none
 |_=>none
def b3_ (P:Program) (H:AHeap) (s d:TypeId) (x:AV):Option AV:=match fj_ P s d x with
 |some r=>some r
 |none=>match bL_ P H s d x with
  |some r=>some r
  |none=>de_ P s d x
def u8s (P:Program) (s:TypeId):Bool:=match P.underlying s with
 |some (.slice e)=>match P.underlying e with
  |some (.int .u8)=>true
  |_=>false
 |_=>false
def si_ (P:Program) (s d:TypeId):Bool:=Nat.beq s d&&u8s P s
def lr_ (P:Program) (H:AHeap) (s d:TypeId) (x:AV):Option (AV×AHeap):=match x with
 | .sl id off len sz _=>match len with
   |0=>none
   |n+1=>match Nat.beq sz 1&&si_ P s d with
    |true=>match aV_ H (.ptr id off) (Nat.succ n)with
     |some l=>some (.vsl (Nat.succ n) 1 l,H.erase id)
     |none=>none
    |false=>none
 |_=>none
def fk_ (P:Program) (H:AHeap) (s d:TypeId) (x:AV):Option (AV×AHeap):=match b3_ P H s d x with
 |some a=>some (a,H)
 |none=>lr_ P H s d x
def r0_:List UInt8->Nat->Option UInt8
 |[],_=>none
 |b::_,0=>some b
 |_::r,n+1=>r0_ r n
theorem pv_:∀(l:List UInt8) (n:Nat),r0_ l n=l[n]?
 |[],n=>by simp [r0_]
 |b::r,0=>rfl
 |b::r,n+1=>by simp [r0_,pv_ r n]
def mkB (b:UInt8):AV:=mkI .u8 (.ofNat b.toNat)
def eH_ (P:Program) (t:TypeId) (x i:AV):Option AV:=match P.underlying t with
 |some .string=>match x with
  | .str s=>match i with
    | .int _ (.ofNat n)=>match r0_ s n with
      |some b=>some (mkB b)
      |none=>none
    |_=>none
  |_=>none
 |_=>none
def o9_ (op:UnOp) (x:AV):Option AV:=match op with
 | .not=>match x with
   | .bool b=>some (.bool (not b))
   |_=>none
 | .neg=>match x with
   | .int k n=>some (mkI k (e7_ k (0-n)))
   | .flt k b=>some (.flt k (Op.negFloat k b))
   | .nan k=>some (.nan k)
   |_=>none
 | .xor=>match x with
   | .int k n=>some (mkI k (e7_ k ((BitVec.ofInt k.bits (if k.signed then -1 else k.max)^^^BitVec.ofInt k.bits n).toNat:Int)))
   |_=>none
 |_=>none
def ff_ (P:Program) (t:TypeId):Bool:=match P.underlying t with
 |some (.interface _)=>false
 |some _=>true
 |none=>false
def aB_ (P:Program) (ρ:Operand->AV) (H:AHeap) (o:Oper):Option ORes:=match o.op with
 | .move x=>some (.val (ρ x) H)
 | .assign x=>some (.val (ρ x) H)
 | .pick c a b=>match ρ c with
   | .bool true=>some (.val (ρ a) H)
   | .bool false=>some (.val (ρ b) H)
   |_=>none
 | .alloc t=>oP (fi_ P H t)
 | .box _ x=>oP (my_ H (ρ x))
 | .build t parts=>oV H (if_ P t (dJ_ ρ parts.toList))
 | .buildSlice t n parts=>oP (bz_ P H t n (dJ_ ρ parts.toList))
 | .load t a=>oV H (bn_ P H t (ρ a))
 | .store t a x=>oP (ci_ P H t (ρ a) (ρ x))
 | .nilCheck x=>match ρ x with
   | .ptr id off=>some (.val (.ptr id off) H)
   | .vptr cs=>some (.val (.vptr cs) H)
   |_=>none
 | .binOp op t x y _=>oV H (bI_ P op t (bA_ x) (bA_ y) (ρ x) (ρ y))
 | .convert s d x=>oP (fk_ P H s d (ρ x))
 | .index t x i=>oV H (eH_ P t (ρ x) (ρ i))
 | .unOp op _ x=>oV H (o9_ op (ρ x))
 | .makeInterface t x=>match ff_ P t with
   |true=>some (.val (.iface t (ρ x)) H)
   |false=>none
 | .makeFunc fn first captured=>match fn with
   | .func f=>match first.toList with
     |[]=>some (.val (.fn f (ka_ ρ captured.toList)) H)
     |_=>none
   |_=>none
 | .makeMap t r=>match r with
   |none=>oP (fm_ P H t)
   |some _=>none
 | .makeSlice t l c=>oP (b5_ P H t (ρ l) (ρ c))
 | .slice t x lo hi mx=>match mx with
   |none=>oV H (aP_ P H t (ρ x) (oh_ ρ lo) (oh_ ρ hi))
   |some _=>none
 | .fieldAddr s x f=>oV H (bY_ P s (ρ x) f)
 | .field s x f=>oV H (eG_ P s (ρ x) f)
 | .indexAddr t x ix=>oV H (aS_ P t (ρ x) (ρ ix))
 | .lookup t x ix ok=>oV H (bt_ P H t (ρ x) (ρ ix) ok)
 | .mapUpdate t m k x=>oP (a5_ P H t (ρ m) (ρ k) (ρ x))
 | .insert t m k x=>oP (a5_ P H t (ρ m) (ρ k) (ρ x))
 | .typeAssert x _ asserted ok=>oV H (go_ P (ρ x) asserted ok)
 | .extract t ix=>oV H (fl_ (ρ t) ix)
 | .call c=>eb_ P ρ H c
 | .defer c=>lt_ P ρ c
 | .panic x=>match ρ x with
   | .iface t v=>some (.pan (.iface t v))
   |_=>none
 |_=>none
section
variable {P:Program} {B:World} {pr:Nat->Prop} {E:Env} {H:AHeap} {w:World}
def OpOk (P:Program) (B:World) (pr:Nat->Prop) (E:Env) (w:World) (s:Sem Next):ORes->Prop
 | .val a H'=>∃E' n v w',s.run P w=.ok n w'/\(n=.value v\/(n=.skip/\v=undef))/\E.le E'/\Rel B pr E' H' w'/\Con E' a v
 | .call f args=>∃vs,s.run P w=.ok (.enter f ⟨vs⟩) w/\ConL E args vs
 | .dfr f args=>∃vs,s.run P w=.ok (.defer { target:=.fn (.func f) #[],args:=⟨vs⟩ }) w/\ConL E args vs/\bW_ P f=true
 | .pan a=>∃v,s.run P w=.halt (.panic v) w/\Con E a v
 | .rcv=>s.run P w=.ok .recover w
theorem OpOk.of_gives {s:Sem Value} {a:AV} {H':AHeap} (h:Gives P B pr E w s (a,H')):OpOk P B pr E w (do pure (.value (←s))) (.val a H'):=by obtain ⟨E',v,w',h1,h2,h3,h4⟩:=h;exact ⟨E',.value v,v,w',by simp [h1],.inl rfl,h2,h3,h4⟩
theorem OpOk.oV {s:Sem Value} {x:Option AV} {r:ORes} (h:oV H x=some r) (hg:∀a,x=some a->Gives P B pr E w s (a,H)):OpOk P B pr E w (do pure (.value (←s))) r:=by unfold Sx.oV at h;split at h;cases h;exact OpOk.of_gives (hg _ rfl);cases h
theorem OpOk.oP {s:Sem Value} {x:Option (AV×AHeap)} {r:ORes} (h:oP x=some r) (hg:∀p,x=some p->Gives P B pr E w s p):OpOk P B pr E w (do pure (.value (←s))) r:=by unfold Sx.oP at h;split at h;cases h;exact OpOk.of_gives (hg _ rfl);cases h
theorem eT_ {ρ:Operand->AV} {σ:Operand->Value} (h:∀x,Con E (ρ x) (σ x)):∀l:List Operand,ConL E (ka_ ρ l) (l.map σ)
 |[]=>by rfl
 |x::r=>ConL.cons (h x) (eT_ h r)
theorem ej_ {ρ:Operand->AV} {σ:Operand->Value} (h:∀x,Con E (ρ x) (σ x)):∀l:List (Nat×Operand),ConL E ((dJ_ ρ l).map (·.2)) ((l.map λp=>(p.1,σ p.2)).map (·.2))/\
  (l.map λp=>(p.1,σ p.2)).map (·.1)=(dJ_ ρ l).map (·.1)
 |[]=>by simp [dJ_,ConL]
 |(i,x)::r=>by
  obtain ⟨h1,h2⟩:=ej_ h r
  grind [ConL.cons,dJ_]
theorem mW_ {ρ:Operand->AV} {σ:Operand->Value} (h:∀x,Con E (ρ x) (σ x)) (x:Option Operand):l5_ E (oh_ ρ x) (x.map σ):=by
 cases x with
 |none=>rfl
 |some x=>exact ⟨σ x,rfl,h x⟩
theorem mD_ (hr:Rel B pr E H w) {ρ:Operand->AV} {σ:Operand->Value} (hσ:∀x,Con E (ρ x) (σ x)) {o:Oper} {r:ORes} (h:fn_ P ρ H o=some r):OpOk P B pr E w (execOp σ o) r:=by
 unfold fn_ at h;split at h
 case h_2=>cases h
 rename_i hb;obtain ⟨hsel,hall⟩:=aa_ hb;have heq:execOp σ o=execOp (λx=>iq_ (ρ x)) o:=by
  refine execOp_congr o (λcs b e=>?_) λx hx=>?_;rw [e]at hsel;cases hsel
  .have:∀l:List Operand,gc_ ρ l=true->∀x∈l,σ x=iq_ (ρ x):=by
     intro l
     induction l<;>grind [gc_,iq_,eY_]
   exact this _ hall x (Array.mem_toList_iff.2 hx)
 rw [heq];split at h;rename_i v hv;cases h;exact ⟨E,_,v,w,bx_ hv w,.inl rfl,Env.le_refl _,hr,cX_ E v⟩;rename_i hv;cases h;exact ⟨E,_,undef,w,bx_ hv w,.inr ⟨rfl,rfl⟩,Env.le_refl _,hr,by simp [Con,undef,ConL]⟩;cases h
theorem le_ {x:AV} {u:Value} (hx:Con E x u) (h:lo_ x=true) (t:TypeId) (v:Value) (neg:Bool) {b:Bool} (he:(Op.equal t u v).run P w=.ok b w):
  (binOp (if neg then .neq else .eql) t u v).run P w=.ok (.bool (neg ^^ b)) w:=by
 have hu:(match u with
   | .int _ _| .float _ _| .complex _ _ _| .string _=>False
   |_=>True):=by
  cases x<;>simp only [lo_,Bool.false_eq_true]at h<;>
   (simp only [Con]at hx
    try (obtain ⟨_,_,_,_,hq,_⟩:=hx;obtain ⟨_,rfl⟩:=SlA.sl hq)
    first|trivial|grind)
 cases neg;have e:binOp .eql t u v=(do pure (.bool (←Op.equal t u v))):=(by cases u<;>first|rfl|exact hu.elim);simp_all
 have e:binOp .neq t u v=(do pure (.bool (!(←Op.equal t u v)))):=(by cases u<;>first|rfl|exact hu.elim);simp_all
theorem qb_ (hr:Rel B pr E H w) {neg:Bool} {t:TypeId} {ox oy:Operand} {x y:AV} {u v:Value} (hx:Con E x u) (hy:Con E y v) {r:AV} (h:o8_ P neg t (bA_ ox) (bA_ oy) x y=some r)
  (hq:lo_ x=true):Gives P B pr E w (do eqGuard (if neg then .neq else .eql) t ox oy u v;binOp (if neg then .neq else .eql) t u v) (r,H):=by
 unfold o8_ at h;split at h;cases h;rename_i hg;split at h;rename_i b hb;cases h;have hgr:=qo_ (P:=P) (w:=w) hx hy hg (if neg then BinOp.neq else BinOp.eql);have heq:=o0_ (P:=P) (w:=w) hx hy hb 10000 (by omega);have hequal:(Op.equal t u v).run P w=.ok b w:=heq;refine Gives.still hr (v:=.bool (neg ^^ b)) ?_ (by simp [Con]);simp only [Sem.run_bind,hgr,Result.andThen_ok];exact le_ hx hq t v neg hequal;cases h
theorem eP_ {op:BinOp} {t:TypeId} {ox oy:Operand} {u v:Value} (hu:(match u with| .nilIface| .agg _=>False|_=>True)):(eqGuard op t ox oy u v).run P w=.ok () w:=by
 unfold eqGuard;cases op<;>first
  |rfl
  |(simp only [Bool.not_true,Bool.false_eq_true,if_false]
    cases u<;>first|rfl|exact hu.elim)
def jY_ (k:FloatKind) (a:Option Nat) (n:Nat):Prop:=match a with
 |some m=>m=n
 |none=>(k.format.read n).isNaN=true
theorem pd_ {x:AV} {u:Value} (hx:Con E x u) {k:FloatKind} {a:Option Nat} (h:flA x=some (k,a)):∃n,u=.float k n/\jY_ k a n:=by unfold flA at h;all_goals grind [Con,jY_]
theorem jy_ {f:Ieee.Format} {q:Nat} (h:f.infRung<q%f.signWeight) (hb:f.binade<=f.infRung):(f.read q).isNaN=true:=by unfold Ieee.Format.read;rw [if_neg (by omega),if_neg (by omega),if_neg (by omega)];rfl
theorem rY_ {f:Ieee.Format} {q:Nat} (h:(f.read q).isNaN=true):f.infRung<q%f.signWeight:=by unfold Ieee.Format.read at h;simp only at h;split at h;cases h;split at h;cases h;split at h;cases h;omega
theorem tn_ {k:FloatKind} {b:Nat} (h:(k.format.read b).isNaN=true):(k.format.read (Op.negFloat k b)).isNaN=true:=by
 have h1:=rY_ h;have e2:k.format.signWeight=2^(k.format.exponentBits+k.format.fractionBits):=by rfl
 have key:Op.negFloat k b%k.format.signWeight=b%k.format.signWeight:=by
  unfold Op.negFloat;apply Nat.eq_of_testBit_eq
  grind
 exact jy_ (by omega) (by cases k<;>decide)
theorem uR_ (k:FloatKind) (x y t:Nat):(k.format.read ((Question.nanBits k x y).cut t)).isNaN=true:=by
 cases k
 .have e1:FloatKind.f32.format.infRung=2139095040:=(by decide);have e2:FloatKind.f32.format.signWeight=2147483648:=(by decide);have e3:FloatKind.f32.format.binade=8388608:=(by decide);have e4:(Question.nanBits .f32 x y).cut t=(t%2)*2147483648+2139095040+1+(t/2)%8388607:=rfl
  grind [jy_]
 .have e1:FloatKind.f64.format.infRung=9218868437227405312:=(by decide);have e2:FloatKind.f64.format.signWeight=9223372036854775808:=(by decide);have e3:FloatKind.f64.format.binade=4503599627370496:=(by decide);have e4:(Question.nanBits .f64 x y).cut t=(t%2)*9223372036854775808+9218868437227405312+1+(t/2)%4503599627370495:=rfl
  grind [jy_]
theorem tc_ {k:FloatKind} {a b:Option Nat} {m n:Nat} (ha:jY_ k a m) (hb:jY_ k b n):
  fOrd k a b=k.format.order m n:=by
 cases a with
 |none=>exact (eW_ ha n).symm
 |some a=>
  cases b with
  |none=>exact (hR_ hb m).symm
  |some b=>grind [jY_,fOrd]
theorem ii_ {k:FloatKind} {m n:Nat} (h:(k.format.read m).isNaN=true\/(k.format.read n).isNaN=true):
  k.format.add m n=none/\k.format.sub m n=none/\k.format.mul m n=none/\k.format.div m n=none:=by
 unfold Ieee.Format.add Ieee.Format.sub Ieee.Format.mul Ieee.Format.div;generalize k.format.read m=x at*;generalize k.format.read n=y at*;rcases h with h|h
 .cases x<;>simp [Ieee.Datum.isNaN]at h
  cases y<;>refine ⟨?_,?_,?_,?_⟩<;>rfl
 .cases y<;>simp [Ieee.Datum.isNaN]at h
  cases x<;>refine ⟨?_,?_,?_,?_⟩<;>rfl
theorem ec_ (hr:Rel B pr E H w) {k:FloatKind} {f:Nat->Nat->Option Nat} {a b:Option Nat} {m n:Nat} (ha:jY_ k a m)
  (hb:jY_ k b n) (hf:(k.format.read m).isNaN=true\/(k.format.read n).isNaN=true->f m n=none):
  Gives P B pr E w (match f m n with|some r=>pure (.float k r)|none=>do pure (.float k (←choose (.nanBits k m n)))) (mkF k (fW_ f a b),H):=by
 have key:fW_ f a b=f m n:=by
  cases a with
  |none=>exact (hf (.inl ha)).symm
  |some a=>
   cases b with
   |none=>exact (hf (.inr hb)).symm
   |some b=>grind [jY_,fW_]
 rw [key];cases hfm:f m n with
 |some r=>exact Gives.still hr rfl (by rfl)
 |none=>refine ⟨E,.float k ((Question.nanBits k m n).cut (w.tape w.drawn (.nanBits k m n))),{ w with drawn:=w.drawn+1 },?_,Env.le_refl _,hr.drawn _,?_⟩;rfl;exact ⟨_,rfl,uR_ k m n _⟩
theorem Gives.eqv {s s':Sem Value} {r:AV×AHeap} (h:Gives P B pr E w s r) (e:s'.run P w=s.run P w):Gives P B pr E w s' r:=by
 grind [Go.Sx.Gives]
theorem qc_ (hr:Rel B pr E H w) {op:BinOp} {t:TypeId} {k:FloatKind} {a b:Option Nat} {m n:Nat} (ha:jY_ k a m)
  (hb:jY_ k b n) {r:AV} (h:rt_ op k a b=some r):Gives P B pr E w (binOp op t (.float k m) (.float k n)) (r,H):=by
 have ho:=tc_ ha hb;cases op<;>simp only [rt_,Option.some.injEq,reduceCtorEq]at h<;>subst h
 case add=>exact (ec_ hr (f:=k.format.add) ha hb λh=>(ii_ h).1).eqv (by grind [binOp,Op.floatArith])
 case sub=>exact (ec_ hr (f:=k.format.sub) ha hb λh=>(ii_ h).2.1).eqv (by grind [binOp,Op.floatArith])
 case mul=>exact (ec_ hr (f:=k.format.mul) ha hb λh=>(ii_ h).2.2.1).eqv (by grind [binOp,Op.floatArith])
 case quo=>exact (ec_ hr (f:=k.format.div) ha hb λh=>(ii_ h).2.2.2).eqv (by grind [binOp,Op.floatArith])
 all_goals
  rw [ho];exact Gives.still hr (by simp [binOp,Op.floatCmp];rfl) (by rfl)
theorem p9_ (hr:Rel B pr E H w) {op:BinOp} {t:TypeId} {ox oy:Operand} {x y:AV} {u v:Value} (hx:Con E x u) (hy:Con E y v) {r:AV} (h:bI_ P op t (bA_ ox) (bA_ oy) x y=some r):
  Gives P B pr E w (do eqGuard op t ox oy u v;binOp op t u v) (r,H):=by
 unfold bI_ at h;split at h
 .rename_i k a k' b;subst hx hy;have hg:=eP_ (P:=P) (w:=w) (op:=op) (t:=t) (ox:=ox) (oy:=oy) (u:=.int k a) (v:=.int k' b) trivial;have h2':∀r,gW_ P op k a k' b=some r->Gives P B pr E w (do eqGuard op t ox oy (.int k a) (.int k' b);binOp op t (.int k a) (.int k' b)) (r,H):=by
   intro r h;unfold gW_ at h;split at h
   .rename_i v hv;cases h;refine Gives.still hr (v:=v) ?_ (cX_ E v);have e:binOp op t (.int k a) (.int k' b)=binOp op 0 (.int k a) (.int k' b):=by cases op<;>rfl
    grind [Sem.run_bind,Result.andThen_ok,bx_]
   cases h
  unfold cg_ at h;split at h
  .rename_i hk;have hk:=pi_ hk;subst hk;split at h
   .rename_i r' hi;obtain ⟨v,h1,h2⟩:=qd_ (P:=P) hi t w E
    grind [Gives.still,Sem.run_bind,Result.andThen_ok]
   grind
  grind
 .rename_i a b;subst hx hy;have hg:=eP_ (P:=P) (w:=w) (op:=op) (t:=t) (ox:=ox) (oy:=oy) (u:=.string ⟨⟨a⟩⟩) (v:=.string ⟨⟨b⟩⟩) trivial;split at h;cases h;refine Gives.still hr (v:=.bool (eqB a b)) ?_ (by simp [Con]);simp_all [binOp_string_eql,ea_]
  cases h;refine Gives.still hr (v:=.bool (not (eqB a b))) ?_ (by simp [Con]);simp_all [binOp_string_neq,ea_]
  .split at h
   .rename_i hlt;cases h;have hlt:hd_ a+hd_ b<9223372036854775807:=(by simp_all);rw [cF_,cF_]at hlt;refine Gives.still hr (v:=.string (⟨⟨a⟩⟩++⟨⟨b⟩⟩)) ?_ ?_
    .rw [binOp_string_add];have:¬((((ByteArray.mk ⟨a⟩).size+(ByteArray.mk ⟨b⟩).size:Nat):Int)>IntKind.i64.max):=by rw [pJ_,pJ_];have hm:IntKind.i64.max=9223372036854775807:=(by decide);omega
     simp_all [Op.stringOp]
    simp only [Con,oL_];rfl
   cases h
  cases h
 .split at h
  .grind [qb_]
  .split at h
   case h_2=>cases h
   rename_i k a hfa;split at h
   case h_2=>cases h
   rename_i k' b hfb;split at h
   case h_2=>cases h
   rename_i hk;have hk:=of_decide_eq_true hk;subst hk;obtain ⟨m,rfl,ha⟩:=pd_ hx hfa;obtain ⟨n,rfl,hb⟩:=pd_ hy hfb;have hg:=eP_ (P:=P) (w:=w) (op:=op) (t:=t) (ox:=ox) (oy:=oy) (u:=.float k m) (v:=.float k n) trivial;refine (qc_ (t:=t) hr ha hb h).eqv ?_;simp_all
theorem lq_ (hr:Rel B pr E H w) {x:AV} {v:Value} (hx:Con E x v) {xt asserted:TypeId} {ok:Bool} {r:AV} (h:go_ P x asserted ok=some r):
  Gives P B pr E w (Instr.typeAssert v xt asserted ok) (r,H):=by
 unfold go_ at h;split at h;cases h
 .rename_i d hni hd;split at h;cases h;rename_i i hi;split at h;cases h;rename_i z hz;have hzv:(zeroValue asserted).run P w=.ok z w:=(by simp [zeroValue,typeInfo,hi,hz]);cases x<;>simp only [reduceCtorEq]at h
  case nif=>
   subst hx;split at h;cases h;refine Gives.still hr (v:=.tuple #[z,.bool false]) ?_ (by exact ⟨[z,.bool false],rfl,ConL.cons (cX_ E z) (ConL.cons (by simp [Con]) (ConL.nil E))⟩);simp only [Instr.typeAssert,Sem.run_bind,run_underlying hd,Result.andThen_ok];simp_all
   cases h
  case iface t a=>
   obtain ⟨u,rfl,hu⟩:=hx;split at h;rename_i hbt;cases h;have hbt:=Nat.eq_of_beq_eq_true hbt;subst hbt;refine Gives.still hr ?_ (c7_ hu ok true);simp only [Instr.typeAssert,Sem.run_bind,run_underlying hd,Result.andThen_ok];rfl
   .rename_i hbt;have hne:t≠asserted:=λe=>(by simp_all);split at h;cases h;refine Gives.still hr (v:=.tuple #[z,.bool false]) ?_ (by exact ⟨[z,.bool false],rfl,ConL.cons (cX_ E z) (ConL.cons (by simp [Con]) (ConL.nil E))⟩);simp only [Instr.typeAssert,Sem.run_bind,run_underlying hd,Result.andThen_ok];simp_all
    cases h
 cases h
theorem Rel.new_imm (h:Rel B pr E H w) {arr:Array Value} {t:TypeId} {fr:Nat×Nat} {vs:List Value} (hv:∀(i:Nat) (v:Value),vs[i]? =some v->arr[i]? =some v):
  E.le { E with imm:=λb o=>if b=w.heap.size then vs[o]? else E.imm b o }/\Rel B pr { E with imm:=λb o=>if b=w.heap.size then vs[o]? else E.imm b o } H (w.alloc (.cells arr t fr)):=by
 have hne:∀b o v,E.imm b o=some v->b≠w.heap.size:=λb o v hi e=>by
  have:=h.imm b o v hi
  grind [World.cell?]
 have hle:E.le { E with imm:=λb o=>if b=w.heap.size then vs[o]? else E.imm b o }:=⟨⟨λ_ _ h=>h,λ_ _ h=>h,λb o v hi=>by
  grind,rfl,rfl⟩,rfl,rfl,rfl⟩
 refine ⟨hle,?_⟩;obtain ⟨own,g1,g2,g3⟩:=h.own;refine { own:=⟨λb=>if b=w.heap.size then none else own b,λid k hk=>?_,λb hb=>?_,λb o v hi=>?_⟩,imm:=λb o v hi=>?_,ib:=λb o v hb hi=>?_,fresh:=h.fresh,resv:=h.resv,vds:=h.vds,szs:=λb n hn=>?_,prot:=λb hb=>?_,size:=?_,os:=h.os,output:=h.output };refine (g1 id k hk).imp (λ_ h=>h) (λh=>h) λb o e1 e2 e3=>?_;have hlt:=e3.lt;have hb:b≠w.heap.size:=(by omega);exact ⟨(if_neg hb).trans e2,e3.mono hle (aO_ hb)⟩
 .grind
 .grind
 .have hi':(if b=w.heap.size then vs[o]? else E.imm b o)=some v:=hi;by_cases hb:b=w.heap.size
  .grind [World.cell?,cE_]
  rw [if_neg hb]at hi';exact fR_ (h.imm b o v hi')
 have hlt:=Nat.lt_of_lt_of_le (h.prot b hb).1 h.size;have hi:(if b=w.heap.size then vs[o]? else E.imm b o)=some v:=hi;rw [if_neg (by omega)]at hi;exact h.ib b o v hb hi
 .obtain ⟨arr',t',fr',e1,e2⟩:=h.szs b n hn
  grind [aO_]
 .obtain ⟨e1,e2⟩:=h.prot b hb
  grind [aO_]
 have:=h.size;simp;omega
theorem iO_ (hr:Rel B pr E H w) {src dst:TypeId} {x:AV} {v:Value} (hx:Con E x v) {r:AV} (h:de_ P src dst x=some r):Gives P B pr E w (convert src dst v) (r,H):=by
 unfold de_ at h;split at h
 case h_2=>cases h
 rename_i l;split at h
 case h_2=>cases h
 rename_i hs;split at h
 case h_2=>cases h
 rename_i e hd;split at h
 case h_2=>cases h
 rename_i he;cases h;subst hx;obtain ⟨hle,hr'⟩:=(hr.drawn (w.drawn+1)).new_imm (arr:=bytesRow ⟨⟨l⟩⟩ (grownCap w (ByteArray.mk ⟨l⟩).size 0 e)) (t:=e) (fr:=((bytesRow ⟨⟨l⟩⟩ (grownCap w (ByteArray.mk ⟨l⟩).size 0 e)).size,(bytesRow ⟨⟨l⟩⟩ (grownCap w (ByteArray.mk ⟨l⟩).size 0 e)).size+1))
  (vs:=l.map λb=>Value.int .u8 b.toNat) λi v hv=>by
    grind [bytesRow]
 refine ⟨_,_,_,run_bytes_of_string w src dst e ⟨⟨l⟩⟩ hs hd he,hle,hr',?_⟩;refine ⟨w.heap.size,0,l.map λb=>Value.int .u8 b.toNat,grownCap w (ByteArray.mk ⟨l⟩).size 0 e,.inl (by rw [cF_];rfl),by rw [cF_];exact grownCap_ge ..,fQ_ _ l,λi v hv=>?_⟩
 grind
theorem nZ_ (hr:Rel B pr E H w) {src dst:TypeId} {x:AV} {v:Value} (hx:Con E x v) {r:AV} (h:b3_ P H src dst x=some r):Gives P B pr E w (convert src dst v) (r,H):=by
 unfold b3_ at h;split at h
 .rename_i r' h1;cases h;unfold fj_ at h1;split at h1
  case h_2=>cases h1
  rename_i ds hs;split at h1
  case h_3=>cases h1
  .rename_i k hd;split at h1;rename_i j n;cases h1;subst hx;refine Gives.still hr (v:=.int k (k.wrap n)) ?_ (by rw [cA_,cp_];simp [Con]);simp only [convert,Sem.run_bind,run_underlying hs,run_underlying hd,Result.andThen_ok];rfl
   .split at h1
    case h_2=>cases h1
    rename_i n hn;split at h1
    case h_2=>cases h1
    cases h1;simp only [Con]at hx;refine Gives.still hr (v:=.int k n) ?_ (by simp [Con]);simp_all [Conv.floatToInt,convert,run_underlying]
   cases h1
  .rename_i k hd;split at h1
   case h_2=>cases h1
   rename_i j n;cases h1;subst hx;refine Gives.still hr (v:=.float k (k.nearest n)) ?_ (by simp [Con]);simp only [convert,Sem.run_bind,run_underlying hs,run_underlying hd,Result.andThen_ok];rfl
 grind [iM_,iO_]
theorem Rel.mark (h:Rel B pr E H w) {id:Nat} {k:ABlk} (hk:H.get id=some k) {b o:Nat} (hφ:E.φ id=some (b,o)) {arr:Array Value} {t:TypeId} {fr0 fr:Nat×Nat} (hg:w.heap[b]? =some (.cells arr t fr0)) {o0:Nat} {vs:List Value}
  (hv:∀(i:Nat) (v:Value),vs[i]? =some v->arr[o0+i]? =some v) (hnv:¬Void E k:=by exact λh=>h):
  E.le { E with imm:=λb' o'=>if b'=b then (if o0<=o' then vs[o'-o0]? else none)else E.imm b' o' }/\
  Rel B pr { E with imm:=λb' o'=>if b'=b then (if o0<=o' then vs[o'-o0]? else none)else E.imm b' o' } (H.erase id) { w with heap:=w.heap.setIfInBounds b (.cells arr t fr) }:=by
 obtain ⟨own,g1,g2,g3⟩:=h.own;obtain ⟨_,hvoid⟩|⟨b',o',hφ',hown,hb⟩:=g1 id _ hk
 .grind
 rw [hφ]at hφ';cases hφ';have hblt:=getElem?_lt_of_some hg;have hother:∀j,j≠b->(w.heap.setIfInBounds b (.cells arr t fr))[j]? =w.heap[j]? :=λj hj=>by
  grind
 have hsame:(w.heap.setIfInBounds b (.cells arr t fr))[b]? =some (.cells arr t fr):=by
  grind
 have hne:∀b' o v,E.imm b' o=some v->b'≠b:=λb' o v hi e=>by
  grind
 have hle:E.le { E with imm:=λb' o'=>if b'=b then (if o0<=o' then vs[o'-o0]? else none)else E.imm b' o' }:=⟨⟨λ_ _ h=>h,λ_ _ h=>h,λb' o' v hi=>by
  grind,rfl,rfl⟩,rfl,rfl,rfl⟩
 have hbn:∀b',pr b'->b'≠b:=λb' hp e=>by grind
 refine ⟨hle,?_⟩;refine { own:=⟨λb'=>if b'=b then none else own b',λid' k' hk'=>?_,λb' hb'=>?_,λb' o' v hi=>?_⟩,imm:=λb' o' v hi=>?_,ib:=λb' o' v hb' hi=>?_,fresh:=h.fresh,resv:=h.resv,vds:=h.vds,szs:=λb' n hn=>?_,prot:=λb' hb'=>?_,size:=by simpa using h.size,os:=h.os,output:=h.output };have hne':id≠id':=(by grind [AHeap.get_erase_same]);rw [AHeap.get_erase_ne H hne']at hk';refine (g1 id' k' hk').imp (λ_ h=>h) (λh=>h) λb2 o2 e1 e2 e3=>?_;have hb2:b2≠b:=(by grind);exact ⟨(if_neg hb2).trans e2,e3.mono hle (hother b2 hb2)⟩
 .grind
 .grind
 .have hi':(if b'=b then (if o0<=o' then vs[o'-o0]? else none)else E.imm b' o')=some v:=hi;by_cases e:b'=b
  .grind [World.cell?]
  .rw [if_neg e]at hi';have:=h.imm b' o' v hi'
   grind [World.cell?]
 have hi':(if b'=b then (if o0<=o' then vs[o'-o0]? else none)else E.imm b' o')=some v:=hi;rw [if_neg (hbn b' hb')]at hi';exact h.ib b' o' v hb' hi'
 .obtain ⟨arr2,t2,fr2,e1,e2⟩:=h.szs b' n hn
  grind
 exact ⟨(h.prot b' hb').1,(hother b' (hbn b' hb')).trans (h.prot b' hb').2⟩
theorem sh_ {b off:Nat} {arr:Array Value} {t:TypeId} (hg:w.heap[b]? =some (.cells arr t (0,0))):(markStringish ⟨b,off,none⟩).run P w=.ok () { w with heap:=w.heap.setIfInBounds b (.cells arr t (arr.size,arr.size+1)) }:=by
 have hb:=getElem?_lt_of_some hg;have hs:w.shape? b=some (t,arr.size):=by simp [World.shape?,hg]
 have hf:w.freeze ⟨b,arr.size,none⟩ 1={ w with heap:=w.heap.setIfInBounds b (.cells arr t (arr.size,arr.size+1)) }:=by
  unfold World.freeze;rw [if_neg (by decide)]
  congr 1
  grind
 simp [markStringish,hs,hf]
theorem mB_ (hr:Rel B pr E H w) {src dst:TypeId} {x:AV} {v:Value} (hx:Con E x v) {r:AV×AHeap} (h:lr_ P H src dst x=some r):Gives P B pr E w (convert src dst v) r:=by
 unfold lr_ at h;split at h
 case h_2=>cases h
 rename_i id off len sz cap;split at h
 case h_1=>cases h
 rename_i n;split at h
 case h_2=>cases h
 rename_i hsb;split at h
 case h_2=>cases h
 rename_i l hl;cases h;obtain ⟨hz1,hs1⟩:=aa_ hsb;unfold si_ at hs1;obtain ⟨hs2,hs3⟩:=aa_ hs1;have e1:=Nat.eq_of_beq_eq_true hz1;have e2:=Nat.eq_of_beq_eq_true hs2;have hu:∃e,P.underlying src=some (.slice e)/\P.underlying e=some (.int .u8):=by
  grind [u8s]
 obtain ⟨e,hs,he⟩:=hu;subst e1 e2;obtain ⟨b,o,m,c,off',hφ,hsz,rfl,hoff,hle,hfit,_⟩:=hx;obtain rfl:=hoff (by omega);have hp:Con E (.ptr id off') (.pointer (some ⟨b,o+off',none⟩)):=by simp only [Con];grind
 obtain ⟨b2,o2,vs,e3,hlen,hL,hcell⟩:=bv_ hr hp hl;cases e3;have hk:∃cs,H.get id=some (.cells cs):=by
  cases hg:H.get id with
  |none=>grind [aV_]
  |some k=>cases k with
   |cells cs=>simp
   |map es c=>grind [aV_]
   |syl j=>grind [aV_]
   |fz cs=>grind [aV_]
   |mpl j=>grind [aV_]
 obtain ⟨cs,hk⟩:=hk;obtain ⟨arr,t,hg,_,_,_⟩:=hr.blk hk hφ;obtain ⟨hle',hr'⟩:=hr.mark (fr:=(arr.size,arr.size+1)) hk hφ hg (o0:=o+off') (vs:=vs) λi v hv=>by
  grind [World.cell?]
 refine ⟨_,.slice (some ⟨b,o+off',none⟩) (n+1) c,_,?_,hle',hr',?_⟩;simp [convert,run_underlying hs,run_underlying he,sh_ hg]
 .refine ⟨b,o+off',vs,c,.inl rfl,hle,hL.mono hle',λi v hv=>?_⟩
  grind
theorem mA_ (hr:Rel B pr E H w) {src dst:TypeId} {x:AV} {v:Value} (hx:Con E x v) {r:AV×AHeap} (h:fk_ P H src dst x=some r):Gives P B pr E w (convert src dst v) r:=by
 grind [fk_,nZ_,mB_]
theorem lv_ (hr:Rel B pr E H w) {t:TypeId} {x i:AV} {v u:Value} (hx:Con E x v) (hi:Con E i u) {r:AV} (h:eH_ P t x i=some r):Gives P B pr E w (Instr.index t v u) (r,H):=by
 unfold eH_ at h;split at h
 case h_2=>cases h
 rename_i hd;split at h
 case h_2=>cases h
 rename_i s;split at h
 case h_2=>cases h
 rename_i k n;split at h
 case h_2=>cases h
 rename_i b hb;cases h;simp only [Con]at hx hi;rw [pv_]at hb;refine Gives.still hr (v:=.int .u8 b.toNat) ?_ (by simp [mkB,cA_,Con]);have h0:(0:Int)<=Int.ofNat n:=Int.natCast_nonneg n;have hlt:n<s.length:=by
  grind
 have hg:(ByteArray.mk ⟨s⟩)[n]? =some b:=by rw [ByteArray.getElem?_lt' _ _ (by exact hlt)];rw [List.getElem?_eq_getElem hlt]at hb;exact hb
 simp only [Instr.index,asIntOf,Sem.run_bind,Sem.run_pure,Result.andThen_ok,run_underlying hd,h0,if_true];simp_all
theorem j2_ {t:TypeId} (h:ff_ P t=true) (x:Value):(Instr.makeInterface t x).run P w=.ok (.iface t x) w:=by
 refine run_makeInterface w t x ?_;unfold ff_ at h;unfold Program.concrete
 grind
theorem al_ {α:Type} {a:Array α} {l:List α} (h:a.toList=l):a=⟨l⟩:=by grind
theorem gZ_ (hr:Rel B pr E H w) {ρ:Operand->AV} {σ:Operand->Value} (hσ:∀x,Con E (ρ x) (σ x)) {o:Oper} {r:ORes} (h:aB_ P ρ H o=some r):OpOk P B pr E w (execOp σ o) r:=by
 unfold aB_ at h;unfold execOp;split at h<;>rename_i hop<;>simp only [hop]
 case h_1 x=>cases h;exact ⟨E,_,σ x,w,rfl,.inl rfl,Env.le_refl _,hr,hσ x⟩
 case h_2 x=>cases h;exact ⟨E,_,σ x,w,rfl,.inl rfl,Env.le_refl _,hr,hσ x⟩
 case h_3 c a b=>
  have hc:=hσ c;split at h;rename_i hv;cases h;rw [hv]at hc;simp only [Con]at hc;exact ⟨E,_,σ a,w,by simp [hc,asBool],.inl rfl,Env.le_refl _,hr,hσ a⟩;rename_i hv;cases h;rw [hv]at hc;simp only [Con]at hc;exact ⟨E,_,σ b,w,by simp [hc,asBool],.inl rfl,Env.le_refl _,hr,hσ b⟩;cases h
 case h_4 t=>grind [OpOk.oP,mx_]
 case h_5 t x=>grind [OpOk.oP,qa_]
 case h_6 t parts=>
  refine OpOk.oV h λa ha=>?_;obtain ⟨h1,h2⟩:=ej_ hσ parts.toList;have e:(parts.map λp=>(p.1,σ p.2)).toList=parts.toList.map λp=>(p.1,σ p.2):=by simp
  grind [mz_]
 case h_7 t n parts=>
  refine OpOk.oP h λa ha=>?_;obtain ⟨h1,h2⟩:=ej_ hσ parts.toList;have e:(parts.map λp=>(p.1,σ p.2)).toList=parts.toList.map λp=>(p.1,σ p.2):=by simp
  grind [gV_]
 case h_8 t a=>grind [OpOk.oV,n2_]
 case h_9 t a x=>
  unfold oP at h;split at h
  .rename_i p hp;cases h;obtain ⟨w',h1,h2⟩:=hH_ hr (hσ a) (hσ x) hp;have h3:p.1=.tup []:=by
    unfold ci_ at hp;repeat' (split at hp<;>first|(cases hp;done)|skip)
    cases hp;rfl
   refine ⟨E,.skip,undef,w',by simp [h1],.inr ⟨rfl,rfl⟩,Env.le_refl _,h2,?_⟩
   grind [Con,undef,ConL]
  cases h
 case h_10 x=>
  have hx:=hσ x;split at h;rename_i id off hv;cases h;rw [hv]at hx;have hx0:=hx;obtain ⟨b,o,hφ,he⟩:=hx;exact ⟨E,_,σ x,w,by rw [he];rfl,.inl rfl,Env.le_refl _,hr,hx0⟩;rename_i cs hv;cases h;rw [hv]at hx;have hx0:=hx;obtain ⟨b,o,vs,he,_⟩:=hx;exact ⟨E,_,σ x,w,by rw [he];rfl,.inl rfl,Env.le_refl _,hr,hx0⟩;cases h
 case h_11 op t x y _=>grind [OpOk.oV,p9_]
 case h_12 s d x=>grind [OpOk.oP,mA_]
 case h_13 t x i=>grind [OpOk.oV,lv_]
 case h_14 op _ x=>
  refine OpOk.oV h λp hp=>?_;unfold o9_ at hp;have hx:=hσ x;split at hp;split at hp;rename_i b hv;cases hp;rw [hv]at hx;rw [hx];exact Gives.still hr (v:=.bool (!b)) rfl (by simp [Con]);cases hp;split at hp;rename_i k n hv;cases hp;rw [hv]at hx;rw [hx];exact Gives.still hr (v:=.int k (k.wrap (0-n))) rfl (by rw [cA_,cp_];simp [Con]);rename_i k b hv;cases hp;rw [hv]at hx;rw [hx];exact Gives.still hr (v:=.float k (Op.negFloat k b)) rfl (by simp [Con]);rename_i k hv;cases hp;rw [hv]at hx;obtain ⟨b,h1,h2⟩:=hx;rw [h1];exact Gives.still hr (v:=.float k (Op.negFloat k b)) rfl (by exact ⟨_,rfl,tn_ h2⟩);cases hp;split at hp;rename_i k n hv;cases hp;rw [hv]at hx;rw [hx];exact Gives.still hr (v:=.int k (k.wrap ((BitVec.ofInt k.bits (if k.signed then -1 else k.max)^^^BitVec.ofInt k.bits n).toNat:Int))) rfl (by rw [cA_,cp_];simp [Con]);cases hp;cases hp
 case h_15 t x=>
  split at h
  .rename_i hc;cases h;refine ⟨E,_,.iface t (σ x),w,by simp_all [j2_],.inl rfl,Env.le_refl _,hr,?_⟩;simp only [Con]
   grind
  cases h
 case h_16 fn first captured=>
  split at h;rename_i f;split at h;rename_i hf;cases h;have hf:=al_ hf;subst hf;refine ⟨E,_,.func (.func f) #[] (captured.map σ),w,by simp [Instr.makeFunc],.inl rfl,Env.le_refl _,hr,?_⟩;refine ⟨captured.toList.map σ,by cases captured;simp,eT_ hσ _⟩;cases h;cases h
 case h_17 t r'=>
  grind [OpOk.oP,j6_]
 case h_18 t l c=>grind [OpOk.oP,eq_]
 case h_19 t x lo hi mx=>
  split at h;exact OpOk.oV h λp hp=>eK_ hr (hσ x) (mW_ hσ lo) (mW_ hσ hi) hp;cases h
 case h_20 s x f=>grind [OpOk.oV,hF_]
 case h_21 s x f=>grind [OpOk.oV,lu_]
 case h_22 t x ix=>grind [OpOk.oV,cR_]
 case h_23 t x ix ok=>grind [OpOk.oV,gq_]
 case h_24 t m k x=>
  unfold oP at h;split at h
  .rename_i p hp;cases h;obtain ⟨w',h1,h2,h3⟩:=bZ_ hr (hσ m) (hσ k) (hσ x) hp;refine ⟨E,.skip,undef,w',by simp [h1],.inr ⟨rfl,rfl⟩,Env.le_refl _,h2,?_⟩
   grind [Con,undef,ConL]
  cases h
 case h_25 t m k x=>
  unfold oP at h;split at h
  .rename_i p hp;cases h;obtain ⟨w',h1,h2,h3⟩:=bZ_ hr (hσ m) (hσ k) (hσ x) hp;refine ⟨E,.skip,undef,w',by simp [h1],.inr ⟨rfl,rfl⟩,Env.le_refl _,h2,?_⟩
   grind [Con,undef,ConL]
  cases h
 case h_26 x _ asserted ok=>grind [OpOk.oV,lq_]
 case h_27 t ix=>grind [OpOk.oV,j4_]
 case h_28 c=>
  obtain ⟨callee,args,argTypes⟩:=c;unfold eb_ at h;simp only at h;split at h
  .rename_i f;have hf:=hσ f;split at h
   .rename_i g cap hv;split at h;cases h;rw [hv]at hf;obtain ⟨cs,he,hcs⟩:=hf;refine ⟨args.toList.map σ++cs,?_,by rw [ld_];exact (eT_ hσ _).append hcs⟩;simp_all [resolve,Deferred.ofValue,invoke,d6_]
    cases h
   cases h
  .split at h
   .split at h
    .rename_i x t h1 h2;have h1:=al_ h1;have h2:=al_ h2
     grind [resolve,invoke,builtin,OpOk.oV,qf_]
    cases h
   .split at h
    .rename_i s x t tx h1 h2;have h1:=al_ h1;have h2:=al_ h2
     grind [resolve,invoke,builtin,OpOk.oP,lp_]
    cases h
   .split at h
    .rename_i d s t tx h1 h2;have h1:=al_ h1;have h2:=al_ h2
     grind [resolve,invoke,builtin,OpOk.oP,n0_]
    cases h
   all_goals grind [OpOk,resolve,Sem.run_pure,invoke,builtin]
  cases h
 case h_29 c=>
  obtain ⟨callee,args,argTypes⟩:=c;unfold lt_ at h;simp only at h;split at h
  .rename_i f;have hf:=hσ f;split at h
   .rename_i g hv;split at h
    .rename_i hcall;cases h;rw [hv]at hf;obtain ⟨cs,he,rfl⟩:=hf;refine ⟨args.toList.map σ,?_,eT_ hσ _,hcall⟩;simp [resolve,he,Deferred.ofValue]
     grind
    cases h
   cases h
  cases h
 case h_30 x=>
  have hx:=hσ x;split at h;rename_i t a hv;cases h;rw [hv]at hx;have hx0:=hx;obtain ⟨u,he,_⟩:=hx;simp_all [Instr.panic,OpOk]
  cases h
 grind
end
end Go.Sx
