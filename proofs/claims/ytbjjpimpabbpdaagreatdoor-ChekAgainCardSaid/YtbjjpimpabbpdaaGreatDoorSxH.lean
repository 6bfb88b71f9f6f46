/-
  One operation of the evaluator, and that the model's does the same.
-/
import Derived.Test.YtbjjpimpabbpdaaGreatDoorSxG
import Derived.Laws.IdiomStrings
set_option linter.unusedVariables false
set_option linter.unusedSimpArgs false
namespace Go.Sx
inductive ORes where
 |val (a:AV) (H:AHeap)
 |call (f:FuncId) (args:List AV)
 |dfr (f:FuncId) (args:List AV)
 |pan (a:AV)
 |rcv
def iL_ (ρ:Operand->AV):List Operand->List AV
 |[]=>[]
 |x::r=>ρ x::iL_ ρ r
def cG_ (ρ:Operand->AV):List (Nat×Operand)->List (Nat×AV)
 |[]=>[]
 |(i,x)::r=>(i,ρ x)::cG_ ρ r
def nN_ (ρ:Operand->AV):Option Operand->Option AV
 |none=>none
 |some x=>some (ρ x)
def jo_:List AV->List AV->List AV
 |[],l=>l
 |a::r,l=>a::jo_ r l
theorem kE_:∀a b:List AV,jo_ a b=a++b
 |[],b=>rfl
 |x::r,b=>by simp [jo_,kE_ r b]
def bR_ (P:Program) (f:FuncId):Bool:=match P.funcs[f]? with
 |some fn=>match fn.body with
  |some _=>not (fn.name== "runtime.NumGoroutine")
  |none=>false
 |none=>false
theorem dR_ {P:Program} {f:FuncId} (h:bR_ P f=true) (args:Array Value) (w:World):(callFunc f args).run P w=.ok (.enter f args) w:=by unfold bR_ at h;split at h;rename_i fn hfn;split at h;rename_i c hc;have hn:(fn.name== "runtime.NumGoroutine")=false:=(by simpa using h);have hb:fn.body.isNone=false:=(by rw [hc];rfl);simp only [callFunc,Sem.run_bind,run_program,Result.andThen_ok,hfn,hn,hb,Bool.false_eq_true,if_false,Sem.run_pure];cases h;cases h
def fM_ (ρ:Operand->AV):List Operand->Bool
 |[]=>true
 |x::r=>match plain (ρ x)with
  |some _=>fM_ ρ r
  |none=>false
def tD_:Op->Bool
 | .select _ _=>false
 |_=>true
def h3_ (a:AV):Value:=match plain a with
 |some v=>v
 |none=>.tuple #[]
def e6_ (P:Program) (ρ:Operand->AV) (H:AHeap) (o:Oper):Option ORes:=match tD_ o.op&&fM_ ρ o.op.operands.toList with
 |true=>match aD_ P (execOp (λx=>h3_ (ρ x)) o)with
  |some (.value v)=>some (.val (ofV v) H)
  |some .skip=>some (.val (.tup []) H)
  |_=>none
 |false=>none
def flA:AV->Option (FloatKind×Option Nat)
 | .flt k b=>some (k,some b)
 | .nan k=>some (k,none)
 |_=>none
def mkF (k:FloatKind) (r:Option Nat):AV:=match r with
 |some n=>.flt k n
 |none=>.nan k
def fOrd (k:FloatKind) (a b:Option Nat):Option Ordering:=match a with
 |some a=>match b with
  |some b=>k.format.order a b
  |none=>none
 |none=>none
def gC_ (f:Nat->Nat->Option Nat) (a b:Option Nat):Option Nat:=match a with
 |some a=>match b with
  |some b=>f a b
  |none=>none
 |none=>none
def qH_ (op:BinOp) (k:FloatKind) (a b:Option Nat):Option AV:=match op with
 | .add=>some (mkF k (gC_ k.format.add a b))
 | .sub=>some (mkF k (gC_ k.format.sub a b))
 | .mul=>some (mkF k (gC_ k.format.mul a b))
 | .quo=>some (mkF k (gC_ k.format.div a b))
 | .eql=>some (.bool (fOrd k a b==some .eq))
 | .neq=>some (.bool (fOrd k a b !=some .eq))
 | .lss=>some (.bool (fOrd k a b==some .lt))
 | .leq=>some (.bool (fOrd k a b==some .lt||fOrd k a b==some .eq))
 | .gtr=>some (.bool (fOrd k a b==some .gt))
 | .geq=>some (.bool (fOrd k a b==some .gt||fOrd k a b==some .eq))
 |_=>none
def kS_:AV->Bool
 | .int _ _| .flt _ _| .nan _| .str _| .opq| .sym _| .slx _ _ _| .ptx _ _ _ _=>false
 |_=>true
def r2_:List UInt8->List UInt8->List UInt8
 |[],l=>l
 |a::r,l=>a::r2_ r l
theorem oj_:∀a b:List UInt8,r2_ a b=a++b
 |[],b=>rfl
 |x::r,b=>by simp [r2_,oj_ r b]
def kix:IntKind->Nat
 | .i8=>0
 | .i16=>1
 | .i32=>2
 | .i64=>3
 | .u8=>4
 | .u16=>5
 | .u32=>6
 | .u64=>7
theorem k9_ {k k':IntKind} (h:Nat.beq (kix k) (kix k')=true):k=k':=by cases k<;>cases k'<;>first|rfl|(exact absurd h (by decide))
def gy_ (P:Program) (op:BinOp) (k:IntKind) (a:Int) (k':IntKind) (b:Int):Option AV:=match aD_ P (binOp op 0 (.int k a) (.int k' b))with
 |some v=>some (ofV v)
 |none=>none
def dW_ (P:Program) (op:BinOp) (k:IntKind) (a:Int) (k':IntKind) (b:Int):Option AV:=match Nat.beq (kix k) (kix k')with
 |true=>match l7_ op k a b with
  |some r=>some r
  |none=>gy_ P op k a k' b
 |false=>gy_ P op k a k' b
def bU_ (P:Program) (op:BinOp) (t:TypeId) (cx cy:Bool) (x y:AV):Option AV:=match x,y with
 | .int k a,.int k' b=>dW_ P op k a k' b
 | .str a,.str b=>match op with
   | .eql=>some (.bool (eqB a b))
   | .neq=>some (.bool (not (eqB a b)))
   | .add=>match Nat.blt (Nat.add (gO_ a) (gO_ b)) 9223372036854775807 with
     |true=>some (.str (r2_ a b))
     |false=>none
   |_=>none
 |x,y=>match kS_ x with
  |true=>match op with
   | .eql=>oA_ P false t cx cy x y
   | .neq=>oA_ P true t cx cy x y
   |_=>none
  |false=>match flA x with
   |some (k,a)=>match flA y with
    |some (k',b)=>match decide (k=k')with
     |true=>qH_ op k a b
     |false=>none
    |none=>none
   |none=>none
def oV (H:AHeap) (r:Option AV):Option ORes:=match r with
 |some a=>some (.val a H)
 |none=>none
def oP (r:Option (AV×AHeap)):Option ORes:=match r with
 |some p=>some (.val p.1 p.2)
 |none=>none
def dV_ (P:Program) (ρ:Operand->AV) (H:AHeap) (c:Call):Option ORes:=match c.callee with
 | .value f=>match ρ f with
   | .fn g cap=>match bR_ P g with
     |true=>some (.call g (jo_ (iL_ ρ c.args.toList) cap))
     |false=>none
   |_=>none
 | .builtin b=>match b with
   | .len=>match c.args.toList,c.argTypes.toList with
     |[x],[t]=>oV H (ce_ P H t (ρ x))
     |_,_=>none
   | .append=>match c.args.toList,c.argTypes.toList with
     |[s,x],[t,tx]=>oP (fY_ P H t tx (ρ s) (ρ x))
     |_,_=>none
   | .copy=>match c.args.toList,c.argTypes.toList with
     |[d,s],[t,_]=>oP (kW_ P H t (ρ d) (ρ s))
     |_,_=>none
   | .recover=>match c.args.toList with
     |[]=>some .rcv
     |_=>none
   |_=>none
 |_=>none
def kX_ (P:Program) (ρ:Operand->AV) (c:Call):Option ORes:=match c.callee with
 | .value f=>match ρ f with
   | .fn g []=>match bR_ P g with
     |true=>some (.dfr g (iL_ ρ c.args.toList))
     |false=>none
   |_=>none
 |_=>none
def fZ_ (P:Program) (x:AV) (asserted:TypeId) (ok:Bool):Option AV:=match P.underlying asserted with
 |some (.interface _)=>none
 |some _=>match P.info? asserted with
  |none=>none
  |some i=>match i.zero with
   |none=>none
   |some z=>match x with
    | .nif=>match ok with
      |true=>some (.tup [ofV z,.bool false])
      |false=>none
    | .iface t v=>match Nat.beq t asserted with
      |true=>some (iS_ ok v true)
      |false=>match ok with
       |true=>some (.tup [ofV z,.bool false])
       |false=>none
    |_=>none
 |none=>none
def f1_ (P:Program) (s d:TypeId) (x:AV):Option AV:=match P.underlying s with
 |some _=>match P.underlying d with
  |some (.int k)=>match x with
   | .int _ n=>some (mkI k (el_ k n))
   | .flt f b=>match (f.decode b).toInt .zero with
     |some n=>match decide (k.min<=n/\n<=k.max)with
      |true=>some (.int k n)
      |false=>none
     |none=>none
   |_=>none
  |some (.float k)=>match x with
   | .int _ n=>some (.flt k (k.nearest n))
   |_=>none
  |_=>none
 |none=>none
def fA_ (P:Program) (s d:TypeId) (x:AV):Option AV:=match x with
 | .str l=>match P.underlying s with
   |some .string=>match P.underlying d with
    |some (.slice e)=>match P.underlying e with
     |some (.int .u8)=>some (.vsl (gO_ l) 1 (ft_ l))
     |_=>none
    |_=>none
   |_=>none
 |_=>none
def co_ (P:Program) (H:AHeap) (s d:TypeId) (x:AV):Option AV:=match f1_ P s d x with
 |some r=>some r
 |none=>match b4_ P H s d x with
  |some r=>some r
  |none=>fA_ P s d x
def u8s (P:Program) (s:TypeId):Bool:=match P.underlying s with
 |some (.slice e)=>match P.underlying e with
  |some (.int .u8)=>true
  |_=>false
 |_=>false
def rn_ (P:Program) (s d:TypeId):Bool:=Nat.beq s d&&u8s P s
def kV_ (P:Program) (H:AHeap) (s d:TypeId) (x:AV):Option (AV×AHeap):=match x with
 | .sl id off len sz _=>match len with
   |0=>none
   |n+1=>match Nat.beq sz 1&&rn_ P s d with
    |true=>match aS_ H (.ptr id off) (Nat.succ n)with
     |some l=>some (.vsl (Nat.succ n) 1 l,H.erase id)
     |none=>none
    |false=>none
 |_=>none
def e2_ (P:Program) (H:AHeap) (s d:TypeId) (x:AV):Option (AV×AHeap):=match co_ P H s d x with
 |some a=>some (a,H)
 |none=>kV_ P H s d x
def q8_:List UInt8->Nat->Option UInt8
 |[],_=>none
 |b::_,0=>some b
 |_::r,n+1=>q8_ r n
theorem oT_:∀(l:List UInt8) (n:Nat),q8_ l n=l[n]?
 |[],n=>by simp [q8_]
 |b::r,0=>rfl
 |b::r,n+1=>by simp [q8_,oT_ r n]
def mkB (b:UInt8):AV:=mkI .u8 (.ofNat b.toNat)
def ew_ (P:Program) (t:TypeId) (x i:AV):Option AV:=match P.underlying t with
 |some .string=>match x with
  | .str s=>match i with
    | .int _ (.ofNat n)=>match q8_ s n with
      |some b=>some (mkB b)
      |none=>none
    |_=>none
  |_=>none
 |_=>none
def oB_ (op:UnOp) (x:AV):Option AV:=match op with
 | .not=>match x with
   | .bool b=>some (.bool (not b))
   |_=>none
 | .neg=>match x with
   | .int k n=>some (mkI k (el_ k (0-n)))
   | .flt k b=>some (.flt k (Op.negFloat k b))
   | .nan k=>some (.nan k)
   |_=>none
 |_=>none
def eY_ (P:Program) (t:TypeId):Bool:=match P.underlying t with
 |some (.interface _)=>false
 |some _=>true
 |none=>false
def aC_ (P:Program) (ρ:Operand->AV) (H:AHeap) (o:Oper):Option ORes:=match o.op with
 | .move x=>some (.val (ρ x) H)
 | .assign x=>some (.val (ρ x) H)
 | .pick c a b=>match ρ c with
   | .bool true=>some (.val (ρ a) H)
   | .bool false=>some (.val (ρ b) H)
   |_=>none
 | .alloc t=>oP (e1_ P H t)
 | .box _ x=>oP (l3_ H (ρ x))
 | .build t parts=>oV H (f0_ P t (cG_ ρ parts.toList))
 | .buildSlice t n parts=>oP (bg_ P H t n (cG_ ρ parts.toList))
 | .load t a=>oV H (bk_ P H t (ρ a))
 | .store t a x=>oP (cf_ P H t (ρ a) (ρ x))
 | .nilCheck x=>match ρ x with
   | .ptr id off=>some (.val (.ptr id off) H)
   | .vptr cs=>some (.val (.vptr cs) H)
   |_=>none
 | .binOp op t x y _=>oV H (bU_ P op t (bi_ x) (bi_ y) (ρ x) (ρ y))
 | .convert s d x=>oP (e2_ P H s d (ρ x))
 | .index t x i=>oV H (ew_ P t (ρ x) (ρ i))
 | .unOp op _ x=>oV H (oB_ op (ρ x))
 | .makeInterface t x=>match eY_ P t with
   |true=>some (.val (.iface t (ρ x)) H)
   |false=>none
 | .makeFunc fn first captured=>match fn with
   | .func f=>match first.toList with
     |[]=>some (.val (.fn f (iL_ ρ captured.toList)) H)
     |_=>none
   |_=>none
 | .makeMap t r=>match r with
   |none=>oP (e5_ P H t)
   |some _=>none
 | .makeSlice t l c=>oP (b6_ P H t (ρ l) (ρ c))
 | .slice t x lo hi mx=>match mx with
   |none=>oV H (a0_ P H t (ρ x) (nN_ ρ lo) (nN_ ρ hi))
   |some _=>none
 | .fieldAddr s x f=>oV H (bX_ P s (ρ x) f)
 | .field s x f=>oV H (ev_ P s (ρ x) f)
 | .indexAddr t x ix=>oV H (aR_ P t (ρ x) (ρ ix))
 | .lookup t x ix ok=>oV H (cx_ P H t (ρ x) (ρ ix) ok)
 | .mapUpdate t m k x=>oP (bu_ P H t (ρ m) (ρ k) (ρ x))
 | .insert t m k x=>oP (bu_ P H t (ρ m) (ρ k) (ρ x))
 | .typeAssert x _ asserted ok=>oV H (fZ_ P (ρ x) asserted ok)
 | .extract t ix=>oV H (e3_ (ρ t) ix)
 | .call c=>dV_ P ρ H c
 | .defer c=>kX_ P ρ c
 | .panic x=>match ρ x with
   | .iface t v=>some (.pan (.iface t v))
   |_=>none
 |_=>none
section
variable {P:Program} {B:World} {pr:Nat->Prop} {E:Env} {H:AHeap} {w:World}
def OpOk (P:Program) (B:World) (pr:Nat->Prop) (E:Env) (w:World) (s:Sem Next):ORes->Prop
 | .val a H'=>∃E' n v w',s.run P w=.ok n w'/\(n=.value v\/(n=.skip/\v=undef))/\E.le E'/\Rel B pr E' H' w'/\Con E' a v
 | .call f args=>∃vs,s.run P w=.ok (.enter f ⟨vs⟩) w/\ConL E args vs
 | .dfr f args=>∃vs,s.run P w=.ok (.defer { target:=.fn (.func f) #[],args:=⟨vs⟩ }) w/\ConL E args vs/\bR_ P f=true
 | .pan a=>∃v,s.run P w=.halt (.panic v) w/\Con E a v
 | .rcv=>s.run P w=.ok .recover w
theorem OpOk.of_gives {s:Sem Value} {a:AV} {H':AHeap} (h:Gives P B pr E w s (a,H')):OpOk P B pr E w (do pure (.value (←s))) (.val a H'):=by obtain ⟨E',v,w',h1,h2,h3,h4⟩:=h;exact ⟨E',.value v,v,w',by simp [h1],.inl rfl,h2,h3,h4⟩
theorem OpOk.oV {s:Sem Value} {x:Option AV} {r:ORes} (h:oV H x=some r) (hg:∀a,x=some a->Gives P B pr E w s (a,H)):OpOk P B pr E w (do pure (.value (←s))) r:=by unfold Sx.oV at h;split at h;cases h;exact OpOk.of_gives (hg _ rfl);cases h
theorem OpOk.oP {s:Sem Value} {x:Option (AV×AHeap)} {r:ORes} (h:oP x=some r) (hg:∀p,x=some p->Gives P B pr E w s p):OpOk P B pr E w (do pure (.value (←s))) r:=by unfold Sx.oP at h;split at h;cases h;exact OpOk.of_gives (hg _ rfl);cases h
theorem eF_ {ρ:Operand->AV} {σ:Operand->Value} (h:∀x,Con E (ρ x) (σ x)):∀l:List Operand,ConL E (iL_ ρ l) (l.map σ)
 |[]=>by simp [iL_,ConL]
 |x::r=>ConL.cons (h x) (eF_ h r)
theorem d7_ {ρ:Operand->AV} {σ:Operand->Value} (h:∀x,Con E (ρ x) (σ x)):∀l:List (Nat×Operand),ConL E ((cG_ ρ l).map (·.2)) ((l.map λp=>(p.1,σ p.2)).map (·.2))/\
  (l.map λp=>(p.1,σ p.2)).map (·.1)=(cG_ ρ l).map (·.1)
 |[]=>by simp [cG_,ConL]
 |(i,x)::r=>by obtain ⟨h1,h2⟩:=d7_ h r;exact ⟨ConL.cons (h x) h1,by simp only [List.map_cons,cG_];rw [h2]⟩
theorem mx_ {ρ:Operand->AV} {σ:Operand->Value} (h:∀x,Con E (ρ x) (σ x)) (x:Option Operand):lE_ E (nN_ ρ x) (x.map σ):=by
 cases x with
 |none=>rfl
 |some x=>exact ⟨σ x,rfl,h x⟩
theorem l9_ (hr:Rel B pr E H w) {ρ:Operand->AV} {σ:Operand->Value} (hσ:∀x,Con E (ρ x) (σ x)) {o:Oper} {r:ORes} (h:e6_ P ρ H o=some r):OpOk P B pr E w (execOp σ o) r:=by
 unfold e6_ at h;split at h
 case h_2=>cases h
 rename_i hb;obtain ⟨hsel,hall⟩:=aa_ hb;have heq:execOp σ o=execOp (λx=>h3_ (ρ x)) o:=by
  refine execOp_congr o (λcs b e=>?_) λx hx=>?_;rw [e]at hsel;cases hsel
  .have:∀l:List Operand,fM_ ρ l=true->∀x∈l,σ x=h3_ (ρ x):=by
     intro l
     induction l with
     |nil=>intro _ x hx;cases hx
     |cons y l ih=>
      intro ha x hx;simp only [fM_]at ha;split at ha
      .rename_i v hv;cases hx with
       |head=>simp only [h3_,hv];exact db_ hv (hσ _)
       |tail _ hm=>exact ih ha x hm
      cases ha
   exact this _ hall x (Array.mem_toList_iff.2 hx)
 rw [heq];split at h;rename_i v hv;cases h;exact ⟨E,_,v,w,bx_ hv w,.inl rfl,Env.le_refl _,hr,cN_ E v⟩;rename_i hv;cases h;exact ⟨E,_,undef,w,bx_ hv w,.inr ⟨rfl,rfl⟩,Env.le_refl _,hr,by simp [Con,undef,ConL]⟩;cases h
theorem kG_ {x:AV} {u:Value} (hx:Con E x u) (h:kS_ x=true) (t:TypeId) (v:Value) (neg:Bool) {b:Bool} (he:(Op.equal t u v).run P w=.ok b w):
  (binOp (if neg then .neq else .eql) t u v).run P w=.ok (.bool (neg ^^ b)) w:=by
 have hu:(match u with
   | .int _ _| .float _ _| .complex _ _ _| .string _=>False
   |_=>True):=by
  cases x<;>simp only [kS_,Bool.false_eq_true]at h<;>
   (simp only [Con]at hx
    (try subst hx)
    (try (obtain ⟨_,_,_,rfl⟩:=hx))
    (try (obtain ⟨_,_,_,rfl,_⟩:=hx))
    (try (obtain ⟨_,_,_,_,_,_,_,rfl,_⟩:=hx))
    (try (obtain ⟨_,_,_,_,rfl,_⟩:=hx))
    (try (obtain ⟨_,_,rfl⟩:=hx))
    (try (obtain ⟨_,rfl,_⟩:=hx))
    trivial)
 cases neg;have e:binOp .eql t u v=(do pure (.bool (←Op.equal t u v))):=(by cases u<;>first|rfl|exact hu.elim);show (binOp .eql t u v).run P w=_;rw [e];simp [he];have e:binOp .neq t u v=(do pure (.bool (!(←Op.equal t u v)))):=(by cases u<;>first|rfl|exact hu.elim);show (binOp .neq t u v).run P w=_;rw [e];simp [he]
theorem j0_ (hr:Rel B pr E H w) {neg:Bool} {t:TypeId} {ox oy:Operand} {x y:AV} {u v:Value} (hx:Con E x u) (hy:Con E y v) {r:AV} (h:oA_ P neg t (bi_ ox) (bi_ oy) x y=some r)
  (hq:kS_ x=true):Gives P B pr E w (do eqGuard (if neg then .neq else .eql) t ox oy u v;binOp (if neg then .neq else .eql) t u v) (r,H):=by
 unfold oA_ at h;split at h;cases h;rename_i hg;split at h;rename_i b hb;cases h;have hgr:=pL_ (P:=P) (w:=w) hx hy hg (if neg then BinOp.neq else BinOp.eql);have heq:=ou_ (P:=P) (w:=w) hx hy hb 10000 (by omega);have hequal:(Op.equal t u v).run P w=.ok b w:=heq;refine Gives.still hr (v:=.bool (neg ^^ b)) ?_ (by simp [Con]);simp only [Sem.run_bind,hgr,Result.andThen_ok];exact kG_ hx hq t v neg hequal;cases h
theorem eD_ {op:BinOp} {t:TypeId} {ox oy:Operand} {u v:Value} (hu:(match u with| .nilIface| .agg _=>False|_=>True)):(eqGuard op t ox oy u v).run P w=.ok () w:=by
 unfold eqGuard;cases op<;>first
  |rfl
  |(simp only [Bool.not_true,Bool.false_eq_true,if_false]
    cases u<;>first|rfl|exact hu.elim)
def kC_ (k:FloatKind) (a:Option Nat) (n:Nat):Prop:=match a with
 |some m=>m=n
 |none=>(k.format.read n).isNaN=true
theorem oE_ {x:AV} {u:Value} (hx:Con E x u) {k:FloatKind} {a:Option Nat} (h:flA x=some (k,a)):∃n,u=.float k n/\kC_ k a n:=by unfold flA at h;split at h;cases h;simp only [Con]at hx;exact ⟨_,hx,rfl⟩;cases h;simp only [Con]at hx;obtain ⟨b,h1,h2⟩:=hx;exact ⟨b,h1,h2⟩;cases h
theorem i3_ {f:Ieee.Format} {q:Nat} (h:f.infRung<q%f.signWeight) (hb:f.binade<=f.infRung):(f.read q).isNaN=true:=by unfold Ieee.Format.read;simp only;rw [if_neg (by omega),if_neg (by omega),if_neg (by omega)];rfl
theorem q6_ {f:Ieee.Format} {q:Nat} (h:(f.read q).isNaN=true):f.infRung<q%f.signWeight:=by unfold Ieee.Format.read at h;simp only at h;split at h;cases h;split at h;cases h;split at h;cases h;omega
theorem sp_ {k:FloatKind} {b:Nat} (h:(k.format.read b).isNaN=true):(k.format.read (Op.negFloat k b)).isNaN=true:=by
 have h1:=q6_ h;have e2:k.format.signWeight=2^(k.format.exponentBits+k.format.fractionBits):=by cases k<;>decide
 have key:Op.negFloat k b%k.format.signWeight=b%k.format.signWeight:=by unfold Op.negFloat;rw [e2];apply Nat.eq_of_testBit_eq;intro i;rw [Nat.testBit_mod_two_pow,Nat.testBit_mod_two_pow,Nat.testBit_xor,Nat.testBit_two_pow];by_cases hi:i<k.format.exponentBits+k.format.fractionBits;have:k.format.exponentBits+k.format.fractionBits≠i:=(by omega);simp [this];simp [hi]
 exact i3_ (by rw [key];exact h1) (by cases k<;>decide)
theorem tA_ (k:FloatKind) (x y t:Nat):(k.format.read ((Question.nanBits k x y).cut t)).isNaN=true:=by
 cases k
 .have e1:FloatKind.f32.format.infRung=2139095040:=(by decide);have e2:FloatKind.f32.format.signWeight=2147483648:=(by decide);have e3:FloatKind.f32.format.binade=8388608:=(by decide);have e4:(Question.nanBits .f32 x y).cut t=(t%2)*2147483648+2139095040+1+(t/2)%8388607:=rfl;refine i3_ ?_ ?_
  .rw [e1,e2,e4];have hp:t%2=0\/t%2=1:=(by omega);have hq:=Nat.mod_lt (t/2) (show 0<8388607 by omega);generalize (t/2)%8388607=q at*;rcases hp with hp|hp<;>rw [hp]<;>omega
  rw [e1,e3];omega
 .have e1:FloatKind.f64.format.infRung=9218868437227405312:=(by decide);have e2:FloatKind.f64.format.signWeight=9223372036854775808:=(by decide);have e3:FloatKind.f64.format.binade=4503599627370496:=(by decide);have e4:(Question.nanBits .f64 x y).cut t=(t%2)*9223372036854775808+9218868437227405312+1+(t/2)%4503599627370495:=rfl;refine i3_ ?_ ?_
  .rw [e1,e2,e4];have hp:t%2=0\/t%2=1:=(by omega);have hq:=Nat.mod_lt (t/2) (show 0<4503599627370495 by omega);generalize (t/2)%4503599627370495=q at*;rcases hp with hp|hp<;>rw [hp]<;>omega
  rw [e1,e3];omega
theorem se_ {k:FloatKind} {a b:Option Nat} {m n:Nat} (ha:kC_ k a m) (hb:kC_ k b n):
  fOrd k a b=k.format.order m n:=by
 cases a with
 |none=>exact (eH_ ha n).symm
 |some a=>
  cases b with
  |none=>exact (hy_ hb m).symm
  |some b=>simp only [kC_]at ha hb;subst ha hb;rfl
theorem hU_ {k:FloatKind} {m n:Nat} (h:(k.format.read m).isNaN=true\/(k.format.read n).isNaN=true):
  k.format.add m n=none/\k.format.sub m n=none/\k.format.mul m n=none/\k.format.div m n=none:=by
 unfold Ieee.Format.add Ieee.Format.sub Ieee.Format.mul Ieee.Format.div;generalize k.format.read m=x at*;generalize k.format.read n=y at*;rcases h with h|h
 .cases x<;>simp [Ieee.Datum.isNaN]at h
  cases y<;>refine ⟨?_,?_,?_,?_⟩<;>rfl
 .cases y<;>simp [Ieee.Datum.isNaN]at h
  cases x<;>refine ⟨?_,?_,?_,?_⟩<;>rfl
theorem dY_ (hr:Rel B pr E H w) {k:FloatKind} {f:Nat->Nat->Option Nat} {a b:Option Nat} {m n:Nat} (ha:kC_ k a m)
  (hb:kC_ k b n) (hf:(k.format.read m).isNaN=true\/(k.format.read n).isNaN=true->f m n=none):
  Gives P B pr E w (match f m n with|some r=>pure (.float k r)|none=>do pure (.float k (←choose (.nanBits k m n)))) (mkF k (gC_ f a b),H):=by
 have key:gC_ f a b=f m n:=by
  cases a with
  |none=>exact (hf (.inl ha)).symm
  |some a=>
   cases b with
   |none=>exact (hf (.inr hb)).symm
   |some b=>simp only [kC_]at ha hb;subst ha hb;rfl
 rw [key];cases hfm:f m n with
 |some r=>exact Gives.still hr rfl (by simp [Con,mkF])
 |none=>refine ⟨E,.float k ((Question.nanBits k m n).cut (w.tape w.drawn (.nanBits k m n))),{ w with drawn:=w.drawn+1 },?_,Env.le_refl _,hr.drawn _,?_⟩;have hq:(Question.nanBits k m n).forced=false:=rfl;simp [hq];simp only [mkF,Con];exact ⟨_,rfl,tA_ k m n _⟩
theorem Gives.eqv {s s':Sem Value} {r:AV×AHeap} (h:Gives P B pr E w s r) (e:s'.run P w=s.run P w):Gives P B pr E w s' r:=by obtain ⟨E',v,w',h1,h2⟩:=h;exact ⟨E',v,w',e.trans h1,h2⟩
theorem pB_ (hr:Rel B pr E H w) {op:BinOp} {t:TypeId} {k:FloatKind} {a b:Option Nat} {m n:Nat} (ha:kC_ k a m)
  (hb:kC_ k b n) {r:AV} (h:qH_ op k a b=some r):Gives P B pr E w (binOp op t (.float k m) (.float k n)) (r,H):=by
 have ho:=se_ ha hb;cases op<;>simp only [qH_,Option.some.injEq,reduceCtorEq]at h<;>subst h
 case add=>exact (dY_ hr (f:=k.format.add) ha hb λh=>(hU_ h).1).eqv (by simp [binOp,Op.floatArith]<;>cases k.format.add m n<;>rfl)
 case sub=>exact (dY_ hr (f:=k.format.sub) ha hb λh=>(hU_ h).2.1).eqv (by simp [binOp,Op.floatArith]<;>cases k.format.sub m n<;>rfl)
 case mul=>exact (dY_ hr (f:=k.format.mul) ha hb λh=>(hU_ h).2.2.1).eqv (by simp [binOp,Op.floatArith]<;>cases k.format.mul m n<;>rfl)
 case quo=>exact (dY_ hr (f:=k.format.div) ha hb λh=>(hU_ h).2.2.2).eqv (by simp [binOp,Op.floatArith]<;>cases k.format.div m n<;>rfl)
 all_goals
  rw [ho];exact Gives.still hr (by simp [binOp,Op.floatCmp];rfl) (by simp only [Con])
theorem pz_ (hr:Rel B pr E H w) {op:BinOp} {t:TypeId} {ox oy:Operand} {x y:AV} {u v:Value} (hx:Con E x u) (hy:Con E y v) {r:AV} (h:bU_ P op t (bi_ ox) (bi_ oy) x y=some r):
  Gives P B pr E w (do eqGuard op t ox oy u v;binOp op t u v) (r,H):=by
 unfold bU_ at h;split at h
 .rename_i k a k' b;simp only [Con]at hx hy;subst hx hy;have hg:=eD_ (P:=P) (w:=w) (op:=op) (t:=t) (ox:=ox) (oy:=oy) (u:=.int k a) (v:=.int k' b) trivial;have h2':∀r,gy_ P op k a k' b=some r->Gives P B pr E w (do eqGuard op t ox oy (.int k a) (.int k' b);binOp op t (.int k a) (.int k' b)) (r,H):=by intro r h;unfold gy_ at h;split at h;rename_i v hv;cases h;refine Gives.still hr (v:=v) ?_ (cN_ E v);have e:binOp op t (.int k a) (.int k' b)=binOp op 0 (.int k a) (.int k' b):=(by cases op<;>rfl);simp only [Sem.run_bind,hg,Result.andThen_ok,e];exact bx_ hv w;cases h
  unfold dW_ at h;split at h;rename_i hk;have hk:=k9_ hk;subst hk;split at h;rename_i r' hi;cases h;obtain ⟨v,h1,h2⟩:=pC_ (P:=P) hi t w E;refine Gives.still hr (v:=v) ?_ h2;simp only [Sem.run_bind,hg,Result.andThen_ok,h1];exact h2' r h;exact h2' r h
 .rename_i a b;simp only [Con]at hx hy;subst hx hy;have hg:=eD_ (P:=P) (w:=w) (op:=op) (t:=t) (ox:=ox) (oy:=oy) (u:=.string ⟨⟨a⟩⟩) (v:=.string ⟨⟨b⟩⟩) trivial;split at h;cases h;refine Gives.still hr (v:=.bool (eqB a b)) ?_ (by simp [Con]);simp only [Sem.run_bind,hg,Result.andThen_ok];simp [binOp_string_eql,ByteArray.toList_eq,dU_];cases h;refine Gives.still hr (v:=.bool (not (eqB a b))) ?_ (by simp [Con]);simp only [Sem.run_bind,hg,Result.andThen_ok];simp [binOp_string_neq,ByteArray.toList_eq,dU_]
  .split at h
   .rename_i hlt;cases h;have hlt:gO_ a+gO_ b<9223372036854775807:=(by simpa [Nat.blt_eq]using hlt);rw [cR_,cR_]at hlt;refine Gives.still hr (v:=.string (⟨⟨a⟩⟩++⟨⟨b⟩⟩)) ?_ ?_
    .simp only [Sem.run_bind,hg,Result.andThen_ok];rw [binOp_string_add];have:¬((((ByteArray.mk ⟨a⟩).size+(ByteArray.mk ⟨b⟩).size:Nat):Int)>IntKind.i64.max):=by rw [h2_,h2_];have hm:IntKind.i64.max=9223372036854775807:=(by decide);rw [hm];omega
     simp only [Op.stringOp,if_neg this,Sem.run_pure]
    .simp only [Con,oj_];have e2:∀y:ByteArray,y=⟨⟨y.data.toList⟩⟩:=λy=>rfl;rw [e2 (ByteArray.mk ⟨a⟩++ByteArray.mk ⟨b⟩)]
     congr 2
   cases h
  cases h
 .split at h;rename_i hq;split at h;exact j0_ (neg:=false) hr hx hy h hq;exact j0_ (neg:=true) hr hx hy h hq;cases h
  .split at h
   case h_2=>cases h
   rename_i k a hfa;split at h
   case h_2=>cases h
   rename_i k' b hfb;split at h
   case h_2=>cases h
   rename_i hk;have hk:=of_decide_eq_true hk;subst hk;obtain ⟨m,rfl,ha⟩:=oE_ hx hfa;obtain ⟨n,rfl,hb⟩:=oE_ hy hfb;have hg:=eD_ (P:=P) (w:=w) (op:=op) (t:=t) (ox:=ox) (oy:=oy) (u:=.float k m) (v:=.float k n) trivial;refine (pB_ (t:=t) hr ha hb h).eqv ?_;simp only [Sem.run_bind,hg,Result.andThen_ok]
theorem kU_ (hr:Rel B pr E H w) {x:AV} {v:Value} (hx:Con E x v) {xt asserted:TypeId} {ok:Bool} {r:AV} (h:fZ_ P x asserted ok=some r):
  Gives P B pr E w (Instr.typeAssert v xt asserted ok) (r,H):=by
 unfold fZ_ at h;split at h;cases h
 .rename_i d hni hd;split at h;cases h;rename_i i hi;split at h;cases h;rename_i z hz;have hzv:(zeroValue asserted).run P w=.ok z w:=(by simp [zeroValue,typeInfo,hi,hz]);cases x<;>simp only [reduceCtorEq]at h
  case nif=>
   simp only [Con]at hx;subst hx;split at h
   .cases h;refine Gives.still hr (v:=.tuple #[z,.bool false]) ?_ (by simp only [Con];exact ⟨[z,.bool false],rfl,ConL.cons (cN_ E z) (ConL.cons (by simp [Con]) (ConL.nil E))⟩);simp only [Instr.typeAssert,Sem.run_bind,run_underlying hd,Result.andThen_ok];cases d<;>first
     |(exact absurd rfl (hni _))
     |(simp [hzv])
   cases h
  case iface t a=>
   simp only [Con]at hx;obtain ⟨u,rfl,hu⟩:=hx;split at h
   .rename_i hbt;cases h;have hbt:=Nat.eq_of_beq_eq_true hbt;subst hbt;refine Gives.still hr ?_ (cZ_ hu ok true);simp only [Instr.typeAssert,Sem.run_bind,run_underlying hd,Result.andThen_ok];cases d<;>first
     |(exact absurd rfl (hni _))
     |(cases ok<;>simp)
   .rename_i hbt;have hne:t≠asserted:=λe=>(by subst e;rw [Nat.beq_refl]at hbt;cases hbt);split at h
    .cases h;refine Gives.still hr (v:=.tuple #[z,.bool false]) ?_ (by simp only [Con];exact ⟨[z,.bool false],rfl,ConL.cons (cN_ E z) (ConL.cons (by simp [Con]) (ConL.nil E))⟩);simp only [Instr.typeAssert,Sem.run_bind,run_underlying hd,Result.andThen_ok];cases d<;>first
      |(exact absurd rfl (hni _))
      |(simp [hne,hzv])
    cases h
 cases h
theorem Rel.new_imm (h:Rel B pr E H w) {arr:Array Value} {t:TypeId} {fr:Nat×Nat} {vs:List Value} (hv:∀(i:Nat) (v:Value),vs[i]? =some v->arr[i]? =some v):
  E.le { E with imm:=λb o=>if b=w.heap.size then vs[o]? else E.imm b o }/\Rel B pr { E with imm:=λb o=>if b=w.heap.size then vs[o]? else E.imm b o } H (w.alloc (.cells arr t fr)):=by
 have hne:∀b o v,E.imm b o=some v->b≠w.heap.size:=λb o v hi e=>by have:=h.imm b o v hi;subst e;simp [World.cell?]at this
 have hle:E.le { E with imm:=λb o=>if b=w.heap.size then vs[o]? else E.imm b o }:=⟨⟨λ_ _ h=>h,λ_ _ h=>h,λb o v hi=>by show (if b=w.heap.size then vs[o]? else E.imm b o)=some v;rw [if_neg (hne b o v hi)];exact hi,rfl,rfl⟩,rfl,rfl,rfl⟩;refine ⟨hle,?_⟩;obtain ⟨own,g1,g2,g3⟩:=h.own;refine { own:=⟨λb=>if b=w.heap.size then none else own b,λid k hk=>?_,λb hb=>?_,λb o v hi=>?_⟩,imm:=λb o v hi=>?_,ib:=λb o v hb hi=>?_,fresh:=h.fresh,resv:=h.resv,vds:=h.vds,szs:=λb n hn=>?_,prot:=λb hb=>?_,size:=?_,os:=h.os,output:=h.output };refine (g1 id k hk).imp (λ_ h=>h) (λh=>h) λb o e1 e2 e3=>?_;have hlt:=e3.lt;have hb:b≠w.heap.size:=(by omega);exact ⟨(if_neg hb).trans e2,e3.mono hle (aM_ hb)⟩;show (if b=w.heap.size then none else own b)=none;split;rfl;exact g2 b hb;show (if b=w.heap.size then none else own b)=none;split;rfl;rename_i hb;have hi:(if b=w.heap.size then vs[o]? else E.imm b o)=some v:=hi;rw [if_neg hb]at hi;exact g3 b o v hi;have hi':(if b=w.heap.size then vs[o]? else E.imm b o)=some v:=hi;by_cases hb:b=w.heap.size;rw [if_pos hb]at hi';have:=hv o v hi';subst hb;unfold World.cell?;rw [ct_];exact this;rw [if_neg hb]at hi';exact fv_ (h.imm b o v hi');have hlt:=Nat.lt_of_lt_of_le (h.prot b hb).1 h.size;have hi:(if b=w.heap.size then vs[o]? else E.imm b o)=some v:=hi;rw [if_neg (by omega)]at hi;exact h.ib b o v hb hi;obtain ⟨arr',t',fr',e1,e2⟩:=h.szs b n hn;have hb:b≠w.heap.size:=(by intro e;subst e;simp at e1);exact ⟨arr',t',fr',(aM_ hb).trans e1,e2⟩;obtain ⟨e1,e2⟩:=h.prot b hb;have:=h.size;exact ⟨e1,(aM_ (by omega)).trans e2⟩;have:=h.size;simp;omega
theorem iq_ (hr:Rel B pr E H w) {src dst:TypeId} {x:AV} {v:Value} (hx:Con E x v) {r:AV} (h:fA_ P src dst x=some r):Gives P B pr E w (convert src dst v) (r,H):=by
 unfold fA_ at h;split at h
 case h_2=>cases h
 rename_i l;split at h
 case h_2=>cases h
 rename_i hs;split at h
 case h_2=>cases h
 rename_i e hd;split at h
 case h_2=>cases h
 rename_i he;cases h;simp only [Con]at hx;subst hx;have hlen:(l.map λb=>Value.int .u8 b.toNat).length=l.length:=List.length_map ..;obtain ⟨hle,hr'⟩:=(hr.drawn (w.drawn+1)).new_imm (arr:=bytesRow ⟨⟨l⟩⟩ (grownCap w (ByteArray.mk ⟨l⟩).size 0 e)) (t:=e) (fr:=((bytesRow ⟨⟨l⟩⟩ (grownCap w (ByteArray.mk ⟨l⟩).size 0 e)).size,(bytesRow ⟨⟨l⟩⟩ (grownCap w (ByteArray.mk ⟨l⟩).size 0 e)).size+1))
  (vs:=l.map λb=>Value.int .u8 b.toNat) λi v hv=>by
    unfold bytesRow;have hi:i<l.length:=by have:=(List.getElem?_eq_some_iff.1 hv).1;simpa using this
    rw [Array.getElem?_append_left (by simpa using hi)];simpa using hv
 refine ⟨_,_,_,run_bytes_of_string w src dst e ⟨⟨l⟩⟩ hs hd he,hle,hr',?_⟩;simp only [Con];refine ⟨w.heap.size,0,l.map λb=>Value.int .u8 b.toNat,grownCap w (ByteArray.mk ⟨l⟩).size 0 e,by rw [cR_];rfl,by rw [cR_];exact grownCap_ge ..,fu_ _ l,λi v hv=>?_⟩;show (if w.heap.size=w.heap.size then _ else _)=_;rw [if_pos rfl,Nat.zero_add];exact hv
theorem nu_ (hr:Rel B pr E H w) {src dst:TypeId} {x:AV} {v:Value} (hx:Con E x v) {r:AV} (h:co_ P H src dst x=some r):Gives P B pr E w (convert src dst v) (r,H):=by
 unfold co_ at h;split at h
 .rename_i r' h1;cases h;unfold f1_ at h1;split at h1
  case h_2=>cases h1
  rename_i ds hs;split at h1
  case h_3=>cases h1
  .rename_i k hd;split at h1
   .rename_i j n;cases h1;simp only [Con]at hx;subst hx;refine Gives.still hr (v:=.int k (k.wrap n)) ?_ (by rw [d3_,dQ_];simp [Con]);simp only [convert,Sem.run_bind,run_underlying hs,run_underlying hd,Result.andThen_ok];cases ds<;>rfl
   .rename_i f b;split at h1
    case h_2=>cases h1
    rename_i n hn;split at h1
    case h_2=>cases h1
    rename_i hlim;cases h1;simp only [Con]at hx;subst hx;refine Gives.still hr (v:=.int k n) ?_ (by simp [Con]);have hl:k.min<=n/\n<=k.max:=of_decide_eq_true hlim;have hf:(Conv.floatToInt f b k).run P w=.ok (.int k n) w:=by unfold Conv.floatToInt;simp only [hn,if_pos hl,Sem.run_pure]
    simp only [convert,Sem.run_bind,run_underlying hs,run_underlying hd,Result.andThen_ok];cases ds<;>exact hf
   cases h1
  .rename_i k hd;split at h1
   case h_2=>cases h1
   rename_i j n;cases h1;simp only [Con]at hx;subst hx;refine Gives.still hr (v:=.float k (k.nearest n)) ?_ (by simp [Con]);simp only [convert,Sem.run_bind,run_underlying hs,run_underlying hd,Result.andThen_ok];cases ds<;>rfl
 split at h;rename_i r' h1;cases h;exact io_ hr hx h1;exact iq_ hr hx h
theorem Rel.mark (h:Rel B pr E H w) {id:Nat} {k:ABlk} (hk:H.get id=some k) {b o:Nat} (hφ:E.φ id=some (b,o)) {arr:Array Value} {t:TypeId} {fr0 fr:Nat×Nat} (hg:w.heap[b]? =some (.cells arr t fr0)) {o0:Nat} {vs:List Value}
  (hv:∀(i:Nat) (v:Value),vs[i]? =some v->arr[o0+i]? =some v) (hnv:¬Void E k:=by exact λh=>h):
  E.le { E with imm:=λb' o'=>if b'=b then (if o0<=o' then vs[o'-o0]? else none)else E.imm b' o' }/\
  Rel B pr { E with imm:=λb' o'=>if b'=b then (if o0<=o' then vs[o'-o0]? else none)else E.imm b' o' } (H.erase id) { w with heap:=w.heap.setIfInBounds b (.cells arr t fr) }:=by
 obtain ⟨own,g1,g2,g3⟩:=h.own;obtain ⟨_,hvoid⟩|⟨b',o',hφ',hown,hb⟩:=g1 id _ hk;exact absurd hvoid hnv;rw [hφ]at hφ';cases hφ';have hblt:=getElem?_lt_of_some hg;have hother:∀j,j≠b->(w.heap.setIfInBounds b (.cells arr t fr))[j]? =w.heap[j]? :=λj hj=>by rw [Array.getElem?_setIfInBounds];rw [if_neg (λe=>hj e.symm)]
 have hsame:(w.heap.setIfInBounds b (.cells arr t fr))[b]? =some (.cells arr t fr):=by rw [Array.getElem?_setIfInBounds];simp [hblt]
 have hne:∀b' o v,E.imm b' o=some v->b'≠b:=λb' o v hi e=>by subst e;rw [g3 _ _ _ hi]at hown;cases hown
 have hle:E.le { E with imm:=λb' o'=>if b'=b then (if o0<=o' then vs[o'-o0]? else none)else E.imm b' o' }:=⟨⟨λ_ _ h=>h,λ_ _ h=>h,λb' o' v hi=>by show (if b'=b then _ else E.imm b' o')=some v;rw [if_neg (hne b' o' v hi)];exact hi,rfl,rfl⟩,rfl,rfl,rfl⟩;have hbn:∀b',pr b'->b'≠b:=λb' hp e=>by subst e;rw [g2 _ hp]at hown;cases hown
 refine ⟨hle,?_⟩;refine { own:=⟨λb'=>if b'=b then none else own b',λid' k' hk'=>?_,λb' hb'=>?_,λb' o' v hi=>?_⟩,imm:=λb' o' v hi=>?_,ib:=λb' o' v hb' hi=>?_,fresh:=h.fresh,resv:=h.resv,vds:=h.vds,szs:=λb' n hn=>?_,prot:=λb' hb'=>?_,size:=by simpa using h.size,os:=h.os,output:=h.output };have hne':id≠id':=(by intro e;subst e;rw [AHeap.get_erase_same]at hk';cases hk');rw [AHeap.get_erase_ne H hne']at hk';refine (g1 id' k' hk').imp (λ_ h=>h) (λh=>h) λb2 o2 e1 e2 e3=>?_;have hb2:b2≠b:=(by intro e;subst e;rw [hown]at e2;cases e2;exact hne' rfl);exact ⟨(if_neg hb2).trans e2,e3.mono hle (hother b2 hb2)⟩;show (if b'=b then none else own b')=none;rw [if_neg (hbn b' hb')];exact g2 b' hb';show (if b'=b then none else own b')=none;have hi':(if b'=b then (if o0<=o' then vs[o'-o0]? else none)else E.imm b' o')=some v:=hi;by_cases e:b'=b;rw [if_pos e];rw [if_neg e]at hi'⊢;exact g3 b' o' v hi';have hi':(if b'=b then (if o0<=o' then vs[o'-o0]? else none)else E.imm b' o')=some v:=hi;by_cases e:b'=b;rw [if_pos e]at hi';split at hi';rename_i hle0;have:=hv _ _ hi';rw [show o0+(o'-o0)=o' by omega]at this;subst e;unfold World.cell?;simp only [hsame];exact this;cases hi';rw [if_neg e]at hi';have:=h.imm b' o' v hi';unfold World.cell? at this⊢;simpa only [hother b' e]using this;have hi':(if b'=b then (if o0<=o' then vs[o'-o0]? else none)else E.imm b' o')=some v:=hi;rw [if_neg (hbn b' hb')]at hi';exact h.ib b' o' v hb' hi';obtain ⟨arr2,t2,fr2,e1,e2⟩:=h.szs b' n hn;by_cases e:b'=b;subst e;rw [hg]at e1;cases e1;exact ⟨arr,t,fr,hsame,e2⟩;exact ⟨arr2,t2,fr2,(hother b' e).trans e1,e2⟩;exact ⟨(h.prot b' hb').1,(hother b' (hbn b' hb')).trans (h.prot b' hb').2⟩
theorem rm_ {b off:Nat} {arr:Array Value} {t:TypeId} (hg:w.heap[b]? =some (.cells arr t (0,0))):(markStringish ⟨b,off,none⟩).run P w=.ok () { w with heap:=w.heap.setIfInBounds b (.cells arr t (arr.size,arr.size+1)) }:=by
 have hb:=getElem?_lt_of_some hg;have hs:w.shape? b=some (t,arr.size):=by simp [World.shape?,hg]
 have hf:w.freeze ⟨b,arr.size,none⟩ 1={ w with heap:=w.heap.setIfInBounds b (.cells arr t (arr.size,arr.size+1)) }:=by
  unfold World.freeze;rw [if_neg (by decide)]
  congr 1
  apply Array.ext_getElem?;intro i;rw [Array.getElem?_modify,Array.getElem?_setIfInBounds];by_cases e:b=i;subst e;rw [if_pos rfl,if_pos rfl,if_pos hb,hg];rfl;rw [if_neg e,if_neg e]
 simp [markStringish,hs,hf]
theorem l6_ (hr:Rel B pr E H w) {src dst:TypeId} {x:AV} {v:Value} (hx:Con E x v) {r:AV×AHeap} (h:kV_ P H src dst x=some r):Gives P B pr E w (convert src dst v) r:=by
 unfold kV_ at h;split at h
 case h_2=>cases h
 rename_i id off len sz cap;split at h
 case h_1=>cases h
 rename_i n;split at h
 case h_2=>cases h
 rename_i hsb;split at h
 case h_2=>cases h
 rename_i l hl;cases h;obtain ⟨hz1,hs1⟩:=aa_ hsb;unfold rn_ at hs1;obtain ⟨hs2,hs3⟩:=aa_ hs1;have e1:=Nat.eq_of_beq_eq_true hz1;have e2:=Nat.eq_of_beq_eq_true hs2;have hu:∃e,P.underlying src=some (.slice e)/\P.underlying e=some (.int .u8):=by unfold u8s at hs3;split at hs3;rename_i e he;split at hs3;rename_i he';exact ⟨e,he,he'⟩;cases hs3;cases hs3
 obtain ⟨e,hs,he⟩:=hu;subst e1 e2;simp only [Con]at hx;obtain ⟨b,o,m,c,off',hφ,hsz,rfl,hoff,hle,hfit,_⟩:=hx;obtain rfl:=hoff (by omega);have hp:Con E (.ptr id off') (.pointer (some ⟨b,o+off',none⟩)):=by simp only [Con];exact ⟨b,o,hφ,rfl⟩
 obtain ⟨b2,o2,vs,e3,hlen,hL,hcell⟩:=bt_ hr hp hl;cases e3;have hk:∃cs,H.get id=some (.cells cs):=by
  cases hg:H.get id with
  |none=>simp [aS_,hg]at hl
  |some k=>cases k with
   |cells cs=>exact ⟨cs,rfl⟩
   |map es c=>simp [aS_,hg]at hl
   |syl j=>simp [aS_,hg]at hl
   |fz cs=>simp [aS_,hg]at hl
   |mpl j=>simp [aS_,hg]at hl
 obtain ⟨cs,hk⟩:=hk;obtain ⟨arr,t,hg,_,_,_⟩:=hr.blk hk hφ;obtain ⟨hle',hr'⟩:=hr.mark (fr:=(arr.size,arr.size+1)) hk hφ hg (o0:=o+off') (vs:=vs) λi v hv=>by have:=hcell i v hv;unfold World.cell? at this;simp only [hg]at this;exact this
 refine ⟨_,.slice (some ⟨b,o+off',none⟩) (n+1) c,_,?_,hle',hr',?_⟩;simp [convert,run_underlying hs,run_underlying he,rm_ hg];simp only [Con];refine ⟨b,o+off',vs,c,rfl,hle,hL.mono hle',λi v hv=>?_⟩;show (if b=b then _ else _)=_;rw [if_pos rfl,if_pos (by omega),Nat.add_sub_cancel_left];exact hv
theorem l5_ (hr:Rel B pr E H w) {src dst:TypeId} {x:AV} {v:Value} (hx:Con E x v) {r:AV×AHeap} (h:e2_ P H src dst x=some r):Gives P B pr E w (convert src dst v) r:=by unfold e2_ at h;split at h;rename_i a ha;cases h;exact nu_ hr hx ha;exact l6_ hr hx h
theorem kZ_ (hr:Rel B pr E H w) {t:TypeId} {x i:AV} {v u:Value} (hx:Con E x v) (hi:Con E i u) {r:AV} (h:ew_ P t x i=some r):Gives P B pr E w (Instr.index t v u) (r,H):=by
 unfold ew_ at h;split at h
 case h_2=>cases h
 rename_i hd;split at h
 case h_2=>cases h
 rename_i s;split at h
 case h_2=>cases h
 rename_i k n;split at h
 case h_2=>cases h
 rename_i b hb;cases h;simp only [Con]at hx hi;subst hx hi;rw [oT_]at hb;refine Gives.still hr (v:=.int .u8 b.toNat) ?_ (by unfold mkB;rw [d3_];simp [Con]);have h0:(0:Int)<=Int.ofNat n:=Int.natCast_nonneg n;have hlt:n<s.length:=by rcases Nat.lt_or_ge n s.length with h'|h';exact h';rw [List.getElem?_eq_none h']at hb;cases hb
 have hg:(ByteArray.mk ⟨s⟩)[n]? =some b:=by rw [ByteArray.getElem?_lt' _ _ (by rw [h2_];exact hlt)];rw [List.getElem?_eq_getElem hlt]at hb;exact hb
 simp only [Instr.index,asIntOf,Sem.run_bind,Sem.run_pure,Result.andThen_ok,run_underlying hd,h0,if_true];have e:(Int.ofNat n).toNat=n:=rfl;rw [e,hg];rfl
theorem jp_ {t:TypeId} (h:eY_ P t=true) (x:Value):(Instr.makeInterface t x).run P w=.ok (.iface t x) w:=by
 refine run_makeInterface w t x ?_;unfold eY_ at h;unfold Program.concrete;split at h<;>first|(cases h;done)|skip
 rename_i d hni hd;rw [hd];cases d<;>first|rfl|exact absurd rfl (hni _)
theorem al_ {α:Type} {a:Array α} {l:List α} (h:a.toList=l):a=⟨l⟩:=by cases a;simpa using h
theorem gB_ (hr:Rel B pr E H w) {ρ:Operand->AV} {σ:Operand->Value} (hσ:∀x,Con E (ρ x) (σ x)) {o:Oper} {r:ORes} (h:aC_ P ρ H o=some r):OpOk P B pr E w (execOp σ o) r:=by
 unfold aC_ at h;unfold execOp;split at h<;>rename_i hop<;>simp only [hop]
 case h_1 x=>cases h;exact ⟨E,_,σ x,w,rfl,.inl rfl,Env.le_refl _,hr,hσ x⟩
 case h_2 x=>cases h;exact ⟨E,_,σ x,w,rfl,.inl rfl,Env.le_refl _,hr,hσ x⟩
 case h_3 c a b=>
  have hc:=hσ c;split at h;rename_i hv;cases h;rw [hv]at hc;simp only [Con]at hc;exact ⟨E,_,σ a,w,by simp [hc,asBool],.inl rfl,Env.le_refl _,hr,hσ a⟩;rename_i hv;cases h;rw [hv]at hc;simp only [Con]at hc;exact ⟨E,_,σ b,w,by simp [hc,asBool],.inl rfl,Env.le_refl _,hr,hσ b⟩;cases h
 case h_4 t=>exact OpOk.oP h λp hp=>l2_ hr hp
 case h_5 t x=>exact OpOk.oP h λp hp=>pA_ hr (hσ x) hp
 case h_6 t parts=>
  refine OpOk.oV h λa ha=>?_;obtain ⟨h1,h2⟩:=d7_ hσ parts.toList;have e:(parts.map λp=>(p.1,σ p.2)).toList=parts.toList.map λp=>(p.1,σ p.2):=(by simp);exact l4_ hr (by rw [e];exact h2) (by rw [e];exact h1) ha
 case h_7 t n parts=>
  refine OpOk.oP h λa ha=>?_;obtain ⟨h1,h2⟩:=d7_ hσ parts.toList;have e:(parts.map λp=>(p.1,σ p.2)).toList=parts.toList.map λp=>(p.1,σ p.2):=(by simp);exact gx_ hr (by rw [e];exact h2) (by rw [e];exact h1) ha
 case h_8 t a=>exact OpOk.oV h λp hp=>nx_ hr (hσ a) hp
 case h_9 t a x=>
  unfold oP at h;split at h
  .rename_i p hp;cases h;obtain ⟨w',h1,h2⟩:=hp_ hr (hσ a) (hσ x) hp;have h3:p.1=.tup []:=by
    unfold cf_ at hp;repeat' (split at hp<;>first|(cases hp;done)|skip)
    cases hp;rfl
   refine ⟨E,.skip,undef,w',by simp [h1],.inr ⟨rfl,rfl⟩,Env.le_refl _,h2,?_⟩;rw [h3];simp [Con,undef,ConL]
  cases h
 case h_10 x=>
  have hx:=hσ x;split at h;rename_i id off hv;cases h;rw [hv]at hx;have hx0:=hx;simp only [Con]at hx;obtain ⟨b,o,hφ,he⟩:=hx;exact ⟨E,_,σ x,w,by rw [he];rfl,.inl rfl,Env.le_refl _,hr,hx0⟩;rename_i cs hv;cases h;rw [hv]at hx;have hx0:=hx;simp only [Con]at hx;obtain ⟨b,o,vs,he,_⟩:=hx;exact ⟨E,_,σ x,w,by rw [he];rfl,.inl rfl,Env.le_refl _,hr,hx0⟩;cases h
 case h_11 op t x y _=>exact OpOk.oV h λp hp=>pz_ hr (hσ x) (hσ y) hp
 case h_12 s d x=>exact OpOk.oP h λp hp=>l5_ hr (hσ x) hp
 case h_13 t x i=>exact OpOk.oV h λp hp=>kZ_ hr (hσ x) (hσ i) hp
 case h_14 op _ x=>
  refine OpOk.oV h λp hp=>?_;unfold oB_ at hp;have hx:=hσ x;split at hp;split at hp;rename_i b hv;cases hp;rw [hv]at hx;simp only [Con]at hx;rw [hx];exact Gives.still hr (v:=.bool (!b)) rfl (by simp [Con]);cases hp;split at hp;rename_i k n hv;cases hp;rw [hv]at hx;simp only [Con]at hx;rw [hx];exact Gives.still hr (v:=.int k (k.wrap (0-n))) rfl (by rw [d3_,dQ_];simp [Con]);rename_i k b hv;cases hp;rw [hv]at hx;simp only [Con]at hx;rw [hx];exact Gives.still hr (v:=.float k (Op.negFloat k b)) rfl (by simp [Con]);rename_i k hv;cases hp;rw [hv]at hx;simp only [Con]at hx;obtain ⟨b,h1,h2⟩:=hx;rw [h1];exact Gives.still hr (v:=.float k (Op.negFloat k b)) rfl (by simp only [Con];exact ⟨_,rfl,sp_ h2⟩);cases hp;cases hp
 case h_15 t x=>
  split at h;rename_i hc;cases h;refine ⟨E,_,.iface t (σ x),w,by simp only [Sem.run_bind,jp_ hc,Result.andThen_ok];rfl,.inl rfl,Env.le_refl _,hr,?_⟩;simp only [Con];exact ⟨_,rfl,hσ x⟩;cases h
 case h_16 fn first captured=>
  split at h;rename_i f;split at h;rename_i hf;cases h;have hf:=al_ hf;subst hf;refine ⟨E,_,.func (.func f) #[] (captured.map σ),w,by simp [Instr.makeFunc],.inl rfl,Env.le_refl _,hr,?_⟩;simp only [Con];refine ⟨captured.toList.map σ,by cases captured;simp,eF_ hσ _⟩;cases h;cases h
 case h_17 t r'=>
  split at h;exact OpOk.oP h λp hp=>ju_ hr hp;cases h
 case h_18 t l c=>exact OpOk.oP h λp hp=>eg_ hr (hσ l) (hσ c) hp
 case h_19 t x lo hi mx=>
  split at h;exact OpOk.oV h λp hp=>ey_ hr (hσ x) (mx_ hσ lo) (mx_ hσ hi) hp;cases h
 case h_20 s x f=>exact OpOk.oV h λp hp=>hn_ hr (hσ x) hp
 case h_21 s x f=>exact OpOk.oV h λp hp=>kY_ hr (hσ x) hp
 case h_22 t x ix=>exact OpOk.oV h λp hp=>cD_ hr (hσ x) (hσ ix) hp
 case h_23 t x ix ok=>exact OpOk.oV h λp hp=>f2_ hr (hσ x) (hσ ix) hp
 case h_24 t m k x=>
  unfold oP at h;split at h;rename_i p hp;cases h;obtain ⟨w',h1,h2,h3⟩:=cE_ hr (hσ m) (hσ k) (hσ x) hp;refine ⟨E,.skip,undef,w',by simp [h1],.inr ⟨rfl,rfl⟩,Env.le_refl _,h2,?_⟩;rw [h3];simp [Con,undef,ConL];cases h
 case h_25 t m k x=>
  unfold oP at h;split at h;rename_i p hp;cases h;obtain ⟨w',h1,h2,h3⟩:=cE_ hr (hσ m) (hσ k) (hσ x) hp;refine ⟨E,.skip,undef,w',by simp [h1],.inr ⟨rfl,rfl⟩,Env.le_refl _,h2,?_⟩;rw [h3];simp [Con,undef,ConL];cases h
 case h_26 x _ asserted ok=>exact OpOk.oV h λp hp=>kU_ hr (hσ x) hp
 case h_27 t ix=>exact OpOk.oV h λp hp=>js_ hr (hσ t) hp
 case h_28 c=>
  obtain ⟨callee,args,argTypes⟩:=c;unfold dV_ at h;simp only at h;split at h
  .rename_i f;have hf:=hσ f;split at h
   .rename_i g cap hv;split at h
    .rename_i hcall;cases h;rw [hv]at hf;simp only [Con]at hf;obtain ⟨cs,he,hcs⟩:=hf;refine ⟨args.toList.map σ++cs,?_,by rw [kE_];exact (eF_ hσ _).append hcs⟩;simp only [resolve,Sem.run_bind,Sem.run_pure,Result.andThen_ok,he,Deferred.ofValue,invoke,dR_ hcall]
     congr 2
     simp
    cases h
   cases h
  .rename_i b;split at h
   .split at h;rename_i x t h1 h2;have h1:=al_ h1;have h2:=al_ h2;subst h1 h2;simp only [resolve,Sem.run_bind,Sem.run_pure,Result.andThen_ok,invoke,builtin];exact OpOk.oV h λp hp=>by simpa using pD_ (ty:=o.type) hr (hσ x) hp
    cases h
   .split at h;rename_i s x t tx h1 h2;have h1:=al_ h1;have h2:=al_ h2;subst h1 h2;simp only [resolve,Sem.run_bind,Sem.run_pure,Result.andThen_ok,invoke,builtin];exact OpOk.oP h λp hp=>by simpa using kT_ (ty:=o.type) hr (hσ s) (hσ x) hp
    cases h
   .split at h;rename_i d s t tx h1 h2;have h1:=al_ h1;have h2:=al_ h2;subst h1 h2;simp only [resolve,Sem.run_bind,Sem.run_pure,Result.andThen_ok,invoke,builtin];exact OpOk.oP h λp hp=>by simpa using nv_ (tx:=tx) (ty:=o.type) hr (hσ d) (hσ s) hp
    cases h
   split at h;cases h;simp only [OpOk,resolve,Sem.run_bind,Sem.run_pure,Result.andThen_ok,invoke,builtin];cases h;cases h
  cases h
 case h_29 c=>
  obtain ⟨callee,args,argTypes⟩:=c;unfold kX_ at h;simp only at h;split at h;rename_i f;have hf:=hσ f;split at h;rename_i g hv;split at h;rename_i hcall;cases h;rw [hv]at hf;simp only [Con,ConL]at hf;obtain ⟨cs,he,rfl⟩:=hf;refine ⟨args.toList.map σ,?_,eF_ hσ _,hcall⟩;simp [resolve,he,Deferred.ofValue];cases args;simp;cases h;cases h;cases h
 case h_30 x=>
  have hx:=hσ x;split at h;rename_i t a hv;cases h;rw [hv]at hx;have hx0:=hx;simp only [Con]at hx;obtain ⟨u,he,_⟩:=hx;exact ⟨σ x,by rw [he];simp [Instr.panic],hx0⟩;cases h
 case h_31=>cases h
end
end Go.Sx
