/-
  The evaluator of code, in two stages: what hangs on the program's text alone is done ahead, and comes out as a closure in a box (so that the kernel keeps it).
-/
import Derived.Test.YtmgenobllanmjaaGreatDoorSxH
set_option linter.unusedVariables false
set_option linter.unusedSimpArgs false
namespace Go.Sx
mutual
def a1_:AV->Bool
 | .ptr _ _=>false
 | .sl _ _ _ _ _=>false
 | .map _=>false
 | .slx _ _ _=>false
 | .ptx _ _ _ _=>false
 | .sym i=>Nat.blt i 64
 | .vptr cs=>cl_ cs
 | .vsl _ _ cs=>cl_ cs
 | .fn _ cs=>cl_ cs
 | .iface _ a=>a1_ a
 | .agg cs=>cl_ cs
 | .tup cs=>cl_ cs
 |_=>true
def cl_:List AV->Bool
 |[]=>true
 |a::r=>match a1_ a with
  |true=>cl_ r
  |false=>false
end
class Gl where
 gl:Nat->AV
 ov:FuncId->List AV->AHeap->Option AV
 nr:∀g,a1_ (gl g)=true
 gt:(Nat->Option AV)->Prop
 gtm:∀s s':Nat->Option AV,(∀i,i<64->s' i=s i)->gt s->gt s'
 gto:∀s:Nat->Option AV,gt s->∀i a,i<64->s i=some a->a.one=true
variable [Gl]
abbrev Tm:=Q8 (Q8 (Q8 AV))
open Q8 (AtC atc UpC upc)
structure Acs where
 f:Tm->AV
def acs (k:Nat):Acs:=match atc (Q8 (Q8 AV)) (Nat.div k 64)with
 | .mk f=>match atc (Q8 AV) (Nat.mod (Nat.div k 8) 8)with
   | .mk g=>match atc AV (Nat.mod k 8)with
     | .mk h=>.mk λT=>h (g (f T))
structure Ups where
 f:Tm->AV->Tm
def ups (k:Nat):Ups:=match upc (Q8 (Q8 AV)) (Nat.div k 64)with
 | .mk f=>match upc (Q8 AV) (Nat.mod (Nat.div k 8) 8)with
   | .mk g=>match upc AV (Nat.mod k 8)with
     | .mk h=>.mk λT x=>f T λq=>g q λr=>h r λ_=>x
def tnil:Tm:=Q8.all (Q8.all (Q8.all (.tup [])))
def tget (T:Tm) (t:Nat):AV:=(acs t).f T
def dL_ (T:Tm) (t:Nat) (a:AV):Tm:=(ups t).f T a
inductive PC where
 |bad
 |mk (u:Tm->AV->Tm)
def bT_ (N:Nat) (dst:Option Nat):PC:=match dst with
 |none=>.mk λT _=>T
 |some d=>match Nat.blt d N&&Nat.blt d 512 with
  |true=>.mk (ups d).f
  |false=>.bad
structure Arg where
 f:Tm->AV
def aW_:Operand->Arg
 | .tmp t=>match Nat.blt t 512 with
   |true=>match acs t with
    | .mk f=>.mk f
   |false=>.mk λ_=>.tup []
 | .const v=>.mk λ_=>ofV v
 | .global g=>.mk λ_=>Gl.gl g
 | .func f=>.mk λ_=>.fn f []
def look (T:Tm) (x:Operand):AV:=(aW_ x).f T
inductive ArgL where
 |mk (f:Tm->List AV)
def iC_:List Operand->ArgL
 |[]=>.mk λ_=>[]
 |x::r=>match aW_ x with
  | .mk f=>match iC_ r with
    | .mk g=>.mk λT=>f T::g T
inductive PartL where
 |mk (f:Tm->List (Nat×AV))
def hh_:List (Nat×Operand)->PartL
 |[]=>.mk λ_=>[]
 |(i,x)::r=>match aW_ x with
  | .mk f=>match hh_ r with
    | .mk g=>.mk λT=>(i,f T)::g T
abbrev Dfs:=List (FuncId×List AV)
inductive CRes where
 |norm (T:Tm) (H:AHeap) (D:Dfs)
 |exit (id:Nat) (T:Tm) (H:AHeap) (D:Dfs)
 |ret (T:Tm) (H:AHeap) (D:Dfs)
 |pan (v:AV) (T:Tm) (H:AHeap) (D:Dfs)
inductive FRes where
 |ret (v:AV) (H:AHeap)
 |pan (v:AV) (H:AHeap)
abbrev CallF:=FuncId->List AV->AHeap->Option FRes
def jd_:List Oper->Nat->Option Oper
 |[],_=>none
 |o::_,0=>some o
 |_::r,n+1=>jd_ r n
inductive GC where
 |always
 |mk (f:Tm->Option Bool)
def br_ (v:AV) (want:Bool):Option Bool:=match v with
 | .bool b=>match want with
   |true=>some b
   |false=>some (not b)
 | .tup l=>match l with
   |[]=>some false
   |_=>none
 |_=>none
def aZ_ (ops:List Oper) (o:Oper):GC:=match o.guard with
 |none=>.always
 |some (j,want)=>match jd_ ops j with
  |some oj=>match oj.dst with
   |some d=>match Nat.blt d 512 with
    |true=>match acs d with
     | .mk f=>.mk λT=>br_ (f T) want
    |false=>.mk λ_=>some false
   |none=>.mk λ_=>some false
  |none=>.mk λ_=>some false
inductive OC where
 |pv (f:Tm->AV)
 |po (f:Tm->Option AV)
 |ho (f:Tm->AHeap->Option AV)
 |hm (f:Tm->AHeap->Option (AV×AHeap))
 |cl (f:Tm->Option (FuncId×List AV))
 |df (f:Tm->Option (FuncId×List AV))
 |pn (f:Tm->Option AV)
 |rc
 |no
def rM_ (H:AHeap) (a:AV) (n:Nat):Option AV:=match aV_ H a n with
 |some l=>some (.agg l)
 |none=>none
def cB_:Nat->List AV->Option AV
 |_,[]=>none
 |0,a::_=>some a
 |n+1,_::r=>cB_ n r
def uh_ (H:AHeap) (a:AV):Option AV:=match a with
 | .ptr id off=>match H.get id with
   |some (.cells cs)=>cB_ off cs
   |_=>none
 | .vptr cs=>cB_ 0 cs
 |_=>none
def q0_ (off:Nat) (a:AV):Option AV:=match a with
 | .ptr id o=>some (.ptr id (Nat.add o off))
 | .vptr cs=>match Nat.ble off cs.length with
   |true=>some (.vptr (aj_ off cs))
   |false=>none
 |_=>none
def ug_ (size:Nat) (x ix:AV):Option AV:=match ix with
 | .int _ i=>match x with
   | .sl id off len _ _=>match idx i len with
     |some n=>some (.ptr id (Nat.add off (Nat.mul n size)))
     |none=>none
   | .vsl len _ cs=>match idx i len with
     |some n=>some (.vptr (aj_ (Nat.mul n size) cs))
     |none=>none
   |_=>none
 |_=>none
def iD_ (g:IntKind->Int->Int->AV) (els:AV->AV->Option AV) (x y:AV):Option AV:=match x with
 | .int k a=>match y with
   | .int k' b=>match Nat.beq (kix k) (kix k')with
     |true=>some (g k a b)
     |false=>els x y
   |_=>els x y
 |_=>els x y
def dS_ (P:Program) (ρ:Operand->AV) (o:Oper):Option AV:=match fn_ P ρ ⟨hnil,0,0⟩ o with
 |some (.val a _)=>some a
 |_=>none
def ij_ (P:Program) (T:Tm) (o:Oper) (r:Option AV):Option AV:=match r with
 |some a=>some a
 |none=>dS_ P (look T) o
def vD_ (P:Program) (op:BinOp) (t:TypeId) (cx cy:Bool):AV->AV->Option AV:=match op with
 | .add=>iD_ (λk a b=>mkI k (e7_ k (Int.add a b))) (λx y=>bI_ P .add t cx cy x y)
 | .sub=>iD_ (λk a b=>mkI k (e7_ k (Int.sub a b))) (λx y=>bI_ P .sub t cx cy x y)
 | .mul=>iD_ (λk a b=>mkI k (e7_ k (Int.mul a b))) (λx y=>bI_ P .mul t cx cy x y)
 | .eql=>iD_ (λk a b=>.bool (eqI a b)) (λx y=>bI_ P .eql t cx cy x y)
 | .neq=>iD_ (λk a b=>.bool (not (eqI a b))) (λx y=>bI_ P .neq t cx cy x y)
 | .lss=>iD_ (λk a b=>.bool (ltI a b)) (λx y=>bI_ P .lss t cx cy x y)
 | .leq=>iD_ (λk a b=>.bool (not (ltI b a))) (λx y=>bI_ P .leq t cx cy x y)
 | .gtr=>iD_ (λk a b=>.bool (ltI b a)) (λx y=>bI_ P .gtr t cx cy x y)
 | .geq=>iD_ (λk a b=>.bool (not (ltI a b))) (λx y=>bI_ P .geq t cx cy x y)
 |op=>λx y=>bI_ P op t cx cy x y
structure BC where
 f:AV->AV->Option AV
def wv_ (P:Program) (op:BinOp) (t:TypeId) (x y:Operand):OC:=.po λT=>(BC.mk (vD_ P op t (bA_ x) (bA_ y))).f ((aW_ x).f T) ((aW_ y).f T)
def m9_ (c a b:AV):Option AV:=match c with
 | .bool t=>match t with
   |true=>some a
   |false=>some b
 |_=>none
def uT_ (a:AV):Option AV:=match a with
 | .ptr id off=>some (.ptr id off)
 | .vptr cs=>some (.vptr cs)
 |_=>none
def fnA (P:Program) (f:AV) (args:List AV):Option (FuncId×List AV):=match f with
 | .fn g cap=>match bW_ P g with
   |true=>some (g,j1_ args cap)
   |false=>none
 |_=>none
def dfA (P:Program) (f:AV) (args:List AV):Option (FuncId×List AV):=match f with
 | .fn g cap=>match cap with
   |[]=>match bW_ P g with
    |true=>some (g,args)
    |false=>none
   |_=>none
 |_=>none
def vU_ (v:AV):Option AV:=match v with
 | .iface t a=>some (.iface t a)
 |_=>none
def t7_ (P:Program) (o:Oper) (c:Call):OC:=match c.callee with
 | .value f=>match iC_ c.args.toList with
   | .mk g=>match f with
     | .func id=>match bW_ P id with
       |true=>.cl λT=>some (id,g T)
       |false=>.po λT=>dS_ P (look T) o
     |x=>match aW_ x with
      | .mk h=>.cl λT=>fnA P (h T) (g T)
 | .builtin b=>match b with
   | .len=>match c.args.toList,c.argTypes.toList with
     |[x],[t]=>match aW_ x with
      | .mk f=>.ho λT H=>cJ_ P H t (f T)
     |_,_=>.no
   | .append=>match c.args.toList,c.argTypes.toList with
     |[s,x],[t,tx]=>match aW_ s with
      | .mk f=>match aW_ x with
        | .mk g=>.hm λT H=>gn_ P H t tx (f T) (g T)
     |_,_=>.no
   | .copy=>match c.args.toList,c.argTypes.toList with
     |[d,s],[t,_]=>match aW_ d with
      | .mk f=>match aW_ s with
        | .mk g=>.hm λT H=>ls_ P H t (f T) (g T)
     |_,_=>.no
   | .recover=>match c.args.toList with
     |[]=>.rc
     |_=>.no
   |_=>.po λT=>dS_ P (look T) o
 |_=>.no
def ac_ (P:Program) (o:Oper):OC:=match o.op with
 | .move x=>match aW_ x with
   | .mk f=>.pv f
 | .assign x=>match aW_ x with
   | .mk f=>.pv f
 | .pick c a b=>match aW_ c with
   | .mk f=>match aW_ a with
     | .mk g=>match aW_ b with
       | .mk h=>.po λT=>m9_ (f T) (g T) (h T)
 | .alloc t=>.hm λ_ H=>fi_ P H t
 | .box _ x=>match aW_ x with
   | .mk f=>.hm λT H=>my_ H (f T)
 | .build t parts=>match hh_ parts.toList with
   | .mk f=>.po λT=>if_ P t (f T)
 | .buildSlice t n parts=>match hh_ parts.toList with
   | .mk f=>.hm λT H=>bz_ P H t n (f T)
 | .load t a=>match aW_ a with
   | .mk f=>match P.underlying t with
     |none=>.no
     |some d=>match l7_ d with
      |true=>match P.info? t with
       |none=>.no
       |some i=>.ho λT H=>rM_ H (f T) i.size
      |false=>.ho λT H=>uh_ H (f T)
 | .store t a x=>match aW_ a with
   | .mk f=>match aW_ x with
     | .mk g=>.hm λT H=>ci_ P H t (f T) (g T)
 | .nilCheck x=>match aW_ x with
   | .mk f=>.po λT=>uT_ (f T)
 | .binOp op t x y _=>wv_ P op t x y
 | .unOp op _ x=>match aW_ x with
   | .mk f=>.po λT=>ij_ P T o (o9_ op (f T))
 | .convert s d x=>match aW_ x with
   | .mk f=>match si_ P s d with
     |true=>.hm λT H=>fk_ P H s d (f T)
     |false=>.ho λT H=>match b3_ P H s d (f T)with
      |some a=>some a
      |none=>dS_ P (look T) o
 | .index t x i=>match aW_ x with
   | .mk f=>match aW_ i with
     | .mk g=>.po λT=>ij_ P T o (eH_ P t (f T) (g T))
 | .makeInterface t x=>match ff_ P t with
   |true=>match aW_ x with
    | .mk f=>.pv λT=>.iface t (f T)
   |false=>.no
 | .makeFunc fn first captured=>match fn with
   | .func f=>match first.toList with
     |[]=>match iC_ captured.toList with
      | .mk g=>.pv λT=>.fn f (g T)
     |_=>.no
   |_=>.no
 | .makeMap t r=>match r with
   |none=>.hm λ_ H=>fm_ P H t
   |some _=>.no
 | .makeSlice t l c=>match aW_ l with
   | .mk f=>match aW_ c with
     | .mk g=>.hm λT H=>b5_ P H t (f T) (g T)
 | .slice t x lo hi mx=>match mx with
   |none=>match aW_ x with
    | .mk f=>match lo with
      |none=>match hi with
       |none=>.ho λT H=>aP_ P H t (f T) none none
       |some hi=>match aW_ hi with
        | .mk h=>.ho λT H=>aP_ P H t (f T) none (some (h T))
      |some lo=>match aW_ lo with
       | .mk g=>match hi with
         |none=>.ho λT H=>aP_ P H t (f T) (some (g T)) none
         |some hi=>match aW_ hi with
          | .mk h=>.ho λT H=>aP_ P H t (f T) (some (g T)) (some (h T))
   |some _=>.no
 | .fieldAddr s x f=>match P.underlying s with
   |some (.struct fields)=>match fields[f]? with
    |some fl=>match P.info? fl.type with
     |some i=>match i.size with
      |0=>.no
      |_+1=>match aW_ x with
       | .mk g=>.po λT=>q0_ fl.offset (g T)
     |none=>.no
    |none=>.no
   |_=>.no
 | .field s x f=>match aW_ x with
   | .mk g=>.po λT=>eG_ P s (g T) f
 | .indexAddr t x ix=>match aW_ x with
   | .mk f=>match aW_ ix with
     | .mk g=>match P.underlying t with
       |some (.slice e)=>match P.info? e with
        |some ti=>.po λT=>ug_ ti.size (f T) (g T)
        |none=>.no
       |_=>.po λT=>aS_ P t (f T) (g T)
 | .lookup t x ix ok=>match aW_ x with
   | .mk f=>match aW_ ix with
     | .mk g=>.ho λT H=>bt_ P H t (f T) (g T) ok
 | .mapUpdate t m k x=>match aW_ m with
   | .mk f=>match aW_ k with
     | .mk g=>match aW_ x with
       | .mk h=>.hm λT H=>a5_ P H t (f T) (g T) (h T)
 | .insert t m k x=>match aW_ m with
   | .mk f=>match aW_ k with
     | .mk g=>match aW_ x with
       | .mk h=>.hm λT H=>a5_ P H t (f T) (g T) (h T)
 | .typeAssert x _ asserted ok=>match aW_ x with
   | .mk f=>.po λT=>go_ P (f T) asserted ok
 | .extract t ix=>match aW_ t with
   | .mk f=>.po λT=>fl_ (f T) ix
 | .call c=>t7_ P o c
 | .defer c=>match c.callee with
   | .value x=>match aW_ x with
     | .mk f=>match iC_ c.args.toList with
       | .mk g=>.df λT=>dfA P (f T) (g T)
   |_=>.no
 | .panic x=>match aW_ x with
   | .mk f=>.pn λT=>vU_ (f T)
 |_=>.no
def OC.run (c:OC) (T:Tm) (H:AHeap):Option ORes:=match c with
 | .pv f=>some (.val (f T) H)
 | .po f=>match f T with
   |some a=>some (.val a H)
   |none=>none
 | .ho f=>match f T H with
   |some a=>some (.val a H)
   |none=>none
 | .hm f=>match f T H with
   |some (a,H')=>some (.val a H')
   |none=>none
 | .cl f=>match f T with
   |some (g,args)=>some (.call g args)
   |none=>none
 | .df f=>match f T with
   |some (g,args)=>some (.dfr g args)
   |none=>none
 | .pn f=>match f T with
   |some v=>some (.pan v)
   |none=>none
 | .rc=>some .rcv
 | .no=>none
abbrev Res:=Option FRes
abbrev Kn:=Tm->AHeap->Dfs->Res
structure LC where
 f:CallF->Tm->AHeap->Dfs->Kn->(CRes->Res)->Res
def onP (r:Option AV) (k:AV->Res):Res:=Option.casesOn r none k
def onM (r:Option (AV×AHeap)) (k:AV->AHeap->Res):Res:=Option.casesOn r none λp=>Prod.casesOn p k
def onC (r:Option (FuncId×List AV)) (k:FuncId->List AV->Res):Res:=Option.casesOn r none λp=>Prod.casesOn p k
def onF (r:Option FRes) (k:AV->AHeap->Res) (x:AV->AHeap->Res):Res:=Option.casesOn r none λp=>FRes.casesOn p k x
def tu_ (c:OC) (u:Tm->AV->Tm) (k:LC):LC:=match c with
 | .pv f=>⟨λcall T H D K X=>k.f call (u T (f T)) H D K X⟩
 | .po f=>⟨λcall T H D K X=>onP (f T) λa=>k.f call (u T a) H D K X⟩
 | .ho f=>⟨λcall T H D K X=>onP (f T H) λa=>k.f call (u T a) H D K X⟩
 | .hm f=>⟨λcall T H D K X=>onM (f T H) λa H'=>k.f call (u T a) H' D K X⟩
 | .cl f=>⟨λcall T H D K X=>onC (f T) λg args=>onF (call g args H) (λa H'=>k.f call (u T a) H' D K X) (λv H'=>X (.pan v T H' D))⟩
 | .df f=>⟨λcall T H D K X=>onC (f T) λg args=>k.f call (u T (.tup [])) H ((g,args)::D) K X⟩
 | .pn f=>⟨λcall T H D K X=>onP (f T) λv=>X (.pan v T H D)⟩
 | .rc=>⟨λ_ _ _ _ _ _=>none⟩
 | .no=>⟨λ_ _ _ _ _ _=>none⟩
def fd_ (P:Program) (N:Nat) (all:List Oper):List Oper->LC
 |[]=>⟨λ_ T H D K _=>K T H D⟩
 |o::r=>match bT_ N o.dst with
  | .bad=>⟨λ_ _ _ _ _ _=>none⟩
  | .mk u=>match aZ_ all o with
    | .always=>tu_ (ac_ P o) u (fd_ P N all r)
    | .mk g=>⟨λcall T H D K X=>match g T with
       |some t=>match t with
        |true=>(tu_ (ac_ P o) u (fd_ P N all r)).f call T H D K X
        |false=>(fd_ P N all r).f call (u T (.tup [])) H D K X
       |none=>none⟩
inductive Kd where
 |pure|read|mem|wr
def bN_:Op->Kd
 | .load _ _| .lookup _ _ _ _| .slice _ _ _ _ _| .convert _ _ _=>.read
 | .alloc _| .box _ _| .buildSlice _ _ _| .makeSlice _ _ _| .makeMap _ _=>.mem
 | .store _ _ _| .mapUpdate _ _ _ _| .insert _ _ _ _| .panic _| .defer _=>.wr
 | .call c=>match c.callee with
   | .builtin b=>match b with
     | .len=>.read
     | .max| .min=>.pure
     |_=>.wr
   |_=>.wr
 | .move _| .assign _| .pick _ _ _| .build _ _| .nilCheck _| .binOp _ _ _ _ _| .unOp _ _ _| .fieldAddr _ _ _| .field _ _ _| .indexAddr _ _ _| .index _ _ _
 | .makeInterface _ _| .makeFunc _ _ _| .typeAssert _ _ _ _| .extract _ _=>.pure
 |_=>.wr
structure SI where
 o:Oper
 bef:Nat
 kd:Kd
 lo:Nat
 hi:Nat
 rd:List Nat
 fz:Bool
def d5_ (e:Edge):Bool:=match e.ground with
 | .textOnly _=>false
 | .gcOnly _=>false
 |_=>true
def qx_:List Nat->Nat->Nat
 |[],_=>0
 |a::_,0=>a
 |_::r,n+1=>qx_ r n
def ep_ (bs:List Nat):List Edge->Nat
 |[]=>0
 |e::r=>match d5_ e with
  |true=>Nat.lor (Nat.lor (Nat.pow 2 e.on) (qx_ bs e.on)) (ep_ bs r)
  |false=>ep_ bs r
def q9_:List Oper->List Nat->List Nat
 |[],bs=>bs
 |o::r,bs=>q9_ r (bs++[ep_ bs o.after.toList])
def bit (m i:Nat):Bool:=match Nat.land (Nat.shiftRight m i) 1 with
 |0=>false
 |_=>true
def bf_:Kd->Bool
 | .wr=>true
 |_=>false
def mS_ (b:Nat):List Oper->Nat->Nat
 |[],_=>0
 |o::r,k=>match bf_ (bN_ o.op)&&bit b k with
  |true=>Nat.succ (mS_ b r (Nat.succ k))
  |false=>mS_ b r (Nat.succ k)
def mL_ (i:Nat):List Oper->List Nat->Nat
 |o::r,b::bs=>match bf_ (bN_ o.op)with
  |true=>match bit b i with
   |true=>0
   |false=>Nat.succ (mL_ i r bs)
  |false=>mL_ i r bs
 |_,_=>0
def memT (t:Nat):List Nat->Bool
 |[]=>false
 |a::r=>match Nat.beq a t with
  |true=>true
  |false=>memT t r
def do_:List Operand->List Nat
 |[]=>[]
 | .tmp t::r=>t::do_ r
 |_::r=>do_ r
def c2_ (ops:List Oper) (o:Oper):List Nat:=match o.guard with
 |none=>do_ o.op.operands.toList
 |some (j,_)=>match jd_ ops j with
  |some oj=>match oj.dst with
   |some d=>d::do_ o.op.operands.toList
   |none=>do_ o.op.operands.toList
  |none=>do_ o.op.operands.toList
def t5_:Op->Option (List Operand)
 | .call c=>match c.callee with
   | .builtin b=>match b with
     | .append=>some c.args.toList
     |_=>none
   |_=>none
 |_=>none
def fzIn (d:Nat):List Oper->Bool
 |[]=>false
 |o::r=>(match t5_ o.op with
  |some l=>match l with
   |[_,x]=>match x with
    | .tmp t=>Nat.beq t d
    |_=>false
   |_=>false
  |none=>false)||fzIn d r
def fzBy (i b:Nat):List Oper->List Nat->Nat->Bool
 |o::r,c::s,j=>(match t5_ o.op with
  |some _=>not (bit b j)&&not (bit c i)
  |none=>false)||fzBy i b r s (Nat.succ j)
 |_,_,_=>false
def fzTo (d:Nat):List Oper->Bool
 |[]=>false
 |o::r=>(match o.op with
  | .buildSlice _ _ _=>memT d (do_ o.op.operands.toList)
  | .call c=>match c.callee with
    | .builtin _=>false
    |_=>memT d (do_ o.op.operands.toList)
  |_=>false)||fzTo d r
def fzTw (i b:Nat):List Oper->List Nat->Nat->Bool
 |o::r,c::s,j=>(match o.op with
  | .buildSlice _ _ _=>not (Nat.beq i j)&&(not (bit b j)&&not (bit c i))
  |_=>false)||fzTw i b r s (Nat.succ j)
 |_,_,_=>false
def uG_ (ops:List Oper) (bs:List Nat) (b i:Nat) (o:Oper):Bool:=match o.op with
 | .buildSlice _ _ _=>match o.dst with
   |some d=>(fzIn d ops&&fzBy i b ops bs 0)||(fzTo d ops&&fzTw i b ops bs 0)
   |none=>false
 |_=>false
def sis (ops:List Oper) (bs:List Nat):List Oper->List Nat->Nat->List SI
 |o::r,b::c,i=>⟨o,b,bN_ o.op,mS_ b ops 0,mL_ i ops bs,c2_ ops o,uG_ ops bs b i o⟩::sis ops bs r c (Nat.succ i)
 |_,_,_=>[]
def hA_ (x y:SI):Bool:=match x.o.dst with
 |some d=>match y.o.dst with
  |some e=>Nat.beq d e||(memT d y.rd||memT e x.rd)
  |none=>memT d y.rd
 |none=>match y.o.dst with
  |some e=>memT e x.rd
  |none=>false
def lJ_ (x:SI) (i:Nat) (y:SI):Bool:=match hA_ x y||(bf_ x.kd&&bf_ y.kd)with
 |true=>bit y.bef i
 |false=>true
def om_ (x:SI) (i:Nat):List SI->Bool
 |[]=>true
 |y::r=>lJ_ x i y&&om_ x i r
def r2_:List SI->Nat->Bool
 |[],_=>true
 |x::r,i=>om_ x i r&&r2_ r (Nat.succ i)
def fu_:List Edge->Nat->Bool
 |[],_=>true
 |e::r,i=>match d5_ e with
  |true=>Nat.blt e.on i&&fu_ r i
  |false=>fu_ r i
def okE:List Oper->Nat->Bool
 |[],_=>true
 |o::r,i=>fu_ o.after.toList i&&okE r (Nat.succ i)
def a2_:List SI->Nat
 |[]=>0
 |x::r=>match x.kd with
  | .mem=>Nat.succ (a2_ r)
  |_=>a2_ r
inductive Plan where
 |no
 |mk (l:List SI) (n:Nat)
def os_ (ops:List Oper):Plan:=
 match okE ops 0 with
 |true=>
  match q9_ ops []with
  |bs=>match sis ops bs ops bs 0 with
   |l=>match r2_ l 0 with
    |true=>.mk l (a2_ l)
    |false=>.no
 |false=>.no
structure Fl where
 op:Nat
 id:Nat
 b:ABlk
def dF_ (bef:Nat):List Fl->AHeap->AHeap
 |[],H=>H
 |f::r,H=>match bit bef f.op with
  |true=>dF_ bef r (H.set f.id f.b)
  |false=>dF_ bef r H
def f3_ (bef:Nat):List Fl->List Fl
 |[]=>[]
 |f::r=>match bit bef f.op with
  |true=>f3_ bef r
  |false=>f::f3_ bef r
def f8_:List Fl->AHeap->AHeap
 |[],H=>H
 |f::r,H=>f8_ r (H.set f.id f.b)
def tp_:List AHeap->Nat->Option AHeap
 |[],_=>none
 |a::_,0=>some a
 |_::r,n+1=>tp_ r n
mutual
def bV_:AV->AV->Bool
 | .bool a,.bool b=>a==b
 | .int k a,.int k' b=>Nat.beq (kix k) (kix k')&&eqI a b
 | .flt k a,.flt k' b=>decide (k=k')&&Nat.beq a b
 | .nan k,.nan k'=>decide (k=k')
 | .str a,.str b=>eqB a b
 | .nptr,.nptr=>true
 | .vptr a,.vptr b=>ds_ a b
 | .vsl a b c,.vsl a' b' c'=>Nat.beq a a'&&Nat.beq b b'&&ds_ c c'
 | .ptr a b,.ptr c d=>Nat.beq a c&&Nat.beq b d
 | .nsl,.nsl=>true
 | .sl a b c d e,.sl a' b' c' d' e'=>Nat.beq a a'&&Nat.beq b b'&&Nat.beq c c'&&Nat.beq d d'&&(e==e')
 | .nmap,.nmap=>true
 | .map a,.map b=>Nat.beq a b
 | .nfn,.nfn=>true
 | .fn f a,.fn g b=>Nat.beq f g&&ds_ a b
 | .nif,.nif=>true
 | .iface t a,.iface u b=>Nat.beq t u&&bV_ a b
 | .agg a,.agg b=>ds_ a b
 | .tup a,.tup b=>ds_ a b
 | .sym i,.sym j=>Nat.beq i j
 | .slx i a b,.slx j c d=>Nat.beq i j&&(Nat.beq a c&&Nat.beq b d)
 | .ptx i a b c,.ptx j d e f=>Nat.beq i j&&(Nat.beq a d&&(Nat.beq b e&&Nat.beq c f))
 |_,_=>false
def ds_:List AV->List AV->Bool
 |[],[]=>true
 |a::r,b::s=>bV_ a b&&ds_ r s
 |_,_=>false
end
def cn_ (c:OC) (T:Tm) (H:AHeap):Option AV:=match c with
 | .pv f=>some (f T)
 | .po f=>f T
 | .ho f=>f T H
 |_=>none
def im_ (c:OC) (T:Tm) (a:AV):Nat->List AHeap->Bool
 |0,_=>true
 |_+1,[]=>true
 |n+1,H::r=>match cn_ c T H with
  |some a'=>bV_ a a'&&im_ c T a n r
  |none=>false
def topq:Tm:=Q8.all (Q8.all (Q8.all .opq))
def av_ (T:Tm):List Nat->Tm->Tm
 |[],R=>R
 |t::r,R=>match Nat.blt t 512 with
  |true=>av_ T r (dL_ R t (tget T t))
  |false=>av_ T r R
structure Rd where
 T:Tm
 o:Oper
 a:AV
 lo:Nat
 hi:Nat
def oX_:Nat->List AHeap->List AHeap
 |0,l=>l
 |_+1,[]=>[]
 |n+1,_::r=>oX_ n r
def fy_ (P:Program) (Gs:List AHeap):List Rd->Bool
 |[]=>true
 |x::r=>im_ (ac_ P x.o) x.T x.a (Nat.sub x.hi x.lo) (oX_ (Nat.succ x.lo) Gs)&&fy_ P Gs r
def s4_ (N:Nat):List SI->Tm->Option Tm
 |[],T=>some T
 |x::r,T=>match bT_ N x.o.dst with
  | .mk u=>s4_ N r (u T .opq)
  | .bad=>none
structure DS where
 T:Tm
 Gs:List AHeap
 fl:List Fl
 rd:List Rd
 dead:Option (Nat×AV×AHeap)
def i5_:List AHeap->Option AHeap
 |[]=>none
 |a::r=>match r with
  |[]=>some a
  |_=>i5_ r
def k4_:List AHeap->AHeap->List AHeap
 |[],x=>[x]
 |a::r,x=>a::k4_ r x
def uJ_ (d:Option (Nat×AV×AHeap)) (bef:Nat):Bool:=match d with
 |none=>false
 |some (i,_)=>bit bef i
def fs_:List SI->Nat->Nat->Bool
 |[],_,_=>true
 |y::r,i,j=>match bf_ y.kd&&bit y.bef j with
  |true=>match bit y.bef i with
   |true=>fs_ r i j
   |false=>false
  |false=>fs_ r i j
def jw_ (c:OC) (R:Tm) (bef:Nat) (rest:List SI) (i:Nat):List Fl->Option AV
 |[]=>none
 |f::r=>match bit bef f.op&&fs_ rest i f.op with
  |true=>match cn_ c R ((⟨hnil,0,0⟩:AHeap).set f.id f.b)with
   |some a=>some a
   |none=>jw_ c R bef rest i r
  |false=>jw_ c R bef rest i r
def nV_ (P:Program) (call:CallF) (u:Tm->AV->Tm) (x:SI) (rest:List SI) (i:Nat) (id:Nat) (R:Tm) (s:DS):Option DS:=match x.kd with
 | .pure=>match cn_ (ac_ P x.o) R ⟨hnil,0,0⟩with
   |some a=>some ⟨u s.T a,s.Gs,s.fl,s.rd,s.dead⟩
   |none=>none
 | .read=>match tp_ s.Gs x.lo with
   |none=>none
   |some G=>match cn_ (ac_ P x.o) R G with
    |some a=>some ⟨u s.T a,s.Gs,s.fl,⟨R,x.o,a,x.lo,x.hi⟩::s.rd,s.dead⟩
    |none=>match jw_ (ac_ P x.o) R x.bef rest i s.fl with
     |some a=>some ⟨u s.T a,s.Gs,s.fl,s.rd,s.dead⟩
     |none=>none
 | .mem=>match (ac_ P x.o).run R ⟨hnil,id,Nat.succ id⟩with
   |some (.val a H')=>match H'.get id with
    |some b=>some ⟨u s.T a,s.Gs,⟨i,id,b⟩::s.fl,s.rd,s.dead⟩
    |none=>none
   |_=>none
 | .wr=>match s.dead with
   |some _=>none
   |none=>match i5_ s.Gs with
    |none=>none
    |some G=>match (ac_ P x.o).run R (dF_ x.bef s.fl G)with
     |some (.val a H')=>some ⟨u s.T a,k4_ s.Gs H',f3_ x.bef s.fl,s.rd,s.dead⟩
     |some (.call f args)=>match call f args (dF_ x.bef s.fl G)with
      |some (.ret a H')=>some ⟨u s.T a,k4_ s.Gs H',f3_ x.bef s.fl,s.rd,s.dead⟩
      |some (.pan v H')=>some ⟨s.T,s.Gs,s.fl,s.rd,some (i,v,H')⟩
      |none=>none
     |some (.pan v)=>some ⟨s.T,s.Gs,s.fl,s.rd,some (i,v,dF_ x.bef s.fl G)⟩
     |_=>none
def lk_ (u:Tm->AV->Tm) (x:SI) (s:DS):Option DS:=match x.kd with
 | .wr=>match s.dead with
   |some _=>none
   |none=>match i5_ s.Gs with
    |none=>none
    |some G=>some ⟨u s.T (.tup []),k4_ s.Gs G,s.fl,s.rd,s.dead⟩
 |_=>some ⟨u s.T (.tup []),s.Gs,s.fl,s.rd,s.dead⟩
def aK_ (all:List Oper) (x:SI) (R:Tm):Option Bool:=match aZ_ all x.o with
 | .always=>some true
 | .mk g=>g R
def eF_ (P:Program) (call:CallF) (N:Nat) (all:List Oper) (x:SI) (rest:List SI) (i:Nat) (id:Nat) (s:DS):Option DS:=
 match uJ_ s.dead x.bef with
 |true=>some s
 |false=>match bT_ N x.o.dst with
  | .bad=>none
  | .mk u=>match aK_ all x (av_ s.T x.rd topq)with
    |none=>none
    |some t=>match t with
     |true=>nV_ P call u x rest i id (av_ s.T x.rd topq) s
     |false=>lk_ u x s
def dv_ (P:Program) (call:CallF) (N:Nat) (all:List Oper):List SI->Nat->Nat->DS->Option DS
 |[],_,_,s=>some s
 |x::r,i,id,s=>match eF_ P call N all x r i id s with
  |none=>none
  |some s'=>match x.kd with
   | .mem=>dv_ P call N all r (Nat.succ i) (Nat.succ id) s'
   |_=>dv_ P call N all r (Nat.succ i) id s'
def iJ_ (P:Program) (call:CallF) (N:Nat) (ops:List Oper) (T:Tm) (H:AHeap) (D:Dfs):Option CRes:=match os_ ops with
 | .no=>none
 | .mk l n=>match Nat.ble (Nat.add H.next n) H.hi with
   |false=>none
   |true=>match dv_ P call N ops l 0 (Nat.sub H.hi n) ⟨T,[⟨H.tr,H.next,Nat.sub H.hi n⟩],[],[],none⟩with
    |none=>none
    |some s=>match fy_ P s.Gs s.rd with
     |false=>none
     |true=>match s.dead with
      |some (_,v,H')=>match s4_ N l T with
       |some T'=>some (.pan v T' H' D)
       |none=>none
      |none=>match i5_ s.Gs with
       |some G=>some (.norm s.T (f8_ s.fl G) D)
       |none=>none
structure CC where
 f:CallF->Nat->Tm->AHeap->Dfs->Kn->(CRes->Res)->Res
def loopE (b:Tm->AHeap->Dfs->Kn->(CRes->Res)->Res):Nat->Tm->AHeap->Dfs->(CRes->Res)->Res
 |0,_,_,_,_=>none
 |n+1,T,H,D,X=>b T H D (λT' H' D'=>loopE b n T' H' D' X) X
def t6_ (id:Nat) (K:Kn) (X:CRes->Res) (r:CRes):Res:=match r with
 | .exit id' T H D=>match Nat.beq id' id with
   |true=>K T H D
   |false=>X r
 |_=>X r
def ua_ (r:Option CRes) (K:Kn) (X:CRes->Res):Res:=match r with
 |none=>none
 |some r=>match r with
  | .norm T H D=>K T H D
  |_=>X r
def t8_ (v:AV) (a b:Res):Res:=match v with
 | .bool t=>match t with
   |true=>a
   |false=>b
 |_=>none
def bj_ (P:Program) (N:Nat):Code->CC
 | .skip=>⟨λ_ _ T H D K _=>K T H D⟩
 | .region _ ops draw=>match draw with
   |false=>⟨λcall _ T H D K X=>(fd_ P N ops.toList ops.toList).f call T H D K X⟩
   |true=>⟨λcall _ T H D K X=>ua_ (iJ_ P call N ops.toList T H D) K X⟩
 | .seq a b=>⟨λcall n T H D K X=>(bj_ P N a).f call n T H D (λT H D=>(bj_ P N b).f call n T H D K X) X⟩
 | .cond c a b=>⟨λcall n T H D K X=>t8_ ((aW_ c).f T) ((bj_ P N a).f call n T H D K X) ((bj_ P N b).f call n T H D K X)⟩
 | .block id b=>⟨λcall n T H D K X=>(bj_ P N b).f call n T H D K (t6_ id K X)⟩
 | .loop b=>⟨λcall n T H D _ X=>loopE (λT H D K X=>(bj_ P N b).f call n T H D K X) n T H D X⟩
 | .exit id=>⟨λ_ _ T H D _ X=>X (.exit id T H D)⟩
 | .label _=>⟨λ_ _ T H D K _=>K T H D⟩
 | .ret=>⟨λ_ _ T H D _ X=>X (.ret T H D)⟩
 |_=>⟨λ_ _ _ _ _ _ _=>none⟩
def aT_:List AV->Nat->Tm->Tm
 |[],_,T=>T
 |a::r,i,T=>aT_ r (Nat.succ i) (dL_ T i a)
def d2_ (P:Program) (T:Tm) (H:AHeap):List ResultVar->Option (List AV)
 |[]=>some []
 | .tmp t::r=>match Nat.blt t 512 with
   |true=>match d2_ P T H r with
    |some l=>some (tget T t::l)
    |none=>none
   |false=>none
 | .cell a t::r=>match Nat.blt a 512 with
   |true=>match bn_ P H t (tget T a)with
    |some v=>match d2_ P T H r with
     |some l=>some (v::l)
     |none=>none
    |none=>none
   |false=>none
def sd_ (l:List AV):AV:=match l with
 |[]=>.tup []
 |a::r=>match r with
  |[]=>a
  |_=>.tup l
inductive SRes where
 |norm (T:Tm) (H:AHeap) (u:Option AV)
 |ret (T:Tm) (H:AHeap) (u:Option AV)
def lL_ (P:Program) (call:CallF) (N:Nat) (all:List Oper):List Oper->Tm->AHeap->Option AV->Option SRes
 |[],T,H,u=>some (.norm T H u)
 |o::r,T,H,u=>match bT_ N o.dst with
  | .bad=>none
  | .mk p=>match (match aZ_ all o with
      | .always=>some true
      | .mk g=>g T)with
    |none=>none
    |some false=>lL_ P call N all r (p T (.tup [])) H u
    |some true=>match (ac_ P o).run T H with
     |none=>none
     |some (.val a H')=>lL_ P call N all r (p T a) H' u
     |some (.call f args)=>match call f args H with
      |some (.ret a H')=>lL_ P call N all r (p T a) H' u
      |_=>none
     |some .rcv=>match u with
      |some v=>lL_ P call N all r (p T v) H none
      |none=>lL_ P call N all r (p T .nif) H none
     |_=>none
def ct_ (P:Program) (call:CallF) (N:Nat) (n:Nat):Code->Tm->AHeap->Option AV->Option SRes
 | .seq a b,T,H,u=>match ct_ P call N n a T H u with
   |some (.norm T' H' u')=>ct_ P call N n b T' H' u'
   |r=>r
 | .cond c a b,T,H,u=>match look T c with
   | .bool true=>ct_ P call N n a T H u
   | .bool false=>ct_ P call N n b T H u
   |_=>none
 | .region id ops draw,T,H,u=>match draw with
   |false=>lL_ P call N ops.toList ops.toList T H u
   |true=>match iJ_ P call N ops.toList T H []with
    |some (.norm T' H' [])=>some (.norm T' H' u)
    |_=>none
 | .block _ b,T,H,u=>ct_ P call N n b T H u
 | .skip,T,H,u=>some (.norm T H u)
 | .ret,T,H,u=>some (.ret T H u)
 |_,_,_,_=>none
def uC_ (P:Program) (call:CallF) (n:Nat) (f:FuncId) (args:List AV) (H:AHeap) (u:Option AV):Option (AHeap×Option AV):=match P.funcs[f]? with
 |some fn=>match fn.body with
  |some c=>match Nat.ble (aL_ args) fn.ntmps&&Nat.ble fn.ntmps 512 with
   |true=>match ct_ P call fn.ntmps n c (aT_ args 0 tnil) H u with
    |some (.norm T' H' u')=>match d2_ P T' H' fn.results.toList with
     |some _=>some (H',u')
     |none=>none
    |some (.ret T' H' u')=>match d2_ P T' H' fn.results.toList with
     |some _=>some (H',u')
     |none=>none
    |none=>none
   |false=>none
  |none=>none
 |none=>none
def cU_ (P:Program) (call:CallF) (n:Nat) (rs:List ResultVar) (T:Tm):Dfs->AHeap->Option AV->Option FRes
 |[],H,u=>match u with
  |none=>match d2_ P T H rs with
   |some l=>some (.ret (sd_ l) H)
   |none=>none
  |some v=>some (.pan v H)
 |(f,args)::D,H,u=>match uC_ P call n f args H u with
  |some (H',u')=>cU_ P call n rs T D H' u'
  |none=>none
inductive FC where
 |no
 |mk (N:Nat) (c:CC) (rs:List ResultVar)
def rf_ (P:Program) (f:FuncId):FC:=match P.funcs[f]? with
 |some fn=>match fn.body with
  |some c=>match Nat.ble fn.ntmps 512 with
   |true=>.mk fn.ntmps (bj_ P fn.ntmps c) fn.results.toList
   |false=>.no
  |none=>.no
 |none=>.no
def uK_ (P:Program) (call:CallF) (n:Nat) (rs:List ResultVar) (r:CRes):Res:=match r with
 | .norm T H D=>cU_ P call n rs T D H none
 | .ret T H D=>cU_ P call n rs T D H none
 | .pan v T H D=>cU_ P call n rs T D H (some v)
 | .exit _ _ _ _=>none
def iE_ (P:Program) (call:CallF) (n:Nat) (f:FuncId) (args:List AV) (H:AHeap):Option FRes:=match rf_ P f with
 | .mk N c rs=>match Nat.ble (aL_ args) N with
   |true=>c.f call n (aT_ args 0 tnil) H [] (λT H D=>cU_ P call n rs T D H none) (uK_ P call n rs)
   |false=>none
 | .no=>none
def aM_ (P:Program):Nat->CallF
 |0=>λ_ _ _=>none
 |n+1=>λf args H=>match Gl.ov f args H with
  |some v=>some (.ret v H)
  |none=>iE_ P (aM_ P n) n f args H
def H0:AHeap:=⟨hnil,0,top⟩
end Go.Sx
