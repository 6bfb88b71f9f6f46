/-
  The evaluator of code, in two stages: what hangs on the program's text alone is done ahead, and comes out as a closure in a box (so that the kernel keeps it).
-/
import Derived.Test.YteegdnoekakdbaaGreatDoorSxH
set_option linter.unusedVariables false
set_option linter.unusedSimpArgs false
namespace Go.Sx
mutual
def bL_:AV->Bool
 | .ptr _ _=>false
 | .sl _ _ _ _ _=>false
 | .map _=>false
 | .slx _ _ _=>false
 | .ptx _ _ _ _=>false
 | .sym i=>Nat.blt i 64
 | .vptr cs=>cm_ cs
 | .vsl _ _ cs=>cm_ cs
 | .fn _ cs=>cm_ cs
 | .iface _ a=>bL_ a
 | .agg cs=>cm_ cs
 | .tup cs=>cm_ cs
 |_=>true
def cm_:List AV->Bool
 |[]=>true
 |a::r=>match bL_ a with
  |true=>cm_ r
  |false=>false
end
class Gl where
 gl:Nat->AV
 ov:FuncId->List AV->AHeap->Option AV
 nr:∀g,bL_ (gl g)=true
 gt:(Nat->Option AV)->Prop
 gtm:∀s s':Nat->Option AV,(∀i,i<64->s' i=s i)->gt s->gt s'
 gto:∀s:Nat->Option AV,gt s->∀i a,i<64->s i=some a->a.one=true
variable [Gl]
abbrev Tm:=Q8 (Q8 (Q8 AV))
open Q8 (AtC atc UpC upc)
structure Acs where
 f:Tm->AV
def acs (k:Nat):Acs:=match atc (Q8 (Q8 AV)) (Nat.div k 64)with
 | .mk f=>match atc (Q8 AV) (Nat.mod (Nat.div k 8) 8)with
   | .mk g=>match atc AV (Nat.mod k 8)with
     | .mk h=>.mk λT=>h (g (f T))
structure Ups where
 f:Tm->AV->Tm
def ups (k:Nat):Ups:=match upc (Q8 (Q8 AV)) (Nat.div k 64)with
 | .mk f=>match upc (Q8 AV) (Nat.mod (Nat.div k 8) 8)with
   | .mk g=>match upc AV (Nat.mod k 8)with
     | .mk h=>.mk λT x=>f T λq=>g q λr=>h r λ_=>x
def tnil:Tm:=Q8.all (Q8.all (Q8.all (.tup [])))
def tget (T:Tm) (t:Nat):AV:=(acs t).f T
def eM_ (T:Tm) (t:Nat) (a:AV):Tm:=(ups t).f T a
inductive PC where
 |bad
 |mk (u:Tm->AV->Tm)
def bN_ (N:Nat) (dst:Option Nat):PC:=match dst with
 |none=>.mk λT _=>T
 |some d=>match Nat.blt d N&&Nat.blt d 512 with
  |true=>.mk (ups d).f
  |false=>.bad
structure Arg where
 f:Tm->AV
def aR_:Operand->Arg
 | .tmp t=>match Nat.blt t 512 with
   |true=>match acs t with
    | .mk f=>.mk f
   |false=>.mk λ_=>.tup []
 | .const v=>.mk λ_=>ofV v
 | .global g=>.mk λ_=>Gl.gl g
 | .func f=>.mk λ_=>.fn f []
def look (T:Tm) (x:Operand):AV:=(aR_ x).f T
inductive ArgL where
 |mk (f:Tm->List AV)
def h0_:List Operand->ArgL
 |[]=>.mk λ_=>[]
 |x::r=>match aR_ x with
  | .mk f=>match h0_ r with
    | .mk g=>.mk λT=>f T::g T
inductive PartL where
 |mk (f:Tm->List (Nat×AV))
def gN_:List (Nat×Operand)->PartL
 |[]=>.mk λ_=>[]
 |(i,x)::r=>match aR_ x with
  | .mk f=>match gN_ r with
    | .mk g=>.mk λT=>(i,f T)::g T
abbrev Dfs:=List (FuncId×List AV)
inductive CRes where
 |norm (T:Tm) (H:AHeap) (D:Dfs)
 |exit (id:Nat) (T:Tm) (H:AHeap) (D:Dfs)
 |ret (T:Tm) (H:AHeap) (D:Dfs)
 |pan (v:AV) (T:Tm) (H:AHeap) (D:Dfs)
inductive FRes where
 |ret (v:AV) (H:AHeap)
 |pan (v:AV) (H:AHeap)
abbrev CallF:=FuncId->List AV->AHeap->Option FRes
def iD_:List Oper->Nat->Option Oper
 |[],_=>none
 |o::_,0=>some o
 |_::r,n+1=>iD_ r n
inductive GC where
 |always
 |mk (f:Tm->Option Bool)
def bk_ (v:AV) (want:Bool):Option Bool:=match v with
 | .bool b=>match want with
   |true=>some b
   |false=>some (not b)
 | .tup l=>match l with
   |[]=>some false
   |_=>none
 |_=>none
def aT_ (ops:List Oper) (o:Oper):GC:=match o.guard with
 |none=>.always
 |some (j,want)=>match iD_ ops j with
  |some oj=>match oj.dst with
   |some d=>match Nat.blt d 512 with
    |true=>match acs d with
     | .mk f=>.mk λT=>bk_ (f T) want
    |false=>.mk λ_=>some false
   |none=>.mk λ_=>some false
  |none=>.mk λ_=>some false
inductive OC where
 |pv (f:Tm->AV)
 |po (f:Tm->Option AV)
 |ho (f:Tm->AHeap->Option AV)
 |hm (f:Tm->AHeap->Option (AV×AHeap))
 |cl (f:Tm->Option (FuncId×List AV))
 |df (f:Tm->Option (FuncId×List AV))
 |pn (f:Tm->Option AV)
 |rc
 |no
def qS_ (H:AHeap) (a:AV) (n:Nat):Option AV:=match aU_ H a n with
 |some l=>some (.agg l)
 |none=>none
def cn_:Nat->List AV->Option AV
 |_,[]=>none
 |0,a::_=>some a
 |n+1,_::r=>cn_ n r
def s5_ (H:AHeap) (a:AV):Option AV:=match a with
 | .ptr id off=>match H.get id with
   |some (.cells cs)=>cn_ off cs
   |_=>none
 | .vptr cs=>cn_ 0 cs
 |_=>none
def p9_ (off:Nat) (a:AV):Option AV:=match a with
 | .ptr id o=>some (.ptr id (Nat.add o off))
 | .vptr cs=>match Nat.ble off cs.length with
   |true=>some (.vptr (ah_ off cs))
   |false=>none
 |_=>none
def s4_ (size:Nat) (x ix:AV):Option AV:=match ix with
 | .int _ i=>match x with
   | .sl id off len _ _=>match idx i len with
     |some n=>some (.ptr id (Nat.add off (Nat.mul n size)))
     |none=>none
   | .vsl len _ cs=>match idx i len with
     |some n=>some (.vptr (ah_ (Nat.mul n size) cs))
     |none=>none
   |_=>none
 |_=>none
def h1_ (g:IntKind->Int->Int->AV) (els:AV->AV->Option AV) (x y:AV):Option AV:=match x with
 | .int k a=>match y with
   | .int k' b=>match Nat.beq (kix k) (kix k')with
     |true=>some (g k a b)
     |false=>els x y
   |_=>els x y
 |_=>els x y
def dz_ (P:Program) (ρ:Operand->AV) (o:Oper):Option AV:=match e3_ P ρ ⟨hnil,0,0⟩ o with
 |some (.val a _)=>some a
 |_=>none
def hK_ (P:Program) (T:Tm) (o:Oper) (r:Option AV):Option AV:=match r with
 |some a=>some a
 |none=>dz_ P (look T) o
def uc_ (P:Program) (op:BinOp) (t:TypeId) (cx cy:Bool):AV->AV->Option AV:=match op with
 | .add=>h1_ (λk a b=>mkI k (fm_ k (Int.add a b))) (λx y=>bR_ P .add t cx cy x y)
 | .sub=>h1_ (λk a b=>mkI k (fm_ k (Int.sub a b))) (λx y=>bR_ P .sub t cx cy x y)
 | .mul=>h1_ (λk a b=>mkI k (fm_ k (Int.mul a b))) (λx y=>bR_ P .mul t cx cy x y)
 | .eql=>h1_ (λk a b=>.bool (eqI a b)) (λx y=>bR_ P .eql t cx cy x y)
 | .neq=>h1_ (λk a b=>.bool (not (eqI a b))) (λx y=>bR_ P .neq t cx cy x y)
 | .lss=>h1_ (λk a b=>.bool (ltI a b)) (λx y=>bR_ P .lss t cx cy x y)
 | .leq=>h1_ (λk a b=>.bool (not (ltI b a))) (λx y=>bR_ P .leq t cx cy x y)
 | .gtr=>h1_ (λk a b=>.bool (ltI b a)) (λx y=>bR_ P .gtr t cx cy x y)
 | .geq=>h1_ (λk a b=>.bool (not (ltI a b))) (λx y=>bR_ P .geq t cx cy x y)
 |op=>λx y=>bR_ P op t cx cy x y
structure BC where
 f:AV->AV->Option AV
def uV_ (P:Program) (op:BinOp) (t:TypeId) (x y:Operand):OC:=.po λT=>(BC.mk (uc_ P op t (br_ x) (br_ y))).f ((aR_ x).f T) ((aR_ y).f T)
def mq_ (c a b:AV):Option AV:=match c with
 | .bool t=>match t with
   |true=>some a
   |false=>some b
 |_=>none
def tE_ (a:AV):Option AV:=match a with
 | .ptr id off=>some (.ptr id off)
 | .vptr cs=>some (.vptr cs)
 |_=>none
def fnA (P:Program) (f:AV) (args:List AV):Option (FuncId×List AV):=match f with
 | .fn g cap=>match bP_ P g with
   |true=>some (g,jj_ args cap)
   |false=>none
 |_=>none
def dfA (P:Program) (f:AV) (args:List AV):Option (FuncId×List AV):=match f with
 | .fn g cap=>match cap with
   |[]=>match bP_ P g with
    |true=>some (g,args)
    |false=>none
   |_=>none
 |_=>none
def uy_ (v:AV):Option AV:=match v with
 | .iface t a=>some (.iface t a)
 |_=>none
def sW_ (P:Program) (o:Oper) (c:Call):OC:=match c.callee with
 | .value f=>match h0_ c.args.toList with
   | .mk g=>match f with
     | .func id=>match bP_ P id with
       |true=>.cl λT=>some (id,g T)
       |false=>.po λT=>dz_ P (look T) o
     |x=>match aR_ x with
      | .mk h=>.cl λT=>fnA P (h T) (g T)
 | .builtin b=>match b with
   | .len=>match c.args.toList,c.argTypes.toList with
     |[x],[t]=>match aR_ x with
      | .mk f=>.ho λT H=>eq_ P H t (f T)
     |_,_=>.no
   | .append=>match c.args.toList,c.argTypes.toList with
     |[s,x],[t,tx]=>match aR_ s with
      | .mk f=>match aR_ x with
        | .mk g=>.hm λT H=>fW_ P H t tx (f T) (g T)
     |_,_=>.no
   | .copy=>match c.args.toList,c.argTypes.toList with
     |[d,s],[t,_]=>match aR_ d with
      | .mk f=>match aR_ s with
        | .mk g=>.hm λT H=>kM_ P H t (f T) (g T)
     |_,_=>.no
   | .recover=>match c.args.toList with
     |[]=>.rc
     |_=>.no
   |_=>.po λT=>dz_ P (look T) o
 |_=>.no
def ac_ (P:Program) (o:Oper):OC:=match o.op with
 | .move x=>match aR_ x with
   | .mk f=>.pv f
 | .assign x=>match aR_ x with
   | .mk f=>.pv f
 | .pick c a b=>match aR_ c with
   | .mk f=>match aR_ a with
     | .mk g=>match aR_ b with
       | .mk h=>.po λT=>mq_ (f T) (g T) (h T)
 | .alloc t=>.hm λ_ H=>eZ_ P H t
 | .box _ x=>match aR_ x with
   | .mk f=>.hm λT H=>lP_ H (f T)
 | .build t parts=>match gN_ parts.toList with
   | .mk f=>.po λT=>hE_ P t (f T)
 | .buildSlice t n parts=>match gN_ parts.toList with
   | .mk f=>.hm λT H=>bq_ P H t n (f T)
 | .load t a=>match aR_ a with
   | .mk f=>match P.underlying t with
     |none=>.no
     |some d=>match pd_ d with
      |true=>match P.info? t with
       |none=>.no
       |some i=>.ho λT H=>qS_ H (f T) i.size
      |false=>.ho λT H=>s5_ H (f T)
 | .store t a x=>match aR_ a with
   | .mk f=>match aR_ x with
     | .mk g=>.hm λT H=>b8_ P H t (f T) (g T)
 | .nilCheck x=>match aR_ x with
   | .mk f=>.po λT=>tE_ (f T)
 | .binOp op t x y _=>uV_ P op t x y
 | .unOp op _ x=>match aR_ x with
   | .mk f=>.po λT=>hK_ P T o (on_ op (f T))
 | .convert s d x=>match aR_ x with
   | .mk f=>match ro_ P s d with
     |true=>.hm λT H=>e0_ P H s d (f T)
     |false=>.ho λT H=>match dS_ P H s d (f T)with
      |some a=>some a
      |none=>dz_ P (look T) o
 | .index t x i=>match aR_ x with
   | .mk f=>match aR_ i with
     | .mk g=>.po λT=>hK_ P T o (ep_ P t (f T) (g T))
 | .makeInterface t x=>match eW_ P t with
   |true=>match aR_ x with
    | .mk f=>.pv λT=>.iface t (f T)
   |false=>.no
 | .makeFunc fn first captured=>match fn with
   | .func f=>match first.toList with
     |[]=>match h0_ captured.toList with
      | .mk g=>.pv λT=>.fn f (g T)
     |_=>.no
   |_=>.no
 | .makeMap t r=>match r with
   |none=>.hm λ_ H=>e2_ P H t
   |some _=>.no
 | .makeSlice t l c=>match aR_ l with
   | .mk f=>match aR_ c with
     | .mk g=>.hm λT H=>bZ_ P H t (f T) (g T)
 | .slice t x lo hi mx=>match mx with
   |none=>match aR_ x with
    | .mk f=>match lo with
      |none=>match hi with
       |none=>.ho λT H=>a5_ P H t (f T) none none
       |some hi=>match aR_ hi with
        | .mk h=>.ho λT H=>a5_ P H t (f T) none (some (h T))
      |some lo=>match aR_ lo with
       | .mk g=>match hi with
         |none=>.ho λT H=>a5_ P H t (f T) (some (g T)) none
         |some hi=>match aR_ hi with
          | .mk h=>.ho λT H=>a5_ P H t (f T) (some (g T)) (some (h T))
   |some _=>.no
 | .fieldAddr s x f=>match P.underlying s with
   |some (.struct fields)=>match fields[f]? with
    |some fl=>match P.info? fl.type with
     |some i=>match i.size with
      |0=>.no
      |_+1=>match aR_ x with
       | .mk g=>.po λT=>p9_ fl.offset (g T)
     |none=>.no
    |none=>.no
   |_=>.no
 | .field s x f=>match aR_ x with
   | .mk g=>.po λT=>eo_ P s (g T) f
 | .indexAddr t x ix=>match aR_ x with
   | .mk f=>match aR_ ix with
     | .mk g=>match P.underlying t with
       |some (.slice e)=>match P.info? e with
        |some ti=>.po λT=>s4_ ti.size (f T) (g T)
        |none=>.no
       |_=>.po λT=>aZ_ P t (f T) (g T)
 | .lookup t x ix ok=>match aR_ x with
   | .mk f=>match aR_ ix with
     | .mk g=>.ho λT H=>bm_ P H t (f T) (g T) ok
 | .mapUpdate t m k x=>match aR_ m with
   | .mk f=>match aR_ k with
     | .mk g=>match aR_ x with
       | .mk h=>.hm λT H=>a0_ P H t (f T) (g T) (h T)
 | .insert t m k x=>match aR_ m with
   | .mk f=>match aR_ k with
     | .mk g=>match aR_ x with
       | .mk h=>.hm λT H=>a0_ P H t (f T) (g T) (h T)
 | .typeAssert x _ asserted ok=>match aR_ x with
   | .mk f=>.po λT=>fX_ P (f T) asserted ok
 | .extract t ix=>match aR_ t with
   | .mk f=>.po λT=>e1_ (f T) ix
 | .call c=>sW_ P o c
 | .defer c=>match c.callee with
   | .value x=>match aR_ x with
     | .mk f=>match h0_ c.args.toList with
       | .mk g=>.df λT=>dfA P (f T) (g T)
   |_=>.no
 | .panic x=>match aR_ x with
   | .mk f=>.pn λT=>uy_ (f T)
 |_=>.no
def OC.run (c:OC) (T:Tm) (H:AHeap):Option ORes:=match c with
 | .pv f=>some (.val (f T) H)
 | .po f=>match f T with
   |some a=>some (.val a H)
   |none=>none
 | .ho f=>match f T H with
   |some a=>some (.val a H)
   |none=>none
 | .hm f=>match f T H with
   |some (a,H')=>some (.val a H')
   |none=>none
 | .cl f=>match f T with
   |some (g,args)=>some (.call g args)
   |none=>none
 | .df f=>match f T with
   |some (g,args)=>some (.dfr g args)
   |none=>none
 | .pn f=>match f T with
   |some v=>some (.pan v)
   |none=>none
 | .rc=>some .rcv
 | .no=>none
abbrev Res:=Option FRes
abbrev Kn:=Tm->AHeap->Dfs->Res
structure LC where
 f:CallF->Tm->AHeap->Dfs->Kn->(CRes->Res)->Res
def onP (r:Option AV) (k:AV->Res):Res:=Option.casesOn r none k
def onM (r:Option (AV×AHeap)) (k:AV->AHeap->Res):Res:=Option.casesOn r none λp=>Prod.casesOn p k
def onC (r:Option (FuncId×List AV)) (k:FuncId->List AV->Res):Res:=Option.casesOn r none λp=>Prod.casesOn p k
def onF (r:Option FRes) (k:AV->AHeap->Res) (x:AV->AHeap->Res):Res:=Option.casesOn r none λp=>FRes.casesOn p k x
def st_ (c:OC) (u:Tm->AV->Tm) (k:LC):LC:=match c with
 | .pv f=>⟨λcall T H D K X=>k.f call (u T (f T)) H D K X⟩
 | .po f=>⟨λcall T H D K X=>onP (f T) λa=>k.f call (u T a) H D K X⟩
 | .ho f=>⟨λcall T H D K X=>onP (f T H) λa=>k.f call (u T a) H D K X⟩
 | .hm f=>⟨λcall T H D K X=>onM (f T H) λa H'=>k.f call (u T a) H' D K X⟩
 | .cl f=>⟨λcall T H D K X=>onC (f T) λg args=>onF (call g args H) (λa H'=>k.f call (u T a) H' D K X) (λv H'=>X (.pan v T H' D))⟩
 | .df f=>⟨λcall T H D K X=>onC (f T) λg args=>k.f call (u T (.tup [])) H ((g,args)::D) K X⟩
 | .pn f=>⟨λcall T H D K X=>onP (f T) λv=>X (.pan v T H D)⟩
 | .rc=>⟨λ_ _ _ _ _ _=>none⟩
 | .no=>⟨λ_ _ _ _ _ _=>none⟩
def eU_ (P:Program) (N:Nat) (all:List Oper):List Oper->LC
 |[]=>⟨λ_ T H D K _=>K T H D⟩
 |o::r=>match bN_ N o.dst with
  | .bad=>⟨λ_ _ _ _ _ _=>none⟩
  | .mk u=>match aT_ all o with
    | .always=>st_ (ac_ P o) u (eU_ P N all r)
    | .mk g=>⟨λcall T H D K X=>match g T with
       |some t=>match t with
        |true=>(st_ (ac_ P o) u (eU_ P N all r)).f call T H D K X
        |false=>(eU_ P N all r).f call (u T (.tup [])) H D K X
       |none=>none⟩
inductive Kd where
 |pure|read|mem|wr
def bz_:Op->Kd
 | .load _ _| .lookup _ _ _ _| .slice _ _ _ _ _| .convert _ _ _=>.read
 | .alloc _| .box _ _| .buildSlice _ _ _| .makeSlice _ _ _| .makeMap _ _=>.mem
 | .store _ _ _| .mapUpdate _ _ _ _| .insert _ _ _ _| .panic _| .defer _=>.wr
 | .call c=>match c.callee with
   | .builtin b=>match b with
     | .len=>.read
     | .max| .min=>.pure
     |_=>.wr
   |_=>.wr
 | .move _| .assign _| .pick _ _ _| .build _ _| .nilCheck _| .binOp _ _ _ _ _| .unOp _ _ _| .fieldAddr _ _ _| .field _ _ _| .indexAddr _ _ _| .index _ _ _
 | .makeInterface _ _| .makeFunc _ _ _| .typeAssert _ _ _ _| .extract _ _=>.pure
 |_=>.wr
structure SI where
 o:Oper
 bef:Nat
 kd:Kd
 lo:Nat
 hi:Nat
 rd:List Nat
 fz:Bool
def dM_ (e:Edge):Bool:=match e.ground with
 | .textOnly _=>false
 | .gcOnly _=>false
 |_=>true
def pJ_:List Nat->Nat->Nat
 |[],_=>0
 |a::_,0=>a
 |_::r,n+1=>pJ_ r n
def d8_ (bs:List Nat):List Edge->Nat
 |[]=>0
 |e::r=>match dM_ e with
  |true=>Nat.lor (Nat.lor (Nat.pow 2 e.on) (pJ_ bs e.on)) (d8_ bs r)
  |false=>d8_ bs r
def qi_:List Oper->List Nat->List Nat
 |[],bs=>bs
 |o::r,bs=>qi_ r (bs++[d8_ bs o.after.toList])
def bit (m i:Nat):Bool:=match Nat.land (Nat.shiftRight m i) 1 with
 |0=>false
 |_=>true
def a8_:Kd->Bool
 | .wr=>true
 |_=>false
def l9_ (b:Nat):List Oper->Nat->Nat
 |[],_=>0
 |o::r,k=>match a8_ (bz_ o.op)&&bit b k with
  |true=>Nat.succ (l9_ b r (Nat.succ k))
  |false=>l9_ b r (Nat.succ k)
def l2_ (i:Nat):List Oper->List Nat->Nat
 |o::r,b::bs=>match a8_ (bz_ o.op)with
  |true=>match bit b i with
   |true=>0
   |false=>Nat.succ (l2_ i r bs)
  |false=>l2_ i r bs
 |_,_=>0
def memT (t:Nat):List Nat->Bool
 |[]=>false
 |a::r=>match Nat.beq a t with
  |true=>true
  |false=>memT t r
def d4_:List Operand->List Nat
 |[]=>[]
 | .tmp t::r=>t::d4_ r
 |_::r=>d4_ r
def cP_ (ops:List Oper) (o:Oper):List Nat:=match o.guard with
 |none=>d4_ o.op.operands.toList
 |some (j,_)=>match iD_ ops j with
  |some oj=>match oj.dst with
   |some d=>d::d4_ o.op.operands.toList
   |none=>d4_ o.op.operands.toList
  |none=>d4_ o.op.operands.toList
def sU_:Op->Option (List Operand)
 | .call c=>match c.callee with
   | .builtin b=>match b with
     | .append=>some c.args.toList
     |_=>none
   |_=>none
 |_=>none
def fzIn (d:Nat):List Oper->Bool
 |[]=>false
 |o::r=>(match sU_ o.op with
  |some l=>match l with
   |[_,x]=>match x with
    | .tmp t=>Nat.beq t d
    |_=>false
   |_=>false
  |none=>false)||fzIn d r
def fzBy (i b:Nat):List Oper->List Nat->Nat->Bool
 |o::r,c::s,j=>(match sU_ o.op with
  |some _=>not (bit b j)&&not (bit c i)
  |none=>false)||fzBy i b r s (Nat.succ j)
 |_,_,_=>false
def ts_ (ops:List Oper) (bs:List Nat) (b i:Nat) (o:Oper):Bool:=match o.op with
 | .buildSlice _ _ _=>match o.dst with
   |some d=>fzIn d ops&&fzBy i b ops bs 0
   |none=>false
 |_=>false
def sis (ops:List Oper) (bs:List Nat):List Oper->List Nat->Nat->List SI
 |o::r,b::c,i=>⟨o,b,bz_ o.op,l9_ b ops 0,l2_ i ops bs,cP_ ops o,ts_ ops bs b i o⟩::sis ops bs r c (Nat.succ i)
 |_,_,_=>[]
def g5_ (x y:SI):Bool:=match x.o.dst with
 |some d=>match y.o.dst with
  |some e=>Nat.beq d e||(memT d y.rd||memT e x.rd)
  |none=>memT d y.rd
 |none=>match y.o.dst with
  |some e=>memT e x.rd
  |none=>false
def k4_ (x:SI) (i:Nat) (y:SI):Bool:=match g5_ x y||(a8_ x.kd&&a8_ y.kd)with
 |true=>bit y.bef i
 |false=>true
def nC_ (x:SI) (i:Nat):List SI->Bool
 |[]=>true
 |y::r=>k4_ x i y&&nC_ x i r
def q9_:List SI->Nat->Bool
 |[],_=>true
 |x::r,i=>nC_ x i r&&q9_ r (Nat.succ i)
def e7_:List Edge->Nat->Bool
 |[],_=>true
 |e::r,i=>match dM_ e with
  |true=>Nat.blt e.on i&&e7_ r i
  |false=>e7_ r i
def okE:List Oper->Nat->Bool
 |[],_=>true
 |o::r,i=>e7_ o.after.toList i&&okE r (Nat.succ i)
def aV_:List SI->Nat
 |[]=>0
 |x::r=>match x.kd with
  | .mem=>Nat.succ (aV_ r)
  |_=>aV_ r
inductive Plan where
 |no
 |mk (l:List SI) (n:Nat)
def nI_ (ops:List Oper):Plan:=
 match okE ops 0 with
 |true=>
  match qi_ ops []with
  |bs=>match sis ops bs ops bs 0 with
   |l=>match q9_ l 0 with
    |true=>.mk l (aV_ l)
    |false=>.no
 |false=>.no
structure Fl where
 op:Nat
 id:Nat
 b:ABlk
def dk_ (bef:Nat):List Fl->AHeap->AHeap
 |[],H=>H
 |f::r,H=>match bit bef f.op with
  |true=>dk_ bef r (H.set f.id f.b)
  |false=>dk_ bef r H
def fA_ (bef:Nat):List Fl->List Fl
 |[]=>[]
 |f::r=>match bit bef f.op with
  |true=>fA_ bef r
  |false=>f::fA_ bef r
def fG_:List Fl->AHeap->AHeap
 |[],H=>H
 |f::r,H=>fG_ r (H.set f.id f.b)
def sp_:List AHeap->Nat->Option AHeap
 |[],_=>none
 |a::_,0=>some a
 |_::r,n+1=>sp_ r n
mutual
def bM_:AV->AV->Bool
 | .bool a,.bool b=>a==b
 | .int k a,.int k' b=>Nat.beq (kix k) (kix k')&&eqI a b
 | .flt k a,.flt k' b=>decide (k=k')&&Nat.beq a b
 | .nan k,.nan k'=>decide (k=k')
 | .str a,.str b=>eqB a b
 | .nptr,.nptr=>true
 | .vptr a,.vptr b=>dl_ a b
 | .vsl a b c,.vsl a' b' c'=>Nat.beq a a'&&Nat.beq b b'&&dl_ c c'
 | .ptr a b,.ptr c d=>Nat.beq a c&&Nat.beq b d
 | .nsl,.nsl=>true
 | .sl a b c d e,.sl a' b' c' d' e'=>Nat.beq a a'&&Nat.beq b b'&&Nat.beq c c'&&Nat.beq d d'&&(e==e')
 | .nmap,.nmap=>true
 | .map a,.map b=>Nat.beq a b
 | .nfn,.nfn=>true
 | .fn f a,.fn g b=>Nat.beq f g&&dl_ a b
 | .nif,.nif=>true
 | .iface t a,.iface u b=>Nat.beq t u&&bM_ a b
 | .agg a,.agg b=>dl_ a b
 | .tup a,.tup b=>dl_ a b
 | .sym i,.sym j=>Nat.beq i j
 | .slx i a b,.slx j c d=>Nat.beq i j&&(Nat.beq a c&&Nat.beq b d)
 | .ptx i a b c,.ptx j d e f=>Nat.beq i j&&(Nat.beq a d&&(Nat.beq b e&&Nat.beq c f))
 |_,_=>false
def dl_:List AV->List AV->Bool
 |[],[]=>true
 |a::r,b::s=>bM_ a b&&dl_ r s
 |_,_=>false
end
def cc_ (c:OC) (T:Tm) (H:AHeap):Option AV:=match c with
 | .pv f=>some (f T)
 | .po f=>f T
 | .ho f=>f T H
 |_=>none
def hN_ (c:OC) (T:Tm) (a:AV):Nat->List AHeap->Bool
 |0,_=>true
 |_+1,[]=>true
 |n+1,H::r=>match cc_ c T H with
  |some a'=>bM_ a a'&&hN_ c T a n r
  |none=>false
def topq:Tm:=Q8.all (Q8.all (Q8.all .opq))
def av_ (T:Tm):List Nat->Tm->Tm
 |[],R=>R
 |t::r,R=>match Nat.blt t 512 with
  |true=>av_ T r (eM_ R t (tget T t))
  |false=>av_ T r R
structure Rd where
 T:Tm
 o:Oper
 a:AV
 lo:Nat
 hi:Nat
def ob_:Nat->List AHeap->List AHeap
 |0,l=>l
 |_+1,[]=>[]
 |n+1,_::r=>ob_ n r
def fa_ (P:Program) (Gs:List AHeap):List Rd->Bool
 |[]=>true
 |x::r=>hN_ (ac_ P x.o) x.T x.a (Nat.sub x.hi x.lo) (ob_ (Nat.succ x.lo) Gs)&&fa_ P Gs r
def r5_ (N:Nat):List SI->Tm->Option Tm
 |[],T=>some T
 |x::r,T=>match bN_ N x.o.dst with
  | .mk u=>r5_ N r (u T .opq)
  | .bad=>none
structure DS where
 T:Tm
 Gs:List AHeap
 fl:List Fl
 rd:List Rd
 dead:Option (Nat×AV×AHeap)
def iw_:List AHeap->Option AHeap
 |[]=>none
 |a::r=>match r with
  |[]=>some a
  |_=>iw_ r
def kl_:List AHeap->AHeap->List AHeap
 |[],x=>[x]
 |a::r,x=>a::kl_ r x
def tu_ (d:Option (Nat×AV×AHeap)) (bef:Nat):Bool:=match d with
 |none=>false
 |some (i,_)=>bit bef i
def e6_:List SI->Nat->Nat->Bool
 |[],_,_=>true
 |y::r,i,j=>match a8_ y.kd&&bit y.bef j with
  |true=>match bit y.bef i with
   |true=>e6_ r i j
   |false=>false
  |false=>e6_ r i j
def iU_ (c:OC) (R:Tm) (bef:Nat) (rest:List SI) (i:Nat):List Fl->Option AV
 |[]=>none
 |f::r=>match bit bef f.op&&e6_ rest i f.op with
  |true=>match cc_ c R ((⟨hnil,0,0⟩:AHeap).set f.id f.b)with
   |some a=>some a
   |none=>iU_ c R bef rest i r
  |false=>iU_ c R bef rest i r
def na_ (P:Program) (call:CallF) (u:Tm->AV->Tm) (x:SI) (rest:List SI) (i:Nat) (id:Nat) (R:Tm) (s:DS):Option DS:=match x.kd with
 | .pure=>match cc_ (ac_ P x.o) R ⟨hnil,0,0⟩with
   |some a=>some ⟨u s.T a,s.Gs,s.fl,s.rd,s.dead⟩
   |none=>none
 | .read=>match sp_ s.Gs x.lo with
   |none=>none
   |some G=>match cc_ (ac_ P x.o) R G with
    |some a=>some ⟨u s.T a,s.Gs,s.fl,⟨R,x.o,a,x.lo,x.hi⟩::s.rd,s.dead⟩
    |none=>match iU_ (ac_ P x.o) R x.bef rest i s.fl with
     |some a=>some ⟨u s.T a,s.Gs,s.fl,s.rd,s.dead⟩
     |none=>none
 | .mem=>match (ac_ P x.o).run R ⟨hnil,id,Nat.succ id⟩with
   |some (.val a H')=>match H'.get id with
    |some b=>some ⟨u s.T a,s.Gs,⟨i,id,b⟩::s.fl,s.rd,s.dead⟩
    |none=>none
   |_=>none
 | .wr=>match s.dead with
   |some _=>none
   |none=>match iw_ s.Gs with
    |none=>none
    |some G=>match (ac_ P x.o).run R (dk_ x.bef s.fl G)with
     |some (.val a H')=>some ⟨u s.T a,kl_ s.Gs H',fA_ x.bef s.fl,s.rd,s.dead⟩
     |some (.call f args)=>match call f args (dk_ x.bef s.fl G)with
      |some (.ret a H')=>some ⟨u s.T a,kl_ s.Gs H',fA_ x.bef s.fl,s.rd,s.dead⟩
      |some (.pan v H')=>some ⟨s.T,s.Gs,s.fl,s.rd,some (i,v,H')⟩
      |none=>none
     |some (.pan v)=>some ⟨s.T,s.Gs,s.fl,s.rd,some (i,v,dk_ x.bef s.fl G)⟩
     |_=>none
def kE_ (u:Tm->AV->Tm) (x:SI) (s:DS):Option DS:=match x.kd with
 | .wr=>match s.dead with
   |some _=>none
   |none=>match iw_ s.Gs with
    |none=>none
    |some G=>some ⟨u s.T (.tup []),kl_ s.Gs G,s.fl,s.rd,s.dead⟩
 |_=>some ⟨u s.T (.tup []),s.Gs,s.fl,s.rd,s.dead⟩
def aJ_ (all:List Oper) (x:SI) (R:Tm):Option Bool:=match aT_ all x.o with
 | .always=>some true
 | .mk g=>g R
def en_ (P:Program) (call:CallF) (N:Nat) (all:List Oper) (x:SI) (rest:List SI) (i:Nat) (id:Nat) (s:DS):Option DS:=
 match tu_ s.dead x.bef with
 |true=>some s
 |false=>match bN_ N x.o.dst with
  | .bad=>none
  | .mk u=>match aJ_ all x (av_ s.T x.rd topq)with
    |none=>none
    |some t=>match t with
     |true=>na_ P call u x rest i id (av_ s.T x.rd topq) s
     |false=>kE_ u x s
def dd_ (P:Program) (call:CallF) (N:Nat) (all:List Oper):List SI->Nat->Nat->DS->Option DS
 |[],_,_,s=>some s
 |x::r,i,id,s=>match en_ P call N all x r i id s with
  |none=>none
  |some s'=>match x.kd with
   | .mem=>dd_ P call N all r (Nat.succ i) (Nat.succ id) s'
   |_=>dd_ P call N all r (Nat.succ i) id s'
def h8_ (P:Program) (call:CallF) (N:Nat) (ops:List Oper) (T:Tm) (H:AHeap) (D:Dfs):Option CRes:=match nI_ ops with
 | .no=>none
 | .mk l n=>match Nat.ble (Nat.add H.next n) H.hi with
   |false=>none
   |true=>match dd_ P call N ops l 0 (Nat.sub H.hi n) ⟨T,[⟨H.tr,H.next,Nat.sub H.hi n⟩],[],[],none⟩with
    |none=>none
    |some s=>match fa_ P s.Gs s.rd with
     |false=>none
     |true=>match s.dead with
      |some (_,v,H')=>match r5_ N l T with
       |some T'=>some (.pan v T' H' D)
       |none=>none
      |none=>match iw_ s.Gs with
       |some G=>some (.norm s.T (fG_ s.fl G) D)
       |none=>none
structure CC where
 f:CallF->Nat->Tm->AHeap->Dfs->Kn->(CRes->Res)->Res
def loopE (b:Tm->AHeap->Dfs->Kn->(CRes->Res)->Res):Nat->Tm->AHeap->Dfs->(CRes->Res)->Res
 |0,_,_,_,_=>none
 |n+1,T,H,D,X=>b T H D (λT' H' D'=>loopE b n T' H' D' X) X
def sV_ (id:Nat) (K:Kn) (X:CRes->Res) (r:CRes):Res:=match r with
 | .exit id' T H D=>match Nat.beq id' id with
   |true=>K T H D
   |false=>X r
 |_=>X r
def sZ_ (r:Option CRes) (K:Kn) (X:CRes->Res):Res:=match r with
 |none=>none
 |some r=>match r with
  | .norm T H D=>K T H D
  |_=>X r
def sX_ (v:AV) (a b:Res):Res:=match v with
 | .bool t=>match t with
   |true=>a
   |false=>b
 |_=>none
def bb_ (P:Program) (N:Nat):Code->CC
 | .skip=>⟨λ_ _ T H D K _=>K T H D⟩
 | .region _ ops draw=>match draw with
   |false=>⟨λcall _ T H D K X=>(eU_ P N ops.toList ops.toList).f call T H D K X⟩
   |true=>⟨λcall _ T H D K X=>sZ_ (h8_ P call N ops.toList T H D) K X⟩
 | .seq a b=>⟨λcall n T H D K X=>(bb_ P N a).f call n T H D (λT H D=>(bb_ P N b).f call n T H D K X) X⟩
 | .cond c a b=>⟨λcall n T H D K X=>sX_ ((aR_ c).f T) ((bb_ P N a).f call n T H D K X) ((bb_ P N b).f call n T H D K X)⟩
 | .block id b=>⟨λcall n T H D K X=>(bb_ P N b).f call n T H D K (sV_ id K X)⟩
 | .loop b=>⟨λcall n T H D _ X=>loopE (λT H D K X=>(bb_ P N b).f call n T H D K X) n T H D X⟩
 | .exit id=>⟨λ_ _ T H D _ X=>X (.exit id T H D)⟩
 | .label _=>⟨λ_ _ T H D K _=>K T H D⟩
 | .ret=>⟨λ_ _ T H D _ X=>X (.ret T H D)⟩
 |_=>⟨λ_ _ _ _ _ _ _=>none⟩
def aX_:List AV->Nat->Tm->Tm
 |[],_,T=>T
 |a::r,i,T=>aX_ r (Nat.succ i) (eM_ T i a)
def dK_ (P:Program) (T:Tm) (H:AHeap):List ResultVar->Option (List AV)
 |[]=>some []
 | .tmp t::r=>match Nat.blt t 512 with
   |true=>match dK_ P T H r with
    |some l=>some (tget T t::l)
    |none=>none
   |false=>none
 | .cell a t::r=>match Nat.blt a 512 with
   |true=>match bx_ P H t (tget T a)with
    |some v=>match dK_ P T H r with
     |some l=>some (v::l)
     |none=>none
    |none=>none
   |false=>none
def rj_ (l:List AV):AV:=match l with
 |[]=>.tup []
 |a::r=>match r with
  |[]=>a
  |_=>.tup l
inductive SRes where
 |norm (T:Tm) (H:AHeap) (u:Option AV)
 |ret (T:Tm) (H:AHeap) (u:Option AV)
def k6_ (P:Program) (call:CallF) (N:Nat) (all:List Oper):List Oper->Tm->AHeap->Option AV->Option SRes
 |[],T,H,u=>some (.norm T H u)
 |o::r,T,H,u=>match bN_ N o.dst with
  | .bad=>none
  | .mk p=>match (match aT_ all o with
      | .always=>some true
      | .mk g=>g T)with
    |none=>none
    |some false=>k6_ P call N all r (p T (.tup [])) H u
    |some true=>match (ac_ P o).run T H with
     |none=>none
     |some (.val a H')=>k6_ P call N all r (p T a) H' u
     |some (.call f args)=>match call f args H with
      |some (.ret a H')=>k6_ P call N all r (p T a) H' u
      |_=>none
     |some .rcv=>match u with
      |some v=>k6_ P call N all r (p T v) H none
      |none=>k6_ P call N all r (p T .nif) H none
     |_=>none
def ci_ (P:Program) (call:CallF) (N:Nat) (n:Nat):Code->Tm->AHeap->Option AV->Option SRes
 | .seq a b,T,H,u=>match ci_ P call N n a T H u with
   |some (.norm T' H' u')=>ci_ P call N n b T' H' u'
   |r=>r
 | .cond c a b,T,H,u=>match look T c with
   | .bool true=>ci_ P call N n a T H u
   | .bool false=>ci_ P call N n b T H u
   |_=>none
 | .region id ops draw,T,H,u=>match draw with
   |false=>k6_ P call N ops.toList ops.toList T H u
   |true=>match h8_ P call N ops.toList T H []with
    |some (.norm T' H' [])=>some (.norm T' H' u)
    |_=>none
 | .block _ b,T,H,u=>ci_ P call N n b T H u
 | .skip,T,H,u=>some (.norm T H u)
 | .ret,T,H,u=>some (.ret T H u)
 |_,_,_,_=>none
def to_ (P:Program) (call:CallF) (n:Nat) (f:FuncId) (args:List AV) (H:AHeap) (u:Option AV):Option (AHeap×Option AV):=match P.funcs[f]? with
 |some fn=>match fn.body with
  |some c=>match Nat.ble (aP_ args) fn.ntmps&&Nat.ble fn.ntmps 512 with
   |true=>match ci_ P call fn.ntmps n c (aX_ args 0 tnil) H u with
    |some (.norm T' H' u')=>match dK_ P T' H' fn.results.toList with
     |some _=>some (H',u')
     |none=>none
    |some (.ret T' H' u')=>match dK_ P T' H' fn.results.toList with
     |some _=>some (H',u')
     |none=>none
    |none=>none
   |false=>none
  |none=>none
 |none=>none
def cC_ (P:Program) (call:CallF) (n:Nat) (rs:List ResultVar) (T:Tm):Dfs->AHeap->Option AV->Option FRes
 |[],H,u=>match u with
  |none=>match dK_ P T H rs with
   |some l=>some (.ret (rj_ l) H)
   |none=>none
  |some v=>some (.pan v H)
 |(f,args)::D,H,u=>match to_ P call n f args H u with
  |some (H',u')=>cC_ P call n rs T D H' u'
  |none=>none
inductive FC where
 |no
 |mk (N:Nat) (c:CC) (rs:List ResultVar)
def qn_ (P:Program) (f:FuncId):FC:=match P.funcs[f]? with
 |some fn=>match fn.body with
  |some c=>match Nat.ble fn.ntmps 512 with
   |true=>.mk fn.ntmps (bb_ P fn.ntmps c) fn.results.toList
   |false=>.no
  |none=>.no
 |none=>.no
def tv_ (P:Program) (call:CallF) (n:Nat) (rs:List ResultVar) (r:CRes):Res:=match r with
 | .norm T H D=>cC_ P call n rs T D H none
 | .ret T H D=>cC_ P call n rs T D H none
 | .pan v T H D=>cC_ P call n rs T D H (some v)
 | .exit _ _ _ _=>none
def du_ (P:Program) (call:CallF) (n:Nat) (f:FuncId) (args:List AV) (H:AHeap):Option FRes:=match qn_ P f with
 | .mk N c rs=>match Nat.ble (aP_ args) N with
   |true=>c.f call n (aX_ args 0 tnil) H [] (λT H D=>cC_ P call n rs T D H none) (tv_ P call n rs)
   |false=>none
 | .no=>none
def aM_ (P:Program):Nat->CallF
 |0=>λ_ _ _=>none
 |n+1=>λf args H=>match Gl.ov f args H with
  |some v=>some (.ret v H)
  |none=>du_ P (aM_ P n) n f args H
def H0:AHeap:=⟨hnil,0,top⟩
end Go.Sx
namespace Go.Sx
variable [Gl]
open Q8 (AtC atc UpC upc)
omit [Gl]in
theorem fd_ (T:Tm) (t:Nat):tget T t=Q8.at8 (Nat.mod t 8) (Q8.at8 (Nat.mod (Nat.div t 8) 8) (Q8.at8 (Nat.div t 64) T)):=by
 grind [tget,acs,Q8.at8]
omit [Gl]in
theorem o2_ (T:Tm) (t:Nat) (a:AV):eM_ T t a=Q8.up8 (Nat.div t 64) T λq=>Q8.up8 (Nat.mod (Nat.div t 8) 8) q λr=>Q8.up8 (Nat.mod t 8) r λ_=>a:=by simp_all [eM_,ups,Q8.up8]
omit [Gl]in
theorem aq_ (T:Tm) {t:Nat} (h:t<512) (a:AV):tget (eM_ T t a) t=a:=by
 have h2:Nat.div t 64<8:=by show t/64<8;omega
 grind [fd_,o2_,Q8.at_up_same,fT_]
omit [Gl]in
theorem ar_ (T:Tm) {t d:Nat} (h:t<512) (h':d<512) (hne:d≠t) (a:AV):tget (eM_ T d a) t=tget T t:=by
 have h2:Nat.div t 64<8:=by show t/64<8;omega
 have h2':Nat.div d 64<8:=by show d/64<8;omega
 rw [fd_,o2_,fd_];by_cases e2:Nat.div d 64=Nat.div t 64
 .rw [←e2,Q8.at_up_same _ h2'];by_cases e1:Nat.mod (Nat.div d 8) 8=Nat.mod (Nat.div t 8) 8
  .rw [←e1,Q8.at_up_same _ (cA_ _ _)];by_cases e0:Nat.mod d 8=Nat.mod t 8;have e2:d/64=t/64:=e2;have e1:d/8%8=t/8%8:=e1;have e0:d%8=t%8:=e0;omega
   grind [Q8.at_up_ne,fT_]
  grind [Q8.at_up_ne,cA_]
 grind [Q8.at_up_ne]
omit [Gl]in
theorem pX_ (t:Nat):tget tnil t=.tup []:=by
 grind [fd_,tnil,Q8.at_all]
def GlOk (E:Env):Prop:=(∀g:Nat,Con E (Gl.gl g) (.pointer (some ⟨g,0,none⟩)))/\Gl.gt E.sy
theorem GlOk.sub {E E':Env} (h:GlOk E) (hs:E.sub E'):GlOk E':=⟨λg=>(h.1 g).sub hs,by rw [hs.2.2.2.1];exact h.2⟩
structure TRel (E:Env) (N:Nat) (T:Tm) (tmps:Array Value):Prop where
 size:tmps.size=N
 le:N<=512
 con:∀t,t<512->Con E (tget T t) (tmps.getD t undef)
 gl:GlOk E
theorem TRel.mono {E E':Env} {N:Nat} {T:Tm} {tmps:Array Value} (h:TRel E N T tmps) (hl:E.le E'):TRel E' N T tmps:=⟨h.size,h.le,λt ht=>(h.con t ht).mono hl,h.gl.sub hl.1⟩
omit [Gl]in
theorem a1_ (E:Env):Con E (.tup []) undef:=by simp [Con,undef,ConL]
theorem TRel.look {E:Env} {N:Nat} {T:Tm} {a:Act} (h:TRel E N T a.tmps) (x:Operand):Con E (look T x) (a.eval x):=by
 unfold Sx.look aR_;cases x with
 |tmp t=>
  simp only;split;rename_i hb;have hb:t<512:=(by simp_all);exact h.con t hb
  .rename_i hb;have hb:¬t<512:=λhlt=>by
    grind [Nat.blt_eq]
   have:a.tmps.getD t undef=undef:=by
    have hs:=h.size;have hN:=h.le
    grind
   show Con E (.tup []) (a.tmps.getD t undef)
   grind [a1_]
 |const v=>exact cH_ E v
 |global g=>exact h.gl.1 g
 |func f=>exact ⟨[],rfl,ConL.nil E⟩
theorem TRel.put {E:Env} {N:Nat} {T:Tm} {a:Act} (h:TRel E N T a.tmps) {dst:Option Nat} {u:Tm->AV->Tm} (hu:bN_ N dst=.mk u) {x:AV} {v:Value} (hc:Con E x v):
  TRel E N (u T x) (a.put dst v).tmps:=by
 unfold bN_ at hu;split at hu;cases hu;exact h
 .rename_i d;split at hu
  .rename_i hb;cases hu;obtain ⟨h1,h2⟩:=aa_ hb;have h1:d<N:=(by simp_all);have h2:d<512:=(by simp_all);refine ⟨by simp [Act.put,h.size],h.le,λt ht=>?_,h.gl⟩;have hs:=h.size;by_cases e:d=t;have:tget ((ups d).f T x) d=x:=aq_ T h2 x;simp_all [Act.put]
   have:tget ((ups d).f T x) t=tget T t:=ar_ T ht h2 e x;rw [this];have hv:(a.put (some d) v).tmps.getD t undef=a.tmps.getD t undef:=(by simp_all [Act.put]);rw [hv];exact h.con t ht
  cases hu
omit [Gl]in
theorem iE_:∀(l:List Oper) (n:Nat),iD_ l n=l[n]?
 |[],n=>by simp [iD_]
 |a::r,0=>rfl
 |a::r,n+1=>by simp [iD_,iE_ r n]
def bOf (v:Value):Option Bool:=match v with
 | .bool b=>some b
 |_=>none
omit [Gl]in
theorem hq_ (ops:Array Oper) (tmps:Array Value) {j d:Nat} {oj:Oper} (hj:ops[j]? =some oj) (hd:oj.dst=some d):yielded ops tmps j=bOf (tmps.getD d undef):=by
 unfold yielded;simp only [hj,Option.bind_some,hd];rcases Nat.lt_or_ge d tmps.size with hlt|hge
 .have e1:tmps[d]? =some tmps[d]:=(by simp [hlt]);have e2:tmps.getD d undef=tmps[d]:=(by simp_all);rw [e1,e2];generalize tmps[d]=v;cases v<;>rfl
 .have e1:tmps[d]? =none:=(by simp [hge]);have e2:tmps.getD d undef=undef:=by
   grind
  rw [e1,e2];rfl
omit [Gl]in
theorem pg_ {E:Env} {x:AV} {v:Value} (hc:Con E x v) {want t:Bool} (h:bk_ x want=some t):(bOf v==some want)=t:=by
 unfold bk_ at h;split at h
 .rename_i b;subst hc;cases want<;>cases b<;>simp at h<;>subst h<;>rfl
 split at h;cases h;obtain ⟨vs,rfl,rfl⟩:=hc;rfl;cases h;cases h
omit [Gl]in
theorem cK_ {ops:Array Oper} {o:Oper} (h:aT_ ops.toList o=.always) (tmps:Array Value):Region.wanted o (yielded ops tmps)=true:=by
 grind [aT_,Region.wanted]
theorem ew_ {E:Env} {N:Nat} {T:Tm} {ops:Array Oper} {o:Oper} {tmps:Array Value} (ht:TRel E N T tmps) {g:Tm->Option Bool} (h:aT_ ops.toList o=.mk g) {t:Bool} (hg:g T=some t):
  Region.wanted o (yielded ops tmps)=t:=by
 unfold aT_ at h;unfold Region.wanted;split at h;cases h
 .rename_i j want hgu;rw [hgu];simp only;rw [iE_]at h;have hj:ops.toList[j]? =ops[j]? :=(by simp);rw [hj]at h;split at h
  .rename_i oj hoj;split at h
   .rename_i d hd;split at h
    .rename_i hb;cases h;have hb:d<512:=(by simp_all);have hc:=ht.con d hb;have:=pg_ hc (want:=want) (t:=t) hg
     grind [hq_]
    .rename_i hb;cases h;cases hg;have hb:¬d<512:=λhlt=>by
      grind [Nat.blt_eq]
     have hs:=ht.size;have hN:=ht.le;have hge:¬d<tmps.size:=Nat.not_lt.2 (Nat.le_trans (hs▸hN) (Nat.le_of_not_lt hb));have e2:tmps.getD d undef=undef:=(by grind);rw [hq_ ops tmps hoj hd,e2];rfl
   grind [yielded]
  grind [yielded]
omit [Gl]in
theorem fF_:∀(off:Nat) (cs:List AV),(match bi_ 1 (ah_ off cs)with|some [c]=>some c|_=>none)=cn_ off cs
 |0,[]=>rfl
 |0,a::r=>rfl
 |n+1,[]=>rfl
 |n+1,a::r=>by simp only [ah_,cn_];exact fF_ n r
def oN_ (r:Option (List AV)):Option AV:=match r with
 |some [c]=>some c
 |_=>none
omit [Gl]in
theorem qR_ (H:AHeap) (a:AV):s5_ H a=oN_ (aU_ H a 1):=by
 cases a<;>try rfl
 case vptr cs=>exact (fF_ 0 cs).symm
 case ptr id off=>
  show (match H.get id with|some (.cells cs)=>cn_ off cs|_=>none)=oN_ (match H.get id with|some (.cells cs)=>bi_ 1 (ah_ off cs)|_=>none);cases H.get id<;>grind [id,cn_,oN_,bi_,ah_,fF_]
theorem fM_ (T:Tm):∀l:List Operand,(match h0_ l with| .mk g=>g T)=js_ (look T) l
 |[]=>rfl
 |x::r=>by
  have ih:=fM_ T r;unfold h0_;cases ha:aR_ x with
  |mk f=>
   cases hr:h0_ r with
   |mk g=>
    rw [hr]at ih;simp only at ih⊢;rw [ih];simp only [js_]
    congr 1
    unfold look;rw [ha]
theorem gO_ (T:Tm):∀l:List (Nat×Operand),(match gN_ l with| .mk g=>g T)=do_ (look T) l
 |[]=>rfl
 |(i,x)::r=>by
  have ih:=gO_ T r;unfold gN_;cases ha:aR_ x with
  |mk f=>
   cases hr:gN_ r with
   |mk g=>
    rw [hr]at ih;simp only at ih⊢;rw [ih];simp only [do_]
    congr 2
    unfold look;rw [ha]
end Go.Sx
namespace Go.Sx
variable [Gl]
def m1_ (P:Program) (T:Tm) (H:AHeap) (o:Oper) (r:ORes):Prop:=aA_ P (look T) H o=some r\/e3_ P (look T) H o=some r
omit [Gl]in
theorem df_ {P:Program} {ρ:Operand->AV} {o:Oper} {a:AV} (h:dz_ P ρ o=some a) (H:AHeap):e3_ P ρ H o=some (.val a H):=by
 grind [dz_,e3_]
theorem iN_ {P:Program} {T:Tm} {H:AHeap} {o:Oper} {x:Option AV} {a:AV} (h:hK_ P T o x=some a) (hx:∀b,x=some b->aA_ P (look T) H o=some (.val b H)):m1_ P T H o (.val a H):=by unfold hK_ at h;split at h;cases h;exact .inl (hx _ rfl);exact .inr (df_ h H)
theorem ez_ (T:Tm) (x:Operand):(aR_ x).f T=look T x:=rfl
section
variable {P:Program} {T:Tm} {H:AHeap}
omit [Gl]in
theorem cd_ {f:Tm->Option AV} {r:ORes} (h:(OC.po f).run T H=some r):∃a,f T=some a/\r=.val a H:=by
 unfold OC.run at h
 grind
omit [Gl]in
theorem gS_ {f:Tm->AHeap->Option AV} {r:ORes} (h:(OC.ho f).run T H=some r):∃a,f T H=some a/\r=.val a H:=by
 unfold OC.run at h
 grind
omit [Gl]in
theorem c5_ {f:Tm->AHeap->Option (AV×AHeap)} {r:ORes} (h:(OC.hm f).run T H=some r):∃p,f T H=some p/\r=.val p.1 p.2:=by
 unfold OC.run at h
 grind
omit [Gl]in
theorem lb_ {f:Tm->Option (FuncId×List AV)} {r:ORes} (h:(OC.cl f).run T H=some r):∃p,f T=some p/\r=.call p.1 p.2:=by
 unfold OC.run at h
 grind
omit [Gl]in
theorem tI_ {f:Tm->Option (FuncId×List AV)} {r:ORes} (h:(OC.df f).run T H=some r):∃p,f T=some p/\r=.dfr p.1 p.2:=by
 unfold OC.run at h
 grind
omit [Gl]in
theorem bX_ {x:Option AV} {a:AV} (h:x=some a):oV H x=some (.val a H):=by subst h;rfl
omit [Gl]in
theorem bW_ {x:Option (AV×AHeap)} {p:AV×AHeap} (h:x=some p):oP x=some (.val p.1 p.2):=by subst h;rfl
omit [Gl]in
theorem r3_ {op:BinOp} {t:TypeId} {cx cy:Bool} {g:IntKind->Int->Int->AV} (hg:∀k a b,om_ op k a b=some (g k a b)) (x y:AV):
  h1_ g (λx y=>bR_ P op t cx cy x y) x y=bR_ P op t cx cy x y:=by
 unfold h1_
 grind [bR_,fY_]
omit [Gl]in
theorem r2_ (op:BinOp) (t:TypeId) (cx cy:Bool) (x y:AV):uc_ P op t cx cy x y=bR_ P op t cx cy x y:=by cases op<;>first|rfl|exact r3_ (λ_ _ _=>rfl) x y
theorem nR_ {o:Oper} {t:TypeId} {a:Operand} (ho:o.op=.load t a) {r:ORes} (h:(ac_ P o).run T H=some r):m1_ P T H o r:=by unfold ac_ at h;rw [ho]at h;simp only at h;left;unfold aA_;rw [ho];simp only;unfold bx_;split at h;cases h;rename_i d hd;rw [hd];split at h;rename_i hag;split at h;cases h;rename_i i hi;obtain ⟨v,hv,rfl⟩:=gS_ h;rw [hi];unfold qS_ at hv;rw [←ez_];split at hv;rename_i l hl;cases hv;simp only [hag,hl];rfl;cases hv;rename_i hag;obtain ⟨v,hv,rfl⟩:=gS_ h;rw [qR_]at hv;rw [←ez_];unfold oN_ at hv;split at hv;rename_i c hc;cases hv;simp only [hag,hc];rfl;cases hv
theorem nQ_ {o:Oper} {c:Call} (ho:o.op=.call c) {r:ORes} (h:(ac_ P o).run T H=some r):m1_ P T H o r:=by
 unfold ac_ at h;rw [ho]at h;simp only at h;unfold sW_ at h;have hargs:=fM_ T c.args.toList;split at h
 .rename_i f hf;split at h;rename_i g hgl;rw [hgl]at hargs;have gen:∀p,fnA P (look T f) (g T)=some p->aA_ P (look T) H o=some (.call p.1 p.2):=by
   grind [aA_,dR_,fnA]
  cases f with
  |func id=>
   simp only at h;split at h
   .obtain ⟨p,hp,rfl⟩:=lb_ h;cases hp;left;refine gen (id,g T) ?_;have:look T (.func id)=.fn id []:=rfl
    grind [fnA,kw_]
   obtain ⟨a,ha,rfl⟩:=cd_ h;exact .inr (df_ ha H)
  |tmp t=>obtain ⟨p,hp,rfl⟩:=lb_ h;exact .inl (gen p hp)
  |const v=>obtain ⟨p,hp,rfl⟩:=lb_ h;exact .inl (gen p hp)
  |global v=>obtain ⟨p,hp,rfl⟩:=lb_ h;exact .inl (gen p hp)
 .rename_i b hb;split at h;split at h;rename_i x t h1 h2;obtain ⟨a,ha,rfl⟩:=gS_ h;left;unfold aA_ dR_;rw [ho];simp only [hb,h1,h2];exact bX_ ha;cases h;split at h;rename_i s x t tx h1 h2;obtain ⟨p,hp,rfl⟩:=c5_ h;left;unfold aA_ dR_;rw [ho];simp only [hb,h1,h2];exact bW_ hp;cases h;split at h;rename_i d s t tx h1 h2;obtain ⟨p,hp,rfl⟩:=c5_ h;left;unfold aA_ dR_;rw [ho];simp only [hb,h1,h2];exact bW_ hp;cases h
  .split at h
   .cases h;left
    grind [aA_,dR_]
   cases h
  obtain ⟨a,ha,rfl⟩:=cd_ h;exact .inr (df_ ha H)
 cases h
theorem mI_ {o:Oper} {t:TypeId} {x:Operand} {lo hi mx:Option Operand} (ho:o.op=.slice t x lo hi mx) {r:ORes} (h:(ac_ P o).run T H=some r):m1_ P T H o r:=by
 unfold ac_ at h;rw [ho]at h;left;unfold aA_;rw [ho];cases mx with
 |some _=>cases h
 |none=>cases lo<;>cases hi<;>simp only at h<;>(obtain ⟨a,ha,rfl⟩:=gS_ h;exact bX_ ha)
theorem hu_ {o:Oper} {s:TypeId} {x:Operand} {f:Nat} (ho:o.op=.fieldAddr s x f) {r:ORes} (h:(ac_ P o).run T H=some r):m1_ P T H o r:=by unfold ac_ at h;rw [ho]at h;simp only at h;left;unfold aA_ bU_;rw [ho];simp only;split at h;rename_i fields hd;rw [hd];simp only;split at h;rename_i fl hfl;rw [hfl];simp only;split at h;rename_i i hi;rw [hi];simp only;split at h;cases h;rename_i n hn;rw [hn];obtain ⟨a,ha,rfl⟩:=cd_ h;rw [ez_]at ha;unfold p9_ at ha;split at ha;rename_i id o' hv;cases ha;rw [hv];rfl;rename_i cs hv;split at ha;rename_i hb;cases ha;rw [hv];simp only [hb];rfl;cases ha;cases ha;cases h;cases h;cases h
theorem hv_ {o:Oper} {t:TypeId} {x ix:Operand} (ho:o.op=.indexAddr t x ix) {r:ORes} (h:(ac_ P o).run T H=some r):m1_ P T H o r:=by
 unfold ac_ at h;rw [ho]at h;simp only at h;left;unfold aA_;rw [ho];split at h
 .rename_i e hd;split at h
  .obtain ⟨a,ha,rfl⟩:=cd_ h;rw [ez_,ez_]at ha;refine bX_ ?_;unfold aZ_;unfold s4_ at ha
   grind
  cases h
 obtain ⟨a,ha,rfl⟩:=cd_ h;exact bX_ ha
theorem rt_ {o:Oper} {r:ORes} (h:(ac_ P o).run T H=some r):m1_ P T H o r:=by
 cases ho:o.op with
 |load t a=>exact nR_ ho h
 |call c=>exact nQ_ ho h
 |slice t x lo hi mx=>exact mI_ ho h
 |fieldAddr s x f=>exact hu_ ho h
 |indexAddr t x ix=>exact hv_ ho h
 |move x=>unfold ac_ at h;rw [ho]at h;cases h;left;unfold aA_;rw [ho];rfl
 |assign x=>unfold ac_ at h;rw [ho]at h;cases h;left;unfold aA_;rw [ho];rfl
 |pick c a b=>
  unfold ac_ at h;rw [ho]at h;obtain ⟨v,hv,rfl⟩:=cd_ h;left;unfold aA_;rw [ho];have hv:mq_ (look T c) (look T a) (look T b)=some v:=hv;unfold mq_ at hv
  grind
 |alloc t=>unfold ac_ at h;rw [ho]at h;obtain ⟨p,hp,rfl⟩:=c5_ h;left;grind [aA_,bW_]
 |box _ x=>unfold ac_ at h;rw [ho]at h;obtain ⟨p,hp,rfl⟩:=c5_ h;left;unfold aA_;rw [ho];exact bW_ hp
 |build t parts=>unfold ac_ at h;rw [ho]at h;obtain ⟨v,hv,rfl⟩:=cd_ h;left;grind [aA_,gO_,bX_]
 |buildSlice t n parts=>unfold ac_ at h;rw [ho]at h;obtain ⟨v,hv,rfl⟩:=c5_ h;left;grind [aA_,gO_,bW_]
 |store t a x=>unfold ac_ at h;rw [ho]at h;obtain ⟨p,hp,rfl⟩:=c5_ h;left;unfold aA_;rw [ho];exact bW_ hp
 |nilCheck x=>
  unfold ac_ at h;rw [ho]at h;obtain ⟨v,hv,rfl⟩:=cd_ h;left;unfold aA_;have hv:tE_ (look T x)=some v:=hv
  grind [tE_]
 |binOp op t x y yt=>unfold ac_ at h;rw [ho]at h;obtain ⟨v,hv,rfl⟩:=cd_ h;left;grind [aA_,look,r2_,bX_]
 |unOp op t x=>unfold ac_ at h;rw [ho]at h;obtain ⟨v,hv,rfl⟩:=cd_ h;refine iN_ hv λb hb=>?_;unfold aA_;rw [ho];exact bX_ hb
 |convert s d x=>
  unfold ac_ at h;rw [ho]at h;simp only at h;split at h;obtain ⟨v,hv,rfl⟩:=c5_ h;left;unfold aA_;rw [ho];exact bW_ hv
  .obtain ⟨v,hv,rfl⟩:=gS_ h;split at hv;left;simp_all [aA_,bW_,e0_,look]
   exact .inr (df_ hv H)
 |index t x i=>unfold ac_ at h;rw [ho]at h;obtain ⟨v,hv,rfl⟩:=cd_ h;refine iN_ hv λb hb=>?_;unfold aA_;rw [ho];exact bX_ hb
 |makeInterface t x=>unfold ac_ at h;rw [ho]at h;simp only at h;split at h;rename_i hc;cases h;left;unfold aA_;rw [ho];simp only [hc];rfl;cases h
 |makeFunc fn first captured=>
  unfold ac_ at h;rw [ho]at h;simp only at h;split at h
  .split at h
   .cases h;left;grind [aA_,fM_]
   cases h
  cases h
 |makeMap t r'=>
  unfold ac_ at h;rw [ho]at h;cases r' with
  |none=>obtain ⟨p,hp,rfl⟩:=c5_ h;left;grind [aA_,bW_]
  |some _=>cases h
 |makeSlice t l c=>unfold ac_ at h;rw [ho]at h;obtain ⟨p,hp,rfl⟩:=c5_ h;left;unfold aA_;rw [ho];exact bW_ hp
 |field s x f=>unfold ac_ at h;rw [ho]at h;obtain ⟨p,hp,rfl⟩:=cd_ h;left;unfold aA_;rw [ho];exact bX_ hp
 |lookup t x ix ok=>unfold ac_ at h;rw [ho]at h;obtain ⟨p,hp,rfl⟩:=gS_ h;left;unfold aA_;rw [ho];exact bX_ hp
 |mapUpdate t m k x=>unfold ac_ at h;rw [ho]at h;obtain ⟨p,hp,rfl⟩:=c5_ h;left;unfold aA_;rw [ho];exact bW_ hp
 |insert t m k x=>unfold ac_ at h;rw [ho]at h;obtain ⟨p,hp,rfl⟩:=c5_ h;left;unfold aA_;rw [ho];exact bW_ hp
 |typeAssert x xt asserted ok=>unfold ac_ at h;rw [ho]at h;obtain ⟨p,hp,rfl⟩:=cd_ h;left;unfold aA_;rw [ho];exact bX_ hp
 |extract t ix=>unfold ac_ at h;rw [ho]at h;obtain ⟨p,hp,rfl⟩:=cd_ h;left;unfold aA_;rw [ho];exact bX_ hp
 |defer c=>
  unfold ac_ at h;rw [ho]at h;simp only at h;split at h
  .rename_i x hx;obtain ⟨p,hp,rfl⟩:=tI_ h;left;unfold aA_ kN_;have hp:dfA P (look T x) (js_ (look T) c.args.toList)=some p:=by rw [←fM_ T c.args.toList];exact hp
   unfold dfA at hp
   grind
  cases h
 |panic x=>unfold ac_ at h;left;grind [aA_,OC.run,uy_,look]
 |_=>unfold ac_ at h;rw [ho]at h;cases h
end
end Go.Sx
