/-
  The evaluator with symbols: what it comes to is a tree of what must be known.
-/
import Derived.Test.YtjconanknjgpnaaGreatSyB
set_option linter.unusedVariables false
set_option linter.unusedSimpArgs false
namespace Go.Sx
def bH_ (sz:Nat) (b:AV):Option (Nat×List AV):=match b with
 | .agg l=>some (Nat.div (a0_ l) sz,l)
 |b=>match aI_ b with
  |some n=>match am_ ⟨hnil,0,0⟩ b n sz with
   |some l=>some (n,l)
   |none=>none
  |none=>none
def kS_ (sz bytes:Nat) (a:AV) (n:Nat) (l:List AV):Option AV:=match decide (l.length=n*sz)with
 |false=>none
 |true=>match a with
  | .nsl=>match n with
    |0=>some .nsl
    |_=>match Nat.ble (Nat.mul n bytes) 1073741824&&Nat.ble n 1073741824&&Nat.blt 0 bytes with
     |true=>some (.vsl n sz l)
     |false=>none
  | .vsl len sz' cs=>match decide (sz'=sz/\cs.length=len*sz)with
    |false=>none
    |true=>match n with
     |0=>some (.vsl len sz' cs)
     |_=>match Nat.ble (Nat.mul (Nat.add len n) bytes) 1073741824&&Nat.ble (Nat.add len n) 1073741824&&Nat.blt 0 bytes with
      |true=>some (.vsl (Nat.add len n) sz (cs++l))
      |false=>none
  |_=>none
def mN_ (d:TypeDesc) (k v:AV):List AV->Option (List AV)
 |[]=>some [k,v]
 |[_]=>none
 |q::x::r=>match kp_ d k q with
  |some true=>some (q::v::r)
  |some false=>match mN_ d k v r with
   |some l=>some (q::x::l)
   |none=>none
  |none=>none
def tF_ (d:TypeDesc) (m k v:AV):Option AV:=match iP_ d k with
 |true=>match m with
  | .vsl n z cs=>match Nat.beq z 2&&Nat.beq (Nat.mul n 2) (a0_ cs)with
    |true=>match mN_ d k v cs with
     |some l=>some (.vsl (Nat.div (a0_ l) 2) 2 l)
     |none=>none
    |false=>none
  |_=>none
 |false=>none
inductive XOp where
 |bin (op:BinOp) (t:TypeId) (cx cy:Bool)
 |un (op:UnOp)
 |conv (s d:TypeId)
 |idx (t:TypeId)
 |iaddr (t:TypeId)
 |faddr (s:TypeId) (f:Nat)
 |load (t:TypeId)
 |fld (s:TypeId) (f:Nat)
 |slc (t:TypeId) (lo hi:Bool)
 |len (t:TypeId)
 |nilc
 |app (sz bytes:Nat)
 |mm (mx:Bool)
 |mput (t:TypeId)
 |mlen
 |ext (f:FuncId)
 |inb
 |ldx (t:TypeId) (sz off:Nat)
 |stx (t:TypeId) (sz off:Nat)
 |tkx
 |mget (t:TypeId) (es:List (AV×AV×Nat))
 |emp
 |mkx (sz bytes:Nat) (zs:List AV)
 |skx
 |flat (sz off es len:Nat)
 |opn (len sz:Nat)
def h0:AHeap:=⟨hnil,0,0⟩
def bR_:AV->Bool
 | .ptr _ _| .sl _ _ _ _ _| .map _| .slx _ _ _| .ptx _ _ _ _=>false
 |_=>true
def dG_ (x:AV) (r:Option AV):Option AV:=match bR_ x with
 |true=>r
 |false=>none
def qk_ (cs:List AV):AHeap:=(⟨hnil,0,0⟩:AHeap).set 0 (.cells cs)
def XOp.run (P:Program):XOp->List AV->Option AV
 | .bin op t cx cy,[x,y]=>bJ_ P op t cx cy x y
 | .un op,[x]=>ke_ op x
 | .conv s d,[x]=>dG_ x (b7_ P h0 s d x)
 | .idx t,[x,i]=>eC_ P t x i
 | .iaddr t,[x,i]=>aS_ P t x i
 | .faddr s f,[x]=>b0_ P s x f
 | .load t,[x]=>dG_ x (bl_ P h0 t x)
 | .fld s f,[x]=>eB_ P s x f
 | .slc t false false,[x]=>dG_ x (aL_ P h0 t x none none)
 | .slc t true false,[x,a]=>dG_ x (aL_ P h0 t x (some a) none)
 | .slc t false true,[x,b]=>dG_ x (aL_ P h0 t x none (some b))
 | .slc t true true,[x,a,b]=>dG_ x (aL_ P h0 t x (some a) (some b))
 | .len t,[x]=>dG_ x (cg_ P h0 t x)
 | .nilc,[x]=>match x with
   | .vptr cs=>some (.vptr cs)
   |_=>none
 | .mm mx,[x,y]=>match x with
   | .int k a=>match y with
     | .int k' b=>match Nat.beq (kix k) (kix k')with
       |true=>some (.int k (match mx with|true=>max a b|false=>min a b))
       |false=>none
     |_=>none
   |_=>none
 | .mput t,[m,k,v]=>match P.underlying t with
   |some (.map kt _)=>match P.underlying kt with
    |some d=>tF_ d m k v
    |none=>none
   |_=>none
 | .mlen,[m]=>match m with
   | .vsl n z cs=>match Nat.beq z 2 with
     |true=>some (.int .i64 (.ofNat n))
     |false=>none
   |_=>none
 | .ext f,[x]=>match cp_ x with
   |some u=>match aF_ P (callFunc f #[u])with
    |some (.value v)=>some (ofV v)
    |_=>none
   |none=>none
 | .mget t es,[k]=>cC_ P ((⟨hnil,0,0⟩:AHeap).set 0 (.map es 0)) t (.map 0) k false
 | .inb,[x,i]=>match x with
   | .vsl ln _ _=>match i with
     | .int _ m=>match Sx.idx m ln with
       |some n=>some (.int .i64 (.ofNat n))
       |none=>none
     |_=>none
   |_=>none
 | .ldx t sz off,[x,j]=>match x with
   | .vsl _ _ cs=>match j with
     | .int _ (.ofNat n)=>bl_ P (qk_ cs) t (.ptr 0 (Nat.add (Nat.mul n sz) off))
     |_=>none
   |_=>none
 | .stx t sz off,[x,j,v]=>match x with
   | .vsl ln z cs=>match j with
     | .int _ (.ofNat n)=>match ch_ P (qk_ cs) t (.ptr 0 (Nat.add (Nat.mul n sz) off)) v with
       |some r=>match r.2.get 0 with
        |some (.cells cs')=>some (.vsl ln z cs')
        |_=>none
       |none=>none
     |_=>none
   |_=>none
 | .tkx,[x,r,i]=>match i with
   | .int _ (.ofNat m)=>match x with
     | .vsl ln z0 _=>match r with
       | .vsl n z cs=>match Nat.beq z z0&&(Nat.ble m ln&&Nat.ble m n)with
         |true=>match a3_ (Nat.mul m z) cs with
          |some cs'=>some (.vsl m z cs')
          |none=>none
         |false=>none
       |_=>none
     | .nsl=>match r with
       | .nsl=>match m with
         |0=>some .nsl
         |_=>none
       |_=>none
     |_=>none
   |_=>none
 | .flat sz off es ln,[j,h]=>match j with
   | .int _ (.ofNat n)=>match h with
     | .int _ i=>match Sx.idx i ln with
       |some m=>some (.int .i64 (.ofNat (Nat.add (Nat.add (Nat.mul n sz) off) (Nat.mul m es))))
       |none=>none
     |_=>none
   |_=>none
 | .opn ln sz,[x]=>match x with
   | .vsl n z cs=>match Nat.beq n ln&&(Nat.beq z sz&&Nat.beq (a0_ cs) (Nat.mul ln sz))with
     |true=>some (.agg cs)
     |false=>none
   |_=>none
 | .mkx sz bytes zs,[a]=>match a with
   | .int _ (.ofNat n)=>match Nat.ble (Nat.mul bytes n) 16777216&&Nat.ble n 16777216 with
     |true=>some (.vsl n sz (aW_ zs n))
     |false=>none
   |_=>none
 | .skx,[x,a]=>match x with
   | .vsl n z cs=>match a with
     | .int _ (.ofNat m)=>match Nat.ble m n with
       |true=>some (.vsl (Nat.sub n m) z (af_ (Nat.mul m z) cs))
       |false=>none
     |_=>none
   |_=>none
 | .emp,[a]=>match a with
   | .nsl=>some (.bool true)
   | .vsl n _ _=>some (.bool (Nat.beq n 0))
   |_=>none
 | .app sz bytes,[a,b]=>match bH_ sz b with
   |some (n,l)=>kS_ sz bytes a n l
   |none=>none
 |_,_=>none
theorem nM_ {P:Program} {H:AHeap} {t:TypeId} {x:AV} (h:bR_ x=true):bl_ P H t x=bl_ P h0 t x:=by
 have hc:∀n,aV_ H x n=aV_ h0 x n:=λn=>by cases x<;>first|rfl|(simp [bR_]at h)
 unfold bl_;simp only [hc]
theorem kd_ {P:Program} {H:AHeap} {t:TypeId} {x:AV} (h:bR_ x=true):cg_ P H t x=cg_ P h0 t x:=by
 unfold cg_
 cases P.underlying t with
 |none=>rfl
 |some d=>cases d<;>first|rfl|(cases x<;>first|rfl|(simp [bR_]at h))
theorem c3_ {H:AHeap} {x:AV} (h:bR_ x=true) (n sz:Nat):am_ H x n sz=am_ h0 x n sz:=by
 cases x<;>first|rfl|(simp [bR_]at h)
theorem nJ_ {P:Program} {H:AHeap} {s d:TypeId} {x:AV} (h:bR_ x=true):b7_ P H s d x=b7_ P h0 s d x:=by
 unfold b7_ b6_
 cases x<;>first|rfl|(simp [bR_]at h)
theorem dx_ {P:Program} {H:AHeap} {t:TypeId} {x:AV} (h:bR_ x=true) (lo hi:Option AV):aL_ P H t x lo hi=aL_ P h0 t x lo hi:=by
 unfold aL_
 cases x<;>first|rfl|(simp [bR_]at h)
theorem bx_ {x:AV} {r:Option AV} {a:AV} (h:dG_ x r=some a):bR_ x=true/\r=some a:=by
 unfold dG_ at h
 split at h
 .rename_i h1;exact ⟨h1,h⟩
 .cases h
structure XS where
 T:Tm
 H:AHeap
 n:Nat
def sH_ {α β:Type} (f:α->β) (q:Q8 α):Q8 β:=Q8.casesOn q λa b c d e g h i=>⟨f a,f b,f c,f d,f e,f g,f h,f i⟩
def ba_ (f:AV->AV) (T:Tm):Tm:=sH_ (sH_ (sH_ f)) T
theorem in_ {α β:Type} (f:α->β) (q:Q8 α):∀i:Nat,Q8.at8 i (sH_ f q)=f (Q8.at8 i q)
 |0=>by cases q;rfl
 |1=>by cases q;rfl
 |2=>by cases q;rfl
 |3=>by cases q;rfl
 |4=>by cases q;rfl
 |5=>by cases q;rfl
 |6=>by cases q;rfl
 |n+7=>by cases q;rfl
theorem aK_ (f:AV->AV) (T:Tm) (t:Nat):tget (ba_ f T) t=f (tget T t):=by
 rw [ej_,ej_]
 unfold ba_
 rw [in_,in_,in_]
def hh_ (i:Nat) (b:Bool) (a:AV):AV:=match a with
 | .sym j=>match Nat.beq j i with
   |true=>.bool b
   |false=>.sym j
 |a=>a
def XS.know (S:XS) (i:Nat) (b:Bool):XS:=⟨ba_ (hh_ i b) S.T,S.H,S.n⟩
variable [Gl]
def di_ (T:Tm) (o:Oper):Option (XOp×List AV):=match o.op with
 | .binOp op t x y _=>some (.bin op t (bj_ x) (bj_ y),[look T x,look T y])
 | .unOp op _ x=>some (.un op,[look T x])
 | .convert s d x=>some (.conv s d,[look T x])
 | .index t x i=>some (.idx t,[look T x,look T i])
 | .indexAddr t x i=>some (.iaddr t,[look T x,look T i])
 | .fieldAddr s x f=>some (.faddr s f,[look T x])
 | .load t a=>some (.load t,[look T a])
 | .field s x f=>some (.fld s f,[look T x])
 | .slice t x lo hi mx=>match mx with
   |none=>match lo with
    |none=>match hi with
     |none=>some (.slc t false false,[look T x])
     |some b=>some (.slc t false true,[look T x,look T b])
    |some a=>match hi with
     |none=>some (.slc t true false,[look T x,look T a])
     |some b=>some (.slc t true true,[look T x,look T a,look T b])
   |some _=>none
 | .nilCheck x=>some (.nilc,[look T x])
 | .call c=>match c.callee with
   | .builtin b=>match b with
     | .len=>match c.args.toList,c.argTypes.toList with
       |[x],[t]=>some (.len t,[look T x])
       |_,_=>none
     | .max=>match c.args.toList with
       |[x,y]=>some (.mm true,[look T x,look T y])
       |_=>none
     | .min=>match c.args.toList with
       |[x,y]=>some (.mm false,[look T x,look T y])
       |_=>none
     |_=>none
   |_=>none
 |_=>none
omit [Gl]in
def tN_ (P:Program) (t:TypeId):Option Nat:=match P.underlying t with
 |some d=>match lS_ d with
  |true=>match P.info? t with
   |some i=>some i.size
   |none=>none
  |false=>none
 |none=>none
omit [Gl]in
def mE_ (P:Program) (op:XOp):Option Nat:=match op with
 | .load t=>tN_ P t
 | .ldx t _ _=>tN_ P t
 | .fld s f=>match P.underlying s with
   |some (.struct fields)=>match fields[f]? with
    |some fl=>tN_ P fl.type
    |none=>none
   |_=>none
 |_=>none
def rU_ (a:AV):Option Nat:=match a with
 | .sym i=>some i
 |_=>none
def mw_ (all:List Oper) (o:Oper) (T:Tm):Option Nat:=match o.guard with
 |none=>none
 |some (j,_)=>match iY_ all j with
  |some oj=>match oj.dst with
   |some d=>rU_ (tget T d)
   |none=>none
  |none=>none
def jp_ (T:Tm) (x:Operand):Option Nat:=match x with
 | .tmp t=>match Nat.blt t 512 with
   |true=>rU_ (tget T t)
   |false=>none
 |_=>none
def lw_ (o:Oper) (T:Tm):Option (Nat×Operand×Operand):=match o.op with
 | .pick c a b=>match jp_ T c with
   |some i=>some (i,a,b)
   |none=>none
 |_=>none
structure Fact where
 o:BinOp
 l:Bool
 i:Nat
 c:AV
 v:AV
def Fact.has (f:Fact) (o:BinOp) (x y:AV):Bool:=decide (o=f.o)&&(match f.l with
 |true=>bL_ x (.sym f.i)&&bL_ y f.c
 |false=>bL_ y (.sym f.i)&&bL_ x f.c)
def mm_:List Fact->XOp->List AV->Option AV
 |[],_,_=>none
 |f::r,op,args=>match op,args with
  | .bin o _ _ _,[x,y]=>match f.has o x y with
    |true=>some f.v
    |false=>mm_ r op args
  |_,_=>none
def Fact.ok (P:Program) (f:Fact) (a:AV):Prop:=∀t cx cy,(match f.l with
 |true=>bJ_ P f.o t cx cy a f.c
 |false=>bJ_ P f.o t cx cy f.c a)=some f.v
structure XF where
 f:FuncId
 args:List AV
 v:AV
structure FcT where
 b:List Fact
 x:List XF
def oV_:List XF->FuncId->List AV->Option AV
 |[],_,_=>none
 |q::r,f,args=>match Nat.beq f q.f&&dM_ args q.args with
  |true=>some q.v
  |false=>oV_ r f args
def qM_ (x:List XF) (T:Tm) (o:Oper):Option AV:=match o.op with
 | .call c=>match c.callee with
   | .value f=>match f with
     | .func id=>oV_ x id (iV_ (look T) c.args.toList)
     |_=>none
   |_=>none
 |_=>none
def XOk (P:Program) (Y:Sy) (q:XF):Prop:=∀(B:World) (pr:Nat->Prop) (E:Env) (H:AHeap) (w:World) (vs:List Value),(∀i,i<64->E.sy i=Y.v i)->GlOk E->Rel B pr E H w->ConL E q.args vs->
 ∃u,(callFunc q.f ⟨vs⟩).run P w=.ok (.value u) w/\Con E q.v u
def KnownF (P:Program) (fc:FcT) (Y:Sy):Prop:=(∀f∈fc.b,okC f.v=true/\okC f.c=true/\∃a,Y.v f.i=some a/\f.ok P a)/\∀q∈fc.x,XOk P Y q
end Go.Sx
