/-
  The evaluator with symbols: what it comes to is a tree of what must be known.
-/
import Derived.Test.YtmgenobllanmjaaGreatDoorSyB
set_option linter.unusedVariables false
set_option linter.unusedSimpArgs false
namespace Go.Sx
def by_ (sz:Nat) (b:AV):Option (Nat×List AV):=match b with
 | .agg l=>some (Nat.div (aL_ l) sz,l)
 |b=>match aU_ b with
  |some n=>match ak_ ⟨hnil,0,0⟩ b n sz with
   |some l=>some (n,l)
   |none=>none
  |none=>none
def iA_ (sz bytes:Nat) (a:AV) (n:Nat) (l:List AV):Option AV:=match decide (l.length=n*sz)with
 |false=>none
 |true=>match a with
  | .nsl=>match n with
    |0=>some .nsl
    |_=>match Nat.ble (Nat.mul n bytes) 1073741824&&Nat.ble n 1073741824&&Nat.blt 0 bytes with
     |true=>some (.vsl n sz l)
     |false=>none
  | .vsl len sz' cs=>match decide (sz'=sz/\cs.length=len*sz)with
    |false=>none
    |true=>match n with
     |0=>some (.vsl len sz' cs)
     |_=>match Nat.ble (Nat.mul (Nat.add len n) bytes) 1073741824&&Nat.ble (Nat.add len n) 1073741824&&Nat.blt 0 bytes with
      |true=>some (.vsl (Nat.add len n) sz (cs++l))
      |false=>none
  |_=>none
def m1_ (d:TypeDesc) (k v:AV):List AV->Option (List AV)
 |[]=>some [k,v]
 |[_]=>none
 |q::x::r=>match hN_ d k q with
  |some true=>some (q::v::r)
  |some false=>match m1_ d k v r with
   |some l=>some (q::x::l)
   |none=>none
  |none=>none
def uo_ (d:TypeDesc) (m k v:AV):Option AV:=match gx_ d k with
 |true=>match m with
  | .vsl n z cs=>match Nat.beq z 2&&Nat.beq (Nat.mul n 2) (aL_ cs)with
    |true=>match m1_ d k v cs with
     |some l=>some (.vsl (Nat.div (aL_ l) 2) 2 l)
     |none=>none
    |false=>none
  |_=>none
 |false=>none
def nX_:List AV->List (AV×AV×Nat)
 |[]=>[]
 |[_]=>[]
 |k::v::r=>(unK k,v,0)::nX_ r
def rS_ (P:Program) (kt:TypeId) (k v:AV):List AV->Option (List AV)
 |[]=>some [enK k,v]
 |[_]=>none
 |q::x::r=>match ie_ P kt k (unK q)with
  |some true=>match dM_ k (unK q)with
   |true=>some (enK k::v::r)
   |false=>none
  |some false=>match rS_ P kt k v r with
   |some l=>some (q::x::l)
   |none=>none
  |none=>none
inductive XOp where
 |bin (op:BinOp) (t:TypeId) (cx cy:Bool)
 |un (op:UnOp)
 |conv (s d:TypeId)
 |idx (t:TypeId)
 |iaddr (t:TypeId)
 |faddr (s:TypeId) (f:Nat)
 |load (t:TypeId)
 |fld (s:TypeId) (f:Nat)
 |slc (t:TypeId) (lo hi:Bool)
 |len (t:TypeId)
 |nilc
 |app (sz bytes:Nat)
 |mm (mx:Bool)
 |mput (t:TypeId)
 |mlen
 |ext (f:FuncId)
 |inb
 |ldx (t:TypeId) (sz off:Nat)
 |stx (t:TypeId) (sz off:Nat)
 |tkx
 |mget (t:TypeId) (es:List (AV×AV×Nat))
 |mlk (t:TypeId)
 |mpu (t:TypeId)
 |emp
 |mkx (sz bytes:Nat) (zs:List AV)
 |mkz (sz bytes:Nat) (zs:List AV)
 |skx
 |flat (sz off es len:Nat)
 |opn (len sz:Nat)
def h0:AHeap:=⟨hnil,0,0⟩
def bS_:AV->Bool
 | .ptr _ _| .sl _ _ _ _ _| .map _| .slx _ _ _| .ptx _ _ _ _=>false
 |_=>true
def cS_ (x:AV) (r:Option AV):Option AV:=match bS_ x with
 |true=>r
 |false=>none
def sg_ (cs:List AV):AHeap:=(⟨hnil,0,0⟩:AHeap).set 0 (.cells cs)
def XOp.run (P:Program):XOp->List AV->Option AV
 | .bin op t cx cy,[x,y]=>bI_ P op t cx cy x y
 | .un op,[x]=>o9_ op x
 | .conv s d,[x]=>cS_ x (b3_ P h0 s d x)
 | .idx t,[x,i]=>eH_ P t x i
 | .iaddr t,[x,i]=>aS_ P t x i
 | .faddr s f,[x]=>bY_ P s x f
 | .load t,[x]=>cS_ x (bn_ P h0 t x)
 | .fld s f,[x]=>eG_ P s x f
 | .slc t false false,[x]=>cS_ x (aP_ P h0 t x none none)
 | .slc t true false,[x,a]=>cS_ x (aP_ P h0 t x (some a) none)
 | .slc t false true,[x,b]=>cS_ x (aP_ P h0 t x none (some b))
 | .slc t true true,[x,a,b]=>cS_ x (aP_ P h0 t x (some a) (some b))
 | .len t,[x]=>cS_ x (cJ_ P h0 t x)
 | .nilc,[x]=>match x with
   | .vptr cs=>some (.vptr cs)
   |_=>none
 | .mm mx,[x,y]=>match x with
   | .int k a=>match y with
     | .int k' b=>match Nat.beq (kix k) (kix k')with
       |true=>some (.int k (match mx with|true=>max a b|false=>min a b))
       |false=>none
     |_=>none
   |_=>none
 | .mput t,[m,k,v]=>match P.underlying t with
   |some (.map kt _)=>match P.underlying kt with
    |some d=>uo_ d m k v
    |none=>none
   |_=>none
 | .mlen,[m]=>match m with
   | .vsl n z cs=>match Nat.beq z 2 with
     |true=>some (.int .i64 (.ofNat n))
     |false=>none
   |_=>none
 | .ext f,[x]=>match plain x with
   |some u=>match aJ_ P (callFunc f #[u])with
    |some (.value v)=>some (ofV v)
    |_=>none
   |none=>none
 | .mget t es,[k]=>bt_ P ((⟨hnil,0,0⟩:AHeap).set 0 (.map es 0)) t (.map 0) k false
 | .mlk t,[m,k]=>match m with
   | .vsl n z cs=>match Nat.beq z 2 with
     |true=>bt_ P ((⟨hnil,0,0⟩:AHeap).set 0 (.map (nX_ cs) 0)) t (.map 0) k false
     |false=>none
   |_=>none
 | .mpu t,[m,k,v]=>match P.underlying t with
   |some (.map kt _)=>match P.underlying kt with
    |some d=>match eh_ d&&d7_ P kt k with
     |true=>match m with
      | .vsl n z cs=>match Nat.beq z 2&&Nat.beq (Nat.mul n 2) (aL_ cs)with
        |true=>match rS_ P kt k v cs with
         |some l=>some (.vsl (Nat.div (aL_ l) 2) 2 l)
         |none=>none
        |false=>none
      |_=>none
     |false=>none
    |none=>none
   |_=>none
 | .inb,[x,i]=>match x with
   | .vsl ln _ _=>match i with
     | .int _ m=>match Sx.idx m ln with
       |some n=>some (.int .i64 (.ofNat n))
       |none=>none
     |_=>none
   |_=>none
 | .ldx t sz off,[x,j]=>match x with
   | .vsl _ _ cs=>match j with
     | .int _ (.ofNat n)=>bn_ P (sg_ cs) t (.ptr 0 (Nat.add (Nat.mul n sz) off))
     |_=>none
   |_=>none
 | .stx t sz off,[x,j,v]=>match x with
   | .vsl ln z cs=>match j with
     | .int _ (.ofNat n)=>match ci_ P (sg_ cs) t (.ptr 0 (Nat.add (Nat.mul n sz) off)) v with
       |some r=>match r.2.get 0 with
        |some (.cells cs')=>some (.vsl ln z cs')
        |_=>none
       |none=>none
     |_=>none
   |_=>none
 | .tkx,[x,r,i]=>match i with
   | .int _ (.ofNat m)=>match x with
     | .vsl ln z0 _=>match r with
       | .vsl n z cs=>match Nat.beq z z0&&(Nat.ble m ln&&Nat.ble m n)with
         |true=>match aX_ (Nat.mul m z) cs with
          |some cs'=>some (.vsl m z cs')
          |none=>none
         |false=>none
       |_=>none
     | .nsl=>match r with
       | .nsl=>match m with
         |0=>some .nsl
         |_=>none
       |_=>none
     |_=>none
   |_=>none
 | .flat sz off es ln,[j,h]=>match j with
   | .int _ (.ofNat n)=>match h with
     | .int _ i=>match Sx.idx i ln with
       |some m=>some (.int .i64 (.ofNat (Nat.add (Nat.add (Nat.mul n sz) off) (Nat.mul m es))))
       |none=>none
     |_=>none
   |_=>none
 | .opn ln sz,[x]=>match x with
   | .vsl n z cs=>match Nat.beq n ln&&(Nat.beq z sz&&Nat.beq (aL_ cs) (Nat.mul ln sz))with
     |true=>some (.agg cs)
     |false=>none
   |_=>none
 | .mkx sz bytes zs,[a]=>match a with
   | .int _ (.ofNat n)=>match Nat.ble (Nat.mul bytes n) 16777216&&Nat.ble n 16777216 with
     |true=>some (.vsl n sz (ax_ zs n))
     |false=>none
   |_=>none
 | .mkz sz bytes zs,[a]=>match a with
   | .int _ (.ofNat n)=>match Nat.blt 0 sz&&(Nat.blt 0 bytes&&(Nat.blt 0 n&&(Nat.ble (Nat.mul n bytes) 1073741824&&Nat.ble n 1073741824)))with
     |true=>some (.vsl n sz (ax_ zs n))
     |false=>none
   |_=>none
 | .skx,[x,a]=>match x with
   | .vsl n z cs=>match a with
     | .int _ (.ofNat m)=>match Nat.ble m n with
       |true=>some (.vsl (Nat.sub n m) z (aj_ (Nat.mul m z) cs))
       |false=>none
     |_=>none
   |_=>none
 | .emp,[a]=>match a with
   | .nsl=>some (.bool true)
   | .vsl n _ _=>some (.bool (Nat.beq n 0))
   |_=>none
 | .app sz bytes,[a,b]=>match by_ sz b with
   |some (n,l)=>iA_ sz bytes a n l
   |none=>none
 |_,_=>none
theorem n1_ {P:Program} {H:AHeap} {t:TypeId} {x:AV} (h:bS_ x=true):bn_ P H t x=bn_ P h0 t x:=by
 have hc:∀n,aV_ H x n=aV_ h0 x n:=λn=>by cases x<;>first|rfl|(simp [bS_]at h)
 grind [bn_]
theorem qe_ {P:Program} {H:AHeap} {t:TypeId} {x:AV} (h:bS_ x=true):cJ_ P H t x=cJ_ P h0 t x:=by
 unfold cJ_
 grind [bS_]
theorem gI_ {H:AHeap} {x:AV} (h:bS_ x=true) (n sz:Nat):ak_ H x n sz=ak_ h0 x n sz:=by cases x<;>first|rfl|(simp [bS_]at h)
theorem nY_ {P:Program} {H:AHeap} {s d:TypeId} {x:AV} (h:bS_ x=true):b3_ P H s d x=b3_ P h0 s d x:=by cases x<;>first|rfl|(simp [bS_]at h)
theorem dA_ {P:Program} {H:AHeap} {t:TypeId} {x:AV} (h:bS_ x=true) (lo hi:Option AV):aP_ P H t x lo hi=aP_ P h0 t x lo hi:=by cases x<;>first|rfl|(simp [bS_]at h)
theorem bM_ {x:AV} {r:Option AV} {a:AV} (h:cS_ x r=some a):bS_ x=true/\r=some a:=by
 grind [cS_]
inductive Tree where
 |bad
 |done (v:AV)
 |ite (i:Nat) (a b:Tree)
 |lt (op:XOp) (args:List AV) (n:Nat) (m:Option Nat) (t:Tree)
def a7_ (P:Program) (Q:AV->Prop):Sy->Tree->Prop
 |_,.bad=>False
 |Y,.done v=>Q (den Y.v v)
 |Y,.ite i a b=>∃t,Y.v i=some (.bool t)/\(t=true->a7_ P Q Y a)/\(t=false->a7_ P Q Y b)
 |Y,.lt op args n m t=>match m with
  |none=>∃r,op.run P (ab_ Y.v args)=some r/\okC r=true/\a7_ P Q (Y.put n r) t
  |some k=>∃cs,op.run P (ab_ Y.v args)=some (.agg cs)/\cs.length=k/\okL cs=true/\a7_ P Q (Y.puts n cs) t
structure XS where
 T:Tm
 H:AHeap
 n:Nat
inductive XX where
 |exit (id:Nat) (S:XS)
 |ret (S:XS)
def tj_ {α β:Type} (f:α->β) (q:Q8 α):Q8 β:=Q8.casesOn q λa b c d e g h i=>⟨f a,f b,f c,f d,f e,f g,f h,f i⟩
def bc_ (f:AV->AV) (T:Tm):Tm:=tj_ (tj_ (tj_ f)) T
theorem q8_ {α β:Type} (f:α->β) (q:Q8 α):∀i:Nat,Q8.at8 i (tj_ f q)=f (Q8.at8 i q)
 |0=>by rfl
 |1=>by rfl
 |2=>by rfl
 |3=>by rfl
 |4=>by rfl
 |5=>by rfl
 |6=>by rfl
 |n+7=>by rfl
theorem aC_ (f:AV->AV) (T:Tm) (t:Nat):tget (bc_ f T) t=f (tget T t):=by
 grind [fB_,bc_,q8_]
def hs_ (i:Nat) (b:Bool) (a:AV):AV:=match a with
 | .sym j=>match Nat.beq j i with
   |true=>.bool b
   |false=>.sym j
 |a=>a
def XS.know (S:XS) (i:Nat) (b:Bool):XS:=⟨bc_ (hs_ i b) S.T,S.H,S.n⟩
variable [Gl]
def cK_ (T:Tm) (o:Oper):Option (XOp×List AV):=match o.op with
 | .binOp op t x y _=>some (.bin op t (bA_ x) (bA_ y),[look T x,look T y])
 | .unOp op _ x=>some (.un op,[look T x])
 | .convert s d x=>some (.conv s d,[look T x])
 | .index t x i=>some (.idx t,[look T x,look T i])
 | .indexAddr t x i=>some (.iaddr t,[look T x,look T i])
 | .fieldAddr s x f=>some (.faddr s f,[look T x])
 | .load t a=>some (.load t,[look T a])
 | .field s x f=>some (.fld s f,[look T x])
 | .slice t x lo hi mx=>match mx with
   |none=>match lo with
    |none=>match hi with
     |none=>some (.slc t false false,[look T x])
     |some b=>some (.slc t false true,[look T x,look T b])
    |some a=>match hi with
     |none=>some (.slc t true false,[look T x,look T a])
     |some b=>some (.slc t true true,[look T x,look T a,look T b])
   |some _=>none
 | .nilCheck x=>some (.nilc,[look T x])
 | .call c=>match c.callee with
   | .builtin b=>match b with
     | .len=>match c.args.toList,c.argTypes.toList with
       |[x],[t]=>some (.len t,[look T x])
       |_,_=>none
     | .max=>match c.args.toList with
       |[x,y]=>some (.mm true,[look T x,look T y])
       |_=>none
     | .min=>match c.args.toList with
       |[x,y]=>some (.mm false,[look T x,look T y])
       |_=>none
     |_=>none
   |_=>none
 |_=>none
omit [Gl]in
def uy_ (P:Program) (t:TypeId):Option Nat:=match P.underlying t with
 |some d=>match l7_ d with
  |true=>match P.info? t with
   |some i=>some i.size
   |none=>none
  |false=>none
 |none=>none
omit [Gl]in
def kM_ (P:Program) (op:XOp):Option Nat:=match op with
 | .load t=>uy_ P t
 | .ldx t _ _=>uy_ P t
 | .fld s f=>match P.underlying s with
   |some (.struct fields)=>match fields[f]? with
    |some fl=>uy_ P fl.type
    |none=>none
   |_=>none
 |_=>none
def ss_ (a:AV):Option Nat:=match a with
 | .sym i=>some i
 |_=>none
def iW_ (all:List Oper) (o:Oper) (T:Tm):Option Nat:=match o.guard with
 |none=>none
 |some (j,_)=>match jd_ all j with
  |some oj=>match oj.dst with
   |some d=>ss_ (tget T d)
   |none=>none
  |none=>none
def ht_ (T:Tm) (x:Operand):Option Nat:=match x with
 | .tmp t=>match Nat.blt t 512 with
   |true=>ss_ (tget T t)
   |false=>none
 |_=>none
def gD_ (o:Oper) (T:Tm):Option (Nat×Operand×Operand):=match o.op with
 | .pick c a b=>match ht_ T c with
   |some i=>some (i,a,b)
   |none=>none
 |_=>none
structure Fact where
 o:BinOp
 l:Bool
 i:Nat
 c:AV
 v:AV
def Fact.has (f:Fact) (o:BinOp) (x y:AV):Bool:=decide (o=f.o)&&(match f.l with
 |true=>bV_ x (.sym f.i)&&bV_ y f.c
 |false=>bV_ y (.sym f.i)&&bV_ x f.c)
def kz_:List Fact->XOp->List AV->Option AV
 |[],_,_=>none
 |f::r,op,args=>match op,args with
  | .bin o _ _ _,[x,y]=>match f.has o x y with
    |true=>some f.v
    |false=>kz_ r op args
  |_,_=>none
def Fact.ok (P:Program) (f:Fact) (a:AV):Prop:=∀t cx cy,(match f.l with
 |true=>bI_ P f.o t cx cy a f.c
 |false=>bI_ P f.o t cx cy f.c a)=some f.v
structure XF where
 f:FuncId
 args:List AV
 v:AV
structure FcT where
 b:List Fact
 x:List XF
def pc_:List XF->FuncId->List AV->Option AV
 |[],_,_=>none
 |q::r,f,args=>match Nat.beq f q.f&&ds_ args q.args with
  |true=>some q.v
  |false=>pc_ r f args
def oP_ (x:List XF) (T:Tm) (o:Oper):Option AV:=match o.op with
 | .call c=>match c.callee with
   | .value f=>match f with
     | .func id=>pc_ x id (ka_ (look T) c.args.toList)
     |_=>none
   |_=>none
 |_=>none
def XOk (P:Program) (Y:Sy) (q:XF):Prop:=∀(B:World) (pr:Nat->Prop) (E:Env) (H:AHeap) (w:World) (vs:List Value),(∀i,i<64->E.sy i=Y.v i)->GlOk E->Rel B pr E H w->ConL E q.args vs->
 ∃u,(callFunc q.f ⟨vs⟩).run P w=.ok (.value u) w/\Con E q.v u
def KnownF (P:Program) (fc:FcT) (Y:Sy):Prop:=(∀f∈fc.b,okC f.v=true/\okC f.c=true/\∃a,Y.v f.i=some a/\f.ok P a)/\∀q∈fc.x,XOk P Y q
def sU_ (P:Program) (fuel:Nat) (fc:FcT) (o:Oper) (u:Tm->AV->Tm) (S:XS) (k:XS->Tree):Tree:=match (ac_ P o).run S.T S.H with
 |some r=>match r with
  | .val a H'=>k ⟨u S.T a,H',S.n⟩
  | .call g args=>match aM_ P fuel g args S.H with
    |some r=>match r with
     | .ret a H'=>k ⟨u S.T a,H',S.n⟩
     | .pan _ _=>.bad
    |none=>.bad
  |_=>.bad
 |none=>match gD_ o S.T with
  |some (i,a,b)=>.ite i (k ⟨u (S.know i true).T (look (S.know i true).T a),S.H,S.n⟩) (k ⟨u (S.know i false).T (look (S.know i false).T b),S.H,S.n⟩)
  |none=>match oP_ fc.x S.T o with
   |some v=>k ⟨u S.T v,S.H,S.n⟩
   |none=>match cK_ S.T o with
    |some (op,args)=>match ad_ args with
     |true=>match kM_ P op with
      |none=>match kz_ fc.b op args with
        |some v=>k ⟨u S.T v,S.H,S.n⟩
        |none=>.lt op args S.n none (k ⟨u S.T (.sym S.n),S.H,Nat.succ S.n⟩)
      |some m=>.lt op args S.n (some m) (k ⟨u S.T (.agg (ag_ S.n m)),S.H,Nat.add S.n m⟩)
     |false=>.bad
    |none=>.bad
def xOp (P:Program) (fuel:Nat) (fc:FcT) (all:List Oper) (o:Oper) (u:Tm->AV->Tm) (next:XS->Tree) (S:XS):Tree:=match guardE' all o S.T with
 |some t=>match t with
  |false=>next ⟨u S.T (.tup []),S.H,S.n⟩
  |true=>sU_ P fuel fc o u S next
 |none=>.bad
where guardE' (all:List Oper) (o:Oper) (T:Tm):Option Bool:=match aZ_ all o with
 | .always=>some true
 | .mk g=>g T
def oI_ (P:Program) (N fuel:Nat) (fc:FcT) (all:List Oper):List Oper->XS->(XS->Tree)->Tree
 |[],S,K=>K S
 |o::r,S,K=>match bT_ N o.dst with
  | .bad=>.bad
  | .mk u=>match iW_ all o S.T with
    |some i=>.ite i (xOp P fuel fc all o u (λS=>oI_ P N fuel fc all r S K) (S.know i true)) (xOp P fuel fc all o u (λS=>oI_ P N fuel fc all r S K) (S.know i false))
    |none=>xOp P fuel fc all o u (λS=>oI_ P N fuel fc all r S K) S
def pX_ (b:XS->(XS->Tree)->Tree):Nat->XS->Tree
 |0,_=>.bad
 |n+1,S=>b S λS'=>pX_ b n S'
def vi_ (id:Nat) (K:XS->Tree) (X:XX->Tree) (r:XX):Tree:=match r with
 | .exit id' S=>match Nat.beq id' id with
   |true=>K S
   |false=>X r
 | .ret _=>X r
def dE_ (P:Program) (N fuel:Nat) (fc:FcT):Code->XS->(XS->Tree)->(XX->Tree)->Tree
 | .skip,S,K,X=>K S
 | .label _,S,K,X=>K S
 | .region _ ops draw,S,K,X=>match draw with
   |false=>oI_ P N fuel fc ops.toList ops.toList S K
   |true=>match iJ_ P (aM_ P fuel) N ops.toList S.T S.H []with
    |some r=>match r with
     | .norm T H D=>match D with
       |[]=>K ⟨T,H,S.n⟩
       |_=>.bad
     |_=>.bad
    |none=>.bad
 | .seq a b,S,K,X=>dE_ P N fuel fc a S (λS=>dE_ P N fuel fc b S K X) X
 | .cond c a b,S,K,X=>match look S.T c with
   | .bool t=>match t with
     |true=>dE_ P N fuel fc a S K X
     |false=>dE_ P N fuel fc b S K X
   |_=>match ht_ S.T c with
    |some i=>.ite i (dE_ P N fuel fc a (S.know i true) K X) (dE_ P N fuel fc b (S.know i false) K X)
    |none=>.bad
 | .block id b,S,K,X=>dE_ P N fuel fc b S K (vi_ id K X)
 | .loop b,S,K,X=>pX_ (λS K=>dE_ P N fuel fc b S K X) fuel S
 | .exit id,S,K,X=>X (.exit id S)
 | .ret,S,K,X=>X (.ret S)
 |_,_,_,_=>.bad
def pW_ (P:Program) (rs:List ResultVar) (S:XS):Tree:=match d2_ P S.T S.H rs with
 |some l=>match ex_ 100 S.H (sd_ l)with
  |some v=>match ae_ v with
   |true=>.done v
   |false=>.bad
  |none=>.bad
 |none=>.bad
def wL_ (P:Program) (rs:List ResultVar) (r:XX):Tree:=match r with
 | .ret S=>pW_ P rs S
 | .exit _ _=>.bad
def xFn (P:Program) (fuel:Nat) (fc:FcT) (f:FuncId) (args:List AV) (n:Nat):Tree:=match P.funcs[f]? with
 |some fn=>match fn.body with
  |some c=>match Nat.ble (aL_ args) fn.ntmps&&Nat.ble fn.ntmps 512 with
   |true=>dE_ P fn.ntmps fuel fc c ⟨aT_ args 0 tnil,H0,n⟩ (pW_ P fn.results.toList) (wL_ P fn.results.toList)
   |false=>.bad
  |none=>.bad
 |none=>.bad
end Go.Sx
