/-
  The evaluator with symbols: what it comes to is a tree of what must be known.
-/
import Derived.Test.YtngajicbldemgaaGreatDoorSyB
set_option linter.unusedVariables false
set_option linter.unusedSimpArgs false
namespace Go.Sx
def bM_ (sz:Nat) (b:AV):Option (Nat×List AV):=match b with
 | .agg l=>some (Nat.div (aK_ l) sz,l)
 |b=>match aS_ b with
  |some n=>match am_ ⟨hnil,0,0⟩ b n sz with
   |some l=>some (n,l)
   |none=>none
  |none=>none
def kK_ (sz bytes:Nat) (a:AV) (n:Nat) (l:List AV):Option AV:=match decide (l.length=n*sz)with
 |false=>none
 |true=>match a with
  | .nsl=>match n with
    |0=>some .nsl
    |_=>match Nat.ble (Nat.mul n bytes) 1073741824&&Nat.ble n 1073741824&&Nat.blt 0 bytes with
     |true=>some (.vsl n sz l)
     |false=>none
  | .vsl len sz' cs=>match decide (sz'=sz/\cs.length=len*sz)with
    |false=>none
    |true=>match n with
     |0=>some (.vsl len sz' cs)
     |_=>match Nat.ble (Nat.mul (Nat.add len n) bytes) 1073741824&&Nat.ble (Nat.add len n) 1073741824&&Nat.blt 0 bytes with
      |true=>some (.vsl (Nat.add len n) sz (cs++l))
      |false=>none
  |_=>none
def mD_ (d:TypeDesc) (k v:AV):List AV->Option (List AV)
 |[]=>some [k,v]
 |[_]=>none
 |q::x::r=>match kg_ d k q with
  |some true=>some (q::v::r)
  |some false=>match mD_ d k v r with
   |some l=>some (q::x::l)
   |none=>none
  |none=>none
def tI_ (d:TypeDesc) (m k v:AV):Option AV:=match hw_ d k with
 |true=>match m with
  | .vsl n z cs=>match Nat.beq z 2&&Nat.beq (Nat.mul n 2) (aK_ cs)with
    |true=>match mD_ d k v cs with
     |some l=>some (.vsl (Nat.div (aK_ l) 2) 2 l)
     |none=>none
    |false=>none
  |_=>none
 |false=>none
def nw_:List AV->List (AV×AV×Nat)
 |[]=>[]
 |[_]=>[]
 |k::v::r=>(k,v,0)::nw_ r
def rm_ (P:Program) (kt:TypeId) (k v:AV):List AV->Option (List AV)
 |[]=>some [k,v]
 |[_]=>none
 |q::x::r=>match hV_ P kt k q with
  |some true=>match dD_ k q with
   |true=>some (k::v::r)
   |false=>none
  |some false=>match rm_ P kt k v r with
   |some l=>some (q::x::l)
   |none=>none
  |none=>none
inductive XOp where
 |bin (op:BinOp) (t:TypeId) (cx cy:Bool)
 |un (op:UnOp)
 |conv (s d:TypeId)
 |idx (t:TypeId)
 |iaddr (t:TypeId)
 |faddr (s:TypeId) (f:Nat)
 |load (t:TypeId)
 |fld (s:TypeId) (f:Nat)
 |slc (t:TypeId) (lo hi:Bool)
 |len (t:TypeId)
 |nilc
 |app (sz bytes:Nat)
 |mm (mx:Bool)
 |mput (t:TypeId)
 |mlen
 |ext (f:FuncId)
 |inb
 |ldx (t:TypeId) (sz off:Nat)
 |stx (t:TypeId) (sz off:Nat)
 |tkx
 |mget (t:TypeId) (es:List (AV×AV×Nat))
 |mlk (t:TypeId)
 |mpu (t:TypeId)
 |emp
 |mkx (sz bytes:Nat) (zs:List AV)
 |mkz (sz bytes:Nat) (zs:List AV)
 |skx
 |flat (sz off es len:Nat)
 |opn (len sz:Nat)
def h0:AHeap:=⟨hnil,0,0⟩
def bI_:AV->Bool
 | .ptr _ _| .sl _ _ _ _ _| .map _| .slx _ _ _| .ptx _ _ _ _=>false
 |_=>true
def dw_ (x:AV) (r:Option AV):Option AV:=match bI_ x with
 |true=>r
 |false=>none
def rJ_ (cs:List AV):AHeap:=(⟨hnil,0,0⟩:AHeap).set 0 (.cells cs)
def XOp.run (P:Program):XOp->List AV->Option AV
 | .bin op t cx cy,[x,y]=>bS_ P op t cx cy x y
 | .un op,[x]=>oH_ op x
 | .conv s d,[x]=>dw_ x (c3_ P h0 s d x)
 | .idx t,[x,i]=>eD_ P t x i
 | .iaddr t,[x,i]=>aR_ P t x i
 | .faddr s f,[x]=>bT_ P s x f
 | .load t,[x]=>dw_ x (bj_ P h0 t x)
 | .fld s f,[x]=>eC_ P s x f
 | .slc t false false,[x]=>dw_ x (aN_ P h0 t x none none)
 | .slc t true false,[x,a]=>dw_ x (aN_ P h0 t x (some a) none)
 | .slc t false true,[x,b]=>dw_ x (aN_ P h0 t x none (some b))
 | .slc t true true,[x,a,b]=>dw_ x (aN_ P h0 t x (some a) (some b))
 | .len t,[x]=>dw_ x (c5_ P h0 t x)
 | .nilc,[x]=>match x with
   | .vptr cs=>some (.vptr cs)
   |_=>none
 | .mm mx,[x,y]=>match x with
   | .int k a=>match y with
     | .int k' b=>match Nat.beq (kix k) (kix k')with
       |true=>some (.int k (match mx with|true=>max a b|false=>min a b))
       |false=>none
     |_=>none
   |_=>none
 | .mput t,[m,k,v]=>match P.underlying t with
   |some (.map kt _)=>match P.underlying kt with
    |some d=>tI_ d m k v
    |none=>none
   |_=>none
 | .mlen,[m]=>match m with
   | .vsl n z cs=>match Nat.beq z 2 with
     |true=>some (.int .i64 (.ofNat n))
     |false=>none
   |_=>none
 | .ext f,[x]=>match plain x with
   |some u=>match aI_ P (callFunc f #[u])with
    |some (.value v)=>some (ofV v)
    |_=>none
   |none=>none
 | .mget t es,[k]=>bo_ P ((⟨hnil,0,0⟩:AHeap).set 0 (.map es 0)) t (.map 0) k false
 | .mlk t,[m,k]=>match m with
   | .vsl n z cs=>match Nat.beq z 2 with
     |true=>bo_ P ((⟨hnil,0,0⟩:AHeap).set 0 (.map (nw_ cs) 0)) t (.map 0) k false
     |false=>none
   |_=>none
 | .mpu t,[m,k,v]=>match P.underlying t with
   |some (.map kt _)=>match P.underlying kt with
    |some d=>match ea_ d&&dZ_ P kt k with
     |true=>match m with
      | .vsl n z cs=>match Nat.beq z 2&&Nat.beq (Nat.mul n 2) (aK_ cs)with
        |true=>match rm_ P kt k v cs with
         |some l=>some (.vsl (Nat.div (aK_ l) 2) 2 l)
         |none=>none
        |false=>none
      |_=>none
     |false=>none
    |none=>none
   |_=>none
 | .inb,[x,i]=>match x with
   | .vsl ln _ _=>match i with
     | .int _ m=>match Sx.idx m ln with
       |some n=>some (.int .i64 (.ofNat n))
       |none=>none
     |_=>none
   |_=>none
 | .ldx t sz off,[x,j]=>match x with
   | .vsl _ _ cs=>match j with
     | .int _ (.ofNat n)=>bj_ P (rJ_ cs) t (.ptr 0 (Nat.add (Nat.mul n sz) off))
     |_=>none
   |_=>none
 | .stx t sz off,[x,j,v]=>match x with
   | .vsl ln z cs=>match j with
     | .int _ (.ofNat n)=>match b9_ P (rJ_ cs) t (.ptr 0 (Nat.add (Nat.mul n sz) off)) v with
       |some r=>match r.2.get 0 with
        |some (.cells cs')=>some (.vsl ln z cs')
        |_=>none
       |none=>none
     |_=>none
   |_=>none
 | .tkx,[x,r,i]=>match i with
   | .int _ (.ofNat m)=>match x with
     | .vsl ln z0 _=>match r with
       | .vsl n z cs=>match Nat.beq z z0&&(Nat.ble m ln&&Nat.ble m n)with
         |true=>match a1_ (Nat.mul m z) cs with
          |some cs'=>some (.vsl m z cs')
          |none=>none
         |false=>none
       |_=>none
     | .nsl=>match r with
       | .nsl=>match m with
         |0=>some .nsl
         |_=>none
       |_=>none
     |_=>none
   |_=>none
 | .flat sz off es ln,[j,h]=>match j with
   | .int _ (.ofNat n)=>match h with
     | .int _ i=>match Sx.idx i ln with
       |some m=>some (.int .i64 (.ofNat (Nat.add (Nat.add (Nat.mul n sz) off) (Nat.mul m es))))
       |none=>none
     |_=>none
   |_=>none
 | .opn ln sz,[x]=>match x with
   | .vsl n z cs=>match Nat.beq n ln&&(Nat.beq z sz&&Nat.beq (aK_ cs) (Nat.mul ln sz))with
     |true=>some (.agg cs)
     |false=>none
   |_=>none
 | .mkx sz bytes zs,[a]=>match a with
   | .int _ (.ofNat n)=>match Nat.ble (Nat.mul bytes n) 16777216&&Nat.ble n 16777216 with
     |true=>some (.vsl n sz (ax_ zs n))
     |false=>none
   |_=>none
 | .mkz sz bytes zs,[a]=>match a with
   | .int _ (.ofNat n)=>match Nat.blt 0 sz&&(Nat.blt 0 bytes&&(Nat.blt 0 n&&(Nat.ble (Nat.mul n bytes) 1073741824&&Nat.ble n 1073741824)))with
     |true=>some (.vsl n sz (ax_ zs n))
     |false=>none
   |_=>none
 | .skx,[x,a]=>match x with
   | .vsl n z cs=>match a with
     | .int _ (.ofNat m)=>match Nat.ble m n with
       |true=>some (.vsl (Nat.sub n m) z (aj_ (Nat.mul m z) cs))
       |false=>none
     |_=>none
   |_=>none
 | .emp,[a]=>match a with
   | .nsl=>some (.bool true)
   | .vsl n _ _=>some (.bool (Nat.beq n 0))
   |_=>none
 | .app sz bytes,[a,b]=>match bM_ sz b with
   |some (n,l)=>kK_ sz bytes a n l
   |none=>none
 |_,_=>none
theorem nA_ {P:Program} {H:AHeap} {t:TypeId} {x:AV} (h:bI_ x=true):bj_ P H t x=bj_ P h0 t x:=by
 have hc:∀n,aT_ H x n=aT_ h0 x n:=λn=>by cases x<;>first|rfl|(simp [bI_]at h)
 grind [bj_]
theorem pM_ {P:Program} {H:AHeap} {t:TypeId} {x:AV} (h:bI_ x=true):c5_ P H t x=c5_ P h0 t x:=by
 unfold c5_
 grind [bI_]
theorem gs_ {H:AHeap} {x:AV} (h:bI_ x=true) (n sz:Nat):am_ H x n sz=am_ h0 x n sz:=by cases x<;>first|rfl|(simp [bI_]at h)
theorem nx_ {P:Program} {H:AHeap} {s d:TypeId} {x:AV} (h:bI_ x=true):c3_ P H s d x=c3_ P h0 s d x:=by cases x<;>first|rfl|(simp [bI_]at h)
theorem dn_ {P:Program} {H:AHeap} {t:TypeId} {x:AV} (h:bI_ x=true) (lo hi:Option AV):aN_ P H t x lo hi=aN_ P h0 t x lo hi:=by cases x<;>first|rfl|(simp [bI_]at h)
theorem bB_ {x:AV} {r:Option AV} {a:AV} (h:dw_ x r=some a):bI_ x=true/\r=some a:=by
 grind [dw_]
inductive Tree where
 |bad
 |done (v:AV)
 |ite (i:Nat) (a b:Tree)
 |lt (op:XOp) (args:List AV) (n:Nat) (m:Option Nat) (t:Tree)
def a7_ (P:Program) (Q:AV->Prop):Sy->Tree->Prop
 |_,.bad=>False
 |Y,.done v=>Q (den Y.v v)
 |Y,.ite i a b=>∃t,Y.v i=some (.bool t)/\(t=true->a7_ P Q Y a)/\(t=false->a7_ P Q Y b)
 |Y,.lt op args n m t=>match m with
  |none=>∃r,op.run P (ab_ Y.v args)=some r/\okC r=true/\a7_ P Q (Y.put n r) t
  |some k=>∃cs,op.run P (ab_ Y.v args)=some (.agg cs)/\cs.length=k/\okL cs=true/\a7_ P Q (Y.puts n cs) t
structure XS where
 T:Tm
 H:AHeap
 n:Nat
inductive XX where
 |exit (id:Nat) (S:XS)
 |ret (S:XS)
def sK_ {α β:Type} (f:α->β) (q:Q8 α):Q8 β:=Q8.casesOn q λa b c d e g h i=>⟨f a,f b,f c,f d,f e,f g,f h,f i⟩
def bf_ (f:AV->AV) (T:Tm):Tm:=sK_ (sK_ (sK_ f)) T
theorem qF_ {α β:Type} (f:α->β) (q:Q8 α):∀i:Nat,Q8.at8 i (sK_ f q)=f (Q8.at8 i q)
 |0=>by rfl
 |1=>by rfl
 |2=>by rfl
 |3=>by rfl
 |4=>by rfl
 |5=>by rfl
 |6=>by rfl
 |n+7=>by rfl
theorem aH_ (f:AV->AV) (T:Tm) (t:Nat):tget (bf_ f T) t=f (tget T t):=by
 grind [fp_,bf_,qF_]
def hb_ (i:Nat) (b:Bool) (a:AV):AV:=match a with
 | .sym j=>match Nat.beq j i with
   |true=>.bool b
   |false=>.sym j
 |a=>a
def XS.know (S:XS) (i:Nat) (b:Bool):XS:=⟨bf_ (hb_ i b) S.T,S.H,S.n⟩
variable [Gl]
def cx_ (T:Tm) (o:Oper):Option (XOp×List AV):=match o.op with
 | .binOp op t x y _=>some (.bin op t (bv_ x) (bv_ y),[look T x,look T y])
 | .unOp op _ x=>some (.un op,[look T x])
 | .convert s d x=>some (.conv s d,[look T x])
 | .index t x i=>some (.idx t,[look T x,look T i])
 | .indexAddr t x i=>some (.iaddr t,[look T x,look T i])
 | .fieldAddr s x f=>some (.faddr s f,[look T x])
 | .load t a=>some (.load t,[look T a])
 | .field s x f=>some (.fld s f,[look T x])
 | .slice t x lo hi mx=>match mx with
   |none=>match lo with
    |none=>match hi with
     |none=>some (.slc t false false,[look T x])
     |some b=>some (.slc t false true,[look T x,look T b])
    |some a=>match hi with
     |none=>some (.slc t true false,[look T x,look T a])
     |some b=>some (.slc t true true,[look T x,look T a,look T b])
   |some _=>none
 | .nilCheck x=>some (.nilc,[look T x])
 | .call c=>match c.callee with
   | .builtin b=>match b with
     | .len=>match c.args.toList,c.argTypes.toList with
       |[x],[t]=>some (.len t,[look T x])
       |_,_=>none
     | .max=>match c.args.toList with
       |[x,y]=>some (.mm true,[look T x,look T y])
       |_=>none
     | .min=>match c.args.toList with
       |[x,y]=>some (.mm false,[look T x,look T y])
       |_=>none
     |_=>none
   |_=>none
 |_=>none
omit [Gl]in
def tP_ (P:Program) (t:TypeId):Option Nat:=match P.underlying t with
 |some d=>match lI_ d with
  |true=>match P.info? t with
   |some i=>some i.size
   |none=>none
  |false=>none
 |none=>none
omit [Gl]in
def ki_ (P:Program) (op:XOp):Option Nat:=match op with
 | .load t=>tP_ P t
 | .ldx t _ _=>tP_ P t
 | .fld s f=>match P.underlying s with
   |some (.struct fields)=>match fields[f]? with
    |some fl=>tP_ P fl.type
    |none=>none
   |_=>none
 |_=>none
def rV_ (a:AV):Option Nat:=match a with
 | .sym i=>some i
 |_=>none
def iC_ (all:List Oper) (o:Oper) (T:Tm):Option Nat:=match o.guard with
 |none=>none
 |some (j,_)=>match iT_ all j with
  |some oj=>match oj.dst with
   |some d=>rV_ (tget T d)
   |none=>none
  |none=>none
def hc_ (T:Tm) (x:Operand):Option Nat:=match x with
 | .tmp t=>match Nat.blt t 512 with
   |true=>rV_ (tget T t)
   |false=>none
 |_=>none
def gm_ (o:Oper) (T:Tm):Option (Nat×Operand×Operand):=match o.op with
 | .pick c a b=>match hc_ T c with
   |some i=>some (i,a,b)
   |none=>none
 |_=>none
structure Fact where
 o:BinOp
 l:Bool
 i:Nat
 c:AV
 v:AV
def Fact.has (f:Fact) (o:BinOp) (x y:AV):Bool:=decide (o=f.o)&&(match f.l with
 |true=>bN_ x (.sym f.i)&&bN_ y f.c
 |false=>bN_ y (.sym f.i)&&bN_ x f.c)
def j5_:List Fact->XOp->List AV->Option AV
 |[],_,_=>none
 |f::r,op,args=>match op,args with
  | .bin o _ _ _,[x,y]=>match f.has o x y with
    |true=>some f.v
    |false=>j5_ r op args
  |_,_=>none
def Fact.ok (P:Program) (f:Fact) (a:AV):Prop:=∀t cx cy,(match f.l with
 |true=>bS_ P f.o t cx cy a f.c
 |false=>bS_ P f.o t cx cy f.c a)=some f.v
structure XF where
 f:FuncId
 args:List AV
 v:AV
structure FcT where
 b:List Fact
 x:List XF
def oK_:List XF->FuncId->List AV->Option AV
 |[],_,_=>none
 |q::r,f,args=>match Nat.beq f q.f&&du_ args q.args with
  |true=>some q.v
  |false=>oK_ r f args
def or_ (x:List XF) (T:Tm) (o:Oper):Option AV:=match o.op with
 | .call c=>match c.callee with
   | .value f=>match f with
     | .func id=>oK_ x id (jI_ (look T) c.args.toList)
     |_=>none
   |_=>none
 |_=>none
def XOk (P:Program) (Y:Sy) (q:XF):Prop:=∀(B:World) (pr:Nat->Prop) (E:Env) (H:AHeap) (w:World) (vs:List Value),(∀i,i<64->E.sy i=Y.v i)->GlOk E->Rel B pr E H w->ConL E q.args vs->
 ∃u,(callFunc q.f ⟨vs⟩).run P w=.ok (.value u) w/\Con E q.v u
def KnownF (P:Program) (fc:FcT) (Y:Sy):Prop:=(∀f∈fc.b,okC f.v=true/\okC f.c=true/\∃a,Y.v f.i=some a/\f.ok P a)/\∀q∈fc.x,XOk P Y q
def sm_ (P:Program) (fuel:Nat) (fc:FcT) (o:Oper) (u:Tm->AV->Tm) (S:XS) (k:XS->Tree):Tree:=match (ac_ P o).run S.T S.H with
 |some r=>match r with
  | .val a H'=>k ⟨u S.T a,H',S.n⟩
  | .call g args=>match aM_ P fuel g args S.H with
    |some r=>match r with
     | .ret a H'=>k ⟨u S.T a,H',S.n⟩
     | .pan _ _=>.bad
    |none=>.bad
  |_=>.bad
 |none=>match gm_ o S.T with
  |some (i,a,b)=>.ite i (k ⟨u (S.know i true).T (look (S.know i true).T a),S.H,S.n⟩) (k ⟨u (S.know i false).T (look (S.know i false).T b),S.H,S.n⟩)
  |none=>match or_ fc.x S.T o with
   |some v=>k ⟨u S.T v,S.H,S.n⟩
   |none=>match cx_ S.T o with
    |some (op,args)=>match ad_ args with
     |true=>match ki_ P op with
      |none=>match j5_ fc.b op args with
        |some v=>k ⟨u S.T v,S.H,S.n⟩
        |none=>.lt op args S.n none (k ⟨u S.T (.sym S.n),S.H,Nat.succ S.n⟩)
      |some m=>.lt op args S.n (some m) (k ⟨u S.T (.agg (af_ S.n m)),S.H,Nat.add S.n m⟩)
     |false=>.bad
    |none=>.bad
def xOp (P:Program) (fuel:Nat) (fc:FcT) (all:List Oper) (o:Oper) (u:Tm->AV->Tm) (next:XS->Tree) (S:XS):Tree:=match guardE' all o S.T with
 |some t=>match t with
  |false=>next ⟨u S.T (.tup []),S.H,S.n⟩
  |true=>sm_ P fuel fc o u S next
 |none=>.bad
where guardE' (all:List Oper) (o:Oper) (T:Tm):Option Bool:=match aY_ all o with
 | .always=>some true
 | .mk g=>g T
def ok_ (P:Program) (N fuel:Nat) (fc:FcT) (all:List Oper):List Oper->XS->(XS->Tree)->Tree
 |[],S,K=>K S
 |o::r,S,K=>match bO_ N o.dst with
  | .bad=>.bad
  | .mk u=>match iC_ all o S.T with
    |some i=>.ite i (xOp P fuel fc all o u (λS=>ok_ P N fuel fc all r S K) (S.know i true)) (xOp P fuel fc all o u (λS=>ok_ P N fuel fc all r S K) (S.know i false))
    |none=>xOp P fuel fc all o u (λS=>ok_ P N fuel fc all r S K) S
def px_ (b:XS->(XS->Tree)->Tree):Nat->XS->Tree
 |0,_=>.bad
 |n+1,S=>b S λS'=>px_ b n S'
def us_ (id:Nat) (K:XS->Tree) (X:XX->Tree) (r:XX):Tree:=match r with
 | .exit id' S=>match Nat.beq id' id with
   |true=>K S
   |false=>X r
 | .ret _=>X r
def ds_ (P:Program) (N fuel:Nat) (fc:FcT):Code->XS->(XS->Tree)->(XX->Tree)->Tree
 | .skip,S,K,X=>K S
 | .label _,S,K,X=>K S
 | .region _ ops draw,S,K,X=>match draw with
   |false=>ok_ P N fuel fc ops.toList ops.toList S K
   |true=>match iq_ P (aM_ P fuel) N ops.toList S.T S.H []with
    |some r=>match r with
     | .norm T H D=>match D with
       |[]=>K ⟨T,H,S.n⟩
       |_=>.bad
     |_=>.bad
    |none=>.bad
 | .seq a b,S,K,X=>ds_ P N fuel fc a S (λS=>ds_ P N fuel fc b S K X) X
 | .cond c a b,S,K,X=>match look S.T c with
   | .bool t=>match t with
     |true=>ds_ P N fuel fc a S K X
     |false=>ds_ P N fuel fc b S K X
   |_=>match hc_ S.T c with
    |some i=>.ite i (ds_ P N fuel fc a (S.know i true) K X) (ds_ P N fuel fc b (S.know i false) K X)
    |none=>.bad
 | .block id b,S,K,X=>ds_ P N fuel fc b S K (us_ id K X)
 | .loop b,S,K,X=>px_ (λS K=>ds_ P N fuel fc b S K X) fuel S
 | .exit id,S,K,X=>X (.exit id S)
 | .ret,S,K,X=>X (.ret S)
 |_,_,_,_=>.bad
def pw_ (P:Program) (rs:List ResultVar) (S:XS):Tree:=match dU_ P S.T S.H rs with
 |some l=>match er_ 100 S.H (rG_ l)with
  |some v=>match ae_ v with
   |true=>.done v
   |false=>.bad
  |none=>.bad
 |none=>.bad
def vU_ (P:Program) (rs:List ResultVar) (r:XX):Tree:=match r with
 | .ret S=>pw_ P rs S
 | .exit _ _=>.bad
def xFn (P:Program) (fuel:Nat) (fc:FcT) (f:FuncId) (args:List AV) (n:Nat):Tree:=match P.funcs[f]? with
 |some fn=>match fn.body with
  |some c=>match Nat.ble (aK_ args) fn.ntmps&&Nat.ble fn.ntmps 512 with
   |true=>ds_ P fn.ntmps fuel fc c ⟨aX_ args 0 tnil,H0,n⟩ (pw_ P fn.results.toList) (vU_ P fn.results.toList)
   |false=>.bad
  |none=>.bad
 |none=>.bad
end Go.Sx
