/-
  The evaluator with symbols, with loops by templates and calls by what is known of them.
-/
import Derived.Test.YtaamplmpnmegdaaGreatDoorSyX
set_option linter.unusedVariables false
set_option linter.unusedSimpArgs false
namespace Go.Sx
structure TA where
 id:Nat
 sz:Nat
 j:Nat
 loc:Nat
 off:Option Nat
structure Tpl where
 slots:List (Nat×AV)
 rows:List (Nat×List AV)
 next:Nat
 nv:Nat
 acc:List TA:=[]
 maps:List (Nat×Nat):=[]
 fix:List (Nat×Nat):=[]
abbrev sY_:=List (Nat×List Tpl)
structure FT where
 k:Nat
 ent:Tpl
 exs:List (Bool×Tpl)
inductive Chk where
 |same (i j:Nat)
 |nn (i:Nat)
 |pos (i:Nat)
mutual
inductive VT where
 |bad
 |done (v:AV)
 |ite (i:Nat) (a b:VT)
 |lt (op:XOp) (args:List AV) (n:Nat) (m:Option Nat) (t:VT)
 |call (f:FuncId) (args:List AV) (n:Nat) (sh:List (Option Nat)) (t:VT)
 |loop (n j:Nat) (hv:List AV) (bs:VTs)
 |again (lvl j:Nat) (hv:List AV)
 |chk (c:Chk) (t:VT)
 |callF (f:FuncId) (ft:FT) (hv:List AV) (n:Nat) (bs:VTs)
 |both (a b:VT)
inductive VTs where
 |nil
 |cons (nv:Nat) (t:VT) (r:VTs)
end
def flat:List (Option Nat)->List AV->Option (List AV)
 |[],[]=>some []
 |none::s,a::r=>match flat s r with
  |some l=>some (a::l)
  |none=>none
 |some m::s,.agg cs::r=>match decide (cs.length=m)with
  |true=>match flat s r with
   |some l=>some (cs++l)
   |none=>none
  |false=>none
 |_,_=>none
def hd_ (sh:List (Option Nat)) (v:AV):Option (List AV):=match sh with
 |[s]=>flat [s] [v]
 |sh=>match v with
  | .tup l=>flat sh l
  |_=>none
def bT_:Nat->List (Option Nat)->List AV
 |_,[]=>[]
 |n,none::s=>.sym n::bT_ (Nat.succ n) s
 |n,some m::s=>.agg (ae_ n m)::bT_ (Nat.add n m) s
def c7_ (n:Nat) (sh:List (Option Nat)):AV:=match sh with
 |[s]=>match bT_ n [s]with
  |a::_=>a
  |[]=>.tup []
 |sh=>.tup (bT_ n sh)
def dj_:List (Option Nat)->Nat
 |[]=>0
 |none::s=>Nat.succ (dj_ s)
 |some m::s=>Nat.add m (dj_ s)
mutual
def bv_ (n:Nat):AV->AV
 | .slx j z i=>match z with
   |0=>.sym (Nat.add n j)
   |z+1=>.slx j (z+1) (Nat.add n i)
 | .ptx id j sz _=>.slx id sz j
 | .vptr cs=>.vptr (bN_ n cs)
 | .vsl a z cs=>.vsl a z (bN_ n cs)
 | .fn f cs=>.fn f (bN_ n cs)
 | .iface t a=>.iface t (bv_ n a)
 | .agg cs=>.agg (bN_ n cs)
 | .tup cs=>.tup (bN_ n cs)
 |a=>a
def bN_ (n:Nat):List AV->List AV
 |[]=>[]
 |a::r=>bv_ n a::bN_ n r
end
def c0_ (n:Nat):List (Nat×AV)->Tm
 |[]=>topq
 |(t,a)::r=>fc_ (c0_ n r) t (bv_ n a)
def ik_ (n next:Nat):List (Nat×List AV)->AHeap
 |[]=>⟨hnil,next,top⟩
 |(id,cs)::r=>(ik_ n next r).set id (.cells (bN_ n cs))
def hg_ (n:Nat) (H:AHeap):List TA->AHeap
 |[]=>H
 |t::r=>(hg_ n H r).set t.id (.syl (Nat.add n t.j))
def jT_ (n:Nat) (H:AHeap):List (Nat×Nat)->AHeap
 |[]=>H
 |(id,j)::r=>(jT_ n H r).set id (.mpl (Nat.add n j))
def lw_:Nat:=1500
def hf_ (i:Nat):Nat:=Nat.div (Nat.sub i lw_) 16
def zF (i:Nat):Nat:=Nat.mod (Nat.sub i lw_) 16
def jq_ (n i:Nat):Nat:=match Nat.blt i lw_ with
 |true=>i
 |false=>Nat.add n (hf_ i)
def jS_ (n:Nat) (H:AHeap):List (Nat×Nat)->AHeap
 |[]=>H
 |(id,i)::r=>(jS_ n H r).set id (.syl (jq_ n i))
def pK_:List (Nat×Nat)->List Nat->List Nat
 |[],acc=>acc
 |(id,_)::r,acc=>id::pK_ r acc
def oK_ (H:AHeap) (id:Nat):Option AV:=match H.get id with
 |some (.map es _)=>match ad_ (bx_ es)with
  |true=>some (.vsl (mc_ es) 2 (bx_ es))
  |false=>none
 |some (.mpl i)=>some (.sym i)
 |_=>none
def l9_:List (Nat×List AV)->List Nat
 |[]=>[]
 |(id,_)::r=>id::l9_ r
mutual
def ts_:AV->AV->List (Nat×AV)->List (Nat×AV)
 | .slx j z _,a,acc=>match z with
   |0=>(j,a)::acc
   |_+1=>acc
 | .agg ts,.agg cs,acc=>nf_ ts cs acc
 | .tup ts,.tup cs,acc=>nf_ ts cs acc
 | .vptr ts,.vptr cs,acc=>nf_ ts cs acc
 | .vsl _ _ ts,.vsl _ _ cs,acc=>nf_ ts cs acc
 | .fn _ ts,.fn _ cs,acc=>nf_ ts cs acc
 | .iface _ t,.iface _ a,acc=>ts_ t a acc
 |_,_,acc=>acc
def nf_:List AV->List AV->List (Nat×AV)->List (Nat×AV)
 |t::ts,a::r,acc=>ts_ t a (nf_ ts r acc)
 |_,_,acc=>acc
end
def s7_:List (Nat×AV)->Nat->Option AV
 |[],_=>none
 |(i,a)::r,j=>match Nat.beq i j with
  |true=>some a
  |false=>s7_ r j
def oy_ (acc:List (Nat×AV)):Nat->Nat->Option (List AV)
 |_,0=>some []
 |j,m+1=>match s7_ acc j with
  |some a=>match oy_ acc (Nat.succ j) m with
   |some l=>some (a::l)
   |none=>none
  |none=>none
structure DA where
 id:Nat
 sz:Nat
 j:Nat
 x:AV
 act:Option Nat
def g1_ (H:AHeap) (sz:Nat) (a:AV):Option (AV×Option Nat):=match a with
 | .nsl=>some (.nsl,none)
 | .slx id sz' i=>match H.get id with
   |some (.syl k)=>match Nat.beq k i&&Nat.beq sz' sz with
    |true=>some (.sym i,some id)
    |false=>none
   |_=>none
 | .sl id off len sz' _=>match H.get id with
   |some (.cells cs)=>match a7_ (Nat.mul len sz) cs with
    |some cs=>match Nat.beq off 0&&(Nat.beq sz' sz&&(Nat.blt 0 len&&(Nat.beq (aY_ cs) (Nat.mul len sz)&&(ad_ cs&&a4_ cs))))with
     |true=>some (.vsl len sz cs,some id)
     |false=>none
    |none=>none
   |_=>none
 |_=>none
def nF_:Nat->List AV->Option AV
 |_,[]=>none
 |0,a::_=>some a
 |n+1,_::r=>nF_ n r
def aw_:List (Nat×Nat)->Nat->Option Nat
 |[],_=>none
 |(a,t)::r,i=>match Nat.beq a i with
  |true=>some t
  |false=>aw_ r i
def j1_ (T:Tm) (H:AHeap) (rn:List (Nat×Nat)) (t:TA):Option AV:=match t.off with
 |none=>some (tget T t.loc)
 |some o=>match aw_ rn t.loc with
  |some a=>match H.get a with
   |some (.cells cs)=>nF_ o cs
   |_=>none
  |none=>match tget T (Nat.sub t.loc 600)with
   | .tup cs=>nF_ o cs
   |_=>none
def pl_ (T:Tm) (H:AHeap) (rn:List (Nat×Nat)):List TA->Option (List DA)
 |[]=>some []
 |t::r=>match j1_ T H rn t with
  |some a=>match g1_ H t.sz a with
   |some (x,act)=>match pl_ T H rn r with
    |some l=>some (⟨t.id,t.sz,t.j,x,act⟩::l)
    |none=>none
   |none=>none
  |none=>none
def aD_:List DA->Nat->Option DA
 |[],_=>none
 |d::r,id=>match Nat.beq d.id id with
  |true=>some d
  |false=>aD_ r id
def jp_:Option Nat->Option Nat->Bool
 |none,none=>true
 |some a,some b=>Nat.beq a b
 |_,_=>false
mutual
def mA (H:AHeap) (ds:List DA) (rn:List (Nat×Nat)) (hv:List AV) (n:Nat):AV->AV->Bool
 | .opq,_=>true
 | .sym i,a=>Nat.blt i n&&bI_ (.sym i) a
 | .ptr id off,a=>match a with
   | .ptr id' off'=>jp_ (aw_ rn id) (some id')&&Nat.beq off off'
   |_=>false
 | .sl id off len sz cap,a=>match a with
   | .sl id' off' len' sz' cap'=>jp_ (aw_ rn id) (some id')&&(Nat.beq off off'&&(Nat.beq len len'&&(Nat.beq sz sz'&&(cap.isNone||cap==cap'))))
   |_=>false
 | .agg ts,a=>match a with
   | .agg cs=>mL H ds rn hv n ts cs
   |_=>false
 | .tup ts,a=>match a with
   | .tup cs=>mL H ds rn hv n ts cs
   |_=>false
 | .vptr ts,a=>match a with
   | .vptr cs=>mL H ds rn hv n ts cs
   |_=>false
 | .vsl len sz ts,a=>match a with
   | .vsl len' sz' cs=>Nat.beq len len'&&(Nat.beq sz sz'&&mL H ds rn hv n ts cs)
   |_=>false
 | .fn f ts,a=>match a with
   | .fn g cs=>Nat.beq f g&&mL H ds rn hv n ts cs
   |_=>false
 | .iface t x,a=>match a with
   | .iface u y=>Nat.beq t u&&mA H ds rn hv n x y
   |_=>false
 | .slx j z i,a=>match z with
   |0=>match ci_ j hv with
    |some x=>bI_ x a
    |none=>false
   |z+1=>match aD_ ds j with
    |some d=>match g1_ H (Nat.succ z) a with
     |some (x,act)=>Nat.beq d.sz (Nat.succ z)&&(Nat.beq d.j i&&(bI_ d.x x&&jp_ d.act act))
     |none=>false
    |none=>false
 | .ptx id i sz _,a=>match a with
   | .slx id' sz' i'=>jp_ (aw_ rn id) (some id')&&(Nat.beq sz sz'&&(Nat.beq i i'&&Nat.blt i n))
   |_=>false
 | .map id,a=>match a with
   | .map id'=>jp_ (aw_ rn id) (some id')
   |_=>false
 |t,a=>bI_ t a
def mL (H:AHeap) (ds:List DA) (rn:List (Nat×Nat)) (hv:List AV) (n:Nat):List AV->List AV->Bool
 |[],[]=>true
 |t::ts,a::r=>mA H ds rn hv n t a&&mL H ds rn hv n ts r
 |_,_=>false
end
mutual
def eG_ (n:Nat):AV->Bool
 | .sym i=>Nat.blt i n
 | .vptr cs=>aE_ n cs
 | .vsl _ _ cs=>aE_ n cs
 | .fn _ cs=>aE_ n cs
 | .iface _ a=>eG_ n a
 | .agg cs=>aE_ n cs
 | .tup cs=>aE_ n cs
 |_=>true
def aE_ (n:Nat):List AV->Bool
 |[]=>true
 |a::r=>eG_ n a&&aE_ n r
end
structure VS where
 T:Tm
 H:AHeap
 n:Nat
 lv:Nat
 D:Dfs
inductive VX where
 |exit (id:Nat) (S:VS)
 |ret (S:VS)
 |pan (v:AV) (S:VS)
def VS.x (S:VS):XS:=⟨S.T,S.H,S.n⟩
def VS.know (S:VS) (i:Nat) (b:Bool):VS:=⟨bd_ (gX_ i b) S.T,S.H,S.n,S.lv,S.D⟩
def uk_ (T:Tm):List (Nat×AV)->List (Nat×AV)->List (Nat×AV)
 |[],acc=>acc
 |(t,a)::r,acc=>ts_ a (tget T t) (uk_ T r acc)
def uj_ (H:AHeap) (rn:List (Nat×Nat)):List (Nat×List AV)->List (Nat×AV)->List (Nat×AV)
 |[],acc=>acc
 |(id,cs)::r,acc=>match aw_ rn id with
  |some a=>match H.get a with
   |some (.cells l)=>nf_ cs l (uj_ H rn r acc)
   |_=>acc
  |none=>acc
def ug_:List DA->List (Nat×AV)->List (Nat×AV)
 |[],acc=>acc
 |d::r,acc=>(d.j,d.x)::ug_ r acc
def mT (H:AHeap) (ds:List DA) (rn:List (Nat×Nat)) (hv:List AV) (n:Nat) (T:Tm):List (Nat×AV)->Bool
 |[]=>true
 |(t,a)::r=>Nat.blt t 512&&(mA H ds rn hv n a (tget T t)&&mT H ds rn hv n T r)
def qf_ (id a:Nat) (rn:List (Nat×Nat)):List (Nat×Nat):=match aw_ rn id with
 |none=>(id,a)::rn
 |some _=>rn
mutual
def qx_:AV->AV->List (Nat×Nat)->List (Nat×Nat)
 | .ptr id _,.ptr id' _,rn=>qf_ id id' rn
 | .sl id _ _ _ _,.sl id' _ _ _ _,rn=>qf_ id id' rn
 | .ptx id _ _ _,.slx id' _ _,rn=>qf_ id id' rn
 | .map id,.map id',rn=>qf_ id id' rn
 | .agg ts,.agg cs,rn=>lF_ ts cs rn
 | .tup ts,.tup cs,rn=>lF_ ts cs rn
 | .iface _ t,.iface _ a,rn=>qx_ t a rn
 |_,_,rn=>rn
def lF_:List AV->List AV->List (Nat×Nat)->List (Nat×Nat)
 |t::ts,a::r,rn=>lF_ ts r (qx_ t a rn)
 |_,_,rn=>rn
end
def s4_ (T:Tm):List (Nat×AV)->List (Nat×Nat)->List (Nat×Nat)
 |[],rn=>rn
 |(t,a)::r,rn=>s4_ T r (qx_ a (tget T t) rn)
def lE_ (H:AHeap):List (Nat×List AV)->List (Nat×Nat)->List (Nat×Nat)
 |[],rn=>rn
 |(id,cs)::r,rn=>match aw_ rn id with
  |some a=>match H.get a with
   |some (.cells l)=>lE_ H r (lF_ cs l rn)
   |_=>lE_ H r rn
  |none=>match H.get id with
   |some (.cells l)=>lE_ H r (lF_ cs l ((id,id)::rn))
   |_=>lE_ H r rn
def rm_:List (Nat×Nat)->List (Nat×Nat)->List (Nat×Nat)
 |[],rn=>rn
 |(id,_)::r,rn=>rm_ r (qf_ id id rn)
def qR_ (ids:List Nat):List (Nat×Nat)->List (Nat×Nat)
 |[]=>[]
 |(id,a)::r=>match memT id ids with
  |true=>(id,a)::qR_ ids r
  |false=>qR_ ids r
def Tpl.ids (tp:Tpl):List Nat:=pK_ tp.fix (pK_ tp.maps (l9_ tp.rows))
def tL_ (tp:Tpl) (T:Tm) (H:AHeap):List (Nat×Nat):=qR_ tp.ids (rm_ tp.fix (rm_ tp.maps (lE_ H tp.rows (s4_ T tp.slots []))))
def ty_:List (Nat×Nat)->List (Nat×Nat)->List (Nat×Nat)
 |[],acc=>acc
 |(id,a)::r,acc=>(a,id)::ty_ r acc
def qQ_:List DA->List (Nat×Nat)->List (Nat×Nat)
 |[],acc=>acc
 |d::r,acc=>match d.act with
  |some i=>(i,d.id)::qQ_ r acc
  |none=>qQ_ r acc
def mN (ds:List DA) (inv:List (Nat×Nat)) (next:Nat):List (Nat×Nat)->Bool
 |[]=>true
 |(id,a)::r=>Nat.blt id next&&(Nat.blt id top&&(jp_ (aw_ inv a) (some id)&&((aD_ ds id).isNone&&mN ds inv next r)))
def mH (ds:List DA) (rn:List (Nat×Nat)) (hv:List AV) (n:Nat) (H:AHeap):List (Nat×List AV)->Bool
 |[]=>true
 |(id,cs)::r=>(match aw_ rn id with
  |some a=>match H.get a with
   |some (.cells l)=>mL H ds rn hv n cs l
   |_=>false
  |none=>false)&&mH ds rn hv n H r
def mD (inv:List (Nat×Nat)) (hv:List AV) (next:Nat):List DA->Bool
 |[]=>true
 |d::r=>Nat.blt d.id next&&(Nat.blt d.id top&&((match ci_ d.j hv with
  |some y=>bI_ y d.x
  |none=>false)&&((match d.act with
  |some i=>jp_ (aw_ inv i) (some d.id)
  |none=>true)&&mD inv hv next r)))
def us_ (H:AHeap) (rn:List (Nat×Nat)):List (Nat×Nat)->List (Nat×AV)->Option (List (Nat×AV))
 |[],acc=>some acc
 |(id,j)::r,acc=>match aw_ rn id with
  |some a=>match oK_ H a with
   |some x=>match us_ H rn r acc with
    |some l=>some ((j,x)::l)
    |none=>none
   |none=>none
  |none=>none
def mM (rn:List (Nat×Nat)) (hv:List AV) (H:AHeap):List (Nat×Nat)->Bool
 |[]=>true
 |(id,j)::r=>(match aw_ rn id with
  |some a=>match oK_ H a with
   |some x=>match ci_ j hv with
    |some y=>bI_ y x
    |none=>false
   |none=>false
  |none=>false)&&mM rn hv H r
def oA_ (cs:List AV) (x:AV):Bool:=match x with
 | .vsl len z cs'=>ds_ cs' cs&&(Nat.beq (aY_ cs) (Nat.mul len z)&&(ad_ cs&&a4_ cs))
 |_=>false
def mF (rn:List (Nat×Nat)) (hv:List AV) (n:Nat) (H:AHeap):List (Nat×Nat)->Bool
 |[]=>true
 |(id,i)::r=>(match aw_ rn id with
  |some a=>match H.get a with
   |some (.syl i')=>match Nat.blt i lw_ with
    |true=>Nat.blt i n&&Nat.beq i i'
    |false=>match ci_ (hf_ i) hv with
     |some x=>bI_ x (.sym i')
     |none=>false
   |some (.cells cs)=>match Nat.blt i lw_ with
    |true=>false
    |false=>match ci_ (hf_ i) hv with
     |some x=>oA_ cs x
     |none=>false
   |_=>false
  |none=>false)&&mF rn hv n H r
def pC_ (rn:List (Nat×Nat)) (H:AHeap):List (Nat×Nat)->List (Nat×AV)->List (Nat×AV)
 |[],acc=>acc
 |(id,i)::r,acc=>match Nat.blt i lw_ with
  |true=>pC_ rn H r acc
  |false=>match aw_ rn id with
   |some a=>match H.get a with
    |some (.syl i')=>(hf_ i,.sym i')::pC_ rn H r acc
    |some (.cells cs)=>(hf_ i,.vsl (Nat.div (aY_ cs) (zF i)) (zF i) cs)::pC_ rn H r acc
    |_=>pC_ rn H r acc
   |none=>pC_ rn H r acc
def tC_ (ds:List DA) (rn:List (Nat×Nat)):Nat->Bool
 |0=>true
 |k+1=>(match aw_ rn k with
  |some a=>Nat.beq a k
  |none=>match aD_ ds k with
   |some d=>jp_ d.act (some k)
   |none=>false)&&tC_ ds rn k
def noD:Dfs->Bool
 |[]=>true
 |_=>false
structure MR where
 rn:List (Nat×Nat)
 ds:List DA
 hv:List AV
def MR.inv (m:MR):List (Nat×Nat):=qQ_ m.ds (ty_ m.rn [])
def gI_ (n:Nat) (tp:Tpl) (T:Tm) (H:AHeap):Option MR:=match tL_ tp T H with
 |rn=>match pl_ T H rn tp.acc with
  |none=>none
  |some ds=>match us_ H rn tp.maps (ug_ ds (uk_ T tp.slots (uj_ H rn tp.rows [])))with
   |none=>none
   |some ms=>match oy_ (pC_ rn H tp.fix ms) 0 tp.nv with
    |none=>none
    |some hv=>match MR.mk rn ds hv with
      |m=>match ad_ hv&&(a4_ hv&&(mT H ds rn hv n T tp.slots&&(mN ds m.inv tp.next rn&&(mH ds rn hv n H tp.rows&&(mD m.inv hv tp.next ds&&(mM rn hv H tp.maps&&(mF rn hv n H tp.fix&&Nat.ble tp.next top)))))))with
       |true=>some m
       |false=>none
def nnL (k:Nat) (hv:List AV):List TA->Option (List Nat)
 |[]=>some []
 |t::r=>match nnL k hv r with
  |none=>none
  |some l=>match Nat.blt t.id k with
   |false=>some l
   |true=>match ci_ t.j hv with
    |some (.sym i)=>some (i::l)
    |some (.vsl _ _ _)=>some l
    |_=>none
structure MT where
 hv:List AV
 nn:List Nat
def ix_ (n k:Nat) (tp:Tpl) (S:VS):Option MT:=match noD S.D with
 |false=>none
 |true=>match gI_ n tp S.T S.H with
  |none=>none
  |some m=>match tC_ m.ds m.rn k with
   |false=>none
   |true=>match nnL k m.hv tp.acc with
    |none=>none
    |some l=>some ⟨m.hv,l⟩
mutual
def ri_:AV->AV->List AV
 | .slx _ z _,a=>match z with
   |0=>match ah_ a with
    |true=>[]
    |false=>[a]
   |_+1=>[]
 | .agg ts,.agg cs=>rk_ ts cs
 | .tup ts,.tup cs=>rk_ ts cs
 | .iface _ t,.iface _ a=>ri_ t a
 | .vsl _ _ _,.sl id o n z c=>[.sl id o n z c]
 |_,_=>[]
def rk_:List AV->List AV->List AV
 |t::ts,a::r=>je_ (ri_ t a) (rk_ ts r)
 |_,_=>[]
end
def f1_ (T:Tm):List (Nat×AV)->List AV
 |[]=>[]
 |(t,a)::r=>je_ (ri_ a (tget T t)) (f1_ T r)
def dr_ (S:VS) (args:List AV):VS:=let l:=dX_ 100 S.H args []
 ⟨bd_ (frz (c1_ S.H l)) S.T,dB_ S.H l,S.n,S.lv,S.D⟩
def tm_ (S:VS) (args:List AV) (id:Nat):VS:=let l:=dX_ 100 S.H args []
 ⟨bd_ (frz (c1_ S.H l)) S.T,sK_ (c1_ S.H l) id (dB_ S.H l),S.n,S.lv,S.D⟩
mutual
def reA (id i k:Nat):AV->AV
 | .slx a z j=>match Nat.beq a id&&Nat.beq j i with
   |true=>.slx a z k
   |false=>.slx a z j
 | .vptr cs=>.vptr (reL id i k cs)
 | .vsl n z cs=>.vsl n z (reL id i k cs)
 | .fn f cs=>.fn f (reL id i k cs)
 | .iface t a=>.iface t (reA id i k a)
 | .agg cs=>.agg (reL id i k cs)
 | .tup cs=>.tup (reL id i k cs)
 |a=>a
def reL (id i k:Nat):List AV->List AV
 |[]=>[]
 |a::r=>reA id i k a::reL id i k r
end
structure SR where
 id:Nat
 i:Nat
 k:Nat
def gU_ (H:AHeap):List AV->List SR
 |[]=>[]
 |a::r=>match a with
  | .slx id _ i=>match H.get id with
    |some (.syl k)=>match Nat.beq i k with
     |true=>gU_ H r
     |false=>⟨id,i,k⟩::gU_ H r
    |_=>gU_ H r
  |_=>gU_ H r
def tK_:List SR->List AV->List AV
 |[],l=>l
 |q::r,l=>tK_ r (reL q.id q.i q.k l)
def reS:List SR->VS->VS
 |[],S=>S
 |q::r,S=>reS r ⟨bd_ (reA q.id q.i q.k) S.T,S.H,S.n,S.lv,S.D⟩
def nL_:List SR->List (Nat×Nat)
 |[]=>[]
 |q::r=>(q.i,q.k)::nL_ r
structure FR where
 l:List (Nat×Nat)
 S:VS
def hp_ (S:VS) (l:List AV):FR:=match gU_ S.H l with
 |[]=>⟨[],dr_ S l⟩
 |q=>⟨nL_ q,dr_ (reS q S) (tK_ q l)⟩
def kT_ (tp:Tpl) (S:VS):FR:=match f1_ S.T tp.slots with
 |[]=>⟨[],S⟩
 |l=>hp_ S l
def nW_ (H:AHeap) (a:AV):Option (Nat×Nat×AV):=match a with
 | .slx id z i=>match H.get id with
   |some (.syl k)=>match Nat.beq i k with
    |true=>none
    |false=>some (i,k,.slx id z k)
   |_=>none
 |_=>none
def gc_:Nat->AV->List AV->List AV
 |_,_,[]=>[]
 |0,x,_::r=>x::r
 |n+1,x,a::r=>a::gc_ n x r
def kR_ (rn:List (Nat×Nat)) (t:TA) (S:VS):FR:=match j1_ S.T S.H rn t with
 |none=>⟨[],S⟩
 |some a=>match nW_ S.H a with
  |none=>⟨[],S⟩
  |some (i,k,a')=>match t.off with
   |none=>match Nat.blt t.loc 512 with
    |true=>⟨[(i,k)],⟨fc_ S.T t.loc a',S.H,S.n,S.lv,S.D⟩⟩
    |false=>⟨[],S⟩
   |some o=>match aw_ rn t.loc with
    |some r=>match S.H.get r with
     |some (.cells cs)=>⟨[(i,k)],⟨S.T,S.H.set r (.cells (gc_ o a' cs)),S.n,S.lv,S.D⟩⟩
     |_=>⟨[],S⟩
    |none=>match tget S.T (Nat.sub t.loc 600)with
     | .tup cs=>match Nat.blt (Nat.sub t.loc 600) 512 with
       |true=>⟨[(i,k)],⟨fc_ S.T (Nat.sub t.loc 600) (.tup (gc_ o a' cs)),S.H,S.n,S.lv,S.D⟩⟩
       |false=>⟨[],S⟩
     |_=>⟨[],S⟩
def dP_ (rn:List (Nat×Nat)):List TA->VS->FR
 |[],S=>⟨[],S⟩
 |t::r,S=>match kR_ rn t S with
  |f=>match dP_ rn r f.S with
   |g=>⟨appP f.l g.l,g.S⟩
where
 appP:List (Nat×Nat)->List (Nat×Nat)->List (Nat×Nat)
 |[],l=>l
 |x::r,l=>x::appP r l
def kS_ (tp:Tpl) (S:VS):FR:=dP_ (tL_ tp S.T S.H) tp.acc S
def dp_ (tp:Tpl) (S:VS):FR:=match kT_ tp S with
 |f=>match kS_ tp f.S with
  |g=>⟨dP_.appP f.l g.l,g.S⟩
def kf_:List (Nat×Nat)->VT->VT
 |[],t=>t
 |(i,k)::r,t=>.chk (.same i k) (kf_ r t)
structure MA where
 j:Nat
 l:List (Nat×Nat)
 m:MT
def clashT (T:Tm):List (Nat×AV)->Bool
 |[]=>false
 |(t,a)::r=>(match a with
  | .int _ x=>match tget T t with
    | .int _ y=>not (eqI x y)
    |_=>false
  |_=>false)||clashT T r
def dC_ (n k:Nat):List Tpl->Nat->VS->Option MA
 |[],_,_=>none
 |tp::r,j,S=>match clashT S.T tp.slots with
  |true=>dC_ n k r (Nat.succ j) S
  |false=>match dp_ tp S with
   |f=>match ix_ n k tp f.S with
    |some m=>some ⟨j,f.l,m⟩
    |none=>dC_ n k r (Nat.succ j) S
def Tpl.heap (tp:Tpl) (n:Nat):AHeap:=jS_ n (jT_ n (hg_ n (ik_ n tp.next tp.rows) tp.acc) tp.maps) tp.fix
def Tpl.inst (tp:Tpl) (n lv:Nat):VS:=⟨c0_ n tp.slots,tp.heap n,Nat.add n tp.nv,lv,[]⟩
def sb_:List Nat->VT->VT
 |[],t=>t
 |i::r,t=>.chk (.nn i) (sb_ r t)
section
variable [Gl]
def eH_:List (Nat×AV)->List AV
 |[]=>[]
 |(_,a)::r=>a::eH_ r
def ua_ (ft:FT) (n:Nat) (Y0:Sy) (Q:Nat->List AV->Prop) (Y:Sy) (r:FRes):Prop:=
 ∃j ws b tp,ft.exs[j]? =some (b,tp)/\Q j ws/\okL ws=true/\ws.length=tp.nv/\Y=Y0.puts n ws/\r=(match b with
  |true=>.pan (tget (c0_ n tp.slots) 0) (tp.heap n)
  |false=>.ret (tget (c0_ n tp.slots) 0) (tp.heap n))
def CF (P:Program) (f:FuncId) (ft:FT) (vs:List AV) (Q:Nat->List AV->Prop):Prop:=
 vs.length=ft.ent.nv/\∀Y,Fresh Y 64->SemCallF P ft.k (Y.puts 64 vs) f (bN_ 64 (eH_ ft.ent.slots)) (ft.ent.heap 64) (ua_ ft (Nat.add 64 ft.ent.nv) (Y.puts 64 vs) Q)
def Chk.ok (Y:Sy):Chk->Prop
 | .same i j=>(Y.v i=some .nsl/\Y.v j=some .nsl)\/∃n z cs ds,Y.v i=some (.vsl n z cs)/\Y.v j=some (.vsl n z ds)
 | .nn i=>∃n z cs,Y.v i=some (.vsl n z cs)
 | .pos i=>∃n z cs,Y.v i=some (.vsl (n+1) z cs)
mutual
def VOK (P:Program) (Q:AV->Prop):List (Nat->List AV->Prop)->Sy->VT->Prop
 |_,_,.bad=>False
 |_,Y,.done v=>Q (den Y.v v)
 |L,Y,.ite i a b=>∃t,Y.v i=some (.bool t)/\(t=true->VOK P Q L Y a)/\(t=false->VOK P Q L Y b)
 |L,Y,.lt op args n m t=>match m with
  |none=>∃r,op.run P (ab_ Y.v args)=some r/\okC r=true/\VOK P Q L (Y.put n r) t
  |some k=>∃cs,op.run P (ab_ Y.v args)=some (.agg cs)/\cs.length=k/\okL cs=true/\VOK P Q L (Y.puts n cs) t
 |L,Y,.call f args n sh t=>∃v vs,hR_ P f (ab_ Y.v args) v/\hd_ sh v=some vs/\okL vs=true/\VOK P Q L (Y.puts n vs) t
 |L,Y,.loop n j hv bs=>∃(Inv:Nat->List AV->Prop) (μ:Nat->List AV->Nat),(∀j vs,Inv j vs->okL vs=true)/\Inv j (ab_ Y.v hv)/\to_ P Q Inv μ L n 0 Y bs
 |L,Y,.again lvl j hv=>∃R,L[lvl]? =some R/\R j (ab_ Y.v hv)
 |L,Y,.chk c t=>c.ok Y/\VOK P Q L Y t
 |L,Y,.callF f ft hv n bs=>∃R,CF P f ft (ab_ Y.v hv) R/\okL (ab_ Y.v hv)=true/\tn_ P Q R L (Y.puts n (ab_ Y.v hv)) (Nat.add n ft.ent.nv) 0 bs
 |L,Y,.both a b=>VOK P Q L Y a/\VOK P Q L Y b
def to_ (P:Program) (Q:AV->Prop) (Inv:Nat->List AV->Prop) (μ:Nat->List AV->Nat):List (Nat->List AV->Prop)->Nat->Nat->Sy->VTs->Prop
 |_,_,_,_,.nil=>True
 |L,n,j,Y,.cons nv t r=>(∀vs,vs.length=nv->Inv j vs->VOK P Q (L++[λj' vs'=>Inv j' vs'/\μ j' vs'<μ j vs]) (Y.puts n vs) t)/\to_ P Q Inv μ L n (j+1) Y r
def tn_ (P:Program) (Q:AV->Prop) (R:Nat->List AV->Prop):List (Nat->List AV->Prop)->Sy->Nat->Nat->VTs->Prop
 |_,_,_,_,.nil=>True
 |L,Y,n,j,.cons _ t r=>(∀ws,R j ws->VOK P Q L (Y.puts n ws) t)/\tn_ P Q R L Y n (j+1) r
end
end
def kW_:sY_->Nat->Option (List Tpl)
 |[],_=>none
 |(b,l)::r,bid=>match Nat.beq b bid with
  |true=>some l
  |false=>kW_ r bid
section
variable [Gl]
abbrev qd_:=List (FuncId×List (Option Nat))
def tN_:qd_->FuncId->Option (List (Option Nat))
 |[],_=>none
 |(g,sh)::r,f=>match Nat.beq g f with
  |true=>some sh
  |false=>tN_ r f
abbrev qe_:=List (FuncId×FT)
def tw_:qe_->FuncId->Option FT
 |[],_=>none
 |(g,t)::r,f=>match Nat.beq g f with
  |true=>some t
  |false=>tw_ r f
structure VC where
 fc:FcT
 cs:qd_
 hs:sY_
 k:Nat
 own:Bool
 fs:qe_
def qj_ (P:Program) (S:VS) (o:Oper):Option (Nat×Nat×XOp×List AV):=match noD S.D with
 |true=>fJ_ P S.T S.H o
 |false=>none
def m9_ (P:Program) (S:VS) (o:Oper):Option (Nat×Nat×XOp×List AV):=match noD S.D with
 |true=>match cv_ P S.T S.H o with
  |some r=>some r
  |none=>tG_ P S.T S.H o
 |false=>none
def q5_ (P:Program) (S:VS) (o:Oper):Option (Nat×XOp×List AV):=match noD S.D with
 |true=>q4_ P S.T S.H o
 |false=>none
def sgS (hv:List AV) (n i:Nat):Nat:=match Nat.blt i 64 with
 |true=>i
 |false=>match ci_ (Nat.sub i 64) hv with
  |some (.sym s)=>s
  |_=>Nat.add n (Nat.sub i 64)
def sgV (hv:List AV) (n i:Nat):AV:=match Nat.blt i 64 with
 |true=>.sym i
 |false=>match ci_ (Nat.sub i 64) hv with
  |some a=>match okC a with
   |true=>a
   |false=>.sym (sgS hv n i)
  |none=>.sym (sgS hv n i)
mutual
def dn_ (hv:List AV) (n:Nat) (r:Nat->Nat):AV->AV
 | .sym i=>sgV hv n i
 | .slx id z i=>.slx (r id) z (sgS hv n i)
 | .ptx id j z off=>.ptx (r id) (sgS hv n j) z off
 | .ptr id off=>.ptr (r id) off
 | .sl id off len sz cap=>.sl (r id) off len sz cap
 | .map id=>.map (r id)
 | .vptr cs=>.vptr (fb_ hv n r cs)
 | .vsl a z cs=>.vsl a z (fb_ hv n r cs)
 | .fn f cs=>.fn f (fb_ hv n r cs)
 | .iface t a=>.iface t (dn_ hv n r a)
 | .agg cs=>.agg (fb_ hv n r cs)
 | .tup cs=>.tup (fb_ hv n r cs)
 |a=>a
def fb_ (hv:List AV) (n:Nat) (r:Nat->Nat):List AV->List AV
 |[]=>[]
 |a::l=>dn_ hv n r a::fb_ hv n r l
end
def q3_ (hv:List AV) (n:Nat) (r:Nat->Nat):ABlk->Option ABlk
 | .cells cs=>some (.cells (fb_ hv n r cs))
 | .syl i=>some (.syl (sgS hv n i))
 | .mpl i=>some (.mpl (sgS hv n i))
 |_=>none
def kZ_ (hv:List AV) (n:Nat) (r:Nat->Nat) (F:AHeap) (base:AHeap):List Nat->AHeap
 |[]=>base
 |id::l=>match F.get id with
  |some k=>match q3_ hv n r k with
   |some k'=>(kZ_ hv n r F base l).set (r id) k'
   |none=>kZ_ hv n r F base l
  |none=>kZ_ hv n r F base l
def cQ_:List TA->List Nat->List Nat
 |[],l=>l
 |t::r,l=>t.id::cQ_ r l
def p3_:List (Nat×Nat)->List Nat->List Nat
 |[],l=>l
 |(_,a)::r,l=>a::p3_ r l
def m7_:List DA->List Nat->List Nat
 |[],l=>l
 |d::r,l=>match d.act with
  |some i=>i::m7_ r l
  |none=>m7_ r l
def iu_ (m:MR) (j:Nat):Option Nat:=match aw_ m.rn j with
 |some a=>some a
 |none=>match aD_ m.ds j with
  |some d=>d.act
  |none=>none
def nA_ (m:MR):Nat->Option (List Nat)
 |0=>some []
 |k+1=>match nA_ m k with
  |some l=>match iu_ m k with
   |some a=>some (snoc l a)
   |none=>none
  |none=>none
where
 snoc:List Nat->Nat->List Nat
 |[],a=>[a]
 |x::r,a=>x::snoc r a
def su_:Nat->List Nat->Option Nat
 |_,[]=>none
 |0,a::_=>some a
 |n+1,_::r=>su_ n r
def rn_ (low:List Nat) (k nx j:Nat):Nat:=match su_ j low with
 |some a=>a
 |none=>Nat.add nx (Nat.sub j k)
mutual
def i5_:AV->Bool
 | .ptr id _=>Nat.blt id top
 | .sl id _ _ _ _=>Nat.blt id top
 | .map id=>Nat.blt id top
 | .slx id _ _=>Nat.blt id top
 | .ptx id _ _ _=>Nat.blt id top
 | .vptr cs=>i6_ cs
 | .vsl _ _ cs=>i6_ cs
 | .fn _ cs=>i6_ cs
 | .iface _ a=>i5_ a
 | .agg cs=>i6_ cs
 | .tup cs=>i6_ cs
 |_=>true
def i6_:List AV->Bool
 |[]=>true
 |a::r=>i5_ a&&i6_ r
end
def p7_ (n:Nat):List (Nat×List AV)->Bool
 |[]=>true
 |(_,cs)::r=>i6_ (bN_ n cs)&&p7_ n r
def p6_:List Nat->Bool
 |[]=>true
 |i::r=>Nat.blt i top&&p6_ r
def kU_ (H:AHeap):List Nat->Bool
 |[]=>true
 |a::r=>(H.get a).isSome&&kU_ H r
def iY_:Nat->List (Nat×AV)->Bool
 |_,[]=>true
 |i,(j,_)::r=>Nat.beq i j&&(Nat.blt i 512&&iY_ (Nat.succ i) r)
def o1_ (k n:Nat) (H:AHeap):List (Bool×Tpl)->Bool
 |[]=>true
 |(_,tp)::r=>Nat.ble k tp.next&&(Nat.blt (Nat.add H.next (Nat.sub tp.next k)) H.hi&&(i5_ (tget (c0_ n tp.slots) 0)&&(p7_ n tp.rows&&(p6_ (cQ_ tp.acc tp.ids)&&o1_ k n H r))))
def exH (ft:FT) (m:MR) (low:List Nat) (S:VS) (tp:Tpl):AHeap:=kZ_ m.hv S.n (rn_ low ft.k S.H.next) (tp.heap (Nat.add 64 ft.ent.nv))
 (match dB_ S.H (m7_ m.ds (p3_ m.rn []))with
   |B=>⟨B.tr,Nat.add S.H.next (Nat.sub tp.next ft.k),B.hi⟩) (cQ_ tp.acc tp.ids)
def exV (ft:FT) (m:MR) (low:List Nat) (S:VS) (tp:Tpl):AV:=dn_ m.hv S.n (rn_ low ft.k S.H.next) (tget (c0_ (Nat.add 64 ft.ent.nv) tp.slots) 0)
def exN (ft:FT) (S:VS) (tp:Tpl):Nat:=Nat.add (Nat.add S.n ft.ent.nv) tp.nv
def rN_ (ft:FT) (m:MR) (low:List Nat) (u:Tm->AV->Tm) (S:VS) (X:VX->VT) (k:VS->VT):List (Bool×Tpl)->VTs
 |[]=>.nil
 |(b,tp)::r=>.cons tp.nv (match b with
  |false=>k ⟨u S.T (exV ft m low S tp),exH ft m low S tp,exN ft S tp,S.lv,S.D⟩
  |true=>X (.pan (exV ft m low S tp) ⟨S.T,exH ft m low S tp,exN ft S tp,S.lv,S.D⟩)) (rN_ ft m low u S X k r)
def lk_ (g:FuncId) (ft:FT) (u:Tm->AV->Tm) (S:VS) (args:List AV) (X:VX->VT) (k:VS->VT):VT:=match kS_ ft.ent ⟨aZ_ args 0 topq,S.H,S.n,S.lv,[]⟩with
 |f=>match gI_ 64 ft.ent f.S.T f.S.H with
  |none=>.bad
  |some m=>match nA_ m ft.k with
   |none=>.bad
   |some low=>match o1_ ft.k (Nat.add 64 ft.ent.nv) f.S.H ft.exs&&(Nat.ble f.S.H.hi top&&(Nat.beq (aY_ args) (aY_ (eH_ ft.ent.slots))&&(iY_ 0 ft.ent.slots&&kU_ f.S.H low)))with
    |true=>kf_ f.l (.callF g ft m.hv S.n (rN_ ft m low u ⟨S.T,f.S.H,S.n,S.lv,S.D⟩ X k ft.exs))
    |false=>.bad
def n1_ (P:Program) (g:FuncId) (ft:FT) (o:Oper) (u:Tm->AV->Tm) (S:VS) (args:List AV) (X:VX->VT) (k:VS->VT):VT:=match f1_ (aZ_ args 0 topq) ft.ent.slots with
 |[]=>lk_ g ft u S args X k
 |l=>match hp_ S l with
  |f=>match (ac_ P o).run f.S.T f.S.H with
   |some r=>match r with
    | .call g' args'=>match Nat.beq g' g with
      |true=>kf_ f.l (lk_ g ft u f.S args' X k)
      |false=>.bad
    |_=>.bad
   |none=>.bad
def INL (P:Program) (Q:AV->Prop) (fc:FcT) (L:List (Nat->List AV->Prop)) (n:Nat) (Y:Sy) (ret pan:AV->AHeap->Nat->Nat->VT) (Y':Sy) (r:FRes):Prop:=
 ∃(n' lv':Nat) (L':List (Nat->List AV->Prop)),L <+: L'/\L'.length=lv'/\n<=n'/\(∀i,i<n->Y'.v i=Y.v i)/\(Fresh Y' n'/\KnownF P fc Y')/\(match r with
  | .ret a H=>VOK P Q L' Y' (ret a H n' lv')
  | .pan a H=>VOK P Q L' Y' (pan a H n' lv'))
structure Inl (P:Program) (fuel:Nat) where
 run:VC->FuncId->List AV->AHeap->Nat->Nat->(AV->AHeap->Nat->Nat->VT)->(AV->AHeap->Nat->Nat->VT)->VT
 ok:∀{c:VC} {g:FuncId} {args:List AV} {H:AHeap} {n lv:Nat} {ret pan:AV->AHeap->Nat->Nat->VT} {Q:AV->Prop} {L:List (Nat->List AV->Prop)} {Y:Sy},P.follows .mixedOrders=true->ao_ P (aO_ P fuel)->L.length=lv->Fresh Y n/\KnownF P c.fc Y->
  VOK P Q L Y (run c g args H n lv ret pan)->SemCallF P H.next Y g args H (INL P Q c.fc L n Y ret pan)
def in0 (P:Program) (fuel:Nat):Inl P fuel:=⟨λ_ _ _ _ _ _ _ _=>.bad,λ_ _ _ _ h=>by grind [VOK]⟩
mutual
def d8_ (k n:Nat):AV->Bool
 | .ptr id _=>Nat.blt id k
 | .sl id _ _ _ _=>Nat.blt id k
 | .map id=>Nat.blt id k
 | .slx id _ i=>Nat.blt id k&&Nat.blt i n
 | .ptx id j _ _=>Nat.blt id k&&Nat.blt j n
 | .sym i=>Nat.blt i n
 | .vptr cs=>eu_ k n cs
 | .vsl _ _ cs=>eu_ k n cs
 | .fn _ cs=>eu_ k n cs
 | .iface _ a=>d8_ k n a
 | .agg cs=>eu_ k n cs
 | .tup cs=>eu_ k n cs
 |_=>true
def eu_ (k n:Nat):List AV->Bool
 |[]=>true
 |a::r=>d8_ k n a&&eu_ k n r
end
def bH_ (k n:Nat) (a:AV):AV:=match d8_ k n a with
 |true=>a
 |false=>.opq
def oB_ (k n:Nat):Dfs->Bool
 |[]=>true
 |(_,args)::r=>eu_ k n args&&oB_ k n r
def ll_ (P:Program) {fuel:Nat} (I:Inl P fuel) (c:VC) (o:Oper) (u:Tm->AV->Tm) (S:VS) (X:VX->VT) (k:VS->VT):VT:=match oB_ S.H.next S.n S.D&&Nat.ble c.k S.H.next with
 |false=>.bad
 |true=>match bd_ (bH_ S.H.next S.n) S.T with
  |T1=>match (ac_ P o).run T1 S.H with
   |some r=>match r with
    | .call g args=>I.run c g args S.H S.n S.lv
      (λa H n lv=>match Nat.beq lv S.lv with
       |true=>k ⟨u T1 a,H,n,lv,S.D⟩
       |false=>.bad)
      (λa H n lv=>match Nat.beq lv S.lv with
       |true=>X (.pan a ⟨T1,H,n,lv,S.D⟩)
       |false=>.bad)
    |_=>.bad
   |none=>.bad
def rG_ (P:Program) (fuel:Nat) (I:Inl P fuel) (c:VC) (o:Oper) (u:Tm->AV->Tm) (S:VS) (g:FuncId) (args:List AV) (X:VX->VT) (k:VS->VT):VT:=match tw_ c.fs g with
 |some ft=>n1_ P g ft o u S args X k
 |none=>match tN_ c.cs g with
  |some sh=>match ad_ args with
   |true=>.call g args S.n sh (k ⟨u S.T (c7_ S.n sh),S.H,Nat.add S.n (dj_ sh),S.lv,S.D⟩)
   |false=>match (ac_ P o).run (dr_ S args).T (dr_ S args).H with
    |some r=>match r with
     | .call g' args'=>match Nat.beq g' g&&ad_ args' with
       |true=>.call g args' S.n sh (k ⟨u (dr_ S args).T (c7_ S.n sh),(dr_ S args).H,Nat.add S.n (dj_ sh),S.lv,S.D⟩)
       |false=>.bad
     |_=>.bad
    |none=>.bad
  |none=>match aO_ P fuel g args S.H with
   |some r=>match r with
    | .ret a H'=>k ⟨u S.T a,H',S.n,S.lv,S.D⟩
    | .pan _ _=>ll_ P I c o u S X k
   |none=>ll_ P I c o u S X k
def sU_ (P:Program) (c:VC) (u:Tm->AV->Tm) (S:VS) (k:VS->VT) (op:XOp) (args:List AV):VT:=match j0_ P op with
 |none=>match jM_ c.fc.b op args with
  |some v=>k ⟨u S.T v,S.H,S.n,S.lv,S.D⟩
  |none=>.lt op args S.n none (k ⟨u S.T (.sym S.n),S.H,Nat.succ S.n,S.lv,S.D⟩)
 |some m=>.lt op args S.n (some m) (k ⟨u S.T (.agg (ae_ S.n m)),S.H,Nat.add S.n m,S.lv,S.D⟩)
def tW_ (P:Program) (c:VC) (o:Oper) (u:Tm->AV->Tm) (S:VS) (k:VS->VT):Option VT:=match c.own with
 |false=>none
 |true=>match rg_ P S.T o with
  |some a=>some (k ⟨u S.T a,S.H,S.n,S.lv,S.D⟩)
  |none=>match pL_ P S.T o with
   |some (op,args,id,sz)=>some (.lt op args S.n none (k ⟨u S.T (.ptx id S.n sz 0),S.H,Nat.succ S.n,S.lv,S.D⟩))
   |none=>match ldX S.T S.H o with
    |some (op,args)=>match j0_ P op with
     |none=>some (.lt op args S.n none (k ⟨u S.T (.sym S.n),S.H,Nat.succ S.n,S.lv,S.D⟩))
     |some m=>some (.lt op args S.n (some m) (k ⟨u S.T (.agg (ae_ S.n m)),S.H,Nat.add S.n m,S.lv,S.D⟩))
    |none=>match stX S.T S.H o with
     |some (op,args,id)=>some (.lt op args S.n none (k ⟨u S.T (.tup []),S.H.set id (.syl S.n),Nat.succ S.n,S.lv,S.D⟩))
     |none=>match tkX P S.T S.H o with
        |some (op,args,id,sz)=>some (.lt op args S.n none (k ⟨u S.T (.slx id sz S.n),S.H.set id (.syl S.n),Nat.succ S.n,S.lv,S.D⟩))
        |none=>none
def rS_ (P:Program) (fuel:Nat) (I:Inl P fuel) (c:VC) (o:Oper) (u:Tm->AV->Tm) (S:VS) (X:VX->VT) (k:VS->VT):VT:=match (ac_ P o).run S.T S.H with
 |some r=>match r with
  | .val a H'=>k ⟨u S.T a,H',S.n,S.lv,S.D⟩
  | .call g args=>rG_ P fuel I c o u S g args X k
  | .dfr g args=>k ⟨u S.T (.tup []),S.H,S.n,S.lv,(g,args)::S.D⟩
  | .pan v=>X (.pan v S)
  |_=>.bad
 |none=>match f7_ o S.T with
  |some (i,a,b)=>.ite i (k ⟨u (S.know i true).T (look (S.know i true).T a),S.H,S.n,S.lv,S.D⟩) (k ⟨u (S.know i false).T (look (S.know i false).T b),S.H,S.n,S.lv,S.D⟩)
  |none=>match ob_ c.fc.x S.T o with
   |some v=>k ⟨u S.T v,S.H,S.n,S.lv,S.D⟩
   |none=>match tW_ P c o u S k with
    |some t=>t
    |none=>match qj_ P S o with
    |some (id,sz,op,args)=>.lt op args S.n none (k ⟨u S.T (.slx S.H.next sz S.n),(S.H.erase id).push (.syl S.n),Nat.succ S.n,S.lv,S.D⟩)
    |none=>match m9_ P S o with
    |some (id,sz,op,args)=>.lt op args S.n none (k ⟨u S.T (.slx S.H.next sz S.n),(S.H.erase id).push (.syl S.n),Nat.succ S.n,S.lv,S.D⟩)
    |none=>match ny_ S.T o with
     |some (op,args)=>.lt op args S.n none (k ⟨u S.T (.sym S.n),S.H,Nat.succ S.n,S.lv,S.D⟩)
     |none=>match q5_ P S o with
     |some (id,op,args)=>.lt op args S.n none (k ⟨u S.T (.tup []),S.H.set id (.mpl S.n),Nat.succ S.n,S.lv,S.D⟩)
     |none=>match q1_ S.T S.H o with
     |some (op,args)=>match nu_ P o with
      |true=>.lt op args S.n none (k ⟨u S.T (.sym S.n),S.H,Nat.succ S.n,S.lv,S.D⟩)
      |false=>.bad
     |none=>match jH_ S.T S.H o with
     |some (op,args)=>.lt op args S.n none (k ⟨u S.T (.sym S.n),S.H,Nat.succ S.n,S.lv,S.D⟩)
     |none=>match mgX S.T S.H o with
     |some (op,args)=>.lt op args S.n none (k ⟨u S.T (.sym S.n),S.H,Nat.succ S.n,S.lv,S.D⟩)
     |none=>match tv_ P S.T o with
     |some (op,args)=>.lt op args S.n none (k ⟨u S.T (.sym S.n),S.H,Nat.succ S.n,S.lv,S.D⟩)
     |none=>match cs_ S.T o with
      |some (op,args)=>match ad_ args with
       |true=>sU_ P c u S k op args
       |false=>match cs_ (dr_ S args).T o with
        |some (op',args')=>match ad_ args' with
         |true=>sU_ P c u (dr_ S args) k op' args'
         |false=>.bad
        |none=>.bad
      |none=>.bad
def rP_ (all:List Oper) (o:Oper) (T:Tm):Option Bool:=match aT_ all o with
 | .always=>some true
 | .mk g=>g T
def vOp (P:Program) (fuel:Nat) (I:Inl P fuel) (c:VC) (all:List Oper) (o:Oper) (u:Tm->AV->Tm) (X:VX->VT) (next:VS->VT) (S:VS):VT:=match rP_ all o S.T with
 |some t=>match t with
  |false=>next ⟨u S.T (.tup []),S.H,S.n,S.lv,S.D⟩
  |true=>rS_ P fuel I c o u S X next
 |none=>.bad
def rj_ (T:Tm):List (Nat×Operand)->List AV
 |[]=>[]
 |(_,x)::r=>match look T x with
  | .slx id z i=>.slx id z i::rj_ T r
  |_=>rj_ T r
def mz_:List AV->List AV
 |[]=>[]
 |a::r=>match a with
  | .slx id z i=>.slx id z i::mz_ r
  | .sl id o l z c=>.sl id o l z c::mz_ r
  |_=>mz_ r
def mA_ (T:Tm):List (Nat×Operand)->List AV
 |[]=>[]
 |(_,x)::r=>match look T x with
  | .slx id z i=>.slx id z i::mA_ T r
  | .sl id o l z c=>.sl id o l z c::mA_ T r
  | .agg cs=>je_ (mz_ cs) (mA_ T r)
  |_=>mA_ T r
def np_ (own:Bool) (o:Oper) (S:VS):VS:=match o.op with
 | .buildSlice _ _ ps=>match (match own with
   |true=>mA_ S.T ps.toList
   |false=>rj_ S.T ps.toList)with
   |[]=>S
   |a=>dr_ S a
 | .call c=>match own with
   |false=>S
   |true=>match c.callee with
    | .builtin b=>match b with
      | .append=>match c.args.toList with
        |[_,x]=>match look S.T x with
         | .sl id _ _ _ _=>match S.H.get id with
          |some (.cells cs)=>match mz_ cs with
           |[]=>S
           |a=>tm_ S a id
          |_=>S
         |_=>S
        |_=>S
      |_=>S
    |_=>S
 |_=>S
def ln_ (P:Program) (N fuel:Nat) (I:Inl P fuel) (c:VC) (all:List Oper) (X:VX->VT):List Oper->VS->(VS->VT)->VT
 |[],S,K=>K S
 |o::r,S,K=>match bJ_ N o.dst with
  | .bad=>.bad
  | .mk u=>match ig_ all o S.T with
    |some i=>.ite i (vOp P fuel I c all o u X (λS=>ln_ P N fuel I c all X r S K) (S.know i true)) (vOp P fuel I c all o u X (λS=>ln_ P N fuel I c all X r S K) (S.know i false))
    |none=>vOp P fuel I c all o u X (λS=>ln_ P N fuel I c all X r S K) (np_ c.own o S)
def isM (x:SI):Bool:=match x.o.op with
 | .alloc _=>true
 | .box _ _=>true
 | .buildSlice _ _ _=>true
 |_=>false
inductive Tch where
 |none
 |one (id:Nat)
 |all
def gZ_ (x:SI) (R:Tm):Tch:=match x.o.op with
 | .call c=>match jW_ x with
   |false=>.all
   |true=>match c.args.toList with
    |s::r=>match look R s with
     | .slx id _ _=>.one id
     | .sym _=>.none
     | .sl id _ _ _ _=>.one id
     | .vsl n _ _=>match n with
       |0=>match r with
        |y::_=>match look R y with
          | .sym _=>.none
          |_=>.all
        |[]=>.all
       |_+1=>.all
     |_=>.all
    |[]=>.all
 |_=>.all
def hW_ (x:SI) (R:Tm):Bool:=match jW_ x with
 |false=>false
 |true=>match gZ_ x R with
  | .all=>false
  |_=>true
def bS_ (x:SI) (R:Tm):Tch:=match isM x with
 |true=>.none
 |false=>match x.o.op with
  | .store _ a _=>match look R a with
    | .ptr id _=>.one id
    | .ptx id _ _ _=>.one id
    |_=>.all
  |_=>gZ_ x R
def apart (t:Tch) (ids:List Nat):Bool:=match t with
 | .none=>true
 | .one id=>not (memT id ids)
 | .all=>match ids with
   |[]=>true
   |_::_=>false
structure GW where
 i:Nat
 H:AHeap
 t:Tch
def mu_ (bef:Nat) (H:AHeap):List GW->AHeap
 |[]=>H
 |g::r=>match bit bef g.i with
  |true=>H
  |false=>mu_ bef g.H r
def rc_ (bef:Nat) (ids:List Nat):List GW->Bool
 |[]=>true
 |g::r=>match bit bef g.i with
  |true=>true
  |false=>apart g.t ids&&rc_ bef ids r
def sw_ (bef:Nat) (t:Tch):List (Nat×List Nat)->Bool
 |[]=>true
 |(i,ids)::r=>(bit bef i||apart t ids)&&sw_ bef t r
def c3_ (H:AHeap):List Nat->AHeap
 |[]=>⟨hnil,0,0⟩
 |id::r=>match H.get id with
  |some b=>(c3_ H r).set id b
  |none=>c3_ H r
def uo_ (a:AV) (acc:List Nat):List Nat:=match a with
 | .ptr id _=>id::acc
 | .sl id _ _ _ _=>id::acc
 | .map id=>id::acc
 | .ptx id _ _ _=>id::acc
 |_=>acc
def s9_ (T:Tm):List Nat->List Nat
 |[]=>[]
 |t::r=>uo_ (tget T t) (s9_ T r)
def f2_ (x:SI) (T:Tm):List Nat:=match u3_ x with
 |true=>[]
 |false=>s9_ T x.rd
def gz_ (x:SI) (S:VS) (gs:List GW):AHeap:=c3_ (mu_ x.bef S.H gs) (f2_ x S.T)
def oQ_ (x:SI) (i:Nat) (y:SI):Bool:=match isW x&&isW y with
 |true=>bit y.bef i
 |false=>true
def nG_ (x:SI) (i:Nat):List SI->Bool
 |[]=>true
 |y::r=>oQ_ x i y&&nG_ x i r
def k4_:List SI->Nat->Bool
 |[],_=>true
 |x::r,i=>nG_ x i r&&k4_ r (Nat.succ i)
def qM_ (x:SI):Nat->Bool
 |0=>true
 |n+1=>bit x.bef n&&qM_ x n
def rC_ (x:SI) (i n:Nat):Nat:=match Nat.beq n (Nat.succ i)&&qM_ x i with
 |true=>i
 |false=>n
def c8_:List SI->Nat->Nat
 |[],i=>i
 |x::r,i=>rC_ x i (c8_ r (Nat.succ i))
def d9_:Nat->List SI->List SI
 |0,_=>[]
 |_+1,[]=>[]
 |n+1,x::r=>x::d9_ n r
def oi_:Nat->List Oper->List Oper
 |0,l=>l
 |_+1,[]=>[]
 |n+1,_::r=>oi_ n r
def pd_ (P:Program) (x:SI) (Hx:AHeap) (u:Tm->AV->Tm) (S:VS) (k:VS->VT):VT:=match b7_ (ac_ P x.o) (as_ S.T x.rd topq) Hx with
 |some q=>k ⟨u S.T q,S.H,S.n,S.lv,S.D⟩
 |none=>.bad
def rI_ (u:Tm->AV->Tm) (S:VS) (k:VS->VT) (R:Tm) (o:Oper) (id sz:Nat) (op:XOp) (args:List AV):VT:=match aE_ S.n args with
 |true=>match S.H.get S.H.next with
  |none=>match fm_ args with
   |true=>.lt op args S.n none (k ⟨u S.T (.slx S.H.next sz S.n),(S.H.erase id).push (.syl S.n),Nat.succ S.n,S.lv,S.D⟩)
   |false=>match cR_ args with
    |some i=>.lt .emp [.sym i] S.n none (.ite S.n (k ⟨u S.T (lM_ R o),S.H,Nat.succ S.n,S.lv,S.D⟩)
     (.lt op args (Nat.succ S.n) none (k ⟨u S.T (.slx S.H.next sz (Nat.succ S.n)),(S.H.erase id).push (.syl (Nat.succ S.n)),Nat.succ (Nat.succ S.n),S.lv,S.D⟩)))
    |none=>.bad
  |some _=>.bad
 |false=>.bad
def mV_ (P:Program) (x:SI) (u:Tm->AV->Tm) (S:VS) (k:VS->VT):VT:=match jW_ x with
 |false=>.bad
 |true=>match fJ_ P (as_ S.T x.rd topq) S.H x.o with
  |some (id,sz,op,args)=>match aE_ S.n args with
   |true=>match S.H.get S.H.next with
    |none=>match fm_ args with
     |true=>.lt op args S.n none (k ⟨u S.T (.slx S.H.next sz S.n),(S.H.erase id).push (.syl S.n),Nat.succ S.n,S.lv,S.D⟩)
     |false=>match cR_ args with
        |some i=>.chk (.pos i) (.lt op args S.n none (k ⟨u S.T (.slx S.H.next sz S.n),(S.H.erase id).push (.syl S.n),Nat.succ S.n,S.lv,S.D⟩))
        |none=>.bad
    |some _=>.bad
   |false=>.bad
  |none=>match cv_ P (as_ S.T x.rd topq) S.H x.o with
   |some (id,sz,op,args)=>rI_ u S k (as_ S.T x.rd topq) x.o id sz op args
   |none=>match cs_ (as_ S.T x.rd topq) x.o with
    |some (op,args)=>match ad_ args&&aE_ S.n args with
     |true=>match j0_ P op with
      |none=>.lt op args S.n none (k ⟨u S.T (.sym S.n),S.H,Nat.succ S.n,S.lv,S.D⟩)
      |some _=>.bad
     |false=>.bad
    |none=>.bad
def vDW (P:Program) (c:VC) (x:SI) (u:Tm->AV->Tm) (S:VS) (k:VS->VT):VT:=match (ac_ P x.o).run (as_ S.T x.rd topq) S.H with
 |some r=>match r with
  | .val a H'=>match isM x with
    |true=>match S.H.get S.H.next with
     |none=>k ⟨u S.T a,H',S.n,S.lv,S.D⟩
     |some _=>.bad
    |false=>match hW_ x (as_ S.T x.rd topq)with
     |true=>mV_ P x u S k
     |false=>k ⟨u S.T a,H',S.n,S.lv,S.D⟩
  |_=>.bad
 |none=>match c.own with
  |false=>mV_ P x u S k
  |true=>match stX (as_ S.T x.rd topq) S.H x.o with
   |some (op,args,id)=>match aE_ S.n args&&not (isM x)with
    |true=>.lt op args S.n none (k ⟨u S.T (.tup []),S.H.set id (.syl S.n),Nat.succ S.n,S.lv,S.D⟩)
    |false=>.bad
   |none=>mV_ P x u S k
def tl_ (P:Program) (c:VC) (R:Tm) (Hx:AHeap) (o:Oper) (u:Tm->AV->Tm) (S:VS) (k:VS->VT):Option VT:=match c.own with
 |false=>none
 |true=>match rg_ P R o with
  |some a=>some (k ⟨u S.T a,S.H,S.n,S.lv,S.D⟩)
  |none=>match pL_ P R o with
   |some (op,args,id,sz)=>match aE_ S.n args with
    |true=>some (.lt op args S.n none (k ⟨u S.T (.ptx id S.n sz 0),S.H,Nat.succ S.n,S.lv,S.D⟩))
    |false=>none
   |none=>match ldX R Hx o with
    |some (op,args)=>match aE_ S.n args with
     |true=>match j0_ P op with
        |none=>some (.lt op args S.n none (k ⟨u S.T (.sym S.n),S.H,Nat.succ S.n,S.lv,S.D⟩))
        |some m=>some (.lt op args S.n (some m) (k ⟨u S.T (.agg (ae_ S.n m)),S.H,Nat.add S.n m,S.lv,S.D⟩))
     |false=>none
    |none=>match ny_ R o with
     |some (op,args)=>match aE_ S.n args with
        |true=>some (.lt op args S.n none (k ⟨u S.T (.sym S.n),S.H,Nat.succ S.n,S.lv,S.D⟩))
        |false=>none
     |none=>none
def nd_ (P:Program) (R:Tm) (o:Oper):Option AV:=match o.op with
 | .buildSlice t n ps=>match bo_ P ⟨hnil,0,1⟩ t n (do_ (look R) ps.toList)with
   |some r=>match r.1 with
    | .sl _ _ len sz _=>match r.2.get 0 with
      |some (.cells cs)=>match ad_ cs with
       |true=>some (.vsl len sz cs)
       |false=>none
      |_=>none
    |_=>none
   |none=>none
 |_=>none
def uF_ (P:Program) (x:SI) (u:Tm->AV->Tm) (S:VS) (k:VS->VT):VT:=match nd_ P (as_ S.T x.rd topq) x.o with
 |some q=>k ⟨u S.T q,S.H,S.n,S.lv,S.D⟩
 |none=>.bad
def rJ_ (P:Program) (c:VC) (x:SI) (Hx:AHeap) (u:Tm->AV->Tm) (S:VS) (k:VS->VT):VT:=match b7_ (ac_ P x.o) (as_ S.T x.rd topq) Hx with
 |some q=>k ⟨u S.T q,S.H,S.n,S.lv,S.D⟩
 |none=>match tl_ P c (as_ S.T x.rd topq) Hx x.o u S k with
 |some t=>t
 |none=>match (ac_ P x.o).run (as_ S.T x.rd topq) Hx with
  |some r=>match r with
   | .call g args=>match tN_ c.cs g with
     |some sh=>match ad_ args&&aE_ S.n args with
      |true=>.call g args S.n sh (k ⟨u S.T (c7_ S.n sh),S.H,Nat.add S.n (dj_ sh),S.lv,S.D⟩)
      |false=>.bad
     |none=>.bad
   |_=>.bad
  |none=>match f7_ x.o S.T with
   |some (i,_,_)=>.ite i (pd_ P x Hx u (S.know i true) k) (pd_ P x Hx u (S.know i false) k)
   |none=>match jH_ (as_ S.T x.rd topq) Hx x.o with
    |some (op,args)=>match aE_ S.n args with
     |true=>.lt op args S.n none (k ⟨u S.T (.sym S.n),S.H,Nat.succ S.n,S.lv,S.D⟩)
     |false=>.bad
    |none=>match cs_ (as_ S.T x.rd topq) x.o with
     |some (op,args)=>match ad_ args&&aE_ S.n args with
      |true=>match j0_ P op with
        |none=>.lt op args S.n none (k ⟨u S.T (.sym S.n),S.H,Nat.succ S.n,S.lv,S.D⟩)
        |some m=>.lt op args S.n (some m) (k ⟨u S.T (.agg (ae_ S.n m)),S.H,Nat.add S.n m,S.lv,S.D⟩)
      |false=>.bad
     |none=>.bad
def ju_ (P:Program) (x:SI) (nx:Nat):Option (AV×ABlk):=match x.o.op with
 | .alloc t=>match eU_ P ⟨hnil,nx,Nat.succ nx⟩ t with
   |some p=>match p.2.get nx with
    |some k=>some (p.1,k)
    |none=>none
   |none=>none
 |_=>none
def hU_ (P:Program):List SI->AHeap->Option AHeap
 |[],H=>some H
 |x::r,H=>match cb_ x with
  |false=>hU_ P r H
  |true=>match H.get H.next with
   |some _=>none
   |none=>match H.room with
    |false=>none
    |true=>match ju_ P x H.next with
     |some p=>hU_ P r (H.push p.2)
     |none=>none
def jt_ (bef:Nat) (ids:List Nat):List SI->Nat->Nat->Bool
 |[],_,_=>true
 |y::r,i,nx=>match cb_ y with
  |false=>jt_ bef ids r (Nat.succ i) nx
  |true=>(bit bef i||not (memT nx ids))&&jt_ bef ids r (Nat.succ i) (Nat.succ nx)
def js_ (bef:Nat):List SI->Nat->Bool
 |[],_=>true
 |y::r,i=>match cb_ y with
  |false=>js_ bef r (Nat.succ i)
  |true=>bit bef i&&js_ bef r (Nat.succ i)
def jv_ (l0:List SI):List SI->Bool
 |[]=>true
 |x::r=>match isW x with
  |false=>jv_ l0 r
  |true=>js_ x.bef l0 0&&jv_ l0 r
def ex_ (x:SI) (nx:Nat):Nat:=match cb_ x with
 |true=>Nat.succ nx
 |false=>nx
def p9_ (P:Program) (c:VC) (all:List Oper) (l0:List SI) (n0 nx:Nat) (x:SI) (gs:List GW) (ps:List (Nat×List Nat)) (u:Tm->AV->Tm) (next:VS->VT) (S:VS):VT:=match aI_ all x (as_ S.T x.rd topq)with
 |some t=>match t with
  |false=>next ⟨u S.T (.tup []),S.H,S.n,S.lv,S.D⟩
  |true=>match cb_ x with
   |true=>match ju_ P x nx with
    |some p=>next ⟨u S.T p.1,S.H,S.n,S.lv,S.D⟩
    |none=>.bad
   |false=>match isW x with
    |true=>match sw_ x.bef (bS_ x (as_ S.T x.rd topq)) ps with
     |true=>vDW P c x u S next
     |false=>.bad
    |false=>match rc_ x.bef (f2_ x S.T) gs&&jt_ x.bef (f2_ x S.T) l0 0 n0 with
     |true=>match x.fz with
      |true=>uF_ P x u S next
      |false=>rJ_ P c x (gz_ x S gs) u S next
     |false=>.bad
 |none=>.bad
def if_ (x:SI) (i:Nat) (S:VS) (gs:List GW):List GW:=match isW x with
 |true=>⟨i,S.H,bS_ x (as_ S.T x.rd topq)⟩::gs
 |false=>gs
def iM_ (x:SI) (i:Nat) (S:VS) (ps:List (Nat×List Nat)):List (Nat×List Nat):=match isW x with
 |true=>ps
 |false=>(i,f2_ x S.T)::ps
def i7_ (P:Program) (N:Nat) (c:VC) (all:List Oper) (l0:List SI) (n0:Nat):List SI->Nat->Nat->List GW->List (Nat×List Nat)->VS->(VS->VT)->VT
 |[],_,_,_,_,S,K=>K S
 |x::r,i,nx,gs,ps,S,K=>match bJ_ N x.o.dst with
  | .bad=>.bad
  | .mk u=>match ig_ all x.o S.T with
    |some k=>.ite k (p9_ P c all l0 n0 nx x gs ps u (λS'=>i7_ P N c all l0 n0 r (Nat.succ i) (ex_ x nx) (if_ x i (S.know k true) gs) (iM_ x i (S.know k true) ps) S' K) (S.know k true)) (p9_ P c all l0 n0 nx x gs ps u (λS'=>i7_ P N c all l0 n0 r (Nat.succ i) (ex_ x nx) (if_ x i (S.know k false) gs) (iM_ x i (S.know k false) ps) S' K) (S.know k false))
    |none=>p9_ P c all l0 n0 nx x gs ps u (λS'=>i7_ P N c all l0 n0 r (Nat.succ i) (ex_ x nx) (if_ x i S gs) (iM_ x i S ps) S' K) S
def mX_ (P:Program) (N fuel:Nat) (I:Inl P fuel) (c:VC) (ops:List Oper) (S:VS) (X:VX->VT) (K:VS->VT):VT:=match nM_ ops with
 | .mk l _=>match c8_ l 0 with
   |b=>match k4_ (d9_ b l) 0&&jv_ (d9_ b l) (d9_ b l)with
    |true=>match hU_ P (d9_ b l) S.H with
     |some H=>i7_ P N c ops (d9_ b l) S.H.next (d9_ b l) 0 S.H.next [] [] ⟨S.T,H,S.n,S.lv,S.D⟩ λS=>ln_ P N fuel I c ops X (oi_ b ops) S K
     |none=>.bad
    |false=>.bad
 | .no=>.bad
def isF (c:VC) (o:Oper):Bool:=match o.op with
 | .call cl=>match cl.callee with
   | .value f=>match f with
     | .func g=>match tw_ c.fs g with
       |some _=>true
       |none=>false
     |_=>false
   |_=>false
 |_=>false
def un_ (c:VC):List Oper->Bool
 |[]=>false
 |o::r=>match isF c o with
  |true=>true
  |false=>un_ c r
def mw_ (m:Nat):List Edge->Bool
 |[]=>true
 |e::r=>match dH_ e with
  |true=>bit m e.on&&mw_ m r
  |false=>mw_ m r
structure I_q where
 i:Nat
 o:Oper
def iO_ (m:Nat):List Oper->Nat->List I_q
 |[],_=>[]
 |o::r,i=>match not (bit m i)&&mw_ m o.after.toList with
  |true=>⟨i,o⟩::iO_ m r (Nat.succ i)
  |false=>iO_ m r (Nat.succ i)
def mF_ (m i:Nat):Nat:=Nat.lor m (Nat.pow 2 i)
def sd_ (i:Nat):List Edge->Bool
 |[]=>false
 |e::r=>match dH_ e&&Nat.beq e.on i with
  |true=>true
  |false=>sd_ i r
def apartB (all:List Oper) (x y:Oper):Bool:=(match x.dst with
    |some d=>not (memT d (cK_ all y))&&(match y.dst with
     |some e=>not (Nat.beq d e)
     |none=>true)
    |none=>true)&&(match y.dst with
    |some e=>not (memT e (cK_ all x))
    |none=>true)
def ox_ (all:List Oper) (m i:Nat) (x:Oper):List Oper->Nat->Bool
 |[],_=>true
 |y::r,j=>(Nat.beq j i||(bit m j||(sd_ i y.after.toList||apartB all x y)))&&ox_ all m i x r (Nat.succ j)
def mo_:List Oper->Bool
 |[]=>true
 |o::r=>match o.op with
  | .select _ _=>false
  |_=>mo_ r
def oM_ (P:Program) (T:Tm) (o:Oper):Option AV:=match o.guard with
 |some _=>none
 |none=>match o.op with
  | .move x=>some (look T x)
  | .nilCheck x=>match look T x with
    | .ptr id off=>some (.ptr id off)
    |_=>none
  | .fieldAddr s x f=>match look T x with
    | .ptr id off=>bP_ P s (.ptr id off) f
    |_=>none
  | .extract x i=>match look T x with
    | .tup cs=>nF_ i cs
    |_=>none
  |_=>none
structure MV where
 x:I_q
 a:AV
def iK_ (P:Program) (all:List Oper) (m:Nat) (T:Tm):List I_q->Option MV
 |[]=>none
 |x::r=>match oM_ P T x.o with
  |some a=>match ox_ all m x.i x.o all 0 with
   |true=>some ⟨x,a⟩
   |false=>iK_ P all m T r
  |none=>iK_ P all m T r
def qE_:List (Nat×AV)->List (Nat×AV)->Bool
 |[],[]=>true
 |(i,a)::r,(j,b)::s=>Nat.beq i j&&(bI_ a b&&qE_ r s)
 |_,_=>false
def qF_:List (Nat×List AV)->List (Nat×List AV)->Bool
 |[],[]=>true
 |(i,a)::r,(j,b)::s=>Nat.beq i j&&(ds_ a b&&qF_ r s)
 |_,_=>false
def nh_:Option Nat->Option Nat->Bool
 |none,none=>true
 |some a,some b=>Nat.beq a b
 |_,_=>false
def qD_:List (Option Nat)->List (Option Nat)->Bool
 |[],[]=>true
 |a::r,b::s=>nh_ a b&&qD_ r s
 |_,_=>false
def ps_:List (Nat×Nat)->List (Nat×Nat)->Bool
 |[],[]=>true
 |(i,a)::r,(j,b)::s=>Nat.beq i j&&(Nat.beq a b&&ps_ r s)
 |_,_=>false
def lP_:List TA->List TA->Bool
 |[],[]=>true
 |⟨a,b,c,d,e⟩::r,⟨a',b',c',d',e'⟩::s=>Nat.beq a a'&&(Nat.beq b b'&&(Nat.beq c c'&&(Nat.beq d d'&&(nh_ e e'&&lP_ r s))))
 |_,_=>false
def oq_:Tpl->Tpl->Bool
 |⟨a,b,c,d,e,f,g⟩,⟨a',b',c',d',e',f',g'⟩=>qE_ a a'&&(qF_ b b'&&(Nat.beq c c'&&(Nat.beq d d'&&(lP_ e e'&&(ps_ f f'&&ps_ g g')))))
def qB_:List (Bool×Tpl)->List (Bool×Tpl)->Bool
 |[],[]=>true
 |(i,a)::r,(j,b)::s=>i==j&&(oq_ a b&&qB_ r s)
 |_,_=>false
def um_:FT->FT->Bool
 |⟨a,b,c⟩,⟨a',b',c'⟩=>Nat.beq a a'&&(oq_ b b'&&qB_ c c')
def tu_:XOp->XOp->Bool
 | .bin o t a b,.bin o' t' a' b'=>decide (o=o')&&(Nat.beq t t'&&(a==a'&&b==b'))
 | .un o,.un o'=>decide (o=o')
 | .conv a b,.conv a' b'=>Nat.beq a a'&&Nat.beq b b'
 | .idx a,.idx a'=>Nat.beq a a'
 | .iaddr a,.iaddr a'=>Nat.beq a a'
 | .faddr a b,.faddr a' b'=>Nat.beq a a'&&Nat.beq b b'
 | .load a,.load a'=>Nat.beq a a'
 | .fld a b,.fld a' b'=>Nat.beq a a'&&Nat.beq b b'
 | .slc t a b,.slc t' a' b'=>Nat.beq t t'&&(a==a'&&b==b')
 | .len a,.len a'=>Nat.beq a a'
 | .nilc,.nilc=>true
 | .app a b,.app a' b'=>Nat.beq a a'&&Nat.beq b b'
 | .mm a,.mm a'=>a==a'
 | .ext a,.ext a'=>Nat.beq a a'
 | .inb,.inb=>true
 | .ldx a b c,.ldx a' b' c'=>Nat.beq a a'&&(Nat.beq b b'&&Nat.beq c c')
 | .stx a b c,.stx a' b' c'=>Nat.beq a a'&&(Nat.beq b b'&&Nat.beq c c')
 | .tkx,.tkx=>true
 | .emp,.emp=>true
 | .mkx a b c,.mkx a' b' c'=>Nat.beq a a'&&(Nat.beq b b'&&ds_ c c')
 | .skx,.skx=>true
 | .flat a b c d,.flat a' b' c' d'=>Nat.beq a a'&&(Nat.beq b b'&&(Nat.beq c c'&&Nat.beq d d'))
 | .opn a b,.opn a' b'=>Nat.beq a a'&&Nat.beq b b'
 |_,_=>false
def qz_:Chk->Chk->Bool
 | .same i j,.same i' j'=>Nat.beq i i'&&Nat.beq j j'
 | .nn i,.nn i'=>Nat.beq i i'
 | .pos i,.pos i'=>Nat.beq i i'
 |_,_=>false
mutual
def du_:VT->VT->Bool
 | .done v,.done w=>bI_ v w
 | .ite i a b,.ite i' a' b'=>Nat.beq i i'&&(du_ a a'&&du_ b b')
 | .lt o l n m t,.lt o' l' n' m' t'=>tu_ o o'&&(ds_ l l'&&(Nat.beq n n'&&(nh_ m m'&&du_ t t')))
 | .call f l n sh t,.call f' l' n' sh' t'=>Nat.beq f f'&&(ds_ l l'&&(Nat.beq n n'&&(qD_ sh sh'&&du_ t t')))
 | .loop n j hv bs,.loop n' j' hv' bs'=>Nat.beq n n'&&(Nat.beq j j'&&(ds_ hv hv'&&jL_ bs bs'))
 | .again l j hv,.again l' j' hv'=>Nat.beq l l'&&(Nat.beq j j'&&ds_ hv hv')
 | .chk c t,.chk c' t'=>qz_ c c'&&du_ t t'
 | .callF f ft hv n bs,.callF f' ft' hv' n' bs'=>Nat.beq f f'&&(um_ ft ft'&&(ds_ hv hv'&&(Nat.beq n n'&&jL_ bs bs')))
 | .both a b,.both a' b'=>du_ a a'&&du_ b b'
 |_,_=>false
def jL_:VTs->VTs->Bool
 | .nil,.nil=>true
 | .cons n t r,.cons n' t' r'=>Nat.beq n n'&&(du_ t t'&&jL_ r r')
 |_,_=>false
end
def nD_ (a b:VT):VT:=match du_ a b with
 |true=>a
 |false=>.both a b
def oa_ (f:I_q->VT) (x:I_q):List I_q->VT
 |[]=>f x
 |y::r=>nD_ (f x) (oa_ f y r)
def n0_ (P:Program) (N fuel:Nat) (I:Inl P fuel) (c:VC) (all:List Oper) (X:VX->VT) (K:VS->VT):Nat->Nat->VS->VT
 |0,_,_=>.bad
 |n+1,m,S=>match iO_ m all 0 with
  |[]=>K S
  |x::r=>match iK_ P all m S.T (x::r)with
   |some q=>match bJ_ N q.x.o.dst with
    | .mk u=>n0_ P N fuel I c all X K n (mF_ m q.x.i) ⟨u S.T q.a,S.H,S.n,S.lv,S.D⟩
    | .bad=>.bad
   |none=>oa_ (λx=>ln_ P N fuel I c all X [x.o] S λS'=>n0_ P N fuel I c all X K n (mF_ m x.i) S') x r
def eh_:List Oper->Tm->Tm
 |[],T=>T
 |o::r,T=>match o.dst with
  |some d=>eh_ r (fc_ T d .opq)
  |none=>eh_ r T
def jC_ (ops:List Oper) (X:VX->VT) (r:VX):VT:=match r with
 | .pan v S=>X (.pan v ⟨eh_ ops S.T,S.H,S.n,S.lv,S.D⟩)
 | .exit i S=>X (.exit i S)
 | .ret S=>X (.ret S)
def se_ (N:Nat):List Oper->Bool
 |[]=>true
 |o::r=>(match o.dst with
  |some d=>Nat.blt d N
  |none=>true)&&se_ N r
def sZ_ (c:VC):Nat->List SI->Bool
 |0,_=>false
 |_+1,[]=>false
 |n+1,x::r=>match isF c x.o with
  |true=>true
  |false=>sZ_ c n r
def uY_ (c:VC) (ops:List Oper):Bool:=match nM_ ops with
 | .mk l _=>sZ_ c (c8_ l 0) l
 | .no=>true
def pc_ (P:Program) (N fuel:Nat) (I:Inl P fuel) (c:VC) (ops:List Oper) (S:VS) (X:VX->VT) (K:VS->VT):VT:=match mo_ ops&&(se_ N ops&&Nat.ble N 512)with
 |true=>n0_ P N fuel I c ops (jC_ ops X) K (Nat.succ (lenOp ops)) 0 S
 |false=>.bad
where
 lenOp:List Oper->Nat
 |[]=>0
 |_::r=>Nat.succ (lenOp r)
def u2_ (ops:List Oper):Bool:=match nM_ ops with
 | .mk l _=>match c8_ l 0 with
   |b=>k4_ (d9_ b l) 0&&jv_ (d9_ b l) (d9_ b l)
 | .no=>true
def p4_ (T:Tm):List Oper->Nat->AV
 |[],_=>.opq
 |o::r,t=>match o.op with
  | .move x=>match o.dst with
    |some d=>match Nat.beq d t with
     |true=>look T x
     |false=>p4_ T r t
    |none=>p4_ T r t
  |_=>p4_ T r t
def uB_ (own:Bool) (T:Tm) (all:List Oper) (x i:Operand):List AV:=match x with
 | .tmp b=>match p4_ T all b with
   | .slx id z k=>match own with
     |true=>[]
     |false=>[.slx id z k]
   | .sl id off len z cap=>match i with
     | .tmp j=>match p4_ T all j with
       | .sym _=>[.sl id off len z cap]
       |_=>[]
     |_=>[]
   |_=>[]
 |_=>[]
def o0_ (T:Tm) (all:List Oper):List (Nat×Operand)->List AV
 |[]=>[]
 |(_,x)::r=>match x with
  | .tmp t=>match p4_ T all t with
    | .slx id z k=>.slx id z k::o0_ T all r
    |_=>o0_ T all r
  |_=>o0_ T all r
def iS_ (own:Bool) (T:Tm) (all:List Oper):List Oper->List AV
 |[]=>[]
 |o::r=>match o.op with
  | .indexAddr _ x i=>je_ (uB_ own T all x i) (iS_ own T all r)
  | .buildSlice _ _ ps=>match own with
    |true=>iS_ own T all r
    |false=>je_ (o0_ T all ps.toList) (iS_ own T all r)
  |_=>iS_ own T all r
def jm_ (own:Bool) (l:List Oper) (S:VS):VS:=match iS_ own S.T l l with
 |[]=>S
 |a=>dr_ S a
def pg_ (b:VS->(VS->VT)->VT):Nat->VS->VT
 |0,_=>.bad
 |n+1,S=>b S λS'=>pg_ b n S'
def nZ_ (n k lvl:Nat) (tps:List Tpl) (S:VS):VT:=match dC_ n k tps 0 S with
 |some r=>kf_ r.l (sb_ r.m.nn (.again lvl r.j r.m.hv))
 |none=>.bad
def lj_ (b:VS->(VS->VT)->VT) (n k lvl:Nat) (tps:List Tpl):List Tpl->VTs
 |[]=>.nil
 |tp::r=>.cons tp.nv (b (tp.inst n (Nat.succ lvl)) (nZ_ n k lvl tps)) (lj_ b n k lvl tps r)
def tX_ (k:Nat) (b:VS->(VS->VT)->VT) (tps:List Tpl) (S:VS):VT:=match dC_ S.n k tps 0 S with
 |some r=>kf_ r.l (sb_ r.m.nn (.loop S.n r.j r.m.hv (lj_ b S.n k S.lv tps tps)))
 |none=>.bad
def tR_ (id:Nat) (K:VS->VT) (X:VX->VT) (r:VX):VT:=match r with
 | .exit id' S=>match Nat.beq id' id with
   |true=>K S
   |false=>X r
 | .ret _=>X r
 | .pan _ _=>X r
mutual
def mr_ (id sz i len:Nat):AV->AV
 | .slx id' z j=>match Nat.beq id id'&&(Nat.beq sz z&&Nat.beq i j)with
   |true=>.sl id 0 len sz none
   |false=>.slx id' z j
 | .agg cs=>.agg (hs_ id sz i len cs)
 | .tup cs=>.tup (hs_ id sz i len cs)
 |a=>a
def hs_ (id sz i len:Nat):List AV->List AV
 |[]=>[]
 |a::r=>mr_ id sz i len a::hs_ id sz i len r
end
def pX_ (id sz i len:Nat) (H:AHeap):List Nat->AHeap
 |[]=>H
 |q::r=>match (pX_ id sz i len H r).get q with
  |some (.cells cs)=>(pX_ id sz i len H r).set q (.cells (hs_ id sz i len cs))
  |_=>pX_ id sz i len H r
def jb_ (t:TA) (i:Nat) (S:VS):VS:=⟨bd_ (mr_ t.id t.sz i t.j) S.T,pX_ t.id t.sz i t.j (S.H.set t.id (.cells (ae_ S.n (Nat.mul t.j t.sz)))) [0,1,2,3],Nat.add S.n (Nat.mul t.j t.sz),S.lv,S.D⟩
def m0_:List TA->VS->(VS->VT)->VT
 |[],S,k=>k S
 |t::r,S,k=>match S.H.get t.id with
  |some (.syl i)=>.lt (.opn t.j t.sz) [.sym i] S.n (some (Nat.mul t.j t.sz)) (m0_ r (jb_ t i S) k)
  |_=>m0_ r S k
def l4_ (t o:Nat) (S:VS):VS:=match tget S.T t with
 | .ptr id b=>match S.H.get id with
   |some (.cells cs)=>match nF_ (Nat.add b o) cs with
    |some a=>tm_ S [a] id
    |none=>S
   |_=>S
 |a=>dr_ S [a]
def l5_ (S:VS):List (Nat×Nat)->VS
 |[]=>S
 |(t,o)::r=>l5_ (l4_ t o S) r
def tV_ (c:VC) (rid:Nat) (ops:List Oper) (S:VS) (k:VS->VT):VT:=match ops with
 |[]=>k S
 |_::_=>match kW_ c.hs (Nat.add 10000 rid)with
  |some (tp::_)=>m0_ tp.acc (l5_ S tp.fix) k
  |_=>k S
def rR_ (P:Program) (N fuel:Nat) (I:Inl P fuel) (c:VC) (ops:Array Oper) (draw:Bool) (S:VS) (K:VS->VT) (X:VX->VT):VT:=match draw with
 |false=>ln_ P N fuel I c ops.toList X ops.toList S K
 |true=>match h5_ P (aO_ P fuel) N ops.toList S.T S.H S.D with
  |some r=>match r with
   | .norm T H D=>K ⟨T,H,S.n,S.lv,D⟩
   |_=>.bad
  |none=>match un_ c ops.toList with
   |false=>match u2_ ops.toList with
    |true=>mX_ P N fuel I c ops.toList (jm_ c.own ops.toList S) X K
    |false=>pc_ P N fuel I c ops.toList S X K
   |true=>match uY_ c ops.toList with
    |true=>pc_ P N fuel I c ops.toList S X K
    |false=>mX_ P N fuel I c ops.toList (jm_ c.own ops.toList S) X K
def cA_ (P:Program) (N fuel:Nat) (I:Inl P fuel) (c:VC):Nat->Code->VS->(VS->VT)->(VX->VT)->VT
 |_,.skip,S,K,X=>K S
 |_,.label _,S,K,X=>K S
 |_,.region rid ops draw,S,K,X=>tV_ c rid ops.toList S λS=>rR_ P N fuel I c ops draw S K X
 |bid,.seq a b,S,K,X=>cA_ P N fuel I c bid a S (λS=>cA_ P N fuel I c bid b S K X) X
 |bid,.cond cd a b,S,K,X=>match look S.T cd with
  | .bool t=>match t with
    |true=>cA_ P N fuel I c bid a S K X
    |false=>cA_ P N fuel I c bid b S K X
  |_=>match gY_ S.T cd with
   |some i=>.ite i (cA_ P N fuel I c bid a (S.know i true) K X) (cA_ P N fuel I c bid b (S.know i false) K X)
   |none=>.bad
 |_,.block id b,S,K,X=>cA_ P N fuel I c id b S K (tR_ id K X)
 |bid,.loop b,S,K,X=>match kW_ c.hs bid with
  |some tps=>tX_ c.k (λS K=>cA_ P N fuel I c bid b S K X) tps S
  |none=>pg_ (λS K=>cA_ P N fuel I c bid b S K X) fuel S
 |_,.exit id,S,K,X=>X (.exit id S)
 |_,.ret,S,K,X=>X (.ret S)
 |_,_,_,_,_=>.bad
def rL_ (Q:Option (AV×AHeap)):VT:=match Q with
 |some (a,H)=>match ed_ 100 H a with
  |some v=>match ah_ v with
   |true=>.done v
   |false=>.bad
  |none=>.bad
 |none=>.bad
def nr_:List Oper->Bool
 |[]=>false
 |o::r=>match o.op with
  | .call c=>match c.callee with
    | .builtin .recover=>true
    |_=>nr_ r
  |_=>nr_ r
def u1_ (u:Option AV) (ops:List Oper):Bool:=match u with
 |some _=>true
 |none=>nr_ ops
def c9_ (P:Program) (N fuel:Nat) (I:Inl P fuel) (c:VC):Code->VS->Option AV->(VS->Option AV->VT)->(VS->Option AV->VT)->VT
 | .skip,S,u,K,R=>K S u
 | .region rid ops draw,S,u,K,R=>match u1_ u ops.toList with
   |true=>match draw with
    |true=>.bad
    |false=>match k5_ P (aO_ P fuel) N ops.toList ops.toList S.T S.H u with
     |some r=>match r with
      | .norm T H u'=>K ⟨T,H,S.n,S.lv,[]⟩ u'
      | .ret _ _ _=>.bad
     |none=>.bad
   |false=>rR_ P N fuel I c ops draw S (λS=>match S.D with
    |[]=>K S none
    |_::_=>.bad) (λ_=>.bad)
 | .seq a b,S,u,K,R=>c9_ P N fuel I c a S u (λS u=>c9_ P N fuel I c b S u K R) R
 | .cond cd a b,S,u,K,R=>match look S.T cd with
   | .bool t=>match t with
     |true=>c9_ P N fuel I c a S u K R
     |false=>c9_ P N fuel I c b S u K R
   |_=>match gY_ S.T cd with
    |some i=>.ite i (c9_ P N fuel I c a (S.know i true) u K R) (c9_ P N fuel I c b (S.know i false) u K R)
    |none=>.bad
 | .block _ b,S,u,K,R=>c9_ P N fuel I c b S u K R
 | .ret,S,u,K,R=>R S u
 |_,_,_,_,_=>.bad
def d2_ (P:Program) (fuel:Nat) (I:Inl P fuel) (c:VC) (rs:List ResultVar) (fin:FRes->Nat->Nat->VT):Dfs->Tm->AHeap->Nat->Nat->Option AV->VT
 |[],T,H,n,lv,u=>match cz_ P (aO_ P fuel) fuel rs T [] H u with
  |some r=>fin r n lv
  |none=>.bad
 |(f,args)::D,T,H,n,lv,u=>match P.funcs[f]? with
  |some fn=>match fn.body with
   |some cd=>match Nat.ble (aY_ args) fn.ntmps&&(Nat.ble fn.ntmps 512&&(oB_ H.next n D&&Nat.ble c.k H.next))with
    |true=>match (λ(S:VS) (u:Option AV)=>match dE_ P S.T S.H fn.results.toList with
       |some _=>d2_ P fuel I c rs fin D (bd_ (bH_ H.next n) T) S.H S.n S.lv u
       |none=>.bad)with
     |K=>c9_ P fn.ntmps fuel I ⟨c.fc,c.cs,[],H.next,c.own,c.fs⟩ cd ⟨aZ_ args 0 tnil,H,n,lv,[]⟩ u K K
    |false=>.bad
   |none=>.bad
  |none=>.bad
def lm_ (P:Program) (fuel:Nat) (I:Inl P fuel) (c:VC) (rs:List ResultVar) (fin:FRes->Nat->Nat->VT) (u:Option AV) (S:VS):VT:=match cz_ P (aO_ P fuel) fuel rs S.T S.D S.H u with
 |some r=>fin r S.n S.lv
 |none=>d2_ P fuel I c rs fin S.D S.T S.H S.n S.lv u
def rK_ (r:FRes) (_ _:Nat):VT:=match r with
 | .ret a H=>rL_ (some (a,H))
 | .pan _ _=>.bad
def pe_ (P:Program) (fuel:Nat) (I:Inl P fuel) (c:VC) (rs:List ResultVar) (u:Option AV) (S:VS):VT:=lm_ P fuel I c rs rK_ u S
def vc_ (P:Program) (fuel:Nat) (I:Inl P fuel) (c:VC) (rs:List ResultVar) (r:VX):VT:=match r with
 | .ret S=>pe_ P fuel I c rs none S
 | .pan v S=>pe_ P fuel I c rs (some v) S
 | .exit _ _=>.bad
def tS_ (P:Program) (fuel:Nat) (I:Inl P fuel) (c:VC) (f:FuncId) (args:List AV) (n:Nat):VT:=match P.funcs[f]? with
 |some fn=>match fn.body with
  |some cd=>match Nat.ble (aY_ args) fn.ntmps&&Nat.ble fn.ntmps 512 with
   |true=>cA_ P fn.ntmps fuel I c 0 cd ⟨aZ_ args 0 tnil,H0,n,0,[]⟩ (pe_ P fuel I c fn.results.toList none) (vc_ P fuel I c fn.results.toList)
   |false=>.bad
  |none=>.bad
 |none=>.bad
def uG_ (ret pan:AV->AHeap->Nat->Nat->VT) (r:FRes) (n lv:Nat):VT:=match r with
 | .ret a H=>ret a H n lv
 | .pan a H=>pan a H n lv
def pf_ (P:Program) (fuel:Nat) (I:Inl P fuel) (c:VC) (rs:List ResultVar) (ret pan:AV->AHeap->Nat->Nat->VT) (u:Option AV) (S:VS):VT:=lm_ P fuel I c rs (uG_ ret pan) u S
def uH_ (P:Program) (fuel:Nat) (I:Inl P fuel) (c:VC) (rs:List ResultVar) (ret pan:AV->AHeap->Nat->Nat->VT) (r:VX):VT:=match r with
 | .exit _ _=>.bad
 | .ret S=>pf_ P fuel I c rs ret pan none S
 | .pan v S=>pf_ P fuel I c rs ret pan (some v) S
def tT_ (P:Program) (fuel:Nat) (I:Inl P fuel) (c:VC) (g:FuncId) (args:List AV) (H:AHeap) (n lv:Nat) (ret pan:AV->AHeap->Nat->Nat->VT):VT:=match P.funcs[g]? with
 |some fn=>match fn.body with
  |some cd=>match Nat.ble (aY_ args) fn.ntmps&&Nat.ble fn.ntmps 512 with
   |true=>cA_ P fn.ntmps fuel I ⟨c.fc,c.cs,[],H.next,c.own,c.fs⟩ 0 cd ⟨aZ_ args 0 tnil,H,n,lv,[]⟩ (pf_ P fuel I ⟨c.fc,c.cs,[],H.next,c.own,c.fs⟩ fn.results.toList ret pan none) (uH_ P fuel I ⟨c.fc,c.cs,[],H.next,c.own,c.fs⟩ fn.results.toList ret pan)
   |false=>.bad
  |none=>.bad
 |none=>.bad
end
end Go.Sx
