/-
  The evaluator with symbols, with loops by templates and calls by what is known of them.
-/
import Derived.Test.YtmgenobllanmjaaGreatDoorSyX
set_option linter.unusedVariables false
set_option linter.unusedSimpArgs false
namespace Go.Sx
structure TA where
 id:Nat
 sz:Nat
 j:Nat
 loc:Nat
 off:Option Nat
structure Tpl where
 slots:List (Nat×AV)
 rows:List (Nat×List AV)
 next:Nat
 nv:Nat
 acc:List TA:=[]
 maps:List (Nat×Nat):=[]
 fix:List (Nat×Nat):=[]
abbrev t2_:=List (Nat×List Tpl)
structure FT where
 k:Nat
 ent:Tpl
 exs:List (Bool×Tpl)
inductive Chk where
 |same (i j:Nat)
 |nn (i:Nat)
 |pos (i:Nat)
mutual
inductive VT where
 |bad
 |done (v:AV)
 |ite (i:Nat) (a b:VT)
 |lt (op:XOp) (args:List AV) (n:Nat) (m:Option Nat) (t:VT)
 |call (f:FuncId) (args:List AV) (n:Nat) (sh:List (Option Nat)) (t:VT)
 |loop (n j:Nat) (hv:List AV) (bs:VTs)
 |again (lvl j:Nat) (hv:List AV)
 |chk (c:Chk) (t:VT)
 |callF (f:FuncId) (ft:FT) (hv:List AV) (n:Nat) (bs:VTs)
 |both (a b:VT)
inductive VTs where
 |nil
 |cons (nv:Nat) (t:VT) (r:VTs)
end
def flat:List (Option Nat)->List AV->Option (List AV)
 |[],[]=>some []
 |none::s,a::r=>match flat s r with
  |some l=>some (a::l)
  |none=>none
 |some m::s,.agg cs::r=>match decide (cs.length=m)with
  |true=>match flat s r with
   |some l=>some (cs++l)
   |none=>none
  |false=>none
 |_,_=>none
def hJ_ (sh:List (Option Nat)) (v:AV):Option (List AV):=match sh with
 |[s]=>flat [s] [v]
 |sh=>match v with
  | .tup l=>flat sh l
  |_=>none
def b4_:Nat->List (Option Nat)->List AV
 |_,[]=>[]
 |n,none::s=>.sym n::b4_ (Nat.succ n) s
 |n,some m::s=>.agg (ag_ n m)::b4_ (Nat.add n m) s
def dm_ (n:Nat) (sh:List (Option Nat)):AV:=match sh with
 |[s]=>match b4_ n [s]with
  |a::_=>a
  |[]=>.tup []
 |sh=>.tup (b4_ n sh)
def dD_:List (Option Nat)->Nat
 |[]=>0
 |none::s=>Nat.succ (dD_ s)
 |some m::s=>Nat.add m (dD_ s)
mutual
def bJ_ (n:Nat):AV->AV
 | .slx j z i=>match z with
   |0=>.sym (Nat.add n j)
   |z+1=>.slx j (z+1) (Nat.add n i)
 | .ptx id j sz _=>.slx id sz j
 | .vptr cs=>.vptr (bu_ n cs)
 | .vsl a z cs=>.vsl a z (bu_ n cs)
 | .fn f cs=>.fn f (bu_ n cs)
 | .iface t a=>.iface t (bJ_ n a)
 | .agg cs=>.agg (bu_ n cs)
 | .tup cs=>.tup (bu_ n cs)
 |a=>a
def bu_ (n:Nat):List AV->List AV
 |[]=>[]
 |a::r=>bJ_ n a::bu_ n r
end
def cV_ (n:Nat):List (Nat×AV)->Tm
 |[]=>topq
 |(t,a)::r=>dL_ (cV_ n r) t (bJ_ n a)
def iZ_ (n next:Nat):List (Nat×List AV)->AHeap
 |[]=>⟨hnil,next,top⟩
 |(id,cs)::r=>(iZ_ n next r).set id (.cells (bu_ n cs))
def hM_ (n:Nat) (H:AHeap):List TA->AHeap
 |[]=>H
 |t::r=>(hM_ n H r).set t.id (.syl (Nat.add n t.j))
def kG_ (n:Nat) (H:AHeap):List (Nat×Nat)->AHeap
 |[]=>H
 |(id,j)::r=>(kG_ n H r).set id (.mpl (Nat.add n j))
def mc_:Nat:=1500
def hL_ (i:Nat):Nat:=Nat.div (Nat.sub i mc_) 16
def zF (i:Nat):Nat:=Nat.mod (Nat.sub i mc_) 16
def kd_ (n i:Nat):Nat:=match Nat.blt i mc_ with
 |true=>i
 |false=>Nat.add n (hL_ i)
def kF_ (n:Nat) (H:AHeap):List (Nat×Nat)->AHeap
 |[]=>H
 |(id,i)::r=>(kF_ n H r).set id (.syl (kd_ n i))
def qq_:List (Nat×Nat)->List Nat->List Nat
 |[],acc=>acc
 |(id,_)::r,acc=>id::qq_ r acc
def pq_ (H:AHeap) (id:Nat):Option AV:=match H.get id with
 |some (.map es _)=>match ad_ (aN_ es)&&fY_ es with
  |true=>some (.vsl (mQ_ es) 2 (aN_ es))
  |false=>none
 |some (.mpl i)=>some (.sym i)
 |_=>none
def mN_:List (Nat×List AV)->List Nat
 |[]=>[]
 |(id,_)::r=>id::mN_ r
mutual
def uB_:AV->AV->List (Nat×AV)->List (Nat×AV)
 | .slx j z _,a,acc=>match z with
   |0=>(j,a)::acc
   |_+1=>acc
 | .agg ts,.agg cs,acc=>nU_ ts cs acc
 | .tup ts,.tup cs,acc=>nU_ ts cs acc
 | .vptr ts,.vptr cs,acc=>nU_ ts cs acc
 | .vsl _ _ ts,.vsl _ _ cs,acc=>nU_ ts cs acc
 | .fn _ ts,.fn _ cs,acc=>nU_ ts cs acc
 | .iface _ t,.iface _ a,acc=>uB_ t a acc
 |_,_,acc=>acc
def nU_:List AV->List AV->List (Nat×AV)->List (Nat×AV)
 |t::ts,a::r,acc=>uB_ t a (nU_ ts r acc)
 |_,_,acc=>acc
end
def uc_:List (Nat×AV)->Nat->Option AV
 |[],_=>none
 |(i,a)::r,j=>match Nat.beq i j with
  |true=>some a
  |false=>uc_ r j
def pe_ (acc:List (Nat×AV)):Nat->Nat->Option (List AV)
 |_,0=>some []
 |j,m+1=>match uc_ acc j with
  |some a=>match pe_ acc (Nat.succ j) m with
   |some l=>some (a::l)
   |none=>none
  |none=>none
structure DA where
 id:Nat
 sz:Nat
 j:Nat
 x:AV
 act:Option Nat
def hx_ (H:AHeap) (sz:Nat) (a:AV):Option (AV×Option Nat):=match a with
 | .nsl=>some (.nsl,none)
 | .slx id sz' i=>match H.get id with
   |some (.syl k)=>match Nat.beq k i&&Nat.beq sz' sz with
    |true=>some (.sym i,some id)
    |false=>none
   |_=>none
 | .sl id off len sz' _=>match H.get id with
   |some (.cells cs)=>match aX_ (Nat.mul len sz) cs with
    |some cs=>match Nat.beq off 0&&(Nat.beq sz' sz&&(Nat.blt 0 len&&(Nat.beq (aL_ cs) (Nat.mul len sz)&&(ad_ cs&&bd_ cs))))with
     |true=>some (.vsl len sz cs,some id)
     |false=>none
    |none=>none
   |_=>none
 |_=>none
def m4_:Nat->List AV->Option AV
 |_,[]=>none
 |0,a::_=>some a
 |n+1,_::r=>m4_ n r
def az_:List (Nat×Nat)->Nat->Option Nat
 |[],_=>none
 |(a,t)::r,i=>match Nat.beq a i with
  |true=>some t
  |false=>az_ r i
def kN_ (T:Tm) (H:AHeap) (rn:List (Nat×Nat)) (t:TA):Option AV:=match t.off with
 |none=>some (tget T t.loc)
 |some o=>match az_ rn t.loc with
  |some a=>match H.get a with
   |some (.cells cs)=>m4_ o cs
   |_=>none
  |none=>match tget T (Nat.sub t.loc 600)with
   | .tup cs=>m4_ o cs
   | .agg cs=>m4_ o cs
   |_=>none
def p0_ (T:Tm) (H:AHeap) (rn:List (Nat×Nat)):List TA->Option (List DA)
 |[]=>some []
 |t::r=>match kN_ T H rn t with
  |some a=>match hx_ H t.sz a with
   |some (x,act)=>match p0_ T H rn r with
    |some l=>some (⟨t.id,t.sz,t.j,x,act⟩::l)
    |none=>none
   |none=>none
  |none=>none
def aG_:List DA->Nat->Option DA
 |[],_=>none
 |d::r,id=>match Nat.beq d.id id with
  |true=>some d
  |false=>aG_ r id
def kb_:Option Nat->Option Nat->Bool
 |none,none=>true
 |some a,some b=>Nat.beq a b
 |_,_=>false
mutual
def mA (H:AHeap) (ds:List DA) (rn:List (Nat×Nat)) (hv:List AV) (n:Nat):AV->AV->Bool
 | .opq,_=>true
 | .sym i,a=>Nat.blt i n&&bV_ (.sym i) a
 | .ptr id off,a=>match a with
   | .ptr id' off'=>kb_ (az_ rn id) (some id')&&Nat.beq off off'
   |_=>false
 | .sl id off len sz cap,a=>match a with
   | .sl id' off' len' sz' cap'=>kb_ (az_ rn id) (some id')&&(Nat.beq off off'&&(Nat.beq len len'&&(Nat.beq sz sz'&&(cap.isNone||cap==cap'))))
   |_=>false
 | .agg ts,a=>match a with
   | .agg cs=>mL H ds rn hv n ts cs
   |_=>false
 | .tup ts,a=>match a with
   | .tup cs=>mL H ds rn hv n ts cs
   |_=>false
 | .vptr ts,a=>match a with
   | .vptr cs=>mL H ds rn hv n ts cs
   |_=>false
 | .vsl len sz ts,a=>match a with
   | .vsl len' sz' cs=>Nat.beq len len'&&(Nat.beq sz sz'&&mL H ds rn hv n ts cs)
   |_=>false
 | .fn f ts,a=>match a with
   | .fn g cs=>Nat.beq f g&&mL H ds rn hv n ts cs
   |_=>false
 | .iface t x,a=>match a with
   | .iface u y=>Nat.beq t u&&mA H ds rn hv n x y
   |_=>false
 | .slx j z i,a=>match z with
   |0=>match cB_ j hv with
    |some x=>bV_ x a
    |none=>false
   |z+1=>match aG_ ds j with
    |some d=>match hx_ H (Nat.succ z) a with
     |some (x,act)=>Nat.beq d.sz (Nat.succ z)&&(Nat.beq d.j i&&(bV_ d.x x&&kb_ d.act act))
     |none=>false
    |none=>false
 | .ptx id i sz _,a=>match a with
   | .slx id' sz' i'=>kb_ (az_ rn id) (some id')&&(Nat.beq sz sz'&&(Nat.beq i i'&&Nat.blt i n))
   |_=>false
 | .map id,a=>match a with
   | .map id'=>kb_ (az_ rn id) (some id')
   |_=>false
 |t,a=>bV_ t a
def mL (H:AHeap) (ds:List DA) (rn:List (Nat×Nat)) (hv:List AV) (n:Nat):List AV->List AV->Bool
 |[],[]=>true
 |t::ts,a::r=>mA H ds rn hv n t a&&mL H ds rn hv n ts r
 |_,_=>false
end
mutual
def e4_ (n:Nat):AV->Bool
 | .sym i=>Nat.blt i n
 | .vptr cs=>aH_ n cs
 | .vsl _ _ cs=>aH_ n cs
 | .fn _ cs=>aH_ n cs
 | .iface _ a=>e4_ n a
 | .agg cs=>aH_ n cs
 | .tup cs=>aH_ n cs
 |_=>true
def aH_ (n:Nat):List AV->Bool
 |[]=>true
 |a::r=>e4_ n a&&aH_ n r
end
structure VS where
 T:Tm
 H:AHeap
 n:Nat
 lv:Nat
 D:Dfs
inductive VX where
 |exit (id:Nat) (S:VS)
 |ret (S:VS)
 |pan (v:AV) (S:VS)
def VS.x (S:VS):XS:=⟨S.T,S.H,S.n⟩
def VS.know (S:VS) (i:Nat) (b:Bool):VS:=⟨bc_ (hs_ i b) S.T,S.H,S.n,S.lv,S.D⟩
def vF_ (T:Tm):List (Nat×AV)->List (Nat×AV)->List (Nat×AV)
 |[],acc=>acc
 |(t,a)::r,acc=>uB_ a (tget T t) (vF_ T r acc)
def vE_ (H:AHeap) (rn:List (Nat×Nat)):List (Nat×List AV)->List (Nat×AV)->List (Nat×AV)
 |[],acc=>acc
 |(id,cs)::r,acc=>match az_ rn id with
  |some a=>match H.get a with
   |some (.cells l)=>nU_ cs l (vE_ H rn r acc)
   |_=>acc
  |none=>acc
def vB_:List DA->List (Nat×AV)->List (Nat×AV)
 |[],acc=>acc
 |d::r,acc=>(d.j,d.x)::vB_ r acc
def mT (H:AHeap) (ds:List DA) (rn:List (Nat×Nat)) (hv:List AV) (n:Nat) (T:Tm):List (Nat×AV)->Bool
 |[]=>true
 |(t,a)::r=>Nat.blt t 512&&(mA H ds rn hv n a (tget T t)&&mT H ds rn hv n T r)
def qZ_ (id a:Nat) (rn:List (Nat×Nat)):List (Nat×Nat):=match az_ rn id with
 |none=>(id,a)::rn
 |some _=>rn
mutual
def rj_:AV->AV->List (Nat×Nat)->List (Nat×Nat)
 | .ptr id _,.ptr id' _,rn=>qZ_ id id' rn
 | .sl id _ _ _ _,.sl id' _ _ _ _,rn=>qZ_ id id' rn
 | .ptx id _ _ _,.slx id' _ _,rn=>qZ_ id id' rn
 | .map id,.map id',rn=>qZ_ id id' rn
 | .agg ts,.agg cs,rn=>ml_ ts cs rn
 | .tup ts,.tup cs,rn=>ml_ ts cs rn
 | .iface _ t,.iface _ a,rn=>rj_ t a rn
 |_,_,rn=>rn
def ml_:List AV->List AV->List (Nat×Nat)->List (Nat×Nat)
 |t::ts,a::r,rn=>ml_ ts r (rj_ t a rn)
 |_,_,rn=>rn
end
def t9_ (T:Tm):List (Nat×AV)->List (Nat×Nat)->List (Nat×Nat)
 |[],rn=>rn
 |(t,a)::r,rn=>t9_ T r (rj_ a (tget T t) rn)
def mk_ (H:AHeap):List (Nat×List AV)->List (Nat×Nat)->List (Nat×Nat)
 |[],rn=>rn
 |(id,cs)::r,rn=>match az_ rn id with
  |some a=>match H.get a with
   |some (.cells l)=>mk_ H r (ml_ cs l rn)
   |_=>mk_ H r rn
  |none=>match H.get id with
   |some (.cells l)=>mk_ H r (ml_ cs l ((id,id)::rn))
   |_=>mk_ H r rn
def se_:List (Nat×Nat)->List (Nat×Nat)->List (Nat×Nat)
 |[],rn=>rn
 |(id,_)::r,rn=>se_ r (qZ_ id id rn)
def rG_ (ids:List Nat):List (Nat×Nat)->List (Nat×Nat)
 |[]=>[]
 |(id,a)::r=>match memT id ids with
  |true=>(id,a)::rG_ ids r
  |false=>rG_ ids r
def Tpl.ids (tp:Tpl):List Nat:=qq_ tp.fix (qq_ tp.maps (mN_ tp.rows))
def uY_ (tp:Tpl) (T:Tm) (H:AHeap):List (Nat×Nat):=rG_ tp.ids (se_ tp.fix (se_ tp.maps (mk_ H tp.rows (t9_ T tp.slots []))))
def uI_:List (Nat×Nat)->List (Nat×Nat)->List (Nat×Nat)
 |[],acc=>acc
 |(id,a)::r,acc=>(a,id)::uI_ r acc
def rF_:List DA->List (Nat×Nat)->List (Nat×Nat)
 |[],acc=>acc
 |d::r,acc=>match d.act with
  |some i=>(i,d.id)::rF_ r acc
  |none=>rF_ r acc
def mN (ds:List DA) (inv:List (Nat×Nat)) (next:Nat):List (Nat×Nat)->Bool
 |[]=>true
 |(id,a)::r=>Nat.blt id next&&(Nat.blt id top&&(kb_ (az_ inv a) (some id)&&((aG_ ds id).isNone&&mN ds inv next r)))
def mH (ds:List DA) (rn:List (Nat×Nat)) (hv:List AV) (n:Nat) (H:AHeap):List (Nat×List AV)->Bool
 |[]=>true
 |(id,cs)::r=>(match az_ rn id with
  |some a=>match H.get a with
   |some (.cells l)=>mL H ds rn hv n cs l
   |_=>false
  |none=>false)&&mH ds rn hv n H r
def mD (inv:List (Nat×Nat)) (hv:List AV) (next:Nat):List DA->Bool
 |[]=>true
 |d::r=>Nat.blt d.id next&&(Nat.blt d.id top&&((match cB_ d.j hv with
  |some y=>bV_ y d.x
  |none=>false)&&((match d.act with
  |some i=>kb_ (az_ inv i) (some d.id)
  |none=>true)&&mD inv hv next r)))
def vO_ (H:AHeap) (rn:List (Nat×Nat)):List (Nat×Nat)->List (Nat×AV)->Option (List (Nat×AV))
 |[],acc=>some acc
 |(id,j)::r,acc=>match az_ rn id with
  |some a=>match pq_ H a with
   |some x=>match vO_ H rn r acc with
    |some l=>some ((j,x)::l)
    |none=>none
   |none=>none
  |none=>none
def mM (rn:List (Nat×Nat)) (hv:List AV) (H:AHeap):List (Nat×Nat)->Bool
 |[]=>true
 |(id,j)::r=>(match az_ rn id with
  |some a=>match pq_ H a with
   |some x=>match cB_ j hv with
    |some y=>bV_ y x
    |none=>false
   |none=>false
  |none=>false)&&mM rn hv H r
def pg_ (cs:List AV) (x:AV):Bool:=match x with
 | .vsl len z cs'=>ds_ cs' cs&&(Nat.beq (aL_ cs) (Nat.mul len z)&&(ad_ cs&&bd_ cs))
 |_=>false
def mF (rn:List (Nat×Nat)) (hv:List AV) (n:Nat) (H:AHeap):List (Nat×Nat)->Bool
 |[]=>true
 |(id,i)::r=>(match az_ rn id with
  |some a=>match H.get a with
   |some (.syl i')=>match Nat.blt i mc_ with
    |true=>Nat.blt i n&&Nat.beq i i'
    |false=>match cB_ (hL_ i) hv with
     |some x=>bV_ x (.sym i')
     |none=>false
   |some (.cells cs)=>match Nat.blt i mc_ with
    |true=>false
    |false=>match cB_ (hL_ i) hv with
     |some x=>pg_ cs x
     |none=>false
   |_=>false
  |none=>false)&&mF rn hv n H r
def qi_ (rn:List (Nat×Nat)) (H:AHeap):List (Nat×Nat)->List (Nat×AV)->List (Nat×AV)
 |[],acc=>acc
 |(id,i)::r,acc=>match Nat.blt i mc_ with
  |true=>qi_ rn H r acc
  |false=>match az_ rn id with
   |some a=>match H.get a with
    |some (.syl i')=>(hL_ i,.sym i')::qi_ rn H r acc
    |some (.cells cs)=>(hL_ i,.vsl (Nat.div (aL_ cs) (zF i)) (zF i) cs)::qi_ rn H r acc
    |_=>qi_ rn H r acc
   |none=>qi_ rn H r acc
def uM_ (ds:List DA) (rn:List (Nat×Nat)):Nat->Bool
 |0=>true
 |k+1=>(match az_ rn k with
  |some a=>Nat.beq a k
  |none=>match aG_ ds k with
   |some d=>kb_ d.act (some k)
   |none=>false)&&uM_ ds rn k
def noD:Dfs->Bool
 |[]=>true
 |_=>false
mutual
def er_ (k n:Nat):AV->Bool
 | .ptr id _=>Nat.blt id k
 | .sl id _ _ _ _=>Nat.blt id k
 | .map id=>Nat.blt id k
 | .slx id _ i=>Nat.blt id k&&Nat.blt i n
 | .ptx id j _ _=>Nat.blt id k&&Nat.blt j n
 | .sym i=>Nat.blt i n
 | .vptr cs=>eQ_ k n cs
 | .vsl _ _ cs=>eQ_ k n cs
 | .fn _ cs=>eQ_ k n cs
 | .iface _ a=>er_ k n a
 | .agg cs=>eQ_ k n cs
 | .tup cs=>eQ_ k n cs
 |_=>true
def eQ_ (k n:Nat):List AV->Bool
 |[]=>true
 |a::r=>er_ k n a&&eQ_ k n r
end
def bU_ (k n:Nat) (a:AV):AV:=match er_ k n a with
 |true=>a
 |false=>.opq
def fN_ (k n:Nat):Dfs->Bool
 |[]=>true
 |(_,args)::r=>eQ_ k n args&&fN_ k n r
def u7_:List AV->Nat->Nat
 |[],m=>m
 | .ptr id _::r,m=>u7_ r (Nat.max m (Nat.succ id))
 |_::r,m=>u7_ r m
def qO_:Dfs->Nat
 |[]=>0
 |(_,args)::r=>u7_ args (qO_ r)
def eqD:Dfs->Dfs->Bool
 |[],[]=>true
 |(f,a)::r,(g,b)::q=>Nat.beq f g&&(ds_ a b&&eqD r q)
 |_,_=>false
structure MR where
 rn:List (Nat×Nat)
 ds:List DA
 hv:List AV
def MR.inv (m:MR):List (Nat×Nat):=rF_ m.ds (uI_ m.rn [])
def hf_ (n:Nat) (tp:Tpl) (T:Tm) (H:AHeap):Option MR:=match uY_ tp T H with
 |rn=>match p0_ T H rn tp.acc with
  |none=>none
  |some ds=>match vO_ H rn tp.maps (vB_ ds (vF_ T tp.slots (vE_ H rn tp.rows [])))with
   |none=>none
   |some ms=>match pe_ (qi_ rn H tp.fix ms) 0 tp.nv with
    |none=>none
    |some hv=>match MR.mk rn ds hv with
      |m=>match ad_ hv&&(bd_ hv&&(mT H ds rn hv n T tp.slots&&(mN ds m.inv tp.next rn&&(mH ds rn hv n H tp.rows&&(mD m.inv hv tp.next ds&&(mM rn hv H tp.maps&&(mF rn hv n H tp.fix&&Nat.ble tp.next top)))))))with
       |true=>some m
       |false=>none
def nnL (k:Nat) (hv:List AV):List TA->Option (List Nat)
 |[]=>some []
 |t::r=>match nnL k hv r with
  |none=>none
  |some l=>match Nat.blt t.id k with
   |false=>some l
   |true=>match cB_ t.j hv with
    |some (.sym i)=>some (i::l)
    |some (.vsl _ _ _)=>some l
    |_=>none
structure MT where
 hv:List AV
 nn:List Nat
def eU_ (n k:Nat) (tp:Tpl) (S:VS):Option MT:=match noD S.D with
 |false=>none
 |true=>match hf_ n tp S.T S.H with
  |none=>none
  |some m=>match uM_ m.ds m.rn k with
   |false=>none
   |true=>match nnL k m.hv tp.acc with
    |none=>none
    |some l=>some ⟨m.hv,l⟩
mutual
def sa_:AV->AV->List AV
 | .slx _ z _,a=>match z with
   |0=>match ae_ a with
    |true=>[]
    |false=>[a]
   |_+1=>[]
 | .agg ts,.agg cs=>sc_ ts cs
 | .tup ts,.tup cs=>sc_ ts cs
 | .iface _ t,.iface _ a=>sa_ t a
 | .vsl _ _ _,.sl id o n z c=>[.sl id o n z c]
 |_,_=>[]
def sc_:List AV->List AV->List AV
 |t::ts,a::r=>j1_ (sa_ t a) (sc_ ts r)
 |_,_=>[]
end
def gv_ (T:Tm):List (Nat×AV)->List AV
 |[]=>[]
 |(t,a)::r=>j1_ (sa_ a (tget T t)) (gv_ T r)
def dt_ (S:VS) (args:List AV):VS:=let l:=ek_ 100 S.H args []
 ⟨bc_ (frz (dg_ S.H l)) S.T,d0_ S.H l,S.n,S.lv,S.D⟩
def uu_ (S:VS) (args:List AV) (id:Nat):VS:=let l:=ek_ 100 S.H args []
 ⟨bc_ (frz (dg_ S.H l)) S.T,tK_ (dg_ S.H l) id (d0_ S.H l),S.n,S.lv,S.D⟩
mutual
def reA (id i k:Nat):AV->AV
 | .slx a z j=>match Nat.beq a id&&Nat.beq j i with
   |true=>.slx a z k
   |false=>.slx a z j
 | .vptr cs=>.vptr (reL id i k cs)
 | .vsl n z cs=>.vsl n z (reL id i k cs)
 | .fn f cs=>.fn f (reL id i k cs)
 | .iface t a=>.iface t (reA id i k a)
 | .agg cs=>.agg (reL id i k cs)
 | .tup cs=>.tup (reL id i k cs)
 |a=>a
def reL (id i k:Nat):List AV->List AV
 |[]=>[]
 |a::r=>reA id i k a::reL id i k r
end
structure SR where
 id:Nat
 i:Nat
 k:Nat
def hq_ (H:AHeap):List AV->List SR
 |[]=>[]
 |a::r=>match a with
  | .slx id _ i=>match H.get id with
    |some (.syl k)=>match Nat.beq i k with
     |true=>hq_ H r
     |false=>⟨id,i,k⟩::hq_ H r
    |_=>hq_ H r
  |_=>hq_ H r
def uX_:List SR->List AV->List AV
 |[],l=>l
 |q::r,l=>uX_ r (reL q.id q.i q.k l)
def reS:List SR->VS->VS
 |[],S=>S
 |q::r,S=>reS r ⟨bc_ (reA q.id q.i q.k) S.T,S.H,S.n,S.lv,S.D⟩
def or_:List SR->List (Nat×Nat)
 |[]=>[]
 |q::r=>(q.i,q.k)::or_ r
structure FR where
 l:List (Nat×Nat)
 S:VS
def hX_ (S:VS) (l:List AV):FR:=match hq_ S.H l with
 |[]=>⟨[],dt_ S l⟩
 |q=>⟨or_ q,dt_ (reS q S) (uX_ q l)⟩
def lB_ (tp:Tpl) (S:VS):FR:=match gv_ S.T tp.slots with
 |[]=>⟨[],S⟩
 |l=>hX_ S l
def oC_ (H:AHeap) (a:AV):Option (Nat×Nat×AV):=match a with
 | .slx id z i=>match H.get id with
   |some (.syl k)=>match Nat.beq i k with
    |true=>none
    |false=>some (i,k,.slx id z k)
   |_=>none
 |_=>none
def f5_:Nat->AV->List AV->List AV
 |_,_,[]=>[]
 |0,x,_::r=>x::r
 |n+1,x,a::r=>a::f5_ n x r
def lz_ (rn:List (Nat×Nat)) (t:TA) (S:VS):FR:=match kN_ S.T S.H rn t with
 |none=>⟨[],S⟩
 |some a=>match oC_ S.H a with
  |none=>⟨[],S⟩
  |some (i,k,a')=>match t.off with
   |none=>match Nat.blt t.loc 512 with
    |true=>⟨[(i,k)],⟨dL_ S.T t.loc a',S.H,S.n,S.lv,S.D⟩⟩
    |false=>⟨[],S⟩
   |some o=>match az_ rn t.loc with
    |some r=>match S.H.get r with
     |some (.cells cs)=>⟨[(i,k)],⟨S.T,S.H.set r (.cells (f5_ o a' cs)),S.n,S.lv,S.D⟩⟩
     |_=>⟨[],S⟩
    |none=>match tget S.T (Nat.sub t.loc 600)with
     | .tup cs=>match Nat.blt (Nat.sub t.loc 600) 512 with
       |true=>⟨[(i,k)],⟨dL_ S.T (Nat.sub t.loc 600) (.tup (f5_ o a' cs)),S.H,S.n,S.lv,S.D⟩⟩
       |false=>⟨[],S⟩
     | .agg cs=>match Nat.blt (Nat.sub t.loc 600) 512 with
       |true=>⟨[(i,k)],⟨dL_ S.T (Nat.sub t.loc 600) (.agg (f5_ o a' cs)),S.H,S.n,S.lv,S.D⟩⟩
       |false=>⟨[],S⟩
     |_=>⟨[],S⟩
def ed_ (rn:List (Nat×Nat)):List TA->VS->FR
 |[],S=>⟨[],S⟩
 |t::r,S=>match lz_ rn t S with
  |f=>match ed_ rn r f.S with
   |g=>⟨appP f.l g.l,g.S⟩
where
 appP:List (Nat×Nat)->List (Nat×Nat)->List (Nat×Nat)
 |[],l=>l
 |x::r,l=>x::appP r l
def lA_ (tp:Tpl) (S:VS):FR:=ed_ (uY_ tp S.T S.H) tp.acc S
def bp_ (tp:Tpl) (S:VS):FR:=match lB_ tp S with
 |f=>match lA_ tp f.S with
  |g=>⟨ed_.appP f.l g.l,g.S⟩
def jD_:List (Nat×Nat)->VT->VT
 |[],t=>t
 |(i,k)::r,t=>.chk (.same i k) (jD_ r t)
structure MA where
 j:Nat
 l:List (Nat×Nat)
 m:MT
def clashT (T:Tm):List (Nat×AV)->Bool
 |[]=>false
 |(t,a)::r=>(match a with
  | .int _ x=>match tget T t with
    | .int _ y=>not (eqI x y)
    |_=>false
  |_=>false)||clashT T r
def ph_ (D D0:Dfs):Bool:=eqD D D0&&fN_ (qO_ D) 0 D
def VS.clr (S:VS):VS:=⟨S.T,S.H,S.n,S.lv,[]⟩
def cL_ (n k:Nat) (D0:Dfs):List Tpl->Nat->VS->Option MA
 |[],_,_=>none
 |tp::r,j,S=>match clashT S.T tp.slots with
  |true=>cL_ n k D0 r (Nat.succ j) S
  |false=>match bp_ tp S with
   |f=>match ph_ f.S.D D0 with
    |true=>match eU_ n (Nat.max k (qO_ f.S.D)) tp f.S.clr with
     |some m=>some ⟨j,f.l,m⟩
     |none=>cL_ n k D0 r (Nat.succ j) S
    |false=>cL_ n k D0 r (Nat.succ j) S
def Tpl.heap (tp:Tpl) (n:Nat):AHeap:=kF_ n (kG_ n (hM_ n (iZ_ n tp.next tp.rows) tp.acc) tp.maps) tp.fix
def Tpl.inst (tp:Tpl) (n lv:Nat) (D:Dfs:=[]):VS:=⟨cV_ n tp.slots,tp.heap n,Nat.add n tp.nv,lv,D⟩
def rc_:List Nat->VT->VT
 |[],t=>t
 |i::r,t=>.chk (.nn i) (rc_ r t)
section
variable [Gl]
def cv_:List (Nat×AV)->List AV
 |[]=>[]
 |(_,a)::r=>a::cv_ r
def pZ_ (ft:FT) (n:Nat) (Y0:Sy) (Q:Nat->List AV->Prop) (Y:Sy) (r:FRes):Prop:=
 ∃j ws b tp,ft.exs[j]? =some (b,tp)/\Q j ws/\okL ws=true/\ws.length=tp.nv/\Y=Y0.puts n ws/\r=(match b with
  |true=>.pan (tget (cV_ n tp.slots) 0) (tp.heap n)
  |false=>.ret (tget (cV_ n tp.slots) 0) (tp.heap n))
def CF (P:Program) (f:FuncId) (ft:FT) (vs:List AV) (Q:Nat->List AV->Prop):Prop:=
 vs.length=ft.ent.nv/\∀Y,Fresh Y 64->SemCallF P ft.k (Y.puts 64 vs) f (bu_ 64 (cv_ ft.ent.slots)) (ft.ent.heap 64) (pZ_ ft (Nat.add 64 ft.ent.nv) (Y.puts 64 vs) Q)
def Chk.ok (Y:Sy):Chk->Prop
 | .same i j=>(Y.v i=some .nsl/\Y.v j=some .nsl)\/∃n z cs ds,Y.v i=some (.vsl n z cs)/\Y.v j=some (.vsl n z ds)
 | .nn i=>∃n z cs,Y.v i=some (.vsl n z cs)
 | .pos i=>∃n z cs,Y.v i=some (.vsl (n+1) z cs)
mutual
def VOK (P:Program) (Q:AV->Prop):List (Nat->List AV->Prop)->Sy->VT->Prop
 |_,_,.bad=>False
 |_,Y,.done v=>Q (den Y.v v)
 |L,Y,.ite i a b=>∃t,Y.v i=some (.bool t)/\(t=true->VOK P Q L Y a)/\(t=false->VOK P Q L Y b)
 |L,Y,.lt op args n m t=>match m with
  |none=>∃r,op.run P (ab_ Y.v args)=some r/\okC r=true/\VOK P Q L (Y.put n r) t
  |some k=>∃cs,op.run P (ab_ Y.v args)=some (.agg cs)/\cs.length=k/\okL cs=true/\VOK P Q L (Y.puts n cs) t
 |L,Y,.call f args n sh t=>∃v vs,iu_ P f (ab_ Y.v args) v/\hJ_ sh v=some vs/\okL vs=true/\VOK P Q L (Y.puts n vs) t
 |L,Y,.loop n j hv bs=>∃(Inv:Nat->List AV->Prop) (μ:Nat->List AV->Nat),(∀j vs,Inv j vs->okL vs=true)/\Inv j (ab_ Y.v hv)/\uw_ P Q Inv μ L n 0 Y bs
 |L,Y,.again lvl j hv=>∃R,L[lvl]? =some R/\R j (ab_ Y.v hv)
 |L,Y,.chk c t=>c.ok Y/\VOK P Q L Y t
 |L,Y,.callF f ft hv n bs=>∃R,CF P f ft (ab_ Y.v hv) R/\okL (ab_ Y.v hv)=true/\sX_ P Q R L (Y.puts n (ab_ Y.v hv)) (Nat.add n ft.ent.nv) 0 bs
 |L,Y,.both a b=>VOK P Q L Y a/\VOK P Q L Y b
def uw_ (P:Program) (Q:AV->Prop) (Inv:Nat->List AV->Prop) (μ:Nat->List AV->Nat):List (Nat->List AV->Prop)->Nat->Nat->Sy->VTs->Prop
 |_,_,_,_,.nil=>True
 |L,n,j,Y,.cons nv t r=>(∀vs,vs.length=nv->Inv j vs->VOK P Q (L++[λj' vs'=>Inv j' vs'/\μ j' vs'<μ j vs]) (Y.puts n vs) t)/\uw_ P Q Inv μ L n (j+1) Y r
def sX_ (P:Program) (Q:AV->Prop) (R:Nat->List AV->Prop):List (Nat->List AV->Prop)->Sy->Nat->Nat->VTs->Prop
 |_,_,_,_,.nil=>True
 |L,Y,n,j,.cons _ t r=>(∀ws,R j ws->VOK P Q L (Y.puts n ws) t)/\sX_ P Q R L Y n (j+1) r
end
end
def gu_:t2_->Nat->Option (List Tpl)
 |[],_=>none
 |(b,l)::r,bid=>match Nat.beq b bid with
  |true=>some l
  |false=>gu_ r bid
section
variable [Gl]
abbrev qX_:=List (FuncId×List (Option Nat))
def u1_:qX_->FuncId->Option (List (Option Nat))
 |[],_=>none
 |(g,sh)::r,f=>match Nat.beq g f with
  |true=>some sh
  |false=>u1_ r f
abbrev qY_:=List (FuncId×FT)
def uF_:qY_->FuncId->Option FT
 |[],_=>none
 |(g,t)::r,f=>match Nat.beq g f with
  |true=>some t
  |false=>uF_ r f
structure VC where
 fc:FcT
 cs:qX_
 hs:t2_
 k:Nat
 own:Bool
 fs:qY_
def q3_ (P:Program) (S:VS) (o:Oper):Option (Nat×Nat×XOp×List AV):=match fN_ top 0 S.D with
 |true=>gd_ P S.T S.H o
 |false=>none
def nP_ (P:Program) (S:VS) (o:Oper):Option (Nat×Nat×XOp×List AV):=match fN_ top 0 S.D with
 |true=>match cP_ P S.T S.H o with
  |some r=>some r
  |none=>uS_ P S.T S.H o
 |false=>none
def rU_ (P:Program) (S:VS) (o:Oper):Option (Nat×XOp×List AV):=match fN_ top 0 S.D with
 |true=>rT_ P S.T S.H o
 |false=>none
def sgS (hv:List AV) (n i:Nat):Nat:=match Nat.blt i 64 with
 |true=>i
 |false=>match cB_ (Nat.sub i 64) hv with
  |some (.sym s)=>s
  |_=>Nat.add n (Nat.sub i 64)
def sgV (hv:List AV) (n i:Nat):AV:=match Nat.blt i 64 with
 |true=>.sym i
 |false=>match cB_ (Nat.sub i 64) hv with
  |some a=>match okC a with
   |true=>a
   |false=>.sym (sgS hv n i)
  |none=>.sym (sgS hv n i)
mutual
def dI_ (hv:List AV) (n:Nat) (r:Nat->Nat):AV->AV
 | .sym i=>sgV hv n i
 | .slx id z i=>.slx (r id) z (sgS hv n i)
 | .ptx id j z off=>.ptx (r id) (sgS hv n j) z off
 | .ptr id off=>.ptr (r id) off
 | .sl id off len sz cap=>.sl (r id) off len sz cap
 | .map id=>.map (r id)
 | .vptr cs=>.vptr (fE_ hv n r cs)
 | .vsl a z cs=>.vsl a z (fE_ hv n r cs)
 | .fn f cs=>.fn f (fE_ hv n r cs)
 | .iface t a=>.iface t (dI_ hv n r a)
 | .agg cs=>.agg (fE_ hv n r cs)
 | .tup cs=>.tup (fE_ hv n r cs)
 |a=>a
def fE_ (hv:List AV) (n:Nat) (r:Nat->Nat):List AV->List AV
 |[]=>[]
 |a::l=>dI_ hv n r a::fE_ hv n r l
end
def rR_ (hv:List AV) (n:Nat) (r:Nat->Nat):ABlk->Option ABlk
 | .cells cs=>some (.cells (fE_ hv n r cs))
 | .syl i=>some (.syl (sgS hv n i))
 | .mpl i=>some (.mpl (sgS hv n i))
 |_=>none
def lG_ (hv:List AV) (n:Nat) (r:Nat->Nat) (F:AHeap) (base:AHeap):List Nat->AHeap
 |[]=>base
 |id::l=>match F.get id with
  |some k=>match rR_ hv n r k with
   |some k'=>(lG_ hv n r F base l).set (r id) k'
   |none=>lG_ hv n r F base l
  |none=>lG_ hv n r F base l
def c9_:List TA->List Nat->List Nat
 |[],l=>l
 |t::r,l=>t.id::c9_ r l
def qJ_:List (Nat×Nat)->List Nat->List Nat
 |[],l=>l
 |(_,a)::r,l=>a::qJ_ r l
def nO_:List DA->List Nat->List Nat
 |[],l=>l
 |d::r,l=>match d.act with
  |some i=>i::nO_ r l
  |none=>nO_ r l
def i8_ (m:MR) (j:Nat):Option Nat:=match az_ m.rn j with
 |some a=>some a
 |none=>match aG_ m.ds j with
  |some d=>d.act
  |none=>none
def og_ (m:MR):Nat->Option (List Nat)
 |0=>some []
 |k+1=>match og_ m k with
  |some l=>match i8_ m k with
   |some a=>some (snoc l a)
   |none=>none
  |none=>none
where
 snoc:List Nat->Nat->List Nat
 |[],a=>[a]
 |x::r,a=>x::snoc r a
def tq_:Nat->List Nat->Option Nat
 |_,[]=>none
 |0,a::_=>some a
 |n+1,_::r=>tq_ n r
def sf_ (low:List Nat) (k nx j:Nat):Nat:=match tq_ j low with
 |some a=>a
 |none=>Nat.add nx (Nat.sub j k)
mutual
def jN_:AV->Bool
 | .ptr id _=>Nat.blt id top
 | .sl id _ _ _ _=>Nat.blt id top
 | .map id=>Nat.blt id top
 | .slx id _ _=>Nat.blt id top
 | .ptx id _ _ _=>Nat.blt id top
 | .vptr cs=>jO_ cs
 | .vsl _ _ cs=>jO_ cs
 | .fn _ cs=>jO_ cs
 | .iface _ a=>jN_ a
 | .agg cs=>jO_ cs
 | .tup cs=>jO_ cs
 |_=>true
def jO_:List AV->Bool
 |[]=>true
 |a::r=>jN_ a&&jO_ r
end
def qQ_ (n:Nat):List (Nat×List AV)->Bool
 |[]=>true
 |(_,cs)::r=>jO_ (bu_ n cs)&&qQ_ n r
def qP_:List Nat->Bool
 |[]=>true
 |i::r=>Nat.blt i top&&qP_ r
def lC_ (H:AHeap):List Nat->Bool
 |[]=>true
 |a::r=>(H.get a).isSome&&lC_ H r
def jH_:Nat->List (Nat×AV)->Bool
 |_,[]=>true
 |i,(j,_)::r=>Nat.beq i j&&(Nat.blt i 512&&jH_ (Nat.succ i) r)
def pI_ (k n:Nat) (H:AHeap):List (Bool×Tpl)->Bool
 |[]=>true
 |(_,tp)::r=>Nat.ble k tp.next&&(Nat.blt (Nat.add H.next (Nat.sub tp.next k)) H.hi&&(jN_ (tget (cV_ n tp.slots) 0)&&(qQ_ n tp.rows&&(qP_ (c9_ tp.acc tp.ids)&&pI_ k n H r))))
def exH (ft:FT) (m:MR) (low:List Nat) (S:VS) (tp:Tpl):AHeap:=lG_ m.hv S.n (sf_ low ft.k S.H.next) (tp.heap (Nat.add 64 ft.ent.nv))
 (match d0_ S.H (nO_ m.ds (qJ_ m.rn []))with
   |B=>⟨B.tr,Nat.add S.H.next (Nat.sub tp.next ft.k),B.hi⟩) (c9_ tp.acc tp.ids)
def exV (ft:FT) (m:MR) (low:List Nat) (S:VS) (tp:Tpl):AV:=dI_ m.hv S.n (sf_ low ft.k S.H.next) (tget (cV_ (Nat.add 64 ft.ent.nv) tp.slots) 0)
def exN (ft:FT) (S:VS) (tp:Tpl):Nat:=Nat.add (Nat.add S.n ft.ent.nv) tp.nv
def sF_ (ft:FT) (m:MR) (low:List Nat) (u:Tm->AV->Tm) (S:VS) (X:VX->VT) (k:VS->VT):List (Bool×Tpl)->VTs
 |[]=>.nil
 |(b,tp)::r=>.cons tp.nv (match b with
  |false=>k ⟨u S.T (exV ft m low S tp),exH ft m low S tp,exN ft S tp,S.lv,S.D⟩
  |true=>X (.pan (exV ft m low S tp) ⟨S.T,exH ft m low S tp,exN ft S tp,S.lv,S.D⟩)) (sF_ ft m low u S X k r)
def l0_ (g:FuncId) (ft:FT) (u:Tm->AV->Tm) (S:VS) (args:List AV) (X:VX->VT) (k:VS->VT):VT:=match lA_ ft.ent ⟨aT_ args 0 topq,S.H,S.n,S.lv,[]⟩with
 |f=>match hf_ 64 ft.ent f.S.T f.S.H with
  |none=>.bad
  |some m=>match og_ m ft.k with
   |none=>.bad
   |some low=>match pI_ ft.k (Nat.add 64 ft.ent.nv) f.S.H ft.exs&&(Nat.ble f.S.H.hi top&&(Nat.beq (aL_ args) (aL_ (cv_ ft.ent.slots))&&(jH_ 0 ft.ent.slots&&lC_ f.S.H low)))with
    |true=>jD_ f.l (.callF g ft m.hv S.n (sF_ ft m low u ⟨S.T,f.S.H,S.n,S.lv,S.D⟩ X k ft.exs))
    |false=>.bad
def oG_ (P:Program) (g:FuncId) (ft:FT) (o:Oper) (u:Tm->AV->Tm) (S:VS) (args:List AV) (X:VX->VT) (k:VS->VT):VT:=match gv_ (aT_ args 0 topq) ft.ent.slots with
 |[]=>l0_ g ft u S args X k
 |l=>match hX_ S l with
  |f=>match (ac_ P o).run f.S.T f.S.H with
   |some r=>match r with
    | .call g' args'=>match Nat.beq g' g with
      |true=>jD_ f.l (l0_ g ft u f.S args' X k)
      |false=>.bad
    |_=>.bad
   |none=>.bad
def INL (P:Program) (Q:AV->Prop) (fc:FcT) (L:List (Nat->List AV->Prop)) (n:Nat) (Y:Sy) (ret pan:AV->AHeap->Nat->Nat->VT) (Y':Sy) (r:FRes):Prop:=
 ∃(n' lv':Nat) (L':List (Nat->List AV->Prop)),L <+: L'/\L'.length=lv'/\n<=n'/\(∀i,i<n->Y'.v i=Y.v i)/\(Fresh Y' n'/\KnownF P fc Y')/\(match r with
  | .ret a H=>VOK P Q L' Y' (ret a H n' lv')
  | .pan a H=>VOK P Q L' Y' (pan a H n' lv'))
structure Inl (P:Program) (fuel:Nat) where
 run:VC->FuncId->List AV->AHeap->Nat->Nat->(AV->AHeap->Nat->Nat->VT)->(AV->AHeap->Nat->Nat->VT)->VT
 ok:∀{c:VC} {g:FuncId} {args:List AV} {H:AHeap} {n lv:Nat} {ret pan:AV->AHeap->Nat->Nat->VT} {Q:AV->Prop} {L:List (Nat->List AV->Prop)} {Y:Sy},P.follows .mixedOrders=true->an_ P (aM_ P fuel)->L.length=lv->Fresh Y n/\KnownF P c.fc Y->
  VOK P Q L Y (run c g args H n lv ret pan)->SemCallF P H.next Y g args H (INL P Q c.fc L n Y ret pan)
def in0 (P:Program) (fuel:Nat):Inl P fuel:=⟨λ_ _ _ _ _ _ _ _=>.bad,λ_ _ _ _ h=>by grind [VOK]⟩
def l1_ (P:Program) {fuel:Nat} (I:Inl P fuel) (c:VC) (o:Oper) (u:Tm->AV->Tm) (S:VS) (X:VX->VT) (k:VS->VT):VT:=match fN_ S.H.next S.n S.D&&Nat.ble c.k S.H.next with
 |false=>.bad
 |true=>match bc_ (bU_ S.H.next S.n) S.T with
  |T1=>match (ac_ P o).run T1 S.H with
   |some r=>match r with
    | .call g args=>I.run c g args S.H S.n S.lv
      (λa H n lv=>match Nat.beq lv S.lv with
       |true=>k ⟨u T1 a,H,n,lv,S.D⟩
       |false=>.bad)
      (λa H n lv=>match Nat.beq lv S.lv with
       |true=>X (.pan a ⟨T1,H,n,lv,S.D⟩)
       |false=>.bad)
    |_=>.bad
   |none=>.bad
def sy_ (P:Program) (fuel:Nat) (I:Inl P fuel) (c:VC) (o:Oper) (u:Tm->AV->Tm) (S:VS) (g:FuncId) (args:List AV) (X:VX->VT) (k:VS->VT):VT:=match uF_ c.fs g with
 |some ft=>oG_ P g ft o u S args X k
 |none=>match u1_ c.cs g with
  |some sh=>match ad_ args with
   |true=>.call g args S.n sh (k ⟨u S.T (dm_ S.n sh),S.H,Nat.add S.n (dD_ sh),S.lv,S.D⟩)
   |false=>match (ac_ P o).run (dt_ S args).T (dt_ S args).H with
    |some r=>match r with
     | .call g' args'=>match Nat.beq g' g&&ad_ args' with
       |true=>.call g args' S.n sh (k ⟨u (dt_ S args).T (dm_ S.n sh),(dt_ S args).H,Nat.add S.n (dD_ sh),S.lv,S.D⟩)
       |false=>.bad
     |_=>.bad
    |none=>.bad
  |none=>match aM_ P fuel g args S.H with
   |some r=>match r with
    | .ret a H'=>k ⟨u S.T a,H',S.n,S.lv,S.D⟩
    | .pan _ _=>l1_ P I c o u S X k
   |none=>l1_ P I c o u S X k
def tY_ (P:Program) (c:VC) (u:Tm->AV->Tm) (S:VS) (k:VS->VT) (op:XOp) (args:List AV):VT:=match kM_ P op with
 |none=>match kz_ c.fc.b op args with
  |some v=>k ⟨u S.T v,S.H,S.n,S.lv,S.D⟩
  |none=>.lt op args S.n none (k ⟨u S.T (.sym S.n),S.H,Nat.succ S.n,S.lv,S.D⟩)
 |some m=>.lt op args S.n (some m) (k ⟨u S.T (.agg (ag_ S.n m)),S.H,Nat.add S.n m,S.lv,S.D⟩)
def vf_ (P:Program) (c:VC) (o:Oper) (u:Tm->AV->Tm) (S:VS) (k:VS->VT):Option VT:=match c.own with
 |false=>none
 |true=>match r8_ P S.T o with
  |some a=>some (k ⟨u S.T a,S.H,S.n,S.lv,S.D⟩)
  |none=>match qr_ P S.T o with
   |some (op,args,id,sz)=>some (.lt op args S.n none (k ⟨u S.T (.ptx id S.n sz 0),S.H,Nat.succ S.n,S.lv,S.D⟩))
   |none=>match ldX S.T S.H o with
    |some (op,args)=>match kM_ P op with
     |none=>some (.lt op args S.n none (k ⟨u S.T (.sym S.n),S.H,Nat.succ S.n,S.lv,S.D⟩))
     |some m=>some (.lt op args S.n (some m) (k ⟨u S.T (.agg (ag_ S.n m)),S.H,Nat.add S.n m,S.lv,S.D⟩))
    |none=>match stX S.T S.H o with
     |some (op,args,id)=>some (.lt op args S.n none (k ⟨u S.T (.tup []),S.H.set id (.syl S.n),Nat.succ S.n,S.lv,S.D⟩))
     |none=>match tkX P S.T S.H o with
        |some (op,args,id,sz)=>some (.lt op args S.n none (k ⟨u S.T (.slx id sz S.n),S.H.set id (.syl S.n),Nat.succ S.n,S.lv,S.D⟩))
        |none=>none
def sN_ (P:Program) (fuel:Nat) (I:Inl P fuel) (c:VC) (o:Oper) (u:Tm->AV->Tm) (S:VS) (X:VX->VT) (k:VS->VT):VT:=match (ac_ P o).run S.T S.H with
 |some r=>match r with
  | .val a H'=>k ⟨u S.T a,H',S.n,S.lv,S.D⟩
  | .call g args=>sy_ P fuel I c o u S g args X k
  | .dfr g args=>k ⟨u S.T (.tup []),S.H,S.n,S.lv,(g,args)::S.D⟩
  | .pan v=>X (.pan v S)
  |_=>.bad
 |none=>match gD_ o S.T with
  |some (i,a,b)=>.ite i (k ⟨u (S.know i true).T (look (S.know i true).T a),S.H,S.n,S.lv,S.D⟩) (k ⟨u (S.know i false).T (look (S.know i false).T b),S.H,S.n,S.lv,S.D⟩)
  |none=>match oP_ c.fc.x S.T o with
   |some v=>k ⟨u S.T v,S.H,S.n,S.lv,S.D⟩
   |none=>match vf_ P c o u S k with
    |some t=>t
    |none=>match q3_ P S o with
    |some (id,sz,op,args)=>.lt op args S.n none (k ⟨u S.T (.slx S.H.next sz S.n),(S.H.erase id).push (.syl S.n),Nat.succ S.n,S.lv,S.D⟩)
    |none=>match nP_ P S o with
    |some (id,sz,op,args)=>.lt op args S.n none (k ⟨u S.T (.slx S.H.next sz S.n),(S.H.erase id).push (.syl S.n),Nat.succ S.n,S.lv,S.D⟩)
    |none=>match oe_ S.T o with
     |some (op,args)=>.lt op args S.n none (k ⟨u S.T (.sym S.n),S.H,Nat.succ S.n,S.lv,S.D⟩)
     |none=>match rU_ P S o with
     |some (id,op,args)=>.lt op args S.n none (k ⟨u S.T (.tup []),S.H.set id (.mpl S.n),Nat.succ S.n,S.lv,S.D⟩)
     |none=>match rQ_ S.T S.H o with
     |some (op,args)=>match oa_ P o with
      |true=>.lt op args S.n none (k ⟨u S.T (.sym S.n),S.H,Nat.succ S.n,S.lv,S.D⟩)
      |false=>.bad
     |none=>match kv_ S.T S.H o with
     |some (op,args)=>.lt op args S.n none (k ⟨u S.T (.sym S.n),S.H,Nat.succ S.n,S.lv,S.D⟩)
     |none=>match mgX S.T S.H o with
     |some (op,args)=>.lt op args S.n none (k ⟨u S.T (.sym S.n),S.H,Nat.succ S.n,S.lv,S.D⟩)
     |none=>match uE_ P S.T o with
     |some (op,args)=>.lt op args S.n none (k ⟨u S.T (.sym S.n),S.H,Nat.succ S.n,S.lv,S.D⟩)
     |none=>match cK_ S.T o with
      |some (op,args)=>match ad_ args with
       |true=>tY_ P c u S k op args
       |false=>match cK_ (dt_ S args).T o with
        |some (op',args')=>match ad_ args' with
         |true=>tY_ P c u (dt_ S args) k op' args'
         |false=>.bad
        |none=>.bad
      |none=>.bad
def sJ_ (all:List Oper) (o:Oper) (T:Tm):Option Bool:=match aZ_ all o with
 | .always=>some true
 | .mk g=>g T
def vOp (P:Program) (fuel:Nat) (I:Inl P fuel) (c:VC) (all:List Oper) (o:Oper) (u:Tm->AV->Tm) (X:VX->VT) (next:VS->VT) (S:VS):VT:=match sJ_ all o S.T with
 |some t=>match t with
  |false=>next ⟨u S.T (.tup []),S.H,S.n,S.lv,S.D⟩
  |true=>sN_ P fuel I c o u S X next
 |none=>.bad
def sb_ (T:Tm):List (Nat×Operand)->List AV
 |[]=>[]
 |(_,x)::r=>match look T x with
  | .slx id z i=>.slx id z i::sb_ T r
  |_=>sb_ T r
def ne_:List AV->List AV
 |[]=>[]
 |a::r=>match a with
  | .slx id z i=>.slx id z i::ne_ r
  | .sl id o l z c=>.sl id o l z c::ne_ r
  |_=>ne_ r
def nf_ (T:Tm):List (Nat×Operand)->List AV
 |[]=>[]
 |(_,x)::r=>match look T x with
  | .slx id z i=>.slx id z i::nf_ T r
  | .sl id o l z c=>.sl id o l z c::nf_ T r
  | .agg cs=>j1_ (ne_ cs) (nf_ T r)
  |_=>nf_ T r
def n5_ (own:Bool) (o:Oper) (S:VS):VS:=match o.op with
 | .buildSlice _ _ ps=>match (match own with
   |true=>nf_ S.T ps.toList
   |false=>sb_ S.T ps.toList)with
   |[]=>S
   |a=>dt_ S a
 | .call c=>match own with
   |false=>S
   |true=>match c.callee with
    | .builtin b=>match b with
      | .append=>match c.args.toList with
        |[_,x]=>match look S.T x with
         | .sl id _ _ _ _=>match S.H.get id with
          |some (.cells cs)=>match ne_ cs with
           |[]=>S
           |a=>uu_ S a id
          |_=>S
         |_=>S
        |_=>S
      |_=>S
    |_=>S
 |_=>S
def l2_ (P:Program) (N fuel:Nat) (I:Inl P fuel) (c:VC) (all:List Oper) (X:VX->VT):List Oper->VS->(VS->VT)->VT
 |[],S,K=>K S
 |o::r,S,K=>match bT_ N o.dst with
  | .bad=>.bad
  | .mk u=>match iW_ all o S.T with
    |some i=>.ite i (vOp P fuel I c all o u X (λS=>l2_ P N fuel I c all X r S K) (S.know i true)) (vOp P fuel I c all o u X (λS=>l2_ P N fuel I c all X r S K) (S.know i false))
    |none=>vOp P fuel I c all o u X (λS=>l2_ P N fuel I c all X r S K) (n5_ c.own o S)
def isM (x:SI):Bool:=match x.o.op with
 | .alloc _=>true
 | .box _ _=>true
 | .buildSlice _ _ _=>true
 |_=>false
inductive Tch where
 |none
 |one (id:Nat)
 |all
def hu_ (x:SI) (R:Tm):Tch:=match x.o.op with
 | .call c=>match kJ_ x with
   |false=>.all
   |true=>match c.args.toList with
    |s::r=>match look R s with
     | .slx id _ _=>.one id
     | .sym _=>.none
     | .sl id _ _ _ _=>.one id
     | .vsl n _ _=>match n with
       |0=>match r with
        |y::_=>match look R y with
          | .sym _=>.none
          |_=>.all
        |[]=>.all
       |_+1=>.all
     |_=>.all
    |[]=>.all
 |_=>.all
def iz_ (x:SI) (R:Tm):Bool:=match kJ_ x with
 |false=>false
 |true=>match hu_ x R with
  | .all=>false
  |_=>true
def b2_ (x:SI) (R:Tm):Tch:=match isM x with
 |true=>.none
 |false=>match x.o.op with
  | .store _ a _=>match look R a with
    | .ptr id _=>.one id
    | .ptx id _ _ _=>.one id
    |_=>.all
  |_=>hu_ x R
def apart (t:Tch) (ids:List Nat):Bool:=match t with
 | .none=>true
 | .one id=>not (memT id ids)
 | .all=>match ids with
   |[]=>true
   |_::_=>false
structure GW where
 i:Nat
 H:AHeap
 t:Tch
def na_ (bef:Nat) (H:AHeap):List GW->AHeap
 |[]=>H
 |g::r=>match bit bef g.i with
  |true=>H
  |false=>na_ bef g.H r
def r3_ (bef:Nat) (ids:List Nat):List GW->Bool
 |[]=>true
 |g::r=>match bit bef g.i with
  |true=>true
  |false=>apart g.t ids&&r3_ bef ids r
def tt_ (bef:Nat) (t:Tch):List (Nat×List Nat)->Bool
 |[]=>true
 |(i,ids)::r=>(bit bef i||apart t ids)&&tt_ bef t r
def di_ (H:AHeap):List Nat->AHeap
 |[]=>⟨hnil,0,0⟩
 |id::r=>match H.get id with
  |some b=>(di_ H r).set id b
  |none=>di_ H r
def vJ_ (a:AV) (acc:List Nat):List Nat:=match a with
 | .ptr id _=>id::acc
 | .sl id _ _ _ _=>id::acc
 | .map id=>id::acc
 | .ptx id _ _ _=>id::acc
 |_=>acc
def uf_ (T:Tm):List Nat->List Nat
 |[]=>[]
 |t::r=>vJ_ (tget T t) (uf_ T r)
def gw_ (x:SI) (T:Tm):List Nat:=match wA_ x with
 |true=>[]
 |false=>uf_ T x.rd
def g5_ (x:SI) (S:VS) (gs:List GW):AHeap:=di_ (na_ x.bef S.H gs) (gw_ x S.T)
def py_ (x:SI) (i:Nat) (y:SI):Bool:=match isW x&&isW y with
 |true=>bit y.bef i
 |false=>true
def ol_ (x:SI) (i:Nat):List SI->Bool
 |[]=>true
 |y::r=>py_ x i y&&ol_ x i r
def lK_:List SI->Nat->Bool
 |[],_=>true
 |x::r,i=>ol_ x i r&&lK_ r (Nat.succ i)
def rA_ (x:SI):Nat->Bool
 |0=>true
 |n+1=>bit x.bef n&&rA_ x n
def su_ (x:SI) (i n:Nat):Nat:=match Nat.beq n (Nat.succ i)&&rA_ x i with
 |true=>i
 |false=>n
def dn_:List SI->Nat->Nat
 |[],i=>i
 |x::r,i=>su_ x i (dn_ r (Nat.succ i))
def es_:Nat->List SI->List SI
 |0,_=>[]
 |_+1,[]=>[]
 |n+1,x::r=>x::es_ n r
def oY_:Nat->List Oper->List Oper
 |0,l=>l
 |_+1,[]=>[]
 |n+1,_::r=>oY_ n r
def pS_ (P:Program) (x:SI) (Hx:AHeap) (u:Tm->AV->Tm) (S:VS) (k:VS->VT):VT:=match cn_ (ac_ P x.o) (av_ S.T x.rd topq) Hx with
 |some q=>k ⟨u S.T q,S.H,S.n,S.lv,S.D⟩
 |none=>.bad
def sA_ (u:Tm->AV->Tm) (S:VS) (k:VS->VT) (R:Tm) (o:Oper) (id sz:Nat) (op:XOp) (args:List AV):VT:=match aH_ S.n args with
 |true=>match S.H.get S.H.next with
  |none=>match fP_ args with
   |true=>.lt op args S.n none (k ⟨u S.T (.slx S.H.next sz S.n),(S.H.erase id).push (.syl S.n),Nat.succ S.n,S.lv,S.D⟩)
   |false=>match da_ args with
    |some i=>.lt .emp [.sym i] S.n none (.ite S.n (k ⟨u S.T (ms_ R o),S.H,Nat.succ S.n,S.lv,S.D⟩)
     (.lt op args (Nat.succ S.n) none (k ⟨u S.T (.slx S.H.next sz (Nat.succ S.n)),(S.H.erase id).push (.syl (Nat.succ S.n)),Nat.succ (Nat.succ S.n),S.lv,S.D⟩)))
    |none=>.bad
  |some _=>.bad
 |false=>.bad
def nB_ (P:Program) (x:SI) (u:Tm->AV->Tm) (S:VS) (k:VS->VT):VT:=match kJ_ x with
 |false=>.bad
 |true=>match gd_ P (av_ S.T x.rd topq) S.H x.o with
  |some (id,sz,op,args)=>match aH_ S.n args with
   |true=>match S.H.get S.H.next with
    |none=>match fP_ args with
     |true=>.lt op args S.n none (k ⟨u S.T (.slx S.H.next sz S.n),(S.H.erase id).push (.syl S.n),Nat.succ S.n,S.lv,S.D⟩)
     |false=>match da_ args with
        |some i=>.chk (.pos i) (.lt op args S.n none (k ⟨u S.T (.slx S.H.next sz S.n),(S.H.erase id).push (.syl S.n),Nat.succ S.n,S.lv,S.D⟩))
        |none=>.bad
    |some _=>.bad
   |false=>.bad
  |none=>match cP_ P (av_ S.T x.rd topq) S.H x.o with
   |some (id,sz,op,args)=>sA_ u S k (av_ S.T x.rd topq) x.o id sz op args
   |none=>match cK_ (av_ S.T x.rd topq) x.o with
    |some (op,args)=>match ad_ args&&aH_ S.n args with
     |true=>match kM_ P op with
      |none=>.lt op args S.n none (k ⟨u S.T (.sym S.n),S.H,Nat.succ S.n,S.lv,S.D⟩)
      |some _=>.bad
     |false=>.bad
    |none=>.bad
def vDW (P:Program) (c:VC) (x:SI) (u:Tm->AV->Tm) (S:VS) (k:VS->VT):VT:=match (ac_ P x.o).run (av_ S.T x.rd topq) S.H with
 |some r=>match r with
  | .val a H'=>match isM x with
    |true=>match S.H.get S.H.next with
     |none=>k ⟨u S.T a,H',S.n,S.lv,S.D⟩
     |some _=>.bad
    |false=>match iz_ x (av_ S.T x.rd topq)with
     |true=>nB_ P x u S k
     |false=>k ⟨u S.T a,H',S.n,S.lv,S.D⟩
  |_=>.bad
 |none=>match c.own with
  |false=>nB_ P x u S k
  |true=>match stX (av_ S.T x.rd topq) S.H x.o with
   |some (op,args,id)=>match aH_ S.n args&&not (isM x)with
    |true=>.lt op args S.n none (k ⟨u S.T (.tup []),S.H.set id (.syl S.n),Nat.succ S.n,S.lv,S.D⟩)
    |false=>.bad
   |none=>nB_ P x u S k
def ut_ (P:Program) (c:VC) (R:Tm) (Hx:AHeap) (o:Oper) (u:Tm->AV->Tm) (S:VS) (k:VS->VT):Option VT:=match c.own with
 |false=>none
 |true=>match r8_ P R o with
  |some a=>some (k ⟨u S.T a,S.H,S.n,S.lv,S.D⟩)
  |none=>match qr_ P R o with
   |some (op,args,id,sz)=>match aH_ S.n args with
    |true=>some (.lt op args S.n none (k ⟨u S.T (.ptx id S.n sz 0),S.H,Nat.succ S.n,S.lv,S.D⟩))
    |false=>none
   |none=>match ldX R Hx o with
    |some (op,args)=>match aH_ S.n args with
     |true=>match kM_ P op with
        |none=>some (.lt op args S.n none (k ⟨u S.T (.sym S.n),S.H,Nat.succ S.n,S.lv,S.D⟩))
        |some m=>some (.lt op args S.n (some m) (k ⟨u S.T (.agg (ag_ S.n m)),S.H,Nat.add S.n m,S.lv,S.D⟩))
     |false=>none
    |none=>match oe_ R o with
     |some (op,args)=>match aH_ S.n args with
        |true=>some (.lt op args S.n none (k ⟨u S.T (.sym S.n),S.H,Nat.succ S.n,S.lv,S.D⟩))
        |false=>none
     |none=>none
def nS_ (P:Program) (R:Tm) (o:Oper):Option AV:=match o.op with
 | .buildSlice t n ps=>match bz_ P ⟨hnil,0,1⟩ t n (dJ_ (look R) ps.toList)with
   |some r=>match r.1 with
    | .sl _ _ len sz _=>match r.2.get 0 with
      |some (.cells cs)=>match ad_ cs with
       |true=>some (.vsl len sz cs)
       |false=>none
      |_=>none
    |_=>none
   |none=>none
 |_=>none
def v2_ (P:Program) (x:SI) (u:Tm->AV->Tm) (S:VS) (k:VS->VT):VT:=match nS_ P (av_ S.T x.rd topq) x.o with
 |some q=>k ⟨u S.T q,S.H,S.n,S.lv,S.D⟩
 |none=>.bad
def sB_ (P:Program) (c:VC) (x:SI) (Hx:AHeap) (u:Tm->AV->Tm) (S:VS) (k:VS->VT):VT:=match cn_ (ac_ P x.o) (av_ S.T x.rd topq) Hx with
 |some q=>k ⟨u S.T q,S.H,S.n,S.lv,S.D⟩
 |none=>match ut_ P c (av_ S.T x.rd topq) Hx x.o u S k with
 |some t=>t
 |none=>match (ac_ P x.o).run (av_ S.T x.rd topq) Hx with
  |some r=>match r with
   | .call g args=>match u1_ c.cs g with
     |some sh=>match ad_ args&&aH_ S.n args with
      |true=>.call g args S.n sh (k ⟨u S.T (dm_ S.n sh),S.H,Nat.add S.n (dD_ sh),S.lv,S.D⟩)
      |false=>.bad
     |none=>.bad
   |_=>.bad
  |none=>match gD_ x.o S.T with
   |some (i,_,_)=>.ite i (pS_ P x Hx u (S.know i true) k) (pS_ P x Hx u (S.know i false) k)
   |none=>match kv_ (av_ S.T x.rd topq) Hx x.o with
    |some (op,args)=>match aH_ S.n args with
     |true=>.lt op args S.n none (k ⟨u S.T (.sym S.n),S.H,Nat.succ S.n,S.lv,S.D⟩)
     |false=>.bad
    |none=>match cK_ (av_ S.T x.rd topq) x.o with
     |some (op,args)=>match ad_ args&&aH_ S.n args with
      |true=>match kM_ P op with
        |none=>.lt op args S.n none (k ⟨u S.T (.sym S.n),S.H,Nat.succ S.n,S.lv,S.D⟩)
        |some m=>.lt op args S.n (some m) (k ⟨u S.T (.agg (ag_ S.n m)),S.H,Nat.add S.n m,S.lv,S.D⟩)
      |false=>.bad
     |none=>.bad
def kh_ (P:Program) (x:SI) (nx:Nat):Option (AV×ABlk):=match x.o.op with
 | .alloc t=>match fi_ P ⟨hnil,nx,Nat.succ nx⟩ t with
   |some p=>match p.2.get nx with
    |some k=>some (p.1,k)
    |none=>none
   |none=>none
 |_=>none
def ix_ (P:Program):List SI->AHeap->Option AHeap
 |[],H=>some H
 |x::r,H=>match cs_ x with
  |false=>ix_ P r H
  |true=>match H.get H.next with
   |some _=>none
   |none=>match H.room with
    |false=>none
    |true=>match kh_ P x H.next with
     |some p=>ix_ P r (H.push p.2)
     |none=>none
def kg_ (bef:Nat) (ids:List Nat):List SI->Nat->Nat->Bool
 |[],_,_=>true
 |y::r,i,nx=>match cs_ y with
  |false=>kg_ bef ids r (Nat.succ i) nx
  |true=>(bit bef i||not (memT nx ids))&&kg_ bef ids r (Nat.succ i) (Nat.succ nx)
def kf_ (bef:Nat):List SI->Nat->Bool
 |[],_=>true
 |y::r,i=>match cs_ y with
  |false=>kf_ bef r (Nat.succ i)
  |true=>bit bef i&&kf_ bef r (Nat.succ i)
def ki_ (l0:List SI):List SI->Bool
 |[]=>true
 |x::r=>match isW x with
  |false=>ki_ l0 r
  |true=>kf_ x.bef l0 0&&ki_ l0 r
def eV_ (x:SI) (nx:Nat):Nat:=match cs_ x with
 |true=>Nat.succ nx
 |false=>nx
def qS_ (P:Program) (c:VC) (all:List Oper) (l0:List SI) (n0 nx:Nat) (x:SI) (gs:List GW) (ps:List (Nat×List Nat)) (u:Tm->AV->Tm) (next:VS->VT) (S:VS):VT:=match aK_ all x (av_ S.T x.rd topq)with
 |some t=>match t with
  |false=>next ⟨u S.T (.tup []),S.H,S.n,S.lv,S.D⟩
  |true=>match cs_ x with
   |true=>match kh_ P x nx with
    |some p=>next ⟨u S.T p.1,S.H,S.n,S.lv,S.D⟩
    |none=>.bad
   |false=>match isW x with
    |true=>match tt_ x.bef (b2_ x (av_ S.T x.rd topq)) ps with
     |true=>vDW P c x u S next
     |false=>.bad
    |false=>match r3_ x.bef (gw_ x S.T) gs&&kg_ x.bef (gw_ x S.T) l0 0 n0 with
     |true=>match x.fz with
      |true=>v2_ P x u S next
      |false=>sB_ P c x (g5_ x S gs) u S next
     |false=>.bad
 |none=>.bad
def iV_ (x:SI) (i:Nat) (S:VS) (gs:List GW):List GW:=match isW x with
 |true=>⟨i,S.H,b2_ x (av_ S.T x.rd topq)⟩::gs
 |false=>gs
def jr_ (x:SI) (i:Nat) (S:VS) (ps:List (Nat×List Nat)):List (Nat×List Nat):=match isW x with
 |true=>ps
 |false=>(i,gw_ x S.T)::ps
def jP_ (P:Program) (N:Nat) (c:VC) (all:List Oper) (l0:List SI) (n0:Nat):List SI->Nat->Nat->List GW->List (Nat×List Nat)->VS->(VS->VT)->VT
 |[],_,_,_,_,S,K=>K S
 |x::r,i,nx,gs,ps,S,K=>match bT_ N x.o.dst with
  | .bad=>.bad
  | .mk u=>match iW_ all x.o S.T with
    |some k=>.ite k (qS_ P c all l0 n0 nx x gs ps u (λS'=>jP_ P N c all l0 n0 r (Nat.succ i) (eV_ x nx) (iV_ x i (S.know k true) gs) (jr_ x i (S.know k true) ps) S' K) (S.know k true)) (qS_ P c all l0 n0 nx x gs ps u (λS'=>jP_ P N c all l0 n0 r (Nat.succ i) (eV_ x nx) (iV_ x i (S.know k false) gs) (jr_ x i (S.know k false) ps) S' K) (S.know k false))
    |none=>qS_ P c all l0 n0 nx x gs ps u (λS'=>jP_ P N c all l0 n0 r (Nat.succ i) (eV_ x nx) (iV_ x i S gs) (jr_ x i S ps) S' K) S
def nD_ (P:Program) (N fuel:Nat) (I:Inl P fuel) (c:VC) (ops:List Oper) (S:VS) (X:VX->VT) (K:VS->VT):VT:=match os_ ops with
 | .mk l _=>match dn_ l 0 with
   |b=>match lK_ (es_ b l) 0&&ki_ (es_ b l) (es_ b l)with
    |true=>match ix_ P (es_ b l) S.H with
     |some H=>jP_ P N c ops (es_ b l) S.H.next (es_ b l) 0 S.H.next [] [] ⟨S.T,H,S.n,S.lv,S.D⟩ λS=>l2_ P N fuel I c ops X (oY_ b ops) S K
     |none=>.bad
    |false=>.bad
 | .no=>.bad
def isF (c:VC) (o:Oper):Bool:=match o.op with
 | .call cl=>match cl.callee with
   | .value f=>match f with
     | .func g=>match uF_ c.fs g with
       |some _=>true
       |none=>false
     |_=>false
   |_=>false
 |_=>false
def vI_ (c:VC):List Oper->Bool
 |[]=>false
 |o::r=>match isF c o with
  |true=>true
  |false=>vI_ c r
def nc_ (m:Nat):List Edge->Bool
 |[]=>true
 |e::r=>match d5_ e with
  |true=>bit m e.on&&nc_ m r
  |false=>nc_ m r
structure InO where
 i:Nat
 o:Oper
def ju_ (m:Nat):List Oper->Nat->List InO
 |[],_=>[]
 |o::r,i=>match not (bit m i)&&nc_ m o.after.toList with
  |true=>⟨i,o⟩::ju_ m r (Nat.succ i)
  |false=>ju_ m r (Nat.succ i)
def kc_ (m i:Nat):Nat:=Nat.lor m (Nat.pow 2 i)
def s7_ (i:Nat):List Edge->Bool
 |[]=>false
 |e::r=>match d5_ e&&Nat.beq e.on i with
  |true=>true
  |false=>s7_ i r
def apartB (all:List Oper) (x y:Oper):Bool:=(match x.dst with
    |some d=>not (memT d (c2_ all y))&&(match y.dst with
     |some e=>not (Nat.beq d e)
     |none=>true)
    |none=>true)&&(match y.dst with
    |some e=>not (memT e (c2_ all x))
    |none=>true)
def kB_ (all:List Oper) (m i:Nat) (x:Oper):List Oper->Nat->Bool
 |[],_=>true
 |y::r,j=>(Nat.beq j i||(bit m j||(s7_ i y.after.toList||apartB all x y)))&&kB_ all m i x r (Nat.succ j)
def m3_:List Oper->Bool
 |[]=>true
 |o::r=>match o.op with
  | .select _ _=>false
  |_=>m3_ r
def pu_ (P:Program) (T:Tm) (o:Oper):Option AV:=match o.guard with
 |some _=>none
 |none=>match o.op with
  | .move x=>some (look T x)
  | .nilCheck x=>match look T x with
    | .ptr id off=>some (.ptr id off)
    |_=>none
  | .fieldAddr s x f=>match look T x with
    | .ptr id off=>bY_ P s (.ptr id off) f
    |_=>none
  | .extract x i=>match look T x with
    | .tup cs=>m4_ i cs
    |_=>none
  |_=>none
structure MV where
 x:InO
 a:AV
def jp_ (P:Program) (all:List Oper) (m:Nat) (T:Tm):List InO->Option MV
 |[]=>none
 |x::r=>match pu_ P T x.o with
  |some a=>match kB_ all m x.i x.o all 0 with
   |true=>some ⟨x,a⟩
   |false=>jp_ P all m T r
  |none=>jp_ P all m T r
structure CV where
 x:InO
 s:TypeId
 d:TypeId
 j:Nat
def oT_ (P:Program) (T:Tm) (o:Oper):Option (TypeId×TypeId×Nat):=match o.guard with
 |some _=>none
 |none=>match o.op with
  | .convert s d x=>match look T x with
    | .sym j=>match P.underlying d with
      |some (.int _)=>some (s,d,j)
      |_=>none
    |_=>none
  |_=>none
def fv_ (P:Program) (all:List Oper) (m:Nat) (T:Tm):List InO->Option CV
 |[]=>none
 |x::r=>match oT_ P T x.o with
  |some q=>match kB_ all m x.i x.o all 0 with
   |true=>some ⟨x,q.1,q.2.1,q.2.2⟩
   |false=>fv_ P all m T r
  |none=>fv_ P all m T r
def r7_ (P:Program) (c:VC) (all:List Oper) (m:Nat) (T:Tm) (l:List InO):Option CV:=match gu_ c.hs 40000 with
 |some _=>fv_ P all m T l
 |none=>none
def rr_:List (Nat×AV)->List (Nat×AV)->Bool
 |[],[]=>true
 |(i,a)::r,(j,b)::s=>Nat.beq i j&&(bV_ a b&&rr_ r s)
 |_,_=>false
def rs_:List (Nat×List AV)->List (Nat×List AV)->Bool
 |[],[]=>true
 |(i,a)::r,(j,b)::s=>Nat.beq i j&&(ds_ a b&&rs_ r s)
 |_,_=>false
def nW_:Option Nat->Option Nat->Bool
 |none,none=>true
 |some a,some b=>Nat.beq a b
 |_,_=>false
def rq_:List (Option Nat)->List (Option Nat)->Bool
 |[],[]=>true
 |a::r,b::s=>nW_ a b&&rq_ r s
 |_,_=>false
def p8_:List (Nat×Nat)->List (Nat×Nat)->Bool
 |[],[]=>true
 |(i,a)::r,(j,b)::s=>Nat.beq i j&&(Nat.beq a b&&p8_ r s)
 |_,_=>false
def mu_:List TA->List TA->Bool
 |[],[]=>true
 |⟨a,b,c,d,e⟩::r,⟨a',b',c',d',e'⟩::s=>Nat.beq a a'&&(Nat.beq b b'&&(Nat.beq c c'&&(Nat.beq d d'&&(nW_ e e'&&mu_ r s))))
 |_,_=>false
def o7_:Tpl->Tpl->Bool
 |⟨a,b,c,d,e,f,g⟩,⟨a',b',c',d',e',f',g'⟩=>rr_ a a'&&(rs_ b b'&&(Nat.beq c c'&&(Nat.beq d d'&&(mu_ e e'&&(p8_ f f'&&p8_ g g')))))
def ro_:List (Bool×Tpl)->List (Bool×Tpl)->Bool
 |[],[]=>true
 |(i,a)::r,(j,b)::s=>i==j&&(o7_ a b&&ro_ r s)
 |_,_=>false
def vH_:FT->FT->Bool
 |⟨a,b,c⟩,⟨a',b',c'⟩=>Nat.beq a a'&&(o7_ b b'&&ro_ c c')
def uD_:XOp->XOp->Bool
 | .bin o t a b,.bin o' t' a' b'=>decide (o=o')&&(Nat.beq t t'&&(a==a'&&b==b'))
 | .un o,.un o'=>decide (o=o')
 | .conv a b,.conv a' b'=>Nat.beq a a'&&Nat.beq b b'
 | .idx a,.idx a'=>Nat.beq a a'
 | .iaddr a,.iaddr a'=>Nat.beq a a'
 | .faddr a b,.faddr a' b'=>Nat.beq a a'&&Nat.beq b b'
 | .load a,.load a'=>Nat.beq a a'
 | .fld a b,.fld a' b'=>Nat.beq a a'&&Nat.beq b b'
 | .slc t a b,.slc t' a' b'=>Nat.beq t t'&&(a==a'&&b==b')
 | .len a,.len a'=>Nat.beq a a'
 | .nilc,.nilc=>true
 | .app a b,.app a' b'=>Nat.beq a a'&&Nat.beq b b'
 | .mm a,.mm a'=>a==a'
 | .ext a,.ext a'=>Nat.beq a a'
 | .inb,.inb=>true
 | .ldx a b c,.ldx a' b' c'=>Nat.beq a a'&&(Nat.beq b b'&&Nat.beq c c')
 | .stx a b c,.stx a' b' c'=>Nat.beq a a'&&(Nat.beq b b'&&Nat.beq c c')
 | .tkx,.tkx=>true
 | .emp,.emp=>true
 | .mkx a b c,.mkx a' b' c'=>Nat.beq a a'&&(Nat.beq b b'&&ds_ c c')
 | .mkz a b c,.mkz a' b' c'=>Nat.beq a a'&&(Nat.beq b b'&&ds_ c c')
 | .skx,.skx=>true
 | .flat a b c d,.flat a' b' c' d'=>Nat.beq a a'&&(Nat.beq b b'&&(Nat.beq c c'&&Nat.beq d d'))
 | .opn a b,.opn a' b'=>Nat.beq a a'&&Nat.beq b b'
 |_,_=>false
def rl_:Chk->Chk->Bool
 | .same i j,.same i' j'=>Nat.beq i i'&&Nat.beq j j'
 | .nn i,.nn i'=>Nat.beq i i'
 | .pos i,.pos i'=>Nat.beq i i'
 |_,_=>false
mutual
def dP_:VT->VT->Bool
 | .done v,.done w=>bV_ v w
 | .ite i a b,.ite i' a' b'=>Nat.beq i i'&&(dP_ a a'&&dP_ b b')
 | .lt o l n m t,.lt o' l' n' m' t'=>uD_ o o'&&(ds_ l l'&&(Nat.beq n n'&&(nW_ m m'&&dP_ t t')))
 | .call f l n sh t,.call f' l' n' sh' t'=>Nat.beq f f'&&(ds_ l l'&&(Nat.beq n n'&&(rq_ sh sh'&&dP_ t t')))
 | .loop n j hv bs,.loop n' j' hv' bs'=>Nat.beq n n'&&(Nat.beq j j'&&(ds_ hv hv'&&ky_ bs bs'))
 | .again l j hv,.again l' j' hv'=>Nat.beq l l'&&(Nat.beq j j'&&ds_ hv hv')
 | .chk c t,.chk c' t'=>rl_ c c'&&dP_ t t'
 | .callF f ft hv n bs,.callF f' ft' hv' n' bs'=>Nat.beq f f'&&(vH_ ft ft'&&(ds_ hv hv'&&(Nat.beq n n'&&ky_ bs bs')))
 | .both a b,.both a' b'=>dP_ a a'&&dP_ b b'
 |_,_=>false
def ky_:VTs->VTs->Bool
 | .nil,.nil=>true
 | .cons n t r,.cons n' t' r'=>Nat.beq n n'&&(dP_ t t'&&ky_ r r')
 |_,_=>false
end
def oi_ (a b:VT):VT:=match dP_ a b with
 |true=>a
 |false=>.both a b
def oO_ (f:InO->VT) (x:InO):List InO->VT
 |[]=>f x
 |y::r=>oi_ (f x) (oO_ f y r)
def nz_ (P:Program) (N fuel:Nat) (I:Inl P fuel) (c:VC) (all:List Oper) (X:VX->VT) (K:VS->VT):Nat->Nat->VS->VT
 |0,_,_=>.bad
 |n+1,m,S=>match ju_ m all 0 with
  |[]=>K S
  |x::r=>match jp_ P all m S.T (x::r)with
   |some q=>match bT_ N q.x.o.dst with
    | .mk u=>nz_ P N fuel I c all X K n (kc_ m q.x.i) ⟨u S.T q.a,S.H,S.n,S.lv,S.D⟩
    | .bad=>.bad
   |none=>match r7_ P c all m S.T (x::r)with
    |some q=>match bT_ N q.x.o.dst with
     | .mk u=>.lt (.conv q.s q.d) [.sym q.j] S.n none (nz_ P N fuel I c all X K n (kc_ m q.x.i) ⟨u S.T (.sym S.n),S.H,Nat.succ S.n,S.lv,S.D⟩)
     | .bad=>.bad
    |none=>oO_ (λx=>l2_ P N fuel I c all X [x.o] S λS'=>nz_ P N fuel I c all X K n (kc_ m x.i) S') x r
def eB_:List Oper->Tm->Tm
 |[],T=>T
 |o::r,T=>match o.dst with
  |some d=>eB_ r (dL_ T d .opq)
  |none=>eB_ r T
def kq_ (ops:List Oper) (X:VX->VT) (r:VX):VT:=match r with
 | .pan v S=>X (.pan v ⟨eB_ ops S.T,S.H,S.n,S.lv,S.D⟩)
 | .exit i S=>X (.exit i S)
 | .ret S=>X (.ret S)
def s8_ (N:Nat):List Oper->Bool
 |[]=>true
 |o::r=>(match o.dst with
  |some d=>Nat.blt d N
  |none=>true)&&s8_ N r
def t4_ (c:VC):Nat->List SI->Bool
 |0,_=>false
 |_+1,[]=>false
 |n+1,x::r=>match isF c x.o with
  |true=>true
  |false=>t4_ c n r
def wu_ (c:VC) (ops:List Oper):Bool:=match os_ ops with
 | .mk l _=>t4_ c (dn_ l 0) l
 | .no=>true
def pR_ (P:Program) (N fuel:Nat) (I:Inl P fuel) (c:VC) (ops:List Oper) (S:VS) (X:VX->VT) (K:VS->VT):VT:=match m3_ ops&&(s8_ N ops&&Nat.ble N 512)with
 |true=>nz_ P N fuel I c ops (kq_ ops X) K (Nat.succ (lenOp ops)) 0 S
 |false=>.bad
where
 lenOp:List Oper->Nat
 |[]=>0
 |_::r=>Nat.succ (lenOp r)
def wz_ (ops:List Oper):Bool:=match os_ ops with
 | .mk l _=>match dn_ l 0 with
   |b=>lK_ (es_ b l) 0&&ki_ (es_ b l) (es_ b l)
 | .no=>true
def qL_ (T:Tm):List Oper->Nat->AV
 |[],_=>.opq
 |o::r,t=>match o.op with
  | .move x=>match o.dst with
    |some d=>match Nat.beq d t with
     |true=>look T x
     |false=>qL_ T r t
    |none=>qL_ T r t
  |_=>qL_ T r t
def vX_ (own:Bool) (T:Tm) (all:List Oper) (x i:Operand):List AV:=match x with
 | .tmp b=>match qL_ T all b with
   | .slx id z k=>match own with
     |true=>[]
     |false=>[.slx id z k]
   | .sl id off len z cap=>match i with
     | .tmp j=>match qL_ T all j with
       | .sym _=>[.sl id off len z cap]
       |_=>[]
     |_=>[]
   |_=>[]
 |_=>[]
def pH_ (T:Tm) (all:List Oper):List (Nat×Operand)->List AV
 |[]=>[]
 |(_,x)::r=>match x with
  | .tmp t=>match qL_ T all t with
    | .slx id z k=>.slx id z k::pH_ T all r
    |_=>pH_ T all r
  |_=>pH_ T all r
def jz_ (own:Bool) (T:Tm) (all:List Oper):List Oper->List AV
 |[]=>[]
 |o::r=>match o.op with
  | .indexAddr _ x i=>j1_ (vX_ own T all x i) (jz_ own T all r)
  | .buildSlice _ _ ps=>match own with
    |true=>jz_ own T all r
    |false=>j1_ (pH_ T all ps.toList) (jz_ own T all r)
  |_=>jz_ own T all r
def j8_ (own:Bool) (l:List Oper) (S:VS):VS:=match jz_ own S.T l l with
 |[]=>S
 |a=>dt_ S a
def pV_ (b:VS->(VS->VT)->VT):Nat->VS->VT
 |0,_=>.bad
 |n+1,S=>b S λS'=>pV_ b n S'
def oF_ (n k lvl:Nat) (D0:Dfs) (tps:List Tpl) (S:VS):VT:=match cL_ n k D0 tps 0 S with
 |some r=>jD_ r.l (rc_ r.m.nn (.again lvl r.j r.m.hv))
 |none=>.bad
def lZ_ (b:VS->(VS->VT)->VT) (n k lvl:Nat) (D0:Dfs) (tps:List Tpl):List Tpl->VTs
 |[]=>.nil
 |tp::r=>.cons tp.nv (b (tp.inst n (Nat.succ lvl) D0) (oF_ n k lvl D0 tps)) (lZ_ b n k lvl D0 tps r)
def vg_ (k:Nat) (b:VS->(VS->VT)->VT) (tps:List Tpl) (S:VS):VT:=match cL_ S.n k S.D tps 0 S with
 |some r=>jD_ r.l (rc_ r.m.nn (.loop S.n r.j r.m.hv (lZ_ b S.n k S.lv S.D tps tps)))
 |none=>.bad
def u9_ (id:Nat) (K:VS->VT) (X:VX->VT) (r:VX):VT:=match r with
 | .exit id' S=>match Nat.beq id' id with
   |true=>K S
   |false=>X r
 | .ret _=>X r
 | .pan _ _=>X r
mutual
def m6_ (id sz i len:Nat):AV->AV
 | .slx id' z j=>match Nat.beq id id'&&(Nat.beq sz z&&Nat.beq i j)with
   |true=>.sl id 0 len sz none
   |false=>.slx id' z j
 | .agg cs=>.agg (h1_ id sz i len cs)
 | .tup cs=>.tup (h1_ id sz i len cs)
 |a=>a
def h1_ (id sz i len:Nat):List AV->List AV
 |[]=>[]
 |a::r=>m6_ id sz i len a::h1_ id sz i len r
end
def qD_ (id sz i len:Nat) (H:AHeap):List Nat->AHeap
 |[]=>H
 |q::r=>match (qD_ id sz i len H r).get q with
  |some (.cells cs)=>(qD_ id sz i len H r).set q (.cells (h1_ id sz i len cs))
  |_=>qD_ id sz i len H r
def jU_ (t:TA) (i:Nat) (S:VS):VS:=⟨bc_ (m6_ t.id t.sz i t.j) S.T,qD_ t.id t.sz i t.j (S.H.set t.id (.cells (ag_ S.n (Nat.mul t.j t.sz)))) [0,1,2,3],Nat.add S.n (Nat.mul t.j t.sz),S.lv,S.D⟩
def nG_:List TA->VS->(VS->VT)->VT
 |[],S,k=>k S
 |t::r,S,k=>match S.H.get t.id with
  |some (.syl i)=>.lt (.opn t.j t.sz) [.sym i] S.n (some (Nat.mul t.j t.sz)) (nG_ r (jU_ t i S) k)
  |_=>nG_ r S k
def mI_ (t o:Nat) (S:VS):VS:=match tget S.T t with
 | .ptr id b=>match S.H.get id with
   |some (.cells cs)=>match m4_ (Nat.add b o) cs with
    |some a=>uu_ S [a] id
    |none=>dt_ S [.ptr id b]
   |_=>S
 |a=>dt_ S [a]
def mJ_ (S:VS):List (Nat×Nat)->VS
 |[]=>S
 |(t,o)::r=>mJ_ (mI_ t o S) r
def u5_ (i:Nat) (m:Int) (a:AV):AV:=match a with
 | .sym j=>match Nat.beq j i with
   |true=>.int .i64 m
   |false=>.sym j
 |a=>a
def tM_ (i:Nat) (m:Int) (S:VS):VS:=⟨bc_ (u5_ i m) S.T,S.H,Nat.succ S.n,S.lv,S.D⟩
def sM_ (i:Nat) (kt:VS->VT):Nat->Nat->VS->VT
 |0,_,S=>kt S
 |Nat.succ m,k,S=>.lt (.bin .leq 3 false true) [.sym i,.int .i64 (.ofNat k)] S.n none (.ite S.n (kt (tM_ i (.ofNat k) S)) (sM_ i kt m (Nat.succ k) ⟨S.T,S.H,Nat.succ S.n,S.lv,S.D⟩))
def jV_:List (Nat×AV)->VS->(VS->VT)->VT
 |[],S,k=>k S
 |(t,a)::r,S,k=>match tget S.T t with
  | .sym i=>match a with
    | .int _ m=>.lt (.bin .leq 3 true false) [.int .i64 0,.sym i] S.n none (.ite S.n (sM_ i (λS=>jV_ r S k) m.toNat 0 ⟨S.T,S.H,Nat.succ S.n,S.lv,S.D⟩) (jV_ r ⟨S.T,S.H,Nat.succ S.n,S.lv,S.D⟩ k))
    |_=>jV_ r S k
  |_=>jV_ r S k
def ve_ (c:VC) (rid:Nat) (ops:List Oper) (S:VS) (k:VS->VT):VT:=match ops with
 |[]=>k S
 |_::_=>match gu_ c.hs (Nat.add 10000 rid)with
  |some (tp::_)=>nG_ tp.acc (mJ_ S tp.fix) λS=>jV_ tp.slots S k
  |_=>k S
def vC_ (c:VC) (rid:Nat):Bool:=match gu_ c.hs (Nat.add 20000 rid)with
 |some _=>true
 |none=>false
def sL_ (P:Program) (N fuel:Nat) (I:Inl P fuel) (c:VC) (any:Bool) (ops:Array Oper) (draw:Bool) (S:VS) (K:VS->VT) (X:VX->VT):VT:=match draw with
 |false=>l2_ P N fuel I c ops.toList X ops.toList S K
 |true=>match iJ_ P (aM_ P fuel) N ops.toList S.T S.H S.D with
  |some r=>match r with
   | .norm T H D=>K ⟨T,H,S.n,S.lv,D⟩
   |_=>.bad
  |none=>match vI_ c ops.toList with
   |false=>match !any&&wz_ ops.toList with
    |true=>nD_ P N fuel I c ops.toList (j8_ c.own ops.toList S) X K
    |false=>pR_ P N fuel I c ops.toList S X K
   |true=>match wu_ c ops.toList with
    |true=>pR_ P N fuel I c ops.toList S X K
    |false=>nD_ P N fuel I c ops.toList (j8_ c.own ops.toList S) X K
def cu_ (P:Program) (N fuel:Nat) (I:Inl P fuel) (c:VC):Nat->Code->VS->(VS->VT)->(VX->VT)->VT
 |_,.skip,S,K,X=>K S
 |_,.label _,S,K,X=>K S
 |_,.region rid ops draw,S,K,X=>ve_ c rid ops.toList S λS=>sL_ P N fuel I c (vC_ c rid) ops draw S K X
 |bid,.seq a b,S,K,X=>cu_ P N fuel I c bid a S (λS=>cu_ P N fuel I c bid b S K X) X
 |bid,.cond cd a b,S,K,X=>match look S.T cd with
  | .bool t=>match t with
    |true=>cu_ P N fuel I c bid a S K X
    |false=>cu_ P N fuel I c bid b S K X
  |_=>match ht_ S.T cd with
   |some i=>.ite i (cu_ P N fuel I c bid a (S.know i true) K X) (cu_ P N fuel I c bid b (S.know i false) K X)
   |none=>.bad
 |_,.block id b,S,K,X=>cu_ P N fuel I c id b S K (u9_ id K X)
 |bid,.loop b,S,K,X=>match gu_ c.hs bid with
  |some tps=>vg_ c.k (λS K=>cu_ P N fuel I c bid b S K X) tps S
  |none=>pV_ (λS K=>cu_ P N fuel I c bid b S K X) fuel S
 |_,.exit id,S,K,X=>X (.exit id S)
 |_,.ret,S,K,X=>X (.ret S)
 |_,_,_,_,_=>.bad
def sD_ (Q:Option (AV×AHeap)):VT:=match Q with
 |some (a,H)=>match ex_ 100 H a with
  |some v=>match ae_ v with
   |true=>.done v
   |false=>.bad
  |none=>.bad
 |none=>.bad
def n7_:List Oper->Bool
 |[]=>false
 |o::r=>match o.op with
  | .call c=>match c.callee with
    | .builtin .recover=>true
    |_=>n7_ r
  |_=>n7_ r
def wx_ (u:Option AV) (ops:List Oper):Bool:=match u with
 |some _=>true
 |none=>n7_ ops
def dp_ (P:Program) (N fuel:Nat) (I:Inl P fuel) (c:VC):Code->VS->Option AV->(VS->Option AV->VT)->(VS->Option AV->VT)->VT
 | .skip,S,u,K,R=>K S u
 | .region rid ops draw,S,u,K,R=>match wx_ u ops.toList with
   |true=>match draw with
    |true=>.bad
    |false=>match lL_ P (aM_ P fuel) N ops.toList ops.toList S.T S.H u with
     |some r=>match r with
      | .norm T H u'=>K ⟨T,H,S.n,S.lv,[]⟩ u'
      | .ret _ _ _=>.bad
     |none=>.bad
   |false=>sL_ P N fuel I c (vC_ c rid) ops draw S (λS=>match S.D with
    |[]=>K S none
    |_::_=>.bad) (λ_=>.bad)
 | .seq a b,S,u,K,R=>dp_ P N fuel I c a S u (λS u=>dp_ P N fuel I c b S u K R) R
 | .cond cd a b,S,u,K,R=>match look S.T cd with
   | .bool t=>match t with
     |true=>dp_ P N fuel I c a S u K R
     |false=>dp_ P N fuel I c b S u K R
   |_=>match ht_ S.T cd with
    |some i=>.ite i (dp_ P N fuel I c a (S.know i true) u K R) (dp_ P N fuel I c b (S.know i false) u K R)
    |none=>.bad
 | .block _ b,S,u,K,R=>dp_ P N fuel I c b S u K R
 | .ret,S,u,K,R=>R S u
 |_,_,_,_,_=>.bad
def en_ (P:Program) (fuel:Nat) (I:Inl P fuel) (c:VC) (rs:List ResultVar) (fin:FRes->Nat->Nat->VT):Dfs->Tm->AHeap->Nat->Nat->Option AV->VT
 |[],T,H,n,lv,u=>match cU_ P (aM_ P fuel) fuel rs T [] H u with
  |some r=>fin r n lv
  |none=>.bad
 |(f,args)::D,T,H,n,lv,u=>match P.funcs[f]? with
  |some fn=>match fn.body with
   |some cd=>match Nat.ble (aL_ args) fn.ntmps&&(Nat.ble fn.ntmps 512&&(fN_ H.next n D&&Nat.ble c.k H.next))with
    |true=>match (λ(S:VS) (u:Option AV)=>match d2_ P S.T S.H fn.results.toList with
       |some _=>en_ P fuel I c rs fin D (bc_ (bU_ H.next n) T) S.H S.n S.lv u
       |none=>.bad)with
     |K=>dp_ P fn.ntmps fuel I ⟨c.fc,c.cs,[],H.next,c.own,c.fs⟩ cd ⟨aT_ args 0 tnil,H,n,lv,[]⟩ u K K
    |false=>.bad
   |none=>.bad
  |none=>.bad
def jR_ (P:Program) (fuel:Nat) (I:Inl P fuel) (c:VC) (rs:List ResultVar) (fin:FRes->Nat->Nat->VT) (u:Option AV) (S:VS):VT:=match cU_ P (aM_ P fuel) fuel rs S.T S.D S.H u with
 |some r=>fin r S.n S.lv
 |none=>en_ P fuel I c rs fin S.D S.T S.H S.n S.lv u
def sC_ (r:FRes) (_ _:Nat):VT:=match r with
 | .ret a H=>sD_ (some (a,H))
 | .pan _ _=>.bad
def pT_ (P:Program) (fuel:Nat) (I:Inl P fuel) (c:VC) (rs:List ResultVar) (u:Option AV) (S:VS):VT:=jR_ P fuel I c rs sC_ u S
def wJ_ (P:Program) (fuel:Nat) (I:Inl P fuel) (c:VC) (rs:List ResultVar) (r:VX):VT:=match r with
 | .ret S=>pT_ P fuel I c rs none S
 | .pan v S=>pT_ P fuel I c rs (some v) S
 | .exit _ _=>.bad
def qT_ (n k:Nat) (b:Bool) (S:VS):List (Bool×Tpl)->Nat->VT
 |[],_=>.bad
 |(b',tp)::r,j=>match b==b' with
  |false=>qT_ n k b S r (Nat.succ j)
  |true=>match bp_ tp S with
   |f=>match eU_ n k tp f.S with
    |some m=>jD_ f.l (rc_ m.nn (.done (.tup (.int .i64 (.ofNat j)::m.hv))))
    |none=>qT_ n k b S r (Nat.succ j)
def tT_ (ft:FT) (r:FRes) (n lv:Nat):VT:=match r with
 | .ret a H=>qT_ (Nat.add 64 ft.ent.nv) ft.k false ⟨dL_ topq 0 a,H,n,lv,[]⟩ ft.exs 0
 | .pan a H=>qT_ (Nat.add 64 ft.ent.nv) ft.k true ⟨dL_ topq 0 a,H,n,lv,[]⟩ ft.exs 0
def hv_ (P:Program) (fuel:Nat) (I:Inl P fuel) (c:VC) (rs:List ResultVar) (ft:FT) (u:Option AV) (S:VS):VT:=jR_ P fuel I c rs (tT_ ft) u S
def uv_ (P:Program) (fuel:Nat) (I:Inl P fuel) (c:VC) (rs:List ResultVar) (ft:FT) (r:VX):VT:=match r with
 | .ret S=>hv_ P fuel I c rs ft none S
 | .pan v S=>hv_ P fuel I c rs ft (some v) S
 | .exit _ _=>.bad
def sG_ (P:Program) (fuel:Nat) (I:Inl P fuel) (c:VC) (f:FuncId) (ft:FT):VT:=match P.funcs[f]? with
 |some fn=>match fn.body with
  |some cd=>match Nat.ble (aL_ (cv_ ft.ent.slots)) fn.ntmps&&(Nat.ble fn.ntmps 512&&Nat.beq c.k ft.k)with
   |true=>cu_ P fn.ntmps fuel I c 0 cd ⟨aT_ (bu_ 64 (cv_ ft.ent.slots)) 0 tnil,ft.ent.heap 64,Nat.add 64 ft.ent.nv,0,[]⟩ (hv_ P fuel I c fn.results.toList ft none) (uv_ P fuel I c fn.results.toList ft)
   |false=>.bad
  |none=>.bad
 |none=>.bad
def va_ (P:Program) (fuel:Nat) (I:Inl P fuel) (c:VC) (f:FuncId) (args:List AV) (n:Nat):VT:=match P.funcs[f]? with
 |some fn=>match fn.body with
  |some cd=>match Nat.ble (aL_ args) fn.ntmps&&Nat.ble fn.ntmps 512 with
   |true=>cu_ P fn.ntmps fuel I c 0 cd ⟨aT_ args 0 tnil,H0,n,0,[]⟩ (pT_ P fuel I c fn.results.toList none) (wJ_ P fuel I c fn.results.toList)
   |false=>.bad
  |none=>.bad
 |none=>.bad
def v4_ (ret pan:AV->AHeap->Nat->Nat->VT) (r:FRes) (n lv:Nat):VT:=match r with
 | .ret a H=>ret a H n lv
 | .pan a H=>pan a H n lv
def pU_ (P:Program) (fuel:Nat) (I:Inl P fuel) (c:VC) (rs:List ResultVar) (ret pan:AV->AHeap->Nat->Nat->VT) (u:Option AV) (S:VS):VT:=jR_ P fuel I c rs (v4_ ret pan) u S
def v5_ (P:Program) (fuel:Nat) (I:Inl P fuel) (c:VC) (rs:List ResultVar) (ret pan:AV->AHeap->Nat->Nat->VT) (r:VX):VT:=match r with
 | .exit _ _=>.bad
 | .ret S=>pU_ P fuel I c rs ret pan none S
 | .pan v S=>pU_ P fuel I c rs ret pan (some v) S
def vc_ (P:Program) (fuel:Nat) (I:Inl P fuel) (c:VC) (g:FuncId) (args:List AV) (H:AHeap) (n lv:Nat) (ret pan:AV->AHeap->Nat->Nat->VT):VT:=match P.funcs[g]? with
 |some fn=>match fn.body with
  |some cd=>match Nat.ble (aL_ args) fn.ntmps&&Nat.ble fn.ntmps 512 with
   |true=>cu_ P fn.ntmps fuel I ⟨c.fc,c.cs,[],H.next,c.own,c.fs⟩ 0 cd ⟨aT_ args 0 tnil,H,n,lv,[]⟩ (pU_ P fuel I ⟨c.fc,c.cs,[],H.next,c.own,c.fs⟩ fn.results.toList ret pan none) (v5_ P fuel I ⟨c.fc,c.cs,[],H.next,c.own,c.fs⟩ fn.results.toList ret pan)
   |false=>.bad
  |none=>.bad
 |none=>.bad
end
end Go.Sx
