/-
  The evaluator with symbols, with loops by templates and calls by what is known of them.
-/
import Derived.Test.YtelnbodnjmldeaaGreatSyX
set_option linter.unusedVariables false
set_option linter.unusedSimpArgs false
namespace Go.Sx
structure TA where
 id:Nat
 sz:Nat
 j:Nat
 loc:Nat
 off:Option Nat
structure Tpl where
 slots:List (Nat×AV)
 rows:List (Nat×List AV)
 next:Nat
 nv:Nat
 acc:List TA:=[]
 maps:List (Nat×Nat):=[]
 fix:List (Nat×Nat):=[]
abbrev tc_:=List (Nat×List Tpl)
structure FT where
 k:Nat
 ent:Tpl
 exs:List (Bool×Tpl)
inductive Chk where
 |same (i j:Nat)
 |nn (i:Nat)
 |pos (i:Nat)
mutual
inductive VT where
 |bad
 |done (v:AV)
 |ite (i:Nat) (a b:VT)
 |lt (op:XOp) (args:List AV) (n:Nat) (m:Option Nat) (t:VT)
 |call (f:FuncId) (args:List AV) (n:Nat) (sh:List (Option Nat)) (t:VT)
 |loop (n j:Nat) (hv:List AV) (bs:VTs)
 |again (lvl j:Nat) (hv:List AV)
 |chk (c:Chk) (t:VT)
 |callF (f:FuncId) (ft:FT) (hv:List AV) (n:Nat) (bs:VTs)
 |both (a b:VT)
inductive VTs where
 |nil
 |cons (nv:Nat) (t:VT) (r:VTs)
end
def flat:List (Option Nat)->List AV->Option (List AV)
 |[],[]=>some []
 |none::s,a::r=>match flat s r with
  |some l=>some (a::l)
  |none=>none
 |some m::s,.agg cs::r=>match decide (cs.length=m)with
  |true=>match flat s r with
   |some l=>some (cs++l)
   |none=>none
  |false=>none
 |_,_=>none
def hn_ (sh:List (Option Nat)) (v:AV):Option (List AV):=match sh with
 |[s]=>flat [s] [v]
 |sh=>match v with
  | .tup l=>flat sh l
  |_=>none
def bZ_:Nat->List (Option Nat)->List AV
 |_,[]=>[]
 |n,none::s=>.sym n::bZ_ (Nat.succ n) s
 |n,some m::s=>.agg (aj_ n m)::bZ_ (Nat.add n m) s
def db_ (n:Nat) (sh:List (Option Nat)):AV:=match sh with
 |[s]=>match bZ_ n [s]with
  |a::_=>a
  |[]=>.tup []
 |sh=>.tup (bZ_ n sh)
def dm_:List (Option Nat)->Nat
 |[]=>0
 |none::s=>Nat.succ (dm_ s)
 |some m::s=>Nat.add m (dm_ s)
mutual
def bB_ (n:Nat):AV->AV
 | .slx j z i=>match z with
   |0=>.sym (Nat.add n j)
   |z+1=>.slx j (z+1) (Nat.add n i)
 | .ptx id j sz _=>.slx id sz j
 | .vptr cs=>.vptr (br_ n cs)
 | .vsl a z cs=>.vsl a z (br_ n cs)
 | .fn f cs=>.fn f (br_ n cs)
 | .iface t a=>.iface t (bB_ n a)
 | .agg cs=>.agg (br_ n cs)
 | .tup cs=>.tup (br_ n cs)
 |a=>a
def br_ (n:Nat):List AV->List AV
 |[]=>[]
 |a::r=>bB_ n a::br_ n r
end
def cD_ (n:Nat):List (Nat×AV)->Tm
 |[]=>topq
 |(t,a)::r=>dO_ (cD_ n r) t (bB_ n a)
def iB_ (n next:Nat):List (Nat×List AV)->AHeap
 |[]=>⟨hnil,next,top⟩
 |(id,cs)::r=>(iB_ n next r).set id (.cells (br_ n cs))
def hq_ (n:Nat) (H:AHeap):List TA->AHeap
 |[]=>H
 |t::r=>(hq_ n H r).set t.id (.syl (Nat.add n t.j))
def kb_ (n:Nat) (H:AHeap):List (Nat×Nat)->AHeap
 |[]=>H
 |(id,j)::r=>(kb_ n H r).set id (.mpl (Nat.add n j))
def lH_:Nat:=1500
def hp_ (i:Nat):Nat:=Nat.div (Nat.sub i lH_) 16
def zF (i:Nat):Nat:=Nat.mod (Nat.sub i lH_) 16
def jI_ (n i:Nat):Nat:=match Nat.blt i lH_ with
 |true=>i
 |false=>Nat.add n (hp_ i)
def ka_ (n:Nat) (H:AHeap):List (Nat×Nat)->AHeap
 |[]=>H
 |(id,i)::r=>(ka_ n H r).set id (.syl (jI_ n i))
def pM_:List (Nat×Nat)->List Nat->List Nat
 |[],acc=>acc
 |(id,_)::r,acc=>id::pM_ r acc
def oP_ (H:AHeap) (id:Nat):Option AV:=match H.get id with
 |some (.map es _)=>match ad_ (aK_ es)&&fF_ es with
  |true=>some (.vsl (mk_ es) 2 (aK_ es))
  |false=>none
 |some (.mpl i)=>some (.sym i)
 |_=>none
def mh_:List (Nat×List AV)->List Nat
 |[]=>[]
 |(id,_)::r=>id::mh_ r
mutual
def tG_:AV->AV->List (Nat×AV)->List (Nat×AV)
 | .slx j z _,a,acc=>match z with
   |0=>(j,a)::acc
   |_+1=>acc
 | .agg ts,.agg cs,acc=>nl_ ts cs acc
 | .tup ts,.tup cs,acc=>nl_ ts cs acc
 | .vptr ts,.vptr cs,acc=>nl_ ts cs acc
 | .vsl _ _ ts,.vsl _ _ cs,acc=>nl_ ts cs acc
 | .fn _ ts,.fn _ cs,acc=>nl_ ts cs acc
 | .iface _ t,.iface _ a,acc=>tG_ t a acc
 |_,_,acc=>acc
def nl_:List AV->List AV->List (Nat×AV)->List (Nat×AV)
 |t::ts,a::r,acc=>tG_ t a (nl_ ts r acc)
 |_,_,acc=>acc
end
def tl_:List (Nat×AV)->Nat->Option AV
 |[],_=>none
 |(i,a)::r,j=>match Nat.beq i j with
  |true=>some a
  |false=>tl_ r j
def oD_ (acc:List (Nat×AV)):Nat->Nat->Option (List AV)
 |_,0=>some []
 |j,m+1=>match tl_ acc j with
  |some a=>match oD_ acc (Nat.succ j) m with
   |some l=>some (a::l)
   |none=>none
  |none=>none
structure DA where
 id:Nat
 sz:Nat
 j:Nat
 x:AV
 act:Option Nat
def ha_ (H:AHeap) (sz:Nat) (a:AV):Option (AV×Option Nat):=match a with
 | .nsl=>some (.nsl,none)
 | .slx id sz' i=>match H.get id with
   |some (.syl k)=>match Nat.beq k i&&Nat.beq sz' sz with
    |true=>some (.sym i,some id)
    |false=>none
   |_=>none
 | .sl id off len sz' _=>match H.get id with
   |some (.cells cs)=>match aZ_ (Nat.mul len sz) cs with
    |some cs=>match Nat.beq off 0&&(Nat.beq sz' sz&&(Nat.blt 0 len&&(Nat.beq (aM_ cs) (Nat.mul len sz)&&(ad_ cs&&ba_ cs))))with
     |true=>some (.vsl len sz cs,some id)
     |false=>none
    |none=>none
   |_=>none
 |_=>none
def mA_:Nat->List AV->Option AV
 |_,[]=>none
 |0,a::_=>some a
 |n+1,_::r=>mA_ n r
def az_:List (Nat×Nat)->Nat->Option Nat
 |[],_=>none
 |(a,t)::r,i=>match Nat.beq a i with
  |true=>some t
  |false=>az_ r i
def kh_ (T:Tm) (H:AHeap) (rn:List (Nat×Nat)) (t:TA):Option AV:=match t.off with
 |none=>some (tget T t.loc)
 |some o=>match az_ rn t.loc with
  |some a=>match H.get a with
   |some (.cells cs)=>mA_ o cs
   |_=>none
  |none=>match tget T (Nat.sub t.loc 600)with
   | .tup cs=>mA_ o cs
   | .agg cs=>mA_ o cs
   |_=>none
def po_ (T:Tm) (H:AHeap) (rn:List (Nat×Nat)):List TA->Option (List DA)
 |[]=>some []
 |t::r=>match kh_ T H rn t with
  |some a=>match ha_ H t.sz a with
   |some (x,act)=>match po_ T H rn r with
    |some l=>some (⟨t.id,t.sz,t.j,x,act⟩::l)
    |none=>none
   |none=>none
  |none=>none
def aD_:List DA->Nat->Option DA
 |[],_=>none
 |d::r,id=>match Nat.beq d.id id with
  |true=>some d
  |false=>aD_ r id
def jH_:Option Nat->Option Nat->Bool
 |none,none=>true
 |some a,some b=>Nat.beq a b
 |_,_=>false
mutual
def mA (H:AHeap) (ds:List DA) (rn:List (Nat×Nat)) (hv:List AV) (n:Nat):AV->AV->Bool
 | .opq,_=>true
 | .sym i,a=>Nat.blt i n&&bN_ (.sym i) a
 | .ptr id off,a=>match a with
   | .ptr id' off'=>jH_ (az_ rn id) (some id')&&Nat.beq off off'
   |_=>false
 | .sl id off len sz cap,a=>match a with
   | .sl id' off' len' sz' cap'=>jH_ (az_ rn id) (some id')&&(Nat.beq off off'&&(Nat.beq len len'&&(Nat.beq sz sz'&&(cap.isNone||cap==cap'))))
   |_=>false
 | .agg ts,a=>match a with
   | .agg cs=>mL H ds rn hv n ts cs
   |_=>false
 | .tup ts,a=>match a with
   | .tup cs=>mL H ds rn hv n ts cs
   |_=>false
 | .vptr ts,a=>match a with
   | .vptr cs=>mL H ds rn hv n ts cs
   |_=>false
 | .vsl len sz ts,a=>match a with
   | .vsl len' sz' cs=>Nat.beq len len'&&(Nat.beq sz sz'&&mL H ds rn hv n ts cs)
   |_=>false
 | .fn f ts,a=>match a with
   | .fn g cs=>Nat.beq f g&&mL H ds rn hv n ts cs
   |_=>false
 | .iface t x,a=>match a with
   | .iface u y=>Nat.beq t u&&mA H ds rn hv n x y
   |_=>false
 | .slx j z i,a=>match z with
   |0=>match cn_ j hv with
    |some x=>bN_ x a
    |none=>false
   |z+1=>match aD_ ds j with
    |some d=>match ha_ H (Nat.succ z) a with
     |some (x,act)=>Nat.beq d.sz (Nat.succ z)&&(Nat.beq d.j i&&(bN_ d.x x&&jH_ d.act act))
     |none=>false
    |none=>false
 | .ptx id i sz _,a=>match a with
   | .slx id' sz' i'=>jH_ (az_ rn id) (some id')&&(Nat.beq sz sz'&&(Nat.beq i i'&&Nat.blt i n))
   |_=>false
 | .map id,a=>match a with
   | .map id'=>jH_ (az_ rn id) (some id')
   |_=>false
 |t,a=>bN_ t a
def mL (H:AHeap) (ds:List DA) (rn:List (Nat×Nat)) (hv:List AV) (n:Nat):List AV->List AV->Bool
 |[],[]=>true
 |t::ts,a::r=>mA H ds rn hv n t a&&mL H ds rn hv n ts r
 |_,_=>false
end
mutual
def eR_ (n:Nat):AV->Bool
 | .sym i=>Nat.blt i n
 | .vptr cs=>aE_ n cs
 | .vsl _ _ cs=>aE_ n cs
 | .fn _ cs=>aE_ n cs
 | .iface _ a=>eR_ n a
 | .agg cs=>aE_ n cs
 | .tup cs=>aE_ n cs
 |_=>true
def aE_ (n:Nat):List AV->Bool
 |[]=>true
 |a::r=>eR_ n a&&aE_ n r
end
structure VS where
 T:Tm
 H:AHeap
 n:Nat
 lv:Nat
 D:Dfs
inductive VX where
 |exit (id:Nat) (S:VS)
 |ret (S:VS)
 |pan (v:AV) (S:VS)
def VS.x (S:VS):XS:=⟨S.T,S.H,S.n⟩
def VS.know (S:VS) (i:Nat) (b:Bool):VS:=⟨bg_ (g6_ i b) S.T,S.H,S.n,S.lv,S.D⟩
def uD_ (T:Tm):List (Nat×AV)->List (Nat×AV)->List (Nat×AV)
 |[],acc=>acc
 |(t,a)::r,acc=>tG_ a (tget T t) (uD_ T r acc)
def uC_ (H:AHeap) (rn:List (Nat×Nat)):List (Nat×List AV)->List (Nat×AV)->List (Nat×AV)
 |[],acc=>acc
 |(id,cs)::r,acc=>match az_ rn id with
  |some a=>match H.get a with
   |some (.cells l)=>nl_ cs l (uC_ H rn r acc)
   |_=>acc
  |none=>acc
def uz_:List DA->List (Nat×AV)->List (Nat×AV)
 |[],acc=>acc
 |d::r,acc=>(d.j,d.x)::uz_ r acc
def mT (H:AHeap) (ds:List DA) (rn:List (Nat×Nat)) (hv:List AV) (n:Nat) (T:Tm):List (Nat×AV)->Bool
 |[]=>true
 |(t,a)::r=>Nat.blt t 512&&(mA H ds rn hv n a (tget T t)&&mT H ds rn hv n T r)
def ql_ (id a:Nat) (rn:List (Nat×Nat)):List (Nat×Nat):=match az_ rn id with
 |none=>(id,a)::rn
 |some _=>rn
mutual
def qG_:AV->AV->List (Nat×Nat)->List (Nat×Nat)
 | .ptr id _,.ptr id' _,rn=>ql_ id id' rn
 | .sl id _ _ _ _,.sl id' _ _ _ _,rn=>ql_ id id' rn
 | .ptx id _ _ _,.slx id' _ _,rn=>ql_ id id' rn
 | .map id,.map id',rn=>ql_ id id' rn
 | .agg ts,.agg cs,rn=>lO_ ts cs rn
 | .tup ts,.tup cs,rn=>lO_ ts cs rn
 | .iface _ t,.iface _ a,rn=>qG_ t a rn
 |_,_,rn=>rn
def lO_:List AV->List AV->List (Nat×Nat)->List (Nat×Nat)
 |t::ts,a::r,rn=>lO_ ts r (qG_ t a rn)
 |_,_,rn=>rn
end
def ti_ (T:Tm):List (Nat×AV)->List (Nat×Nat)->List (Nat×Nat)
 |[],rn=>rn
 |(t,a)::r,rn=>ti_ T r (qG_ a (tget T t) rn)
def lN_ (H:AHeap):List (Nat×List AV)->List (Nat×Nat)->List (Nat×Nat)
 |[],rn=>rn
 |(id,cs)::r,rn=>match az_ rn id with
  |some a=>match H.get a with
   |some (.cells l)=>lN_ H r (lO_ cs l rn)
   |_=>lN_ H r rn
  |none=>match H.get id with
   |some (.cells l)=>lN_ H r (lO_ cs l ((id,id)::rn))
   |_=>lN_ H r rn
def rw_:List (Nat×Nat)->List (Nat×Nat)->List (Nat×Nat)
 |[],rn=>rn
 |(id,_)::r,rn=>rw_ r (ql_ id id rn)
def q0_ (ids:List Nat):List (Nat×Nat)->List (Nat×Nat)
 |[]=>[]
 |(id,a)::r=>match memT id ids with
  |true=>(id,a)::q0_ ids r
  |false=>q0_ ids r
def Tpl.ids (tp:Tpl):List Nat:=pM_ tp.fix (pM_ tp.maps (mh_ tp.rows))
def t2_ (tp:Tpl) (T:Tm) (H:AHeap):List (Nat×Nat):=q0_ tp.ids (rw_ tp.fix (rw_ tp.maps (lN_ H tp.rows (ti_ T tp.slots []))))
def tM_:List (Nat×Nat)->List (Nat×Nat)->List (Nat×Nat)
 |[],acc=>acc
 |(id,a)::r,acc=>(a,id)::tM_ r acc
def qZ_:List DA->List (Nat×Nat)->List (Nat×Nat)
 |[],acc=>acc
 |d::r,acc=>match d.act with
  |some i=>(i,d.id)::qZ_ r acc
  |none=>qZ_ r acc
def mN (ds:List DA) (inv:List (Nat×Nat)) (next:Nat):List (Nat×Nat)->Bool
 |[]=>true
 |(id,a)::r=>Nat.blt id next&&(Nat.blt id top&&(jH_ (az_ inv a) (some id)&&((aD_ ds id).isNone&&mN ds inv next r)))
def mH (ds:List DA) (rn:List (Nat×Nat)) (hv:List AV) (n:Nat) (H:AHeap):List (Nat×List AV)->Bool
 |[]=>true
 |(id,cs)::r=>(match az_ rn id with
  |some a=>match H.get a with
   |some (.cells l)=>mL H ds rn hv n cs l
   |_=>false
  |none=>false)&&mH ds rn hv n H r
def mD (inv:List (Nat×Nat)) (hv:List AV) (next:Nat):List DA->Bool
 |[]=>true
 |d::r=>Nat.blt d.id next&&(Nat.blt d.id top&&((match cn_ d.j hv with
  |some y=>bN_ y d.x
  |none=>false)&&((match d.act with
  |some i=>jH_ (az_ inv i) (some d.id)
  |none=>true)&&mD inv hv next r)))
def uL_ (H:AHeap) (rn:List (Nat×Nat)):List (Nat×Nat)->List (Nat×AV)->Option (List (Nat×AV))
 |[],acc=>some acc
 |(id,j)::r,acc=>match az_ rn id with
  |some a=>match oP_ H a with
   |some x=>match uL_ H rn r acc with
    |some l=>some ((j,x)::l)
    |none=>none
   |none=>none
  |none=>none
def mM (rn:List (Nat×Nat)) (hv:List AV) (H:AHeap):List (Nat×Nat)->Bool
 |[]=>true
 |(id,j)::r=>(match az_ rn id with
  |some a=>match oP_ H a with
   |some x=>match cn_ j hv with
    |some y=>bN_ y x
    |none=>false
   |none=>false
  |none=>false)&&mM rn hv H r
def oF_ (cs:List AV) (x:AV):Bool:=match x with
 | .vsl len z cs'=>dt_ cs' cs&&(Nat.beq (aM_ cs) (Nat.mul len z)&&(ad_ cs&&ba_ cs))
 |_=>false
def mF (rn:List (Nat×Nat)) (hv:List AV) (n:Nat) (H:AHeap):List (Nat×Nat)->Bool
 |[]=>true
 |(id,i)::r=>(match az_ rn id with
  |some a=>match H.get a with
   |some (.syl i')=>match Nat.blt i lH_ with
    |true=>Nat.blt i n&&Nat.beq i i'
    |false=>match cn_ (hp_ i) hv with
     |some x=>bN_ x (.sym i')
     |none=>false
   |some (.cells cs)=>match Nat.blt i lH_ with
    |true=>false
    |false=>match cn_ (hp_ i) hv with
     |some x=>oF_ cs x
     |none=>false
   |_=>false
  |none=>false)&&mF rn hv n H r
def pE_ (rn:List (Nat×Nat)) (H:AHeap):List (Nat×Nat)->List (Nat×AV)->List (Nat×AV)
 |[],acc=>acc
 |(id,i)::r,acc=>match Nat.blt i lH_ with
  |true=>pE_ rn H r acc
  |false=>match az_ rn id with
   |some a=>match H.get a with
    |some (.syl i')=>(hp_ i,.sym i')::pE_ rn H r acc
    |some (.cells cs)=>(hp_ i,.vsl (Nat.div (aM_ cs) (zF i)) (zF i) cs)::pE_ rn H r acc
    |_=>pE_ rn H r acc
   |none=>pE_ rn H r acc
def tQ_ (ds:List DA) (rn:List (Nat×Nat)):Nat->Bool
 |0=>true
 |k+1=>(match az_ rn k with
  |some a=>Nat.beq a k
  |none=>match aD_ ds k with
   |some d=>jH_ d.act (some k)
   |none=>false)&&tQ_ ds rn k
def noD:Dfs->Bool
 |[]=>true
 |_=>false
structure MR where
 rn:List (Nat×Nat)
 ds:List DA
 hv:List AV
def MR.inv (m:MR):List (Nat×Nat):=qZ_ m.ds (tM_ m.rn [])
def gS_ (n:Nat) (tp:Tpl) (T:Tm) (H:AHeap):Option MR:=match t2_ tp T H with
 |rn=>match po_ T H rn tp.acc with
  |none=>none
  |some ds=>match uL_ H rn tp.maps (uz_ ds (uD_ T tp.slots (uC_ H rn tp.rows [])))with
   |none=>none
   |some ms=>match oD_ (pE_ rn H tp.fix ms) 0 tp.nv with
    |none=>none
    |some hv=>match MR.mk rn ds hv with
      |m=>match ad_ hv&&(ba_ hv&&(mT H ds rn hv n T tp.slots&&(mN ds m.inv tp.next rn&&(mH ds rn hv n H tp.rows&&(mD m.inv hv tp.next ds&&(mM rn hv H tp.maps&&(mF rn hv n H tp.fix&&Nat.ble tp.next top)))))))with
       |true=>some m
       |false=>none
def nnL (k:Nat) (hv:List AV):List TA->Option (List Nat)
 |[]=>some []
 |t::r=>match nnL k hv r with
  |none=>none
  |some l=>match Nat.blt t.id k with
   |false=>some l
   |true=>match cn_ t.j hv with
    |some (.sym i)=>some (i::l)
    |some (.vsl _ _ _)=>some l
    |_=>none
structure MT where
 hv:List AV
 nn:List Nat
def gT_ (n k:Nat) (tp:Tpl) (S:VS):Option MT:=match noD S.D with
 |false=>none
 |true=>match gS_ n tp S.T S.H with
  |none=>none
  |some m=>match tQ_ m.ds m.rn k with
   |false=>none
   |true=>match nnL k m.hv tp.acc with
    |none=>none
    |some l=>some ⟨m.hv,l⟩
mutual
def rt_:AV->AV->List AV
 | .slx _ z _,a=>match z with
   |0=>match ae_ a with
    |true=>[]
    |false=>[a]
   |_+1=>[]
 | .agg ts,.agg cs=>rv_ ts cs
 | .tup ts,.tup cs=>rv_ ts cs
 | .iface _ t,.iface _ a=>rt_ t a
 | .vsl _ _ _,.sl id o n z c=>[.sl id o n z c]
 |_,_=>[]
def rv_:List AV->List AV->List AV
 |t::ts,a::r=>jx_ (rt_ t a) (rv_ ts r)
 |_,_=>[]
end
def gb_ (T:Tm):List (Nat×AV)->List AV
 |[]=>[]
 |(t,a)::r=>jx_ (rt_ a (tget T t)) (gb_ T r)
def ds_ (S:VS) (args:List AV):VS:=let l:=d8_ 100 S.H args []
 ⟨bg_ (frz (c4_ S.H l)) S.T,dJ_ S.H l,S.n,S.lv,S.D⟩
def tB_ (S:VS) (args:List AV) (id:Nat):VS:=let l:=d8_ 100 S.H args []
 ⟨bg_ (frz (c4_ S.H l)) S.T,sW_ (c4_ S.H l) id (dJ_ S.H l),S.n,S.lv,S.D⟩
mutual
def reA (id i k:Nat):AV->AV
 | .slx a z j=>match Nat.beq a id&&Nat.beq j i with
   |true=>.slx a z k
   |false=>.slx a z j
 | .vptr cs=>.vptr (reL id i k cs)
 | .vsl n z cs=>.vsl n z (reL id i k cs)
 | .fn f cs=>.fn f (reL id i k cs)
 | .iface t a=>.iface t (reA id i k a)
 | .agg cs=>.agg (reL id i k cs)
 | .tup cs=>.tup (reL id i k cs)
 |a=>a
def reL (id i k:Nat):List AV->List AV
 |[]=>[]
 |a::r=>reA id i k a::reL id i k r
end
structure SR where
 id:Nat
 i:Nat
 k:Nat
def g4_ (H:AHeap):List AV->List SR
 |[]=>[]
 |a::r=>match a with
  | .slx id _ i=>match H.get id with
    |some (.syl k)=>match Nat.beq i k with
     |true=>g4_ H r
     |false=>⟨id,i,k⟩::g4_ H r
    |_=>g4_ H r
  |_=>g4_ H r
def t1_:List SR->List AV->List AV
 |[],l=>l
 |q::r,l=>t1_ r (reL q.id q.i q.k l)
def reS:List SR->VS->VS
 |[],S=>S
 |q::r,S=>reS r ⟨bg_ (reA q.id q.i q.k) S.T,S.H,S.n,S.lv,S.D⟩
def nR_:List SR->List (Nat×Nat)
 |[]=>[]
 |q::r=>(q.i,q.k)::nR_ r
structure FR where
 l:List (Nat×Nat)
 S:VS
def hA_ (S:VS) (l:List AV):FR:=match g4_ S.H l with
 |[]=>⟨[],ds_ S l⟩
 |q=>⟨nR_ q,ds_ (reS q S) (t1_ q l)⟩
def k2_ (tp:Tpl) (S:VS):FR:=match gb_ S.T tp.slots with
 |[]=>⟨[],S⟩
 |l=>hA_ S l
def n3_ (H:AHeap) (a:AV):Option (Nat×Nat×AV):=match a with
 | .slx id z i=>match H.get id with
   |some (.syl k)=>match Nat.beq i k with
    |true=>none
    |false=>some (i,k,.slx id z k)
   |_=>none
 |_=>none
def fL_:Nat->AV->List AV->List AV
 |_,_,[]=>[]
 |0,x,_::r=>x::r
 |n+1,x,a::r=>a::fL_ n x r
def k0_ (rn:List (Nat×Nat)) (t:TA) (S:VS):FR:=match kh_ S.T S.H rn t with
 |none=>⟨[],S⟩
 |some a=>match n3_ S.H a with
  |none=>⟨[],S⟩
  |some (i,k,a')=>match t.off with
   |none=>match Nat.blt t.loc 512 with
    |true=>⟨[(i,k)],⟨dO_ S.T t.loc a',S.H,S.n,S.lv,S.D⟩⟩
    |false=>⟨[],S⟩
   |some o=>match az_ rn t.loc with
    |some r=>match S.H.get r with
     |some (.cells cs)=>⟨[(i,k)],⟨S.T,S.H.set r (.cells (fL_ o a' cs)),S.n,S.lv,S.D⟩⟩
     |_=>⟨[],S⟩
    |none=>match tget S.T (Nat.sub t.loc 600)with
     | .tup cs=>match Nat.blt (Nat.sub t.loc 600) 512 with
       |true=>⟨[(i,k)],⟨dO_ S.T (Nat.sub t.loc 600) (.tup (fL_ o a' cs)),S.H,S.n,S.lv,S.D⟩⟩
       |false=>⟨[],S⟩
     | .agg cs=>match Nat.blt (Nat.sub t.loc 600) 512 with
       |true=>⟨[(i,k)],⟨dO_ S.T (Nat.sub t.loc 600) (.agg (fL_ o a' cs)),S.H,S.n,S.lv,S.D⟩⟩
       |false=>⟨[],S⟩
     |_=>⟨[],S⟩
def dZ_ (rn:List (Nat×Nat)):List TA->VS->FR
 |[],S=>⟨[],S⟩
 |t::r,S=>match k0_ rn t S with
  |f=>match dZ_ rn r f.S with
   |g=>⟨appP f.l g.l,g.S⟩
where
 appP:List (Nat×Nat)->List (Nat×Nat)->List (Nat×Nat)
 |[],l=>l
 |x::r,l=>x::appP r l
def k1_ (tp:Tpl) (S:VS):FR:=dZ_ (t2_ tp S.T S.H) tp.acc S
def c6_ (tp:Tpl) (S:VS):FR:=match k2_ tp S with
 |f=>match k1_ tp f.S with
  |g=>⟨dZ_.appP f.l g.l,g.S⟩
def jb_:List (Nat×Nat)->VT->VT
 |[],t=>t
 |(i,k)::r,t=>.chk (.same i k) (jb_ r t)
structure MA where
 j:Nat
 l:List (Nat×Nat)
 m:MT
def clashT (T:Tm):List (Nat×AV)->Bool
 |[]=>false
 |(t,a)::r=>(match a with
  | .int _ x=>match tget T t with
    | .int _ y=>not (eqI x y)
    |_=>false
  |_=>false)||clashT T r
def dK_ (n k:Nat):List Tpl->Nat->VS->Option MA
 |[],_,_=>none
 |tp::r,j,S=>match clashT S.T tp.slots with
  |true=>dK_ n k r (Nat.succ j) S
  |false=>match c6_ tp S with
   |f=>match gT_ n k tp f.S with
    |some m=>some ⟨j,f.l,m⟩
    |none=>dK_ n k r (Nat.succ j) S
def Tpl.heap (tp:Tpl) (n:Nat):AHeap:=ka_ n (kb_ n (hq_ n (iB_ n tp.next tp.rows) tp.acc) tp.maps) tp.fix
def Tpl.inst (tp:Tpl) (n lv:Nat):VS:=⟨cD_ n tp.slots,tp.heap n,Nat.add n tp.nv,lv,[]⟩
def qA_:List Nat->VT->VT
 |[],t=>t
 |i::r,t=>.chk (.nn i) (qA_ r t)
section
variable [Gl]
def cx_:List (Nat×AV)->List AV
 |[]=>[]
 |(_,a)::r=>a::cx_ r
def sa_ (ft:FT) (n:Nat) (Y0:Sy) (Q:Nat->List AV->Prop) (Y:Sy) (r:FRes):Prop:=
 ∃j ws b tp,ft.exs[j]? =some (b,tp)/\Q j ws/\okL ws=true/\ws.length=tp.nv/\Y=Y0.puts n ws/\r=(match b with
  |true=>.pan (tget (cD_ n tp.slots) 0) (tp.heap n)
  |false=>.ret (tget (cD_ n tp.slots) 0) (tp.heap n))
def CF (P:Program) (f:FuncId) (ft:FT) (vs:List AV) (Q:Nat->List AV->Prop):Prop:=
 vs.length=ft.ent.nv/\∀Y,Fresh Y 64->SemCallF P ft.k (Y.puts 64 vs) f (br_ 64 (cx_ ft.ent.slots)) (ft.ent.heap 64) (sa_ ft (Nat.add 64 ft.ent.nv) (Y.puts 64 vs) Q)
def Chk.ok (Y:Sy):Chk->Prop
 | .same i j=>(Y.v i=some .nsl/\Y.v j=some .nsl)\/∃n z cs ds,Y.v i=some (.vsl n z cs)/\Y.v j=some (.vsl n z ds)
 | .nn i=>∃n z cs,Y.v i=some (.vsl n z cs)
 | .pos i=>∃n z cs,Y.v i=some (.vsl (n+1) z cs)
mutual
def VOK (P:Program) (Q:AV->Prop):List (Nat->List AV->Prop)->Sy->VT->Prop
 |_,_,.bad=>False
 |_,Y,.done v=>Q (den Y.v v)
 |L,Y,.ite i a b=>∃t,Y.v i=some (.bool t)/\(t=true->VOK P Q L Y a)/\(t=false->VOK P Q L Y b)
 |L,Y,.lt op args n m t=>match m with
  |none=>∃r,op.run P (ab_ Y.v args)=some r/\okC r=true/\VOK P Q L (Y.put n r) t
  |some k=>∃cs,op.run P (ab_ Y.v args)=some (.agg cs)/\cs.length=k/\okL cs=true/\VOK P Q L (Y.puts n cs) t
 |L,Y,.call f args n sh t=>∃v vs,jw_ P f (ab_ Y.v args) v/\hn_ sh v=some vs/\okL vs=true/\VOK P Q L (Y.puts n vs) t
 |L,Y,.loop n j hv bs=>∃(Inv:Nat->List AV->Prop) (μ:Nat->List AV->Nat),(∀j vs,Inv j vs->okL vs=true)/\Inv j (ab_ Y.v hv)/\tC_ P Q Inv μ L n 0 Y bs
 |L,Y,.again lvl j hv=>∃R,L[lvl]? =some R/\R j (ab_ Y.v hv)
 |L,Y,.chk c t=>c.ok Y/\VOK P Q L Y t
 |L,Y,.callF f ft hv n bs=>∃R,CF P f ft (ab_ Y.v hv) R/\okL (ab_ Y.v hv)=true/\sb_ P Q R L (Y.puts n (ab_ Y.v hv)) (Nat.add n ft.ent.nv) 0 bs
 |L,Y,.both a b=>VOK P Q L Y a/\VOK P Q L Y b
def tC_ (P:Program) (Q:AV->Prop) (Inv:Nat->List AV->Prop) (μ:Nat->List AV->Nat):List (Nat->List AV->Prop)->Nat->Nat->Sy->VTs->Prop
 |_,_,_,_,.nil=>True
 |L,n,j,Y,.cons nv t r=>(∀vs,vs.length=nv->Inv j vs->VOK P Q (L++[λj' vs'=>Inv j' vs'/\μ j' vs'<μ j vs]) (Y.puts n vs) t)/\tC_ P Q Inv μ L n (j+1) Y r
def sb_ (P:Program) (Q:AV->Prop) (R:Nat->List AV->Prop):List (Nat->List AV->Prop)->Sy->Nat->Nat->VTs->Prop
 |_,_,_,_,.nil=>True
 |L,Y,n,j,.cons _ t r=>(∀ws,R j ws->VOK P Q L (Y.puts n ws) t)/\sb_ P Q R L Y n (j+1) r
end
end
def hT_:tc_->Nat->Option (List Tpl)
 |[],_=>none
 |(b,l)::r,bid=>match Nat.beq b bid with
  |true=>some l
  |false=>hT_ r bid
section
variable [Gl]
abbrev qj_:=List (FuncId×List (Option Nat))
def t6_:qj_->FuncId->Option (List (Option Nat))
 |[],_=>none
 |(g,sh)::r,f=>match Nat.beq g f with
  |true=>some sh
  |false=>t6_ r f
abbrev qk_:=List (FuncId×FT)
def tK_:qk_->FuncId->Option FT
 |[],_=>none
 |(g,t)::r,f=>match Nat.beq g f with
  |true=>some t
  |false=>tK_ r f
structure VC where
 fc:FcT
 cs:qj_
 hs:tc_
 k:Nat
 own:Bool
 fs:qk_
def qp_ (P:Program) (S:VS) (o:Oper):Option (Nat×Nat×XOp×List AV):=match noD S.D with
 |true=>fS_ P S.T S.H o
 |false=>none
def ng_ (P:Program) (S:VS) (o:Oper):Option (Nat×Nat×XOp×List AV):=match noD S.D with
 |true=>match cz_ P S.T S.H o with
  |some r=>some r
  |none=>tX_ P S.T S.H o
 |false=>none
def rd_ (P:Program) (S:VS) (o:Oper):Option (Nat×XOp×List AV):=match noD S.D with
 |true=>rc_ P S.T S.H o
 |false=>none
def sgS (hv:List AV) (n i:Nat):Nat:=match Nat.blt i 64 with
 |true=>i
 |false=>match cn_ (Nat.sub i 64) hv with
  |some (.sym s)=>s
  |_=>Nat.add n (Nat.sub i 64)
def sgV (hv:List AV) (n i:Nat):AV:=match Nat.blt i 64 with
 |true=>.sym i
 |false=>match cn_ (Nat.sub i 64) hv with
  |some a=>match okC a with
   |true=>a
   |false=>.sym (sgS hv n i)
  |none=>.sym (sgS hv n i)
mutual
def dp_ (hv:List AV) (n:Nat) (r:Nat->Nat):AV->AV
 | .sym i=>sgV hv n i
 | .slx id z i=>.slx (r id) z (sgS hv n i)
 | .ptx id j z off=>.ptx (r id) (sgS hv n j) z off
 | .ptr id off=>.ptr (r id) off
 | .sl id off len sz cap=>.sl (r id) off len sz cap
 | .map id=>.map (r id)
 | .vptr cs=>.vptr (fm_ hv n r cs)
 | .vsl a z cs=>.vsl a z (fm_ hv n r cs)
 | .fn f cs=>.fn f (fm_ hv n r cs)
 | .iface t a=>.iface t (dp_ hv n r a)
 | .agg cs=>.agg (fm_ hv n r cs)
 | .tup cs=>.tup (fm_ hv n r cs)
 |a=>a
def fm_ (hv:List AV) (n:Nat) (r:Nat->Nat):List AV->List AV
 |[]=>[]
 |a::l=>dp_ hv n r a::fm_ hv n r l
end
def ra_ (hv:List AV) (n:Nat) (r:Nat->Nat):ABlk->Option ABlk
 | .cells cs=>some (.cells (fm_ hv n r cs))
 | .syl i=>some (.syl (sgS hv n i))
 | .mpl i=>some (.mpl (sgS hv n i))
 |_=>none
def k9_ (hv:List AV) (n:Nat) (r:Nat->Nat) (F:AHeap) (base:AHeap):List Nat->AHeap
 |[]=>base
 |id::l=>match F.get id with
  |some k=>match ra_ hv n r k with
   |some k'=>(k9_ hv n r F base l).set (r id) k'
   |none=>k9_ hv n r F base l
  |none=>k9_ hv n r F base l
def cU_:List TA->List Nat->List Nat
 |[],l=>l
 |t::r,l=>t.id::cU_ r l
def p7_:List (Nat×Nat)->List Nat->List Nat
 |[],l=>l
 |(_,a)::r,l=>a::p7_ r l
def nf_:List DA->List Nat->List Nat
 |[],l=>l
 |d::r,l=>match d.act with
  |some i=>i::nf_ r l
  |none=>nf_ r l
def iK_ (m:MR) (j:Nat):Option Nat:=match az_ m.rn j with
 |some a=>some a
 |none=>match aD_ m.ds j with
  |some d=>d.act
  |none=>none
def nH_ (m:MR):Nat->Option (List Nat)
 |0=>some []
 |k+1=>match nH_ m k with
  |some l=>match iK_ m k with
   |some a=>some (snoc l a)
   |none=>none
  |none=>none
where
 snoc:List Nat->Nat->List Nat
 |[],a=>[a]
 |x::r,a=>x::snoc r a
def sF_:Nat->List Nat->Option Nat
 |_,[]=>none
 |0,a::_=>some a
 |n+1,_::r=>sF_ n r
def rx_ (low:List Nat) (k nx j:Nat):Nat:=match sF_ j low with
 |some a=>a
 |none=>Nat.add nx (Nat.sub j k)
mutual
def jm_:AV->Bool
 | .ptr id _=>Nat.blt id top
 | .sl id _ _ _ _=>Nat.blt id top
 | .map id=>Nat.blt id top
 | .slx id _ _=>Nat.blt id top
 | .ptx id _ _ _=>Nat.blt id top
 | .vptr cs=>jn_ cs
 | .vsl _ _ cs=>jn_ cs
 | .fn _ cs=>jn_ cs
 | .iface _ a=>jm_ a
 | .agg cs=>jn_ cs
 | .tup cs=>jn_ cs
 |_=>true
def jn_:List AV->Bool
 |[]=>true
 |a::r=>jm_ a&&jn_ r
end
def qc_ (n:Nat):List (Nat×List AV)->Bool
 |[]=>true
 |(_,cs)::r=>jn_ (br_ n cs)&&qc_ n r
def qb_:List Nat->Bool
 |[]=>true
 |i::r=>Nat.blt i top&&qb_ r
def k3_ (H:AHeap):List Nat->Bool
 |[]=>true
 |a::r=>(H.get a).isSome&&k3_ H r
def jf_:Nat->List (Nat×AV)->Bool
 |_,[]=>true
 |i,(j,_)::r=>Nat.beq i j&&(Nat.blt i 512&&jf_ (Nat.succ i) r)
def o8_ (k n:Nat) (H:AHeap):List (Bool×Tpl)->Bool
 |[]=>true
 |(_,tp)::r=>Nat.ble k tp.next&&(Nat.blt (Nat.add H.next (Nat.sub tp.next k)) H.hi&&(jm_ (tget (cD_ n tp.slots) 0)&&(qc_ n tp.rows&&(qb_ (cU_ tp.acc tp.ids)&&o8_ k n H r))))
def exH (ft:FT) (m:MR) (low:List Nat) (S:VS) (tp:Tpl):AHeap:=k9_ m.hv S.n (rx_ low ft.k S.H.next) (tp.heap (Nat.add 64 ft.ent.nv))
 (match dJ_ S.H (nf_ m.ds (p7_ m.rn []))with
   |B=>⟨B.tr,Nat.add S.H.next (Nat.sub tp.next ft.k),B.hi⟩) (cU_ tp.acc tp.ids)
def exV (ft:FT) (m:MR) (low:List Nat) (S:VS) (tp:Tpl):AV:=dp_ m.hv S.n (rx_ low ft.k S.H.next) (tget (cD_ (Nat.add 64 ft.ent.nv) tp.slots) 0)
def exN (ft:FT) (S:VS) (tp:Tpl):Nat:=Nat.add (Nat.add S.n ft.ent.nv) tp.nv
def rX_ (ft:FT) (m:MR) (low:List Nat) (u:Tm->AV->Tm) (S:VS) (X:VX->VT) (k:VS->VT):List (Bool×Tpl)->VTs
 |[]=>.nil
 |(b,tp)::r=>.cons tp.nv (match b with
  |false=>k ⟨u S.T (exV ft m low S tp),exH ft m low S tp,exN ft S tp,S.lv,S.D⟩
  |true=>X (.pan (exV ft m low S tp) ⟨S.T,exH ft m low S tp,exN ft S tp,S.lv,S.D⟩)) (rX_ ft m low u S X k r)
def lu_ (g:FuncId) (ft:FT) (u:Tm->AV->Tm) (S:VS) (args:List AV) (X:VX->VT) (k:VS->VT):VT:=match k1_ ft.ent ⟨aY_ args 0 topq,S.H,S.n,S.lv,[]⟩with
 |f=>match gS_ 64 ft.ent f.S.T f.S.H with
  |none=>.bad
  |some m=>match nH_ m ft.k with
   |none=>.bad
   |some low=>match o8_ ft.k (Nat.add 64 ft.ent.nv) f.S.H ft.exs&&(Nat.ble f.S.H.hi top&&(Nat.beq (aM_ args) (aM_ (cx_ ft.ent.slots))&&(jf_ 0 ft.ent.slots&&k3_ f.S.H low)))with
    |true=>jb_ f.l (.callF g ft m.hv S.n (rX_ ft m low u ⟨S.T,f.S.H,S.n,S.lv,S.D⟩ X k ft.exs))
    |false=>.bad
def n8_ (P:Program) (g:FuncId) (ft:FT) (o:Oper) (u:Tm->AV->Tm) (S:VS) (args:List AV) (X:VX->VT) (k:VS->VT):VT:=match gb_ (aY_ args 0 topq) ft.ent.slots with
 |[]=>lu_ g ft u S args X k
 |l=>match hA_ S l with
  |f=>match (ac_ P o).run f.S.T f.S.H with
   |some r=>match r with
    | .call g' args'=>match Nat.beq g' g with
      |true=>jb_ f.l (lu_ g ft u f.S args' X k)
      |false=>.bad
    |_=>.bad
   |none=>.bad
def INL (P:Program) (Q:AV->Prop) (fc:FcT) (L:List (Nat->List AV->Prop)) (n:Nat) (Y:Sy) (ret pan:AV->AHeap->Nat->Nat->VT) (Y':Sy) (r:FRes):Prop:=
 ∃(n' lv':Nat) (L':List (Nat->List AV->Prop)),L <+: L'/\L'.length=lv'/\n<=n'/\(∀i,i<n->Y'.v i=Y.v i)/\(Fresh Y' n'/\KnownF P fc Y')/\(match r with
  | .ret a H=>VOK P Q L' Y' (ret a H n' lv')
  | .pan a H=>VOK P Q L' Y' (pan a H n' lv'))
structure Inl (P:Program) (fuel:Nat) where
 run:VC->FuncId->List AV->AHeap->Nat->Nat->(AV->AHeap->Nat->Nat->VT)->(AV->AHeap->Nat->Nat->VT)->VT
 ok:∀{c:VC} {g:FuncId} {args:List AV} {H:AHeap} {n lv:Nat} {ret pan:AV->AHeap->Nat->Nat->VT} {Q:AV->Prop} {L:List (Nat->List AV->Prop)} {Y:Sy},P.follows .mixedOrders=true->as_ P (a9_ P fuel)->L.length=lv->Fresh Y n/\KnownF P c.fc Y->
  VOK P Q L Y (run c g args H n lv ret pan)->SemCallF P H.next Y g args H (INL P Q c.fc L n Y ret pan)
def in0 (P:Program) (fuel:Nat):Inl P fuel:=⟨λ_ _ _ _ _ _ _ _=>.bad,λ_ _ _ _ h=>by grind [VOK]⟩
mutual
def eh_ (k n:Nat):AV->Bool
 | .ptr id _=>Nat.blt id k
 | .sl id _ _ _ _=>Nat.blt id k
 | .map id=>Nat.blt id k
 | .slx id _ i=>Nat.blt id k&&Nat.blt i n
 | .ptx id j _ _=>Nat.blt id k&&Nat.blt j n
 | .sym i=>Nat.blt i n
 | .vptr cs=>eE_ k n cs
 | .vsl _ _ cs=>eE_ k n cs
 | .fn _ cs=>eE_ k n cs
 | .iface _ a=>eh_ k n a
 | .agg cs=>eE_ k n cs
 | .tup cs=>eE_ k n cs
 |_=>true
def eE_ (k n:Nat):List AV->Bool
 |[]=>true
 |a::r=>eh_ k n a&&eE_ k n r
end
def bM_ (k n:Nat) (a:AV):AV:=match eh_ k n a with
 |true=>a
 |false=>.opq
def oG_ (k n:Nat):Dfs->Bool
 |[]=>true
 |(_,args)::r=>eE_ k n args&&oG_ k n r
def lv_ (P:Program) {fuel:Nat} (I:Inl P fuel) (c:VC) (o:Oper) (u:Tm->AV->Tm) (S:VS) (X:VX->VT) (k:VS->VT):VT:=match oG_ S.H.next S.n S.D&&Nat.ble c.k S.H.next with
 |false=>.bad
 |true=>match bg_ (bM_ S.H.next S.n) S.T with
  |T1=>match (ac_ P o).run T1 S.H with
   |some r=>match r with
    | .call g args=>I.run c g args S.H S.n S.lv
      (λa H n lv=>match Nat.beq lv S.lv with
       |true=>k ⟨u T1 a,H,n,lv,S.D⟩
       |false=>.bad)
      (λa H n lv=>match Nat.beq lv S.lv with
       |true=>X (.pan a ⟨T1,H,n,lv,S.D⟩)
       |false=>.bad)
    |_=>.bad
   |none=>.bad
def rQ_ (P:Program) (fuel:Nat) (I:Inl P fuel) (c:VC) (o:Oper) (u:Tm->AV->Tm) (S:VS) (g:FuncId) (args:List AV) (X:VX->VT) (k:VS->VT):VT:=match tK_ c.fs g with
 |some ft=>n8_ P g ft o u S args X k
 |none=>match t6_ c.cs g with
  |some sh=>match ad_ args with
   |true=>.call g args S.n sh (k ⟨u S.T (db_ S.n sh),S.H,Nat.add S.n (dm_ sh),S.lv,S.D⟩)
   |false=>match (ac_ P o).run (ds_ S args).T (ds_ S args).H with
    |some r=>match r with
     | .call g' args'=>match Nat.beq g' g&&ad_ args' with
       |true=>.call g args' S.n sh (k ⟨u (ds_ S args).T (db_ S.n sh),(ds_ S args).H,Nat.add S.n (dm_ sh),S.lv,S.D⟩)
       |false=>.bad
     |_=>.bad
    |none=>.bad
  |none=>match a9_ P fuel g args S.H with
   |some r=>match r with
    | .ret a H'=>k ⟨u S.T a,H',S.n,S.lv,S.D⟩
    | .pan _ _=>lv_ P I c o u S X k
   |none=>lv_ P I c o u S X k
def s8_ (P:Program) (c:VC) (u:Tm->AV->Tm) (S:VS) (k:VS->VT) (op:XOp) (args:List AV):VT:=match mm_ P op with
 |none=>match l6_ c.fc.b op args with
  |some v=>k ⟨u S.T v,S.H,S.n,S.lv,S.D⟩
  |none=>.lt op args S.n none (k ⟨u S.T (.sym S.n),S.H,Nat.succ S.n,S.lv,S.D⟩)
 |some m=>.lt op args S.n (some m) (k ⟨u S.T (.agg (aj_ S.n m)),S.H,Nat.add S.n m,S.lv,S.D⟩)
def uh_ (P:Program) (c:VC) (o:Oper) (u:Tm->AV->Tm) (S:VS) (k:VS->VT):Option VT:=match c.own with
 |false=>none
 |true=>match rr_ P S.T o with
  |some a=>some (k ⟨u S.T a,S.H,S.n,S.lv,S.D⟩)
  |none=>match pN_ P S.T o with
   |some (op,args,id,sz)=>some (.lt op args S.n none (k ⟨u S.T (.ptx id S.n sz 0),S.H,Nat.succ S.n,S.lv,S.D⟩))
   |none=>match ldX S.T S.H o with
    |some (op,args)=>match mm_ P op with
     |none=>some (.lt op args S.n none (k ⟨u S.T (.sym S.n),S.H,Nat.succ S.n,S.lv,S.D⟩))
     |some m=>some (.lt op args S.n (some m) (k ⟨u S.T (.agg (aj_ S.n m)),S.H,Nat.add S.n m,S.lv,S.D⟩))
    |none=>match stX S.T S.H o with
     |some (op,args,id)=>some (.lt op args S.n none (k ⟨u S.T (.tup []),S.H.set id (.syl S.n),Nat.succ S.n,S.lv,S.D⟩))
     |none=>match tkX P S.T S.H o with
        |some (op,args,id,sz)=>some (.lt op args S.n none (k ⟨u S.T (.slx id sz S.n),S.H.set id (.syl S.n),Nat.succ S.n,S.lv,S.D⟩))
        |none=>none
def r4_ (P:Program) (fuel:Nat) (I:Inl P fuel) (c:VC) (o:Oper) (u:Tm->AV->Tm) (S:VS) (X:VX->VT) (k:VS->VT):VT:=match (ac_ P o).run S.T S.H with
 |some r=>match r with
  | .val a H'=>k ⟨u S.T a,H',S.n,S.lv,S.D⟩
  | .call g args=>rQ_ P fuel I c o u S g args X k
  | .dfr g args=>k ⟨u S.T (.tup []),S.H,S.n,S.lv,(g,args)::S.D⟩
  | .pan v=>X (.pan v S)
  |_=>.bad
 |none=>match lh_ o S.T with
  |some (i,a,b)=>.ite i (k ⟨u (S.know i true).T (look (S.know i true).T a),S.H,S.n,S.lv,S.D⟩) (k ⟨u (S.know i false).T (look (S.know i false).T b),S.H,S.n,S.lv,S.D⟩)
  |none=>match qy_ c.fc.x S.T o with
   |some v=>k ⟨u S.T v,S.H,S.n,S.lv,S.D⟩
   |none=>match uh_ P c o u S k with
    |some t=>t
    |none=>match qp_ P S o with
    |some (id,sz,op,args)=>.lt op args S.n none (k ⟨u S.T (.slx S.H.next sz S.n),(S.H.erase id).push (.syl S.n),Nat.succ S.n,S.lv,S.D⟩)
    |none=>match ng_ P S o with
    |some (id,sz,op,args)=>.lt op args S.n none (k ⟨u S.T (.slx S.H.next sz S.n),(S.H.erase id).push (.syl S.n),Nat.succ S.n,S.lv,S.D⟩)
    |none=>match nF_ S.T o with
     |some (op,args)=>.lt op args S.n none (k ⟨u S.T (.sym S.n),S.H,Nat.succ S.n,S.lv,S.D⟩)
     |none=>match rd_ P S o with
     |some (id,op,args)=>.lt op args S.n none (k ⟨u S.T (.tup []),S.H.set id (.mpl S.n),Nat.succ S.n,S.lv,S.D⟩)
     |none=>match q9_ S.T S.H o with
     |some (op,args)=>match nB_ P o with
      |true=>.lt op args S.n none (k ⟨u S.T (.sym S.n),S.H,Nat.succ S.n,S.lv,S.D⟩)
      |false=>.bad
     |none=>match jZ_ S.T S.H o with
     |some (op,args)=>.lt op args S.n none (k ⟨u S.T (.sym S.n),S.H,Nat.succ S.n,S.lv,S.D⟩)
     |none=>match mgX S.T S.H o with
     |some (op,args)=>.lt op args S.n none (k ⟨u S.T (.sym S.n),S.H,Nat.succ S.n,S.lv,S.D⟩)
     |none=>match tJ_ P S.T o with
     |some (op,args)=>.lt op args S.n none (k ⟨u S.T (.sym S.n),S.H,Nat.succ S.n,S.lv,S.D⟩)
     |none=>match c3_ S.T o with
      |some (op,args)=>match ad_ args with
       |true=>s8_ P c u S k op args
       |false=>match c3_ (ds_ S args).T o with
        |some (op',args')=>match ad_ args' with
         |true=>s8_ P c u (ds_ S args) k op' args'
         |false=>.bad
        |none=>.bad
      |none=>.bad
def r1_ (all:List Oper) (o:Oper) (T:Tm):Option Bool:=match a2_ all o with
 | .always=>some true
 | .mk g=>g T
def vOp (P:Program) (fuel:Nat) (I:Inl P fuel) (c:VC) (all:List Oper) (o:Oper) (u:Tm->AV->Tm) (X:VX->VT) (next:VS->VT) (S:VS):VT:=match r1_ all o S.T with
 |some t=>match t with
  |false=>next ⟨u S.T (.tup []),S.H,S.n,S.lv,S.D⟩
  |true=>r4_ P fuel I c o u S X next
 |none=>.bad
def ru_ (T:Tm):List (Nat×Operand)->List AV
 |[]=>[]
 |(_,x)::r=>match look T x with
  | .slx id z i=>.slx id z i::ru_ T r
  |_=>ru_ T r
def mK_:List AV->List AV
 |[]=>[]
 |a::r=>match a with
  | .slx id z i=>.slx id z i::mK_ r
  | .sl id o l z c=>.sl id o l z c::mK_ r
  |_=>mK_ r
def mL_ (T:Tm):List (Nat×Operand)->List AV
 |[]=>[]
 |(_,x)::r=>match look T x with
  | .slx id z i=>.slx id z i::mL_ T r
  | .sl id o l z c=>.sl id o l z c::mL_ T r
  | .agg cs=>jx_ (mK_ cs) (mL_ T r)
  |_=>mL_ T r
def nw_ (own:Bool) (o:Oper) (S:VS):VS:=match o.op with
 | .buildSlice _ _ ps=>match (match own with
   |true=>mL_ S.T ps.toList
   |false=>ru_ S.T ps.toList)with
   |[]=>S
   |a=>ds_ S a
 | .call c=>match own with
   |false=>S
   |true=>match c.callee with
    | .builtin b=>match b with
      | .append=>match c.args.toList with
        |[_,x]=>match look S.T x with
         | .sl id _ _ _ _=>match S.H.get id with
          |some (.cells cs)=>match mK_ cs with
           |[]=>S
           |a=>tB_ S a id
          |_=>S
         |_=>S
        |_=>S
      |_=>S
    |_=>S
 |_=>S
def lx_ (P:Program) (N fuel:Nat) (I:Inl P fuel) (c:VC) (all:List Oper) (X:VX->VT):List Oper->VS->(VS->VT)->VT
 |[],S,K=>K S
 |o::r,S,K=>match bY_ N o.dst with
  | .bad=>.bad
  | .mk u=>match me_ all o S.T with
    |some i=>.ite i (vOp P fuel I c all o u X (λS=>lx_ P N fuel I c all X r S K) (S.know i true)) (vOp P fuel I c all o u X (λS=>lx_ P N fuel I c all X r S K) (S.know i false))
    |none=>vOp P fuel I c all o u X (λS=>lx_ P N fuel I c all X r S K) (nw_ c.own o S)
def isM (x:SI):Bool:=match x.o.op with
 | .alloc _=>true
 | .box _ _=>true
 | .buildSlice _ _ _=>true
 |_=>false
inductive Tch where
 |none
 |one (id:Nat)
 |all
def g7_ (x:SI) (R:Tm):Tch:=match x.o.op with
 | .call c=>match ke_ x with
   |false=>.all
   |true=>match c.args.toList with
    |s::r=>match look R s with
     | .slx id _ _=>.one id
     | .sym _=>.none
     | .sl id _ _ _ _=>.one id
     | .vsl n _ _=>match n with
       |0=>match r with
        |y::_=>match look R y with
          | .sym _=>.none
          |_=>.all
        |[]=>.all
       |_+1=>.all
     |_=>.all
    |[]=>.all
 |_=>.all
def ic_ (x:SI) (R:Tm):Bool:=match ke_ x with
 |false=>false
 |true=>match g7_ x R with
  | .all=>false
  |_=>true
def bW_ (x:SI) (R:Tm):Tch:=match isM x with
 |true=>.none
 |false=>match x.o.op with
  | .store _ a _=>match look R a with
    | .ptr id _=>.one id
    | .ptx id _ _ _=>.one id
    |_=>.all
  |_=>g7_ x R
def apart (t:Tch) (ids:List Nat):Bool:=match t with
 | .none=>true
 | .one id=>not (memT id ids)
 | .all=>match ids with
   |[]=>true
   |_::_=>false
structure GW where
 i:Nat
 H:AHeap
 t:Tch
def mF_ (bef:Nat) (H:AHeap):List GW->AHeap
 |[]=>H
 |g::r=>match bit bef g.i with
  |true=>H
  |false=>mF_ bef g.H r
def rm_ (bef:Nat) (ids:List Nat):List GW->Bool
 |[]=>true
 |g::r=>match bit bef g.i with
  |true=>true
  |false=>apart g.t ids&&rm_ bef ids r
def sI_ (bef:Nat) (t:Tch):List (Nat×List Nat)->Bool
 |[]=>true
 |(i,ids)::r=>(bit bef i||apart t ids)&&sI_ bef t r
def c7_ (H:AHeap):List Nat->AHeap
 |[]=>⟨hnil,0,0⟩
 |id::r=>match H.get id with
  |some b=>(c7_ H r).set id b
  |none=>c7_ H r
def uI_ (a:AV) (acc:List Nat):List Nat:=match a with
 | .ptr id _=>id::acc
 | .sl id _ _ _ _=>id::acc
 | .map id=>id::acc
 | .ptx id _ _ _=>id::acc
 |_=>acc
def to_ (T:Tm):List Nat->List Nat
 |[]=>[]
 |t::r=>uI_ (tget T t) (to_ T r)
def gc_ (x:SI) (T:Tm):List Nat:=match vt_ x with
 |true=>[]
 |false=>to_ T x.rd
def gJ_ (x:SI) (S:VS) (gs:List GW):AHeap:=c7_ (mF_ x.bef S.H gs) (gc_ x S.T)
def oW_ (x:SI) (i:Nat) (y:SI):Bool:=match isW x&&isW y with
 |true=>bit y.bef i
 |false=>true
def nN_ (x:SI) (i:Nat):List SI->Bool
 |[]=>true
 |y::r=>oW_ x i y&&nN_ x i r
def le_:List SI->Nat->Bool
 |[],_=>true
 |x::r,i=>nN_ x i r&&le_ r (Nat.succ i)
def qV_ (x:SI):Nat->Bool
 |0=>true
 |n+1=>bit x.bef n&&qV_ x n
def rM_ (x:SI) (i n:Nat):Nat:=match Nat.beq n (Nat.succ i)&&qV_ x i with
 |true=>i
 |false=>n
def dc_:List SI->Nat->Nat
 |[],i=>i
 |x::r,i=>rM_ x i (dc_ r (Nat.succ i))
def ej_:Nat->List SI->List SI
 |0,_=>[]
 |_+1,[]=>[]
 |n+1,x::r=>x::ej_ n r
def on_:Nat->List Oper->List Oper
 |0,l=>l
 |_+1,[]=>[]
 |n+1,_::r=>on_ n r
def pj_ (P:Program) (x:SI) (Hx:AHeap) (u:Tm->AV->Tm) (S:VS) (k:VS->VT):VT:=match cd_ (ac_ P x.o) (av_ S.T x.rd topq) Hx with
 |some q=>k ⟨u S.T q,S.H,S.n,S.lv,S.D⟩
 |none=>.bad
def rS_ (u:Tm->AV->Tm) (S:VS) (k:VS->VT) (R:Tm) (o:Oper) (id sz:Nat) (op:XOp) (args:List AV):VT:=match aE_ S.n args with
 |true=>match S.H.get S.H.next with
  |none=>match fw_ args with
   |true=>.lt op args S.n none (k ⟨u S.T (.slx S.H.next sz S.n),(S.H.erase id).push (.syl S.n),Nat.succ S.n,S.lv,S.D⟩)
   |false=>match cV_ args with
    |some i=>.lt .emp [.sym i] S.n none (.ite S.n (k ⟨u S.T (lU_ R o),S.H,Nat.succ S.n,S.lv,S.D⟩)
     (.lt op args (Nat.succ S.n) none (k ⟨u S.T (.slx S.H.next sz (Nat.succ S.n)),(S.H.erase id).push (.syl (Nat.succ S.n)),Nat.succ (Nat.succ S.n),S.lv,S.D⟩)))
    |none=>.bad
  |some _=>.bad
 |false=>.bad
def m3_ (P:Program) (x:SI) (u:Tm->AV->Tm) (S:VS) (k:VS->VT):VT:=match ke_ x with
 |false=>.bad
 |true=>match fS_ P (av_ S.T x.rd topq) S.H x.o with
  |some (id,sz,op,args)=>match aE_ S.n args with
   |true=>match S.H.get S.H.next with
    |none=>match fw_ args with
     |true=>.lt op args S.n none (k ⟨u S.T (.slx S.H.next sz S.n),(S.H.erase id).push (.syl S.n),Nat.succ S.n,S.lv,S.D⟩)
     |false=>match cV_ args with
        |some i=>.chk (.pos i) (.lt op args S.n none (k ⟨u S.T (.slx S.H.next sz S.n),(S.H.erase id).push (.syl S.n),Nat.succ S.n,S.lv,S.D⟩))
        |none=>.bad
    |some _=>.bad
   |false=>.bad
  |none=>match cz_ P (av_ S.T x.rd topq) S.H x.o with
   |some (id,sz,op,args)=>rS_ u S k (av_ S.T x.rd topq) x.o id sz op args
   |none=>match c3_ (av_ S.T x.rd topq) x.o with
    |some (op,args)=>match ad_ args&&aE_ S.n args with
     |true=>match mm_ P op with
      |none=>.lt op args S.n none (k ⟨u S.T (.sym S.n),S.H,Nat.succ S.n,S.lv,S.D⟩)
      |some _=>.bad
     |false=>.bad
    |none=>.bad
def vDW (P:Program) (c:VC) (x:SI) (u:Tm->AV->Tm) (S:VS) (k:VS->VT):VT:=match (ac_ P x.o).run (av_ S.T x.rd topq) S.H with
 |some r=>match r with
  | .val a H'=>match isM x with
    |true=>match S.H.get S.H.next with
     |none=>k ⟨u S.T a,H',S.n,S.lv,S.D⟩
     |some _=>.bad
    |false=>match ic_ x (av_ S.T x.rd topq)with
     |true=>m3_ P x u S k
     |false=>k ⟨u S.T a,H',S.n,S.lv,S.D⟩
  |_=>.bad
 |none=>match c.own with
  |false=>m3_ P x u S k
  |true=>match stX (av_ S.T x.rd topq) S.H x.o with
   |some (op,args,id)=>match aE_ S.n args&&not (isM x)with
    |true=>.lt op args S.n none (k ⟨u S.T (.tup []),S.H.set id (.syl S.n),Nat.succ S.n,S.lv,S.D⟩)
    |false=>.bad
   |none=>m3_ P x u S k
def tA_ (P:Program) (c:VC) (R:Tm) (Hx:AHeap) (o:Oper) (u:Tm->AV->Tm) (S:VS) (k:VS->VT):Option VT:=match c.own with
 |false=>none
 |true=>match rr_ P R o with
  |some a=>some (k ⟨u S.T a,S.H,S.n,S.lv,S.D⟩)
  |none=>match pN_ P R o with
   |some (op,args,id,sz)=>match aE_ S.n args with
    |true=>some (.lt op args S.n none (k ⟨u S.T (.ptx id S.n sz 0),S.H,Nat.succ S.n,S.lv,S.D⟩))
    |false=>none
   |none=>match ldX R Hx o with
    |some (op,args)=>match aE_ S.n args with
     |true=>match mm_ P op with
        |none=>some (.lt op args S.n none (k ⟨u S.T (.sym S.n),S.H,Nat.succ S.n,S.lv,S.D⟩))
        |some m=>some (.lt op args S.n (some m) (k ⟨u S.T (.agg (aj_ S.n m)),S.H,Nat.add S.n m,S.lv,S.D⟩))
     |false=>none
    |none=>match nF_ R o with
     |some (op,args)=>match aE_ S.n args with
        |true=>some (.lt op args S.n none (k ⟨u S.T (.sym S.n),S.H,Nat.succ S.n,S.lv,S.D⟩))
        |false=>none
     |none=>none
def nj_ (P:Program) (R:Tm) (o:Oper):Option AV:=match o.op with
 | .buildSlice t n ps=>match bu_ P ⟨hnil,0,1⟩ t n (dq_ (look R) ps.toList)with
   |some r=>match r.1 with
    | .sl _ _ len sz _=>match r.2.get 0 with
      |some (.cells cs)=>match ad_ cs with
       |true=>some (.vsl len sz cs)
       |false=>none
      |_=>none
    |_=>none
   |none=>none
 |_=>none
def u0_ (P:Program) (x:SI) (u:Tm->AV->Tm) (S:VS) (k:VS->VT):VT:=match nj_ P (av_ S.T x.rd topq) x.o with
 |some q=>k ⟨u S.T q,S.H,S.n,S.lv,S.D⟩
 |none=>.bad
def rT_ (P:Program) (c:VC) (x:SI) (Hx:AHeap) (u:Tm->AV->Tm) (S:VS) (k:VS->VT):VT:=match cd_ (ac_ P x.o) (av_ S.T x.rd topq) Hx with
 |some q=>k ⟨u S.T q,S.H,S.n,S.lv,S.D⟩
 |none=>match tA_ P c (av_ S.T x.rd topq) Hx x.o u S k with
 |some t=>t
 |none=>match (ac_ P x.o).run (av_ S.T x.rd topq) Hx with
  |some r=>match r with
   | .call g args=>match t6_ c.cs g with
     |some sh=>match ad_ args&&aE_ S.n args with
      |true=>.call g args S.n sh (k ⟨u S.T (db_ S.n sh),S.H,Nat.add S.n (dm_ sh),S.lv,S.D⟩)
      |false=>.bad
     |none=>.bad
   |_=>.bad
  |none=>match lh_ x.o S.T with
   |some (i,_,_)=>.ite i (pj_ P x Hx u (S.know i true) k) (pj_ P x Hx u (S.know i false) k)
   |none=>match jZ_ (av_ S.T x.rd topq) Hx x.o with
    |some (op,args)=>match aE_ S.n args with
     |true=>.lt op args S.n none (k ⟨u S.T (.sym S.n),S.H,Nat.succ S.n,S.lv,S.D⟩)
     |false=>.bad
    |none=>match c3_ (av_ S.T x.rd topq) x.o with
     |some (op,args)=>match ad_ args&&aE_ S.n args with
      |true=>match mm_ P op with
        |none=>.lt op args S.n none (k ⟨u S.T (.sym S.n),S.H,Nat.succ S.n,S.lv,S.D⟩)
        |some m=>.lt op args S.n (some m) (k ⟨u S.T (.agg (aj_ S.n m)),S.H,Nat.add S.n m,S.lv,S.D⟩)
      |false=>.bad
     |none=>.bad
def jM_ (P:Program) (x:SI) (nx:Nat):Option (AV×ABlk):=match x.o.op with
 | .alloc t=>match e4_ P ⟨hnil,nx,Nat.succ nx⟩ t with
   |some p=>match p.2.get nx with
    |some k=>some (p.1,k)
    |none=>none
   |none=>none
 |_=>none
def ia_ (P:Program):List SI->AHeap->Option AHeap
 |[],H=>some H
 |x::r,H=>match cg_ x with
  |false=>ia_ P r H
  |true=>match H.get H.next with
   |some _=>none
   |none=>match H.room with
    |false=>none
    |true=>match jM_ P x H.next with
     |some p=>ia_ P r (H.push p.2)
     |none=>none
def jL_ (bef:Nat) (ids:List Nat):List SI->Nat->Nat->Bool
 |[],_,_=>true
 |y::r,i,nx=>match cg_ y with
  |false=>jL_ bef ids r (Nat.succ i) nx
  |true=>(bit bef i||not (memT nx ids))&&jL_ bef ids r (Nat.succ i) (Nat.succ nx)
def jK_ (bef:Nat):List SI->Nat->Bool
 |[],_=>true
 |y::r,i=>match cg_ y with
  |false=>jK_ bef r (Nat.succ i)
  |true=>bit bef i&&jK_ bef r (Nat.succ i)
def jN_ (l0:List SI):List SI->Bool
 |[]=>true
 |x::r=>match isW x with
  |false=>jN_ l0 r
  |true=>jK_ x.bef l0 0&&jN_ l0 r
def eH_ (x:SI) (nx:Nat):Nat:=match cg_ x with
 |true=>Nat.succ nx
 |false=>nx
def qe_ (P:Program) (c:VC) (all:List Oper) (l0:List SI) (n0 nx:Nat) (x:SI) (gs:List GW) (ps:List (Nat×List Nat)) (u:Tm->AV->Tm) (next:VS->VT) (S:VS):VT:=match aJ_ all x (av_ S.T x.rd topq)with
 |some t=>match t with
  |false=>next ⟨u S.T (.tup []),S.H,S.n,S.lv,S.D⟩
  |true=>match cg_ x with
   |true=>match jM_ P x nx with
    |some p=>next ⟨u S.T p.1,S.H,S.n,S.lv,S.D⟩
    |none=>.bad
   |false=>match isW x with
    |true=>match sI_ x.bef (bW_ x (av_ S.T x.rd topq)) ps with
     |true=>vDW P c x u S next
     |false=>.bad
    |false=>match rm_ x.bef (gc_ x S.T) gs&&jL_ x.bef (gc_ x S.T) l0 0 n0 with
     |true=>match x.fz with
      |true=>u0_ P x u S next
      |false=>rT_ P c x (gJ_ x S gs) u S next
     |false=>.bad
 |none=>.bad
def ix_ (x:SI) (i:Nat) (S:VS) (gs:List GW):List GW:=match isW x with
 |true=>⟨i,S.H,bW_ x (av_ S.T x.rd topq)⟩::gs
 |false=>gs
def i1_ (x:SI) (i:Nat) (S:VS) (ps:List (Nat×List Nat)):List (Nat×List Nat):=match isW x with
 |true=>ps
 |false=>(i,gc_ x S.T)::ps
def jo_ (P:Program) (N:Nat) (c:VC) (all:List Oper) (l0:List SI) (n0:Nat):List SI->Nat->Nat->List GW->List (Nat×List Nat)->VS->(VS->VT)->VT
 |[],_,_,_,_,S,K=>K S
 |x::r,i,nx,gs,ps,S,K=>match bY_ N x.o.dst with
  | .bad=>.bad
  | .mk u=>match me_ all x.o S.T with
    |some k=>.ite k (qe_ P c all l0 n0 nx x gs ps u (λS'=>jo_ P N c all l0 n0 r (Nat.succ i) (eH_ x nx) (ix_ x i (S.know k true) gs) (i1_ x i (S.know k true) ps) S' K) (S.know k true)) (qe_ P c all l0 n0 nx x gs ps u (λS'=>jo_ P N c all l0 n0 r (Nat.succ i) (eH_ x nx) (ix_ x i (S.know k false) gs) (i1_ x i (S.know k false) ps) S' K) (S.know k false))
    |none=>qe_ P c all l0 n0 nx x gs ps u (λS'=>jo_ P N c all l0 n0 r (Nat.succ i) (eH_ x nx) (ix_ x i S gs) (i1_ x i S ps) S' K) S
def m5_ (P:Program) (N fuel:Nat) (I:Inl P fuel) (c:VC) (ops:List Oper) (S:VS) (X:VX->VT) (K:VS->VT):VT:=match nS_ ops with
 | .mk l _=>match dc_ l 0 with
   |b=>match le_ (ej_ b l) 0&&jN_ (ej_ b l) (ej_ b l)with
    |true=>match ia_ P (ej_ b l) S.H with
     |some H=>jo_ P N c ops (ej_ b l) S.H.next (ej_ b l) 0 S.H.next [] [] ⟨S.T,H,S.n,S.lv,S.D⟩ λS=>lx_ P N fuel I c ops X (on_ b ops) S K
     |none=>.bad
    |false=>.bad
 | .no=>.bad
def isF (c:VC) (o:Oper):Bool:=match o.op with
 | .call cl=>match cl.callee with
   | .value f=>match f with
     | .func g=>match tK_ c.fs g with
       |some _=>true
       |none=>false
     |_=>false
   |_=>false
 |_=>false
def uH_ (c:VC):List Oper->Bool
 |[]=>false
 |o::r=>match isF c o with
  |true=>true
  |false=>uH_ c r
def mH_ (m:Nat):List Edge->Bool
 |[]=>true
 |e::r=>match dQ_ e with
  |true=>bit m e.on&&mH_ m r
  |false=>mH_ m r
structure I_q where
 i:Nat
 o:Oper
def i3_ (m:Nat):List Oper->Nat->List I_q
 |[],_=>[]
 |o::r,i=>match not (bit m i)&&mH_ m o.after.toList with
  |true=>⟨i,o⟩::i3_ m r (Nat.succ i)
  |false=>i3_ m r (Nat.succ i)
def mQ_ (m i:Nat):Nat:=Nat.lor m (Nat.pow 2 i)
def sl_ (i:Nat):List Edge->Bool
 |[]=>false
 |e::r=>match dQ_ e&&Nat.beq e.on i with
  |true=>true
  |false=>sl_ i r
def apartB (all:List Oper) (x y:Oper):Bool:=(match x.dst with
    |some d=>not (memT d (cO_ all y))&&(match y.dst with
     |some e=>not (Nat.beq d e)
     |none=>true)
    |none=>true)&&(match y.dst with
    |some e=>not (memT e (cO_ all x))
    |none=>true)
def oC_ (all:List Oper) (m i:Nat) (x:Oper):List Oper->Nat->Bool
 |[],_=>true
 |y::r,j=>(Nat.beq j i||(bit m j||(sl_ i y.after.toList||apartB all x y)))&&oC_ all m i x r (Nat.succ j)
def my_:List Oper->Bool
 |[]=>true
 |o::r=>match o.op with
  | .select _ _=>false
  |_=>my_ r
def oS_ (P:Program) (T:Tm) (o:Oper):Option AV:=match o.guard with
 |some _=>none
 |none=>match o.op with
  | .move x=>some (look T x)
  | .nilCheck x=>match look T x with
    | .ptr id off=>some (.ptr id off)
    |_=>none
  | .fieldAddr s x f=>match look T x with
    | .ptr id off=>bR_ P s (.ptr id off) f
    |_=>none
  | .extract x i=>match look T x with
    | .tup cs=>mA_ i cs
    |_=>none
  |_=>none
structure MV where
 x:I_q
 a:AV
def iZ_ (P:Program) (all:List Oper) (m:Nat) (T:Tm):List I_q->Option MV
 |[]=>none
 |x::r=>match oS_ P T x.o with
  |some a=>match oC_ all m x.i x.o all 0 with
   |true=>some ⟨x,a⟩
   |false=>iZ_ P all m T r
  |none=>iZ_ P all m T r
def qN_:List (Nat×AV)->List (Nat×AV)->Bool
 |[],[]=>true
 |(i,a)::r,(j,b)::s=>Nat.beq i j&&(bN_ a b&&qN_ r s)
 |_,_=>false
def qO_:List (Nat×List AV)->List (Nat×List AV)->Bool
 |[],[]=>true
 |(i,a)::r,(j,b)::s=>Nat.beq i j&&(dt_ a b&&qO_ r s)
 |_,_=>false
def nn_:Option Nat->Option Nat->Bool
 |none,none=>true
 |some a,some b=>Nat.beq a b
 |_,_=>false
def qM_:List (Option Nat)->List (Option Nat)->Bool
 |[],[]=>true
 |a::r,b::s=>nn_ a b&&qM_ r s
 |_,_=>false
def pv_:List (Nat×Nat)->List (Nat×Nat)->Bool
 |[],[]=>true
 |(i,a)::r,(j,b)::s=>Nat.beq i j&&(Nat.beq a b&&pv_ r s)
 |_,_=>false
def lW_:List TA->List TA->Bool
 |[],[]=>true
 |⟨a,b,c,d,e⟩::r,⟨a',b',c',d',e'⟩::s=>Nat.beq a a'&&(Nat.beq b b'&&(Nat.beq c c'&&(Nat.beq d d'&&(nn_ e e'&&lW_ r s))))
 |_,_=>false
def ov_:Tpl->Tpl->Bool
 |⟨a,b,c,d,e,f,g⟩,⟨a',b',c',d',e',f',g'⟩=>qN_ a a'&&(qO_ b b'&&(Nat.beq c c'&&(Nat.beq d d'&&(lW_ e e'&&(pv_ f f'&&pv_ g g')))))
def qK_:List (Bool×Tpl)->List (Bool×Tpl)->Bool
 |[],[]=>true
 |(i,a)::r,(j,b)::s=>i==j&&(ov_ a b&&qK_ r s)
 |_,_=>false
def uF_:FT->FT->Bool
 |⟨a,b,c⟩,⟨a',b',c'⟩=>Nat.beq a a'&&(ov_ b b'&&qK_ c c')
def tI_:XOp->XOp->Bool
 | .bin o t a b,.bin o' t' a' b'=>decide (o=o')&&(Nat.beq t t'&&(a==a'&&b==b'))
 | .un o,.un o'=>decide (o=o')
 | .conv a b,.conv a' b'=>Nat.beq a a'&&Nat.beq b b'
 | .idx a,.idx a'=>Nat.beq a a'
 | .iaddr a,.iaddr a'=>Nat.beq a a'
 | .faddr a b,.faddr a' b'=>Nat.beq a a'&&Nat.beq b b'
 | .load a,.load a'=>Nat.beq a a'
 | .fld a b,.fld a' b'=>Nat.beq a a'&&Nat.beq b b'
 | .slc t a b,.slc t' a' b'=>Nat.beq t t'&&(a==a'&&b==b')
 | .len a,.len a'=>Nat.beq a a'
 | .nilc,.nilc=>true
 | .app a b,.app a' b'=>Nat.beq a a'&&Nat.beq b b'
 | .mm a,.mm a'=>a==a'
 | .ext a,.ext a'=>Nat.beq a a'
 | .inb,.inb=>true
 | .ldx a b c,.ldx a' b' c'=>Nat.beq a a'&&(Nat.beq b b'&&Nat.beq c c')
 | .stx a b c,.stx a' b' c'=>Nat.beq a a'&&(Nat.beq b b'&&Nat.beq c c')
 | .tkx,.tkx=>true
 | .emp,.emp=>true
 | .mkx a b c,.mkx a' b' c'=>Nat.beq a a'&&(Nat.beq b b'&&dt_ c c')
 | .mkz a b c,.mkz a' b' c'=>Nat.beq a a'&&(Nat.beq b b'&&dt_ c c')
 | .skx,.skx=>true
 | .flat a b c d,.flat a' b' c' d'=>Nat.beq a a'&&(Nat.beq b b'&&(Nat.beq c c'&&Nat.beq d d'))
 | .opn a b,.opn a' b'=>Nat.beq a a'&&Nat.beq b b'
 |_,_=>false
def qI_:Chk->Chk->Bool
 | .same i j,.same i' j'=>Nat.beq i i'&&Nat.beq j j'
 | .nn i,.nn i'=>Nat.beq i i'
 | .pos i,.pos i'=>Nat.beq i i'
 |_,_=>false
mutual
def dx_:VT->VT->Bool
 | .done v,.done w=>bN_ v w
 | .ite i a b,.ite i' a' b'=>Nat.beq i i'&&(dx_ a a'&&dx_ b b')
 | .lt o l n m t,.lt o' l' n' m' t'=>tI_ o o'&&(dt_ l l'&&(Nat.beq n n'&&(nn_ m m'&&dx_ t t')))
 | .call f l n sh t,.call f' l' n' sh' t'=>Nat.beq f f'&&(dt_ l l'&&(Nat.beq n n'&&(qM_ sh sh'&&dx_ t t')))
 | .loop n j hv bs,.loop n' j' hv' bs'=>Nat.beq n n'&&(Nat.beq j j'&&(dt_ hv hv'&&j5_ bs bs'))
 | .again l j hv,.again l' j' hv'=>Nat.beq l l'&&(Nat.beq j j'&&dt_ hv hv')
 | .chk c t,.chk c' t'=>qI_ c c'&&dx_ t t'
 | .callF f ft hv n bs,.callF f' ft' hv' n' bs'=>Nat.beq f f'&&(uF_ ft ft'&&(dt_ hv hv'&&(Nat.beq n n'&&j5_ bs bs')))
 | .both a b,.both a' b'=>dx_ a a'&&dx_ b b'
 |_,_=>false
def j5_:VTs->VTs->Bool
 | .nil,.nil=>true
 | .cons n t r,.cons n' t' r'=>Nat.beq n n'&&(dx_ t t'&&j5_ r r')
 |_,_=>false
end
def nK_ (a b:VT):VT:=match dx_ a b with
 |true=>a
 |false=>.both a b
def og_ (f:I_q->VT) (x:I_q):List I_q->VT
 |[]=>f x
 |y::r=>nK_ (f x) (og_ f y r)
def n7_ (P:Program) (N fuel:Nat) (I:Inl P fuel) (c:VC) (all:List Oper) (X:VX->VT) (K:VS->VT):Nat->Nat->VS->VT
 |0,_,_=>.bad
 |n+1,m,S=>match i3_ m all 0 with
  |[]=>K S
  |x::r=>match iZ_ P all m S.T (x::r)with
   |some q=>match bY_ N q.x.o.dst with
    | .mk u=>n7_ P N fuel I c all X K n (mQ_ m q.x.i) ⟨u S.T q.a,S.H,S.n,S.lv,S.D⟩
    | .bad=>.bad
   |none=>og_ (λx=>lx_ P N fuel I c all X [x.o] S λS'=>n7_ P N fuel I c all X K n (mQ_ m x.i) S') x r
def eq_:List Oper->Tm->Tm
 |[],T=>T
 |o::r,T=>match o.dst with
  |some d=>eq_ r (dO_ T d .opq)
  |none=>eq_ r T
def jU_ (ops:List Oper) (X:VX->VT) (r:VX):VT:=match r with
 | .pan v S=>X (.pan v ⟨eq_ ops S.T,S.H,S.n,S.lv,S.D⟩)
 | .exit i S=>X (.exit i S)
 | .ret S=>X (.ret S)
def sm_ (N:Nat):List Oper->Bool
 |[]=>true
 |o::r=>(match o.dst with
  |some d=>Nat.blt d N
  |none=>true)&&sm_ N r
def td_ (c:VC):Nat->List SI->Bool
 |0,_=>false
 |_+1,[]=>false
 |n+1,x::r=>match isF c x.o with
  |true=>true
  |false=>td_ c n r
def vn_ (c:VC) (ops:List Oper):Bool:=match nS_ ops with
 | .mk l _=>td_ c (dc_ l 0) l
 | .no=>true
def pi_ (P:Program) (N fuel:Nat) (I:Inl P fuel) (c:VC) (ops:List Oper) (S:VS) (X:VX->VT) (K:VS->VT):VT:=match my_ ops&&(sm_ N ops&&Nat.ble N 512)with
 |true=>n7_ P N fuel I c ops (jU_ ops X) K (Nat.succ (lenOp ops)) 0 S
 |false=>.bad
where
 lenOp:List Oper->Nat
 |[]=>0
 |_::r=>Nat.succ (lenOp r)
def vr_ (ops:List Oper):Bool:=match nS_ ops with
 | .mk l _=>match dc_ l 0 with
   |b=>le_ (ej_ b l) 0&&jN_ (ej_ b l) (ej_ b l)
 | .no=>true
def p8_ (T:Tm):List Oper->Nat->AV
 |[],_=>.opq
 |o::r,t=>match o.op with
  | .move x=>match o.dst with
    |some d=>match Nat.beq d t with
     |true=>look T x
     |false=>p8_ T r t
    |none=>p8_ T r t
  |_=>p8_ T r t
def uT_ (own:Bool) (T:Tm) (all:List Oper) (x i:Operand):List AV:=match x with
 | .tmp b=>match p8_ T all b with
   | .slx id z k=>match own with
     |true=>[]
     |false=>[.slx id z k]
   | .sl id off len z cap=>match i with
     | .tmp j=>match p8_ T all j with
       | .sym _=>[.sl id off len z cap]
       |_=>[]
     |_=>[]
   |_=>[]
 |_=>[]
def o7_ (T:Tm) (all:List Oper):List (Nat×Operand)->List AV
 |[]=>[]
 |(_,x)::r=>match x with
  | .tmp t=>match p8_ T all t with
    | .slx id z k=>.slx id z k::o7_ T all r
    |_=>o7_ T all r
  |_=>o7_ T all r
def i7_ (own:Bool) (T:Tm) (all:List Oper):List Oper->List AV
 |[]=>[]
 |o::r=>match o.op with
  | .indexAddr _ x i=>jx_ (uT_ own T all x i) (i7_ own T all r)
  | .buildSlice _ _ ps=>match own with
    |true=>i7_ own T all r
    |false=>jx_ (o7_ T all ps.toList) (i7_ own T all r)
  |_=>i7_ own T all r
def jE_ (own:Bool) (l:List Oper) (S:VS):VS:=match i7_ own S.T l l with
 |[]=>S
 |a=>ds_ S a
def pm_ (b:VS->(VS->VT)->VT):Nat->VS->VT
 |0,_=>.bad
 |n+1,S=>b S λS'=>pm_ b n S'
def n6_ (n k lvl:Nat) (tps:List Tpl) (S:VS):VT:=match dK_ n k tps 0 S with
 |some r=>jb_ r.l (qA_ r.m.nn (.again lvl r.j r.m.hv))
 |none=>.bad
def lt_ (b:VS->(VS->VT)->VT) (n k lvl:Nat) (tps:List Tpl):List Tpl->VTs
 |[]=>.nil
 |tp::r=>.cons tp.nv (b (tp.inst n (Nat.succ lvl)) (n6_ n k lvl tps)) (lt_ b n k lvl tps r)
def ui_ (k:Nat) (b:VS->(VS->VT)->VT) (tps:List Tpl) (S:VS):VT:=match dK_ S.n k tps 0 S with
 |some r=>jb_ r.l (qA_ r.m.nn (.loop S.n r.j r.m.hv (lt_ b S.n k S.lv tps tps)))
 |none=>.bad
def uc_ (id:Nat) (K:VS->VT) (X:VX->VT) (r:VX):VT:=match r with
 | .exit id' S=>match Nat.beq id' id with
   |true=>K S
   |false=>X r
 | .ret _=>X r
 | .pan _ _=>X r
mutual
def mD_ (id sz i len:Nat):AV->AV
 | .slx id' z j=>match Nat.beq id id'&&(Nat.beq sz z&&Nat.beq i j)with
   |true=>.sl id 0 len sz none
   |false=>.slx id' z j
 | .agg cs=>.agg (hE_ id sz i len cs)
 | .tup cs=>.tup (hE_ id sz i len cs)
 |a=>a
def hE_ (id sz i len:Nat):List AV->List AV
 |[]=>[]
 |a::r=>mD_ id sz i len a::hE_ id sz i len r
end
def p1_ (id sz i len:Nat) (H:AHeap):List Nat->AHeap
 |[]=>H
 |q::r=>match (p1_ id sz i len H r).get q with
  |some (.cells cs)=>(p1_ id sz i len H r).set q (.cells (hE_ id sz i len cs))
  |_=>p1_ id sz i len H r
def jt_ (t:TA) (i:Nat) (S:VS):VS:=⟨bg_ (mD_ t.id t.sz i t.j) S.T,p1_ t.id t.sz i t.j (S.H.set t.id (.cells (aj_ S.n (Nat.mul t.j t.sz)))) [0,1,2,3],Nat.add S.n (Nat.mul t.j t.sz),S.lv,S.D⟩
def m8_:List TA->VS->(VS->VT)->VT
 |[],S,k=>k S
 |t::r,S,k=>match S.H.get t.id with
  |some (.syl i)=>.lt (.opn t.j t.sz) [.sym i] S.n (some (Nat.mul t.j t.sz)) (m8_ r (jt_ t i S) k)
  |_=>m8_ r S k
def mb_ (t o:Nat) (S:VS):VS:=match tget S.T t with
 | .ptr id b=>match S.H.get id with
   |some (.cells cs)=>match mA_ (Nat.add b o) cs with
    |some a=>tB_ S [a] id
    |none=>S
   |_=>S
 |a=>ds_ S [a]
def mc_ (S:VS):List (Nat×Nat)->VS
 |[]=>S
 |(t,o)::r=>mc_ (mb_ t o S) r
def ug_ (c:VC) (rid:Nat) (ops:List Oper) (S:VS) (k:VS->VT):VT:=match ops with
 |[]=>k S
 |_::_=>match hT_ c.hs (Nat.add 10000 rid)with
  |some (tp::_)=>m8_ tp.acc (mc_ S tp.fix) k
  |_=>k S
def uA_ (c:VC) (rid:Nat):Bool:=match hT_ c.hs (Nat.add 20000 rid)with
 |some _=>true
 |none=>false
def r3_ (P:Program) (N fuel:Nat) (I:Inl P fuel) (c:VC) (any:Bool) (ops:Array Oper) (draw:Bool) (S:VS) (K:VS->VT) (X:VX->VT):VT:=match draw with
 |false=>lx_ P N fuel I c ops.toList X ops.toList S K
 |true=>match j2_ P (a9_ P fuel) N ops.toList S.T S.H S.D with
  |some r=>match r with
   | .norm T H D=>K ⟨T,H,S.n,S.lv,D⟩
   |_=>.bad
  |none=>match uH_ c ops.toList with
   |false=>match !any&&vr_ ops.toList with
    |true=>m5_ P N fuel I c ops.toList (jE_ c.own ops.toList S) X K
    |false=>pi_ P N fuel I c ops.toList S X K
   |true=>match vn_ c ops.toList with
    |true=>pi_ P N fuel I c ops.toList S X K
    |false=>m5_ P N fuel I c ops.toList (jE_ c.own ops.toList S) X K
def cw_ (P:Program) (N fuel:Nat) (I:Inl P fuel) (c:VC):Nat->Code->VS->(VS->VT)->(VX->VT)->VT
 |_,.skip,S,K,X=>K S
 |_,.label _,S,K,X=>K S
 |_,.region rid ops draw,S,K,X=>ug_ c rid ops.toList S λS=>r3_ P N fuel I c (uA_ c rid) ops draw S K X
 |bid,.seq a b,S,K,X=>cw_ P N fuel I c bid a S (λS=>cw_ P N fuel I c bid b S K X) X
 |bid,.cond cd a b,S,K,X=>match look S.T cd with
  | .bool t=>match t with
    |true=>cw_ P N fuel I c bid a S K X
    |false=>cw_ P N fuel I c bid b S K X
  |_=>match jj_ S.T cd with
   |some i=>.ite i (cw_ P N fuel I c bid a (S.know i true) K X) (cw_ P N fuel I c bid b (S.know i false) K X)
   |none=>.bad
 |_,.block id b,S,K,X=>cw_ P N fuel I c id b S K (uc_ id K X)
 |bid,.loop b,S,K,X=>match hT_ c.hs bid with
  |some tps=>ui_ c.k (λS K=>cw_ P N fuel I c bid b S K X) tps S
  |none=>pm_ (λS K=>cw_ P N fuel I c bid b S K X) fuel S
 |_,.exit id,S,K,X=>X (.exit id S)
 |_,.ret,S,K,X=>X (.ret S)
 |_,_,_,_,_=>.bad
def rV_ (Q:Option (AV×AHeap)):VT:=match Q with
 |some (a,H)=>match eO_ 100 H a with
  |some v=>match ae_ v with
   |true=>.done v
   |false=>.bad
  |none=>.bad
 |none=>.bad
def ny_:List Oper->Bool
 |[]=>false
 |o::r=>match o.op with
  | .call c=>match c.callee with
    | .builtin .recover=>true
    |_=>ny_ r
  |_=>ny_ r
def vq_ (u:Option AV) (ops:List Oper):Bool:=match u with
 |some _=>true
 |none=>ny_ ops
def dd_ (P:Program) (N fuel:Nat) (I:Inl P fuel) (c:VC):Code->VS->Option AV->(VS->Option AV->VT)->(VS->Option AV->VT)->VT
 | .skip,S,u,K,R=>K S u
 | .region rid ops draw,S,u,K,R=>match vq_ u ops.toList with
   |true=>match draw with
    |true=>.bad
    |false=>match lf_ P (a9_ P fuel) N ops.toList ops.toList S.T S.H u with
     |some r=>match r with
      | .norm T H u'=>K ⟨T,H,S.n,S.lv,[]⟩ u'
      | .ret _ _ _=>.bad
     |none=>.bad
   |false=>r3_ P N fuel I c (uA_ c rid) ops draw S (λS=>match S.D with
    |[]=>K S none
    |_::_=>.bad) (λ_=>.bad)
 | .seq a b,S,u,K,R=>dd_ P N fuel I c a S u (λS u=>dd_ P N fuel I c b S u K R) R
 | .cond cd a b,S,u,K,R=>match look S.T cd with
   | .bool t=>match t with
     |true=>dd_ P N fuel I c a S u K R
     |false=>dd_ P N fuel I c b S u K R
   |_=>match jj_ S.T cd with
    |some i=>.ite i (dd_ P N fuel I c a (S.know i true) u K R) (dd_ P N fuel I c b (S.know i false) u K R)
    |none=>.bad
 | .block _ b,S,u,K,R=>dd_ P N fuel I c b S u K R
 | .ret,S,u,K,R=>R S u
 |_,_,_,_,_=>.bad
def ec_ (P:Program) (fuel:Nat) (I:Inl P fuel) (c:VC) (rs:List ResultVar) (fin:FRes->Nat->Nat->VT):Dfs->Tm->AHeap->Nat->Nat->Option AV->VT
 |[],T,H,n,lv,u=>match c2_ P (a9_ P fuel) fuel rs T [] H u with
  |some r=>fin r n lv
  |none=>.bad
 |(f,args)::D,T,H,n,lv,u=>match P.funcs[f]? with
  |some fn=>match fn.body with
   |some cd=>match Nat.ble (aM_ args) fn.ntmps&&(Nat.ble fn.ntmps 512&&(oG_ H.next n D&&Nat.ble c.k H.next))with
    |true=>match (λ(S:VS) (u:Option AV)=>match ei_ P S.T S.H fn.results.toList with
       |some _=>ec_ P fuel I c rs fin D (bg_ (bM_ H.next n) T) S.H S.n S.lv u
       |none=>.bad)with
     |K=>dd_ P fn.ntmps fuel I ⟨c.fc,c.cs,[],H.next,c.own,c.fs⟩ cd ⟨aY_ args 0 tnil,H,n,lv,[]⟩ u K K
    |false=>.bad
   |none=>.bad
  |none=>.bad
def jq_ (P:Program) (fuel:Nat) (I:Inl P fuel) (c:VC) (rs:List ResultVar) (fin:FRes->Nat->Nat->VT) (u:Option AV) (S:VS):VT:=match c2_ P (a9_ P fuel) fuel rs S.T S.D S.H u with
 |some r=>fin r S.n S.lv
 |none=>ec_ P fuel I c rs fin S.D S.T S.H S.n S.lv u
def rU_ (r:FRes) (_ _:Nat):VT:=match r with
 | .ret a H=>rV_ (some (a,H))
 | .pan _ _=>.bad
def pk_ (P:Program) (fuel:Nat) (I:Inl P fuel) (c:VC) (rs:List ResultVar) (u:Option AV) (S:VS):VT:=jq_ P fuel I c rs rU_ u S
def vD_ (P:Program) (fuel:Nat) (I:Inl P fuel) (c:VC) (rs:List ResultVar) (r:VX):VT:=match r with
 | .ret S=>pk_ P fuel I c rs none S
 | .pan v S=>pk_ P fuel I c rs (some v) S
 | .exit _ _=>.bad
def qf_ (n k:Nat) (b:Bool) (S:VS):List (Bool×Tpl)->Nat->VT
 |[],_=>.bad
 |(b',tp)::r,j=>match b==b' with
  |false=>qf_ n k b S r (Nat.succ j)
  |true=>match c6_ tp S with
   |f=>match gT_ n k tp f.S with
    |some m=>jb_ f.l (qA_ m.nn (.done (.tup (.int .i64 (.ofNat j)::m.hv))))
    |none=>qf_ n k b S r (Nat.succ j)
def s4_ (ft:FT) (r:FRes) (n lv:Nat):VT:=match r with
 | .ret a H=>qf_ (Nat.add 64 ft.ent.nv) ft.k false ⟨dO_ topq 0 a,H,n,lv,[]⟩ ft.exs 0
 | .pan a H=>qf_ (Nat.add 64 ft.ent.nv) ft.k true ⟨dO_ topq 0 a,H,n,lv,[]⟩ ft.exs 0
def lw_ (P:Program) (fuel:Nat) (I:Inl P fuel) (c:VC) (rs:List ResultVar) (ft:FT) (u:Option AV) (S:VS):VT:=jq_ P fuel I c rs (s4_ ft) u S
def u4_ (P:Program) (fuel:Nat) (I:Inl P fuel) (c:VC) (rs:List ResultVar) (ft:FT) (r:VX):VT:=match r with
 | .ret S=>lw_ P fuel I c rs ft none S
 | .pan v S=>lw_ P fuel I c rs ft (some v) S
 | .exit _ _=>.bad
def rY_ (P:Program) (fuel:Nat) (I:Inl P fuel) (c:VC) (f:FuncId) (ft:FT):VT:=match P.funcs[f]? with
 |some fn=>match fn.body with
  |some cd=>match Nat.ble (aM_ (cx_ ft.ent.slots)) fn.ntmps&&(Nat.ble fn.ntmps 512&&Nat.beq c.k ft.k)with
   |true=>cw_ P fn.ntmps fuel I c 0 cd ⟨aY_ (br_ 64 (cx_ ft.ent.slots)) 0 tnil,ft.ent.heap 64,Nat.add 64 ft.ent.nv,0,[]⟩ (lw_ P fuel I c fn.results.toList ft none) (u4_ P fuel I c fn.results.toList ft)
   |false=>.bad
  |none=>.bad
 |none=>.bad
def ud_ (P:Program) (fuel:Nat) (I:Inl P fuel) (c:VC) (f:FuncId) (args:List AV) (n:Nat):VT:=match P.funcs[f]? with
 |some fn=>match fn.body with
  |some cd=>match Nat.ble (aM_ args) fn.ntmps&&Nat.ble fn.ntmps 512 with
   |true=>cw_ P fn.ntmps fuel I c 0 cd ⟨aY_ args 0 tnil,H0,n,0,[]⟩ (pk_ P fuel I c fn.results.toList none) (vD_ P fuel I c fn.results.toList)
   |false=>.bad
  |none=>.bad
 |none=>.bad
def u2_ (ret pan:AV->AHeap->Nat->Nat->VT) (r:FRes) (n lv:Nat):VT:=match r with
 | .ret a H=>ret a H n lv
 | .pan a H=>pan a H n lv
def pl_ (P:Program) (fuel:Nat) (I:Inl P fuel) (c:VC) (rs:List ResultVar) (ret pan:AV->AHeap->Nat->Nat->VT) (u:Option AV) (S:VS):VT:=jq_ P fuel I c rs (u2_ ret pan) u S
def u3_ (P:Program) (fuel:Nat) (I:Inl P fuel) (c:VC) (rs:List ResultVar) (ret pan:AV->AHeap->Nat->Nat->VT) (r:VX):VT:=match r with
 | .exit _ _=>.bad
 | .ret S=>pl_ P fuel I c rs ret pan none S
 | .pan v S=>pl_ P fuel I c rs ret pan (some v) S
def ue_ (P:Program) (fuel:Nat) (I:Inl P fuel) (c:VC) (g:FuncId) (args:List AV) (H:AHeap) (n lv:Nat) (ret pan:AV->AHeap->Nat->Nat->VT):VT:=match P.funcs[g]? with
 |some fn=>match fn.body with
  |some cd=>match Nat.ble (aM_ args) fn.ntmps&&Nat.ble fn.ntmps 512 with
   |true=>cw_ P fn.ntmps fuel I ⟨c.fc,c.cs,[],H.next,c.own,c.fs⟩ 0 cd ⟨aY_ args 0 tnil,H,n,lv,[]⟩ (pl_ P fuel I ⟨c.fc,c.cs,[],H.next,c.own,c.fs⟩ fn.results.toList ret pan none) (u3_ P fuel I ⟨c.fc,c.cs,[],H.next,c.own,c.fs⟩ fn.results.toList ret pan)
   |false=>.bad
  |none=>.bad
 |none=>.bad
end
end Go.Sx
