/-
  The evaluator with symbols, with loops by templates and calls by what is known of them.
-/
import Derived.Test.YtjconanknjgpnaaGreatSyX
set_option linter.unusedVariables false
set_option linter.unusedSimpArgs false
namespace Go.Sx
structure TA where
 id:Nat
 sz:Nat
 j:Nat
 loc:Nat
 off:Option Nat
structure Tpl where
 slots:List (Nat×AV)
 rows:List (Nat×List AV)
 next:Nat
 nv:Nat
 acc:List TA:=[]
 maps:List (Nat×Nat):=[]
 fix:List (Nat×Nat):=[]
abbrev th_:=List (Nat×List Tpl)
structure FT where
 k:Nat
 ent:Tpl
 exs:List (Bool×Tpl)
inductive Chk where
 |same (i j:Nat)
 |nn (i:Nat)
 |pos (i:Nat)
mutual
inductive VT where
 |bad
 |done (v:AV)
 |ite (i:Nat) (a b:VT)
 |lt (op:XOp) (args:List AV) (n:Nat) (m:Option Nat) (t:VT)
 |call (f:FuncId) (args:List AV) (n:Nat) (sh:List (Option Nat)) (t:VT)
 |loop (n j:Nat) (hv:List AV) (bs:VTs)
 |again (lvl j:Nat) (hv:List AV)
 |chk (c:Chk) (t:VT)
 |callF (f:FuncId) (ft:FT) (hv:List AV) (n:Nat) (bs:VTs)
 |both (a b:VT)
inductive VTs where
 |nil
 |cons (nv:Nat) (t:VT) (r:VTs)
end
def flat:List (Option Nat)->List AV->Option (List AV)
 |[],[]=>some []
 |none::s,a::r=>match flat s r with
  |some l=>some (a::l)
  |none=>none
 |some m::s,.agg cs::r=>match decide (cs.length=m)with
  |true=>match flat s r with
   |some l=>some (cs++l)
   |none=>none
  |false=>none
 |_,_=>none
def hq_ (sh:List (Option Nat)) (v:AV):Option (List AV):=match sh with
 |[s]=>flat [s] [v]
 |sh=>match v with
  | .tup l=>flat sh l
  |_=>none
def bQ_:Nat->List (Option Nat)->List AV
 |_,[]=>[]
 |n,none::s=>.sym n::bQ_ (Nat.succ n) s
 |n,some m::s=>.agg (ah_ n m)::bQ_ (Nat.add n m) s
def dm_ (n:Nat) (sh:List (Option Nat)):AV:=match sh with
 |[s]=>match bQ_ n [s]with
  |a::_=>a
  |[]=>.tup []
 |sh=>.tup (bQ_ n sh)
def dx_:List (Option Nat)->Nat
 |[]=>0
 |none::s=>Nat.succ (dx_ s)
 |some m::s=>Nat.add m (dx_ s)
mutual
def bD_ (n:Nat):AV->AV
 | .slx j z i=>match z with
   |0=>.sym (Nat.add n j)
   |z+1=>.slx j (z+1) (Nat.add n i)
 | .ptx id j sz _=>.slx id sz j
 | .vptr cs=>.vptr (bq_ n cs)
 | .vsl a z cs=>.vsl a z (bq_ n cs)
 | .fn f cs=>.fn f (bq_ n cs)
 | .iface t a=>.iface t (bD_ n a)
 | .agg cs=>.agg (bq_ n cs)
 | .tup cs=>.tup (bq_ n cs)
 |a=>a
def bq_ (n:Nat):List AV->List AV
 |[]=>[]
 |a::r=>bD_ n a::bq_ n r
end
def cK_ (n:Nat):List (Nat×AV)->Tm
 |[]=>topq
 |(t,a)::r=>dY_ (cK_ n r) t (bD_ n a)
def iw_ (n next:Nat):List (Nat×List AV)->AHeap
 |[]=>⟨hnil,next,top⟩
 |(id,cs)::r=>(iw_ n next r).set id (.cells (bq_ n cs))
def ht_ (n:Nat) (H:AHeap):List TA->AHeap
 |[]=>H
 |t::r=>(ht_ n H r).set t.id (.syl (Nat.add n t.j))
def kb_ (n:Nat) (H:AHeap):List (Nat×Nat)->AHeap
 |[]=>H
 |(id,j)::r=>(kb_ n H r).set id (.mpl (Nat.add n j))
def lN_:Nat:=1500
def hs_ (i:Nat):Nat:=Nat.div (Nat.sub i lN_) 16
def zF (i:Nat):Nat:=Nat.mod (Nat.sub i lN_) 16
def jH_ (n i:Nat):Nat:=match Nat.blt i lN_ with
 |true=>i
 |false=>Nat.add n (hs_ i)
def ka_ (n:Nat) (H:AHeap):List (Nat×Nat)->AHeap
 |[]=>H
 |(id,i)::r=>(ka_ n H r).set id (.syl (jH_ n i))
def pU_:List (Nat×Nat)->List Nat->List Nat
 |[],acc=>acc
 |(id,_)::r,acc=>id::pU_ r acc
def oW_ (H:AHeap) (id:Nat):Option AV:=match H.get id with
 |some (.map es _)=>match ad_ (bG_ es)with
  |true=>some (.vsl (mt_ es) 2 (bG_ es))
  |false=>none
 |some (.mpl i)=>some (.sym i)
 |_=>none
def mp_:List (Nat×List AV)->List Nat
 |[]=>[]
 |(id,_)::r=>id::mp_ r
mutual
def tM_:AV->AV->List (Nat×AV)->List (Nat×AV)
 | .slx j z _,a,acc=>match z with
   |0=>(j,a)::acc
   |_+1=>acc
 | .agg ts,.agg cs,acc=>nw_ ts cs acc
 | .tup ts,.tup cs,acc=>nw_ ts cs acc
 | .vptr ts,.vptr cs,acc=>nw_ ts cs acc
 | .vsl _ _ ts,.vsl _ _ cs,acc=>nw_ ts cs acc
 | .fn _ ts,.fn _ cs,acc=>nw_ ts cs acc
 | .iface _ t,.iface _ a,acc=>tM_ t a acc
 |_,_,acc=>acc
def nw_:List AV->List AV->List (Nat×AV)->List (Nat×AV)
 |t::ts,a::r,acc=>tM_ t a (nw_ ts r acc)
 |_,_,acc=>acc
end
def tq_:List (Nat×AV)->Nat->Option AV
 |[],_=>none
 |(i,a)::r,j=>match Nat.beq i j with
  |true=>some a
  |false=>tq_ r j
def oM_ (acc:List (Nat×AV)):Nat->Nat->Option (List AV)
 |_,0=>some []
 |j,m+1=>match tq_ acc j with
  |some a=>match oM_ acc (Nat.succ j) m with
   |some l=>some (a::l)
   |none=>none
  |none=>none
structure DA where
 id:Nat
 sz:Nat
 j:Nat
 x:AV
 act:Option Nat
def hf_ (H:AHeap) (sz:Nat) (a:AV):Option (AV×Option Nat):=match a with
 | .nsl=>some (.nsl,none)
 | .slx id sz' i=>match H.get id with
   |some (.syl k)=>match Nat.beq k i&&Nat.beq sz' sz with
    |true=>some (.sym i,some id)
    |false=>none
   |_=>none
 | .sl id off len sz' _=>match H.get id with
   |some (.cells cs)=>match a2_ (Nat.mul len sz) cs with
    |some cs=>match Nat.beq off 0&&(Nat.beq sz' sz&&(Nat.blt 0 len&&(Nat.beq (a0_ cs) (Nat.mul len sz)&&(ad_ cs&&bb_ cs))))with
     |true=>some (.vsl len sz cs,some id)
     |false=>none
    |none=>none
   |_=>none
 |_=>none
def nY_:Nat->List AV->Option AV
 |_,[]=>none
 |0,a::_=>some a
 |n+1,_::r=>nY_ n r
def aw_:List (Nat×Nat)->Nat->Option Nat
 |[],_=>none
 |(a,t)::r,i=>match Nat.beq a i with
  |true=>some t
  |false=>aw_ r i
def ki_ (T:Tm) (H:AHeap) (rn:List (Nat×Nat)) (t:TA):Option AV:=match t.off with
 |none=>some (tget T t.loc)
 |some o=>match aw_ rn t.loc with
  |some a=>match H.get a with
   |some (.cells cs)=>nY_ o cs
   |_=>none
  |none=>match tget T (Nat.sub t.loc 600)with
   | .tup cs=>nY_ o cs
   |_=>none
def pv_ (T:Tm) (H:AHeap) (rn:List (Nat×Nat)):List TA->Option (List DA)
 |[]=>some []
 |t::r=>match ki_ T H rn t with
  |some a=>match hf_ H t.sz a with
   |some (x,act)=>match pv_ T H rn r with
    |some l=>some (⟨t.id,t.sz,t.j,x,act⟩::l)
    |none=>none
   |none=>none
  |none=>none
def aD_:List DA->Nat->Option DA
 |[],_=>none
 |d::r,id=>match Nat.beq d.id id with
  |true=>some d
  |false=>aD_ r id
def jF_:Option Nat->Option Nat->Bool
 |none,none=>true
 |some a,some b=>Nat.beq a b
 |_,_=>false
mutual
def mA (H:AHeap) (ds:List DA) (rn:List (Nat×Nat)) (hv:List AV) (n:Nat):AV->AV->Bool
 | .opq,_=>true
 | .sym i,a=>Nat.blt i n&&bF_ (.sym i) a
 | .ptr id off,a=>match a with
   | .ptr id' off'=>jF_ (aw_ rn id) (some id')&&Nat.beq off off'
   |_=>false
 | .sl id off len sz cap,a=>match a with
   | .sl id' off' len' sz' cap'=>jF_ (aw_ rn id) (some id')&&(Nat.beq off off'&&(Nat.beq len len'&&(Nat.beq sz sz'&&(cap.isNone||cap==cap'))))
   |_=>false
 | .agg ts,a=>match a with
   | .agg cs=>mL H ds rn hv n ts cs
   |_=>false
 | .tup ts,a=>match a with
   | .tup cs=>mL H ds rn hv n ts cs
   |_=>false
 | .vptr ts,a=>match a with
   | .vptr cs=>mL H ds rn hv n ts cs
   |_=>false
 | .vsl len sz ts,a=>match a with
   | .vsl len' sz' cs=>Nat.beq len len'&&(Nat.beq sz sz'&&mL H ds rn hv n ts cs)
   |_=>false
 | .fn f ts,a=>match a with
   | .fn g cs=>Nat.beq f g&&mL H ds rn hv n ts cs
   |_=>false
 | .iface t x,a=>match a with
   | .iface u y=>Nat.beq t u&&mA H ds rn hv n x y
   |_=>false
 | .slx j z i,a=>match z with
   |0=>match cB_ j hv with
    |some x=>bF_ x a
    |none=>false
   |z+1=>match aD_ ds j with
    |some d=>match hf_ H (Nat.succ z) a with
     |some (x,act)=>Nat.beq d.sz (Nat.succ z)&&(Nat.beq d.j i&&(bF_ d.x x&&jF_ d.act act))
     |none=>false
    |none=>false
 | .ptx id i sz _,a=>match a with
   | .slx id' sz' i'=>jF_ (aw_ rn id) (some id')&&(Nat.beq sz sz'&&(Nat.beq i i'&&Nat.blt i n))
   |_=>false
 | .map id,a=>match a with
   | .map id'=>jF_ (aw_ rn id) (some id')
   |_=>false
 |t,a=>bF_ t a
def mL (H:AHeap) (ds:List DA) (rn:List (Nat×Nat)) (hv:List AV) (n:Nat):List AV->List AV->Bool
 |[],[]=>true
 |t::ts,a::r=>mA H ds rn hv n t a&&mL H ds rn hv n ts r
 |_,_=>false
end
mutual
def eT_ (n:Nat):AV->Bool
 | .sym i=>Nat.blt i n
 | .vptr cs=>aE_ n cs
 | .vsl _ _ cs=>aE_ n cs
 | .fn _ cs=>aE_ n cs
 | .iface _ a=>eT_ n a
 | .agg cs=>aE_ n cs
 | .tup cs=>aE_ n cs
 |_=>true
def aE_ (n:Nat):List AV->Bool
 |[]=>true
 |a::r=>eT_ n a&&aE_ n r
end
structure VS where
 T:Tm
 H:AHeap
 n:Nat
 lv:Nat
 D:Dfs
inductive VX where
 |exit (id:Nat) (S:VS)
 |ret (S:VS)
 |pan (v:AV) (S:VS)
def VS.x (S:VS):XS:=⟨S.T,S.H,S.n⟩
def VS.know (S:VS) (i:Nat) (b:Bool):VS:=⟨bj_ (g9_ i b) S.T,S.H,S.n,S.lv,S.D⟩
def uM_ (T:Tm):List (Nat×AV)->List (Nat×AV)->List (Nat×AV)
 |[],acc=>acc
 |(t,a)::r,acc=>tM_ a (tget T t) (uM_ T r acc)
def uL_ (H:AHeap) (rn:List (Nat×Nat)):List (Nat×List AV)->List (Nat×AV)->List (Nat×AV)
 |[],acc=>acc
 |(id,cs)::r,acc=>match aw_ rn id with
  |some a=>match H.get a with
   |some (.cells l)=>nw_ cs l (uL_ H rn r acc)
   |_=>acc
  |none=>acc
def uK_:List DA->List (Nat×AV)->List (Nat×AV)
 |[],acc=>acc
 |d::r,acc=>(d.j,d.x)::uK_ r acc
def mT (H:AHeap) (ds:List DA) (rn:List (Nat×Nat)) (hv:List AV) (n:Nat) (T:Tm):List (Nat×AV)->Bool
 |[]=>true
 |(t,a)::r=>Nat.blt t 512&&(mA H ds rn hv n a (tget T t)&&mT H ds rn hv n T r)
def qq_ (id a:Nat) (rn:List (Nat×Nat)):List (Nat×Nat):=match aw_ rn id with
 |none=>(id,a)::rn
 |some _=>rn
mutual
def qL_:AV->AV->List (Nat×Nat)->List (Nat×Nat)
 | .ptr id _,.ptr id' _,rn=>qq_ id id' rn
 | .sl id _ _ _ _,.sl id' _ _ _ _,rn=>qq_ id id' rn
 | .ptx id _ _ _,.slx id' _ _,rn=>qq_ id id' rn
 | .map id,.map id',rn=>qq_ id id' rn
 | .agg ts,.agg cs,rn=>lU_ ts cs rn
 | .tup ts,.tup cs,rn=>lU_ ts cs rn
 | .iface _ t,.iface _ a,rn=>qL_ t a rn
 |_,_,rn=>rn
def lU_:List AV->List AV->List (Nat×Nat)->List (Nat×Nat)
 |t::ts,a::r,rn=>lU_ ts r (qL_ t a rn)
 |_,_,rn=>rn
end
def tn_ (T:Tm):List (Nat×AV)->List (Nat×Nat)->List (Nat×Nat)
 |[],rn=>rn
 |(t,a)::r,rn=>tn_ T r (qL_ a (tget T t) rn)
def lT_ (H:AHeap):List (Nat×List AV)->List (Nat×Nat)->List (Nat×Nat)
 |[],rn=>rn
 |(id,cs)::r,rn=>match aw_ rn id with
  |some a=>match H.get a with
   |some (.cells l)=>lT_ H r (lU_ cs l rn)
   |_=>lT_ H r rn
  |none=>match H.get id with
   |some (.cells l)=>lT_ H r (lU_ cs l ((id,id)::rn))
   |_=>lT_ H r rn
def rA_:List (Nat×Nat)->List (Nat×Nat)->List (Nat×Nat)
 |[],rn=>rn
 |(id,_)::r,rn=>rA_ r (qq_ id id rn)
def q6_ (ids:List Nat):List (Nat×Nat)->List (Nat×Nat)
 |[]=>[]
 |(id,a)::r=>match memT id ids with
  |true=>(id,a)::q6_ ids r
  |false=>q6_ ids r
def Tpl.ids (tp:Tpl):List Nat:=pU_ tp.fix (pU_ tp.maps (mp_ tp.rows))
def t8_ (tp:Tpl) (T:Tm) (H:AHeap):List (Nat×Nat):=q6_ tp.ids (rA_ tp.fix (rA_ tp.maps (lT_ H tp.rows (tn_ T tp.slots []))))
def tT_:List (Nat×Nat)->List (Nat×Nat)->List (Nat×Nat)
 |[],acc=>acc
 |(id,a)::r,acc=>(a,id)::tT_ r acc
def q4_:List DA->List (Nat×Nat)->List (Nat×Nat)
 |[],acc=>acc
 |d::r,acc=>match d.act with
  |some i=>(i,d.id)::q4_ r acc
  |none=>q4_ r acc
def mN (ds:List DA) (inv:List (Nat×Nat)) (next:Nat):List (Nat×Nat)->Bool
 |[]=>true
 |(id,a)::r=>Nat.blt id next&&(Nat.blt id top&&(jF_ (aw_ inv a) (some id)&&((aD_ ds id).isNone&&mN ds inv next r)))
def mH (ds:List DA) (rn:List (Nat×Nat)) (hv:List AV) (n:Nat) (H:AHeap):List (Nat×List AV)->Bool
 |[]=>true
 |(id,cs)::r=>(match aw_ rn id with
  |some a=>match H.get a with
   |some (.cells l)=>mL H ds rn hv n cs l
   |_=>false
  |none=>false)&&mH ds rn hv n H r
def mD (inv:List (Nat×Nat)) (hv:List AV) (next:Nat):List DA->Bool
 |[]=>true
 |d::r=>Nat.blt d.id next&&(Nat.blt d.id top&&((match cB_ d.j hv with
  |some y=>bF_ y d.x
  |none=>false)&&((match d.act with
  |some i=>jF_ (aw_ inv i) (some d.id)
  |none=>true)&&mD inv hv next r)))
def uT_ (H:AHeap) (rn:List (Nat×Nat)):List (Nat×Nat)->List (Nat×AV)->Option (List (Nat×AV))
 |[],acc=>some acc
 |(id,j)::r,acc=>match aw_ rn id with
  |some a=>match oW_ H a with
   |some x=>match uT_ H rn r acc with
    |some l=>some ((j,x)::l)
    |none=>none
   |none=>none
  |none=>none
def mM (rn:List (Nat×Nat)) (hv:List AV) (H:AHeap):List (Nat×Nat)->Bool
 |[]=>true
 |(id,j)::r=>(match aw_ rn id with
  |some a=>match oW_ H a with
   |some x=>match cB_ j hv with
    |some y=>bF_ y x
    |none=>false
   |none=>false
  |none=>false)&&mM rn hv H r
def oO_ (cs:List AV) (x:AV):Bool:=match x with
 | .vsl len z cs'=>dH_ cs' cs&&(Nat.beq (a0_ cs) (Nat.mul len z)&&(ad_ cs&&bb_ cs))
 |_=>false
def mF (rn:List (Nat×Nat)) (hv:List AV) (n:Nat) (H:AHeap):List (Nat×Nat)->Bool
 |[]=>true
 |(id,i)::r=>(match aw_ rn id with
  |some a=>match H.get a with
   |some (.syl i')=>match Nat.blt i lN_ with
    |true=>Nat.blt i n&&Nat.beq i i'
    |false=>match cB_ (hs_ i) hv with
     |some x=>bF_ x (.sym i')
     |none=>false
   |some (.cells cs)=>match Nat.blt i lN_ with
    |true=>false
    |false=>match cB_ (hs_ i) hv with
     |some x=>oO_ cs x
     |none=>false
   |_=>false
  |none=>false)&&mF rn hv n H r
def pM_ (rn:List (Nat×Nat)) (H:AHeap):List (Nat×Nat)->List (Nat×AV)->List (Nat×AV)
 |[],acc=>acc
 |(id,i)::r,acc=>match Nat.blt i lN_ with
  |true=>pM_ rn H r acc
  |false=>match aw_ rn id with
   |some a=>match H.get a with
    |some (.syl i')=>(hs_ i,.sym i')::pM_ rn H r acc
    |some (.cells cs)=>(hs_ i,.vsl (Nat.div (a0_ cs) (zF i)) (zF i) cs)::pM_ rn H r acc
    |_=>pM_ rn H r acc
   |none=>pM_ rn H r acc
def tW_ (ds:List DA) (rn:List (Nat×Nat)):Nat->Bool
 |0=>true
 |k+1=>(match aw_ rn k with
  |some a=>Nat.beq a k
  |none=>match aD_ ds k with
   |some d=>jF_ d.act (some k)
   |none=>false)&&tW_ ds rn k
def noD:Dfs->Bool
 |[]=>true
 |_=>false
structure MR where
 rn:List (Nat×Nat)
 ds:List DA
 hv:List AV
def MR.inv (m:MR):List (Nat×Nat):=q4_ m.ds (tT_ m.rn [])
def gS_ (n:Nat) (tp:Tpl) (T:Tm) (H:AHeap):Option MR:=match t8_ tp T H with
 |rn=>match pv_ T H rn tp.acc with
  |none=>none
  |some ds=>match uT_ H rn tp.maps (uK_ ds (uM_ T tp.slots (uL_ H rn tp.rows [])))with
   |none=>none
   |some ms=>match oM_ (pM_ rn H tp.fix ms) 0 tp.nv with
    |none=>none
    |some hv=>match MR.mk rn ds hv with
      |m=>match ad_ hv&&(bb_ hv&&(mT H ds rn hv n T tp.slots&&(mN ds m.inv tp.next rn&&(mH ds rn hv n H tp.rows&&(mD m.inv hv tp.next ds&&(mM rn hv H tp.maps&&(mF rn hv n H tp.fix&&Nat.ble tp.next top)))))))with
       |true=>some m
       |false=>none
def nnL (k:Nat) (hv:List AV):List TA->Option (List Nat)
 |[]=>some []
 |t::r=>match nnL k hv r with
  |none=>none
  |some l=>match Nat.blt t.id k with
   |false=>some l
   |true=>match cB_ t.j hv with
    |some (.sym i)=>some (i::l)
    |some (.vsl _ _ _)=>some l
    |_=>none
structure MT where
 hv:List AV
 nn:List Nat
def gT_ (n k:Nat) (tp:Tpl) (S:VS):Option MT:=match noD S.D with
 |false=>none
 |true=>match gS_ n tp S.T S.H with
  |none=>none
  |some m=>match tW_ m.ds m.rn k with
   |false=>none
   |true=>match nnL k m.hv tp.acc with
    |none=>none
    |some l=>some ⟨m.hv,l⟩
mutual
def rx_:AV->AV->List AV
 | .slx _ z _,a=>match z with
   |0=>match ae_ a with
    |true=>[]
    |false=>[a]
   |_+1=>[]
 | .agg ts,.agg cs=>rz_ ts cs
 | .tup ts,.tup cs=>rz_ ts cs
 | .iface _ t,.iface _ a=>rx_ t a
 | .vsl _ _ _,.sl id o n z c=>[.sl id o n z c]
 |_,_=>[]
def rz_:List AV->List AV->List AV
 |t::ts,a::r=>jt_ (rx_ t a) (rz_ ts r)
 |_,_=>[]
end
def gc_ (T:Tm):List (Nat×AV)->List AV
 |[]=>[]
 |(t,a)::r=>jt_ (rx_ a (tget T t)) (gc_ T r)
def dE_ (S:VS) (args:List AV):VS:=let l:=ef_ 100 S.H args []
 ⟨bj_ (frz (df_ S.H l)) S.T,dS_ S.H l,S.n,S.lv,S.D⟩
def tF_ (S:VS) (args:List AV) (id:Nat):VS:=let l:=ef_ 100 S.H args []
 ⟨bj_ (frz (df_ S.H l)) S.T,s0_ (df_ S.H l) id (dS_ S.H l),S.n,S.lv,S.D⟩
mutual
def reA (id i k:Nat):AV->AV
 | .slx a z j=>match Nat.beq a id&&Nat.beq j i with
   |true=>.slx a z k
   |false=>.slx a z j
 | .vptr cs=>.vptr (reL id i k cs)
 | .vsl n z cs=>.vsl n z (reL id i k cs)
 | .fn f cs=>.fn f (reL id i k cs)
 | .iface t a=>.iface t (reA id i k a)
 | .agg cs=>.agg (reL id i k cs)
 | .tup cs=>.tup (reL id i k cs)
 |a=>a
def reL (id i k:Nat):List AV->List AV
 |[]=>[]
 |a::r=>reA id i k a::reL id i k r
end
structure SR where
 id:Nat
 i:Nat
 k:Nat
def g6_ (H:AHeap):List AV->List SR
 |[]=>[]
 |a::r=>match a with
  | .slx id _ i=>match H.get id with
    |some (.syl k)=>match Nat.beq i k with
     |true=>g6_ H r
     |false=>⟨id,i,k⟩::g6_ H r
    |_=>g6_ H r
  |_=>g6_ H r
def t7_:List SR->List AV->List AV
 |[],l=>l
 |q::r,l=>t7_ r (reL q.id q.i q.k l)
def reS:List SR->VS->VS
 |[],S=>S
 |q::r,S=>reS r ⟨bj_ (reA q.id q.i q.k) S.T,S.H,S.n,S.lv,S.D⟩
def n4_:List SR->List (Nat×Nat)
 |[]=>[]
 |q::r=>(q.i,q.k)::n4_ r
structure FR where
 l:List (Nat×Nat)
 S:VS
def hD_ (S:VS) (l:List AV):FR:=match g6_ S.H l with
 |[]=>⟨[],dE_ S l⟩
 |q=>⟨n4_ q,dE_ (reS q S) (t7_ q l)⟩
def k7_ (tp:Tpl) (S:VS):FR:=match gc_ S.T tp.slots with
 |[]=>⟨[],S⟩
 |l=>hD_ S l
def of_ (H:AHeap) (a:AV):Option (Nat×Nat×AV):=match a with
 | .slx id z i=>match H.get id with
   |some (.syl k)=>match Nat.beq i k with
    |true=>none
    |false=>some (i,k,.slx id z k)
   |_=>none
 |_=>none
def gl_:Nat->AV->List AV->List AV
 |_,_,[]=>[]
 |0,x,_::r=>x::r
 |n+1,x,a::r=>a::gl_ n x r
def k5_ (rn:List (Nat×Nat)) (t:TA) (S:VS):FR:=match ki_ S.T S.H rn t with
 |none=>⟨[],S⟩
 |some a=>match of_ S.H a with
  |none=>⟨[],S⟩
  |some (i,k,a')=>match t.off with
   |none=>match Nat.blt t.loc 512 with
    |true=>⟨[(i,k)],⟨dY_ S.T t.loc a',S.H,S.n,S.lv,S.D⟩⟩
    |false=>⟨[],S⟩
   |some o=>match aw_ rn t.loc with
    |some r=>match S.H.get r with
     |some (.cells cs)=>⟨[(i,k)],⟨S.T,S.H.set r (.cells (gl_ o a' cs)),S.n,S.lv,S.D⟩⟩
     |_=>⟨[],S⟩
    |none=>match tget S.T (Nat.sub t.loc 600)with
     | .tup cs=>match Nat.blt (Nat.sub t.loc 600) 512 with
       |true=>⟨[(i,k)],⟨dY_ S.T (Nat.sub t.loc 600) (.tup (gl_ o a' cs)),S.H,S.n,S.lv,S.D⟩⟩
       |false=>⟨[],S⟩
     |_=>⟨[],S⟩
def d8_ (rn:List (Nat×Nat)):List TA->VS->FR
 |[],S=>⟨[],S⟩
 |t::r,S=>match k5_ rn t S with
  |f=>match d8_ rn r f.S with
   |g=>⟨appP f.l g.l,g.S⟩
where
 appP:List (Nat×Nat)->List (Nat×Nat)->List (Nat×Nat)
 |[],l=>l
 |x::r,l=>x::appP r l
def k6_ (tp:Tpl) (S:VS):FR:=d8_ (t8_ tp S.T S.H) tp.acc S
def dh_ (tp:Tpl) (S:VS):FR:=match k7_ tp S with
 |f=>match k6_ tp f.S with
  |g=>⟨d8_.appP f.l g.l,g.S⟩
def i7_:List (Nat×Nat)->VT->VT
 |[],t=>t
 |(i,k)::r,t=>.chk (.same i k) (i7_ r t)
structure MA where
 j:Nat
 l:List (Nat×Nat)
 m:MT
def clashT (T:Tm):List (Nat×AV)->Bool
 |[]=>false
 |(t,a)::r=>(match a with
  | .int _ x=>match tget T t with
    | .int _ y=>not (eqI x y)
    |_=>false
  |_=>false)||clashT T r
def dT_ (n k:Nat):List Tpl->Nat->VS->Option MA
 |[],_,_=>none
 |tp::r,j,S=>match clashT S.T tp.slots with
  |true=>dT_ n k r (Nat.succ j) S
  |false=>match dh_ tp S with
   |f=>match gT_ n k tp f.S with
    |some m=>some ⟨j,f.l,m⟩
    |none=>dT_ n k r (Nat.succ j) S
def Tpl.heap (tp:Tpl) (n:Nat):AHeap:=ka_ n (kb_ n (ht_ n (iw_ n tp.next tp.rows) tp.acc) tp.maps) tp.fix
def Tpl.inst (tp:Tpl) (n lv:Nat):VS:=⟨cK_ n tp.slots,tp.heap n,Nat.add n tp.nv,lv,[]⟩
def qE_:List Nat->VT->VT
 |[],t=>t
 |i::r,t=>.chk (.nn i) (qE_ r t)
section
variable [Gl]
def cm_:List (Nat×AV)->List AV
 |[]=>[]
 |(_,a)::r=>a::cm_ r
def pu_ (ft:FT) (n:Nat) (Y0:Sy) (Q:Nat->List AV->Prop) (Y:Sy) (r:FRes):Prop:=
 ∃j ws b tp,ft.exs[j]? =some (b,tp)/\Q j ws/\okL ws=true/\ws.length=tp.nv/\Y=Y0.puts n ws/\r=(match b with
  |true=>.pan (tget (cK_ n tp.slots) 0) (tp.heap n)
  |false=>.ret (tget (cK_ n tp.slots) 0) (tp.heap n))
def CF (P:Program) (f:FuncId) (ft:FT) (vs:List AV) (Q:Nat->List AV->Prop):Prop:=
 vs.length=ft.ent.nv/\∀Y,Fresh Y 64->SemCallF P ft.k (Y.puts 64 vs) f (bq_ 64 (cm_ ft.ent.slots)) (ft.ent.heap 64) (pu_ ft (Nat.add 64 ft.ent.nv) (Y.puts 64 vs) Q)
def Chk.ok (Y:Sy):Chk->Prop
 | .same i j=>(Y.v i=some .nsl/\Y.v j=some .nsl)\/∃n z cs ds,Y.v i=some (.vsl n z cs)/\Y.v j=some (.vsl n z ds)
 | .nn i=>∃n z cs,Y.v i=some (.vsl n z cs)
 | .pos i=>∃n z cs,Y.v i=some (.vsl (n+1) z cs)
mutual
def VOK (P:Program) (Q:AV->Prop):List (Nat->List AV->Prop)->Sy->VT->Prop
 |_,_,.bad=>False
 |_,Y,.done v=>Q (den Y.v v)
 |L,Y,.ite i a b=>∃t,Y.v i=some (.bool t)/\(t=true->VOK P Q L Y a)/\(t=false->VOK P Q L Y b)
 |L,Y,.lt op args n m t=>match m with
  |none=>∃r,op.run P (ab_ Y.v args)=some r/\okC r=true/\VOK P Q L (Y.put n r) t
  |some k=>∃cs,op.run P (ab_ Y.v args)=some (.agg cs)/\cs.length=k/\okL cs=true/\VOK P Q L (Y.puts n cs) t
 |L,Y,.call f args n sh t=>∃v vs,kH_ P f (ab_ Y.v args) v/\hq_ sh v=some vs/\okL vs=true/\VOK P Q L (Y.puts n vs) t
 |L,Y,.loop n j hv bs=>∃(Inv:Nat->List AV->Prop) (μ:Nat->List AV->Nat),(∀j vs,Inv j vs->okL vs=true)/\Inv j (ab_ Y.v hv)/\tH_ P Q Inv μ L n 0 Y bs
 |L,Y,.again lvl j hv=>∃R,L[lvl]? =some R/\R j (ab_ Y.v hv)
 |L,Y,.chk c t=>c.ok Y/\VOK P Q L Y t
 |L,Y,.callF f ft hv n bs=>∃R,CF P f ft (ab_ Y.v hv) R/\okL (ab_ Y.v hv)=true/\si_ P Q R L (Y.puts n (ab_ Y.v hv)) (Nat.add n ft.ent.nv) 0 bs
 |L,Y,.both a b=>VOK P Q L Y a/\VOK P Q L Y b
def tH_ (P:Program) (Q:AV->Prop) (Inv:Nat->List AV->Prop) (μ:Nat->List AV->Nat):List (Nat->List AV->Prop)->Nat->Nat->Sy->VTs->Prop
 |_,_,_,_,.nil=>True
 |L,n,j,Y,.cons nv t r=>(∀vs,vs.length=nv->Inv j vs->VOK P Q (L++[λj' vs'=>Inv j' vs'/\μ j' vs'<μ j vs]) (Y.puts n vs) t)/\tH_ P Q Inv μ L n (j+1) Y r
def si_ (P:Program) (Q:AV->Prop) (R:Nat->List AV->Prop):List (Nat->List AV->Prop)->Sy->Nat->Nat->VTs->Prop
 |_,_,_,_,.nil=>True
 |L,Y,n,j,.cons _ t r=>(∀ws,R j ws->VOK P Q L (Y.puts n ws) t)/\si_ P Q R L Y n (j+1) r
end
end
def la_:th_->Nat->Option (List Tpl)
 |[],_=>none
 |(b,l)::r,bid=>match Nat.beq b bid with
  |true=>some l
  |false=>la_ r bid
section
variable [Gl]
abbrev qo_:=List (FuncId×List (Option Nat))
def ud_:qo_->FuncId->Option (List (Option Nat))
 |[],_=>none
 |(g,sh)::r,f=>match Nat.beq g f with
  |true=>some sh
  |false=>ud_ r f
abbrev qp_:=List (FuncId×FT)
def tQ_:qp_->FuncId->Option FT
 |[],_=>none
 |(g,t)::r,f=>match Nat.beq g f with
  |true=>some t
  |false=>tQ_ r f
structure VC where
 fc:FcT
 cs:qo_
 hs:th_
 k:Nat
 own:Bool
 fs:qp_
def qu_ (P:Program) (S:VS) (o:Oper):Option (Nat×Nat×XOp×List AV):=match noD S.D with
 |true=>fT_ P S.T S.H o
 |false=>none
def ns_ (P:Program) (S:VS) (o:Oper):Option (Nat×Nat×XOp×List AV):=match noD S.D with
 |true=>match cF_ P S.T S.H o with
  |some r=>some r
  |none=>t1_ P S.T S.H o
 |false=>none
def rk_ (P:Program) (S:VS) (o:Oper):Option (Nat×XOp×List AV):=match noD S.D with
 |true=>rj_ P S.T S.H o
 |false=>none
def sgS (hv:List AV) (n i:Nat):Nat:=match Nat.blt i 64 with
 |true=>i
 |false=>match cB_ (Nat.sub i 64) hv with
  |some (.sym s)=>s
  |_=>Nat.add n (Nat.sub i 64)
def sgV (hv:List AV) (n i:Nat):AV:=match Nat.blt i 64 with
 |true=>.sym i
 |false=>match cB_ (Nat.sub i 64) hv with
  |some a=>match okC a with
   |true=>a
   |false=>.sym (sgS hv n i)
  |none=>.sym (sgS hv n i)
mutual
def dC_ (hv:List AV) (n:Nat) (r:Nat->Nat):AV->AV
 | .sym i=>sgV hv n i
 | .slx id z i=>.slx (r id) z (sgS hv n i)
 | .ptx id j z off=>.ptx (r id) (sgS hv n j) z off
 | .ptr id off=>.ptr (r id) off
 | .sl id off len sz cap=>.sl (r id) off len sz cap
 | .map id=>.map (r id)
 | .vptr cs=>.vptr (fr_ hv n r cs)
 | .vsl a z cs=>.vsl a z (fr_ hv n r cs)
 | .fn f cs=>.fn f (fr_ hv n r cs)
 | .iface t a=>.iface t (dC_ hv n r a)
 | .agg cs=>.agg (fr_ hv n r cs)
 | .tup cs=>.tup (fr_ hv n r cs)
 |a=>a
def fr_ (hv:List AV) (n:Nat) (r:Nat->Nat):List AV->List AV
 |[]=>[]
 |a::l=>dC_ hv n r a::fr_ hv n r l
end
def ri_ (hv:List AV) (n:Nat) (r:Nat->Nat):ABlk->Option ABlk
 | .cells cs=>some (.cells (fr_ hv n r cs))
 | .syl i=>some (.syl (sgS hv n i))
 | .mpl i=>some (.mpl (sgS hv n i))
 |_=>none
def le_ (hv:List AV) (n:Nat) (r:Nat->Nat) (F:AHeap) (base:AHeap):List Nat->AHeap
 |[]=>base
 |id::l=>match F.get id with
  |some k=>match ri_ hv n r k with
   |some k'=>(le_ hv n r F base l).set (r id) k'
   |none=>le_ hv n r F base l
  |none=>le_ hv n r F base l
def c3_:List TA->List Nat->List Nat
 |[],l=>l
 |t::r,l=>t.id::c3_ r l
def qe_:List (Nat×Nat)->List Nat->List Nat
 |[],l=>l
 |(_,a)::r,l=>a::qe_ r l
def nr_:List DA->List Nat->List Nat
 |[],l=>l
 |d::r,l=>match d.act with
  |some i=>i::nr_ r l
  |none=>nr_ r l
def iG_ (m:MR) (j:Nat):Option Nat:=match aw_ m.rn j with
 |some a=>some a
 |none=>match aD_ m.ds j with
  |some d=>d.act
  |none=>none
def nS_ (m:MR):Nat->Option (List Nat)
 |0=>some []
 |k+1=>match nS_ m k with
  |some l=>match iG_ m k with
   |some a=>some (snoc l a)
   |none=>none
  |none=>none
where
 snoc:List Nat->Nat->List Nat
 |[],a=>[a]
 |x::r,a=>x::snoc r a
def sJ_:Nat->List Nat->Option Nat
 |_,[]=>none
 |0,a::_=>some a
 |n+1,_::r=>sJ_ n r
def rB_ (low:List Nat) (k nx j:Nat):Nat:=match sJ_ j low with
 |some a=>a
 |none=>Nat.add nx (Nat.sub j k)
mutual
def ji_:AV->Bool
 | .ptr id _=>Nat.blt id top
 | .sl id _ _ _ _=>Nat.blt id top
 | .map id=>Nat.blt id top
 | .slx id _ _=>Nat.blt id top
 | .ptx id _ _ _=>Nat.blt id top
 | .vptr cs=>jj_ cs
 | .vsl _ _ cs=>jj_ cs
 | .fn _ cs=>jj_ cs
 | .iface _ a=>ji_ a
 | .agg cs=>jj_ cs
 | .tup cs=>jj_ cs
 |_=>true
def jj_:List AV->Bool
 |[]=>true
 |a::r=>ji_ a&&jj_ r
end
def qi_ (n:Nat):List (Nat×List AV)->Bool
 |[]=>true
 |(_,cs)::r=>jj_ (bq_ n cs)&&qi_ n r
def qh_:List Nat->Bool
 |[]=>true
 |i::r=>Nat.blt i top&&qh_ r
def k8_ (H:AHeap):List Nat->Bool
 |[]=>true
 |a::r=>(H.get a).isSome&&k8_ H r
def ja_:Nat->List (Nat×AV)->Bool
 |_,[]=>true
 |i,(j,_)::r=>Nat.beq i j&&(Nat.blt i 512&&ja_ (Nat.succ i) r)
def pe_ (k n:Nat) (H:AHeap):List (Bool×Tpl)->Bool
 |[]=>true
 |(_,tp)::r=>Nat.ble k tp.next&&(Nat.blt (Nat.add H.next (Nat.sub tp.next k)) H.hi&&(ji_ (tget (cK_ n tp.slots) 0)&&(qi_ n tp.rows&&(qh_ (c3_ tp.acc tp.ids)&&pe_ k n H r))))
def exH (ft:FT) (m:MR) (low:List Nat) (S:VS) (tp:Tpl):AHeap:=le_ m.hv S.n (rB_ low ft.k S.H.next) (tp.heap (Nat.add 64 ft.ent.nv))
 (match dS_ S.H (nr_ m.ds (qe_ m.rn []))with
   |B=>⟨B.tr,Nat.add S.H.next (Nat.sub tp.next ft.k),B.hi⟩) (c3_ tp.acc tp.ids)
def exV (ft:FT) (m:MR) (low:List Nat) (S:VS) (tp:Tpl):AV:=dC_ m.hv S.n (rB_ low ft.k S.H.next) (tget (cK_ (Nat.add 64 ft.ent.nv) tp.slots) 0)
def exN (ft:FT) (S:VS) (tp:Tpl):Nat:=Nat.add (Nat.add S.n ft.ent.nv) tp.nv
def r2_ (ft:FT) (m:MR) (low:List Nat) (u:Tm->AV->Tm) (S:VS) (X:VX->VT) (k:VS->VT):List (Bool×Tpl)->VTs
 |[]=>.nil
 |(b,tp)::r=>.cons tp.nv (match b with
  |false=>k ⟨u S.T (exV ft m low S tp),exH ft m low S tp,exN ft S tp,S.lv,S.D⟩
  |true=>X (.pan (exV ft m low S tp) ⟨S.T,exH ft m low S tp,exN ft S tp,S.lv,S.D⟩)) (r2_ ft m low u S X k r)
def lA_ (g:FuncId) (ft:FT) (u:Tm->AV->Tm) (S:VS) (args:List AV) (X:VX->VT) (k:VS->VT):VT:=match k6_ ft.ent ⟨aY_ args 0 topq,S.H,S.n,S.lv,[]⟩with
 |f=>match gS_ 64 ft.ent f.S.T f.S.H with
  |none=>.bad
  |some m=>match nS_ m ft.k with
   |none=>.bad
   |some low=>match pe_ ft.k (Nat.add 64 ft.ent.nv) f.S.H ft.exs&&(Nat.ble f.S.H.hi top&&(Nat.beq (a0_ args) (a0_ (cm_ ft.ent.slots))&&(ja_ 0 ft.ent.slots&&k8_ f.S.H low)))with
    |true=>i7_ f.l (.callF g ft m.hv S.n (r2_ ft m low u ⟨S.T,f.S.H,S.n,S.lv,S.D⟩ X k ft.exs))
    |false=>.bad
def ok_ (P:Program) (g:FuncId) (ft:FT) (o:Oper) (u:Tm->AV->Tm) (S:VS) (args:List AV) (X:VX->VT) (k:VS->VT):VT:=match gc_ (aY_ args 0 topq) ft.ent.slots with
 |[]=>lA_ g ft u S args X k
 |l=>match hD_ S l with
  |f=>match (ac_ P o).run f.S.T f.S.H with
   |some r=>match r with
    | .call g' args'=>match Nat.beq g' g with
      |true=>i7_ f.l (lA_ g ft u f.S args' X k)
      |false=>.bad
    |_=>.bad
   |none=>.bad
def INL (P:Program) (Q:AV->Prop) (fc:FcT) (L:List (Nat->List AV->Prop)) (n:Nat) (Y:Sy) (ret pan:AV->AHeap->Nat->Nat->VT) (Y':Sy) (r:FRes):Prop:=
 ∃(n' lv':Nat) (L':List (Nat->List AV->Prop)),L <+: L'/\L'.length=lv'/\n<=n'/\(∀i,i<n->Y'.v i=Y.v i)/\(Fresh Y' n'/\KnownF P fc Y')/\(match r with
  | .ret a H=>VOK P Q L' Y' (ret a H n' lv')
  | .pan a H=>VOK P Q L' Y' (pan a H n' lv'))
structure Inl (P:Program) (fuel:Nat) where
 run:VC->FuncId->List AV->AHeap->Nat->Nat->(AV->AHeap->Nat->Nat->VT)->(AV->AHeap->Nat->Nat->VT)->VT
 ok:∀{c:VC} {g:FuncId} {args:List AV} {H:AHeap} {n lv:Nat} {ret pan:AV->AHeap->Nat->Nat->VT} {Q:AV->Prop} {L:List (Nat->List AV->Prop)} {Y:Sy},P.follows .mixedOrders=true->aq_ P (a9_ P fuel)->L.length=lv->Fresh Y n/\KnownF P c.fc Y->
  VOK P Q L Y (run c g args H n lv ret pan)->SemCallF P H.next Y g args H (INL P Q c.fc L n Y ret pan)
def in0 (P:Program) (fuel:Nat):Inl P fuel:=⟨λ_ _ _ _ _ _ _ _=>.bad,λ_ _ _ _ h=>by grind [VOK]⟩
mutual
def cL_ (k n:Nat):AV->Bool
 | .ptr id _=>Nat.blt id k
 | .sl id _ _ _ _=>Nat.blt id k
 | .map id=>Nat.blt id k
 | .slx id _ i=>Nat.blt id k&&Nat.blt i n
 | .ptx id j _ _=>Nat.blt id k&&Nat.blt j n
 | .sym i=>Nat.blt i n
 | .vptr cs=>ea_ k n cs
 | .vsl _ _ cs=>ea_ k n cs
 | .fn _ cs=>ea_ k n cs
 | .iface _ a=>cL_ k n a
 | .agg cs=>ea_ k n cs
 | .tup cs=>ea_ k n cs
 |_=>true
def ea_ (k n:Nat):List AV->Bool
 |[]=>true
 |a::r=>cL_ k n a&&ea_ k n r
end
def bP_ (k n:Nat) (a:AV):AV:=match cL_ k n a with
 |true=>a
 |false=>.opq
def ms_ (k n:Nat):Dfs->Bool
 |[]=>true
 |(_,args)::r=>ea_ k n args&&ms_ k n r
def lB_ (P:Program) {fuel:Nat} (I:Inl P fuel) (c:VC) (o:Oper) (u:Tm->AV->Tm) (S:VS) (X:VX->VT) (k:VS->VT):VT:=match ms_ S.H.next S.n S.D&&Nat.ble c.k S.H.next with
 |false=>.bad
 |true=>match bj_ (bP_ S.H.next S.n) S.T with
  |T1=>match (ac_ P o).run T1 S.H with
   |some r=>match r with
    | .call g args=>I.run c g args S.H S.n S.lv
      (λa H n lv=>match Nat.beq lv S.lv with
       |true=>k ⟨u T1 a,H,n,lv,S.D⟩
       |false=>.bad)
      (λa H n lv=>match Nat.beq lv S.lv with
       |true=>X (.pan a ⟨T1,H,n,lv,S.D⟩)
       |false=>.bad)
    |_=>.bad
   |none=>.bad
def rV_ (P:Program) (fuel:Nat) (I:Inl P fuel) (c:VC) (o:Oper) (u:Tm->AV->Tm) (S:VS) (g:FuncId) (args:List AV) (X:VX->VT) (k:VS->VT):VT:=match tQ_ c.fs g with
 |some ft=>ok_ P g ft o u S args X k
 |none=>match ud_ c.cs g with
  |some sh=>match ad_ args with
   |true=>.call g args S.n sh (k ⟨u S.T (dm_ S.n sh),S.H,Nat.add S.n (dx_ sh),S.lv,S.D⟩)
   |false=>match (ac_ P o).run (dE_ S args).T (dE_ S args).H with
    |some r=>match r with
     | .call g' args'=>match Nat.beq g' g&&ad_ args' with
       |true=>.call g args' S.n sh (k ⟨u (dE_ S args).T (dm_ S.n sh),(dE_ S args).H,Nat.add S.n (dx_ sh),S.lv,S.D⟩)
       |false=>.bad
     |_=>.bad
    |none=>.bad
  |none=>match a9_ P fuel g args S.H with
   |some r=>match r with
    | .ret a H'=>k ⟨u S.T a,H',S.n,S.lv,S.D⟩
    | .pan _ _=>lB_ P I c o u S X k
   |none=>lB_ P I c o u S X k
def tc_ (P:Program) (c:VC) (u:Tm->AV->Tm) (S:VS) (k:VS->VT) (op:XOp) (args:List AV):VT:=match mv_ P op with
 |none=>match me_ c.fc.b op args with
  |some v=>k ⟨u S.T v,S.H,S.n,S.lv,S.D⟩
  |none=>.lt op args S.n none (k ⟨u S.T (.sym S.n),S.H,Nat.succ S.n,S.lv,S.D⟩)
 |some m=>.lt op args S.n (some m) (k ⟨u S.T (.agg (ah_ S.n m)),S.H,Nat.add S.n m,S.lv,S.D⟩)
def uq_ (P:Program) (c:VC) (o:Oper) (u:Tm->AV->Tm) (S:VS) (k:VS->VT):Option VT:=match c.own with
 |false=>none
 |true=>match rv_ P S.T o with
  |some a=>some (k ⟨u S.T a,S.H,S.n,S.lv,S.D⟩)
  |none=>match pV_ P S.T o with
   |some (op,args,id,sz)=>some (.lt op args S.n none (k ⟨u S.T (.ptx id S.n sz 0),S.H,Nat.succ S.n,S.lv,S.D⟩))
   |none=>match ldX S.T S.H o with
    |some (op,args)=>match mv_ P op with
     |none=>some (.lt op args S.n none (k ⟨u S.T (.sym S.n),S.H,Nat.succ S.n,S.lv,S.D⟩))
     |some m=>some (.lt op args S.n (some m) (k ⟨u S.T (.agg (ah_ S.n m)),S.H,Nat.add S.n m,S.lv,S.D⟩))
    |none=>match stX S.T S.H o with
     |some (op,args,id)=>some (.lt op args S.n none (k ⟨u S.T (.tup []),S.H.set id (.syl S.n),Nat.succ S.n,S.lv,S.D⟩))
     |none=>match tkX P S.T S.H o with
        |some (op,args,id,sz)=>some (.lt op args S.n none (k ⟨u S.T (.slx id sz S.n),S.H.set id (.syl S.n),Nat.succ S.n,S.lv,S.D⟩))
        |none=>none
def r9_ (P:Program) (fuel:Nat) (I:Inl P fuel) (c:VC) (o:Oper) (u:Tm->AV->Tm) (S:VS) (X:VX->VT) (k:VS->VT):VT:=match (ac_ P o).run S.T S.H with
 |some r=>match r with
  | .val a H'=>k ⟨u S.T a,H',S.n,S.lv,S.D⟩
  | .call g args=>rV_ P fuel I c o u S g args X k
  | .dfr g args=>k ⟨u S.T (.tup []),S.H,S.n,S.lv,(g,args)::S.D⟩
  | .pan v=>X (.pan v S)
  |_=>.bad
 |none=>match lm_ o S.T with
  |some (i,a,b)=>.ite i (k ⟨u (S.know i true).T (look (S.know i true).T a),S.H,S.n,S.lv,S.D⟩) (k ⟨u (S.know i false).T (look (S.know i false).T b),S.H,S.n,S.lv,S.D⟩)
  |none=>match qC_ c.fc.x S.T o with
   |some v=>k ⟨u S.T v,S.H,S.n,S.lv,S.D⟩
   |none=>match uq_ P c o u S k with
    |some t=>t
    |none=>match qu_ P S o with
    |some (id,sz,op,args)=>.lt op args S.n none (k ⟨u S.T (.slx S.H.next sz S.n),(S.H.erase id).push (.syl S.n),Nat.succ S.n,S.lv,S.D⟩)
    |none=>match ns_ P S o with
    |some (id,sz,op,args)=>.lt op args S.n none (k ⟨u S.T (.slx S.H.next sz S.n),(S.H.erase id).push (.syl S.n),Nat.succ S.n,S.lv,S.D⟩)
    |none=>match nQ_ S.T o with
     |some (op,args)=>.lt op args S.n none (k ⟨u S.T (.sym S.n),S.H,Nat.succ S.n,S.lv,S.D⟩)
     |none=>match rk_ P S o with
     |some (id,op,args)=>.lt op args S.n none (k ⟨u S.T (.tup []),S.H.set id (.mpl S.n),Nat.succ S.n,S.lv,S.D⟩)
     |none=>match rg_ S.T S.H o with
     |some (op,args)=>match nM_ P o with
      |true=>.lt op args S.n none (k ⟨u S.T (.sym S.n),S.H,Nat.succ S.n,S.lv,S.D⟩)
      |false=>.bad
     |none=>match jY_ S.T S.H o with
     |some (op,args)=>.lt op args S.n none (k ⟨u S.T (.sym S.n),S.H,Nat.succ S.n,S.lv,S.D⟩)
     |none=>match mgX S.T S.H o with
     |some (op,args)=>.lt op args S.n none (k ⟨u S.T (.sym S.n),S.H,Nat.succ S.n,S.lv,S.D⟩)
     |none=>match tP_ P S.T o with
     |some (op,args)=>.lt op args S.n none (k ⟨u S.T (.sym S.n),S.H,Nat.succ S.n,S.lv,S.D⟩)
     |none=>match dc_ S.T o with
      |some (op,args)=>match ad_ args with
       |true=>tc_ P c u S k op args
       |false=>match dc_ (dE_ S args).T o with
        |some (op',args')=>match ad_ args' with
         |true=>tc_ P c u (dE_ S args) k op' args'
         |false=>.bad
        |none=>.bad
      |none=>.bad
def r6_ (all:List Oper) (o:Oper) (T:Tm):Option Bool:=match a4_ all o with
 | .always=>some true
 | .mk g=>g T
def vOp (P:Program) (fuel:Nat) (I:Inl P fuel) (c:VC) (all:List Oper) (o:Oper) (u:Tm->AV->Tm) (X:VX->VT) (next:VS->VT) (S:VS):VT:=match r6_ all o S.T with
 |some t=>match t with
  |false=>next ⟨u S.T (.tup []),S.H,S.n,S.lv,S.D⟩
  |true=>r9_ P fuel I c o u S X next
 |none=>.bad
def ry_ (T:Tm):List (Nat×Operand)->List AV
 |[]=>[]
 |(_,x)::r=>match look T x with
  | .slx id z i=>.slx id z i::ry_ T r
  |_=>ry_ T r
def mR_:List AV->List AV
 |[]=>[]
 |a::r=>match a with
  | .slx id z i=>.slx id z i::mR_ r
  | .sl id o l z c=>.sl id o l z c::mR_ r
  |_=>mR_ r
def mS_ (T:Tm):List (Nat×Operand)->List AV
 |[]=>[]
 |(_,x)::r=>match look T x with
  | .slx id z i=>.slx id z i::mS_ T r
  | .sl id o l z c=>.sl id o l z c::mS_ T r
  | .agg cs=>jt_ (mR_ cs) (mS_ T r)
  |_=>mS_ T r
def nG_ (own:Bool) (o:Oper) (S:VS):VS:=match o.op with
 | .buildSlice _ _ ps=>match (match own with
   |true=>mS_ S.T ps.toList
   |false=>ry_ S.T ps.toList)with
   |[]=>S
   |a=>dE_ S a
 | .call c=>match own with
   |false=>S
   |true=>match c.callee with
    | .builtin b=>match b with
      | .append=>match c.args.toList with
        |[_,x]=>match look S.T x with
         | .sl id _ _ _ _=>match S.H.get id with
          |some (.cells cs)=>match mR_ cs with
           |[]=>S
           |a=>tF_ S a id
          |_=>S
         |_=>S
        |_=>S
      |_=>S
    |_=>S
 |_=>S
def lC_ (P:Program) (N fuel:Nat) (I:Inl P fuel) (c:VC) (all:List Oper) (X:VX->VT):List Oper->VS->(VS->VT)->VT
 |[],S,K=>K S
 |o::r,S,K=>match b3_ N o.dst with
  | .bad=>.bad
  | .mk u=>match mm_ all o S.T with
    |some i=>.ite i (vOp P fuel I c all o u X (λS=>lC_ P N fuel I c all X r S K) (S.know i true)) (vOp P fuel I c all o u X (λS=>lC_ P N fuel I c all X r S K) (S.know i false))
    |none=>vOp P fuel I c all o u X (λS=>lC_ P N fuel I c all X r S K) (nG_ c.own o S)
def isM (x:SI):Bool:=match x.o.op with
 | .alloc _=>true
 | .box _ _=>true
 | .buildSlice _ _ _=>true
 |_=>false
inductive Tch where
 |none
 |one (id:Nat)
 |all
def ha_ (x:SI) (R:Tm):Tch:=match x.o.op with
 | .call c=>match ke_ x with
   |false=>.all
   |true=>match c.args.toList with
    |s::r=>match look R s with
     | .slx id _ _=>.one id
     | .sym _=>.none
     | .sl id _ _ _ _=>.one id
     | .vsl n _ _=>match n with
       |0=>match r with
        |y::_=>match look R y with
          | .sym _=>.none
          |_=>.all
        |[]=>.all
       |_+1=>.all
     |_=>.all
    |[]=>.all
 |_=>.all
def h9_ (x:SI) (R:Tm):Bool:=match ke_ x with
 |false=>false
 |true=>match ha_ x R with
  | .all=>false
  |_=>true
def bY_ (x:SI) (R:Tm):Tch:=match isM x with
 |true=>.none
 |false=>match x.o.op with
  | .store _ a _=>match look R a with
    | .ptr id _=>.one id
    | .ptx id _ _ _=>.one id
    |_=>.all
  |_=>ha_ x R
def apart (t:Tch) (ids:List Nat):Bool:=match t with
 | .none=>true
 | .one id=>not (memT id ids)
 | .all=>match ids with
   |[]=>true
   |_::_=>false
structure GW where
 i:Nat
 H:AHeap
 t:Tch
def mM_ (bef:Nat) (H:AHeap):List GW->AHeap
 |[]=>H
 |g::r=>match bit bef g.i with
  |true=>H
  |false=>mM_ bef g.H r
def rq_ (bef:Nat) (ids:List Nat):List GW->Bool
 |[]=>true
 |g::r=>match bit bef g.i with
  |true=>true
  |false=>apart g.t ids&&rq_ bef ids r
def sL_ (bef:Nat) (t:Tch):List (Nat×List Nat)->Bool
 |[]=>true
 |(i,ids)::r=>(bit bef i||apart t ids)&&sL_ bef t r
def di_ (H:AHeap):List Nat->AHeap
 |[]=>⟨hnil,0,0⟩
 |id::r=>match H.get id with
  |some b=>(di_ H r).set id b
  |none=>di_ H r
def uR_ (a:AV) (acc:List Nat):List Nat:=match a with
 | .ptr id _=>id::acc
 | .sl id _ _ _ _=>id::acc
 | .map id=>id::acc
 | .ptx id _ _ _=>id::acc
 |_=>acc
def ts_ (T:Tm):List Nat->List Nat
 |[]=>[]
 |t::r=>uR_ (tget T t) (ts_ T r)
def gd_ (x:SI) (T:Tm):List Nat:=match vB_ x with
 |true=>[]
 |false=>ts_ T x.rd
def gK_ (x:SI) (S:VS) (gs:List GW):AHeap:=di_ (mM_ x.bef S.H gs) (gd_ x S.T)
def o3_ (x:SI) (i:Nat) (y:SI):Bool:=match isW x&&isW y with
 |true=>bit y.bef i
 |false=>true
def nZ_ (x:SI) (i:Nat):List SI->Bool
 |[]=>true
 |y::r=>o3_ x i y&&nZ_ x i r
def lj_:List SI->Nat->Bool
 |[],_=>true
 |x::r,i=>nZ_ x i r&&lj_ r (Nat.succ i)
def q0_ (x:SI):Nat->Bool
 |0=>true
 |n+1=>bit x.bef n&&q0_ x n
def rR_ (x:SI) (i n:Nat):Nat:=match Nat.beq n (Nat.succ i)&&q0_ x i with
 |true=>i
 |false=>n
def dn_:List SI->Nat->Nat
 |[],i=>i
 |x::r,i=>rR_ x i (dn_ r (Nat.succ i))
def ep_:Nat->List SI->List SI
 |0,_=>[]
 |_+1,[]=>[]
 |n+1,x::r=>x::ep_ n r
def oy_:Nat->List Oper->List Oper
 |0,l=>l
 |_+1,[]=>[]
 |n+1,_::r=>oy_ n r
def pq_ (P:Program) (x:SI) (Hx:AHeap) (u:Tm->AV->Tm) (S:VS) (k:VS->VT):VT:=match cg_ (ac_ P x.o) (as_ S.T x.rd topq) Hx with
 |some q=>k ⟨u S.T q,S.H,S.n,S.lv,S.D⟩
 |none=>.bad
def rX_ (u:Tm->AV->Tm) (S:VS) (k:VS->VT) (R:Tm) (o:Oper) (id sz:Nat) (op:XOp) (args:List AV):VT:=match aE_ S.n args with
 |true=>match S.H.get S.H.next with
  |none=>match fA_ args with
   |true=>.lt op args S.n none (k ⟨u S.T (.slx S.H.next sz S.n),(S.H.erase id).push (.syl S.n),Nat.succ S.n,S.lv,S.D⟩)
   |false=>match c4_ args with
    |some i=>.lt .emp [.sym i] S.n none (.ite S.n (k ⟨u S.T (l0_ R o),S.H,Nat.succ S.n,S.lv,S.D⟩)
     (.lt op args (Nat.succ S.n) none (k ⟨u S.T (.slx S.H.next sz (Nat.succ S.n)),(S.H.erase id).push (.syl (Nat.succ S.n)),Nat.succ (Nat.succ S.n),S.lv,S.D⟩)))
    |none=>.bad
  |some _=>.bad
 |false=>.bad
def nd_ (P:Program) (x:SI) (u:Tm->AV->Tm) (S:VS) (k:VS->VT):VT:=match ke_ x with
 |false=>.bad
 |true=>match fT_ P (as_ S.T x.rd topq) S.H x.o with
  |some (id,sz,op,args)=>match aE_ S.n args with
   |true=>match S.H.get S.H.next with
    |none=>match fA_ args with
     |true=>.lt op args S.n none (k ⟨u S.T (.slx S.H.next sz S.n),(S.H.erase id).push (.syl S.n),Nat.succ S.n,S.lv,S.D⟩)
     |false=>match c4_ args with
        |some i=>.chk (.pos i) (.lt op args S.n none (k ⟨u S.T (.slx S.H.next sz S.n),(S.H.erase id).push (.syl S.n),Nat.succ S.n,S.lv,S.D⟩))
        |none=>.bad
    |some _=>.bad
   |false=>.bad
  |none=>match cF_ P (as_ S.T x.rd topq) S.H x.o with
   |some (id,sz,op,args)=>rX_ u S k (as_ S.T x.rd topq) x.o id sz op args
   |none=>match dc_ (as_ S.T x.rd topq) x.o with
    |some (op,args)=>match ad_ args&&aE_ S.n args with
     |true=>match mv_ P op with
      |none=>.lt op args S.n none (k ⟨u S.T (.sym S.n),S.H,Nat.succ S.n,S.lv,S.D⟩)
      |some _=>.bad
     |false=>.bad
    |none=>.bad
def vDW (P:Program) (c:VC) (x:SI) (u:Tm->AV->Tm) (S:VS) (k:VS->VT):VT:=match (ac_ P x.o).run (as_ S.T x.rd topq) S.H with
 |some r=>match r with
  | .val a H'=>match isM x with
    |true=>match S.H.get S.H.next with
     |none=>k ⟨u S.T a,H',S.n,S.lv,S.D⟩
     |some _=>.bad
    |false=>match h9_ x (as_ S.T x.rd topq)with
     |true=>nd_ P x u S k
     |false=>k ⟨u S.T a,H',S.n,S.lv,S.D⟩
  |_=>.bad
 |none=>match c.own with
  |false=>nd_ P x u S k
  |true=>match stX (as_ S.T x.rd topq) S.H x.o with
   |some (op,args,id)=>match aE_ S.n args&&not (isM x)with
    |true=>.lt op args S.n none (k ⟨u S.T (.tup []),S.H.set id (.syl S.n),Nat.succ S.n,S.lv,S.D⟩)
    |false=>.bad
   |none=>nd_ P x u S k
def tE_ (P:Program) (c:VC) (R:Tm) (Hx:AHeap) (o:Oper) (u:Tm->AV->Tm) (S:VS) (k:VS->VT):Option VT:=match c.own with
 |false=>none
 |true=>match rv_ P R o with
  |some a=>some (k ⟨u S.T a,S.H,S.n,S.lv,S.D⟩)
  |none=>match pV_ P R o with
   |some (op,args,id,sz)=>match aE_ S.n args with
    |true=>some (.lt op args S.n none (k ⟨u S.T (.ptx id S.n sz 0),S.H,Nat.succ S.n,S.lv,S.D⟩))
    |false=>none
   |none=>match ldX R Hx o with
    |some (op,args)=>match aE_ S.n args with
     |true=>match mv_ P op with
        |none=>some (.lt op args S.n none (k ⟨u S.T (.sym S.n),S.H,Nat.succ S.n,S.lv,S.D⟩))
        |some m=>some (.lt op args S.n (some m) (k ⟨u S.T (.agg (ah_ S.n m)),S.H,Nat.add S.n m,S.lv,S.D⟩))
     |false=>none
    |none=>match nQ_ R o with
     |some (op,args)=>match aE_ S.n args with
        |true=>some (.lt op args S.n none (k ⟨u S.T (.sym S.n),S.H,Nat.succ S.n,S.lv,S.D⟩))
        |false=>none
     |none=>none
def nu_ (P:Program) (R:Tm) (o:Oper):Option AV:=match o.op with
 | .buildSlice t n ps=>match bh_ P ⟨hnil,0,1⟩ t n (cJ_ (look R) ps.toList)with
   |some r=>match r.1 with
    | .sl _ _ len sz _=>match r.2.get 0 with
      |some (.cells cs)=>match ad_ cs with
       |true=>some (.vsl len sz cs)
       |false=>none
      |_=>none
    |_=>none
   |none=>none
 |_=>none
def u7_ (P:Program) (x:SI) (u:Tm->AV->Tm) (S:VS) (k:VS->VT):VT:=match nu_ P (as_ S.T x.rd topq) x.o with
 |some q=>k ⟨u S.T q,S.H,S.n,S.lv,S.D⟩
 |none=>.bad
def rY_ (P:Program) (c:VC) (x:SI) (Hx:AHeap) (u:Tm->AV->Tm) (S:VS) (k:VS->VT):VT:=match cg_ (ac_ P x.o) (as_ S.T x.rd topq) Hx with
 |some q=>k ⟨u S.T q,S.H,S.n,S.lv,S.D⟩
 |none=>match tE_ P c (as_ S.T x.rd topq) Hx x.o u S k with
 |some t=>t
 |none=>match (ac_ P x.o).run (as_ S.T x.rd topq) Hx with
  |some r=>match r with
   | .call g args=>match ud_ c.cs g with
     |some sh=>match ad_ args&&aE_ S.n args with
      |true=>.call g args S.n sh (k ⟨u S.T (dm_ S.n sh),S.H,Nat.add S.n (dx_ sh),S.lv,S.D⟩)
      |false=>.bad
     |none=>.bad
   |_=>.bad
  |none=>match lm_ x.o S.T with
   |some (i,_,_)=>.ite i (pq_ P x Hx u (S.know i true) k) (pq_ P x Hx u (S.know i false) k)
   |none=>match jY_ (as_ S.T x.rd topq) Hx x.o with
    |some (op,args)=>match aE_ S.n args with
     |true=>.lt op args S.n none (k ⟨u S.T (.sym S.n),S.H,Nat.succ S.n,S.lv,S.D⟩)
     |false=>.bad
    |none=>match dc_ (as_ S.T x.rd topq) x.o with
     |some (op,args)=>match ad_ args&&aE_ S.n args with
      |true=>match mv_ P op with
        |none=>.lt op args S.n none (k ⟨u S.T (.sym S.n),S.H,Nat.succ S.n,S.lv,S.D⟩)
        |some m=>.lt op args S.n (some m) (k ⟨u S.T (.agg (ah_ S.n m)),S.H,Nat.add S.n m,S.lv,S.D⟩)
      |false=>.bad
     |none=>.bad
def jL_ (P:Program) (x:SI) (nx:Nat):Option (AV×ABlk):=match x.o.op with
 | .alloc t=>match e7_ P ⟨hnil,nx,Nat.succ nx⟩ t with
   |some p=>match p.2.get nx with
    |some k=>some (p.1,k)
    |none=>none
   |none=>none
 |_=>none
def h7_ (P:Program):List SI->AHeap->Option AHeap
 |[],H=>some H
 |x::r,H=>match cj_ x with
  |false=>h7_ P r H
  |true=>match H.get H.next with
   |some _=>none
   |none=>match H.room with
    |false=>none
    |true=>match jL_ P x H.next with
     |some p=>h7_ P r (H.push p.2)
     |none=>none
def jK_ (bef:Nat) (ids:List Nat):List SI->Nat->Nat->Bool
 |[],_,_=>true
 |y::r,i,nx=>match cj_ y with
  |false=>jK_ bef ids r (Nat.succ i) nx
  |true=>(bit bef i||not (memT nx ids))&&jK_ bef ids r (Nat.succ i) (Nat.succ nx)
def jJ_ (bef:Nat):List SI->Nat->Bool
 |[],_=>true
 |y::r,i=>match cj_ y with
  |false=>jJ_ bef r (Nat.succ i)
  |true=>bit bef i&&jJ_ bef r (Nat.succ i)
def jM_ (l0:List SI):List SI->Bool
 |[]=>true
 |x::r=>match isW x with
  |false=>jM_ l0 r
  |true=>jJ_ x.bef l0 0&&jM_ l0 r
def eL_ (x:SI) (nx:Nat):Nat:=match cj_ x with
 |true=>Nat.succ nx
 |false=>nx
def qk_ (P:Program) (c:VC) (all:List Oper) (l0:List SI) (n0 nx:Nat) (x:SI) (gs:List GW) (ps:List (Nat×List Nat)) (u:Tm->AV->Tm) (next:VS->VT) (S:VS):VT:=match aL_ all x (as_ S.T x.rd topq)with
 |some t=>match t with
  |false=>next ⟨u S.T (.tup []),S.H,S.n,S.lv,S.D⟩
  |true=>match cj_ x with
   |true=>match jL_ P x nx with
    |some p=>next ⟨u S.T p.1,S.H,S.n,S.lv,S.D⟩
    |none=>.bad
   |false=>match isW x with
    |true=>match sL_ x.bef (bY_ x (as_ S.T x.rd topq)) ps with
     |true=>vDW P c x u S next
     |false=>.bad
    |false=>match rq_ x.bef (gd_ x S.T) gs&&jK_ x.bef (gd_ x S.T) l0 0 n0 with
     |true=>match x.fz with
      |true=>u7_ P x u S next
      |false=>rY_ P c x (gK_ x S gs) u S next
     |false=>.bad
 |none=>.bad
def is_ (x:SI) (i:Nat) (S:VS) (gs:List GW):List GW:=match isW x with
 |true=>⟨i,S.H,bY_ x (as_ S.T x.rd topq)⟩::gs
 |false=>gs
def iX_ (x:SI) (i:Nat) (S:VS) (ps:List (Nat×List Nat)):List (Nat×List Nat):=match isW x with
 |true=>ps
 |false=>(i,gd_ x S.T)::ps
def jl_ (P:Program) (N:Nat) (c:VC) (all:List Oper) (l0:List SI) (n0:Nat):List SI->Nat->Nat->List GW->List (Nat×List Nat)->VS->(VS->VT)->VT
 |[],_,_,_,_,S,K=>K S
 |x::r,i,nx,gs,ps,S,K=>match b3_ N x.o.dst with
  | .bad=>.bad
  | .mk u=>match mm_ all x.o S.T with
    |some k=>.ite k (qk_ P c all l0 n0 nx x gs ps u (λS'=>jl_ P N c all l0 n0 r (Nat.succ i) (eL_ x nx) (is_ x i (S.know k true) gs) (iX_ x i (S.know k true) ps) S' K) (S.know k true)) (qk_ P c all l0 n0 nx x gs ps u (λS'=>jl_ P N c all l0 n0 r (Nat.succ i) (eL_ x nx) (is_ x i (S.know k false) gs) (iX_ x i (S.know k false) ps) S' K) (S.know k false))
    |none=>qk_ P c all l0 n0 nx x gs ps u (λS'=>jl_ P N c all l0 n0 r (Nat.succ i) (eL_ x nx) (is_ x i S gs) (iX_ x i S ps) S' K) S
def nf_ (P:Program) (N fuel:Nat) (I:Inl P fuel) (c:VC) (ops:List Oper) (S:VS) (X:VX->VT) (K:VS->VT):VT:=match n5_ ops with
 | .mk l _=>match dn_ l 0 with
   |b=>match lj_ (ep_ b l) 0&&jM_ (ep_ b l) (ep_ b l)with
    |true=>match h7_ P (ep_ b l) S.H with
     |some H=>jl_ P N c ops (ep_ b l) S.H.next (ep_ b l) 0 S.H.next [] [] ⟨S.T,H,S.n,S.lv,S.D⟩ λS=>lC_ P N fuel I c ops X (oy_ b ops) S K
     |none=>.bad
    |false=>.bad
 | .no=>.bad
def isF (c:VC) (o:Oper):Bool:=match o.op with
 | .call cl=>match cl.callee with
   | .value f=>match f with
     | .func g=>match tQ_ c.fs g with
       |some _=>true
       |none=>false
     |_=>false
   |_=>false
 |_=>false
def uQ_ (c:VC):List Oper->Bool
 |[]=>false
 |o::r=>match isF c o with
  |true=>true
  |false=>uQ_ c r
def mO_ (m:Nat):List Edge->Bool
 |[]=>true
 |e::r=>match dz_ e with
  |true=>bit m e.on&&mO_ m r
  |false=>mO_ m r
structure I_q where
 i:Nat
 o:Oper
def iZ_ (m:Nat):List Oper->Nat->List I_q
 |[],_=>[]
 |o::r,i=>match not (bit m i)&&mO_ m o.after.toList with
  |true=>⟨i,o⟩::iZ_ m r (Nat.succ i)
  |false=>iZ_ m r (Nat.succ i)
def mY_ (m i:Nat):Nat:=Nat.lor m (Nat.pow 2 i)
def sr_ (i:Nat):List Edge->Bool
 |[]=>false
 |e::r=>match dz_ e&&Nat.beq e.on i with
  |true=>true
  |false=>sr_ i r
def apartB (all:List Oper) (x y:Oper):Bool:=(match x.dst with
    |some d=>not (memT d (cW_ all y))&&(match y.dst with
     |some e=>not (Nat.beq d e)
     |none=>true)
    |none=>true)&&(match y.dst with
    |some e=>not (memT e (cW_ all x))
    |none=>true)
def oL_ (all:List Oper) (m i:Nat) (x:Oper):List Oper->Nat->Bool
 |[],_=>true
 |y::r,j=>(Nat.beq j i||(bit m j||(sr_ i y.after.toList||apartB all x y)))&&oL_ all m i x r (Nat.succ j)
def mG_:List Oper->Bool
 |[]=>true
 |o::r=>match o.op with
  | .select _ _=>false
  |_=>mG_ r
def oY_ (P:Program) (T:Tm) (o:Oper):Option AV:=match o.guard with
 |some _=>none
 |none=>match o.op with
  | .move x=>some (look T x)
  | .nilCheck x=>match look T x with
    | .ptr id off=>some (.ptr id off)
    |_=>none
  | .fieldAddr s x f=>match look T x with
    | .ptr id off=>bV_ P s (.ptr id off) f
    |_=>none
  | .extract x i=>match look T x with
    | .tup cs=>nY_ i cs
    |_=>none
  |_=>none
structure MV where
 x:I_q
 a:AV
def iV_ (P:Program) (all:List Oper) (m:Nat) (T:Tm):List I_q->Option MV
 |[]=>none
 |x::r=>match oY_ P T x.o with
  |some a=>match oL_ all m x.i x.o all 0 with
   |true=>some ⟨x,a⟩
   |false=>iV_ P all m T r
  |none=>iV_ P all m T r
def qT_:List (Nat×AV)->List (Nat×AV)->Bool
 |[],[]=>true
 |(i,a)::r,(j,b)::s=>Nat.beq i j&&(bF_ a b&&qT_ r s)
 |_,_=>false
def qU_:List (Nat×List AV)->List (Nat×List AV)->Bool
 |[],[]=>true
 |(i,a)::r,(j,b)::s=>Nat.beq i j&&(dH_ a b&&qU_ r s)
 |_,_=>false
def ny_:Option Nat->Option Nat->Bool
 |none,none=>true
 |some a,some b=>Nat.beq a b
 |_,_=>false
def qS_:List (Option Nat)->List (Option Nat)->Bool
 |[],[]=>true
 |a::r,b::s=>ny_ a b&&qS_ r s
 |_,_=>false
def pD_:List (Nat×Nat)->List (Nat×Nat)->Bool
 |[],[]=>true
 |(i,a)::r,(j,b)::s=>Nat.beq i j&&(Nat.beq a b&&pD_ r s)
 |_,_=>false
def l2_:List TA->List TA->Bool
 |[],[]=>true
 |⟨a,b,c,d,e⟩::r,⟨a',b',c',d',e'⟩::s=>Nat.beq a a'&&(Nat.beq b b'&&(Nat.beq c c'&&(Nat.beq d d'&&(ny_ e e'&&l2_ r s))))
 |_,_=>false
def oF_:Tpl->Tpl->Bool
 |⟨a,b,c,d,e,f,g⟩,⟨a',b',c',d',e',f',g'⟩=>qT_ a a'&&(qU_ b b'&&(Nat.beq c c'&&(Nat.beq d d'&&(l2_ e e'&&(pD_ f f'&&pD_ g g')))))
def qP_:List (Bool×Tpl)->List (Bool×Tpl)->Bool
 |[],[]=>true
 |(i,a)::r,(j,b)::s=>i==j&&(oF_ a b&&qP_ r s)
 |_,_=>false
def uO_:FT->FT->Bool
 |⟨a,b,c⟩,⟨a',b',c'⟩=>Nat.beq a a'&&(oF_ b b'&&qP_ c c')
def tO_:XOp->XOp->Bool
 | .bin o t a b,.bin o' t' a' b'=>decide (o=o')&&(Nat.beq t t'&&(a==a'&&b==b'))
 | .un o,.un o'=>decide (o=o')
 | .conv a b,.conv a' b'=>Nat.beq a a'&&Nat.beq b b'
 | .idx a,.idx a'=>Nat.beq a a'
 | .iaddr a,.iaddr a'=>Nat.beq a a'
 | .faddr a b,.faddr a' b'=>Nat.beq a a'&&Nat.beq b b'
 | .load a,.load a'=>Nat.beq a a'
 | .fld a b,.fld a' b'=>Nat.beq a a'&&Nat.beq b b'
 | .slc t a b,.slc t' a' b'=>Nat.beq t t'&&(a==a'&&b==b')
 | .len a,.len a'=>Nat.beq a a'
 | .nilc,.nilc=>true
 | .app a b,.app a' b'=>Nat.beq a a'&&Nat.beq b b'
 | .mm a,.mm a'=>a==a'
 | .ext a,.ext a'=>Nat.beq a a'
 | .inb,.inb=>true
 | .ldx a b c,.ldx a' b' c'=>Nat.beq a a'&&(Nat.beq b b'&&Nat.beq c c')
 | .stx a b c,.stx a' b' c'=>Nat.beq a a'&&(Nat.beq b b'&&Nat.beq c c')
 | .tkx,.tkx=>true
 | .emp,.emp=>true
 | .mkx a b c,.mkx a' b' c'=>Nat.beq a a'&&(Nat.beq b b'&&dH_ c c')
 | .skx,.skx=>true
 | .flat a b c d,.flat a' b' c' d'=>Nat.beq a a'&&(Nat.beq b b'&&(Nat.beq c c'&&Nat.beq d d'))
 | .opn a b,.opn a' b'=>Nat.beq a a'&&Nat.beq b b'
 |_,_=>false
def qN_:Chk->Chk->Bool
 | .same i j,.same i' j'=>Nat.beq i i'&&Nat.beq j j'
 | .nn i,.nn i'=>Nat.beq i i'
 | .pos i,.pos i'=>Nat.beq i i'
 |_,_=>false
mutual
def dL_:VT->VT->Bool
 | .done v,.done w=>bF_ v w
 | .ite i a b,.ite i' a' b'=>Nat.beq i i'&&(dL_ a a'&&dL_ b b')
 | .lt o l n m t,.lt o' l' n' m' t'=>tO_ o o'&&(dH_ l l'&&(Nat.beq n n'&&(ny_ m m'&&dL_ t t')))
 | .call f l n sh t,.call f' l' n' sh' t'=>Nat.beq f f'&&(dH_ l l'&&(Nat.beq n n'&&(qS_ sh sh'&&dL_ t t')))
 | .loop n j hv bs,.loop n' j' hv' bs'=>Nat.beq n n'&&(Nat.beq j j'&&(dH_ hv hv'&&j3_ bs bs'))
 | .again l j hv,.again l' j' hv'=>Nat.beq l l'&&(Nat.beq j j'&&dH_ hv hv')
 | .chk c t,.chk c' t'=>qN_ c c'&&dL_ t t'
 | .callF f ft hv n bs,.callF f' ft' hv' n' bs'=>Nat.beq f f'&&(uO_ ft ft'&&(dH_ hv hv'&&(Nat.beq n n'&&j3_ bs bs')))
 | .both a b,.both a' b'=>dL_ a a'&&dL_ b b'
 |_,_=>false
def j3_:VTs->VTs->Bool
 | .nil,.nil=>true
 | .cons n t r,.cons n' t' r'=>Nat.beq n n'&&(dL_ t t'&&j3_ r r')
 |_,_=>false
end
def nV_ (a b:VT):VT:=match dL_ a b with
 |true=>a
 |false=>.both a b
def or_ (f:I_q->VT) (x:I_q):List I_q->VT
 |[]=>f x
 |y::r=>nV_ (f x) (or_ f y r)
def oj_ (P:Program) (N fuel:Nat) (I:Inl P fuel) (c:VC) (all:List Oper) (X:VX->VT) (K:VS->VT):Nat->Nat->VS->VT
 |0,_,_=>.bad
 |n+1,m,S=>match iZ_ m all 0 with
  |[]=>K S
  |x::r=>match iV_ P all m S.T (x::r)with
   |some q=>match b3_ N q.x.o.dst with
    | .mk u=>oj_ P N fuel I c all X K n (mY_ m q.x.i) ⟨u S.T q.a,S.H,S.n,S.lv,S.D⟩
    | .bad=>.bad
   |none=>or_ (λx=>lC_ P N fuel I c all X [x.o] S λS'=>oj_ P N fuel I c all X K n (mY_ m x.i) S') x r
def ew_:List Oper->Tm->Tm
 |[],T=>T
 |o::r,T=>match o.dst with
  |some d=>ew_ r (dY_ T d .opq)
  |none=>ew_ r T
def jT_ (ops:List Oper) (X:VX->VT) (r:VX):VT:=match r with
 | .pan v S=>X (.pan v ⟨ew_ ops S.T,S.H,S.n,S.lv,S.D⟩)
 | .exit i S=>X (.exit i S)
 | .ret S=>X (.ret S)
def ss_ (N:Nat):List Oper->Bool
 |[]=>true
 |o::r=>(match o.dst with
  |some d=>Nat.blt d N
  |none=>true)&&ss_ N r
def ti_ (c:VC):Nat->List SI->Bool
 |0,_=>false
 |_+1,[]=>false
 |n+1,x::r=>match isF c x.o with
  |true=>true
  |false=>ti_ c n r
def vw_ (c:VC) (ops:List Oper):Bool:=match n5_ ops with
 | .mk l _=>ti_ c (dn_ l 0) l
 | .no=>true
def pp_ (P:Program) (N fuel:Nat) (I:Inl P fuel) (c:VC) (ops:List Oper) (S:VS) (X:VX->VT) (K:VS->VT):VT:=match mG_ ops&&(ss_ N ops&&Nat.ble N 512)with
 |true=>oj_ P N fuel I c ops (jT_ ops X) K (Nat.succ (lenOp ops)) 0 S
 |false=>.bad
where
 lenOp:List Oper->Nat
 |[]=>0
 |_::r=>Nat.succ (lenOp r)
def vA_ (ops:List Oper):Bool:=match n5_ ops with
 | .mk l _=>match dn_ l 0 with
   |b=>lj_ (ep_ b l) 0&&jM_ (ep_ b l) (ep_ b l)
 | .no=>true
def qf_ (T:Tm):List Oper->Nat->AV
 |[],_=>.opq
 |o::r,t=>match o.op with
  | .move x=>match o.dst with
    |some d=>match Nat.beq d t with
     |true=>look T x
     |false=>qf_ T r t
    |none=>qf_ T r t
  |_=>qf_ T r t
def u0_ (own:Bool) (T:Tm) (all:List Oper) (x i:Operand):List AV:=match x with
 | .tmp b=>match qf_ T all b with
   | .slx id z k=>match own with
     |true=>[]
     |false=>[.slx id z k]
   | .sl id off len z cap=>match i with
     | .tmp j=>match qf_ T all j with
       | .sym _=>[.sl id off len z cap]
       |_=>[]
     |_=>[]
   |_=>[]
 |_=>[]
def pd_ (T:Tm) (all:List Oper):List (Nat×Operand)->List AV
 |[]=>[]
 |(_,x)::r=>match x with
  | .tmp t=>match qf_ T all t with
    | .slx id z k=>.slx id z k::pd_ T all r
    |_=>pd_ T all r
  |_=>pd_ T all r
def i3_ (own:Bool) (T:Tm) (all:List Oper):List Oper->List AV
 |[]=>[]
 |o::r=>match o.op with
  | .indexAddr _ x i=>jt_ (u0_ own T all x i) (i3_ own T all r)
  | .buildSlice _ _ ps=>match own with
    |true=>i3_ own T all r
    |false=>jt_ (pd_ T all ps.toList) (i3_ own T all r)
  |_=>i3_ own T all r
def jB_ (own:Bool) (l:List Oper) (S:VS):VS:=match i3_ own S.T l l with
 |[]=>S
 |a=>dE_ S a
def pt_ (b:VS->(VS->VT)->VT):Nat->VS->VT
 |0,_=>.bad
 |n+1,S=>b S λS'=>pt_ b n S'
def oi_ (n k lvl:Nat) (tps:List Tpl) (S:VS):VT:=match dT_ n k tps 0 S with
 |some r=>i7_ r.l (qE_ r.m.nn (.again lvl r.j r.m.hv))
 |none=>.bad
def lz_ (b:VS->(VS->VT)->VT) (n k lvl:Nat) (tps:List Tpl):List Tpl->VTs
 |[]=>.nil
 |tp::r=>.cons tp.nv (b (tp.inst n (Nat.succ lvl)) (oi_ n k lvl tps)) (lz_ b n k lvl tps r)
def ur_ (k:Nat) (b:VS->(VS->VT)->VT) (tps:List Tpl) (S:VS):VT:=match dT_ S.n k tps 0 S with
 |some r=>i7_ r.l (qE_ r.m.nn (.loop S.n r.j r.m.hv (lz_ b S.n k S.lv tps tps)))
 |none=>.bad
def uk_ (id:Nat) (K:VS->VT) (X:VX->VT) (r:VX):VT:=match r with
 | .exit id' S=>match Nat.beq id' id with
   |true=>K S
   |false=>X r
 | .ret _=>X r
 | .pan _ _=>X r
mutual
def mK_ (id sz i len:Nat):AV->AV
 | .slx id' z j=>match Nat.beq id id'&&(Nat.beq sz z&&Nat.beq i j)with
   |true=>.sl id 0 len sz none
   |false=>.slx id' z j
 | .agg cs=>.agg (hG_ id sz i len cs)
 | .tup cs=>.tup (hG_ id sz i len cs)
 |a=>a
def hG_ (id sz i len:Nat):List AV->List AV
 |[]=>[]
 |a::r=>mK_ id sz i len a::hG_ id sz i len r
end
def p8_ (id sz i len:Nat) (H:AHeap):List Nat->AHeap
 |[]=>H
 |q::r=>match (p8_ id sz i len H r).get q with
  |some (.cells cs)=>(p8_ id sz i len H r).set q (.cells (hG_ id sz i len cs))
  |_=>p8_ id sz i len H r
def jq_ (t:TA) (i:Nat) (S:VS):VS:=⟨bj_ (mK_ t.id t.sz i t.j) S.T,p8_ t.id t.sz i t.j (S.H.set t.id (.cells (ah_ S.n (Nat.mul t.j t.sz)))) [0,1,2,3],Nat.add S.n (Nat.mul t.j t.sz),S.lv,S.D⟩
def ni_:List TA->VS->(VS->VT)->VT
 |[],S,k=>k S
 |t::r,S,k=>match S.H.get t.id with
  |some (.syl i)=>.lt (.opn t.j t.sz) [.sym i] S.n (some (Nat.mul t.j t.sz)) (ni_ r (jq_ t i S) k)
  |_=>ni_ r S k
def mj_ (t o:Nat) (S:VS):VS:=match tget S.T t with
 | .ptr id b=>match S.H.get id with
   |some (.cells cs)=>match nY_ (Nat.add b o) cs with
    |some a=>tF_ S [a] id
    |none=>S
   |_=>S
 |a=>dE_ S [a]
def mk_ (S:VS):List (Nat×Nat)->VS
 |[]=>S
 |(t,o)::r=>mk_ (mj_ t o S) r
def up_ (c:VC) (rid:Nat) (ops:List Oper) (S:VS) (k:VS->VT):VT:=match ops with
 |[]=>k S
 |_::_=>match la_ c.hs (Nat.add 10000 rid)with
  |some (tp::_)=>ni_ tp.acc (mk_ S tp.fix) k
  |_=>k S
def r8_ (P:Program) (N fuel:Nat) (I:Inl P fuel) (c:VC) (ops:Array Oper) (draw:Bool) (S:VS) (K:VS->VT) (X:VX->VT):VT:=match draw with
 |false=>lC_ P N fuel I c ops.toList X ops.toList S K
 |true=>match j1_ P (a9_ P fuel) N ops.toList S.T S.H S.D with
  |some r=>match r with
   | .norm T H D=>K ⟨T,H,S.n,S.lv,D⟩
   |_=>.bad
  |none=>match uQ_ c ops.toList with
   |false=>match vA_ ops.toList with
    |true=>nf_ P N fuel I c ops.toList (jB_ c.own ops.toList S) X K
    |false=>pp_ P N fuel I c ops.toList S X K
   |true=>match vw_ c ops.toList with
    |true=>pp_ P N fuel I c ops.toList S X K
    |false=>nf_ P N fuel I c ops.toList (jB_ c.own ops.toList S) X K
def cl_ (P:Program) (N fuel:Nat) (I:Inl P fuel) (c:VC):Nat->Code->VS->(VS->VT)->(VX->VT)->VT
 |_,.skip,S,K,X=>K S
 |_,.label _,S,K,X=>K S
 |_,.region rid ops draw,S,K,X=>up_ c rid ops.toList S λS=>r8_ P N fuel I c ops draw S K X
 |bid,.seq a b,S,K,X=>cl_ P N fuel I c bid a S (λS=>cl_ P N fuel I c bid b S K X) X
 |bid,.cond cd a b,S,K,X=>match look S.T cd with
  | .bool t=>match t with
    |true=>cl_ P N fuel I c bid a S K X
    |false=>cl_ P N fuel I c bid b S K X
  |_=>match jf_ S.T cd with
   |some i=>.ite i (cl_ P N fuel I c bid a (S.know i true) K X) (cl_ P N fuel I c bid b (S.know i false) K X)
   |none=>.bad
 |_,.block id b,S,K,X=>cl_ P N fuel I c id b S K (uk_ id K X)
 |bid,.loop b,S,K,X=>match la_ c.hs bid with
  |some tps=>ur_ c.k (λS K=>cl_ P N fuel I c bid b S K X) tps S
  |none=>pt_ (λS K=>cl_ P N fuel I c bid b S K X) fuel S
 |_,.exit id,S,K,X=>X (.exit id S)
 |_,.ret,S,K,X=>X (.ret S)
 |_,_,_,_,_=>.bad
def r0_ (Q:Option (AV×AHeap)):VT:=match Q with
 |some (a,H)=>match eS_ 100 H a with
  |some v=>match ae_ v with
   |true=>.done v
   |false=>.bad
  |none=>.bad
 |none=>.bad
def nI_:List Oper->Bool
 |[]=>false
 |o::r=>match o.op with
  | .call c=>match c.callee with
    | .builtin .recover=>true
    |_=>nI_ r
  |_=>nI_ r
def vz_ (u:Option AV) (ops:List Oper):Bool:=match u with
 |some _=>true
 |none=>nI_ ops
def do_ (P:Program) (N fuel:Nat) (I:Inl P fuel) (c:VC):Code->VS->Option AV->(VS->Option AV->VT)->(VS->Option AV->VT)->VT
 | .skip,S,u,K,R=>K S u
 | .region rid ops draw,S,u,K,R=>match vz_ u ops.toList with
   |true=>match draw with
    |true=>.bad
    |false=>match jE_ P (a9_ P fuel) N ops.toList ops.toList S.T S.H u with
     |some r=>match r with
      | .norm T H u'=>K ⟨T,H,S.n,S.lv,[]⟩ u'
      | .ret _ _ _=>.bad
     |none=>.bad
   |false=>r8_ P N fuel I c ops draw S (λS=>match S.D with
    |[]=>K S none
    |_::_=>.bad) (λ_=>.bad)
 | .seq a b,S,u,K,R=>do_ P N fuel I c a S u (λS u=>do_ P N fuel I c b S u K R) R
 | .cond cd a b,S,u,K,R=>match look S.T cd with
   | .bool t=>match t with
     |true=>do_ P N fuel I c a S u K R
     |false=>do_ P N fuel I c b S u K R
   |_=>match jf_ S.T cd with
    |some i=>.ite i (do_ P N fuel I c a (S.know i true) u K R) (do_ P N fuel I c b (S.know i false) u K R)
    |none=>.bad
 | .block _ b,S,u,K,R=>do_ P N fuel I c b S u K R
 | .ret,S,u,K,R=>R S u
 |_,_,_,_,_=>.bad
def ek_ (P:Program) (fuel:Nat) (I:Inl P fuel) (c:VC) (rs:List ResultVar) (fin:FRes->Nat->Nat->VT):Dfs->Tm->AHeap->Nat->Nat->Option AV->VT
 |[],T,H,n,lv,u=>match db_ P (a9_ P fuel) fuel rs T [] H u with
  |some r=>fin r n lv
  |none=>.bad
 |(f,args)::D,T,H,n,lv,u=>match P.funcs[f]? with
  |some fn=>match fn.body with
   |some cd=>match Nat.ble (a0_ args) fn.ntmps&&(Nat.ble fn.ntmps 512&&(ms_ H.next n D&&Nat.ble c.k H.next))with
    |true=>match (λ(S:VS) (u:Option AV)=>match en_ P S.T S.H fn.results.toList with
       |some _=>ek_ P fuel I c rs fin D (bj_ (bP_ H.next n) T) S.H S.n S.lv u
       |none=>.bad)with
     |K=>do_ P fn.ntmps fuel I ⟨c.fc,c.cs,[],H.next,c.own,c.fs⟩ cd ⟨aY_ args 0 tnil,H,n,lv,[]⟩ u K K
    |false=>.bad
   |none=>.bad
  |none=>.bad
def jn_ (P:Program) (fuel:Nat) (I:Inl P fuel) (c:VC) (rs:List ResultVar) (fin:FRes->Nat->Nat->VT) (u:Option AV) (S:VS):VT:=match db_ P (a9_ P fuel) fuel rs S.T S.D S.H u with
 |some r=>fin r S.n S.lv
 |none=>ek_ P fuel I c rs fin S.D S.T S.H S.n S.lv u
def rZ_ (r:FRes) (_ _:Nat):VT:=match r with
 | .ret a H=>r0_ (some (a,H))
 | .pan _ _=>.bad
def pr_ (P:Program) (fuel:Nat) (I:Inl P fuel) (c:VC) (rs:List ResultVar) (u:Option AV) (S:VS):VT:=jn_ P fuel I c rs rZ_ u S
def vJ_ (P:Program) (fuel:Nat) (I:Inl P fuel) (c:VC) (rs:List ResultVar) (r:VX):VT:=match r with
 | .ret S=>pr_ P fuel I c rs none S
 | .pan v S=>pr_ P fuel I c rs (some v) S
 | .exit _ _=>.bad
def ql_ (n k:Nat) (b:Bool) (S:VS):List (Bool×Tpl)->Nat->VT
 |[],_=>.bad
 |(b',tp)::r,j=>match b==b' with
  |false=>ql_ n k b S r (Nat.succ j)
  |true=>match dh_ tp S with
   |f=>match gT_ n k tp f.S with
    |some m=>i7_ f.l (qE_ m.nn (.done (.tup (.int .i64 (.ofNat j)::m.hv))))
    |none=>ql_ n k b S r (Nat.succ j)
def s7_ (ft:FT) (r:FRes) (n lv:Nat):VT:=match r with
 | .ret a H=>ql_ (Nat.add 64 ft.ent.nv) ft.k false ⟨dY_ topq 0 a,H,n,lv,[]⟩ ft.exs 0
 | .pan a H=>ql_ (Nat.add 64 ft.ent.nv) ft.k true ⟨dY_ topq 0 a,H,n,lv,[]⟩ ft.exs 0
def hb_ (P:Program) (fuel:Nat) (I:Inl P fuel) (c:VC) (rs:List ResultVar) (ft:FT) (u:Option AV) (S:VS):VT:=jn_ P fuel I c rs (s7_ ft) u S
def tG_ (P:Program) (fuel:Nat) (I:Inl P fuel) (c:VC) (rs:List ResultVar) (ft:FT) (r:VX):VT:=match r with
 | .ret S=>hb_ P fuel I c rs ft none S
 | .pan v S=>hb_ P fuel I c rs ft (some v) S
 | .exit _ _=>.bad
def r3_ (P:Program) (fuel:Nat) (I:Inl P fuel) (c:VC) (f:FuncId) (ft:FT):VT:=match P.funcs[f]? with
 |some fn=>match fn.body with
  |some cd=>match Nat.ble (a0_ (cm_ ft.ent.slots)) fn.ntmps&&(Nat.ble fn.ntmps 512&&Nat.beq c.k ft.k)with
   |true=>cl_ P fn.ntmps fuel I c 0 cd ⟨aY_ (bq_ 64 (cm_ ft.ent.slots)) 0 tnil,ft.ent.heap 64,Nat.add 64 ft.ent.nv,0,[]⟩ (hb_ P fuel I c fn.results.toList ft none) (tG_ P fuel I c fn.results.toList ft)
   |false=>.bad
  |none=>.bad
 |none=>.bad
def ul_ (P:Program) (fuel:Nat) (I:Inl P fuel) (c:VC) (f:FuncId) (args:List AV) (n:Nat):VT:=match P.funcs[f]? with
 |some fn=>match fn.body with
  |some cd=>match Nat.ble (a0_ args) fn.ntmps&&Nat.ble fn.ntmps 512 with
   |true=>cl_ P fn.ntmps fuel I c 0 cd ⟨aY_ args 0 tnil,H0,n,0,[]⟩ (pr_ P fuel I c fn.results.toList none) (vJ_ P fuel I c fn.results.toList)
   |false=>.bad
  |none=>.bad
 |none=>.bad
def u9_ (ret pan:AV->AHeap->Nat->Nat->VT) (r:FRes) (n lv:Nat):VT:=match r with
 | .ret a H=>ret a H n lv
 | .pan a H=>pan a H n lv
def ps_ (P:Program) (fuel:Nat) (I:Inl P fuel) (c:VC) (rs:List ResultVar) (ret pan:AV->AHeap->Nat->Nat->VT) (u:Option AV) (S:VS):VT:=jn_ P fuel I c rs (u9_ ret pan) u S
def va_ (P:Program) (fuel:Nat) (I:Inl P fuel) (c:VC) (rs:List ResultVar) (ret pan:AV->AHeap->Nat->Nat->VT) (r:VX):VT:=match r with
 | .exit _ _=>.bad
 | .ret S=>ps_ P fuel I c rs ret pan none S
 | .pan v S=>ps_ P fuel I c rs ret pan (some v) S
def un_ (P:Program) (fuel:Nat) (I:Inl P fuel) (c:VC) (g:FuncId) (args:List AV) (H:AHeap) (n lv:Nat) (ret pan:AV->AHeap->Nat->Nat->VT):VT:=match P.funcs[g]? with
 |some fn=>match fn.body with
  |some cd=>match Nat.ble (a0_ args) fn.ntmps&&Nat.ble fn.ntmps 512 with
   |true=>cl_ P fn.ntmps fuel I ⟨c.fc,c.cs,[],H.next,c.own,c.fs⟩ 0 cd ⟨aY_ args 0 tnil,H,n,lv,[]⟩ (ps_ P fuel I ⟨c.fc,c.cs,[],H.next,c.own,c.fs⟩ fn.results.toList ret pan none) (va_ P fuel I ⟨c.fc,c.cs,[],H.next,c.own,c.fs⟩ fn.results.toList ret pan)
   |false=>.bad
  |none=>.bad
 |none=>.bad
end
end Go.Sx
