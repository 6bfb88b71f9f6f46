/-
  The evaluator with symbols, with loops by templates and calls by what is known of them.
-/
import Derived.Test.YtelnbodnjmldeaaGreatSyX
set_option linter.unusedVariables false
set_option linter.unusedSimpArgs false
namespace Go.Sx
structure TA where
 id:Nat
 sz:Nat
 j:Nat
 loc:Nat
 off:Option Nat
structure Tpl where
 slots:List (Nat×AV)
 rows:List (Nat×List AV)
 next:Nat
 nv:Nat
 acc:List TA:=[]
 maps:List (Nat×Nat):=[]
 fix:List (Nat×Nat):=[]
abbrev tv_:=List (Nat×List Tpl)
structure FT where
 k:Nat
 ent:Tpl
 exs:List (Bool×Tpl)
inductive Chk where
 |same (i j:Nat)
 |nn (i:Nat)
 |pos (i:Nat)
mutual
inductive VT where
 |bad
 |done (v:AV)
 |ite (i:Nat) (a b:VT)
 |lt (op:XOp) (args:List AV) (n:Nat) (m:Option Nat) (t:VT)
 |call (f:FuncId) (args:List AV) (n:Nat) (sh:List (Option Nat)) (t:VT)
 |loop (n j:Nat) (hv:List AV) (bs:VTs)
 |again (lvl j:Nat) (hv:List AV)
 |chk (c:Chk) (t:VT)
 |callF (f:FuncId) (ft:FT) (hv:List AV) (n:Nat) (bs:VTs)
 |both (a b:VT)
inductive VTs where
 |nil
 |cons (nv:Nat) (t:VT) (r:VTs)
end
def flat:List (Option Nat)->List AV->Option (List AV)
 |[],[]=>some []
 |none::s,a::r=>match flat s r with
  |some l=>some (a::l)
  |none=>none
 |some m::s,.agg cs::r=>match decide (cs.length=m)with
  |true=>match flat s r with
   |some l=>some (cs++l)
   |none=>none
  |false=>none
 |_,_=>none
def hw_ (sh:List (Option Nat)) (v:AV):Option (List AV):=match sh with
 |[s]=>flat [s] [v]
 |sh=>match v with
  | .tup l=>flat sh l
  |_=>none
def b0_:Nat->List (Option Nat)->List AV
 |_,[]=>[]
 |n,none::s=>.sym n::b0_ (Nat.succ n) s
 |n,some m::s=>.agg (ak_ n m)::b0_ (Nat.add n m) s
def di_ (n:Nat) (sh:List (Option Nat)):AV:=match sh with
 |[s]=>match b0_ n [s]with
  |a::_=>a
  |[]=>.tup []
 |sh=>.tup (b0_ n sh)
def du_:List (Option Nat)->Nat
 |[]=>0
 |none::s=>Nat.succ (du_ s)
 |some m::s=>Nat.add m (du_ s)
mutual
def bE_ (n:Nat):AV->AV
 | .slx j z i=>match z with
   |0=>.sym (Nat.add n j)
   |z+1=>.slx j (z+1) (Nat.add n i)
 | .ptx id j sz _=>.slx id sz j
 | .vptr cs=>.vptr (bs_ n cs)
 | .vsl a z cs=>.vsl a z (bs_ n cs)
 | .fn f cs=>.fn f (bs_ n cs)
 | .iface t a=>.iface t (bE_ n a)
 | .agg cs=>.agg (bs_ n cs)
 | .tup cs=>.tup (bs_ n cs)
 |a=>a
def bs_ (n:Nat):List AV->List AV
 |[]=>[]
 |a::r=>bE_ n a::bs_ n r
end
def cH_ (n:Nat):List (Nat×AV)->Tm
 |[]=>topq
 |(t,a)::r=>dB_ (cH_ n r) t (bE_ n a)
def iI_ (n next:Nat):List (Nat×List AV)->AHeap
 |[]=>⟨hnil,next,top⟩
 |(id,cs)::r=>(iI_ n next r).set id (.cells (bs_ n cs))
def hz_ (n:Nat) (H:AHeap):List TA->AHeap
 |[]=>H
 |t::r=>(hz_ n H r).set t.id (.syl (Nat.add n t.j))
def ki_ (n:Nat) (H:AHeap):List (Nat×Nat)->AHeap
 |[]=>H
 |(id,j)::r=>(ki_ n H r).set id (.mpl (Nat.add n j))
def lS_:Nat:=1500
def hy_ (i:Nat):Nat:=Nat.div (Nat.sub i lS_) 16
def zF (i:Nat):Nat:=Nat.mod (Nat.sub i lS_) 16
def jP_ (n i:Nat):Nat:=match Nat.blt i lS_ with
 |true=>i
 |false=>Nat.add n (hy_ i)
def kh_ (n:Nat) (H:AHeap):List (Nat×Nat)->AHeap
 |[]=>H
 |(id,i)::r=>(kh_ n H r).set id (.syl (jP_ n i))
def pY_:List (Nat×Nat)->List Nat->List Nat
 |[],acc=>acc
 |(id,_)::r,acc=>id::pY_ r acc
def o1_ (H:AHeap) (id:Nat):Option AV:=match H.get id with
 |some (.map es _)=>match ad_ (aL_ es)&&fN_ es with
  |true=>some (.vsl (mw_ es) 2 (aL_ es))
  |false=>none
 |some (.mpl i)=>some (.sym i)
 |_=>none
def mt_:List (Nat×List AV)->List Nat
 |[]=>[]
 |(id,_)::r=>id::mt_ r
mutual
def tZ_:AV->AV->List (Nat×AV)->List (Nat×AV)
 | .slx j z _,a,acc=>match z with
   |0=>(j,a)::acc
   |_+1=>acc
 | .agg ts,.agg cs,acc=>nB_ ts cs acc
 | .tup ts,.tup cs,acc=>nB_ ts cs acc
 | .vptr ts,.vptr cs,acc=>nB_ ts cs acc
 | .vsl _ _ ts,.vsl _ _ cs,acc=>nB_ ts cs acc
 | .fn _ ts,.fn _ cs,acc=>nB_ ts cs acc
 | .iface _ t,.iface _ a,acc=>tZ_ t a acc
 |_,_,acc=>acc
def nB_:List AV->List AV->List (Nat×AV)->List (Nat×AV)
 |t::ts,a::r,acc=>tZ_ t a (nB_ ts r acc)
 |_,_,acc=>acc
end
def tE_:List (Nat×AV)->Nat->Option AV
 |[],_=>none
 |(i,a)::r,j=>match Nat.beq i j with
  |true=>some a
  |false=>tE_ r j
def oQ_ (acc:List (Nat×AV)):Nat->Nat->Option (List AV)
 |_,0=>some []
 |j,m+1=>match tE_ acc j with
  |some a=>match oQ_ acc (Nat.succ j) m with
   |some l=>some (a::l)
   |none=>none
  |none=>none
structure DA where
 id:Nat
 sz:Nat
 j:Nat
 x:AV
 act:Option Nat
def hj_ (H:AHeap) (sz:Nat) (a:AV):Option (AV×Option Nat):=match a with
 | .nsl=>some (.nsl,none)
 | .slx id sz' i=>match H.get id with
   |some (.syl k)=>match Nat.beq k i&&Nat.beq sz' sz with
    |true=>some (.sym i,some id)
    |false=>none
   |_=>none
 | .sl id off len sz' _=>match H.get id with
   |some (.cells cs)=>match aZ_ (Nat.mul len sz) cs with
    |some cs=>match Nat.beq off 0&&(Nat.beq sz' sz&&(Nat.blt 0 len&&(Nat.beq (aK_ cs) (Nat.mul len sz)&&(ad_ cs&&bb_ cs))))with
     |true=>some (.vsl len sz cs,some id)
     |false=>none
    |none=>none
   |_=>none
 |_=>none
def mN_:Nat->List AV->Option AV
 |_,[]=>none
 |0,a::_=>some a
 |n+1,_::r=>mN_ n r
def az_:List (Nat×Nat)->Nat->Option Nat
 |[],_=>none
 |(a,t)::r,i=>match Nat.beq a i with
  |true=>some t
  |false=>az_ r i
def ko_ (T:Tm) (H:AHeap) (rn:List (Nat×Nat)) (t:TA):Option AV:=match t.off with
 |none=>some (tget T t.loc)
 |some o=>match az_ rn t.loc with
  |some a=>match H.get a with
   |some (.cells cs)=>mN_ o cs
   |_=>none
  |none=>match tget T (Nat.sub t.loc 600)with
   | .tup cs=>mN_ o cs
   | .agg cs=>mN_ o cs
   |_=>none
def pA_ (T:Tm) (H:AHeap) (rn:List (Nat×Nat)):List TA->Option (List DA)
 |[]=>some []
 |t::r=>match ko_ T H rn t with
  |some a=>match hj_ H t.sz a with
   |some (x,act)=>match pA_ T H rn r with
    |some l=>some (⟨t.id,t.sz,t.j,x,act⟩::l)
    |none=>none
   |none=>none
  |none=>none
def aE_:List DA->Nat->Option DA
 |[],_=>none
 |d::r,id=>match Nat.beq d.id id with
  |true=>some d
  |false=>aE_ r id
def jO_:Option Nat->Option Nat->Bool
 |none,none=>true
 |some a,some b=>Nat.beq a b
 |_,_=>false
mutual
def mA (H:AHeap) (ds:List DA) (rn:List (Nat×Nat)) (hv:List AV) (n:Nat):AV->AV->Bool
 | .opq,_=>true
 | .sym i,a=>Nat.blt i n&&bP_ (.sym i) a
 | .ptr id off,a=>match a with
   | .ptr id' off'=>jO_ (az_ rn id) (some id')&&Nat.beq off off'
   |_=>false
 | .sl id off len sz cap,a=>match a with
   | .sl id' off' len' sz' cap'=>jO_ (az_ rn id) (some id')&&(Nat.beq off off'&&(Nat.beq len len'&&(Nat.beq sz sz'&&(cap.isNone||cap==cap'))))
   |_=>false
 | .agg ts,a=>match a with
   | .agg cs=>mL H ds rn hv n ts cs
   |_=>false
 | .tup ts,a=>match a with
   | .tup cs=>mL H ds rn hv n ts cs
   |_=>false
 | .vptr ts,a=>match a with
   | .vptr cs=>mL H ds rn hv n ts cs
   |_=>false
 | .vsl len sz ts,a=>match a with
   | .vsl len' sz' cs=>Nat.beq len len'&&(Nat.beq sz sz'&&mL H ds rn hv n ts cs)
   |_=>false
 | .fn f ts,a=>match a with
   | .fn g cs=>Nat.beq f g&&mL H ds rn hv n ts cs
   |_=>false
 | .iface t x,a=>match a with
   | .iface u y=>Nat.beq t u&&mA H ds rn hv n x y
   |_=>false
 | .slx j z i,a=>match z with
   |0=>match cs_ j hv with
    |some x=>bP_ x a
    |none=>false
   |z+1=>match aE_ ds j with
    |some d=>match hj_ H (Nat.succ z) a with
     |some (x,act)=>Nat.beq d.sz (Nat.succ z)&&(Nat.beq d.j i&&(bP_ d.x x&&jO_ d.act act))
     |none=>false
    |none=>false
 | .ptx id i sz _,a=>match a with
   | .slx id' sz' i'=>jO_ (az_ rn id) (some id')&&(Nat.beq sz sz'&&(Nat.beq i i'&&Nat.blt i n))
   |_=>false
 | .map id,a=>match a with
   | .map id'=>jO_ (az_ rn id) (some id')
   |_=>false
 |t,a=>bP_ t a
def mL (H:AHeap) (ds:List DA) (rn:List (Nat×Nat)) (hv:List AV) (n:Nat):List AV->List AV->Bool
 |[],[]=>true
 |t::ts,a::r=>mA H ds rn hv n t a&&mL H ds rn hv n ts r
 |_,_=>false
end
mutual
def eW_ (n:Nat):AV->Bool
 | .sym i=>Nat.blt i n
 | .vptr cs=>aF_ n cs
 | .vsl _ _ cs=>aF_ n cs
 | .fn _ cs=>aF_ n cs
 | .iface _ a=>eW_ n a
 | .agg cs=>aF_ n cs
 | .tup cs=>aF_ n cs
 |_=>true
def aF_ (n:Nat):List AV->Bool
 |[]=>true
 |a::r=>eW_ n a&&aF_ n r
end
structure VS where
 T:Tm
 H:AHeap
 n:Nat
 lv:Nat
 D:Dfs
inductive VX where
 |exit (id:Nat) (S:VS)
 |ret (S:VS)
 |pan (v:AV) (S:VS)
def VS.x (S:VS):XS:=⟨S.T,S.H,S.n⟩
def VS.know (S:VS) (i:Nat) (b:Bool):VS:=⟨bj_ (hf_ i b) S.T,S.H,S.n,S.lv,S.D⟩
def u4_ (T:Tm):List (Nat×AV)->List (Nat×AV)->List (Nat×AV)
 |[],acc=>acc
 |(t,a)::r,acc=>tZ_ a (tget T t) (u4_ T r acc)
def u3_ (H:AHeap) (rn:List (Nat×Nat)):List (Nat×List AV)->List (Nat×AV)->List (Nat×AV)
 |[],acc=>acc
 |(id,cs)::r,acc=>match az_ rn id with
  |some a=>match H.get a with
   |some (.cells l)=>nB_ cs l (u3_ H rn r acc)
   |_=>acc
  |none=>acc
def u0_:List DA->List (Nat×AV)->List (Nat×AV)
 |[],acc=>acc
 |d::r,acc=>(d.j,d.x)::u0_ r acc
def mT (H:AHeap) (ds:List DA) (rn:List (Nat×Nat)) (hv:List AV) (n:Nat) (T:Tm):List (Nat×AV)->Bool
 |[]=>true
 |(t,a)::r=>Nat.blt t 512&&(mA H ds rn hv n a (tget T t)&&mT H ds rn hv n T r)
def qy_ (id a:Nat) (rn:List (Nat×Nat)):List (Nat×Nat):=match az_ rn id with
 |none=>(id,a)::rn
 |some _=>rn
mutual
def qU_:AV->AV->List (Nat×Nat)->List (Nat×Nat)
 | .ptr id _,.ptr id' _,rn=>qy_ id id' rn
 | .sl id _ _ _ _,.sl id' _ _ _ _,rn=>qy_ id id' rn
 | .ptx id _ _ _,.slx id' _ _,rn=>qy_ id id' rn
 | .map id,.map id',rn=>qy_ id id' rn
 | .agg ts,.agg cs,rn=>lZ_ ts cs rn
 | .tup ts,.tup cs,rn=>lZ_ ts cs rn
 | .iface _ t,.iface _ a,rn=>qU_ t a rn
 |_,_,rn=>rn
def lZ_:List AV->List AV->List (Nat×Nat)->List (Nat×Nat)
 |t::ts,a::r,rn=>lZ_ ts r (qU_ t a rn)
 |_,_,rn=>rn
end
def tB_ (T:Tm):List (Nat×AV)->List (Nat×Nat)->List (Nat×Nat)
 |[],rn=>rn
 |(t,a)::r,rn=>tB_ T r (qU_ a (tget T t) rn)
def lY_ (H:AHeap):List (Nat×List AV)->List (Nat×Nat)->List (Nat×Nat)
 |[],rn=>rn
 |(id,cs)::r,rn=>match az_ rn id with
  |some a=>match H.get a with
   |some (.cells l)=>lY_ H r (lZ_ cs l rn)
   |_=>lY_ H r rn
  |none=>match H.get id with
   |some (.cells l)=>lY_ H r (lZ_ cs l ((id,id)::rn))
   |_=>lY_ H r rn
def rK_:List (Nat×Nat)->List (Nat×Nat)->List (Nat×Nat)
 |[],rn=>rn
 |(id,_)::r,rn=>rK_ r (qy_ id id rn)
def rd_ (ids:List Nat):List (Nat×Nat)->List (Nat×Nat)
 |[]=>[]
 |(id,a)::r=>match memT id ids with
  |true=>(id,a)::rd_ ids r
  |false=>rd_ ids r
def Tpl.ids (tp:Tpl):List Nat:=pY_ tp.fix (pY_ tp.maps (mt_ tp.rows))
def um_ (tp:Tpl) (T:Tm) (H:AHeap):List (Nat×Nat):=rd_ tp.ids (rK_ tp.fix (rK_ tp.maps (lY_ H tp.rows (tB_ T tp.slots []))))
def t6_:List (Nat×Nat)->List (Nat×Nat)->List (Nat×Nat)
 |[],acc=>acc
 |(id,a)::r,acc=>(a,id)::t6_ r acc
def rc_:List DA->List (Nat×Nat)->List (Nat×Nat)
 |[],acc=>acc
 |d::r,acc=>match d.act with
  |some i=>(i,d.id)::rc_ r acc
  |none=>rc_ r acc
def mN (ds:List DA) (inv:List (Nat×Nat)) (next:Nat):List (Nat×Nat)->Bool
 |[]=>true
 |(id,a)::r=>Nat.blt id next&&(Nat.blt id top&&(jO_ (az_ inv a) (some id)&&((aE_ ds id).isNone&&mN ds inv next r)))
def mH (ds:List DA) (rn:List (Nat×Nat)) (hv:List AV) (n:Nat) (H:AHeap):List (Nat×List AV)->Bool
 |[]=>true
 |(id,cs)::r=>(match az_ rn id with
  |some a=>match H.get a with
   |some (.cells l)=>mL H ds rn hv n cs l
   |_=>false
  |none=>false)&&mH ds rn hv n H r
def mD (inv:List (Nat×Nat)) (hv:List AV) (next:Nat):List DA->Bool
 |[]=>true
 |d::r=>Nat.blt d.id next&&(Nat.blt d.id top&&((match cs_ d.j hv with
  |some y=>bP_ y d.x
  |none=>false)&&((match d.act with
  |some i=>jO_ (az_ inv i) (some d.id)
  |none=>true)&&mD inv hv next r)))
def vc_ (H:AHeap) (rn:List (Nat×Nat)):List (Nat×Nat)->List (Nat×AV)->Option (List (Nat×AV))
 |[],acc=>some acc
 |(id,j)::r,acc=>match az_ rn id with
  |some a=>match o1_ H a with
   |some x=>match vc_ H rn r acc with
    |some l=>some ((j,x)::l)
    |none=>none
   |none=>none
  |none=>none
def mM (rn:List (Nat×Nat)) (hv:List AV) (H:AHeap):List (Nat×Nat)->Bool
 |[]=>true
 |(id,j)::r=>(match az_ rn id with
  |some a=>match o1_ H a with
   |some x=>match cs_ j hv with
    |some y=>bP_ y x
    |none=>false
   |none=>false
  |none=>false)&&mM rn hv H r
def oS_ (cs:List AV) (x:AV):Bool:=match x with
 | .vsl len z cs'=>dE_ cs' cs&&(Nat.beq (aK_ cs) (Nat.mul len z)&&(ad_ cs&&bb_ cs))
 |_=>false
def mF (rn:List (Nat×Nat)) (hv:List AV) (n:Nat) (H:AHeap):List (Nat×Nat)->Bool
 |[]=>true
 |(id,i)::r=>(match az_ rn id with
  |some a=>match H.get a with
   |some (.syl i')=>match Nat.blt i lS_ with
    |true=>Nat.blt i n&&Nat.beq i i'
    |false=>match cs_ (hy_ i) hv with
     |some x=>bP_ x (.sym i')
     |none=>false
   |some (.cells cs)=>match Nat.blt i lS_ with
    |true=>false
    |false=>match cs_ (hy_ i) hv with
     |some x=>oS_ cs x
     |none=>false
   |_=>false
  |none=>false)&&mF rn hv n H r
def pQ_ (rn:List (Nat×Nat)) (H:AHeap):List (Nat×Nat)->List (Nat×AV)->List (Nat×AV)
 |[],acc=>acc
 |(id,i)::r,acc=>match Nat.blt i lS_ with
  |true=>pQ_ rn H r acc
  |false=>match az_ rn id with
   |some a=>match H.get a with
    |some (.syl i')=>(hy_ i,.sym i')::pQ_ rn H r acc
    |some (.cells cs)=>(hy_ i,.vsl (Nat.div (aK_ cs) (zF i)) (zF i) cs)::pQ_ rn H r acc
    |_=>pQ_ rn H r acc
   |none=>pQ_ rn H r acc
def ua_ (ds:List DA) (rn:List (Nat×Nat)):Nat->Bool
 |0=>true
 |k+1=>(match az_ rn k with
  |some a=>Nat.beq a k
  |none=>match aE_ ds k with
   |some d=>jO_ d.act (some k)
   |none=>false)&&ua_ ds rn k
def noD:Dfs->Bool
 |[]=>true
 |_=>false
structure MR where
 rn:List (Nat×Nat)
 ds:List DA
 hv:List AV
def MR.inv (m:MR):List (Nat×Nat):=rc_ m.ds (t6_ m.rn [])
def g1_ (n:Nat) (tp:Tpl) (T:Tm) (H:AHeap):Option MR:=match um_ tp T H with
 |rn=>match pA_ T H rn tp.acc with
  |none=>none
  |some ds=>match vc_ H rn tp.maps (u0_ ds (u4_ T tp.slots (u3_ H rn tp.rows [])))with
   |none=>none
   |some ms=>match oQ_ (pQ_ rn H tp.fix ms) 0 tp.nv with
    |none=>none
    |some hv=>match MR.mk rn ds hv with
      |m=>match ad_ hv&&(bb_ hv&&(mT H ds rn hv n T tp.slots&&(mN ds m.inv tp.next rn&&(mH ds rn hv n H tp.rows&&(mD m.inv hv tp.next ds&&(mM rn hv H tp.maps&&(mF rn hv n H tp.fix&&Nat.ble tp.next top)))))))with
       |true=>some m
       |false=>none
def nnL (k:Nat) (hv:List AV):List TA->Option (List Nat)
 |[]=>some []
 |t::r=>match nnL k hv r with
  |none=>none
  |some l=>match Nat.blt t.id k with
   |false=>some l
   |true=>match cs_ t.j hv with
    |some (.sym i)=>some (i::l)
    |some (.vsl _ _ _)=>some l
    |_=>none
structure MT where
 hv:List AV
 nn:List Nat
def g2_ (n k:Nat) (tp:Tpl) (S:VS):Option MT:=match noD S.D with
 |false=>none
 |true=>match g1_ n tp S.T S.H with
  |none=>none
  |some m=>match ua_ m.ds m.rn k with
   |false=>none
   |true=>match nnL k m.hv tp.acc with
    |none=>none
    |some l=>some ⟨m.hv,l⟩
mutual
def rH_:AV->AV->List AV
 | .slx _ z _,a=>match z with
   |0=>match ae_ a with
    |true=>[]
    |false=>[a]
   |_+1=>[]
 | .agg ts,.agg cs=>rJ_ ts cs
 | .tup ts,.tup cs=>rJ_ ts cs
 | .iface _ t,.iface _ a=>rH_ t a
 | .vsl _ _ _,.sl id o n z c=>[.sl id o n z c]
 |_,_=>[]
def rJ_:List AV->List AV->List AV
 |t::ts,a::r=>jE_ (rH_ t a) (rJ_ ts r)
 |_,_=>[]
end
def gj_ (T:Tm):List (Nat×AV)->List AV
 |[]=>[]
 |(t,a)::r=>jE_ (rH_ a (tget T t)) (gj_ T r)
def dC_ (S:VS) (args:List AV):VS:=let l:=ef_ 100 S.H args []
 ⟨bj_ (frz (db_ S.H l)) S.T,dS_ S.H l,S.n,S.lv,S.D⟩
def tT_ (S:VS) (args:List AV) (id:Nat):VS:=let l:=ef_ 100 S.H args []
 ⟨bj_ (frz (db_ S.H l)) S.T,td_ (db_ S.H l) id (dS_ S.H l),S.n,S.lv,S.D⟩
mutual
def reA (id i k:Nat):AV->AV
 | .slx a z j=>match Nat.beq a id&&Nat.beq j i with
   |true=>.slx a z k
   |false=>.slx a z j
 | .vptr cs=>.vptr (reL id i k cs)
 | .vsl n z cs=>.vsl n z (reL id i k cs)
 | .fn f cs=>.fn f (reL id i k cs)
 | .iface t a=>.iface t (reA id i k a)
 | .agg cs=>.agg (reL id i k cs)
 | .tup cs=>.tup (reL id i k cs)
 |a=>a
def reL (id i k:Nat):List AV->List AV
 |[]=>[]
 |a::r=>reA id i k a::reL id i k r
end
structure SR where
 id:Nat
 i:Nat
 k:Nat
def hd_ (H:AHeap):List AV->List SR
 |[]=>[]
 |a::r=>match a with
  | .slx id _ i=>match H.get id with
    |some (.syl k)=>match Nat.beq i k with
     |true=>hd_ H r
     |false=>⟨id,i,k⟩::hd_ H r
    |_=>hd_ H r
  |_=>hd_ H r
def ul_:List SR->List AV->List AV
 |[],l=>l
 |q::r,l=>ul_ r (reL q.id q.i q.k l)
def reS:List SR->VS->VS
 |[],S=>S
 |q::r,S=>reS r ⟨bj_ (reA q.id q.i q.k) S.T,S.H,S.n,S.lv,S.D⟩
def n7_:List SR->List (Nat×Nat)
 |[]=>[]
 |q::r=>(q.i,q.k)::n7_ r
structure FR where
 l:List (Nat×Nat)
 S:VS
def hK_ (S:VS) (l:List AV):FR:=match hd_ S.H l with
 |[]=>⟨[],dC_ S l⟩
 |q=>⟨n7_ q,dC_ (reS q S) (ul_ q l)⟩
def lb_ (tp:Tpl) (S:VS):FR:=match gj_ S.T tp.slots with
 |[]=>⟨[],S⟩
 |l=>hK_ S l
def oi_ (H:AHeap) (a:AV):Option (Nat×Nat×AV):=match a with
 | .slx id z i=>match H.get id with
   |some (.syl k)=>match Nat.beq i k with
    |true=>none
    |false=>some (i,k,.slx id z k)
   |_=>none
 |_=>none
def fT_:Nat->AV->List AV->List AV
 |_,_,[]=>[]
 |0,x,_::r=>x::r
 |n+1,x,a::r=>a::fT_ n x r
def k9_ (rn:List (Nat×Nat)) (t:TA) (S:VS):FR:=match ko_ S.T S.H rn t with
 |none=>⟨[],S⟩
 |some a=>match oi_ S.H a with
  |none=>⟨[],S⟩
  |some (i,k,a')=>match t.off with
   |none=>match Nat.blt t.loc 512 with
    |true=>⟨[(i,k)],⟨dB_ S.T t.loc a',S.H,S.n,S.lv,S.D⟩⟩
    |false=>⟨[],S⟩
   |some o=>match az_ rn t.loc with
    |some r=>match S.H.get r with
     |some (.cells cs)=>⟨[(i,k)],⟨S.T,S.H.set r (.cells (fT_ o a' cs)),S.n,S.lv,S.D⟩⟩
     |_=>⟨[],S⟩
    |none=>match tget S.T (Nat.sub t.loc 600)with
     | .tup cs=>match Nat.blt (Nat.sub t.loc 600) 512 with
       |true=>⟨[(i,k)],⟨dB_ S.T (Nat.sub t.loc 600) (.tup (fT_ o a' cs)),S.H,S.n,S.lv,S.D⟩⟩
       |false=>⟨[],S⟩
     | .agg cs=>match Nat.blt (Nat.sub t.loc 600) 512 with
       |true=>⟨[(i,k)],⟨dB_ S.T (Nat.sub t.loc 600) (.agg (fT_ o a' cs)),S.H,S.n,S.lv,S.D⟩⟩
       |false=>⟨[],S⟩
     |_=>⟨[],S⟩
def d6_ (rn:List (Nat×Nat)):List TA->VS->FR
 |[],S=>⟨[],S⟩
 |t::r,S=>match k9_ rn t S with
  |f=>match d6_ rn r f.S with
   |g=>⟨appP f.l g.l,g.S⟩
where
 appP:List (Nat×Nat)->List (Nat×Nat)->List (Nat×Nat)
 |[],l=>l
 |x::r,l=>x::appP r l
def la_ (tp:Tpl) (S:VS):FR:=d6_ (um_ tp S.T S.H) tp.acc S
def dd_ (tp:Tpl) (S:VS):FR:=match lb_ tp S with
 |f=>match la_ tp f.S with
  |g=>⟨d6_.appP f.l g.l,g.S⟩
def ji_:List (Nat×Nat)->VT->VT
 |[],t=>t
 |(i,k)::r,t=>.chk (.same i k) (ji_ r t)
structure MA where
 j:Nat
 l:List (Nat×Nat)
 m:MT
def clashT (T:Tm):List (Nat×AV)->Bool
 |[]=>false
 |(t,a)::r=>(match a with
  | .int _ x=>match tget T t with
    | .int _ y=>not (eqI x y)
    |_=>false
  |_=>false)||clashT T r
def dT_ (n k:Nat):List Tpl->Nat->VS->Option MA
 |[],_,_=>none
 |tp::r,j,S=>match clashT S.T tp.slots with
  |true=>dT_ n k r (Nat.succ j) S
  |false=>match dd_ tp S with
   |f=>match g2_ n k tp f.S with
    |some m=>some ⟨j,f.l,m⟩
    |none=>dT_ n k r (Nat.succ j) S
def Tpl.heap (tp:Tpl) (n:Nat):AHeap:=kh_ n (ki_ n (hz_ n (iI_ n tp.next tp.rows) tp.acc) tp.maps) tp.fix
def Tpl.inst (tp:Tpl) (n lv:Nat):VS:=⟨cH_ n tp.slots,tp.heap n,Nat.add n tp.nv,lv,[]⟩
def qN_:List Nat->VT->VT
 |[],t=>t
 |i::r,t=>.chk (.nn i) (qN_ r t)
section
variable [Gl]
def cm_:List (Nat×AV)->List AV
 |[]=>[]
 |(_,a)::r=>a::cm_ r
def pz_ (ft:FT) (n:Nat) (Y0:Sy) (Q:Nat->List AV->Prop) (Y:Sy) (r:FRes):Prop:=
 ∃j ws b tp,ft.exs[j]? =some (b,tp)/\Q j ws/\okL ws=true/\ws.length=tp.nv/\Y=Y0.puts n ws/\r=(match b with
  |true=>.pan (tget (cH_ n tp.slots) 0) (tp.heap n)
  |false=>.ret (tget (cH_ n tp.slots) 0) (tp.heap n))
def CF (P:Program) (f:FuncId) (ft:FT) (vs:List AV) (Q:Nat->List AV->Prop):Prop:=
 vs.length=ft.ent.nv/\∀Y,Fresh Y 64->SemCallF P ft.k (Y.puts 64 vs) f (bs_ 64 (cm_ ft.ent.slots)) (ft.ent.heap 64) (pz_ ft (Nat.add 64 ft.ent.nv) (Y.puts 64 vs) Q)
def Chk.ok (Y:Sy):Chk->Prop
 | .same i j=>(Y.v i=some .nsl/\Y.v j=some .nsl)\/∃n z cs ds,Y.v i=some (.vsl n z cs)/\Y.v j=some (.vsl n z ds)
 | .nn i=>∃n z cs,Y.v i=some (.vsl n z cs)
 | .pos i=>∃n z cs,Y.v i=some (.vsl (n+1) z cs)
mutual
def VOK (P:Program) (Q:AV->Prop):List (Nat->List AV->Prop)->Sy->VT->Prop
 |_,_,.bad=>False
 |_,Y,.done v=>Q (den Y.v v)
 |L,Y,.ite i a b=>∃t,Y.v i=some (.bool t)/\(t=true->VOK P Q L Y a)/\(t=false->VOK P Q L Y b)
 |L,Y,.lt op args n m t=>match m with
  |none=>∃r,op.run P (ab_ Y.v args)=some r/\okC r=true/\VOK P Q L (Y.put n r) t
  |some k=>∃cs,op.run P (ab_ Y.v args)=some (.agg cs)/\cs.length=k/\okL cs=true/\VOK P Q L (Y.puts n cs) t
 |L,Y,.call f args n sh t=>∃v vs,jD_ P f (ab_ Y.v args) v/\hw_ sh v=some vs/\okL vs=true/\VOK P Q L (Y.puts n vs) t
 |L,Y,.loop n j hv bs=>∃(Inv:Nat->List AV->Prop) (μ:Nat->List AV->Nat),(∀j vs,Inv j vs->okL vs=true)/\Inv j (ab_ Y.v hv)/\tV_ P Q Inv μ L n 0 Y bs
 |L,Y,.again lvl j hv=>∃R,L[lvl]? =some R/\R j (ab_ Y.v hv)
 |L,Y,.chk c t=>c.ok Y/\VOK P Q L Y t
 |L,Y,.callF f ft hv n bs=>∃R,CF P f ft (ab_ Y.v hv) R/\okL (ab_ Y.v hv)=true/\sr_ P Q R L (Y.puts n (ab_ Y.v hv)) (Nat.add n ft.ent.nv) 0 bs
 |L,Y,.both a b=>VOK P Q L Y a/\VOK P Q L Y b
def tV_ (P:Program) (Q:AV->Prop) (Inv:Nat->List AV->Prop) (μ:Nat->List AV->Nat):List (Nat->List AV->Prop)->Nat->Nat->Sy->VTs->Prop
 |_,_,_,_,.nil=>True
 |L,n,j,Y,.cons nv t r=>(∀vs,vs.length=nv->Inv j vs->VOK P Q (L++[λj' vs'=>Inv j' vs'/\μ j' vs'<μ j vs]) (Y.puts n vs) t)/\tV_ P Q Inv μ L n (j+1) Y r
def sr_ (P:Program) (Q:AV->Prop) (R:Nat->List AV->Prop):List (Nat->List AV->Prop)->Sy->Nat->Nat->VTs->Prop
 |_,_,_,_,.nil=>True
 |L,Y,n,j,.cons _ t r=>(∀ws,R j ws->VOK P Q L (Y.puts n ws) t)/\sr_ P Q R L Y n (j+1) r
end
end
def h3_:tv_->Nat->Option (List Tpl)
 |[],_=>none
 |(b,l)::r,bid=>match Nat.beq b bid with
  |true=>some l
  |false=>h3_ r bid
section
variable [Gl]
abbrev qw_:=List (FuncId×List (Option Nat))
def ur_:qw_->FuncId->Option (List (Option Nat))
 |[],_=>none
 |(g,sh)::r,f=>match Nat.beq g f with
  |true=>some sh
  |false=>ur_ r f
abbrev qx_:=List (FuncId×FT)
def t3_:qx_->FuncId->Option FT
 |[],_=>none
 |(g,t)::r,f=>match Nat.beq g f with
  |true=>some t
  |false=>t3_ r f
structure VC where
 fc:FcT
 cs:qw_
 hs:tv_
 k:Nat
 own:Bool
 fs:qx_
def qC_ (P:Program) (S:VS) (o:Oper):Option (Nat×Nat×XOp×List AV):=match noD S.D with
 |true=>f1_ P S.T S.H o
 |false=>none
def nw_ (P:Program) (S:VS) (o:Oper):Option (Nat×Nat×XOp×List AV):=match noD S.D with
 |true=>match cD_ P S.T S.H o with
  |some r=>some r
  |none=>uh_ P S.T S.H o
 |false=>none
def rr_ (P:Program) (S:VS) (o:Oper):Option (Nat×XOp×List AV):=match noD S.D with
 |true=>rq_ P S.T S.H o
 |false=>none
def sgS (hv:List AV) (n i:Nat):Nat:=match Nat.blt i 64 with
 |true=>i
 |false=>match cs_ (Nat.sub i 64) hv with
  |some (.sym s)=>s
  |_=>Nat.add n (Nat.sub i 64)
def sgV (hv:List AV) (n i:Nat):AV:=match Nat.blt i 64 with
 |true=>.sym i
 |false=>match cs_ (Nat.sub i 64) hv with
  |some a=>match okC a with
   |true=>a
   |false=>.sym (sgS hv n i)
  |none=>.sym (sgS hv n i)
mutual
def dy_ (hv:List AV) (n:Nat) (r:Nat->Nat):AV->AV
 | .sym i=>sgV hv n i
 | .slx id z i=>.slx (r id) z (sgS hv n i)
 | .ptx id j z off=>.ptx (r id) (sgS hv n j) z off
 | .ptr id off=>.ptr (r id) off
 | .sl id off len sz cap=>.sl (r id) off len sz cap
 | .map id=>.map (r id)
 | .vptr cs=>.vptr (ft_ hv n r cs)
 | .vsl a z cs=>.vsl a z (ft_ hv n r cs)
 | .fn f cs=>.fn f (ft_ hv n r cs)
 | .iface t a=>.iface t (dy_ hv n r a)
 | .agg cs=>.agg (ft_ hv n r cs)
 | .tup cs=>.tup (ft_ hv n r cs)
 |a=>a
def ft_ (hv:List AV) (n:Nat) (r:Nat->Nat):List AV->List AV
 |[]=>[]
 |a::l=>dy_ hv n r a::ft_ hv n r l
end
def ro_ (hv:List AV) (n:Nat) (r:Nat->Nat):ABlk->Option ABlk
 | .cells cs=>some (.cells (ft_ hv n r cs))
 | .syl i=>some (.syl (sgS hv n i))
 | .mpl i=>some (.mpl (sgS hv n i))
 |_=>none
def li_ (hv:List AV) (n:Nat) (r:Nat->Nat) (F:AHeap) (base:AHeap):List Nat->AHeap
 |[]=>base
 |id::l=>match F.get id with
  |some k=>match ro_ hv n r k with
   |some k'=>(li_ hv n r F base l).set (r id) k'
   |none=>li_ hv n r F base l
  |none=>li_ hv n r F base l
def c0_:List TA->List Nat->List Nat
 |[],l=>l
 |t::r,l=>t.id::c0_ r l
def qk_:List (Nat×Nat)->List Nat->List Nat
 |[],l=>l
 |(_,a)::r,l=>a::qk_ r l
def nv_:List DA->List Nat->List Nat
 |[],l=>l
 |d::r,l=>match d.act with
  |some i=>i::nv_ r l
  |none=>nv_ r l
def iR_ (m:MR) (j:Nat):Option Nat:=match az_ m.rn j with
 |some a=>some a
 |none=>match aE_ m.ds j with
  |some d=>d.act
  |none=>none
def nX_ (m:MR):Nat->Option (List Nat)
 |0=>some []
 |k+1=>match nX_ m k with
  |some l=>match iR_ m k with
   |some a=>some (snoc l a)
   |none=>none
  |none=>none
where
 snoc:List Nat->Nat->List Nat
 |[],a=>[a]
 |x::r,a=>x::snoc r a
def sV_:Nat->List Nat->Option Nat
 |_,[]=>none
 |0,a::_=>some a
 |n+1,_::r=>sV_ n r
def rL_ (low:List Nat) (k nx j:Nat):Nat:=match sV_ j low with
 |some a=>a
 |none=>Nat.add nx (Nat.sub j k)
mutual
def jt_:AV->Bool
 | .ptr id _=>Nat.blt id top
 | .sl id _ _ _ _=>Nat.blt id top
 | .map id=>Nat.blt id top
 | .slx id _ _=>Nat.blt id top
 | .ptx id _ _ _=>Nat.blt id top
 | .vptr cs=>ju_ cs
 | .vsl _ _ cs=>ju_ cs
 | .fn _ cs=>ju_ cs
 | .iface _ a=>jt_ a
 | .agg cs=>ju_ cs
 | .tup cs=>ju_ cs
 |_=>true
def ju_:List AV->Bool
 |[]=>true
 |a::r=>jt_ a&&ju_ r
end
def qp_ (n:Nat):List (Nat×List AV)->Bool
 |[]=>true
 |(_,cs)::r=>ju_ (bs_ n cs)&&qp_ n r
def qo_:List Nat->Bool
 |[]=>true
 |i::r=>Nat.blt i top&&qo_ r
def lc_ (H:AHeap):List Nat->Bool
 |[]=>true
 |a::r=>(H.get a).isSome&&lc_ H r
def jm_:Nat->List (Nat×AV)->Bool
 |_,[]=>true
 |i,(j,_)::r=>Nat.beq i j&&(Nat.blt i 512&&jm_ (Nat.succ i) r)
def pk_ (k n:Nat) (H:AHeap):List (Bool×Tpl)->Bool
 |[]=>true
 |(_,tp)::r=>Nat.ble k tp.next&&(Nat.blt (Nat.add H.next (Nat.sub tp.next k)) H.hi&&(jt_ (tget (cH_ n tp.slots) 0)&&(qp_ n tp.rows&&(qo_ (c0_ tp.acc tp.ids)&&pk_ k n H r))))
def exH (ft:FT) (m:MR) (low:List Nat) (S:VS) (tp:Tpl):AHeap:=li_ m.hv S.n (rL_ low ft.k S.H.next) (tp.heap (Nat.add 64 ft.ent.nv))
 (match dS_ S.H (nv_ m.ds (qk_ m.rn []))with
   |B=>⟨B.tr,Nat.add S.H.next (Nat.sub tp.next ft.k),B.hi⟩) (c0_ tp.acc tp.ids)
def exV (ft:FT) (m:MR) (low:List Nat) (S:VS) (tp:Tpl):AV:=dy_ m.hv S.n (rL_ low ft.k S.H.next) (tget (cH_ (Nat.add 64 ft.ent.nv) tp.slots) 0)
def exN (ft:FT) (S:VS) (tp:Tpl):Nat:=Nat.add (Nat.add S.n ft.ent.nv) tp.nv
def sb_ (ft:FT) (m:MR) (low:List Nat) (u:Tm->AV->Tm) (S:VS) (X:VX->VT) (k:VS->VT):List (Bool×Tpl)->VTs
 |[]=>.nil
 |(b,tp)::r=>.cons tp.nv (match b with
  |false=>k ⟨u S.T (exV ft m low S tp),exH ft m low S tp,exN ft S tp,S.lv,S.D⟩
  |true=>X (.pan (exV ft m low S tp) ⟨S.T,exH ft m low S tp,exN ft S tp,S.lv,S.D⟩)) (sb_ ft m low u S X k r)
def lG_ (g:FuncId) (ft:FT) (u:Tm->AV->Tm) (S:VS) (args:List AV) (X:VX->VT) (k:VS->VT):VT:=match la_ ft.ent ⟨aV_ args 0 topq,S.H,S.n,S.lv,[]⟩with
 |f=>match g1_ 64 ft.ent f.S.T f.S.H with
  |none=>.bad
  |some m=>match nX_ m ft.k with
   |none=>.bad
   |some low=>match pk_ ft.k (Nat.add 64 ft.ent.nv) f.S.H ft.exs&&(Nat.ble f.S.H.hi top&&(Nat.beq (aK_ args) (aK_ (cm_ ft.ent.slots))&&(jm_ 0 ft.ent.slots&&lc_ f.S.H low)))with
    |true=>ji_ f.l (.callF g ft m.hv S.n (sb_ ft m low u ⟨S.T,f.S.H,S.n,S.lv,S.D⟩ X k ft.exs))
    |false=>.bad
def on_ (P:Program) (g:FuncId) (ft:FT) (o:Oper) (u:Tm->AV->Tm) (S:VS) (args:List AV) (X:VX->VT) (k:VS->VT):VT:=match gj_ (aV_ args 0 topq) ft.ent.slots with
 |[]=>lG_ g ft u S args X k
 |l=>match hK_ S l with
  |f=>match (ac_ P o).run f.S.T f.S.H with
   |some r=>match r with
    | .call g' args'=>match Nat.beq g' g with
      |true=>ji_ f.l (lG_ g ft u f.S args' X k)
      |false=>.bad
    |_=>.bad
   |none=>.bad
def INL (P:Program) (Q:AV->Prop) (fc:FcT) (L:List (Nat->List AV->Prop)) (n:Nat) (Y:Sy) (ret pan:AV->AHeap->Nat->Nat->VT) (Y':Sy) (r:FRes):Prop:=
 ∃(n' lv':Nat) (L':List (Nat->List AV->Prop)),L <+: L'/\L'.length=lv'/\n<=n'/\(∀i,i<n->Y'.v i=Y.v i)/\(Fresh Y' n'/\KnownF P fc Y')/\(match r with
  | .ret a H=>VOK P Q L' Y' (ret a H n' lv')
  | .pan a H=>VOK P Q L' Y' (pan a H n' lv'))
structure Inl (P:Program) (fuel:Nat) where
 run:VC->FuncId->List AV->AHeap->Nat->Nat->(AV->AHeap->Nat->Nat->VT)->(AV->AHeap->Nat->Nat->VT)->VT
 ok:∀{c:VC} {g:FuncId} {args:List AV} {H:AHeap} {n lv:Nat} {ret pan:AV->AHeap->Nat->Nat->VT} {Q:AV->Prop} {L:List (Nat->List AV->Prop)} {Y:Sy},P.follows .mixedOrders=true->as_ P (a8_ P fuel)->L.length=lv->Fresh Y n/\KnownF P c.fc Y->
  VOK P Q L Y (run c g args H n lv ret pan)->SemCallF P H.next Y g args H (INL P Q c.fc L n Y ret pan)
def in0 (P:Program) (fuel:Nat):Inl P fuel:=⟨λ_ _ _ _ _ _ _ _=>.bad,λ_ _ _ _ h=>by grind [VOK]⟩
mutual
def en_ (k n:Nat):AV->Bool
 | .ptr id _=>Nat.blt id k
 | .sl id _ _ _ _=>Nat.blt id k
 | .map id=>Nat.blt id k
 | .slx id _ i=>Nat.blt id k&&Nat.blt i n
 | .ptx id j _ _=>Nat.blt id k&&Nat.blt j n
 | .sym i=>Nat.blt i n
 | .vptr cs=>eJ_ k n cs
 | .vsl _ _ cs=>eJ_ k n cs
 | .fn _ cs=>eJ_ k n cs
 | .iface _ a=>en_ k n a
 | .agg cs=>eJ_ k n cs
 | .tup cs=>eJ_ k n cs
 |_=>true
def eJ_ (k n:Nat):List AV->Bool
 |[]=>true
 |a::r=>en_ k n a&&eJ_ k n r
end
def bO_ (k n:Nat) (a:AV):AV:=match en_ k n a with
 |true=>a
 |false=>.opq
def oT_ (k n:Nat):Dfs->Bool
 |[]=>true
 |(_,args)::r=>eJ_ k n args&&oT_ k n r
def lH_ (P:Program) {fuel:Nat} (I:Inl P fuel) (c:VC) (o:Oper) (u:Tm->AV->Tm) (S:VS) (X:VX->VT) (k:VS->VT):VT:=match oT_ S.H.next S.n S.D&&Nat.ble c.k S.H.next with
 |false=>.bad
 |true=>match bj_ (bO_ S.H.next S.n) S.T with
  |T1=>match (ac_ P o).run T1 S.H with
   |some r=>match r with
    | .call g args=>I.run c g args S.H S.n S.lv
      (λa H n lv=>match Nat.beq lv S.lv with
       |true=>k ⟨u T1 a,H,n,lv,S.D⟩
       |false=>.bad)
      (λa H n lv=>match Nat.beq lv S.lv with
       |true=>X (.pan a ⟨T1,H,n,lv,S.D⟩)
       |false=>.bad)
    |_=>.bad
   |none=>.bad
def r4_ (P:Program) (fuel:Nat) (I:Inl P fuel) (c:VC) (o:Oper) (u:Tm->AV->Tm) (S:VS) (g:FuncId) (args:List AV) (X:VX->VT) (k:VS->VT):VT:=match t3_ c.fs g with
 |some ft=>on_ P g ft o u S args X k
 |none=>match ur_ c.cs g with
  |some sh=>match ad_ args with
   |true=>.call g args S.n sh (k ⟨u S.T (di_ S.n sh),S.H,Nat.add S.n (du_ sh),S.lv,S.D⟩)
   |false=>match (ac_ P o).run (dC_ S args).T (dC_ S args).H with
    |some r=>match r with
     | .call g' args'=>match Nat.beq g' g&&ad_ args' with
       |true=>.call g args' S.n sh (k ⟨u (dC_ S args).T (di_ S.n sh),(dC_ S args).H,Nat.add S.n (du_ sh),S.lv,S.D⟩)
       |false=>.bad
     |_=>.bad
    |none=>.bad
  |none=>match a8_ P fuel g args S.H with
   |some r=>match r with
    | .ret a H'=>k ⟨u S.T a,H',S.n,S.lv,S.D⟩
    | .pan _ _=>lH_ P I c o u S X k
   |none=>lH_ P I c o u S X k
def tq_ (P:Program) (c:VC) (u:Tm->AV->Tm) (S:VS) (k:VS->VT) (op:XOp) (args:List AV):VT:=match my_ P op with
 |none=>match mi_ c.fc.b op args with
  |some v=>k ⟨u S.T v,S.H,S.n,S.lv,S.D⟩
  |none=>.lt op args S.n none (k ⟨u S.T (.sym S.n),S.H,Nat.succ S.n,S.lv,S.D⟩)
 |some m=>.lt op args S.n (some m) (k ⟨u S.T (.agg (ak_ S.n m)),S.H,Nat.add S.n m,S.lv,S.D⟩)
def uF_ (P:Program) (c:VC) (o:Oper) (u:Tm->AV->Tm) (S:VS) (k:VS->VT):Option VT:=match c.own with
 |false=>none
 |true=>match rF_ P S.T o with
  |some a=>some (k ⟨u S.T a,S.H,S.n,S.lv,S.D⟩)
  |none=>match pZ_ P S.T o with
   |some (op,args,id,sz)=>some (.lt op args S.n none (k ⟨u S.T (.ptx id S.n sz 0),S.H,Nat.succ S.n,S.lv,S.D⟩))
   |none=>match ldX S.T S.H o with
    |some (op,args)=>match my_ P op with
     |none=>some (.lt op args S.n none (k ⟨u S.T (.sym S.n),S.H,Nat.succ S.n,S.lv,S.D⟩))
     |some m=>some (.lt op args S.n (some m) (k ⟨u S.T (.agg (ak_ S.n m)),S.H,Nat.add S.n m,S.lv,S.D⟩))
    |none=>match stX S.T S.H o with
     |some (op,args,id)=>some (.lt op args S.n none (k ⟨u S.T (.tup []),S.H.set id (.syl S.n),Nat.succ S.n,S.lv,S.D⟩))
     |none=>match tkX P S.T S.H o with
        |some (op,args,id,sz)=>some (.lt op args S.n none (k ⟨u S.T (.slx id sz S.n),S.H.set id (.syl S.n),Nat.succ S.n,S.lv,S.D⟩))
        |none=>none
def si_ (P:Program) (fuel:Nat) (I:Inl P fuel) (c:VC) (o:Oper) (u:Tm->AV->Tm) (S:VS) (X:VX->VT) (k:VS->VT):VT:=match (ac_ P o).run S.T S.H with
 |some r=>match r with
  | .val a H'=>k ⟨u S.T a,H',S.n,S.lv,S.D⟩
  | .call g args=>r4_ P fuel I c o u S g args X k
  | .dfr g args=>k ⟨u S.T (.tup []),S.H,S.n,S.lv,(g,args)::S.D⟩
  | .pan v=>X (.pan v S)
  |_=>.bad
 |none=>match lr_ o S.T with
  |some (i,a,b)=>.ite i (k ⟨u (S.know i true).T (look (S.know i true).T a),S.H,S.n,S.lv,S.D⟩) (k ⟨u (S.know i false).T (look (S.know i false).T b),S.H,S.n,S.lv,S.D⟩)
  |none=>match qL_ c.fc.x S.T o with
   |some v=>k ⟨u S.T v,S.H,S.n,S.lv,S.D⟩
   |none=>match uF_ P c o u S k with
    |some t=>t
    |none=>match qC_ P S o with
    |some (id,sz,op,args)=>.lt op args S.n none (k ⟨u S.T (.slx S.H.next sz S.n),(S.H.erase id).push (.syl S.n),Nat.succ S.n,S.lv,S.D⟩)
    |none=>match nw_ P S o with
    |some (id,sz,op,args)=>.lt op args S.n none (k ⟨u S.T (.slx S.H.next sz S.n),(S.H.erase id).push (.syl S.n),Nat.succ S.n,S.lv,S.D⟩)
    |none=>match nV_ S.T o with
     |some (op,args)=>.lt op args S.n none (k ⟨u S.T (.sym S.n),S.H,Nat.succ S.n,S.lv,S.D⟩)
     |none=>match rr_ P S o with
     |some (id,op,args)=>.lt op args S.n none (k ⟨u S.T (.tup []),S.H.set id (.mpl S.n),Nat.succ S.n,S.lv,S.D⟩)
     |none=>match rn_ S.T S.H o with
     |some (op,args)=>match nR_ P o with
      |true=>.lt op args S.n none (k ⟨u S.T (.sym S.n),S.H,Nat.succ S.n,S.lv,S.D⟩)
      |false=>.bad
     |none=>match j6_ S.T S.H o with
     |some (op,args)=>.lt op args S.n none (k ⟨u S.T (.sym S.n),S.H,Nat.succ S.n,S.lv,S.D⟩)
     |none=>match mgX S.T S.H o with
     |some (op,args)=>.lt op args S.n none (k ⟨u S.T (.sym S.n),S.H,Nat.succ S.n,S.lv,S.D⟩)
     |none=>match t2_ P S.T o with
     |some (op,args)=>.lt op args S.n none (k ⟨u S.T (.sym S.n),S.H,Nat.succ S.n,S.lv,S.D⟩)
     |none=>match c9_ S.T o with
      |some (op,args)=>match ad_ args with
       |true=>tq_ P c u S k op args
       |false=>match c9_ (dC_ S args).T o with
        |some (op',args')=>match ad_ args' with
         |true=>tq_ P c u (dC_ S args) k op' args'
         |false=>.bad
        |none=>.bad
      |none=>.bad
def sf_ (all:List Oper) (o:Oper) (T:Tm):Option Bool:=match a2_ all o with
 | .always=>some true
 | .mk g=>g T
def vOp (P:Program) (fuel:Nat) (I:Inl P fuel) (c:VC) (all:List Oper) (o:Oper) (u:Tm->AV->Tm) (X:VX->VT) (next:VS->VT) (S:VS):VT:=match sf_ all o S.T with
 |some t=>match t with
  |false=>next ⟨u S.T (.tup []),S.H,S.n,S.lv,S.D⟩
  |true=>si_ P fuel I c o u S X next
 |none=>.bad
def rI_ (T:Tm):List (Nat×Operand)->List AV
 |[]=>[]
 |(_,x)::r=>match look T x with
  | .slx id z i=>.slx id z i::rI_ T r
  |_=>rI_ T r
def mX_:List AV->List AV
 |[]=>[]
 |a::r=>match a with
  | .slx id z i=>.slx id z i::mX_ r
  | .sl id o l z c=>.sl id o l z c::mX_ r
  |_=>mX_ r
def mY_ (T:Tm):List (Nat×Operand)->List AV
 |[]=>[]
 |(_,x)::r=>match look T x with
  | .slx id z i=>.slx id z i::mY_ T r
  | .sl id o l z c=>.sl id o l z c::mY_ T r
  | .agg cs=>jE_ (mX_ cs) (mY_ T r)
  |_=>mY_ T r
def nM_ (own:Bool) (o:Oper) (S:VS):VS:=match o.op with
 | .buildSlice _ _ ps=>match (match own with
   |true=>mY_ S.T ps.toList
   |false=>rI_ S.T ps.toList)with
   |[]=>S
   |a=>dC_ S a
 | .call c=>match own with
   |false=>S
   |true=>match c.callee with
    | .builtin b=>match b with
      | .append=>match c.args.toList with
        |[_,x]=>match look S.T x with
         | .sl id _ _ _ _=>match S.H.get id with
          |some (.cells cs)=>match mX_ cs with
           |[]=>S
           |a=>tT_ S a id
          |_=>S
         |_=>S
        |_=>S
      |_=>S
    |_=>S
 |_=>S
def lI_ (P:Program) (N fuel:Nat) (I:Inl P fuel) (c:VC) (all:List Oper) (X:VX->VT):List Oper->VS->(VS->VT)->VT
 |[],S,K=>K S
 |o::r,S,K=>match bZ_ N o.dst with
  | .bad=>.bad
  | .mk u=>match mq_ all o S.T with
    |some i=>.ite i (vOp P fuel I c all o u X (λS=>lI_ P N fuel I c all X r S K) (S.know i true)) (vOp P fuel I c all o u X (λS=>lI_ P N fuel I c all X r S K) (S.know i false))
    |none=>vOp P fuel I c all o u X (λS=>lI_ P N fuel I c all X r S K) (nM_ c.own o S)
def isM (x:SI):Bool:=match x.o.op with
 | .alloc _=>true
 | .box _ _=>true
 | .buildSlice _ _ _=>true
 |_=>false
inductive Tch where
 |none
 |one (id:Nat)
 |all
def hg_ (x:SI) (R:Tm):Tch:=match x.o.op with
 | .call c=>match kl_ x with
   |false=>.all
   |true=>match c.args.toList with
    |s::r=>match look R s with
     | .slx id _ _=>.one id
     | .sym _=>.none
     | .sl id _ _ _ _=>.one id
     | .vsl n _ _=>match n with
       |0=>match r with
        |y::_=>match look R y with
          | .sym _=>.none
          |_=>.all
        |[]=>.all
       |_+1=>.all
     |_=>.all
    |[]=>.all
 |_=>.all
def il_ (x:SI) (R:Tm):Bool:=match kl_ x with
 |false=>false
 |true=>match hg_ x R with
  | .all=>false
  |_=>true
def bX_ (x:SI) (R:Tm):Tch:=match isM x with
 |true=>.none
 |false=>match x.o.op with
  | .store _ a _=>match look R a with
    | .ptr id _=>.one id
    | .ptx id _ _ _=>.one id
    |_=>.all
  |_=>hg_ x R
def apart (t:Tch) (ids:List Nat):Bool:=match t with
 | .none=>true
 | .one id=>not (memT id ids)
 | .all=>match ids with
   |[]=>true
   |_::_=>false
structure GW where
 i:Nat
 H:AHeap
 t:Tch
def mS_ (bef:Nat) (H:AHeap):List GW->AHeap
 |[]=>H
 |g::r=>match bit bef g.i with
  |true=>H
  |false=>mS_ bef g.H r
def rA_ (bef:Nat) (ids:List Nat):List GW->Bool
 |[]=>true
 |g::r=>match bit bef g.i with
  |true=>true
  |false=>apart g.t ids&&rA_ bef ids r
def sY_ (bef:Nat) (t:Tch):List (Nat×List Nat)->Bool
 |[]=>true
 |(i,ids)::r=>(bit bef i||apart t ids)&&sY_ bef t r
def de_ (H:AHeap):List Nat->AHeap
 |[]=>⟨hnil,0,0⟩
 |id::r=>match H.get id with
  |some b=>(de_ H r).set id b
  |none=>de_ H r
def u9_ (a:AV) (acc:List Nat):List Nat:=match a with
 | .ptr id _=>id::acc
 | .sl id _ _ _ _=>id::acc
 | .map id=>id::acc
 | .ptx id _ _ _=>id::acc
 |_=>acc
def tG_ (T:Tm):List Nat->List Nat
 |[]=>[]
 |t::r=>u9_ (tget T t) (tG_ T r)
def gk_ (x:SI) (T:Tm):List Nat:=match vW_ x with
 |true=>[]
 |false=>tG_ T x.rd
def gS_ (x:SI) (S:VS) (gs:List GW):AHeap:=de_ (mS_ x.bef S.H gs) (gk_ x S.T)
def o8_ (x:SI) (i:Nat) (y:SI):Bool:=match isW x&&isW y with
 |true=>bit y.bef i
 |false=>true
def n2_ (x:SI) (i:Nat):List SI->Bool
 |[]=>true
 |y::r=>o8_ x i y&&n2_ x i r
def lo_:List SI->Nat->Bool
 |[],_=>true
 |x::r,i=>n2_ x i r&&lo_ r (Nat.succ i)
def q8_ (x:SI):Nat->Bool
 |0=>true
 |n+1=>bit x.bef n&&q8_ x n
def r0_ (x:SI) (i n:Nat):Nat:=match Nat.beq n (Nat.succ i)&&q8_ x i with
 |true=>i
 |false=>n
def dj_:List SI->Nat->Nat
 |[],i=>i
 |x::r,i=>r0_ x i (dj_ r (Nat.succ i))
def ep_:Nat->List SI->List SI
 |0,_=>[]
 |_+1,[]=>[]
 |n+1,x::r=>x::ep_ n r
def oB_:Nat->List Oper->List Oper
 |0,l=>l
 |_+1,[]=>[]
 |n+1,_::r=>oB_ n r
def pv_ (P:Program) (x:SI) (Hx:AHeap) (u:Tm->AV->Tm) (S:VS) (k:VS->VT):VT:=match ce_ (ac_ P x.o) (av_ S.T x.rd topq) Hx with
 |some q=>k ⟨u S.T q,S.H,S.n,S.lv,S.D⟩
 |none=>.bad
def r6_ (u:Tm->AV->Tm) (S:VS) (k:VS->VT) (R:Tm) (o:Oper) (id sz:Nat) (op:XOp) (args:List AV):VT:=match aF_ S.n args with
 |true=>match S.H.get S.H.next with
  |none=>match fD_ args with
   |true=>.lt op args S.n none (k ⟨u S.T (.slx S.H.next sz S.n),(S.H.erase id).push (.syl S.n),Nat.succ S.n,S.lv,S.D⟩)
   |false=>match c1_ args with
    |some i=>.lt .emp [.sym i] S.n none (.ite S.n (k ⟨u S.T (l5_ R o),S.H,Nat.succ S.n,S.lv,S.D⟩)
     (.lt op args (Nat.succ S.n) none (k ⟨u S.T (.slx S.H.next sz (Nat.succ S.n)),(S.H.erase id).push (.syl (Nat.succ S.n)),Nat.succ (Nat.succ S.n),S.lv,S.D⟩)))
    |none=>.bad
  |some _=>.bad
 |false=>.bad
def ni_ (P:Program) (x:SI) (u:Tm->AV->Tm) (S:VS) (k:VS->VT):VT:=match kl_ x with
 |false=>.bad
 |true=>match f1_ P (av_ S.T x.rd topq) S.H x.o with
  |some (id,sz,op,args)=>match aF_ S.n args with
   |true=>match S.H.get S.H.next with
    |none=>match fD_ args with
     |true=>.lt op args S.n none (k ⟨u S.T (.slx S.H.next sz S.n),(S.H.erase id).push (.syl S.n),Nat.succ S.n,S.lv,S.D⟩)
     |false=>match c1_ args with
        |some i=>.chk (.pos i) (.lt op args S.n none (k ⟨u S.T (.slx S.H.next sz S.n),(S.H.erase id).push (.syl S.n),Nat.succ S.n,S.lv,S.D⟩))
        |none=>.bad
    |some _=>.bad
   |false=>.bad
  |none=>match cD_ P (av_ S.T x.rd topq) S.H x.o with
   |some (id,sz,op,args)=>r6_ u S k (av_ S.T x.rd topq) x.o id sz op args
   |none=>match c9_ (av_ S.T x.rd topq) x.o with
    |some (op,args)=>match ad_ args&&aF_ S.n args with
     |true=>match my_ P op with
      |none=>.lt op args S.n none (k ⟨u S.T (.sym S.n),S.H,Nat.succ S.n,S.lv,S.D⟩)
      |some _=>.bad
     |false=>.bad
    |none=>.bad
def vDW (P:Program) (c:VC) (x:SI) (u:Tm->AV->Tm) (S:VS) (k:VS->VT):VT:=match (ac_ P x.o).run (av_ S.T x.rd topq) S.H with
 |some r=>match r with
  | .val a H'=>match isM x with
    |true=>match S.H.get S.H.next with
     |none=>k ⟨u S.T a,H',S.n,S.lv,S.D⟩
     |some _=>.bad
    |false=>match il_ x (av_ S.T x.rd topq)with
     |true=>ni_ P x u S k
     |false=>k ⟨u S.T a,H',S.n,S.lv,S.D⟩
  |_=>.bad
 |none=>match c.own with
  |false=>ni_ P x u S k
  |true=>match stX (av_ S.T x.rd topq) S.H x.o with
   |some (op,args,id)=>match aF_ S.n args&&not (isM x)with
    |true=>.lt op args S.n none (k ⟨u S.T (.tup []),S.H.set id (.syl S.n),Nat.succ S.n,S.lv,S.D⟩)
    |false=>.bad
   |none=>ni_ P x u S k
def tS_ (P:Program) (c:VC) (R:Tm) (Hx:AHeap) (o:Oper) (u:Tm->AV->Tm) (S:VS) (k:VS->VT):Option VT:=match c.own with
 |false=>none
 |true=>match rF_ P R o with
  |some a=>some (k ⟨u S.T a,S.H,S.n,S.lv,S.D⟩)
  |none=>match pZ_ P R o with
   |some (op,args,id,sz)=>match aF_ S.n args with
    |true=>some (.lt op args S.n none (k ⟨u S.T (.ptx id S.n sz 0),S.H,Nat.succ S.n,S.lv,S.D⟩))
    |false=>none
   |none=>match ldX R Hx o with
    |some (op,args)=>match aF_ S.n args with
     |true=>match my_ P op with
        |none=>some (.lt op args S.n none (k ⟨u S.T (.sym S.n),S.H,Nat.succ S.n,S.lv,S.D⟩))
        |some m=>some (.lt op args S.n (some m) (k ⟨u S.T (.agg (ak_ S.n m)),S.H,Nat.add S.n m,S.lv,S.D⟩))
     |false=>none
    |none=>match nV_ R o with
     |some (op,args)=>match aF_ S.n args with
        |true=>some (.lt op args S.n none (k ⟨u S.T (.sym S.n),S.H,Nat.succ S.n,S.lv,S.D⟩))
        |false=>none
     |none=>none
def nz_ (P:Program) (R:Tm) (o:Oper):Option AV:=match o.op with
 | .buildSlice t n ps=>match bx_ P ⟨hnil,0,1⟩ t n (dz_ (look R) ps.toList)with
   |some r=>match r.1 with
    | .sl _ _ len sz _=>match r.2.get 0 with
      |some (.cells cs)=>match ad_ cs with
       |true=>some (.vsl len sz cs)
       |false=>none
      |_=>none
    |_=>none
   |none=>none
 |_=>none
def vs_ (P:Program) (x:SI) (u:Tm->AV->Tm) (S:VS) (k:VS->VT):VT:=match nz_ P (av_ S.T x.rd topq) x.o with
 |some q=>k ⟨u S.T q,S.H,S.n,S.lv,S.D⟩
 |none=>.bad
def r7_ (P:Program) (c:VC) (x:SI) (Hx:AHeap) (u:Tm->AV->Tm) (S:VS) (k:VS->VT):VT:=match ce_ (ac_ P x.o) (av_ S.T x.rd topq) Hx with
 |some q=>k ⟨u S.T q,S.H,S.n,S.lv,S.D⟩
 |none=>match tS_ P c (av_ S.T x.rd topq) Hx x.o u S k with
 |some t=>t
 |none=>match (ac_ P x.o).run (av_ S.T x.rd topq) Hx with
  |some r=>match r with
   | .call g args=>match ur_ c.cs g with
     |some sh=>match ad_ args&&aF_ S.n args with
      |true=>.call g args S.n sh (k ⟨u S.T (di_ S.n sh),S.H,Nat.add S.n (du_ sh),S.lv,S.D⟩)
      |false=>.bad
     |none=>.bad
   |_=>.bad
  |none=>match lr_ x.o S.T with
   |some (i,_,_)=>.ite i (pv_ P x Hx u (S.know i true) k) (pv_ P x Hx u (S.know i false) k)
   |none=>match j6_ (av_ S.T x.rd topq) Hx x.o with
    |some (op,args)=>match aF_ S.n args with
     |true=>.lt op args S.n none (k ⟨u S.T (.sym S.n),S.H,Nat.succ S.n,S.lv,S.D⟩)
     |false=>.bad
    |none=>match c9_ (av_ S.T x.rd topq) x.o with
     |some (op,args)=>match ad_ args&&aF_ S.n args with
      |true=>match my_ P op with
        |none=>.lt op args S.n none (k ⟨u S.T (.sym S.n),S.H,Nat.succ S.n,S.lv,S.D⟩)
        |some m=>.lt op args S.n (some m) (k ⟨u S.T (.agg (ak_ S.n m)),S.H,Nat.add S.n m,S.lv,S.D⟩)
      |false=>.bad
     |none=>.bad
def jT_ (P:Program) (x:SI) (nx:Nat):Option (AV×ABlk):=match x.o.op with
 | .alloc t=>match e8_ P ⟨hnil,nx,Nat.succ nx⟩ t with
   |some p=>match p.2.get nx with
    |some k=>some (p.1,k)
    |none=>none
   |none=>none
 |_=>none
def ij_ (P:Program):List SI->AHeap->Option AHeap
 |[],H=>some H
 |x::r,H=>match ch_ x with
  |false=>ij_ P r H
  |true=>match H.get H.next with
   |some _=>none
   |none=>match H.room with
    |false=>none
    |true=>match jT_ P x H.next with
     |some p=>ij_ P r (H.push p.2)
     |none=>none
def jS_ (bef:Nat) (ids:List Nat):List SI->Nat->Nat->Bool
 |[],_,_=>true
 |y::r,i,nx=>match ch_ y with
  |false=>jS_ bef ids r (Nat.succ i) nx
  |true=>(bit bef i||not (memT nx ids))&&jS_ bef ids r (Nat.succ i) (Nat.succ nx)
def jR_ (bef:Nat):List SI->Nat->Bool
 |[],_=>true
 |y::r,i=>match ch_ y with
  |false=>jR_ bef r (Nat.succ i)
  |true=>bit bef i&&jR_ bef r (Nat.succ i)
def jU_ (l0:List SI):List SI->Bool
 |[]=>true
 |x::r=>match isW x with
  |false=>jU_ l0 r
  |true=>jR_ x.bef l0 0&&jU_ l0 r
def eM_ (x:SI) (nx:Nat):Nat:=match ch_ x with
 |true=>Nat.succ nx
 |false=>nx
def qr_ (P:Program) (c:VC) (all:List Oper) (l0:List SI) (n0 nx:Nat) (x:SI) (gs:List GW) (ps:List (Nat×List Nat)) (u:Tm->AV->Tm) (next:VS->VT) (S:VS):VT:=match aJ_ all x (av_ S.T x.rd topq)with
 |some t=>match t with
  |false=>next ⟨u S.T (.tup []),S.H,S.n,S.lv,S.D⟩
  |true=>match ch_ x with
   |true=>match jT_ P x nx with
    |some p=>next ⟨u S.T p.1,S.H,S.n,S.lv,S.D⟩
    |none=>.bad
   |false=>match isW x with
    |true=>match sY_ x.bef (bX_ x (av_ S.T x.rd topq)) ps with
     |true=>vDW P c x u S next
     |false=>.bad
    |false=>match rA_ x.bef (gk_ x S.T) gs&&jS_ x.bef (gk_ x S.T) l0 0 n0 with
     |true=>match x.fz with
      |true=>vs_ P x u S next
      |false=>r7_ P c x (gS_ x S gs) u S next
     |false=>.bad
 |none=>.bad
def iE_ (x:SI) (i:Nat) (S:VS) (gs:List GW):List GW:=match isW x with
 |true=>⟨i,S.H,bX_ x (av_ S.T x.rd topq)⟩::gs
 |false=>gs
def i8_ (x:SI) (i:Nat) (S:VS) (ps:List (Nat×List Nat)):List (Nat×List Nat):=match isW x with
 |true=>ps
 |false=>(i,gk_ x S.T)::ps
def jv_ (P:Program) (N:Nat) (c:VC) (all:List Oper) (l0:List SI) (n0:Nat):List SI->Nat->Nat->List GW->List (Nat×List Nat)->VS->(VS->VT)->VT
 |[],_,_,_,_,S,K=>K S
 |x::r,i,nx,gs,ps,S,K=>match bZ_ N x.o.dst with
  | .bad=>.bad
  | .mk u=>match mq_ all x.o S.T with
    |some k=>.ite k (qr_ P c all l0 n0 nx x gs ps u (λS'=>jv_ P N c all l0 n0 r (Nat.succ i) (eM_ x nx) (iE_ x i (S.know k true) gs) (i8_ x i (S.know k true) ps) S' K) (S.know k true)) (qr_ P c all l0 n0 nx x gs ps u (λS'=>jv_ P N c all l0 n0 r (Nat.succ i) (eM_ x nx) (iE_ x i (S.know k false) gs) (i8_ x i (S.know k false) ps) S' K) (S.know k false))
    |none=>qr_ P c all l0 n0 nx x gs ps u (λS'=>jv_ P N c all l0 n0 r (Nat.succ i) (eM_ x nx) (iE_ x i S gs) (i8_ x i S ps) S' K) S
def nk_ (P:Program) (N fuel:Nat) (I:Inl P fuel) (c:VC) (ops:List Oper) (S:VS) (X:VX->VT) (K:VS->VT):VT:=match n8_ ops with
 | .mk l _=>match dj_ l 0 with
   |b=>match lo_ (ep_ b l) 0&&jU_ (ep_ b l) (ep_ b l)with
    |true=>match ij_ P (ep_ b l) S.H with
     |some H=>jv_ P N c ops (ep_ b l) S.H.next (ep_ b l) 0 S.H.next [] [] ⟨S.T,H,S.n,S.lv,S.D⟩ λS=>lI_ P N fuel I c ops X (oB_ b ops) S K
     |none=>.bad
    |false=>.bad
 | .no=>.bad
def isF (c:VC) (o:Oper):Bool:=match o.op with
 | .call cl=>match cl.callee with
   | .value f=>match f with
     | .func g=>match t3_ c.fs g with
       |some _=>true
       |none=>false
     |_=>false
   |_=>false
 |_=>false
def u8_ (c:VC):List Oper->Bool
 |[]=>false
 |o::r=>match isF c o with
  |true=>true
  |false=>u8_ c r
def mU_ (m:Nat):List Edge->Bool
 |[]=>true
 |e::r=>match dY_ e with
  |true=>bit m e.on&&mU_ m r
  |false=>mU_ m r
structure I_q where
 i:Nat
 o:Oper
def ja_ (m:Nat):List Oper->Nat->List I_q
 |[],_=>[]
 |o::r,i=>match not (bit m i)&&mU_ m o.after.toList with
  |true=>⟨i,o⟩::ja_ m r (Nat.succ i)
  |false=>ja_ m r (Nat.succ i)
def m4_ (m i:Nat):Nat:=Nat.lor m (Nat.pow 2 i)
def sB_ (i:Nat):List Edge->Bool
 |[]=>false
 |e::r=>match dY_ e&&Nat.beq e.on i with
  |true=>true
  |false=>sB_ i r
def apartB (all:List Oper) (x y:Oper):Bool:=(match x.dst with
    |some d=>not (memT d (cT_ all y))&&(match y.dst with
     |some e=>not (Nat.beq d e)
     |none=>true)
    |none=>true)&&(match y.dst with
    |some e=>not (memT e (cT_ all x))
    |none=>true)
def oP_ (all:List Oper) (m i:Nat) (x:Oper):List Oper->Nat->Bool
 |[],_=>true
 |y::r,j=>(Nat.beq j i||(bit m j||(sB_ i y.after.toList||apartB all x y)))&&oP_ all m i x r (Nat.succ j)
def mL_:List Oper->Bool
 |[]=>true
 |o::r=>match o.op with
  | .select _ _=>false
  |_=>mL_ r
def o4_ (P:Program) (T:Tm) (o:Oper):Option AV:=match o.guard with
 |some _=>none
 |none=>match o.op with
  | .move x=>some (look T x)
  | .nilCheck x=>match look T x with
    | .ptr id off=>some (.ptr id off)
    |_=>none
  | .fieldAddr s x f=>match look T x with
    | .ptr id off=>bT_ P s (.ptr id off) f
    |_=>none
  | .extract x i=>match look T x with
    | .tup cs=>mN_ i cs
    |_=>none
  |_=>none
structure MV where
 x:I_q
 a:AV
def i6_ (P:Program) (all:List Oper) (m:Nat) (T:Tm):List I_q->Option MV
 |[]=>none
 |x::r=>match o4_ P T x.o with
  |some a=>match oP_ all m x.i x.o all 0 with
   |true=>some ⟨x,a⟩
   |false=>i6_ P all m T r
  |none=>i6_ P all m T r
def q1_:List (Nat×AV)->List (Nat×AV)->Bool
 |[],[]=>true
 |(i,a)::r,(j,b)::s=>Nat.beq i j&&(bP_ a b&&q1_ r s)
 |_,_=>false
def q2_:List (Nat×List AV)->List (Nat×List AV)->Bool
 |[],[]=>true
 |(i,a)::r,(j,b)::s=>Nat.beq i j&&(dE_ a b&&q2_ r s)
 |_,_=>false
def nD_:Option Nat->Option Nat->Bool
 |none,none=>true
 |some a,some b=>Nat.beq a b
 |_,_=>false
def q0_:List (Option Nat)->List (Option Nat)->Bool
 |[],[]=>true
 |a::r,b::s=>nD_ a b&&q0_ r s
 |_,_=>false
def pH_:List (Nat×Nat)->List (Nat×Nat)->Bool
 |[],[]=>true
 |(i,a)::r,(j,b)::s=>Nat.beq i j&&(Nat.beq a b&&pH_ r s)
 |_,_=>false
def l7_:List TA->List TA->Bool
 |[],[]=>true
 |⟨a,b,c,d,e⟩::r,⟨a',b',c',d',e'⟩::s=>Nat.beq a a'&&(Nat.beq b b'&&(Nat.beq c c'&&(Nat.beq d d'&&(nD_ e e'&&l7_ r s))))
 |_,_=>false
def oJ_:Tpl->Tpl->Bool
 |⟨a,b,c,d,e,f,g⟩,⟨a',b',c',d',e',f',g'⟩=>q1_ a a'&&(q2_ b b'&&(Nat.beq c c'&&(Nat.beq d d'&&(l7_ e e'&&(pH_ f f'&&pH_ g g')))))
def qY_:List (Bool×Tpl)->List (Bool×Tpl)->Bool
 |[],[]=>true
 |(i,a)::r,(j,b)::s=>i==j&&(oJ_ a b&&qY_ r s)
 |_,_=>false
def u6_:FT->FT->Bool
 |⟨a,b,c⟩,⟨a',b',c'⟩=>Nat.beq a a'&&(oJ_ b b'&&qY_ c c')
def t1_:XOp->XOp->Bool
 | .bin o t a b,.bin o' t' a' b'=>decide (o=o')&&(Nat.beq t t'&&(a==a'&&b==b'))
 | .un o,.un o'=>decide (o=o')
 | .conv a b,.conv a' b'=>Nat.beq a a'&&Nat.beq b b'
 | .idx a,.idx a'=>Nat.beq a a'
 | .iaddr a,.iaddr a'=>Nat.beq a a'
 | .faddr a b,.faddr a' b'=>Nat.beq a a'&&Nat.beq b b'
 | .load a,.load a'=>Nat.beq a a'
 | .fld a b,.fld a' b'=>Nat.beq a a'&&Nat.beq b b'
 | .slc t a b,.slc t' a' b'=>Nat.beq t t'&&(a==a'&&b==b')
 | .len a,.len a'=>Nat.beq a a'
 | .nilc,.nilc=>true
 | .app a b,.app a' b'=>Nat.beq a a'&&Nat.beq b b'
 | .mm a,.mm a'=>a==a'
 | .ext a,.ext a'=>Nat.beq a a'
 | .inb,.inb=>true
 | .ldx a b c,.ldx a' b' c'=>Nat.beq a a'&&(Nat.beq b b'&&Nat.beq c c')
 | .stx a b c,.stx a' b' c'=>Nat.beq a a'&&(Nat.beq b b'&&Nat.beq c c')
 | .tkx,.tkx=>true
 | .emp,.emp=>true
 | .mkx a b c,.mkx a' b' c'=>Nat.beq a a'&&(Nat.beq b b'&&dE_ c c')
 | .mkz a b c,.mkz a' b' c'=>Nat.beq a a'&&(Nat.beq b b'&&dE_ c c')
 | .skx,.skx=>true
 | .flat a b c d,.flat a' b' c' d'=>Nat.beq a a'&&(Nat.beq b b'&&(Nat.beq c c'&&Nat.beq d d'))
 | .opn a b,.opn a' b'=>Nat.beq a a'&&Nat.beq b b'
 |_,_=>false
def qW_:Chk->Chk->Bool
 | .same i j,.same i' j'=>Nat.beq i i'&&Nat.beq j j'
 | .nn i,.nn i'=>Nat.beq i i'
 | .pos i,.pos i'=>Nat.beq i i'
 |_,_=>false
mutual
def dH_:VT->VT->Bool
 | .done v,.done w=>bP_ v w
 | .ite i a b,.ite i' a' b'=>Nat.beq i i'&&(dH_ a a'&&dH_ b b')
 | .lt o l n m t,.lt o' l' n' m' t'=>t1_ o o'&&(dE_ l l'&&(Nat.beq n n'&&(nD_ m m'&&dH_ t t')))
 | .call f l n sh t,.call f' l' n' sh' t'=>Nat.beq f f'&&(dE_ l l'&&(Nat.beq n n'&&(q0_ sh sh'&&dH_ t t')))
 | .loop n j hv bs,.loop n' j' hv' bs'=>Nat.beq n n'&&(Nat.beq j j'&&(dE_ hv hv'&&kc_ bs bs'))
 | .again l j hv,.again l' j' hv'=>Nat.beq l l'&&(Nat.beq j j'&&dE_ hv hv')
 | .chk c t,.chk c' t'=>qW_ c c'&&dH_ t t'
 | .callF f ft hv n bs,.callF f' ft' hv' n' bs'=>Nat.beq f f'&&(u6_ ft ft'&&(dE_ hv hv'&&(Nat.beq n n'&&kc_ bs bs')))
 | .both a b,.both a' b'=>dH_ a a'&&dH_ b b'
 |_,_=>false
def kc_:VTs->VTs->Bool
 | .nil,.nil=>true
 | .cons n t r,.cons n' t' r'=>Nat.beq n n'&&(dH_ t t'&&kc_ r r')
 |_,_=>false
end
def n0_ (a b:VT):VT:=match dH_ a b with
 |true=>a
 |false=>.both a b
def ou_ (f:I_q->VT) (x:I_q):List I_q->VT
 |[]=>f x
 |y::r=>n0_ (f x) (ou_ f y r)
def om_ (P:Program) (N fuel:Nat) (I:Inl P fuel) (c:VC) (all:List Oper) (X:VX->VT) (K:VS->VT):Nat->Nat->VS->VT
 |0,_,_=>.bad
 |n+1,m,S=>match ja_ m all 0 with
  |[]=>K S
  |x::r=>match i6_ P all m S.T (x::r)with
   |some q=>match bZ_ N q.x.o.dst with
    | .mk u=>om_ P N fuel I c all X K n (m4_ m q.x.i) ⟨u S.T q.a,S.H,S.n,S.lv,S.D⟩
    | .bad=>.bad
   |none=>ou_ (λx=>lI_ P N fuel I c all X [x.o] S λS'=>om_ P N fuel I c all X K n (m4_ m x.i) S') x r
def ew_:List Oper->Tm->Tm
 |[],T=>T
 |o::r,T=>match o.dst with
  |some d=>ew_ r (dB_ T d .opq)
  |none=>ew_ r T
def j1_ (ops:List Oper) (X:VX->VT) (r:VX):VT:=match r with
 | .pan v S=>X (.pan v ⟨ew_ ops S.T,S.H,S.n,S.lv,S.D⟩)
 | .exit i S=>X (.exit i S)
 | .ret S=>X (.ret S)
def sC_ (N:Nat):List Oper->Bool
 |[]=>true
 |o::r=>(match o.dst with
  |some d=>Nat.blt d N
  |none=>true)&&sC_ N r
def tw_ (c:VC):Nat->List SI->Bool
 |0,_=>false
 |_+1,[]=>false
 |n+1,x::r=>match isF c x.o with
  |true=>true
  |false=>tw_ c n r
def vR_ (c:VC) (ops:List Oper):Bool:=match n8_ ops with
 | .mk l _=>tw_ c (dj_ l 0) l
 | .no=>true
def pu_ (P:Program) (N fuel:Nat) (I:Inl P fuel) (c:VC) (ops:List Oper) (S:VS) (X:VX->VT) (K:VS->VT):VT:=match mL_ ops&&(sC_ N ops&&Nat.ble N 512)with
 |true=>om_ P N fuel I c ops (j1_ ops X) K (Nat.succ (lenOp ops)) 0 S
 |false=>.bad
where
 lenOp:List Oper->Nat
 |[]=>0
 |_::r=>Nat.succ (lenOp r)
def vV_ (ops:List Oper):Bool:=match n8_ ops with
 | .mk l _=>match dj_ l 0 with
   |b=>lo_ (ep_ b l) 0&&jU_ (ep_ b l) (ep_ b l)
 | .no=>true
def ql_ (T:Tm):List Oper->Nat->AV
 |[],_=>.opq
 |o::r,t=>match o.op with
  | .move x=>match o.dst with
    |some d=>match Nat.beq d t with
     |true=>look T x
     |false=>ql_ T r t
    |none=>ql_ T r t
  |_=>ql_ T r t
def vl_ (own:Bool) (T:Tm) (all:List Oper) (x i:Operand):List AV:=match x with
 | .tmp b=>match ql_ T all b with
   | .slx id z k=>match own with
     |true=>[]
     |false=>[.slx id z k]
   | .sl id off len z cap=>match i with
     | .tmp j=>match ql_ T all j with
       | .sym _=>[.sl id off len z cap]
       |_=>[]
     |_=>[]
   |_=>[]
 |_=>[]
def pj_ (T:Tm) (all:List Oper):List (Nat×Operand)->List AV
 |[]=>[]
 |(_,x)::r=>match x with
  | .tmp t=>match ql_ T all t with
    | .slx id z k=>.slx id z k::pj_ T all r
    |_=>pj_ T all r
  |_=>pj_ T all r
def je_ (own:Bool) (T:Tm) (all:List Oper):List Oper->List AV
 |[]=>[]
 |o::r=>match o.op with
  | .indexAddr _ x i=>jE_ (vl_ own T all x i) (je_ own T all r)
  | .buildSlice _ _ ps=>match own with
    |true=>je_ own T all r
    |false=>jE_ (pj_ T all ps.toList) (je_ own T all r)
  |_=>je_ own T all r
def jL_ (own:Bool) (l:List Oper) (S:VS):VS:=match je_ own S.T l l with
 |[]=>S
 |a=>dC_ S a
def py_ (b:VS->(VS->VT)->VT):Nat->VS->VT
 |0,_=>.bad
 |n+1,S=>b S λS'=>py_ b n S'
def ol_ (n k lvl:Nat) (tps:List Tpl) (S:VS):VT:=match dT_ n k tps 0 S with
 |some r=>ji_ r.l (qN_ r.m.nn (.again lvl r.j r.m.hv))
 |none=>.bad
def lF_ (b:VS->(VS->VT)->VT) (n k lvl:Nat) (tps:List Tpl):List Tpl->VTs
 |[]=>.nil
 |tp::r=>.cons tp.nv (b (tp.inst n (Nat.succ lvl)) (ol_ n k lvl tps)) (lF_ b n k lvl tps r)
def uG_ (k:Nat) (b:VS->(VS->VT)->VT) (tps:List Tpl) (S:VS):VT:=match dT_ S.n k tps 0 S with
 |some r=>ji_ r.l (qN_ r.m.nn (.loop S.n r.j r.m.hv (lF_ b S.n k S.lv tps tps)))
 |none=>.bad
def uz_ (id:Nat) (K:VS->VT) (X:VX->VT) (r:VX):VT:=match r with
 | .exit id' S=>match Nat.beq id' id with
   |true=>K S
   |false=>X r
 | .ret _=>X r
 | .pan _ _=>X r
mutual
def mQ_ (id sz i len:Nat):AV->AV
 | .slx id' z j=>match Nat.beq id id'&&(Nat.beq sz z&&Nat.beq i j)with
   |true=>.sl id 0 len sz none
   |false=>.slx id' z j
 | .agg cs=>.agg (hO_ id sz i len cs)
 | .tup cs=>.tup (hO_ id sz i len cs)
 |a=>a
def hO_ (id sz i len:Nat):List AV->List AV
 |[]=>[]
 |a::r=>mQ_ id sz i len a::hO_ id sz i len r
end
def qe_ (id sz i len:Nat) (H:AHeap):List Nat->AHeap
 |[]=>H
 |q::r=>match (qe_ id sz i len H r).get q with
  |some (.cells cs)=>(qe_ id sz i len H r).set q (.cells (hO_ id sz i len cs))
  |_=>qe_ id sz i len H r
def jA_ (t:TA) (i:Nat) (S:VS):VS:=⟨bj_ (mQ_ t.id t.sz i t.j) S.T,qe_ t.id t.sz i t.j (S.H.set t.id (.cells (ak_ S.n (Nat.mul t.j t.sz)))) [0,1,2,3],Nat.add S.n (Nat.mul t.j t.sz),S.lv,S.D⟩
def nn_:List TA->VS->(VS->VT)->VT
 |[],S,k=>k S
 |t::r,S,k=>match S.H.get t.id with
  |some (.syl i)=>.lt (.opn t.j t.sz) [.sym i] S.n (some (Nat.mul t.j t.sz)) (nn_ r (jA_ t i S) k)
  |_=>nn_ r S k
def mn_ (t o:Nat) (S:VS):VS:=match tget S.T t with
 | .ptr id b=>match S.H.get id with
   |some (.cells cs)=>match mN_ (Nat.add b o) cs with
    |some a=>tT_ S [a] id
    |none=>S
   |_=>S
 |a=>dC_ S [a]
def mo_ (S:VS):List (Nat×Nat)->VS
 |[]=>S
 |(t,o)::r=>mo_ (mn_ t o S) r
def uE_ (c:VC) (rid:Nat) (ops:List Oper) (S:VS) (k:VS->VT):VT:=match ops with
 |[]=>k S
 |_::_=>match h3_ c.hs (Nat.add 10000 rid)with
  |some (tp::_)=>nn_ tp.acc (mo_ S tp.fix) k
  |_=>k S
def u1_ (c:VC) (rid:Nat):Bool:=match h3_ c.hs (Nat.add 20000 rid)with
 |some _=>true
 |none=>false
def sh_ (P:Program) (N fuel:Nat) (I:Inl P fuel) (c:VC) (any:Bool) (ops:Array Oper) (draw:Bool) (S:VS) (K:VS->VT) (X:VX->VT):VT:=match draw with
 |false=>lI_ P N fuel I c ops.toList X ops.toList S K
 |true=>match j9_ P (a8_ P fuel) N ops.toList S.T S.H S.D with
  |some r=>match r with
   | .norm T H D=>K ⟨T,H,S.n,S.lv,D⟩
   |_=>.bad
  |none=>match u8_ c ops.toList with
   |false=>match !any&&vV_ ops.toList with
    |true=>nk_ P N fuel I c ops.toList (jL_ c.own ops.toList S) X K
    |false=>pu_ P N fuel I c ops.toList S X K
   |true=>match vR_ c ops.toList with
    |true=>pu_ P N fuel I c ops.toList S X K
    |false=>nk_ P N fuel I c ops.toList (jL_ c.own ops.toList S) X K
def cl_ (P:Program) (N fuel:Nat) (I:Inl P fuel) (c:VC):Nat->Code->VS->(VS->VT)->(VX->VT)->VT
 |_,.skip,S,K,X=>K S
 |_,.label _,S,K,X=>K S
 |_,.region rid ops draw,S,K,X=>uE_ c rid ops.toList S λS=>sh_ P N fuel I c (u1_ c rid) ops draw S K X
 |bid,.seq a b,S,K,X=>cl_ P N fuel I c bid a S (λS=>cl_ P N fuel I c bid b S K X) X
 |bid,.cond cd a b,S,K,X=>match look S.T cd with
  | .bool t=>match t with
    |true=>cl_ P N fuel I c bid a S K X
    |false=>cl_ P N fuel I c bid b S K X
  |_=>match jq_ S.T cd with
   |some i=>.ite i (cl_ P N fuel I c bid a (S.know i true) K X) (cl_ P N fuel I c bid b (S.know i false) K X)
   |none=>.bad
 |_,.block id b,S,K,X=>cl_ P N fuel I c id b S K (uz_ id K X)
 |bid,.loop b,S,K,X=>match h3_ c.hs bid with
  |some tps=>uG_ c.k (λS K=>cl_ P N fuel I c bid b S K X) tps S
  |none=>py_ (λS K=>cl_ P N fuel I c bid b S K X) fuel S
 |_,.exit id,S,K,X=>X (.exit id S)
 |_,.ret,S,K,X=>X (.ret S)
 |_,_,_,_,_=>.bad
def r9_ (Q:Option (AV×AHeap)):VT:=match Q with
 |some (a,H)=>match eT_ 100 H a with
  |some v=>match ae_ v with
   |true=>.done v
   |false=>.bad
  |none=>.bad
 |none=>.bad
def nO_:List Oper->Bool
 |[]=>false
 |o::r=>match o.op with
  | .call c=>match c.callee with
    | .builtin .recover=>true
    |_=>nO_ r
  |_=>nO_ r
def vU_ (u:Option AV) (ops:List Oper):Bool:=match u with
 |some _=>true
 |none=>nO_ ops
def dk_ (P:Program) (N fuel:Nat) (I:Inl P fuel) (c:VC):Code->VS->Option AV->(VS->Option AV->VT)->(VS->Option AV->VT)->VT
 | .skip,S,u,K,R=>K S u
 | .region rid ops draw,S,u,K,R=>match vU_ u ops.toList with
   |true=>match draw with
    |true=>.bad
    |false=>match lp_ P (a8_ P fuel) N ops.toList ops.toList S.T S.H u with
     |some r=>match r with
      | .norm T H u'=>K ⟨T,H,S.n,S.lv,[]⟩ u'
      | .ret _ _ _=>.bad
     |none=>.bad
   |false=>sh_ P N fuel I c (u1_ c rid) ops draw S (λS=>match S.D with
    |[]=>K S none
    |_::_=>.bad) (λ_=>.bad)
 | .seq a b,S,u,K,R=>dk_ P N fuel I c a S u (λS u=>dk_ P N fuel I c b S u K R) R
 | .cond cd a b,S,u,K,R=>match look S.T cd with
   | .bool t=>match t with
     |true=>dk_ P N fuel I c a S u K R
     |false=>dk_ P N fuel I c b S u K R
   |_=>match jq_ S.T cd with
    |some i=>.ite i (dk_ P N fuel I c a (S.know i true) u K R) (dk_ P N fuel I c b (S.know i false) u K R)
    |none=>.bad
 | .block _ b,S,u,K,R=>dk_ P N fuel I c b S u K R
 | .ret,S,u,K,R=>R S u
 |_,_,_,_,_=>.bad
def ej_ (P:Program) (fuel:Nat) (I:Inl P fuel) (c:VC) (rs:List ResultVar) (fin:FRes->Nat->Nat->VT):Dfs->Tm->AHeap->Nat->Nat->Option AV->VT
 |[],T,H,n,lv,u=>match c8_ P (a8_ P fuel) fuel rs T [] H u with
  |some r=>fin r n lv
  |none=>.bad
 |(f,args)::D,T,H,n,lv,u=>match P.funcs[f]? with
  |some fn=>match fn.body with
   |some cd=>match Nat.ble (aK_ args) fn.ntmps&&(Nat.ble fn.ntmps 512&&(oT_ H.next n D&&Nat.ble c.k H.next))with
    |true=>match (λ(S:VS) (u:Option AV)=>match eo_ P S.T S.H fn.results.toList with
       |some _=>ej_ P fuel I c rs fin D (bj_ (bO_ H.next n) T) S.H S.n S.lv u
       |none=>.bad)with
     |K=>dk_ P fn.ntmps fuel I ⟨c.fc,c.cs,[],H.next,c.own,c.fs⟩ cd ⟨aV_ args 0 tnil,H,n,lv,[]⟩ u K K
    |false=>.bad
   |none=>.bad
  |none=>.bad
def jx_ (P:Program) (fuel:Nat) (I:Inl P fuel) (c:VC) (rs:List ResultVar) (fin:FRes->Nat->Nat->VT) (u:Option AV) (S:VS):VT:=match c8_ P (a8_ P fuel) fuel rs S.T S.D S.H u with
 |some r=>fin r S.n S.lv
 |none=>ej_ P fuel I c rs fin S.D S.T S.H S.n S.lv u
def r8_ (r:FRes) (_ _:Nat):VT:=match r with
 | .ret a H=>r9_ (some (a,H))
 | .pan _ _=>.bad
def pw_ (P:Program) (fuel:Nat) (I:Inl P fuel) (c:VC) (rs:List ResultVar) (u:Option AV) (S:VS):VT:=jx_ P fuel I c rs r8_ u S
def v5_ (P:Program) (fuel:Nat) (I:Inl P fuel) (c:VC) (rs:List ResultVar) (r:VX):VT:=match r with
 | .ret S=>pw_ P fuel I c rs none S
 | .pan v S=>pw_ P fuel I c rs (some v) S
 | .exit _ _=>.bad
def qs_ (n k:Nat) (b:Bool) (S:VS):List (Bool×Tpl)->Nat->VT
 |[],_=>.bad
 |(b',tp)::r,j=>match b==b' with
  |false=>qs_ n k b S r (Nat.succ j)
  |true=>match dd_ tp S with
   |f=>match g2_ n k tp f.S with
    |some m=>ji_ f.l (qN_ m.nn (.done (.tup (.int .i64 (.ofNat j)::m.hv))))
    |none=>qs_ n k b S r (Nat.succ j)
def tl_ (ft:FT) (r:FRes) (n lv:Nat):VT:=match r with
 | .ret a H=>qs_ (Nat.add 64 ft.ent.nv) ft.k false ⟨dB_ topq 0 a,H,n,lv,[]⟩ ft.exs 0
 | .pan a H=>qs_ (Nat.add 64 ft.ent.nv) ft.k true ⟨dB_ topq 0 a,H,n,lv,[]⟩ ft.exs 0
def hh_ (P:Program) (fuel:Nat) (I:Inl P fuel) (c:VC) (rs:List ResultVar) (ft:FT) (u:Option AV) (S:VS):VT:=jx_ P fuel I c rs (tl_ ft) u S
def tU_ (P:Program) (fuel:Nat) (I:Inl P fuel) (c:VC) (rs:List ResultVar) (ft:FT) (r:VX):VT:=match r with
 | .ret S=>hh_ P fuel I c rs ft none S
 | .pan v S=>hh_ P fuel I c rs ft (some v) S
 | .exit _ _=>.bad
def sc_ (P:Program) (fuel:Nat) (I:Inl P fuel) (c:VC) (f:FuncId) (ft:FT):VT:=match P.funcs[f]? with
 |some fn=>match fn.body with
  |some cd=>match Nat.ble (aK_ (cm_ ft.ent.slots)) fn.ntmps&&(Nat.ble fn.ntmps 512&&Nat.beq c.k ft.k)with
   |true=>cl_ P fn.ntmps fuel I c 0 cd ⟨aV_ (bs_ 64 (cm_ ft.ent.slots)) 0 tnil,ft.ent.heap 64,Nat.add 64 ft.ent.nv,0,[]⟩ (hh_ P fuel I c fn.results.toList ft none) (tU_ P fuel I c fn.results.toList ft)
   |false=>.bad
  |none=>.bad
 |none=>.bad
def uA_ (P:Program) (fuel:Nat) (I:Inl P fuel) (c:VC) (f:FuncId) (args:List AV) (n:Nat):VT:=match P.funcs[f]? with
 |some fn=>match fn.body with
  |some cd=>match Nat.ble (aK_ args) fn.ntmps&&Nat.ble fn.ntmps 512 with
   |true=>cl_ P fn.ntmps fuel I c 0 cd ⟨aV_ args 0 tnil,H0,n,0,[]⟩ (pw_ P fuel I c fn.results.toList none) (v5_ P fuel I c fn.results.toList)
   |false=>.bad
  |none=>.bad
 |none=>.bad
def vu_ (ret pan:AV->AHeap->Nat->Nat->VT) (r:FRes) (n lv:Nat):VT:=match r with
 | .ret a H=>ret a H n lv
 | .pan a H=>pan a H n lv
def px_ (P:Program) (fuel:Nat) (I:Inl P fuel) (c:VC) (rs:List ResultVar) (ret pan:AV->AHeap->Nat->Nat->VT) (u:Option AV) (S:VS):VT:=jx_ P fuel I c rs (vu_ ret pan) u S
def vv_ (P:Program) (fuel:Nat) (I:Inl P fuel) (c:VC) (rs:List ResultVar) (ret pan:AV->AHeap->Nat->Nat->VT) (r:VX):VT:=match r with
 | .exit _ _=>.bad
 | .ret S=>px_ P fuel I c rs ret pan none S
 | .pan v S=>px_ P fuel I c rs ret pan (some v) S
def uC_ (P:Program) (fuel:Nat) (I:Inl P fuel) (c:VC) (g:FuncId) (args:List AV) (H:AHeap) (n lv:Nat) (ret pan:AV->AHeap->Nat->Nat->VT):VT:=match P.funcs[g]? with
 |some fn=>match fn.body with
  |some cd=>match Nat.ble (aK_ args) fn.ntmps&&Nat.ble fn.ntmps 512 with
   |true=>cl_ P fn.ntmps fuel I ⟨c.fc,c.cs,[],H.next,c.own,c.fs⟩ 0 cd ⟨aV_ args 0 tnil,H,n,lv,[]⟩ (px_ P fuel I ⟨c.fc,c.cs,[],H.next,c.own,c.fs⟩ fn.results.toList ret pan none) (vv_ P fuel I ⟨c.fc,c.cs,[],H.next,c.own,c.fs⟩ fn.results.toList ret pan)
   |false=>.bad
  |none=>.bad
 |none=>.bad
end
end Go.Sx
