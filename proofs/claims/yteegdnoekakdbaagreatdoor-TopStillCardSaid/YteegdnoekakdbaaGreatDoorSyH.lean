/-
  The evaluator with symbols, with loops by templates and calls by what is known of them.
-/
import Derived.Test.YteegdnoekakdbaaGreatDoorSyX
set_option linter.unusedVariables false
set_option linter.unusedSimpArgs false
namespace Go.Sx
structure TA where
 id:Nat
 sz:Nat
 j:Nat
 loc:Nat
 off:Option Nat
structure Tpl where
 slots:List (Nat×AV)
 rows:List (Nat×List AV)
 next:Nat
 nv:Nat
 acc:List TA:=[]
 maps:List (Nat×Nat):=[]
 fix:List (Nat×Nat):=[]
abbrev sS_:=List (Nat×List Tpl)
structure FT where
 k:Nat
 ent:Tpl
 exs:List (Bool×Tpl)
inductive Chk where
 |same (i j:Nat)
 |nn (i:Nat)
 |pos (i:Nat)
mutual
inductive VT where
 |bad
 |done (v:AV)
 |ite (i:Nat) (a b:VT)
 |lt (op:XOp) (args:List AV) (n:Nat) (m:Option Nat) (t:VT)
 |call (f:FuncId) (args:List AV) (n:Nat) (sh:List (Option Nat)) (t:VT)
 |loop (n j:Nat) (hv:List AV) (bs:VTs)
 |again (lvl j:Nat) (hv:List AV)
 |chk (c:Chk) (t:VT)
 |callF (f:FuncId) (ft:FT) (hv:List AV) (n:Nat) (bs:VTs)
 |both (a b:VT)
inductive VTs where
 |nil
 |cons (nv:Nat) (t:VT) (r:VTs)
end
def flat:List (Option Nat)->List AV->Option (List AV)
 |[],[]=>some []
 |none::s,a::r=>match flat s r with
  |some l=>some (a::l)
  |none=>none
 |some m::s,.agg cs::r=>match decide (cs.length=m)with
  |true=>match flat s r with
   |some l=>some (cs++l)
   |none=>none
  |false=>none
 |_,_=>none
def ii_ (sh:List (Option Nat)) (v:AV):Option (List AV):=match sh with
 |[s]=>flat [s] [v]
 |sh=>match v with
  | .tup l=>flat sh l
  |_=>none
def fD_:Nat->List (Option Nat)->List AV
 |_,[]=>[]
 |n,none::s=>.sym n::fD_ (Nat.succ n) s
 |n,some m::s=>.agg (ai_ n m)::fD_ (Nat.add n m) s
def c8_ (n:Nat) (sh:List (Option Nat)):AV:=match sh with
 |[s]=>match fD_ n [s]with
  |a::_=>a
  |[]=>.tup []
 |sh=>.tup (fD_ n sh)
def dL_:List (Option Nat)->Nat
 |[]=>0
 |none::s=>Nat.succ (dL_ s)
 |some m::s=>Nat.add m (dL_ s)
mutual
def bv_ (n:Nat):AV->AV
 | .slx j z i=>match z with
   |0=>.sym (Nat.add n j)
   |z+1=>.slx j (z+1) (Nat.add n i)
 | .ptx id j sz _=>.slx id sz j
 | .vptr cs=>.vptr (bS_ n cs)
 | .vsl a z cs=>.vsl a z (bS_ n cs)
 | .fn f cs=>.fn f (bS_ n cs)
 | .iface t a=>.iface t (bv_ n a)
 | .agg cs=>.agg (bS_ n cs)
 | .tup cs=>.tup (bS_ n cs)
 |a=>a
def bS_ (n:Nat):List AV->List AV
 |[]=>[]
 |a::r=>bv_ n a::bS_ n r
end
def c2_ (n:Nat):List (Nat×AV)->Tm
 |[]=>topq
 |(t,a)::r=>eM_ (c2_ n r) t (bv_ n a)
def iq_ (n next:Nat):List (Nat×List AV)->AHeap
 |[]=>⟨hnil,next,top⟩
 |(id,cs)::r=>(iq_ n next r).set id (.cells (bS_ n cs))
def hg_ (n:Nat) (H:AHeap):List TA->AHeap
 |[]=>H
 |t::r=>(hg_ n H r).set t.id (.syl (Nat.add n t.j))
def jX_ (n:Nat) (H:AHeap):List (Nat×Nat)->AHeap
 |[]=>H
 |(id,j)::r=>(jX_ n H r).set id (.mpl (Nat.add n j))
def lu_:Nat:=1500
def hf_ (i:Nat):Nat:=Nat.div (Nat.sub i lu_) 16
def zF (i:Nat):Nat:=Nat.mod (Nat.sub i lu_) 16
def jv_ (n i:Nat):Nat:=match Nat.blt i lu_ with
 |true=>i
 |false=>Nat.add n (hf_ i)
def jW_ (n:Nat) (H:AHeap):List (Nat×Nat)->AHeap
 |[]=>H
 |(id,i)::r=>(jW_ n H r).set id (.syl (jv_ n i))
def pB_:List (Nat×Nat)->List Nat->List Nat
 |[],acc=>acc
 |(id,_)::r,acc=>id::pB_ r acc
def oE_ (H:AHeap) (id:Nat):Option AV:=match H.get id with
 |some (.map es _)=>match ad_ (aK_ es)&&fx_ es with
  |true=>some (.vsl (l7_ es) 2 (aK_ es))
  |false=>none
 |some (.mpl i)=>some (.sym i)
 |_=>none
def l4_:List (Nat×List AV)->List Nat
 |[]=>[]
 |(id,_)::r=>id::l4_ r
mutual
def tn_:AV->AV->List (Nat×AV)->List (Nat×AV)
 | .slx j z _,a,acc=>match z with
   |0=>(j,a)::acc
   |_+1=>acc
 | .agg ts,.agg cs,acc=>m9_ ts cs acc
 | .tup ts,.tup cs,acc=>m9_ ts cs acc
 | .vptr ts,.vptr cs,acc=>m9_ ts cs acc
 | .vsl _ _ ts,.vsl _ _ cs,acc=>m9_ ts cs acc
 | .fn _ ts,.fn _ cs,acc=>m9_ ts cs acc
 | .iface _ t,.iface _ a,acc=>tn_ t a acc
 |_,_,acc=>acc
def m9_:List AV->List AV->List (Nat×AV)->List (Nat×AV)
 |t::ts,a::r,acc=>tn_ t a (m9_ ts r acc)
 |_,_,acc=>acc
end
def s1_:List (Nat×AV)->Nat->Option AV
 |[],_=>none
 |(i,a)::r,j=>match Nat.beq i j with
  |true=>some a
  |false=>s1_ r j
def ot_ (acc:List (Nat×AV)):Nat->Nat->Option (List AV)
 |_,0=>some []
 |j,m+1=>match s1_ acc j with
  |some a=>match ot_ acc (Nat.succ j) m with
   |some l=>some (a::l)
   |none=>none
  |none=>none
structure DA where
 id:Nat
 sz:Nat
 j:Nat
 x:AV
 act:Option Nat
def g1_ (H:AHeap) (sz:Nat) (a:AV):Option (AV×Option Nat):=match a with
 | .nsl=>some (.nsl,none)
 | .slx id sz' i=>match H.get id with
   |some (.syl k)=>match Nat.beq k i&&Nat.beq sz' sz with
    |true=>some (.sym i,some id)
    |false=>none
   |_=>none
 | .sl id off len sz' _=>match H.get id with
   |some (.cells cs)=>match bi_ (Nat.mul len sz) cs with
    |some cs=>match Nat.beq off 0&&(Nat.beq sz' sz&&(Nat.blt 0 len&&(Nat.beq (aP_ cs) (Nat.mul len sz)&&(ad_ cs&&a6_ cs))))with
     |true=>some (.vsl len sz cs,some id)
     |false=>none
    |none=>none
   |_=>none
 |_=>none
def ml_:Nat->List AV->Option AV
 |_,[]=>none
 |0,a::_=>some a
 |n+1,_::r=>ml_ n r
def az_:List (Nat×Nat)->Nat->Option Nat
 |[],_=>none
 |(a,t)::r,i=>match Nat.beq a i with
  |true=>some t
  |false=>az_ r i
def j4_ (T:Tm) (H:AHeap) (rn:List (Nat×Nat)) (t:TA):Option AV:=match t.off with
 |none=>some (tget T t.loc)
 |some o=>match az_ rn t.loc with
  |some a=>match H.get a with
   |some (.cells cs)=>ml_ o cs
   |_=>none
  |none=>match tget T (Nat.sub t.loc 600)with
   | .tup cs=>ml_ o cs
   | .agg cs=>ml_ o cs
   |_=>none
def pb_ (T:Tm) (H:AHeap) (rn:List (Nat×Nat)):List TA->Option (List DA)
 |[]=>some []
 |t::r=>match j4_ T H rn t with
  |some a=>match g1_ H t.sz a with
   |some (x,act)=>match pb_ T H rn r with
    |some l=>some (⟨t.id,t.sz,t.j,x,act⟩::l)
    |none=>none
   |none=>none
  |none=>none
def aE_:List DA->Nat->Option DA
 |[],_=>none
 |d::r,id=>match Nat.beq d.id id with
  |true=>some d
  |false=>aE_ r id
def ju_:Option Nat->Option Nat->Bool
 |none,none=>true
 |some a,some b=>Nat.beq a b
 |_,_=>false
mutual
def mA (H:AHeap) (ds:List DA) (rn:List (Nat×Nat)) (hv:List AV) (n:Nat):AV->AV->Bool
 | .opq,_=>true
 | .sym i,a=>Nat.blt i n&&bM_ (.sym i) a
 | .ptr id off,a=>match a with
   | .ptr id' off'=>ju_ (az_ rn id) (some id')&&Nat.beq off off'
   |_=>false
 | .sl id off len sz cap,a=>match a with
   | .sl id' off' len' sz' cap'=>ju_ (az_ rn id) (some id')&&(Nat.beq off off'&&(Nat.beq len len'&&(Nat.beq sz sz'&&(cap.isNone||cap==cap'))))
   |_=>false
 | .agg ts,a=>match a with
   | .agg cs=>mL H ds rn hv n ts cs
   |_=>false
 | .tup ts,a=>match a with
   | .tup cs=>mL H ds rn hv n ts cs
   |_=>false
 | .vptr ts,a=>match a with
   | .vptr cs=>mL H ds rn hv n ts cs
   |_=>false
 | .vsl len sz ts,a=>match a with
   | .vsl len' sz' cs=>Nat.beq len len'&&(Nat.beq sz sz'&&mL H ds rn hv n ts cs)
   |_=>false
 | .fn f ts,a=>match a with
   | .fn g cs=>Nat.beq f g&&mL H ds rn hv n ts cs
   |_=>false
 | .iface t x,a=>match a with
   | .iface u y=>Nat.beq t u&&mA H ds rn hv n x y
   |_=>false
 | .slx j z i,a=>match z with
   |0=>match cn_ j hv with
    |some x=>bM_ x a
    |none=>false
   |z+1=>match aE_ ds j with
    |some d=>match g1_ H (Nat.succ z) a with
     |some (x,act)=>Nat.beq d.sz (Nat.succ z)&&(Nat.beq d.j i&&(bM_ d.x x&&ju_ d.act act))
     |none=>false
    |none=>false
 | .ptx id i sz _,a=>match a with
   | .slx id' sz' i'=>ju_ (az_ rn id) (some id')&&(Nat.beq sz sz'&&(Nat.beq i i'&&Nat.blt i n))
   |_=>false
 | .map id,a=>match a with
   | .map id'=>ju_ (az_ rn id) (some id')
   |_=>false
 |t,a=>bM_ t a
def mL (H:AHeap) (ds:List DA) (rn:List (Nat×Nat)) (hv:List AV) (n:Nat):List AV->List AV->Bool
 |[],[]=>true
 |t::ts,a::r=>mA H ds rn hv n t a&&mL H ds rn hv n ts r
 |_,_=>false
end
mutual
def eL_ (n:Nat):AV->Bool
 | .sym i=>Nat.blt i n
 | .vptr cs=>aF_ n cs
 | .vsl _ _ cs=>aF_ n cs
 | .fn _ cs=>aF_ n cs
 | .iface _ a=>eL_ n a
 | .agg cs=>aF_ n cs
 | .tup cs=>aF_ n cs
 |_=>true
def aF_ (n:Nat):List AV->Bool
 |[]=>true
 |a::r=>eL_ n a&&aF_ n r
end
structure VS where
 T:Tm
 H:AHeap
 n:Nat
 lv:Nat
 D:Dfs
inductive VX where
 |exit (id:Nat) (S:VS)
 |ret (S:VS)
 |pan (v:AV) (S:VS)
def VS.x (S:VS):XS:=⟨S.T,S.H,S.n⟩
def VS.know (S:VS) (i:Nat) (b:Bool):VS:=⟨bd_ (gX_ i b) S.T,S.H,S.n,S.lv,S.D⟩
def ue_ (T:Tm):List (Nat×AV)->List (Nat×AV)->List (Nat×AV)
 |[],acc=>acc
 |(t,a)::r,acc=>tn_ a (tget T t) (ue_ T r acc)
def ud_ (H:AHeap) (rn:List (Nat×Nat)):List (Nat×List AV)->List (Nat×AV)->List (Nat×AV)
 |[],acc=>acc
 |(id,cs)::r,acc=>match az_ rn id with
  |some a=>match H.get a with
   |some (.cells l)=>m9_ cs l (ud_ H rn r acc)
   |_=>acc
  |none=>acc
def ua_:List DA->List (Nat×AV)->List (Nat×AV)
 |[],acc=>acc
 |d::r,acc=>(d.j,d.x)::ua_ r acc
def mT (H:AHeap) (ds:List DA) (rn:List (Nat×Nat)) (hv:List AV) (n:Nat) (T:Tm):List (Nat×AV)->Bool
 |[]=>true
 |(t,a)::r=>Nat.blt t 512&&(mA H ds rn hv n a (tget T t)&&mT H ds rn hv n T r)
def p8_ (id a:Nat) (rn:List (Nat×Nat)):List (Nat×Nat):=match az_ rn id with
 |none=>(id,a)::rn
 |some _=>rn
mutual
def qr_:AV->AV->List (Nat×Nat)->List (Nat×Nat)
 | .ptr id _,.ptr id' _,rn=>p8_ id id' rn
 | .sl id _ _ _ _,.sl id' _ _ _ _,rn=>p8_ id id' rn
 | .ptx id _ _ _,.slx id' _ _,rn=>p8_ id id' rn
 | .map id,.map id',rn=>p8_ id id' rn
 | .agg ts,.agg cs,rn=>lC_ ts cs rn
 | .tup ts,.tup cs,rn=>lC_ ts cs rn
 | .iface _ t,.iface _ a,rn=>qr_ t a rn
 |_,_,rn=>rn
def lC_:List AV->List AV->List (Nat×Nat)->List (Nat×Nat)
 |t::ts,a::r,rn=>lC_ ts r (qr_ t a rn)
 |_,_,rn=>rn
end
def sY_ (T:Tm):List (Nat×AV)->List (Nat×Nat)->List (Nat×Nat)
 |[],rn=>rn
 |(t,a)::r,rn=>sY_ T r (qr_ a (tget T t) rn)
def lB_ (H:AHeap):List (Nat×List AV)->List (Nat×Nat)->List (Nat×Nat)
 |[],rn=>rn
 |(id,cs)::r,rn=>match az_ rn id with
  |some a=>match H.get a with
   |some (.cells l)=>lB_ H r (lC_ cs l rn)
   |_=>lB_ H r rn
  |none=>match H.get id with
   |some (.cells l)=>lB_ H r (lC_ cs l ((id,id)::rn))
   |_=>lB_ H r rn
def rk_:List (Nat×Nat)->List (Nat×Nat)->List (Nat×Nat)
 |[],rn=>rn
 |(id,_)::r,rn=>rk_ r (p8_ id id rn)
def qM_ (ids:List Nat):List (Nat×Nat)->List (Nat×Nat)
 |[]=>[]
 |(id,a)::r=>match memT id ids with
  |true=>(id,a)::qM_ ids r
  |false=>qM_ ids r
def Tpl.ids (tp:Tpl):List Nat:=pB_ tp.fix (pB_ tp.maps (l4_ tp.rows))
def tH_ (tp:Tpl) (T:Tm) (H:AHeap):List (Nat×Nat):=qM_ tp.ids (rk_ tp.fix (rk_ tp.maps (lB_ H tp.rows (sY_ T tp.slots []))))
def tt_:List (Nat×Nat)->List (Nat×Nat)->List (Nat×Nat)
 |[],acc=>acc
 |(id,a)::r,acc=>(a,id)::tt_ r acc
def qL_:List DA->List (Nat×Nat)->List (Nat×Nat)
 |[],acc=>acc
 |d::r,acc=>match d.act with
  |some i=>(i,d.id)::qL_ r acc
  |none=>qL_ r acc
def mN (ds:List DA) (inv:List (Nat×Nat)) (next:Nat):List (Nat×Nat)->Bool
 |[]=>true
 |(id,a)::r=>Nat.blt id next&&(Nat.blt id top&&(ju_ (az_ inv a) (some id)&&((aE_ ds id).isNone&&mN ds inv next r)))
def mH (ds:List DA) (rn:List (Nat×Nat)) (hv:List AV) (n:Nat) (H:AHeap):List (Nat×List AV)->Bool
 |[]=>true
 |(id,cs)::r=>(match az_ rn id with
  |some a=>match H.get a with
   |some (.cells l)=>mL H ds rn hv n cs l
   |_=>false
  |none=>false)&&mH ds rn hv n H r
def mD (inv:List (Nat×Nat)) (hv:List AV) (next:Nat):List DA->Bool
 |[]=>true
 |d::r=>Nat.blt d.id next&&(Nat.blt d.id top&&((match cn_ d.j hv with
  |some y=>bM_ y d.x
  |none=>false)&&((match d.act with
  |some i=>ju_ (az_ inv i) (some d.id)
  |none=>true)&&mD inv hv next r)))
def uq_ (H:AHeap) (rn:List (Nat×Nat)):List (Nat×Nat)->List (Nat×AV)->Option (List (Nat×AV))
 |[],acc=>some acc
 |(id,j)::r,acc=>match az_ rn id with
  |some a=>match oE_ H a with
   |some x=>match uq_ H rn r acc with
    |some l=>some ((j,x)::l)
    |none=>none
   |none=>none
  |none=>none
def mM (rn:List (Nat×Nat)) (hv:List AV) (H:AHeap):List (Nat×Nat)->Bool
 |[]=>true
 |(id,j)::r=>(match az_ rn id with
  |some a=>match oE_ H a with
   |some x=>match cn_ j hv with
    |some y=>bM_ y x
    |none=>false
   |none=>false
  |none=>false)&&mM rn hv H r
def ov_ (cs:List AV) (x:AV):Bool:=match x with
 | .vsl len z cs'=>dl_ cs' cs&&(Nat.beq (aP_ cs) (Nat.mul len z)&&(ad_ cs&&a6_ cs))
 |_=>false
def mF (rn:List (Nat×Nat)) (hv:List AV) (n:Nat) (H:AHeap):List (Nat×Nat)->Bool
 |[]=>true
 |(id,i)::r=>(match az_ rn id with
  |some a=>match H.get a with
   |some (.syl i')=>match Nat.blt i lu_ with
    |true=>Nat.blt i n&&Nat.beq i i'
    |false=>match cn_ (hf_ i) hv with
     |some x=>bM_ x (.sym i')
     |none=>false
   |some (.cells cs)=>match Nat.blt i lu_ with
    |true=>false
    |false=>match cn_ (hf_ i) hv with
     |some x=>ov_ cs x
     |none=>false
   |_=>false
  |none=>false)&&mF rn hv n H r
def pt_ (rn:List (Nat×Nat)) (H:AHeap):List (Nat×Nat)->List (Nat×AV)->List (Nat×AV)
 |[],acc=>acc
 |(id,i)::r,acc=>match Nat.blt i lu_ with
  |true=>pt_ rn H r acc
  |false=>match az_ rn id with
   |some a=>match H.get a with
    |some (.syl i')=>(hf_ i,.sym i')::pt_ rn H r acc
    |some (.cells cs)=>(hf_ i,.vsl (Nat.div (aP_ cs) (zF i)) (zF i) cs)::pt_ rn H r acc
    |_=>pt_ rn H r acc
   |none=>pt_ rn H r acc
def tx_ (ds:List DA) (rn:List (Nat×Nat)):Nat->Bool
 |0=>true
 |k+1=>(match az_ rn k with
  |some a=>Nat.beq a k
  |none=>match aE_ ds k with
   |some d=>ju_ d.act (some k)
   |none=>false)&&tx_ ds rn k
def noD:Dfs->Bool
 |[]=>true
 |_=>false
structure MR where
 rn:List (Nat×Nat)
 ds:List DA
 hv:List AV
def MR.inv (m:MR):List (Nat×Nat):=qL_ m.ds (tt_ m.rn [])
def gK_ (n:Nat) (tp:Tpl) (T:Tm) (H:AHeap):Option MR:=match tH_ tp T H with
 |rn=>match pb_ T H rn tp.acc with
  |none=>none
  |some ds=>match uq_ H rn tp.maps (ua_ ds (ue_ T tp.slots (ud_ H rn tp.rows [])))with
   |none=>none
   |some ms=>match ot_ (pt_ rn H tp.fix ms) 0 tp.nv with
    |none=>none
    |some hv=>match MR.mk rn ds hv with
      |m=>match ad_ hv&&(a6_ hv&&(mT H ds rn hv n T tp.slots&&(mN ds m.inv tp.next rn&&(mH ds rn hv n H tp.rows&&(mD m.inv hv tp.next ds&&(mM rn hv H tp.maps&&(mF rn hv n H tp.fix&&Nat.ble tp.next top)))))))with
       |true=>some m
       |false=>none
def nnL (k:Nat) (hv:List AV):List TA->Option (List Nat)
 |[]=>some []
 |t::r=>match nnL k hv r with
  |none=>none
  |some l=>match Nat.blt t.id k with
   |false=>some l
   |true=>match cn_ t.j hv with
    |some (.sym i)=>some (i::l)
    |some (.vsl _ _ _)=>some l
    |_=>none
structure MT where
 hv:List AV
 nn:List Nat
def iB_ (n k:Nat) (tp:Tpl) (S:VS):Option MT:=match noD S.D with
 |false=>none
 |true=>match gK_ n tp S.T S.H with
  |none=>none
  |some m=>match tx_ m.ds m.rn k with
   |false=>none
   |true=>match nnL k m.hv tp.acc with
    |none=>none
    |some l=>some ⟨m.hv,l⟩
mutual
def rg_:AV->AV->List AV
 | .slx _ z _,a=>match z with
   |0=>match ae_ a with
    |true=>[]
    |false=>[a]
   |_+1=>[]
 | .agg ts,.agg cs=>ri_ ts cs
 | .tup ts,.tup cs=>ri_ ts cs
 | .iface _ t,.iface _ a=>rg_ t a
 | .vsl _ _ _,.sl id o n z c=>[.sl id o n z c]
 |_,_=>[]
def ri_:List AV->List AV->List AV
 |t::ts,a::r=>jj_ (rg_ t a) (ri_ ts r)
 |_,_=>[]
end
def f3_ (T:Tm):List (Nat×AV)->List AV
 |[]=>[]
 |(t,a)::r=>jj_ (rg_ a (tget T t)) (f3_ T r)
def dr_ (S:VS) (args:List AV):VS:=let l:=bO_ 100 S.H args []
 ⟨bd_ (frz (ca_ S.H l)) S.T,cD_ S.H l,S.n,S.lv,S.D⟩
def tg_ (S:VS) (args:List AV) (id:Nat):VS:=let l:=bO_ 100 S.H args []
 ⟨bd_ (frz (ca_ S.H l)) S.T,sE_ (ca_ S.H l) id (cD_ S.H l),S.n,S.lv,S.D⟩
mutual
def reA (id i k:Nat):AV->AV
 | .slx a z j=>match Nat.beq a id&&Nat.beq j i with
   |true=>.slx a z k
   |false=>.slx a z j
 | .vptr cs=>.vptr (reL id i k cs)
 | .vsl n z cs=>.vsl n z (reL id i k cs)
 | .fn f cs=>.fn f (reL id i k cs)
 | .iface t a=>.iface t (reA id i k a)
 | .agg cs=>.agg (reL id i k cs)
 | .tup cs=>.tup (reL id i k cs)
 |a=>a
def reL (id i k:Nat):List AV->List AV
 |[]=>[]
 |a::r=>reA id i k a::reL id i k r
end
structure SR where
 id:Nat
 i:Nat
 k:Nat
def gV_ (H:AHeap):List AV->List SR
 |[]=>[]
 |a::r=>match a with
  | .slx id _ i=>match H.get id with
    |some (.syl k)=>match Nat.beq i k with
     |true=>gV_ H r
     |false=>⟨id,i,k⟩::gV_ H r
    |_=>gV_ H r
  |_=>gV_ H r
def tG_:List SR->List AV->List AV
 |[],l=>l
 |q::r,l=>tG_ r (reL q.id q.i q.k l)
def reS:List SR->VS->VS
 |[],S=>S
 |q::r,S=>reS r ⟨bd_ (reA q.id q.i q.k) S.T,S.H,S.n,S.lv,S.D⟩
def nH_:List SR->List (Nat×Nat)
 |[]=>[]
 |q::r=>(q.i,q.k)::nH_ r
structure FR where
 l:List (Nat×Nat)
 S:VS
def hp_ (S:VS) (l:List AV):FR:=match gV_ S.H l with
 |[]=>⟨[],dr_ S l⟩
 |q=>⟨nH_ q,dr_ (reS q S) (tG_ q l)⟩
def kV_ (tp:Tpl) (S:VS):FR:=match f3_ S.T tp.slots with
 |[]=>⟨[],S⟩
 |l=>hp_ S l
def nS_ (H:AHeap) (a:AV):Option (Nat×Nat×AV):=match a with
 | .slx id z i=>match H.get id with
   |some (.syl k)=>match Nat.beq i k with
    |true=>none
    |false=>some (i,k,.slx id z k)
   |_=>none
 |_=>none
def fC_:Nat->AV->List AV->List AV
 |_,_,[]=>[]
 |0,x,_::r=>x::r
 |n+1,x,a::r=>a::fC_ n x r
def kT_ (rn:List (Nat×Nat)) (t:TA) (S:VS):FR:=match j4_ S.T S.H rn t with
 |none=>⟨[],S⟩
 |some a=>match nS_ S.H a with
  |none=>⟨[],S⟩
  |some (i,k,a')=>match t.off with
   |none=>match Nat.blt t.loc 512 with
    |true=>⟨[(i,k)],⟨eM_ S.T t.loc a',S.H,S.n,S.lv,S.D⟩⟩
    |false=>⟨[],S⟩
   |some o=>match az_ rn t.loc with
    |some r=>match S.H.get r with
     |some (.cells cs)=>⟨[(i,k)],⟨S.T,S.H.set r (.cells (fC_ o a' cs)),S.n,S.lv,S.D⟩⟩
     |_=>⟨[],S⟩
    |none=>match tget S.T (Nat.sub t.loc 600)with
     | .tup cs=>match Nat.blt (Nat.sub t.loc 600) 512 with
       |true=>⟨[(i,k)],⟨eM_ S.T (Nat.sub t.loc 600) (.tup (fC_ o a' cs)),S.H,S.n,S.lv,S.D⟩⟩
       |false=>⟨[],S⟩
     | .agg cs=>match Nat.blt (Nat.sub t.loc 600) 512 with
       |true=>⟨[(i,k)],⟨eM_ S.T (Nat.sub t.loc 600) (.agg (fC_ o a' cs)),S.H,S.n,S.lv,S.D⟩⟩
       |false=>⟨[],S⟩
     |_=>⟨[],S⟩
def dU_ (rn:List (Nat×Nat)):List TA->VS->FR
 |[],S=>⟨[],S⟩
 |t::r,S=>match kT_ rn t S with
  |f=>match dU_ rn r f.S with
   |g=>⟨appP f.l g.l,g.S⟩
where
 appP:List (Nat×Nat)->List (Nat×Nat)->List (Nat×Nat)
 |[],l=>l
 |x::r,l=>x::appP r l
def kU_ (tp:Tpl) (S:VS):FR:=dU_ (tH_ tp S.T S.H) tp.acc S
def dp_ (tp:Tpl) (S:VS):FR:=match kV_ tp S with
 |f=>match kU_ tp f.S with
  |g=>⟨dU_.appP f.l g.l,g.S⟩
def kh_:List (Nat×Nat)->VT->VT
 |[],t=>t
 |(i,k)::r,t=>.chk (.same i k) (kh_ r t)
structure MA where
 j:Nat
 l:List (Nat×Nat)
 m:MT
def clashT (T:Tm):List (Nat×AV)->Bool
 |[]=>false
 |(t,a)::r=>(match a with
  | .int _ x=>match tget T t with
    | .int _ y=>not (eqI x y)
    |_=>false
  |_=>false)||clashT T r
def dI_ (n k:Nat):List Tpl->Nat->VS->Option MA
 |[],_,_=>none
 |tp::r,j,S=>match clashT S.T tp.slots with
  |true=>dI_ n k r (Nat.succ j) S
  |false=>match dp_ tp S with
   |f=>match iB_ n k tp f.S with
    |some m=>some ⟨j,f.l,m⟩
    |none=>dI_ n k r (Nat.succ j) S
def Tpl.heap (tp:Tpl) (n:Nat):AHeap:=jW_ n (jX_ n (hg_ n (iq_ n tp.next tp.rows) tp.acc) tp.maps) tp.fix
def Tpl.inst (tp:Tpl) (n lv:Nat):VS:=⟨c2_ n tp.slots,tp.heap n,Nat.add n tp.nv,lv,[]⟩
def r6_:List Nat->VT->VT
 |[],t=>t
 |i::r,t=>.chk (.nn i) (r6_ r t)
section
variable [Gl]
def eN_:List (Nat×AV)->List AV
 |[]=>[]
 |(_,a)::r=>a::eN_ r
def t6_ (ft:FT) (n:Nat) (Y0:Sy) (Q:Nat->List AV->Prop) (Y:Sy) (r:FRes):Prop:=
 ∃j ws b tp,ft.exs[j]? =some (b,tp)/\Q j ws/\okL ws=true/\ws.length=tp.nv/\Y=Y0.puts n ws/\r=(match b with
  |true=>.pan (tget (c2_ n tp.slots) 0) (tp.heap n)
  |false=>.ret (tget (c2_ n tp.slots) 0) (tp.heap n))
def CF (P:Program) (f:FuncId) (ft:FT) (vs:List AV) (Q:Nat->List AV->Prop):Prop:=
 vs.length=ft.ent.nv/\∀Y,Fresh Y 64->SemCallF P ft.k (Y.puts 64 vs) f (bS_ 64 (eN_ ft.ent.slots)) (ft.ent.heap 64) (t6_ ft (Nat.add 64 ft.ent.nv) (Y.puts 64 vs) Q)
def Chk.ok (Y:Sy):Chk->Prop
 | .same i j=>(Y.v i=some .nsl/\Y.v j=some .nsl)\/∃n z cs ds,Y.v i=some (.vsl n z cs)/\Y.v j=some (.vsl n z ds)
 | .nn i=>∃n z cs,Y.v i=some (.vsl n z cs)
 | .pos i=>∃n z cs,Y.v i=some (.vsl (n+1) z cs)
mutual
def VOK (P:Program) (Q:AV->Prop):List (Nat->List AV->Prop)->Sy->VT->Prop
 |_,_,.bad=>False
 |_,Y,.done v=>Q (den Y.v v)
 |L,Y,.ite i a b=>∃t,Y.v i=some (.bool t)/\(t=true->VOK P Q L Y a)/\(t=false->VOK P Q L Y b)
 |L,Y,.lt op args n m t=>match m with
  |none=>∃r,op.run P (ab_ Y.v args)=some r/\okC r=true/\VOK P Q L (Y.put n r) t
  |some k=>∃cs,op.run P (ab_ Y.v args)=some (.agg cs)/\cs.length=k/\okL cs=true/\VOK P Q L (Y.puts n cs) t
 |L,Y,.call f args n sh t=>∃v vs,kv_ P f (ab_ Y.v args) v/\ii_ sh v=some vs/\okL vs=true/\VOK P Q L (Y.puts n vs) t
 |L,Y,.loop n j hv bs=>∃(Inv:Nat->List AV->Prop) (μ:Nat->List AV->Nat),(∀j vs,Inv j vs->okL vs=true)/\Inv j (ab_ Y.v hv)/\tj_ P Q Inv μ L n 0 Y bs
 |L,Y,.again lvl j hv=>∃R,L[lvl]? =some R/\R j (ab_ Y.v hv)
 |L,Y,.chk c t=>c.ok Y/\VOK P Q L Y t
 |L,Y,.callF f ft hv n bs=>∃R,CF P f ft (ab_ Y.v hv) R/\okL (ab_ Y.v hv)=true/\ti_ P Q R L (Y.puts n (ab_ Y.v hv)) (Nat.add n ft.ent.nv) 0 bs
 |L,Y,.both a b=>VOK P Q L Y a/\VOK P Q L Y b
def tj_ (P:Program) (Q:AV->Prop) (Inv:Nat->List AV->Prop) (μ:Nat->List AV->Nat):List (Nat->List AV->Prop)->Nat->Nat->Sy->VTs->Prop
 |_,_,_,_,.nil=>True
 |L,n,j,Y,.cons nv t r=>(∀vs,vs.length=nv->Inv j vs->VOK P Q (L++[λj' vs'=>Inv j' vs'/\μ j' vs'<μ j vs]) (Y.puts n vs) t)/\tj_ P Q Inv μ L n (j+1) Y r
def ti_ (P:Program) (Q:AV->Prop) (R:Nat->List AV->Prop):List (Nat->List AV->Prop)->Sy->Nat->Nat->VTs->Prop
 |_,_,_,_,.nil=>True
 |L,Y,n,j,.cons _ t r=>(∀ws,R j ws->VOK P Q L (Y.puts n ws) t)/\ti_ P Q R L Y n (j+1) r
end
end
def hG_:sS_->Nat->Option (List Tpl)
 |[],_=>none
 |(b,l)::r,bid=>match Nat.beq b bid with
  |true=>some l
  |false=>hG_ r bid
section
variable [Gl]
abbrev p6_:=List (FuncId×List (Option Nat))
def tJ_:p6_->FuncId->Option (List (Option Nat))
 |[],_=>none
 |(g,sh)::r,f=>match Nat.beq g f with
  |true=>some sh
  |false=>tJ_ r f
abbrev p7_:=List (FuncId×FT)
def tr_:p7_->FuncId->Option FT
 |[],_=>none
 |(g,t)::r,f=>match Nat.beq g f with
  |true=>some t
  |false=>tr_ r f
structure VC where
 fc:FcT
 cs:p6_
 hs:sS_
 k:Nat
 own:Bool
 fs:p7_
def qc_ (P:Program) (S:VS) (o:Oper):Option (Nat×Nat×XOp×List AV):=match noD S.D with
 |true=>fL_ P S.T S.H o
 |false=>none
def m3_ (P:Program) (S:VS) (o:Oper):Option (Nat×Nat×XOp×List AV):=match noD S.D with
 |true=>match cz_ P S.T S.H o with
  |some r=>some r
  |none=>tD_ P S.T S.H o
 |false=>none
def q1_ (P:Program) (S:VS) (o:Oper):Option (Nat×XOp×List AV):=match noD S.D with
 |true=>q0_ P S.T S.H o
 |false=>none
def sgS (hv:List AV) (n i:Nat):Nat:=match Nat.blt i 64 with
 |true=>i
 |false=>match cn_ (Nat.sub i 64) hv with
  |some (.sym s)=>s
  |_=>Nat.add n (Nat.sub i 64)
def sgV (hv:List AV) (n i:Nat):AV:=match Nat.blt i 64 with
 |true=>.sym i
 |false=>match cn_ (Nat.sub i 64) hv with
  |some a=>match okC a with
   |true=>a
   |false=>.sym (sgS hv n i)
  |none=>.sym (sgS hv n i)
mutual
def dn_ (hv:List AV) (n:Nat) (r:Nat->Nat):AV->AV
 | .sym i=>sgV hv n i
 | .slx id z i=>.slx (r id) z (sgS hv n i)
 | .ptx id j z off=>.ptx (r id) (sgS hv n j) z off
 | .ptr id off=>.ptr (r id) off
 | .sl id off len sz cap=>.sl (r id) off len sz cap
 | .map id=>.map (r id)
 | .vptr cs=>.vptr (fe_ hv n r cs)
 | .vsl a z cs=>.vsl a z (fe_ hv n r cs)
 | .fn f cs=>.fn f (fe_ hv n r cs)
 | .iface t a=>.iface t (dn_ hv n r a)
 | .agg cs=>.agg (fe_ hv n r cs)
 | .tup cs=>.tup (fe_ hv n r cs)
 |a=>a
def fe_ (hv:List AV) (n:Nat) (r:Nat->Nat):List AV->List AV
 |[]=>[]
 |a::l=>dn_ hv n r a::fe_ hv n r l
end
def qY_ (hv:List AV) (n:Nat) (r:Nat->Nat):ABlk->Option ABlk
 | .cells cs=>some (.cells (fe_ hv n r cs))
 | .syl i=>some (.syl (sgS hv n i))
 | .mpl i=>some (.mpl (sgS hv n i))
 |_=>none
def k0_ (hv:List AV) (n:Nat) (r:Nat->Nat) (F:AHeap) (base:AHeap):List Nat->AHeap
 |[]=>base
 |id::l=>match F.get id with
  |some k=>match qY_ hv n r k with
   |some k'=>(k0_ hv n r F base l).set (r id) k'
   |none=>k0_ hv n r F base l
  |none=>k0_ hv n r F base l
def cV_:List TA->List Nat->List Nat
 |[],l=>l
 |t::r,l=>t.id::cV_ r l
def pU_:List (Nat×Nat)->List Nat->List Nat
 |[],l=>l
 |(_,a)::r,l=>a::pU_ r l
def m2_:List DA->List Nat->List Nat
 |[],l=>l
 |d::r,l=>match d.act with
  |some i=>i::m2_ r l
  |none=>m2_ r l
def iz_ (m:MR) (j:Nat):Option Nat:=match az_ m.rn j with
 |some a=>some a
 |none=>match aE_ m.ds j with
  |some d=>d.act
  |none=>none
def nw_ (m:MR):Nat->Option (List Nat)
 |0=>some []
 |k+1=>match nw_ m k with
  |some l=>match iz_ m k with
   |some a=>some (snoc l a)
   |none=>none
  |none=>none
where
 snoc:List Nat->Nat->List Nat
 |[],a=>[a]
 |x::r,a=>x::snoc r a
def sq_:Nat->List Nat->Option Nat
 |_,[]=>none
 |0,a::_=>some a
 |n+1,_::r=>sq_ n r
def rl_ (low:List Nat) (k nx j:Nat):Nat:=match sq_ j low with
 |some a=>a
 |none=>Nat.add nx (Nat.sub j k)
mutual
def i9_:AV->Bool
 | .ptr id _=>Nat.blt id top
 | .sl id _ _ _ _=>Nat.blt id top
 | .map id=>Nat.blt id top
 | .slx id _ _=>Nat.blt id top
 | .ptx id _ _ _=>Nat.blt id top
 | .vptr cs=>ja_ cs
 | .vsl _ _ cs=>ja_ cs
 | .fn _ cs=>ja_ cs
 | .iface _ a=>i9_ a
 | .agg cs=>ja_ cs
 | .tup cs=>ja_ cs
 |_=>true
def ja_:List AV->Bool
 |[]=>true
 |a::r=>i9_ a&&ja_ r
end
def pZ_ (n:Nat):List (Nat×List AV)->Bool
 |[]=>true
 |(_,cs)::r=>ja_ (bS_ n cs)&&pZ_ n r
def pY_:List Nat->Bool
 |[]=>true
 |i::r=>Nat.blt i top&&pY_ r
def kW_ (H:AHeap):List Nat->Bool
 |[]=>true
 |a::r=>(H.get a).isSome&&kW_ H r
def i3_:Nat->List (Nat×AV)->Bool
 |_,[]=>true
 |i,(j,_)::r=>Nat.beq i j&&(Nat.blt i 512&&i3_ (Nat.succ i) r)
def oU_ (k n:Nat) (H:AHeap):List (Bool×Tpl)->Bool
 |[]=>true
 |(_,tp)::r=>Nat.ble k tp.next&&(Nat.blt (Nat.add H.next (Nat.sub tp.next k)) H.hi&&(i9_ (tget (c2_ n tp.slots) 0)&&(pZ_ n tp.rows&&(pY_ (cV_ tp.acc tp.ids)&&oU_ k n H r))))
def exH (ft:FT) (m:MR) (low:List Nat) (S:VS) (tp:Tpl):AHeap:=k0_ m.hv S.n (rl_ low ft.k S.H.next) (tp.heap (Nat.add 64 ft.ent.nv))
 (match cD_ S.H (m2_ m.ds (pU_ m.rn []))with
   |B=>⟨B.tr,Nat.add S.H.next (Nat.sub tp.next ft.k),B.hi⟩) (cV_ tp.acc tp.ids)
def exV (ft:FT) (m:MR) (low:List Nat) (S:VS) (tp:Tpl):AV:=dn_ m.hv S.n (rl_ low ft.k S.H.next) (tget (c2_ (Nat.add 64 ft.ent.nv) tp.slots) 0)
def exN (ft:FT) (S:VS) (tp:Tpl):Nat:=Nat.add (Nat.add S.n ft.ent.nv) tp.nv
def rL_ (ft:FT) (m:MR) (low:List Nat) (u:Tm->AV->Tm) (S:VS) (X:VX->VT) (k:VS->VT):List (Bool×Tpl)->VTs
 |[]=>.nil
 |(b,tp)::r=>.cons tp.nv (match b with
  |false=>k ⟨u S.T (exV ft m low S tp),exH ft m low S tp,exN ft S tp,S.lv,S.D⟩
  |true=>X (.pan (exV ft m low S tp) ⟨S.T,exH ft m low S tp,exN ft S tp,S.lv,S.D⟩)) (rL_ ft m low u S X k r)
def lk_ (g:FuncId) (ft:FT) (u:Tm->AV->Tm) (S:VS) (args:List AV) (X:VX->VT) (k:VS->VT):VT:=match kU_ ft.ent ⟨aX_ args 0 topq,S.H,S.n,S.lv,[]⟩with
 |f=>match gK_ 64 ft.ent f.S.T f.S.H with
  |none=>.bad
  |some m=>match nw_ m ft.k with
   |none=>.bad
   |some low=>match oU_ ft.k (Nat.add 64 ft.ent.nv) f.S.H ft.exs&&(Nat.ble f.S.H.hi top&&(Nat.beq (aP_ args) (aP_ (eN_ ft.ent.slots))&&(i3_ 0 ft.ent.slots&&kW_ f.S.H low)))with
    |true=>kh_ f.l (.callF g ft m.hv S.n (rL_ ft m low u ⟨S.T,f.S.H,S.n,S.lv,S.D⟩ X k ft.exs))
    |false=>.bad
def nV_ (P:Program) (g:FuncId) (ft:FT) (o:Oper) (u:Tm->AV->Tm) (S:VS) (args:List AV) (X:VX->VT) (k:VS->VT):VT:=match f3_ (aX_ args 0 topq) ft.ent.slots with
 |[]=>lk_ g ft u S args X k
 |l=>match hp_ S l with
  |f=>match (ac_ P o).run f.S.T f.S.H with
   |some r=>match r with
    | .call g' args'=>match Nat.beq g' g with
      |true=>kh_ f.l (lk_ g ft u f.S args' X k)
      |false=>.bad
    |_=>.bad
   |none=>.bad
def INL (P:Program) (Q:AV->Prop) (fc:FcT) (L:List (Nat->List AV->Prop)) (n:Nat) (Y:Sy) (ret pan:AV->AHeap->Nat->Nat->VT) (Y':Sy) (r:FRes):Prop:=
 ∃(n' lv':Nat) (L':List (Nat->List AV->Prop)),L <+: L'/\L'.length=lv'/\n<=n'/\(∀i,i<n->Y'.v i=Y.v i)/\(Fresh Y' n'/\KnownF P fc Y')/\(match r with
  | .ret a H=>VOK P Q L' Y' (ret a H n' lv')
  | .pan a H=>VOK P Q L' Y' (pan a H n' lv'))
structure Inl (P:Program) (fuel:Nat) where
 run:VC->FuncId->List AV->AHeap->Nat->Nat->(AV->AHeap->Nat->Nat->VT)->(AV->AHeap->Nat->Nat->VT)->VT
 ok:∀{c:VC} {g:FuncId} {args:List AV} {H:AHeap} {n lv:Nat} {ret pan:AV->AHeap->Nat->Nat->VT} {Q:AV->Prop} {L:List (Nat->List AV->Prop)} {Y:Sy},P.follows .mixedOrders=true->an_ P (aM_ P fuel)->L.length=lv->Fresh Y n/\KnownF P c.fc Y->
  VOK P Q L Y (run c g args H n lv ret pan)->SemCallF P H.next Y g args H (INL P Q c.fc L n Y ret pan)
def in0 (P:Program) (fuel:Nat):Inl P fuel:=⟨λ_ _ _ _ _ _ _ _=>.bad,λ_ _ _ _ h=>by grind [VOK]⟩
mutual
def ea_ (k n:Nat):AV->Bool
 | .ptr id _=>Nat.blt id k
 | .sl id _ _ _ _=>Nat.blt id k
 | .map id=>Nat.blt id k
 | .slx id _ i=>Nat.blt id k&&Nat.blt i n
 | .ptx id j _ _=>Nat.blt id k&&Nat.blt j n
 | .sym i=>Nat.blt i n
 | .vptr cs=>ey_ k n cs
 | .vsl _ _ cs=>ey_ k n cs
 | .fn _ cs=>ey_ k n cs
 | .iface _ a=>ea_ k n a
 | .agg cs=>ey_ k n cs
 | .tup cs=>ey_ k n cs
 |_=>true
def ey_ (k n:Nat):List AV->Bool
 |[]=>true
 |a::r=>ea_ k n a&&ey_ k n r
end
def bK_ (k n:Nat) (a:AV):AV:=match ea_ k n a with
 |true=>a
 |false=>.opq
def ow_ (k n:Nat):Dfs->Bool
 |[]=>true
 |(_,args)::r=>ey_ k n args&&ow_ k n r
def ll_ (P:Program) {fuel:Nat} (I:Inl P fuel) (c:VC) (o:Oper) (u:Tm->AV->Tm) (S:VS) (X:VX->VT) (k:VS->VT):VT:=match ow_ S.H.next S.n S.D&&Nat.ble c.k S.H.next with
 |false=>.bad
 |true=>match bd_ (bK_ S.H.next S.n) S.T with
  |T1=>match (ac_ P o).run T1 S.H with
   |some r=>match r with
    | .call g args=>I.run c g args S.H S.n S.lv
      (λa H n lv=>match Nat.beq lv S.lv with
       |true=>k ⟨u T1 a,H,n,lv,S.D⟩
       |false=>.bad)
      (λa H n lv=>match Nat.beq lv S.lv with
       |true=>X (.pan a ⟨T1,H,n,lv,S.D⟩)
       |false=>.bad)
    |_=>.bad
   |none=>.bad
def um_:List (Option Nat)->Bool
 |[some n]=>Nat.beq n 1000
 |_=>false
def rE_ (P:Program) (fuel:Nat) (I:Inl P fuel) (c:VC) (o:Oper) (u:Tm->AV->Tm) (S:VS) (g:FuncId) (args:List AV) (X:VX->VT) (k:VS->VT):VT:=match tr_ c.fs g with
 |some ft=>nV_ P g ft o u S args X k
 |none=>match tJ_ c.cs g with
  |some sh=>match um_ sh with
   |true=>match h2_ P fuel g args S.H with
    |some r=>match r with
     | .ret a H'=>k ⟨u S.T a,H',S.n,S.lv,S.D⟩
     | .pan _ _=>.bad
    |none=>.bad
   |false=>match ad_ args with
    |true=>.call g args S.n sh (k ⟨u S.T (c8_ S.n sh),S.H,Nat.add S.n (dL_ sh),S.lv,S.D⟩)
    |false=>match (ac_ P o).run (dr_ S args).T (dr_ S args).H with
     |some r=>match r with
      | .call g' args'=>match Nat.beq g' g&&ad_ args' with
        |true=>.call g args' S.n sh (k ⟨u (dr_ S args).T (c8_ S.n sh),(dr_ S args).H,Nat.add S.n (dL_ sh),S.lv,S.D⟩)
        |false=>.bad
      |_=>.bad
     |none=>.bad
  |none=>match aM_ P fuel g args S.H with
   |some r=>match r with
    | .ret a H'=>k ⟨u S.T a,H',S.n,S.lv,S.D⟩
    | .pan _ _=>ll_ P I c o u S X k
   |none=>ll_ P I c o u S X k
def sO_ (P:Program) (c:VC) (u:Tm->AV->Tm) (S:VS) (k:VS->VT) (op:XOp) (args:List AV):VT:=match j3_ P op with
 |none=>match jR_ c.fc.b op args with
  |some v=>k ⟨u S.T v,S.H,S.n,S.lv,S.D⟩
  |none=>.lt op args S.n none (k ⟨u S.T (.sym S.n),S.H,Nat.succ S.n,S.lv,S.D⟩)
 |some m=>.lt op args S.n (some m) (k ⟨u S.T (.agg (ai_ S.n m)),S.H,Nat.add S.n m,S.lv,S.D⟩)
def tU_ (P:Program) (c:VC) (o:Oper) (u:Tm->AV->Tm) (S:VS) (k:VS->VT):Option VT:=match c.own with
 |false=>none
 |true=>match re_ P S.T o with
  |some a=>some (k ⟨u S.T a,S.H,S.n,S.lv,S.D⟩)
  |none=>match pC_ P S.T o with
   |some (op,args,id,sz)=>some (.lt op args S.n none (k ⟨u S.T (.ptx id S.n sz 0),S.H,Nat.succ S.n,S.lv,S.D⟩))
   |none=>match ldX S.T S.H o with
    |some (op,args)=>match j3_ P op with
     |none=>some (.lt op args S.n none (k ⟨u S.T (.sym S.n),S.H,Nat.succ S.n,S.lv,S.D⟩))
     |some m=>some (.lt op args S.n (some m) (k ⟨u S.T (.agg (ai_ S.n m)),S.H,Nat.add S.n m,S.lv,S.D⟩))
    |none=>match stX S.T S.H o with
     |some (op,args,id)=>some (.lt op args S.n none (k ⟨u S.T (.tup []),S.H.set id (.syl S.n),Nat.succ S.n,S.lv,S.D⟩))
     |none=>match tkX P S.T S.H o with
        |some (op,args,id,sz)=>some (.lt op args S.n none (k ⟨u S.T (.slx id sz S.n),S.H.set id (.syl S.n),Nat.succ S.n,S.lv,S.D⟩))
        |none=>none
def rP_ (P:Program) (fuel:Nat) (I:Inl P fuel) (c:VC) (o:Oper) (u:Tm->AV->Tm) (S:VS) (X:VX->VT) (k:VS->VT):VT:=match (ac_ P o).run S.T S.H with
 |some r=>match r with
  | .val a H'=>k ⟨u S.T a,H',S.n,S.lv,S.D⟩
  | .call g args=>rE_ P fuel I c o u S g args X k
  | .dfr g args=>k ⟨u S.T (.tup []),S.H,S.n,S.lv,(g,args)::S.D⟩
  | .pan v=>X (.pan v S)
  |_=>.bad
 |none=>match gb_ o S.T with
  |some (i,a,b)=>.ite i (k ⟨u (S.know i true).T (look (S.know i true).T a),S.H,S.n,S.lv,S.D⟩) (k ⟨u (S.know i false).T (look (S.know i false).T b),S.H,S.n,S.lv,S.D⟩)
  |none=>match n5_ c.fc.x S.T o with
   |some v=>k ⟨u S.T v,S.H,S.n,S.lv,S.D⟩
   |none=>match tU_ P c o u S k with
    |some t=>t
    |none=>match qc_ P S o with
    |some (id,sz,op,args)=>.lt op args S.n none (k ⟨u S.T (.slx S.H.next sz S.n),(S.H.erase id).push (.syl S.n),Nat.succ S.n,S.lv,S.D⟩)
    |none=>match m3_ P S o with
    |some (id,sz,op,args)=>.lt op args S.n none (k ⟨u S.T (.slx S.H.next sz S.n),(S.H.erase id).push (.syl S.n),Nat.succ S.n,S.lv,S.D⟩)
    |none=>match nu_ S.T o with
     |some (op,args)=>.lt op args S.n none (k ⟨u S.T (.sym S.n),S.H,Nat.succ S.n,S.lv,S.D⟩)
     |none=>match q1_ P S o with
     |some (id,op,args)=>.lt op args S.n none (k ⟨u S.T (.tup []),S.H.set id (.mpl S.n),Nat.succ S.n,S.lv,S.D⟩)
     |none=>match qX_ S.T S.H o with
     |some (op,args)=>match nq_ P o with
      |true=>.lt op args S.n none (k ⟨u S.T (.sym S.n),S.H,Nat.succ S.n,S.lv,S.D⟩)
      |false=>.bad
     |none=>match jN_ S.T S.H o with
     |some (op,args)=>.lt op args S.n none (k ⟨u S.T (.sym S.n),S.H,Nat.succ S.n,S.lv,S.D⟩)
     |none=>match mgX S.T S.H o with
     |some (op,args)=>.lt op args S.n none (k ⟨u S.T (.sym S.n),S.H,Nat.succ S.n,S.lv,S.D⟩)
     |none=>match tq_ P S.T o with
     |some (op,args)=>.lt op args S.n none (k ⟨u S.T (.sym S.n),S.H,Nat.succ S.n,S.lv,S.D⟩)
     |none=>match cw_ S.T o with
      |some (op,args)=>match ad_ args with
       |true=>sO_ P c u S k op args
       |false=>match cw_ (dr_ S args).T o with
        |some (op',args')=>match ad_ args' with
         |true=>sO_ P c u (dr_ S args) k op' args'
         |false=>.bad
        |none=>.bad
      |none=>.bad
def rM_ (all:List Oper) (o:Oper) (T:Tm):Option Bool:=match aT_ all o with
 | .always=>some true
 | .mk g=>g T
def vOp (P:Program) (fuel:Nat) (I:Inl P fuel) (c:VC) (all:List Oper) (o:Oper) (u:Tm->AV->Tm) (X:VX->VT) (next:VS->VT) (S:VS):VT:=match rM_ all o S.T with
 |some t=>match t with
  |false=>next ⟨u S.T (.tup []),S.H,S.n,S.lv,S.D⟩
  |true=>rP_ P fuel I c o u S X next
 |none=>.bad
def rh_ (T:Tm):List (Nat×Operand)->List AV
 |[]=>[]
 |(_,x)::r=>match look T x with
  | .slx id z i=>.slx id z i::rh_ T r
  |_=>rh_ T r
def mw_:List AV->List AV
 |[]=>[]
 |a::r=>match a with
  | .slx id z i=>.slx id z i::mw_ r
  | .sl id o l z c=>.sl id o l z c::mw_ r
  |_=>mw_ r
def mx_ (T:Tm):List (Nat×Operand)->List AV
 |[]=>[]
 |(_,x)::r=>match look T x with
  | .slx id z i=>.slx id z i::mx_ T r
  | .sl id o l z c=>.sl id o l z c::mx_ T r
  | .agg cs=>jj_ (mw_ cs) (mx_ T r)
  |_=>mx_ T r
def nk_ (own:Bool) (o:Oper) (S:VS):VS:=match o.op with
 | .buildSlice _ _ ps=>match (match own with
   |true=>mx_ S.T ps.toList
   |false=>rh_ S.T ps.toList)with
   |[]=>S
   |a=>dr_ S a
 | .call c=>match own with
   |false=>S
   |true=>match c.callee with
    | .builtin b=>match b with
      | .append=>match c.args.toList with
        |[_,x]=>match look S.T x with
         | .sl id _ _ _ _=>match S.H.get id with
          |some (.cells cs)=>match mw_ cs with
           |[]=>S
           |a=>tg_ S a id
          |_=>S
         |_=>S
        |_=>S
      |_=>S
    |_=>S
 |_=>S
def ln_ (P:Program) (N fuel:Nat) (I:Inl P fuel) (c:VC) (all:List Oper) (X:VX->VT):List Oper->VS->(VS->VT)->VT
 |[],S,K=>K S
 |o::r,S,K=>match bN_ N o.dst with
  | .bad=>.bad
  | .mk u=>match in_ all o S.T with
    |some i=>.ite i (vOp P fuel I c all o u X (λS=>ln_ P N fuel I c all X r S K) (S.know i true)) (vOp P fuel I c all o u X (λS=>ln_ P N fuel I c all X r S K) (S.know i false))
    |none=>vOp P fuel I c all o u X (λS=>ln_ P N fuel I c all X r S K) (nk_ c.own o S)
def isM (x:SI):Bool:=match x.o.op with
 | .alloc _=>true
 | .box _ _=>true
 | .buildSlice _ _ _=>true
 |_=>false
inductive Tch where
 |none
 |one (id:Nat)
 |all
def gZ_ (x:SI) (R:Tm):Tch:=match x.o.op with
 | .call c=>match j0_ x with
   |false=>.all
   |true=>match c.args.toList with
    |s::r=>match look R s with
     | .slx id _ _=>.one id
     | .sym _=>.none
     | .sl id _ _ _ _=>.one id
     | .vsl n _ _=>match n with
       |0=>match r with
        |y::_=>match look R y with
          | .sym _=>.none
          |_=>.all
        |[]=>.all
       |_+1=>.all
     |_=>.all
    |[]=>.all
 |_=>.all
def hY_ (x:SI) (R:Tm):Bool:=match j0_ x with
 |false=>false
 |true=>match gZ_ x R with
  | .all=>false
  |_=>true
def bY_ (x:SI) (R:Tm):Tch:=match isM x with
 |true=>.none
 |false=>match x.o.op with
  | .store _ a _=>match look R a with
    | .ptr id _=>.one id
    | .ptx id _ _ _=>.one id
    |_=>.all
  |_=>gZ_ x R
def apart (t:Tch) (ids:List Nat):Bool:=match t with
 | .none=>true
 | .one id=>not (memT id ids)
 | .all=>match ids with
   |[]=>true
   |_::_=>false
structure GW where
 i:Nat
 H:AHeap
 t:Tch
def mr_ (bef:Nat) (H:AHeap):List GW->AHeap
 |[]=>H
 |g::r=>match bit bef g.i with
  |true=>H
  |false=>mr_ bef g.H r
def ra_ (bef:Nat) (ids:List Nat):List GW->Bool
 |[]=>true
 |g::r=>match bit bef g.i with
  |true=>true
  |false=>apart g.t ids&&ra_ bef ids r
def ss_ (bef:Nat) (t:Tch):List (Nat×List Nat)->Bool
 |[]=>true
 |(i,ids)::r=>(bit bef i||apart t ids)&&ss_ bef t r
def c4_ (H:AHeap):List Nat->AHeap
 |[]=>⟨hnil,0,0⟩
 |id::r=>match H.get id with
  |some b=>(c4_ H r).set id b
  |none=>c4_ H r
def uj_ (a:AV) (acc:List Nat):List Nat:=match a with
 | .ptr id _=>id::acc
 | .sl id _ _ _ _=>id::acc
 | .map id=>id::acc
 | .ptx id _ _ _=>id::acc
 |_=>acc
def s3_ (T:Tm):List Nat->List Nat
 |[]=>[]
 |t::r=>uj_ (tget T t) (s3_ T r)
def f4_ (x:SI) (T:Tm):List Nat:=match uZ_ x with
 |true=>[]
 |false=>s3_ T x.rd
def gA_ (x:SI) (S:VS) (gs:List GW):AHeap:=c4_ (mr_ x.bef S.H gs) (f4_ x S.T)
def oL_ (x:SI) (i:Nat) (y:SI):Bool:=match isW x&&isW y with
 |true=>bit y.bef i
 |false=>true
def nB_ (x:SI) (i:Nat):List SI->Bool
 |[]=>true
 |y::r=>oL_ x i y&&nB_ x i r
def k5_:List SI->Nat->Bool
 |[],_=>true
 |x::r,i=>nB_ x i r&&k5_ r (Nat.succ i)
def qH_ (x:SI):Nat->Bool
 |0=>true
 |n+1=>bit x.bef n&&qH_ x n
def rA_ (x:SI) (i n:Nat):Nat:=match Nat.beq n (Nat.succ i)&&qH_ x i with
 |true=>i
 |false=>n
def c9_:List SI->Nat->Nat
 |[],i=>i
 |x::r,i=>rA_ x i (c9_ r (Nat.succ i))
def eb_:Nat->List SI->List SI
 |0,_=>[]
 |_+1,[]=>[]
 |n+1,x::r=>x::eb_ n r
def oc_:Nat->List Oper->List Oper
 |0,l=>l
 |_+1,[]=>[]
 |n+1,_::r=>oc_ n r
def o4_ (P:Program) (x:SI) (Hx:AHeap) (u:Tm->AV->Tm) (S:VS) (k:VS->VT):VT:=match cc_ (ac_ P x.o) (av_ S.T x.rd topq) Hx with
 |some q=>k ⟨u S.T q,S.H,S.n,S.lv,S.D⟩
 |none=>.bad
def rG_ (u:Tm->AV->Tm) (S:VS) (k:VS->VT) (R:Tm) (o:Oper) (id sz:Nat) (op:XOp) (args:List AV):VT:=match aF_ S.n args with
 |true=>match S.H.get S.H.next with
  |none=>match fo_ args with
   |true=>.lt op args S.n none (k ⟨u S.T (.slx S.H.next sz S.n),(S.H.erase id).push (.syl S.n),Nat.succ S.n,S.lv,S.D⟩)
   |false=>match cW_ args with
    |some i=>.lt .emp [.sym i] S.n none (.ite S.n (k ⟨u S.T (lJ_ R o),S.H,Nat.succ S.n,S.lv,S.D⟩)
     (.lt op args (Nat.succ S.n) none (k ⟨u S.T (.slx S.H.next sz (Nat.succ S.n)),(S.H.erase id).push (.syl (Nat.succ S.n)),Nat.succ (Nat.succ S.n),S.lv,S.D⟩)))
    |none=>.bad
  |some _=>.bad
 |false=>.bad
def mQ_ (P:Program) (x:SI) (u:Tm->AV->Tm) (S:VS) (k:VS->VT):VT:=match j0_ x with
 |false=>.bad
 |true=>match fL_ P (av_ S.T x.rd topq) S.H x.o with
  |some (id,sz,op,args)=>match aF_ S.n args with
   |true=>match S.H.get S.H.next with
    |none=>match fo_ args with
     |true=>.lt op args S.n none (k ⟨u S.T (.slx S.H.next sz S.n),(S.H.erase id).push (.syl S.n),Nat.succ S.n,S.lv,S.D⟩)
     |false=>match cW_ args with
        |some i=>.chk (.pos i) (.lt op args S.n none (k ⟨u S.T (.slx S.H.next sz S.n),(S.H.erase id).push (.syl S.n),Nat.succ S.n,S.lv,S.D⟩))
        |none=>.bad
    |some _=>.bad
   |false=>.bad
  |none=>match cz_ P (av_ S.T x.rd topq) S.H x.o with
   |some (id,sz,op,args)=>rG_ u S k (av_ S.T x.rd topq) x.o id sz op args
   |none=>match cw_ (av_ S.T x.rd topq) x.o with
    |some (op,args)=>match ad_ args&&aF_ S.n args with
     |true=>match j3_ P op with
      |none=>.lt op args S.n none (k ⟨u S.T (.sym S.n),S.H,Nat.succ S.n,S.lv,S.D⟩)
      |some _=>.bad
     |false=>.bad
    |none=>.bad
def vDW (P:Program) (c:VC) (x:SI) (u:Tm->AV->Tm) (S:VS) (k:VS->VT):VT:=match (ac_ P x.o).run (av_ S.T x.rd topq) S.H with
 |some r=>match r with
  | .val a H'=>match isM x with
    |true=>match S.H.get S.H.next with
     |none=>k ⟨u S.T a,H',S.n,S.lv,S.D⟩
     |some _=>.bad
    |false=>match hY_ x (av_ S.T x.rd topq)with
     |true=>mQ_ P x u S k
     |false=>k ⟨u S.T a,H',S.n,S.lv,S.D⟩
  |_=>.bad
 |none=>match c.own with
  |false=>mQ_ P x u S k
  |true=>match stX (av_ S.T x.rd topq) S.H x.o with
   |some (op,args,id)=>match aF_ S.n args&&not (isM x)with
    |true=>.lt op args S.n none (k ⟨u S.T (.tup []),S.H.set id (.syl S.n),Nat.succ S.n,S.lv,S.D⟩)
    |false=>.bad
   |none=>mQ_ P x u S k
def tf_ (P:Program) (c:VC) (R:Tm) (Hx:AHeap) (o:Oper) (u:Tm->AV->Tm) (S:VS) (k:VS->VT):Option VT:=match c.own with
 |false=>none
 |true=>match re_ P R o with
  |some a=>some (k ⟨u S.T a,S.H,S.n,S.lv,S.D⟩)
  |none=>match pC_ P R o with
   |some (op,args,id,sz)=>match aF_ S.n args with
    |true=>some (.lt op args S.n none (k ⟨u S.T (.ptx id S.n sz 0),S.H,Nat.succ S.n,S.lv,S.D⟩))
    |false=>none
   |none=>match ldX R Hx o with
    |some (op,args)=>match aF_ S.n args with
     |true=>match j3_ P op with
        |none=>some (.lt op args S.n none (k ⟨u S.T (.sym S.n),S.H,Nat.succ S.n,S.lv,S.D⟩))
        |some m=>some (.lt op args S.n (some m) (k ⟨u S.T (.agg (ai_ S.n m)),S.H,Nat.add S.n m,S.lv,S.D⟩))
     |false=>none
    |none=>match nu_ R o with
     |some (op,args)=>match aF_ S.n args with
        |true=>some (.lt op args S.n none (k ⟨u S.T (.sym S.n),S.H,Nat.succ S.n,S.lv,S.D⟩))
        |false=>none
     |none=>none
def m7_ (P:Program) (R:Tm) (o:Oper):Option AV:=match o.op with
 | .buildSlice t n ps=>match bq_ P ⟨hnil,0,1⟩ t n (do_ (look R) ps.toList)with
   |some r=>match r.1 with
    | .sl _ _ len sz _=>match r.2.get 0 with
      |some (.cells cs)=>match ad_ cs with
       |true=>some (.vsl len sz cs)
       |false=>none
      |_=>none
    |_=>none
   |none=>none
 |_=>none
def uE_ (P:Program) (x:SI) (u:Tm->AV->Tm) (S:VS) (k:VS->VT):VT:=match m7_ P (av_ S.T x.rd topq) x.o with
 |some q=>k ⟨u S.T q,S.H,S.n,S.lv,S.D⟩
 |none=>.bad
def rH_ (P:Program) (c:VC) (x:SI) (Hx:AHeap) (u:Tm->AV->Tm) (S:VS) (k:VS->VT):VT:=match cc_ (ac_ P x.o) (av_ S.T x.rd topq) Hx with
 |some q=>k ⟨u S.T q,S.H,S.n,S.lv,S.D⟩
 |none=>match tf_ P c (av_ S.T x.rd topq) Hx x.o u S k with
 |some t=>t
 |none=>match (ac_ P x.o).run (av_ S.T x.rd topq) Hx with
  |some r=>match r with
   | .call g args=>match tJ_ c.cs g with
     |some sh=>match ad_ args&&aF_ S.n args with
      |true=>.call g args S.n sh (k ⟨u S.T (c8_ S.n sh),S.H,Nat.add S.n (dL_ sh),S.lv,S.D⟩)
      |false=>.bad
     |none=>.bad
   |_=>.bad
  |none=>match gb_ x.o S.T with
   |some (i,_,_)=>.ite i (o4_ P x Hx u (S.know i true) k) (o4_ P x Hx u (S.know i false) k)
   |none=>match jN_ (av_ S.T x.rd topq) Hx x.o with
    |some (op,args)=>match aF_ S.n args with
     |true=>.lt op args S.n none (k ⟨u S.T (.sym S.n),S.H,Nat.succ S.n,S.lv,S.D⟩)
     |false=>.bad
    |none=>match cw_ (av_ S.T x.rd topq) x.o with
     |some (op,args)=>match ad_ args&&aF_ S.n args with
      |true=>match j3_ P op with
        |none=>.lt op args S.n none (k ⟨u S.T (.sym S.n),S.H,Nat.succ S.n,S.lv,S.D⟩)
        |some m=>.lt op args S.n (some m) (k ⟨u S.T (.agg (ai_ S.n m)),S.H,Nat.add S.n m,S.lv,S.D⟩)
      |false=>.bad
     |none=>.bad
def jz_ (P:Program) (x:SI) (nx:Nat):Option (AV×ABlk):=match x.o.op with
 | .alloc t=>match eZ_ P ⟨hnil,nx,Nat.succ nx⟩ t with
   |some p=>match p.2.get nx with
    |some k=>some (p.1,k)
    |none=>none
   |none=>none
 |_=>none
def hW_ (P:Program):List SI->AHeap->Option AHeap
 |[],H=>some H
 |x::r,H=>match cg_ x with
  |false=>hW_ P r H
  |true=>match H.get H.next with
   |some _=>none
   |none=>match H.room with
    |false=>none
    |true=>match jz_ P x H.next with
     |some p=>hW_ P r (H.push p.2)
     |none=>none
def jy_ (bef:Nat) (ids:List Nat):List SI->Nat->Nat->Bool
 |[],_,_=>true
 |y::r,i,nx=>match cg_ y with
  |false=>jy_ bef ids r (Nat.succ i) nx
  |true=>(bit bef i||not (memT nx ids))&&jy_ bef ids r (Nat.succ i) (Nat.succ nx)
def jx_ (bef:Nat):List SI->Nat->Bool
 |[],_=>true
 |y::r,i=>match cg_ y with
  |false=>jx_ bef r (Nat.succ i)
  |true=>bit bef i&&jx_ bef r (Nat.succ i)
def jA_ (l0:List SI):List SI->Bool
 |[]=>true
 |x::r=>match isW x with
  |false=>jA_ l0 r
  |true=>jx_ x.bef l0 0&&jA_ l0 r
def eB_ (x:SI) (nx:Nat):Nat:=match cg_ x with
 |true=>Nat.succ nx
 |false=>nx
def p1_ (P:Program) (c:VC) (all:List Oper) (l0:List SI) (n0 nx:Nat) (x:SI) (gs:List GW) (ps:List (Nat×List Nat)) (u:Tm->AV->Tm) (next:VS->VT) (S:VS):VT:=match aJ_ all x (av_ S.T x.rd topq)with
 |some t=>match t with
  |false=>next ⟨u S.T (.tup []),S.H,S.n,S.lv,S.D⟩
  |true=>match cg_ x with
   |true=>match jz_ P x nx with
    |some p=>next ⟨u S.T p.1,S.H,S.n,S.lv,S.D⟩
    |none=>.bad
   |false=>match isW x with
    |true=>match ss_ x.bef (bY_ x (av_ S.T x.rd topq)) ps with
     |true=>vDW P c x u S next
     |false=>.bad
    |false=>match ra_ x.bef (f4_ x S.T) gs&&jy_ x.bef (f4_ x S.T) l0 0 n0 with
     |true=>match x.fz with
      |true=>uE_ P x u S next
      |false=>rH_ P c x (gA_ x S gs) u S next
     |false=>.bad
 |none=>.bad
def im_ (x:SI) (i:Nat) (S:VS) (gs:List GW):List GW:=match isW x with
 |true=>⟨i,S.H,bY_ x (av_ S.T x.rd topq)⟩::gs
 |false=>gs
def iQ_ (x:SI) (i:Nat) (S:VS) (ps:List (Nat×List Nat)):List (Nat×List Nat):=match isW x with
 |true=>ps
 |false=>(i,f4_ x S.T)::ps
def jb_ (P:Program) (N:Nat) (c:VC) (all:List Oper) (l0:List SI) (n0:Nat):List SI->Nat->Nat->List GW->List (Nat×List Nat)->VS->(VS->VT)->VT
 |[],_,_,_,_,S,K=>K S
 |x::r,i,nx,gs,ps,S,K=>match bN_ N x.o.dst with
  | .bad=>.bad
  | .mk u=>match in_ all x.o S.T with
    |some k=>.ite k (p1_ P c all l0 n0 nx x gs ps u (λS'=>jb_ P N c all l0 n0 r (Nat.succ i) (eB_ x nx) (im_ x i (S.know k true) gs) (iQ_ x i (S.know k true) ps) S' K) (S.know k true)) (p1_ P c all l0 n0 nx x gs ps u (λS'=>jb_ P N c all l0 n0 r (Nat.succ i) (eB_ x nx) (im_ x i (S.know k false) gs) (iQ_ x i (S.know k false) ps) S' K) (S.know k false))
    |none=>p1_ P c all l0 n0 nx x gs ps u (λS'=>jb_ P N c all l0 n0 r (Nat.succ i) (eB_ x nx) (im_ x i S gs) (iQ_ x i S ps) S' K) S
def mS_ (P:Program) (N fuel:Nat) (I:Inl P fuel) (c:VC) (ops:List Oper) (S:VS) (X:VX->VT) (K:VS->VT):VT:=match nI_ ops with
 | .mk l _=>match c9_ l 0 with
   |b=>match k5_ (eb_ b l) 0&&jA_ (eb_ b l) (eb_ b l)with
    |true=>match hW_ P (eb_ b l) S.H with
     |some H=>jb_ P N c ops (eb_ b l) S.H.next (eb_ b l) 0 S.H.next [] [] ⟨S.T,H,S.n,S.lv,S.D⟩ λS=>ln_ P N fuel I c ops X (oc_ b ops) S K
     |none=>.bad
    |false=>.bad
 | .no=>.bad
def isF (c:VC) (o:Oper):Bool:=match o.op with
 | .call cl=>match cl.callee with
   | .value f=>match f with
     | .func g=>match tr_ c.fs g with
       |some _=>true
       |none=>false
     |_=>false
   |_=>false
 |_=>false
def ui_ (c:VC):List Oper->Bool
 |[]=>false
 |o::r=>match isF c o with
  |true=>true
  |false=>ui_ c r
def mt_ (m:Nat):List Edge->Bool
 |[]=>true
 |e::r=>match dM_ e with
  |true=>bit m e.on&&mt_ m r
  |false=>mt_ m r
structure InO where
 i:Nat
 o:Oper
def iS_ (m:Nat):List Oper->Nat->List InO
 |[],_=>[]
 |o::r,i=>match not (bit m i)&&mt_ m o.after.toList with
  |true=>⟨i,o⟩::iS_ m r (Nat.succ i)
  |false=>iS_ m r (Nat.succ i)
def mC_ (m i:Nat):Nat:=Nat.lor m (Nat.pow 2 i)
def r9_ (i:Nat):List Edge->Bool
 |[]=>false
 |e::r=>match dM_ e&&Nat.beq e.on i with
  |true=>true
  |false=>r9_ i r
def apartB (all:List Oper) (x y:Oper):Bool:=(match x.dst with
    |some d=>not (memT d (cP_ all y))&&(match y.dst with
     |some e=>not (Nat.beq d e)
     |none=>true)
    |none=>true)&&(match y.dst with
    |some e=>not (memT e (cP_ all x))
    |none=>true)
def os_ (all:List Oper) (m i:Nat) (x:Oper):List Oper->Nat->Bool
 |[],_=>true
 |y::r,j=>(Nat.beq j i||(bit m j||(r9_ i y.after.toList||apartB all x y)))&&os_ all m i x r (Nat.succ j)
def mj_:List Oper->Bool
 |[]=>true
 |o::r=>match o.op with
  | .select _ _=>false
  |_=>mj_ r
def oH_ (P:Program) (T:Tm) (o:Oper):Option AV:=match o.guard with
 |some _=>none
 |none=>match o.op with
  | .move x=>some (look T x)
  | .nilCheck x=>match look T x with
    | .ptr id off=>some (.ptr id off)
    |_=>none
  | .fieldAddr s x f=>match look T x with
    | .ptr id off=>bU_ P s (.ptr id off) f
    |_=>none
  | .extract x i=>match look T x with
    | .tup cs=>ml_ i cs
    |_=>none
  |_=>none
structure MV where
 x:InO
 a:AV
def iO_ (P:Program) (all:List Oper) (m:Nat) (T:Tm):List InO->Option MV
 |[]=>none
 |x::r=>match oH_ P T x.o with
  |some a=>match os_ all m x.i x.o all 0 with
   |true=>some ⟨x,a⟩
   |false=>iO_ P all m T r
  |none=>iO_ P all m T r
def qz_:List (Nat×AV)->List (Nat×AV)->Bool
 |[],[]=>true
 |(i,a)::r,(j,b)::s=>Nat.beq i j&&(bM_ a b&&qz_ r s)
 |_,_=>false
def qA_:List (Nat×List AV)->List (Nat×List AV)->Bool
 |[],[]=>true
 |(i,a)::r,(j,b)::s=>Nat.beq i j&&(dl_ a b&&qA_ r s)
 |_,_=>false
def nb_:Option Nat->Option Nat->Bool
 |none,none=>true
 |some a,some b=>Nat.beq a b
 |_,_=>false
def qy_:List (Option Nat)->List (Option Nat)->Bool
 |[],[]=>true
 |a::r,b::s=>nb_ a b&&qy_ r s
 |_,_=>false
def pj_:List (Nat×Nat)->List (Nat×Nat)->Bool
 |[],[]=>true
 |(i,a)::r,(j,b)::s=>Nat.beq i j&&(Nat.beq a b&&pj_ r s)
 |_,_=>false
def lL_:List TA->List TA->Bool
 |[],[]=>true
 |⟨a,b,c,d,e⟩::r,⟨a',b',c',d',e'⟩::s=>Nat.beq a a'&&(Nat.beq b b'&&(Nat.beq c c'&&(Nat.beq d d'&&(nb_ e e'&&lL_ r s))))
 |_,_=>false
def ok_:Tpl->Tpl->Bool
 |⟨a,b,c,d,e,f,g⟩,⟨a',b',c',d',e',f',g'⟩=>qz_ a a'&&(qA_ b b'&&(Nat.beq c c'&&(Nat.beq d d'&&(lL_ e e'&&(pj_ f f'&&pj_ g g')))))
def qw_:List (Bool×Tpl)->List (Bool×Tpl)->Bool
 |[],[]=>true
 |(i,a)::r,(j,b)::s=>i==j&&(ok_ a b&&qw_ r s)
 |_,_=>false
def uh_:FT->FT->Bool
 |⟨a,b,c⟩,⟨a',b',c'⟩=>Nat.beq a a'&&(ok_ b b'&&qw_ c c')
def tp_:XOp->XOp->Bool
 | .bin o t a b,.bin o' t' a' b'=>decide (o=o')&&(Nat.beq t t'&&(a==a'&&b==b'))
 | .un o,.un o'=>decide (o=o')
 | .conv a b,.conv a' b'=>Nat.beq a a'&&Nat.beq b b'
 | .idx a,.idx a'=>Nat.beq a a'
 | .iaddr a,.iaddr a'=>Nat.beq a a'
 | .faddr a b,.faddr a' b'=>Nat.beq a a'&&Nat.beq b b'
 | .load a,.load a'=>Nat.beq a a'
 | .fld a b,.fld a' b'=>Nat.beq a a'&&Nat.beq b b'
 | .slc t a b,.slc t' a' b'=>Nat.beq t t'&&(a==a'&&b==b')
 | .len a,.len a'=>Nat.beq a a'
 | .nilc,.nilc=>true
 | .app a b,.app a' b'=>Nat.beq a a'&&Nat.beq b b'
 | .mm a,.mm a'=>a==a'
 | .ext a,.ext a'=>Nat.beq a a'
 | .inb,.inb=>true
 | .ldx a b c,.ldx a' b' c'=>Nat.beq a a'&&(Nat.beq b b'&&Nat.beq c c')
 | .stx a b c,.stx a' b' c'=>Nat.beq a a'&&(Nat.beq b b'&&Nat.beq c c')
 | .tkx,.tkx=>true
 | .emp,.emp=>true
 | .mkx a b c,.mkx a' b' c'=>Nat.beq a a'&&(Nat.beq b b'&&dl_ c c')
 | .mkz a b c,.mkz a' b' c'=>Nat.beq a a'&&(Nat.beq b b'&&dl_ c c')
 | .skx,.skx=>true
 | .flat a b c d,.flat a' b' c' d'=>Nat.beq a a'&&(Nat.beq b b'&&(Nat.beq c c'&&Nat.beq d d'))
 | .opn a b,.opn a' b'=>Nat.beq a a'&&Nat.beq b b'
 |_,_=>false
def qu_:Chk->Chk->Bool
 | .same i j,.same i' j'=>Nat.beq i i'&&Nat.beq j j'
 | .nn i,.nn i'=>Nat.beq i i'
 | .pos i,.pos i'=>Nat.beq i i'
 |_,_=>false
mutual
def dw_:VT->VT->Bool
 | .done v,.done w=>bM_ v w
 | .ite i a b,.ite i' a' b'=>Nat.beq i i'&&(dw_ a a'&&dw_ b b')
 | .lt o l n m t,.lt o' l' n' m' t'=>tp_ o o'&&(dl_ l l'&&(Nat.beq n n'&&(nb_ m m'&&dw_ t t')))
 | .call f l n sh t,.call f' l' n' sh' t'=>Nat.beq f f'&&(dl_ l l'&&(Nat.beq n n'&&(qy_ sh sh'&&dw_ t t')))
 | .loop n j hv bs,.loop n' j' hv' bs'=>Nat.beq n n'&&(Nat.beq j j'&&(dl_ hv hv'&&jQ_ bs bs'))
 | .again l j hv,.again l' j' hv'=>Nat.beq l l'&&(Nat.beq j j'&&dl_ hv hv')
 | .chk c t,.chk c' t'=>qu_ c c'&&dw_ t t'
 | .callF f ft hv n bs,.callF f' ft' hv' n' bs'=>Nat.beq f f'&&(uh_ ft ft'&&(dl_ hv hv'&&(Nat.beq n n'&&jQ_ bs bs')))
 | .both a b,.both a' b'=>dw_ a a'&&dw_ b b'
 |_,_=>false
def jQ_:VTs->VTs->Bool
 | .nil,.nil=>true
 | .cons n t r,.cons n' t' r'=>Nat.beq n n'&&(dw_ t t'&&jQ_ r r')
 |_,_=>false
end
def nz_ (a b:VT):VT:=match dw_ a b with
 |true=>a
 |false=>.both a b
def n4_ (f:InO->VT) (x:InO):List InO->VT
 |[]=>f x
 |y::r=>nz_ (f x) (n4_ f y r)
def nU_ (P:Program) (N fuel:Nat) (I:Inl P fuel) (c:VC) (all:List Oper) (X:VX->VT) (K:VS->VT):Nat->Nat->VS->VT
 |0,_,_=>.bad
 |n+1,m,S=>match iS_ m all 0 with
  |[]=>K S
  |x::r=>match iO_ P all m S.T (x::r)with
   |some q=>match bN_ N q.x.o.dst with
    | .mk u=>nU_ P N fuel I c all X K n (mC_ m q.x.i) ⟨u S.T q.a,S.H,S.n,S.lv,S.D⟩
    | .bad=>.bad
   |none=>n4_ (λx=>ln_ P N fuel I c all X [x.o] S λS'=>nU_ P N fuel I c all X K n (mC_ m x.i) S') x r
def ej_:List Oper->Tm->Tm
 |[],T=>T
 |o::r,T=>match o.dst with
  |some d=>ej_ r (eM_ T d .opq)
  |none=>ej_ r T
def jH_ (ops:List Oper) (X:VX->VT) (r:VX):VT:=match r with
 | .pan v S=>X (.pan v ⟨ej_ ops S.T,S.H,S.n,S.lv,S.D⟩)
 | .exit i S=>X (.exit i S)
 | .ret S=>X (.ret S)
def sa_ (N:Nat):List Oper->Bool
 |[]=>true
 |o::r=>(match o.dst with
  |some d=>Nat.blt d N
  |none=>true)&&sa_ N r
def sT_ (c:VC):Nat->List SI->Bool
 |0,_=>false
 |_+1,[]=>false
 |n+1,x::r=>match isF c x.o with
  |true=>true
  |false=>sT_ c n r
def uU_ (c:VC) (ops:List Oper):Bool:=match nI_ ops with
 | .mk l _=>sT_ c (c9_ l 0) l
 | .no=>true
def o3_ (P:Program) (N fuel:Nat) (I:Inl P fuel) (c:VC) (ops:List Oper) (S:VS) (X:VX->VT) (K:VS->VT):VT:=match mj_ ops&&(sa_ N ops&&Nat.ble N 512)with
 |true=>nU_ P N fuel I c ops (jH_ ops X) K (Nat.succ (lenOp ops)) 0 S
 |false=>.bad
where
 lenOp:List Oper->Nat
 |[]=>0
 |_::r=>Nat.succ (lenOp r)
def uY_ (ops:List Oper):Bool:=match nI_ ops with
 | .mk l _=>match c9_ l 0 with
   |b=>k5_ (eb_ b l) 0&&jA_ (eb_ b l) (eb_ b l)
 | .no=>true
def pV_ (T:Tm):List Oper->Nat->AV
 |[],_=>.opq
 |o::r,t=>match o.op with
  | .move x=>match o.dst with
    |some d=>match Nat.beq d t with
     |true=>look T x
     |false=>pV_ T r t
    |none=>pV_ T r t
  |_=>pV_ T r t
def uB_ (own:Bool) (T:Tm) (all:List Oper) (x i:Operand):List AV:=match x with
 | .tmp b=>match pV_ T all b with
   | .slx id z k=>match own with
     |true=>[]
     |false=>[.slx id z k]
   | .sl id off len z cap=>match i with
     | .tmp j=>match pV_ T all j with
       | .sym _=>[.sl id off len z cap]
       |_=>[]
     |_=>[]
   |_=>[]
 |_=>[]
def oT_ (T:Tm) (all:List Oper):List (Nat×Operand)->List AV
 |[]=>[]
 |(_,x)::r=>match x with
  | .tmp t=>match pV_ T all t with
    | .slx id z k=>.slx id z k::oT_ T all r
    |_=>oT_ T all r
  |_=>oT_ T all r
def iW_ (own:Bool) (T:Tm) (all:List Oper):List Oper->List AV
 |[]=>[]
 |o::r=>match o.op with
  | .indexAddr _ x i=>jj_ (uB_ own T all x i) (iW_ own T all r)
  | .buildSlice _ _ ps=>match own with
    |true=>iW_ own T all r
    |false=>jj_ (oT_ T all ps.toList) (iW_ own T all r)
  |_=>iW_ own T all r
def jq_ (own:Bool) (l:List Oper) (S:VS):VS:=match iW_ own S.T l l with
 |[]=>S
 |a=>dr_ S a
def o7_ (b:VS->(VS->VT)->VT):Nat->VS->VT
 |0,_=>.bad
 |n+1,S=>b S λS'=>o7_ b n S'
def nT_ (n k lvl:Nat) (tps:List Tpl) (S:VS):VT:=match dI_ n k tps 0 S with
 |some r=>kh_ r.l (r6_ r.m.nn (.again lvl r.j r.m.hv))
 |none=>.bad
def lj_ (b:VS->(VS->VT)->VT) (n k lvl:Nat) (tps:List Tpl):List Tpl->VTs
 |[]=>.nil
 |tp::r=>.cons tp.nv (b (tp.inst n (Nat.succ lvl)) (nT_ n k lvl tps)) (lj_ b n k lvl tps r)
def tV_ (k:Nat) (b:VS->(VS->VT)->VT) (tps:List Tpl) (S:VS):VT:=match dI_ S.n k tps 0 S with
 |some r=>kh_ r.l (r6_ r.m.nn (.loop S.n r.j r.m.hv (lj_ b S.n k S.lv tps tps)))
 |none=>.bad
def tO_ (id:Nat) (K:VS->VT) (X:VX->VT) (r:VX):VT:=match r with
 | .exit id' S=>match Nat.beq id' id with
   |true=>K S
   |false=>X r
 | .ret _=>X r
 | .pan _ _=>X r
mutual
def mo_ (id sz i len:Nat):AV->AV
 | .slx id' z j=>match Nat.beq id id'&&(Nat.beq sz z&&Nat.beq i j)with
   |true=>.sl id 0 len sz none
   |false=>.slx id' z j
 | .agg cs=>.agg (ht_ id sz i len cs)
 | .tup cs=>.tup (ht_ id sz i len cs)
 |a=>a
def ht_ (id sz i len:Nat):List AV->List AV
 |[]=>[]
 |a::r=>mo_ id sz i len a::ht_ id sz i len r
end
def pO_ (id sz i len:Nat) (H:AHeap):List Nat->AHeap
 |[]=>H
 |q::r=>match (pO_ id sz i len H r).get q with
  |some (.cells cs)=>(pO_ id sz i len H r).set q (.cells (ht_ id sz i len cs))
  |_=>pO_ id sz i len H r
def jf_ (t:TA) (i:Nat) (S:VS):VS:=⟨bd_ (mo_ t.id t.sz i t.j) S.T,pO_ t.id t.sz i t.j (S.H.set t.id (.cells (ai_ S.n (Nat.mul t.j t.sz)))) [0,1,2,3],Nat.add S.n (Nat.mul t.j t.sz),S.lv,S.D⟩
def mV_:List TA->VS->(VS->VT)->VT
 |[],S,k=>k S
 |t::r,S,k=>match S.H.get t.id with
  |some (.syl i)=>.lt (.opn t.j t.sz) [.sym i] S.n (some (Nat.mul t.j t.sz)) (mV_ r (jf_ t i S) k)
  |_=>mV_ r S k
def lZ_ (t o:Nat) (S:VS):VS:=match tget S.T t with
 | .ptr id b=>match S.H.get id with
   |some (.cells cs)=>match ml_ (Nat.add b o) cs with
    |some a=>tg_ S [a] id
    |none=>S
   |_=>S
 |a=>dr_ S [a]
def l0_ (S:VS):List (Nat×Nat)->VS
 |[]=>S
 |(t,o)::r=>l0_ (lZ_ t o S) r
def tT_ (c:VC) (rid:Nat) (ops:List Oper) (S:VS) (k:VS->VT):VT:=match ops with
 |[]=>k S
 |_::_=>match hG_ c.hs (Nat.add 10000 rid)with
  |some (tp::_)=>mV_ tp.acc (l0_ S tp.fix) k
  |_=>k S
def ub_ (c:VC) (rid:Nat):Bool:=match hG_ c.hs (Nat.add 20000 rid)with
 |some _=>true
 |none=>false
def rO_ (P:Program) (N fuel:Nat) (I:Inl P fuel) (c:VC) (any:Bool) (ops:Array Oper) (draw:Bool) (S:VS) (K:VS->VT) (X:VX->VT):VT:=match draw with
 |false=>ln_ P N fuel I c ops.toList X ops.toList S K
 |true=>match h8_ P (aM_ P fuel) N ops.toList S.T S.H S.D with
  |some r=>match r with
   | .norm T H D=>K ⟨T,H,S.n,S.lv,D⟩
   |_=>.bad
  |none=>match ui_ c ops.toList with
   |false=>match !any&&uY_ ops.toList with
    |true=>mS_ P N fuel I c ops.toList (jq_ c.own ops.toList S) X K
    |false=>o3_ P N fuel I c ops.toList S X K
   |true=>match uU_ c ops.toList with
    |true=>o3_ P N fuel I c ops.toList S X K
    |false=>mS_ P N fuel I c ops.toList (jq_ c.own ops.toList S) X K
def cE_ (P:Program) (N fuel:Nat) (I:Inl P fuel) (c:VC):Nat->Code->VS->(VS->VT)->(VX->VT)->VT
 |_,.skip,S,K,X=>K S
 |_,.label _,S,K,X=>K S
 |_,.region rid ops draw,S,K,X=>tT_ c rid ops.toList S λS=>rO_ P N fuel I c (ub_ c rid) ops draw S K X
 |bid,.seq a b,S,K,X=>cE_ P N fuel I c bid a S (λS=>cE_ P N fuel I c bid b S K X) X
 |bid,.cond cd a b,S,K,X=>match look S.T cd with
  | .bool t=>match t with
    |true=>cE_ P N fuel I c bid a S K X
    |false=>cE_ P N fuel I c bid b S K X
  |_=>match gY_ S.T cd with
   |some i=>.ite i (cE_ P N fuel I c bid a (S.know i true) K X) (cE_ P N fuel I c bid b (S.know i false) K X)
   |none=>.bad
 |_,.block id b,S,K,X=>cE_ P N fuel I c id b S K (tO_ id K X)
 |bid,.loop b,S,K,X=>match hG_ c.hs bid with
  |some tps=>tV_ c.k (λS K=>cE_ P N fuel I c bid b S K X) tps S
  |none=>o7_ (λS K=>cE_ P N fuel I c bid b S K X) fuel S
 |_,.exit id,S,K,X=>X (.exit id S)
 |_,.ret,S,K,X=>X (.ret S)
 |_,_,_,_,_=>.bad
def rJ_ (Q:Option (AV×AHeap)):VT:=match Q with
 |some (a,H)=>match ef_ 100 H a with
  |some v=>match ae_ v with
   |true=>.done v
   |false=>.bad
  |none=>.bad
 |none=>.bad
def nm_:List Oper->Bool
 |[]=>false
 |o::r=>match o.op with
  | .call c=>match c.callee with
    | .builtin .recover=>true
    |_=>nm_ r
  |_=>nm_ r
def uX_ (u:Option AV) (ops:List Oper):Bool:=match u with
 |some _=>true
 |none=>nm_ ops
def da_ (P:Program) (N fuel:Nat) (I:Inl P fuel) (c:VC):Code->VS->Option AV->(VS->Option AV->VT)->(VS->Option AV->VT)->VT
 | .skip,S,u,K,R=>K S u
 | .region rid ops draw,S,u,K,R=>match uX_ u ops.toList with
   |true=>match draw with
    |true=>.bad
    |false=>match k6_ P (aM_ P fuel) N ops.toList ops.toList S.T S.H u with
     |some r=>match r with
      | .norm T H u'=>K ⟨T,H,S.n,S.lv,[]⟩ u'
      | .ret _ _ _=>.bad
     |none=>.bad
   |false=>rO_ P N fuel I c (ub_ c rid) ops draw S (λS=>match S.D with
    |[]=>K S none
    |_::_=>.bad) (λ_=>.bad)
 | .seq a b,S,u,K,R=>da_ P N fuel I c a S u (λS u=>da_ P N fuel I c b S u K R) R
 | .cond cd a b,S,u,K,R=>match look S.T cd with
   | .bool t=>match t with
     |true=>da_ P N fuel I c a S u K R
     |false=>da_ P N fuel I c b S u K R
   |_=>match gY_ S.T cd with
    |some i=>.ite i (da_ P N fuel I c a (S.know i true) u K R) (da_ P N fuel I c b (S.know i false) u K R)
    |none=>.bad
 | .block _ b,S,u,K,R=>da_ P N fuel I c b S u K R
 | .ret,S,u,K,R=>R S u
 |_,_,_,_,_=>.bad
def d5_ (P:Program) (fuel:Nat) (I:Inl P fuel) (c:VC) (rs:List ResultVar) (fin:FRes->Nat->Nat->VT):Dfs->Tm->AHeap->Nat->Nat->Option AV->VT
 |[],T,H,n,lv,u=>match cC_ P (aM_ P fuel) fuel rs T [] H u with
  |some r=>fin r n lv
  |none=>.bad
 |(f,args)::D,T,H,n,lv,u=>match P.funcs[f]? with
  |some fn=>match fn.body with
   |some cd=>match Nat.ble (aP_ args) fn.ntmps&&(Nat.ble fn.ntmps 512&&(ow_ H.next n D&&Nat.ble c.k H.next))with
    |true=>match (λ(S:VS) (u:Option AV)=>match dK_ P S.T S.H fn.results.toList with
       |some _=>d5_ P fuel I c rs fin D (bd_ (bK_ H.next n) T) S.H S.n S.lv u
       |none=>.bad)with
     |K=>da_ P fn.ntmps fuel I ⟨c.fc,c.cs,[],H.next,c.own,c.fs⟩ cd ⟨aX_ args 0 tnil,H,n,lv,[]⟩ u K K
    |false=>.bad
   |none=>.bad
  |none=>.bad
def lm_ (P:Program) (fuel:Nat) (I:Inl P fuel) (c:VC) (rs:List ResultVar) (fin:FRes->Nat->Nat->VT) (u:Option AV) (S:VS):VT:=match cC_ P (aM_ P fuel) fuel rs S.T S.D S.H u with
 |some r=>fin r S.n S.lv
 |none=>d5_ P fuel I c rs fin S.D S.T S.H S.n S.lv u
def rI_ (r:FRes) (_ _:Nat):VT:=match r with
 | .ret a H=>rJ_ (some (a,H))
 | .pan _ _=>.bad
def o5_ (P:Program) (fuel:Nat) (I:Inl P fuel) (c:VC) (rs:List ResultVar) (u:Option AV) (S:VS):VT:=lm_ P fuel I c rs rI_ u S
def u7_ (P:Program) (fuel:Nat) (I:Inl P fuel) (c:VC) (rs:List ResultVar) (r:VX):VT:=match r with
 | .ret S=>o5_ P fuel I c rs none S
 | .pan v S=>o5_ P fuel I c rs (some v) S
 | .exit _ _=>.bad
def tP_ (P:Program) (fuel:Nat) (I:Inl P fuel) (c:VC) (f:FuncId) (args:List AV) (n:Nat):VT:=match P.funcs[f]? with
 |some fn=>match fn.body with
  |some cd=>match Nat.ble (aP_ args) fn.ntmps&&Nat.ble fn.ntmps 512 with
   |true=>cE_ P fn.ntmps fuel I c 0 cd ⟨aX_ args 0 tnil,H0,n,0,[]⟩ (o5_ P fuel I c fn.results.toList none) (u7_ P fuel I c fn.results.toList)
   |false=>.bad
  |none=>.bad
 |none=>.bad
def uF_ (ret pan:AV->AHeap->Nat->Nat->VT) (r:FRes) (n lv:Nat):VT:=match r with
 | .ret a H=>ret a H n lv
 | .pan a H=>pan a H n lv
def o6_ (P:Program) (fuel:Nat) (I:Inl P fuel) (c:VC) (rs:List ResultVar) (ret pan:AV->AHeap->Nat->Nat->VT) (u:Option AV) (S:VS):VT:=lm_ P fuel I c rs (uF_ ret pan) u S
def uG_ (P:Program) (fuel:Nat) (I:Inl P fuel) (c:VC) (rs:List ResultVar) (ret pan:AV->AHeap->Nat->Nat->VT) (r:VX):VT:=match r with
 | .exit _ _=>.bad
 | .ret S=>o6_ P fuel I c rs ret pan none S
 | .pan v S=>o6_ P fuel I c rs ret pan (some v) S
def tR_ (P:Program) (fuel:Nat) (I:Inl P fuel) (c:VC) (g:FuncId) (args:List AV) (H:AHeap) (n lv:Nat) (ret pan:AV->AHeap->Nat->Nat->VT):VT:=match P.funcs[g]? with
 |some fn=>match fn.body with
  |some cd=>match Nat.ble (aP_ args) fn.ntmps&&Nat.ble fn.ntmps 512 with
   |true=>cE_ P fn.ntmps fuel I ⟨c.fc,c.cs,[],H.next,c.own,c.fs⟩ 0 cd ⟨aX_ args 0 tnil,H,n,lv,[]⟩ (o6_ P fuel I ⟨c.fc,c.cs,[],H.next,c.own,c.fs⟩ fn.results.toList ret pan none) (uG_ P fuel I ⟨c.fc,c.cs,[],H.next,c.own,c.fs⟩ fn.results.toList ret pan)
   |false=>.bad
  |none=>.bad
 |none=>.bad
end
end Go.Sx
