/-
  The evaluator with symbols, with loops by templates and calls by what is known of them.
-/
import Derived.Test.YtjconanknjgpnaaGreatSyX
set_option linter.unusedVariables false
set_option linter.unusedSimpArgs false
namespace Go.Sx
structure TA where
 id:Nat
 sz:Nat
 j:Nat
 loc:Nat
 off:Option Nat
structure Tpl where
 slots:List (Nat×AV)
 rows:List (Nat×List AV)
 next:Nat
 nv:Nat
 acc:List TA:=[]
 maps:List (Nat×Nat):=[]
 fix:List (Nat×Nat):=[]
abbrev xX_:=List (Nat×List Tpl)
structure FT where
 k:Nat
 ent:Tpl
 exs:List (Bool×Tpl)
inductive Chk where
 |same (i j:Nat)
 |nn (i:Nat)
 |pos (i:Nat)
mutual
inductive VT where
 |bad
 |done (v:AV)
 |ite (i:Nat) (a b:VT)
 |lt (op:XOp) (args:List AV) (n:Nat) (m:Option Nat) (t:VT)
 |call (f:FuncId) (args:List AV) (n:Nat) (sh:List (Option Nat)) (t:VT)
 |loop (n j:Nat) (hv:List AV) (bs:VTs)
 |again (lvl j:Nat) (hv:List AV)
 |chk (c:Chk) (t:VT)
 |callF (f:FuncId) (ft:FT) (hv:List AV) (n:Nat) (bs:VTs)
 |both (a b:VT)
inductive VTs where
 |nil
 |cons (nv:Nat) (t:VT) (r:VTs)
end
def flat:List (Option Nat)->List AV->Option (List AV)
 |[],[]=>some []
 |none::s,a::r=>match flat s r with
  |some l=>some (a::l)
  |none=>none
 |some m::s,.agg cs::r=>match decide (cs.length=m)with
  |true=>match flat s r with
   |some l=>some (cs++l)
   |none=>none
  |false=>none
 |_,_=>none
def iR_ (sh:List (Option Nat)) (v:AV):Option (List AV):=match sh with
 |[s]=>flat [s] [v]
 |sh=>match v with
  | .tup l=>flat sh l
  |_=>none
def bb_:Nat->List (Option Nat)->List AV
 |_,[]=>[]
 |n,none::s=>.sym n::bb_ (Nat.succ n) s
 |n,some m::s=>.agg (m_ n m)::bb_ (Nat.add n m) s
def dG_ (n:Nat) (sh:List (Option Nat)):AV:=match sh with
 |[s]=>match bb_ n [s]with
  |a::_=>a
  |[]=>.tup []
 |sh=>.tup (bb_ n sh)
def c4_:List (Option Nat)->Nat
 |[]=>0
 |none::s=>Nat.succ (c4_ s)
 |some m::s=>Nat.add m (c4_ s)
mutual
def aX_ (n:Nat):AV->AV
 | .slx j z i=>match z with
   |0=>.sym (Nat.add n j)
   |z+1=>.slx j (z+1) (Nat.add n i)
 | .ptx id j sz _=>.slx id sz j
 | .vptr cs=>.vptr (a1_ n cs)
 | .vsl a z cs=>.vsl a z (a1_ n cs)
 | .fn f cs=>.fn f (a1_ n cs)
 | .iface t a=>.iface t (aX_ n a)
 | .agg cs=>.agg (a1_ n cs)
 | .tup cs=>.tup (a1_ n cs)
 |a=>a
def a1_ (n:Nat):List AV->List AV
 |[]=>[]
 |a::r=>aX_ n a::a1_ n r
end
def c2_ (n:Nat):List (Nat×AV)->Tm
 |[]=>topq
 |(t,a)::r=>dP_ (c2_ n r) t (aX_ n a)
def hu_ (n next:Nat):List (Nat×List AV)->AHeap
 |[]=>⟨hnil,next,top⟩
 |(id,cs)::r=>(hu_ n next r).set id (.cells (a1_ n cs))
def gj_ (n:Nat) (H:AHeap):List TA->AHeap
 |[]=>H
 |t::r=>(gj_ n H r).set t.id (.syl (Nat.add n t.j))
def jF_ (n:Nat) (H:AHeap):List (Nat×Nat)->AHeap
 |[]=>H
 |(id,j)::r=>(jF_ n H r).set id (.mpl (Nat.add n j))
def pm_:Nat:=1500
def i7_ (i:Nat):Nat:=Nat.div (Nat.sub i pm_) 16
def zF (i:Nat):Nat:=Nat.mod (Nat.sub i pm_) 16
def lu_ (n i:Nat):Nat:=match Nat.blt i pm_ with
 |true=>i
 |false=>Nat.add n (i7_ i)
def lO_ (n:Nat) (H:AHeap):List (Nat×Nat)->AHeap
 |[]=>H
 |(id,i)::r=>(lO_ n H r).set id (.syl (lu_ n i))
def sS_:List (Nat×Nat)->List Nat->List Nat
 |[],acc=>acc
 |(id,_)::r,acc=>id::sS_ r acc
def sj_ (H:AHeap) (id:Nat):Option AV:=match H.get id with
 |some (.map es _)=>match k_ (bo_ es)with
  |true=>some (.vsl (nV_ es) 2 (bo_ es))
  |false=>none
 |some (.mpl i)=>some (.sym i)
 |_=>none
def oK_:List (Nat×List AV)->List Nat
 |[]=>[]
 |(id,_)::r=>id::oK_ r
mutual
def yN_:AV->AV->List (Nat×AV)->List (Nat×AV)
 | .slx j z _,a,acc=>match z with
   |0=>(j,a)::acc
   |_+1=>acc
 | .agg ts,.agg cs,acc=>qC_ ts cs acc
 | .tup ts,.tup cs,acc=>qC_ ts cs acc
 | .vptr ts,.vptr cs,acc=>qC_ ts cs acc
 | .vsl _ _ ts,.vsl _ _ cs,acc=>qC_ ts cs acc
 | .fn _ ts,.fn _ cs,acc=>qC_ ts cs acc
 | .iface _ t,.iface _ a,acc=>yN_ t a acc
 |_,_,acc=>acc
def qC_:List AV->List AV->List (Nat×AV)->List (Nat×AV)
 |t::ts,a::r,acc=>yN_ t a (qC_ ts r acc)
 |_,_,acc=>acc
end
def yj_:List (Nat×AV)->Nat->Option AV
 |[],_=>none
 |(i,a)::r,j=>match Nat.beq i j with
  |true=>some a
  |false=>yj_ r j
def rf_ (acc:List (Nat×AV)):Nat->Nat->Option (List AV)
 |_,0=>some []
 |j,m+1=>match yj_ acc j with
  |some a=>match rf_ acc (Nat.succ j) m with
   |some l=>some (a::l)
   |none=>none
  |none=>none
structure DA where
 id:Nat
 sz:Nat
 j:Nat
 x:AV
 act:Option Nat
def iX_ (H:AHeap) (sz:Nat) (a:AV):Option (AV×Option Nat):=match a with
 | .nsl=>some (.nsl,none)
 | .slx id sz' i=>match H.get id with
   |some (.syl k)=>match Nat.beq k i&&Nat.beq sz' sz with
    |true=>some (.sym i,some id)
    |false=>none
   |_=>none
 | .sl id off len sz' _=>match H.get id with
   |some (.cells cs)=>match aO_ (Nat.mul len sz) cs with
    |some cs=>match Nat.beq off 0&&(Nat.beq sz' sz&&(Nat.blt 0 len&&(Nat.beq (aB_ cs) (Nat.mul len sz)&&(k_ cs&&aF_ cs))))with
     |true=>some (.vsl len sz cs,some id)
     |false=>none
    |none=>none
   |_=>none
 |_=>none
def qt_:Nat->List AV->Option AV
 |_,[]=>none
 |0,a::_=>some a
 |n+1,_::r=>qt_ n r
def Q_:List (Nat×Nat)->Nat->Option Nat
 |[],_=>none
 |(a,t)::r,i=>match Nat.beq a i with
  |true=>some t
  |false=>Q_ r i
def mF_ (T:Tm) (H:AHeap) (rn:List (Nat×Nat)) (t:TA):Option AV:=match t.off with
 |none=>some (tget T t.loc)
 |some o=>match Q_ rn t.loc with
  |some a=>match H.get a with
   |some (.cells cs)=>qt_ o cs
   |_=>none
  |none=>match tget T (Nat.sub t.loc 600)with
   | .tup cs=>qt_ o cs
   |_=>none
def sJ_ (T:Tm) (H:AHeap) (rn:List (Nat×Nat)):List TA->Option (List DA)
 |[]=>some []
 |t::r=>match mF_ T H rn t with
  |some a=>match iX_ H t.sz a with
   |some (x,act)=>match sJ_ T H rn r with
    |some l=>some (⟨t.id,t.sz,t.j,x,act⟩::l)
    |none=>none
   |none=>none
  |none=>none
def W_:List DA->Nat->Option DA
 |[],_=>none
 |d::r,id=>match Nat.beq d.id id with
  |true=>some d
  |false=>W_ r id
def lp_:Option Nat->Option Nat->Bool
 |none,none=>true
 |some a,some b=>Nat.beq a b
 |_,_=>false
mutual
def mA (H:AHeap) (ds:List DA) (rn:List (Nat×Nat)) (hv:List AV) (n:Nat):AV->AV->Bool
 | .opq,_=>true
 | .sym i,a=>Nat.blt i n&&bB_ (.sym i) a
 | .ptr id off,a=>match a with
   | .ptr id' off'=>lp_ (Q_ rn id) (some id')&&Nat.beq off off'
   |_=>false
 | .sl id off len sz cap,a=>match a with
   | .sl id' off' len' sz' cap'=>lp_ (Q_ rn id) (some id')&&(Nat.beq off off'&&(Nat.beq len len'&&(Nat.beq sz sz'&&(cap.isNone||cap==cap'))))
   |_=>false
 | .agg ts,a=>match a with
   | .agg cs=>mL H ds rn hv n ts cs
   |_=>false
 | .tup ts,a=>match a with
   | .tup cs=>mL H ds rn hv n ts cs
   |_=>false
 | .vptr ts,a=>match a with
   | .vptr cs=>mL H ds rn hv n ts cs
   |_=>false
 | .vsl len sz ts,a=>match a with
   | .vsl len' sz' cs=>Nat.beq len len'&&(Nat.beq sz sz'&&mL H ds rn hv n ts cs)
   |_=>false
 | .fn f ts,a=>match a with
   | .fn g cs=>Nat.beq f g&&mL H ds rn hv n ts cs
   |_=>false
 | .iface t x,a=>match a with
   | .iface u y=>Nat.beq t u&&mA H ds rn hv n x y
   |_=>false
 | .slx j z i,a=>match z with
   |0=>match cO_ j hv with
    |some x=>bB_ x a
    |none=>false
   |z+1=>match W_ ds j with
    |some d=>match iX_ H (Nat.succ z) a with
     |some (x,act)=>Nat.beq d.sz (Nat.succ z)&&(Nat.beq d.j i&&(bB_ d.x x&&lp_ d.act act))
     |none=>false
    |none=>false
 | .ptx id i sz _,a=>match a with
   | .slx id' sz' i'=>lp_ (Q_ rn id) (some id')&&(Nat.beq sz sz'&&(Nat.beq i i'&&Nat.blt i n))
   |_=>false
 | .map id,a=>match a with
   | .map id'=>lp_ (Q_ rn id) (some id')
   |_=>false
 |t,a=>bB_ t a
def mL (H:AHeap) (ds:List DA) (rn:List (Nat×Nat)) (hv:List AV) (n:Nat):List AV->List AV->Bool
 |[],[]=>true
 |t::ts,a::r=>mA H ds rn hv n t a&&mL H ds rn hv n ts r
 |_,_=>false
end
mutual
def fu_ (n:Nat):AV->Bool
 | .sym i=>Nat.blt i n
 | .vptr cs=>ag_ n cs
 | .vsl _ _ cs=>ag_ n cs
 | .fn _ cs=>ag_ n cs
 | .iface _ a=>fu_ n a
 | .agg cs=>ag_ n cs
 | .tup cs=>ag_ n cs
 |_=>true
def ag_ (n:Nat):List AV->Bool
 |[]=>true
 |a::r=>fu_ n a&&ag_ n r
end
structure VS where
 T:Tm
 H:AHeap
 n:Nat
 lv:Nat
 D:Dfs
inductive VX where
 |exit (id:Nat) (S:VS)
 |ret (S:VS)
 |pan (v:AV) (S:VS)
def VS.x (S:VS):XS:=⟨S.T,S.H,S.n⟩
def VS.know (S:VS) (i:Nat) (b:Bool):VS:=⟨aT_ (h7_ i b) S.T,S.H,S.n,S.lv,S.D⟩
def AR_ (T:Tm):List (Nat×AV)->List (Nat×AV)->List (Nat×AV)
 |[],acc=>acc
 |(t,a)::r,acc=>yN_ a (tget T t) (AR_ T r acc)
def zS_ (H:AHeap) (rn:List (Nat×Nat)):List (Nat×List AV)->List (Nat×AV)->List (Nat×AV)
 |[],acc=>acc
 |(id,cs)::r,acc=>match Q_ rn id with
  |some a=>match H.get a with
   |some (.cells l)=>qC_ cs l (zS_ H rn r acc)
   |_=>acc
  |none=>acc
def Aj_:List DA->List (Nat×AV)->List (Nat×AV)
 |[],acc=>acc
 |d::r,acc=>(d.j,d.x)::Aj_ r acc
def mT (H:AHeap) (ds:List DA) (rn:List (Nat×Nat)) (hv:List AV) (n:Nat) (T:Tm):List (Nat×AV)->Bool
 |[]=>true
 |(t,a)::r=>Nat.blt t 512&&(mA H ds rn hv n a (tget T t)&&mT H ds rn hv n T r)
def ua_ (id a:Nat) (rn:List (Nat×Nat)):List (Nat×Nat):=match Q_ rn id with
 |none=>(id,a)::rn
 |some _=>rn
mutual
def uZ_:AV->AV->List (Nat×Nat)->List (Nat×Nat)
 | .ptr id _,.ptr id' _,rn=>ua_ id id' rn
 | .sl id _ _ _ _,.sl id' _ _ _ _,rn=>ua_ id id' rn
 | .ptx id _ _ _,.slx id' _ _,rn=>ua_ id id' rn
 | .map id,.map id',rn=>ua_ id id' rn
 | .agg ts,.agg cs,rn=>ph_ ts cs rn
 | .tup ts,.tup cs,rn=>ph_ ts cs rn
 | .iface _ t,.iface _ a,rn=>uZ_ t a rn
 |_,_,rn=>rn
def ph_:List AV->List AV->List (Nat×Nat)->List (Nat×Nat)
 |t::ts,a::r,rn=>ph_ ts r (uZ_ t a rn)
 |_,_,rn=>rn
end
def yd_ (T:Tm):List (Nat×AV)->List (Nat×Nat)->List (Nat×Nat)
 |[],rn=>rn
 |(t,a)::r,rn=>yd_ T r (uZ_ a (tget T t) rn)
def pM_ (H:AHeap):List (Nat×List AV)->List (Nat×Nat)->List (Nat×Nat)
 |[],rn=>rn
 |(id,cs)::r,rn=>match Q_ rn id with
  |some a=>match H.get a with
   |some (.cells l)=>pM_ H r (ph_ cs l rn)
   |_=>pM_ H r rn
  |none=>match H.get id with
   |some (.cells l)=>pM_ H r (ph_ cs l ((id,id)::rn))
   |_=>pM_ H r rn
def vd_:List (Nat×Nat)->List (Nat×Nat)->List (Nat×Nat)
 |[],rn=>rn
 |(id,_)::r,rn=>vd_ r (ua_ id id rn)
def uY_ (ids:List Nat):List (Nat×Nat)->List (Nat×Nat)
 |[]=>[]
 |(id,a)::r=>match memT id ids with
  |true=>(id,a)::uY_ ids r
  |false=>uY_ ids r
def Tpl.ids (tp:Tpl):List Nat:=sS_ tp.fix (sS_ tp.maps (oK_ tp.rows))
def yV_ (tp:Tpl) (T:Tm) (H:AHeap):List (Nat×Nat):=uY_ tp.ids (vd_ tp.fix (vd_ tp.maps (pM_ H tp.rows (yd_ T tp.slots []))))
def yO_:List (Nat×Nat)->List (Nat×Nat)->List (Nat×Nat)
 |[],acc=>acc
 |(id,a)::r,acc=>(a,id)::yO_ r acc
def uh_:List DA->List (Nat×Nat)->List (Nat×Nat)
 |[],acc=>acc
 |d::r,acc=>match d.act with
  |some i=>(i,d.id)::uh_ r acc
  |none=>uh_ r acc
def mN (ds:List DA) (inv:List (Nat×Nat)) (next:Nat):List (Nat×Nat)->Bool
 |[]=>true
 |(id,a)::r=>Nat.blt id next&&(Nat.blt id top&&(lp_ (Q_ inv a) (some id)&&((W_ ds id).isNone&&mN ds inv next r)))
def mH (ds:List DA) (rn:List (Nat×Nat)) (hv:List AV) (n:Nat) (H:AHeap):List (Nat×List AV)->Bool
 |[]=>true
 |(id,cs)::r=>(match Q_ rn id with
  |some a=>match H.get a with
   |some (.cells l)=>mL H ds rn hv n cs l
   |_=>false
  |none=>false)&&mH ds rn hv n H r
def mD (inv:List (Nat×Nat)) (hv:List AV) (next:Nat):List DA->Bool
 |[]=>true
 |d::r=>Nat.blt d.id next&&(Nat.blt d.id top&&((match cO_ d.j hv with
  |some y=>bB_ y d.x
  |none=>false)&&((match d.act with
  |some i=>lp_ (Q_ inv i) (some d.id)
  |none=>true)&&mD inv hv next r)))
def zV_ (H:AHeap) (rn:List (Nat×Nat)):List (Nat×Nat)->List (Nat×AV)->Option (List (Nat×AV))
 |[],acc=>some acc
 |(id,j)::r,acc=>match Q_ rn id with
  |some a=>match sj_ H a with
   |some x=>match zV_ H rn r acc with
    |some l=>some ((j,x)::l)
    |none=>none
   |none=>none
  |none=>none
def mM (rn:List (Nat×Nat)) (hv:List AV) (H:AHeap):List (Nat×Nat)->Bool
 |[]=>true
 |(id,j)::r=>(match Q_ rn id with
  |some a=>match sj_ H a with
   |some x=>match cO_ j hv with
    |some y=>bB_ y x
    |none=>false
   |none=>false
  |none=>false)&&mM rn hv H r
def rb_ (cs:List AV) (x:AV):Bool:=match x with
 | .vsl len z cs'=>er_ cs' cs&&(Nat.beq (aB_ cs) (Nat.mul len z)&&(k_ cs&&aF_ cs))
 |_=>false
def mF (rn:List (Nat×Nat)) (hv:List AV) (n:Nat) (H:AHeap):List (Nat×Nat)->Bool
 |[]=>true
 |(id,i)::r=>(match Q_ rn id with
  |some a=>match H.get a with
   |some (.syl i')=>match Nat.blt i pm_ with
    |true=>Nat.blt i n&&Nat.beq i i'
    |false=>match cO_ (i7_ i) hv with
     |some x=>bB_ x (.sym i')
     |none=>false
   |some (.cells cs)=>match Nat.blt i pm_ with
    |true=>false
    |false=>match cO_ (i7_ i) hv with
     |some x=>rb_ cs x
     |none=>false
   |_=>false
  |none=>false)&&mF rn hv n H r
def ts_ (rn:List (Nat×Nat)) (H:AHeap):List (Nat×Nat)->List (Nat×AV)->List (Nat×AV)
 |[],acc=>acc
 |(id,i)::r,acc=>match Nat.blt i pm_ with
  |true=>ts_ rn H r acc
  |false=>match Q_ rn id with
   |some a=>match H.get a with
    |some (.syl i')=>(i7_ i,.sym i')::ts_ rn H r acc
    |some (.cells cs)=>(i7_ i,.vsl (Nat.div (aB_ cs) (zF i)) (zF i) cs)::ts_ rn H r acc
    |_=>ts_ rn H r acc
   |none=>ts_ rn H r acc
def xK_ (ds:List DA) (rn:List (Nat×Nat)):Nat->Bool
 |0=>true
 |k+1=>(match Q_ rn k with
  |some a=>Nat.beq a k
  |none=>match W_ ds k with
   |some d=>lp_ d.act (some k)
   |none=>false)&&xK_ ds rn k
def noD:Dfs->Bool
 |[]=>true
 |_=>false
structure MR where
 rn:List (Nat×Nat)
 ds:List DA
 hv:List AV
def MR.inv (m:MR):List (Nat×Nat):=uh_ m.ds (yO_ m.rn [])
def hM_ (n:Nat) (tp:Tpl) (T:Tm) (H:AHeap):Option MR:=match yV_ tp T H with
 |rn=>match sJ_ T H rn tp.acc with
  |none=>none
  |some ds=>match zV_ H rn tp.maps (Aj_ ds (AR_ T tp.slots (zS_ H rn tp.rows [])))with
   |none=>none
   |some ms=>match rf_ (ts_ rn H tp.fix ms) 0 tp.nv with
    |none=>none
    |some hv=>match MR.mk rn ds hv with
      |m=>match k_ hv&&(aF_ hv&&(mT H ds rn hv n T tp.slots&&(mN ds m.inv tp.next rn&&(mH ds rn hv n H tp.rows&&(mD m.inv hv tp.next ds&&(mM rn hv H tp.maps&&(mF rn hv n H tp.fix&&Nat.ble tp.next top)))))))with
       |true=>some m
       |false=>none
def nnL (k:Nat) (hv:List AV):List TA->Option (List Nat)
 |[]=>some []
 |t::r=>match nnL k hv r with
  |none=>none
  |some l=>match Nat.blt t.id k with
   |false=>some l
   |true=>match cO_ t.j hv with
    |some (.sym i)=>some (i::l)
    |some (.vsl _ _ _)=>some l
    |_=>none
structure MT where
 hv:List AV
 nn:List Nat
def iE_ (n k:Nat) (tp:Tpl) (S:VS):Option MT:=match noD S.D with
 |false=>none
 |true=>match hM_ n tp S.T S.H with
  |none=>none
  |some m=>match xK_ m.ds m.rn k with
   |false=>none
   |true=>match nnL k m.hv tp.acc with
    |none=>none
    |some l=>some ⟨m.hv,l⟩
mutual
def tQ_:AV->AV->List AV
 | .slx _ z _,a=>match z with
   |0=>match r_ a with
    |true=>[]
    |false=>[a]
   |_+1=>[]
 | .agg ts,.agg cs=>v1_ ts cs
 | .tup ts,.tup cs=>v1_ ts cs
 | .iface _ t,.iface _ a=>tQ_ t a
 | .vsl _ _ _,.sl id o n z c=>[.sl id o n z c]
 |_,_=>[]
def v1_:List AV->List AV->List AV
 |t::ts,a::r=>lf_ (tQ_ t a) (v1_ ts r)
 |_,_=>[]
end
def g0_ (T:Tm):List (Nat×AV)->List AV
 |[]=>[]
 |(t,a)::r=>lf_ (tQ_ a (tget T t)) (g0_ T r)
def d3_ (S:VS) (args:List AV):VS:=let l:=eR_ 100 S.H args []
 ⟨aT_ (frz (e3_ S.H l)) S.T,dV_ S.H l,S.n,S.lv,S.D⟩
def xM_ (S:VS) (args:List AV) (id:Nat):VS:=let l:=eR_ 100 S.H args []
 ⟨aT_ (frz (e3_ S.H l)) S.T,xj_ (e3_ S.H l) id (dV_ S.H l),S.n,S.lv,S.D⟩
mutual
def reA (id i k:Nat):AV->AV
 | .slx a z j=>match Nat.beq a id&&Nat.beq j i with
   |true=>.slx a z k
   |false=>.slx a z j
 | .vptr cs=>.vptr (reL id i k cs)
 | .vsl n z cs=>.vsl n z (reL id i k cs)
 | .fn f cs=>.fn f (reL id i k cs)
 | .iface t a=>.iface t (reA id i k a)
 | .agg cs=>.agg (reL id i k cs)
 | .tup cs=>.tup (reL id i k cs)
 |a=>a
def reL (id i k:Nat):List AV->List AV
 |[]=>[]
 |a::r=>reA id i k a::reL id i k r
end
structure SR where
 id:Nat
 i:Nat
 k:Nat
def hO_ (H:AHeap):List AV->List SR
 |[]=>[]
 |a::r=>match a with
  | .slx id _ i=>match H.get id with
    |some (.syl k)=>match Nat.beq i k with
     |true=>hO_ H r
     |false=>⟨id,i,k⟩::hO_ H r
    |_=>hO_ H r
  |_=>hO_ H r
def yF_:List SR->List AV->List AV
 |[],l=>l
 |q::r,l=>yF_ r (reL q.id q.i q.k l)
def reS:List SR->VS->VS
 |[],S=>S
 |q::r,S=>reS r ⟨aT_ (reA q.id q.i q.k) S.T,S.H,S.n,S.lv,S.D⟩
def qJ_:List SR->List (Nat×Nat)
 |[]=>[]
 |q::r=>(q.i,q.k)::qJ_ r
structure FR where
 l:List (Nat×Nat)
 S:VS
def hB_ (S:VS) (l:List AV):FR:=match hO_ S.H l with
 |[]=>⟨[],d3_ S l⟩
 |q=>⟨qJ_ q,d3_ (reS q S) (yF_ q l)⟩
def nz_ (tp:Tpl) (S:VS):FR:=match g0_ S.T tp.slots with
 |[]=>⟨[],S⟩
 |l=>hB_ S l
def qs_ (H:AHeap) (a:AV):Option (Nat×Nat×AV):=match a with
 | .slx id z i=>match H.get id with
   |some (.syl k)=>match Nat.beq i k with
    |true=>none
    |false=>some (i,k,.slx id z k)
   |_=>none
 |_=>none
def fb_:Nat->AV->List AV->List AV
 |_,_,[]=>[]
 |0,x,_::r=>x::r
 |n+1,x,a::r=>a::fb_ n x r
def mU_ (rn:List (Nat×Nat)) (t:TA) (S:VS):FR:=match mF_ S.T S.H rn t with
 |none=>⟨[],S⟩
 |some a=>match qs_ S.H a with
  |none=>⟨[],S⟩
  |some (i,k,a')=>match t.off with
   |none=>match Nat.blt t.loc 512 with
    |true=>⟨[(i,k)],⟨dP_ S.T t.loc a',S.H,S.n,S.lv,S.D⟩⟩
    |false=>⟨[],S⟩
   |some o=>match Q_ rn t.loc with
    |some r=>match S.H.get r with
     |some (.cells cs)=>⟨[(i,k)],⟨S.T,S.H.set r (.cells (fb_ o a' cs)),S.n,S.lv,S.D⟩⟩
     |_=>⟨[],S⟩
    |none=>match tget S.T (Nat.sub t.loc 600)with
     | .tup cs=>match Nat.blt (Nat.sub t.loc 600) 512 with
       |true=>⟨[(i,k)],⟨dP_ S.T (Nat.sub t.loc 600) (.tup (fb_ o a' cs)),S.H,S.n,S.lv,S.D⟩⟩
       |false=>⟨[],S⟩
     |_=>⟨[],S⟩
def eW_ (rn:List (Nat×Nat)):List TA->VS->FR
 |[],S=>⟨[],S⟩
 |t::r,S=>match mU_ rn t S with
  |f=>match eW_ rn r f.S with
   |g=>⟨appP f.l g.l,g.S⟩
where
 appP:List (Nat×Nat)->List (Nat×Nat)->List (Nat×Nat)
 |[],l=>l
 |x::r,l=>x::appP r l
def m6_ (tp:Tpl) (S:VS):FR:=eW_ (yV_ tp S.T S.H) tp.acc S
def cW_ (tp:Tpl) (S:VS):FR:=match nz_ tp S with
 |f=>match m6_ tp f.S with
  |g=>⟨eW_.appP f.l g.l,g.S⟩
def kj_:List (Nat×Nat)->VT->VT
 |[],t=>t
 |(i,k)::r,t=>.chk (.same i k) (kj_ r t)
structure MA where
 j:Nat
 l:List (Nat×Nat)
 m:MT
def clashT (T:Tm):List (Nat×AV)->Bool
 |[]=>false
 |(t,a)::r=>(match a with
  | .int _ x=>match tget T t with
    | .int _ y=>not (eqI x y)
    |_=>false
  |_=>false)||clashT T r
def et_ (n k:Nat):List Tpl->Nat->VS->Option MA
 |[],_,_=>none
 |tp::r,j,S=>match clashT S.T tp.slots with
  |true=>et_ n k r (Nat.succ j) S
  |false=>match cW_ tp S with
   |f=>match iE_ n k tp f.S with
    |some m=>some ⟨j,f.l,m⟩
    |none=>et_ n k r (Nat.succ j) S
def Tpl.heap (tp:Tpl) (n:Nat):AHeap:=lO_ n (jF_ n (gj_ n (hu_ n tp.next tp.rows) tp.acc) tp.maps) tp.fix
def Tpl.inst (tp:Tpl) (n lv:Nat):VS:=⟨c2_ n tp.slots,tp.heap n,Nat.add n tp.nv,lv,[]⟩
def tL_:List Nat->VT->VT
 |[],t=>t
 |i::r,t=>.chk (.nn i) (tL_ r t)
section
variable [Gl]
def cc_:List (Nat×AV)->List AV
 |[]=>[]
 |(_,a)::r=>a::cc_ r
def th_ (ft:FT) (n:Nat) (Y0:Sy) (Q:Nat->List AV->Prop) (Y:Sy) (r:FRes):Prop:=
 ∃j ws b tp,ft.exs[j]? =some (b,tp)/\Q j ws/\B_ ws=true/\ws.length=tp.nv/\Y=Y0.puts n ws/\r=(match b with
  |true=>.pan (tget (c2_ n tp.slots) 0) (tp.heap n)
  |false=>.ret (tget (c2_ n tp.slots) 0) (tp.heap n))
def CF (P:Program) (f:FuncId) (ft:FT) (vs:List AV) (Q:Nat->List AV->Prop):Prop:=
 vs.length=ft.ent.nv/\∀Y,Fresh Y 64->SemCallF P ft.k (Y.puts 64 vs) f (a1_ 64 (cc_ ft.ent.slots)) (ft.ent.heap 64) (th_ ft (Nat.add 64 ft.ent.nv) (Y.puts 64 vs) Q)
def Chk.ok (Y:Sy):Chk->Prop
 | .same i j=>(Y.v i=some .nsl/\Y.v j=some .nsl)\/∃n z cs ds,Y.v i=some (.vsl n z cs)/\Y.v j=some (.vsl n z ds)
 | .nn i=>∃n z cs,Y.v i=some (.vsl n z cs)
 | .pos i=>∃n z cs,Y.v i=some (.vsl (n+1) z cs)
mutual
def T_ (P:Program) (Q:AV->Prop):List (Nat->List AV->Prop)->Sy->VT->Prop
 |_,_,.bad=>False
 |_,Y,.done v=>Q (w_ Y.v v)
 |L,Y,.ite i a b=>∃t,Y.v i=some (.bool t)/\(t=true->T_ P Q L Y a)/\(t=false->T_ P Q L Y b)
 |L,Y,.lt op args n m t=>match m with
  |none=>∃r,op.run P (e_ Y.v args)=some r/\I_ r=true/\T_ P Q L (Y.put n r) t
  |some k=>∃cs,op.run P (e_ Y.v args)=some (.agg cs)/\cs.length=k/\B_ cs=true/\T_ P Q L (Y.puts n cs) t
 |L,Y,.call f args n sh t=>∃v vs,V_ P f (e_ Y.v args) v/\iR_ sh v=some vs/\B_ vs=true/\T_ P Q L (Y.puts n vs) t
 |L,Y,.loop n j hv bs=>∃(Inv:Nat->List AV->Prop) (μ:Nat->List AV->Nat),(∀j vs,Inv j vs->B_ vs=true)/\Inv j (e_ Y.v hv)/\yr_ P Q Inv μ L n 0 Y bs
 |L,Y,.again lvl j hv=>∃R,L[lvl]? =some R/\R j (e_ Y.v hv)
 |L,Y,.chk c t=>c.ok Y/\T_ P Q L Y t
 |L,Y,.callF f ft hv n bs=>∃R,CF P f ft (e_ Y.v hv) R/\B_ (e_ Y.v hv)=true/\vN_ P Q R L (Y.puts n (e_ Y.v hv)) (Nat.add n ft.ent.nv) 0 bs
 |L,Y,.both a b=>T_ P Q L Y a/\T_ P Q L Y b
def yr_ (P:Program) (Q:AV->Prop) (Inv:Nat->List AV->Prop) (μ:Nat->List AV->Nat):List (Nat->List AV->Prop)->Nat->Nat->Sy->VTs->Prop
 |_,_,_,_,.nil=>True
 |L,n,j,Y,.cons nv t r=>(∀vs,vs.length=nv->Inv j vs->T_ P Q (L++[λj' vs'=>Inv j' vs'/\μ j' vs'<μ j vs]) (Y.puts n vs) t)/\yr_ P Q Inv μ L n (j+1) Y r
def vN_ (P:Program) (Q:AV->Prop) (R:Nat->List AV->Prop):List (Nat->List AV->Prop)->Sy->Nat->Nat->VTs->Prop
 |_,_,_,_,.nil=>True
 |L,Y,n,j,.cons _ t r=>(∀ws,R j ws->T_ P Q L (Y.puts n ws) t)/\vN_ P Q R L Y n (j+1) r
end
end
def m1_:xX_->Nat->Option (List Tpl)
 |[],_=>none
 |(b,l)::r,bid=>match Nat.beq b bid with
  |true=>some l
  |false=>m1_ r bid
section
variable [Gl]
abbrev t2_:=List (FuncId×List (Option Nat))
def zp_:t2_->FuncId->Option (List (Option Nat))
 |[],_=>none
 |(g,sh)::r,f=>match Nat.beq g f with
  |true=>some sh
  |false=>zp_ r f
abbrev vl_:=List (FuncId×FT)
def zb_:vl_->FuncId->Option FT
 |[],_=>none
 |(g,t)::r,f=>match Nat.beq g f with
  |true=>some t
  |false=>zb_ r f
structure VC where
 fc:FcT
 cs:t2_
 hs:xX_
 k:Nat
 own:Bool
 fs:vl_
def tZ_ (P:Program) (S:VS) (o:Oper):Option (Nat×Nat×XOp×List AV):=match noD S.D with
 |true=>gZ_ P S.T S.H o
 |false=>none
def p7_ (P:Program) (S:VS) (o:Oper):Option (Nat×Nat×XOp×List AV):=match noD S.D with
 |true=>match cU_ P S.T S.H o with
  |some r=>some r
  |none=>yC_ P S.T S.H o
 |false=>none
def t3_ (P:Program) (S:VS) (o:Oper):Option (Nat×XOp×List AV):=match noD S.D with
 |true=>u6_ P S.T S.H o
 |false=>none
def sgS (hv:List AV) (n i:Nat):Nat:=match Nat.blt i 64 with
 |true=>i
 |false=>match cO_ (Nat.sub i 64) hv with
  |some (.sym s)=>s
  |_=>Nat.add n (Nat.sub i 64)
def sgV (hv:List AV) (n i:Nat):AV:=match Nat.blt i 64 with
 |true=>.sym i
 |false=>match cO_ (Nat.sub i 64) hv with
  |some a=>match I_ a with
   |true=>a
   |false=>.sym (sgS hv n i)
  |none=>.sym (sgS hv n i)
mutual
def cx_ (hv:List AV) (n:Nat) (r:Nat->Nat):AV->AV
 | .sym i=>sgV hv n i
 | .slx id z i=>.slx (r id) z (sgS hv n i)
 | .ptx id j z off=>.ptx (r id) (sgS hv n j) z off
 | .ptr id off=>.ptr (r id) off
 | .sl id off len sz cap=>.sl (r id) off len sz cap
 | .map id=>.map (r id)
 | .vptr cs=>.vptr (gf_ hv n r cs)
 | .vsl a z cs=>.vsl a z (gf_ hv n r cs)
 | .fn f cs=>.fn f (gf_ hv n r cs)
 | .iface t a=>.iface t (cx_ hv n r a)
 | .agg cs=>.agg (gf_ hv n r cs)
 | .tup cs=>.tup (gf_ hv n r cs)
 |a=>a
def gf_ (hv:List AV) (n:Nat) (r:Nat->Nat):List AV->List AV
 |[]=>[]
 |a::l=>cx_ hv n r a::gf_ hv n r l
end
def vE_ (hv:List AV) (n:Nat) (r:Nat->Nat):ABlk->Option ABlk
 | .cells cs=>some (.cells (gf_ hv n r cs))
 | .syl i=>some (.syl (sgS hv n i))
 | .mpl i=>some (.mpl (sgS hv n i))
 |_=>none
def ni_ (hv:List AV) (n:Nat) (r:Nat->Nat) (F:AHeap) (base:AHeap):List Nat->AHeap
 |[]=>base
 |id::l=>match F.get id with
  |some k=>match vE_ hv n r k with
   |some k'=>(ni_ hv n r F base l).set (r id) k'
   |none=>ni_ hv n r F base l
  |none=>ni_ hv n r F base l
def dJ_:List TA->List Nat->List Nat
 |[],l=>l
 |t::r,l=>t.id::dJ_ r l
def s1_:List (Nat×Nat)->List Nat->List Nat
 |[],l=>l
 |(_,a)::r,l=>a::s1_ r l
def qz_:List DA->List Nat->List Nat
 |[],l=>l
 |d::r,l=>match d.act with
  |some i=>i::qz_ r l
  |none=>qz_ r l
def iW_ (m:MR) (j:Nat):Option Nat:=match Q_ m.rn j with
 |some a=>some a
 |none=>match W_ m.ds j with
  |some d=>d.act
  |none=>none
def qd_ (m:MR):Nat->Option (List Nat)
 |0=>some []
 |k+1=>match qd_ m k with
  |some l=>match iW_ m k with
   |some a=>some (snoc l a)
   |none=>none
  |none=>none
where
 snoc:List Nat->Nat->List Nat
 |[],a=>[a]
 |x::r,a=>x::snoc r a
def xr_:Nat->List Nat->Option Nat
 |_,[]=>none
 |0,a::_=>some a
 |n+1,_::r=>xr_ n r
def qV_ (low:List Nat) (k nx j:Nat):Nat:=match xr_ j low with
 |some a=>a
 |none=>Nat.add nx (Nat.sub j k)
mutual
def it_:AV->Bool
 | .ptr id _=>Nat.blt id top
 | .sl id _ _ _ _=>Nat.blt id top
 | .map id=>Nat.blt id top
 | .slx id _ _=>Nat.blt id top
 | .ptx id _ _ _=>Nat.blt id top
 | .vptr cs=>hT_ cs
 | .vsl _ _ cs=>hT_ cs
 | .fn _ cs=>hT_ cs
 | .iface _ a=>it_ a
 | .agg cs=>hT_ cs
 | .tup cs=>hT_ cs
 |_=>true
def hT_:List AV->Bool
 |[]=>true
 |a::r=>it_ a&&hT_ r
end
def qI_ (n:Nat):List (Nat×List AV)->Bool
 |[]=>true
 |(_,cs)::r=>hT_ (a1_ n cs)&&qI_ n r
def p0_:List Nat->Bool
 |[]=>true
 |i::r=>Nat.blt i top&&p0_ r
def j8_ (H:AHeap):List Nat->Bool
 |[]=>true
 |a::r=>(H.get a).isSome&&j8_ H r
def gv_:Nat->List (Nat×AV)->Bool
 |_,[]=>true
 |i,(j,_)::r=>Nat.beq i j&&(Nat.blt i 512&&gv_ (Nat.succ i) r)
def oz_ (k n:Nat) (H:AHeap):List (Bool×Tpl)->Bool
 |[]=>true
 |(_,tp)::r=>Nat.ble k tp.next&&(Nat.blt (Nat.add H.next (Nat.sub tp.next k)) H.hi&&(it_ (tget (c2_ n tp.slots) 0)&&(qI_ n tp.rows&&(p0_ (dJ_ tp.acc tp.ids)&&oz_ k n H r))))
def exH (ft:FT) (m:MR) (low:List Nat) (S:VS) (tp:Tpl):AHeap:=ni_ m.hv S.n (qV_ low ft.k S.H.next) (tp.heap (Nat.add 64 ft.ent.nv))
 (match dV_ S.H (qz_ m.ds (s1_ m.rn []))with
   |B=>⟨B.tr,Nat.add S.H.next (Nat.sub tp.next ft.k),B.hi⟩) (dJ_ tp.acc tp.ids)
def exV (ft:FT) (m:MR) (low:List Nat) (S:VS) (tp:Tpl):AV:=cx_ m.hv S.n (qV_ low ft.k S.H.next) (tget (c2_ (Nat.add 64 ft.ent.nv) tp.slots) 0)
def exN (ft:FT) (S:VS) (tp:Tpl):Nat:=Nat.add (Nat.add S.n ft.ent.nv) tp.nv
def t1_ (ft:FT) (m:MR) (low:List Nat) (u:Tm->AV->Tm) (S:VS) (X:VX->VT) (k:VS->VT):List (Bool×Tpl)->VTs
 |[]=>.nil
 |(b,tp)::r=>.cons tp.nv (match b with
  |false=>k ⟨u S.T (exV ft m low S tp),exH ft m low S tp,exN ft S tp,S.lv,S.D⟩
  |true=>X (.pan (exV ft m low S tp) ⟨S.T,exH ft m low S tp,exN ft S tp,S.lv,S.D⟩)) (t1_ ft m low u S X k r)
def nw_ (g:FuncId) (ft:FT) (u:Tm->AV->Tm) (S:VS) (args:List AV) (X:VX->VT) (k:VS->VT):VT:=match m6_ ft.ent ⟨au_ args 0 topq,S.H,S.n,S.lv,[]⟩with
 |f=>match hM_ 64 ft.ent f.S.T f.S.H with
  |none=>.bad
  |some m=>match qd_ m ft.k with
   |none=>.bad
   |some low=>match oz_ ft.k (Nat.add 64 ft.ent.nv) f.S.H ft.exs&&(Nat.ble f.S.H.hi top&&(Nat.beq (aB_ args) (aB_ (cc_ ft.ent.slots))&&(gv_ 0 ft.ent.slots&&j8_ f.S.H low)))with
    |true=>kj_ f.l (.callF g ft m.hv S.n (t1_ ft m low u ⟨S.T,f.S.H,S.n,S.lv,S.D⟩ X k ft.exs))
    |false=>.bad
def qy_ (P:Program) (g:FuncId) (ft:FT) (o:Oper) (u:Tm->AV->Tm) (S:VS) (args:List AV) (X:VX->VT) (k:VS->VT):VT:=match g0_ (au_ args 0 topq) ft.ent.slots with
 |[]=>nw_ g ft u S args X k
 |l=>match hB_ S l with
  |f=>match (j_ P o).run f.S.T f.S.H with
   |some r=>match r with
    | .call g' args'=>match Nat.beq g' g with
      |true=>kj_ f.l (nw_ g ft u f.S args' X k)
      |false=>.bad
    |_=>.bad
   |none=>.bad
def INL (P:Program) (Q:AV->Prop) (fc:FcT) (L:List (Nat->List AV->Prop)) (n:Nat) (Y:Sy) (ret pan:AV->AHeap->Nat->Nat->VT) (Y':Sy) (r:FRes):Prop:=
 ∃(n' lv':Nat) (L':List (Nat->List AV->Prop)),L <+: L'/\L'.length=lv'/\n<=n'/\(∀i,i<n->Y'.v i=Y.v i)/\(Fresh Y' n'/\KnownF P fc Y')/\(match r with
  | .ret a H=>T_ P Q L' Y' (ret a H n' lv')
  | .pan a H=>T_ P Q L' Y' (pan a H n' lv'))
structure Inl (P:Program) (fuel:Nat) where
 run:VC->FuncId->List AV->AHeap->Nat->Nat->(AV->AHeap->Nat->Nat->VT)->(AV->AHeap->Nat->Nat->VT)->VT
 ok:∀{c:VC} {g:FuncId} {args:List AV} {H:AHeap} {n lv:Nat} {ret pan:AV->AHeap->Nat->Nat->VT} {Q:AV->Prop} {L:List (Nat->List AV->Prop)} {Y:Sy},P.follows .mixedOrders=true->O_ P (aM_ P fuel)->L.length=lv->Fresh Y n/\KnownF P c.fc Y->
  T_ P Q L Y (run c g args H n lv ret pan)->SemCallF P H.next Y g args H (INL P Q c.fc L n Y ret pan)
def in0 (P:Program) (fuel:Nat):Inl P fuel:=⟨λ_ _ _ _ _ _ _ _=>.bad,λ_ _ _ _ h=>by unfold T_ at h;exact h.elim⟩
mutual
def c5_ (k n:Nat):AV->Bool
 | .ptr id _=>Nat.blt id k
 | .sl id _ _ _ _=>Nat.blt id k
 | .map id=>Nat.blt id k
 | .slx id _ i=>Nat.blt id k&&Nat.blt i n
 | .ptx id j _ _=>Nat.blt id k&&Nat.blt j n
 | .sym i=>Nat.blt i n
 | .vptr cs=>eF_ k n cs
 | .vsl _ _ cs=>eF_ k n cs
 | .fn _ cs=>eF_ k n cs
 | .iface _ a=>c5_ k n a
 | .agg cs=>eF_ k n cs
 | .tup cs=>eF_ k n cs
 |_=>true
def eF_ (k n:Nat):List AV->Bool
 |[]=>true
 |a::r=>c5_ k n a&&eF_ k n r
end
def bA_ (k n:Nat) (a:AV):AV:=match c5_ k n a with
 |true=>a
 |false=>.opq
def n4_ (k n:Nat):Dfs->Bool
 |[]=>true
 |(_,args)::r=>eF_ k n args&&n4_ k n r
def qk_ (P:Program) {fuel:Nat} (I:Inl P fuel) (c:VC) (o:Oper) (u:Tm->AV->Tm) (S:VS) (X:VX->VT) (k:VS->VT):VT:=match n4_ S.H.next S.n S.D&&Nat.ble c.k S.H.next with
 |false=>.bad
 |true=>match aT_ (bA_ S.H.next S.n) S.T with
  |T1=>match (j_ P o).run T1 S.H with
   |some r=>match r with
    | .call g args=>I.run c g args S.H S.n S.lv
      (λa H n lv=>match Nat.beq lv S.lv with
       |true=>k ⟨u T1 a,H,n,lv,S.D⟩
       |false=>.bad)
      (λa H n lv=>match Nat.beq lv S.lv with
       |true=>X (.pan a ⟨T1,H,n,lv,S.D⟩)
       |false=>.bad)
    |_=>.bad
   |none=>.bad
def vx_ (P:Program) (fuel:Nat) (I:Inl P fuel) (c:VC) (o:Oper) (u:Tm->AV->Tm) (S:VS) (g:FuncId) (args:List AV) (X:VX->VT) (k:VS->VT):VT:=match zb_ c.fs g with
 |some ft=>qy_ P g ft o u S args X k
 |none=>match zp_ c.cs g with
  |some sh=>match k_ args with
   |true=>.call g args S.n sh (k ⟨u S.T (dG_ S.n sh),S.H,Nat.add S.n (c4_ sh),S.lv,S.D⟩)
   |false=>match (j_ P o).run (d3_ S args).T (d3_ S args).H with
    |some r=>match r with
     | .call g' args'=>match Nat.beq g' g&&k_ args' with
       |true=>.call g args' S.n sh (k ⟨u (d3_ S args).T (dG_ S.n sh),(d3_ S args).H,Nat.add S.n (c4_ sh),S.lv,S.D⟩)
       |false=>.bad
     |_=>.bad
    |none=>.bad
  |none=>match aM_ P fuel g args S.H with
   |some r=>match r with
    | .ret a H'=>k ⟨u S.T a,H',S.n,S.lv,S.D⟩
    | .pan _ _=>.bad
   |none=>qk_ P I c o u S X k
def w3_ (P:Program) (c:VC) (u:Tm->AV->Tm) (S:VS) (k:VS->VT) (op:XOp) (args:List AV):VT:=match n5_ P op with
 |none=>match ol_ c.fc.b op args with
  |some v=>k ⟨u S.T v,S.H,S.n,S.lv,S.D⟩
  |none=>.lt op args S.n none (k ⟨u S.T (.sym S.n),S.H,Nat.succ S.n,S.lv,S.D⟩)
 |some m=>.lt op args S.n (some m) (k ⟨u S.T (.agg (m_ S.n m)),S.H,Nat.add S.n m,S.lv,S.D⟩)
def y3_ (P:Program) (c:VC) (o:Oper) (u:Tm->AV->Tm) (S:VS) (k:VS->VT):Option VT:=match c.own with
 |false=>none
 |true=>match uf_ P S.T o with
  |some a=>some (k ⟨u S.T a,S.H,S.n,S.lv,S.D⟩)
  |none=>match sZ_ P S.T o with
   |some (op,args,id,sz)=>some (.lt op args S.n none (k ⟨u S.T (.ptx id S.n sz 0),S.H,Nat.succ S.n,S.lv,S.D⟩))
   |none=>match ldX S.T S.H o with
    |some (op,args)=>match n5_ P op with
     |none=>some (.lt op args S.n none (k ⟨u S.T (.sym S.n),S.H,Nat.succ S.n,S.lv,S.D⟩))
     |some m=>some (.lt op args S.n (some m) (k ⟨u S.T (.agg (m_ S.n m)),S.H,Nat.add S.n m,S.lv,S.D⟩))
    |none=>match stX S.T S.H o with
     |some (op,args,id)=>some (.lt op args S.n none (k ⟨u S.T (.tup []),S.H.set id (.syl S.n),Nat.succ S.n,S.lv,S.D⟩))
     |none=>match tkX P S.T S.H o with
        |some (op,args,id,sz)=>some (.lt op args S.n none (k ⟨u S.T (.slx id sz S.n),S.H.set id (.syl S.n),Nat.succ S.n,S.lv,S.D⟩))
        |none=>none
def vM_ (P:Program) (fuel:Nat) (I:Inl P fuel) (c:VC) (o:Oper) (u:Tm->AV->Tm) (S:VS) (X:VX->VT) (k:VS->VT):VT:=match (j_ P o).run S.T S.H with
 |some r=>match r with
  | .val a H'=>k ⟨u S.T a,H',S.n,S.lv,S.D⟩
  | .call g args=>vx_ P fuel I c o u S g args X k
  | .dfr g args=>k ⟨u S.T (.tup []),S.H,S.n,S.lv,(g,args)::S.D⟩
  | .pan v=>X (.pan v S)
  |_=>.bad
 |none=>match no_ o S.T with
  |some (i,a,b)=>.ite i (k ⟨u (S.know i true).T (look (S.know i true).T a),S.H,S.n,S.lv,S.D⟩) (k ⟨u (S.know i false).T (look (S.know i false).T b),S.H,S.n,S.lv,S.D⟩)
  |none=>match v5_ c.fc.x S.T o with
   |some v=>k ⟨u S.T v,S.H,S.n,S.lv,S.D⟩
   |none=>match y3_ P c o u S k with
    |some t=>t
    |none=>match tZ_ P S o with
    |some (id,sz,op,args)=>.lt op args S.n none (k ⟨u S.T (.slx S.H.next sz S.n),(S.H.erase id).push (.syl S.n),Nat.succ S.n,S.lv,S.D⟩)
    |none=>match p7_ P S o with
    |some (id,sz,op,args)=>.lt op args S.n none (k ⟨u S.T (.slx S.H.next sz S.n),(S.H.erase id).push (.syl S.n),Nat.succ S.n,S.lv,S.D⟩)
    |none=>match gg_ S.T o with
     |some (op,args)=>.lt op args S.n none (k ⟨u S.T (.sym S.n),S.H,Nat.succ S.n,S.lv,S.D⟩)
     |none=>match t3_ P S o with
     |some (id,op,args)=>.lt op args S.n none (k ⟨u S.T (.tup []),S.H.set id (.mpl S.n),Nat.succ S.n,S.lv,S.D⟩)
     |none=>match uH_ S.T S.H o with
     |some (op,args)=>match pZ_ P o with
      |true=>.lt op args S.n none (k ⟨u S.T (.sym S.n),S.H,Nat.succ S.n,S.lv,S.D⟩)
      |false=>.bad
     |none=>match lG_ S.T S.H o with
     |some (op,args)=>.lt op args S.n none (k ⟨u S.T (.sym S.n),S.H,Nat.succ S.n,S.lv,S.D⟩)
     |none=>match mgX S.T S.H o with
     |some (op,args)=>.lt op args S.n none (k ⟨u S.T (.sym S.n),S.H,Nat.succ S.n,S.lv,S.D⟩)
     |none=>match yG_ P S.T o with
     |some (op,args)=>.lt op args S.n none (k ⟨u S.T (.sym S.n),S.H,Nat.succ S.n,S.lv,S.D⟩)
     |none=>match dN_ S.T o with
      |some (op,args)=>match k_ args with
       |true=>w3_ P c u S k op args
       |false=>match dN_ (d3_ S args).T o with
        |some (op',args')=>match k_ args' with
         |true=>w3_ P c u (d3_ S args) k op' args'
         |false=>.bad
        |none=>.bad
      |none=>.bad
def tY_ (all:List Oper) (o:Oper) (T:Tm):Option Bool:=match aI_ all o with
 | .always=>some true
 | .mk g=>g T
def vOp (P:Program) (fuel:Nat) (I:Inl P fuel) (c:VC) (all:List Oper) (o:Oper) (u:Tm->AV->Tm) (X:VX->VT) (next:VS->VT) (S:VS):VT:=match tY_ all o S.T with
 |some t=>match t with
  |false=>next ⟨u S.T (.tup []),S.H,S.n,S.lv,S.D⟩
  |true=>vM_ P fuel I c o u S X next
 |none=>.bad
def u8_ (T:Tm):List (Nat×Operand)->List AV
 |[]=>[]
 |(_,x)::r=>match look T x with
  | .slx id z i=>.slx id z i::u8_ T r
  |_=>u8_ T r
def pH_:List AV->List AV
 |[]=>[]
 |a::r=>match a with
  | .slx id z i=>.slx id z i::pH_ r
  | .sl id o l z c=>.sl id o l z c::pH_ r
  |_=>pH_ r
def ox_ (T:Tm):List (Nat×Operand)->List AV
 |[]=>[]
 |(_,x)::r=>match look T x with
  | .slx id z i=>.slx id z i::ox_ T r
  | .sl id o l z c=>.sl id o l z c::ox_ T r
  | .agg cs=>lf_ (pH_ cs) (ox_ T r)
  |_=>ox_ T r
def o4_ (own:Bool) (o:Oper) (S:VS):VS:=match o.op with
 | .buildSlice _ _ ps=>match (match own with
   |true=>ox_ S.T ps.toList
   |false=>u8_ S.T ps.toList)with
   |[]=>S
   |a=>d3_ S a
 | .call c=>match own with
   |false=>S
   |true=>match c.callee with
    | .builtin b=>match b with
      | .append=>match c.args.toList with
        |[_,x]=>match look S.T x with
         | .sl id _ _ _ _=>match S.H.get id with
          |some (.cells cs)=>match pH_ cs with
           |[]=>S
           |a=>xM_ S a id
          |_=>S
         |_=>S
        |_=>S
      |_=>S
    |_=>S
 |_=>S
def nr_ (P:Program) (N fuel:Nat) (I:Inl P fuel) (c:VC) (all:List Oper) (X:VX->VT):List Oper->VS->(VS->VT)->VT
 |[],S,K=>K S
 |o::r,S,K=>match b6_ N o.dst with
  | .bad=>.bad
  | .mk u=>match ok_ all o S.T with
    |some i=>.ite i (vOp P fuel I c all o u X (λS=>nr_ P N fuel I c all X r S K) (S.know i true)) (vOp P fuel I c all o u X (λS=>nr_ P N fuel I c all X r S K) (S.know i false))
    |none=>vOp P fuel I c all o u X (λS=>nr_ P N fuel I c all X r S K) (o4_ c.own o S)
def isM (x:SI):Bool:=match x.o.op with
 | .alloc _=>true
 | .box _ _=>true
 | .buildSlice _ _ _=>true
 |_=>false
inductive Tch where
 |none
 |one (id:Nat)
 |all
def im_ (x:SI) (R:Tm):Tch:=match x.o.op with
 | .call c=>match kX_ x with
   |false=>.all
   |true=>match c.args.toList with
    |s::r=>match look R s with
     | .slx id _ _=>.one id
     | .sym _=>.none
     | .sl id _ _ _ _=>.one id
     | .vsl n _ _=>match n with
       |0=>match r with
        |y::_=>match look R y with
          | .sym _=>.none
          |_=>.all
        |[]=>.all
       |_+1=>.all
     |_=>.all
    |[]=>.all
 |_=>.all
def kC_ (x:SI) (R:Tm):Bool:=match kX_ x with
 |false=>false
 |true=>match im_ x R with
  | .all=>false
  |_=>true
def b2_ (x:SI) (R:Tm):Tch:=match isM x with
 |true=>.none
 |false=>match x.o.op with
  | .store _ a _=>match look R a with
    | .ptr id _=>.one id
    | .ptx id _ _ _=>.one id
    |_=>.all
  |_=>im_ x R
def apart (t:Tch) (ids:List Nat):Bool:=match t with
 | .none=>true
 | .one id=>not (memT id ids)
 | .all=>match ids with
   |[]=>true
   |_::_=>false
structure GW where
 i:Nat
 H:AHeap
 t:Tch
def oO_ (bef:Nat) (H:AHeap):List GW->AHeap
 |[]=>H
 |g::r=>match bit bef g.i with
  |true=>H
  |false=>oO_ bef g.H r
def vI_ (bef:Nat) (ids:List Nat):List GW->Bool
 |[]=>true
 |g::r=>match bit bef g.i with
  |true=>true
  |false=>apart g.t ids&&vI_ bef ids r
def w2_ (bef:Nat) (t:Tch):List (Nat×List Nat)->Bool
 |[]=>true
 |(i,ids)::r=>(bit bef i||apart t ids)&&w2_ bef t r
def d7_ (H:AHeap):List Nat->AHeap
 |[]=>⟨hnil,0,0⟩
 |id::r=>match H.get id with
  |some b=>(d7_ H r).set id b
  |none=>d7_ H r
def Ao_ (a:AV) (acc:List Nat):List Nat:=match a with
 | .ptr id _=>id::acc
 | .sl id _ _ _ _=>id::acc
 | .map id=>id::acc
 | .ptx id _ _ _=>id::acc
 |_=>acc
def xQ_ (T:Tm):List Nat->List Nat
 |[]=>[]
 |t::r=>Ao_ (tget T t) (xQ_ T r)
def gu_ (x:SI) (T:Tm):List Nat:=match BX_ x with
 |true=>[]
 |false=>xQ_ T x.rd
def hK_ (x:SI) (S:VS) (gs:List GW):AHeap:=d7_ (oO_ x.bef S.H gs) (gu_ x S.T)
def sf_ (x:SI) (i:Nat) (y:SI):Bool:=match isW x&&isW y with
 |true=>bit y.bef i
 |false=>true
def qQ_ (x:SI) (i:Nat):List SI->Bool
 |[]=>true
 |y::r=>sf_ x i y&&qQ_ x i r
def nJ_:List SI->Nat->Bool
 |[],_=>true
 |x::r,i=>qQ_ x i r&&nJ_ r (Nat.succ i)
def t9_ (x:SI):Nat->Bool
 |0=>true
 |n+1=>bit x.bef n&&t9_ x n
def uC_ (x:SI) (i n:Nat):Nat:=match Nat.beq n (Nat.succ i)&&t9_ x i with
 |true=>i
 |false=>n
def co_:List SI->Nat->Nat
 |[],i=>i
 |x::r,i=>uC_ x i (co_ r (Nat.succ i))
def dZ_:Nat->List SI->List SI
 |0,_=>[]
 |_+1,[]=>[]
 |n+1,x::r=>x::dZ_ n r
def mK_:Nat->List Oper->List Oper
 |0,l=>l
 |_+1,[]=>[]
 |n+1,_::r=>mK_ n r
def r6_ (P:Program) (x:SI) (Hx:AHeap) (u:Tm->AV->Tm) (S:VS) (k:VS->VT):VT:=match ct_ (j_ P x.o) (P_ S.T x.rd topq) Hx with
 |some q=>k ⟨u S.T q,S.H,S.n,S.lv,S.D⟩
 |none=>.bad
def tJ_ (u:Tm->AV->Tm) (S:VS) (k:VS->VT) (R:Tm) (o:Oper) (id sz:Nat) (op:XOp) (args:List AV):VT:=match ag_ S.n args with
 |true=>match S.H.get S.H.next with
  |none=>match gw_ args with
   |true=>.lt op args S.n none (k ⟨u S.T (.slx S.H.next sz S.n),(S.H.erase id).push (.syl S.n),Nat.succ S.n,S.lv,S.D⟩)
   |false=>match dO_ args with
    |some i=>.lt .emp [.sym i] S.n none (.ite S.n (k ⟨u S.T (oy_ R o),S.H,Nat.succ S.n,S.lv,S.D⟩)
     (.lt op args (Nat.succ S.n) none (k ⟨u S.T (.slx S.H.next sz (Nat.succ S.n)),(S.H.erase id).push (.syl (Nat.succ S.n)),Nat.succ (Nat.succ S.n),S.lv,S.D⟩)))
    |none=>.bad
  |some _=>.bad
 |false=>.bad
def pR_ (P:Program) (x:SI) (u:Tm->AV->Tm) (S:VS) (k:VS->VT):VT:=match kX_ x with
 |false=>.bad
 |true=>match gZ_ P (P_ S.T x.rd topq) S.H x.o with
  |some (id,sz,op,args)=>match ag_ S.n args with
   |true=>match S.H.get S.H.next with
    |none=>match gw_ args with
     |true=>.lt op args S.n none (k ⟨u S.T (.slx S.H.next sz S.n),(S.H.erase id).push (.syl S.n),Nat.succ S.n,S.lv,S.D⟩)
     |false=>match dO_ args with
        |some i=>.chk (.pos i) (.lt op args S.n none (k ⟨u S.T (.slx S.H.next sz S.n),(S.H.erase id).push (.syl S.n),Nat.succ S.n,S.lv,S.D⟩))
        |none=>.bad
    |some _=>.bad
   |false=>.bad
  |none=>match cU_ P (P_ S.T x.rd topq) S.H x.o with
   |some (id,sz,op,args)=>tJ_ u S k (P_ S.T x.rd topq) x.o id sz op args
   |none=>match dN_ (P_ S.T x.rd topq) x.o with
    |some (op,args)=>match k_ args&&ag_ S.n args with
     |true=>match n5_ P op with
      |none=>.lt op args S.n none (k ⟨u S.T (.sym S.n),S.H,Nat.succ S.n,S.lv,S.D⟩)
      |some _=>.bad
     |false=>.bad
    |none=>.bad
def vDW (P:Program) (c:VC) (x:SI) (u:Tm->AV->Tm) (S:VS) (k:VS->VT):VT:=match (j_ P x.o).run (P_ S.T x.rd topq) S.H with
 |some r=>match r with
  | .val a H'=>match isM x with
    |true=>match S.H.get S.H.next with
     |none=>k ⟨u S.T a,H',S.n,S.lv,S.D⟩
     |some _=>.bad
    |false=>match kC_ x (P_ S.T x.rd topq)with
     |true=>pR_ P x u S k
     |false=>k ⟨u S.T a,H',S.n,S.lv,S.D⟩
  |_=>.bad
 |none=>match c.own with
  |false=>pR_ P x u S k
  |true=>match stX (P_ S.T x.rd topq) S.H x.o with
   |some (op,args,id)=>match ag_ S.n args&&not (isM x)with
    |true=>.lt op args S.n none (k ⟨u S.T (.tup []),S.H.set id (.syl S.n),Nat.succ S.n,S.lv,S.D⟩)
    |false=>.bad
   |none=>pR_ P x u S k
def yf_ (P:Program) (c:VC) (R:Tm) (Hx:AHeap) (o:Oper) (u:Tm->AV->Tm) (S:VS) (k:VS->VT):Option VT:=match c.own with
 |false=>none
 |true=>match uf_ P R o with
  |some a=>some (k ⟨u S.T a,S.H,S.n,S.lv,S.D⟩)
  |none=>match sZ_ P R o with
   |some (op,args,id,sz)=>match ag_ S.n args with
    |true=>some (.lt op args S.n none (k ⟨u S.T (.ptx id S.n sz 0),S.H,Nat.succ S.n,S.lv,S.D⟩))
    |false=>none
   |none=>match ldX R Hx o with
    |some (op,args)=>match ag_ S.n args with
     |true=>match n5_ P op with
        |none=>some (.lt op args S.n none (k ⟨u S.T (.sym S.n),S.H,Nat.succ S.n,S.lv,S.D⟩))
        |some m=>some (.lt op args S.n (some m) (k ⟨u S.T (.agg (m_ S.n m)),S.H,Nat.add S.n m,S.lv,S.D⟩))
     |false=>none
    |none=>match gg_ R o with
     |some (op,args)=>match ag_ S.n args with
        |true=>some (.lt op args S.n none (k ⟨u S.T (.sym S.n),S.H,Nat.succ S.n,S.lv,S.D⟩))
        |false=>none
     |none=>none
def p3_ (P:Program) (R:Tm) (o:Oper):Option AV:=match o.op with
 | .buildSlice t n ps=>match a3_ P ⟨hnil,0,1⟩ t n (cX_ (look R) ps.toList)with
   |some r=>match r.1 with
    | .sl _ _ len sz _=>match r.2.get 0 with
      |some (.cells cs)=>match k_ cs with
       |true=>some (.vsl len sz cs)
       |false=>none
      |_=>none
    |_=>none
   |none=>none
 |_=>none
def AQ_ (P:Program) (x:SI) (u:Tm->AV->Tm) (S:VS) (k:VS->VT):VT:=match p3_ P (P_ S.T x.rd topq) x.o with
 |some q=>k ⟨u S.T q,S.H,S.n,S.lv,S.D⟩
 |none=>.bad
def vT_ (P:Program) (c:VC) (x:SI) (Hx:AHeap) (u:Tm->AV->Tm) (S:VS) (k:VS->VT):VT:=match ct_ (j_ P x.o) (P_ S.T x.rd topq) Hx with
 |some q=>k ⟨u S.T q,S.H,S.n,S.lv,S.D⟩
 |none=>match yf_ P c (P_ S.T x.rd topq) Hx x.o u S k with
 |some t=>t
 |none=>match (j_ P x.o).run (P_ S.T x.rd topq) Hx with
  |some r=>match r with
   | .call g args=>match zp_ c.cs g with
     |some sh=>match k_ args&&ag_ S.n args with
      |true=>.call g args S.n sh (k ⟨u S.T (dG_ S.n sh),S.H,Nat.add S.n (c4_ sh),S.lv,S.D⟩)
      |false=>.bad
     |none=>.bad
   |_=>.bad
  |none=>match no_ x.o S.T with
   |some (i,_,_)=>.ite i (r6_ P x Hx u (S.know i true) k) (r6_ P x Hx u (S.know i false) k)
   |none=>match lG_ (P_ S.T x.rd topq) Hx x.o with
    |some (op,args)=>match ag_ S.n args with
     |true=>.lt op args S.n none (k ⟨u S.T (.sym S.n),S.H,Nat.succ S.n,S.lv,S.D⟩)
     |false=>.bad
    |none=>match dN_ (P_ S.T x.rd topq) x.o with
     |some (op,args)=>match k_ args&&ag_ S.n args with
      |true=>match n5_ P op with
        |none=>.lt op args S.n none (k ⟨u S.T (.sym S.n),S.H,Nat.succ S.n,S.lv,S.D⟩)
        |some m=>.lt op args S.n (some m) (k ⟨u S.T (.agg (m_ S.n m)),S.H,Nat.add S.n m,S.lv,S.D⟩)
      |false=>.bad
     |none=>.bad
def lA_ (P:Program) (x:SI) (nx:Nat):Option (AV×ABlk):=match x.o.op with
 | .alloc t=>match f9_ P ⟨hnil,nx,Nat.succ nx⟩ t with
   |some p=>match p.2.get nx with
    |some k=>some (p.1,k)
    |none=>none
   |none=>none
 |_=>none
def j4_ (P:Program):List SI->AHeap->Option AHeap
 |[],H=>some H
 |x::r,H=>match bZ_ x with
  |false=>j4_ P r H
  |true=>match H.get H.next with
   |some _=>none
   |none=>match H.room with
    |false=>none
    |true=>match lA_ P x H.next with
     |some p=>j4_ P r (H.push p.2)
     |none=>none
def l0_ (bef:Nat) (ids:List Nat):List SI->Nat->Nat->Bool
 |[],_,_=>true
 |y::r,i,nx=>match bZ_ y with
  |false=>l0_ bef ids r (Nat.succ i) nx
  |true=>(bit bef i||not (memT nx ids))&&l0_ bef ids r (Nat.succ i) (Nat.succ nx)
def md_ (bef:Nat):List SI->Nat->Bool
 |[],_=>true
 |y::r,i=>match bZ_ y with
  |false=>md_ bef r (Nat.succ i)
  |true=>bit bef i&&md_ bef r (Nat.succ i)
def mk_ (l0:List SI):List SI->Bool
 |[]=>true
 |x::r=>match isW x with
  |false=>mk_ l0 r
  |true=>md_ x.bef l0 0&&mk_ l0 r
def fl_ (x:SI) (nx:Nat):Nat:=match bZ_ x with
 |true=>Nat.succ nx
 |false=>nx
def sW_ (P:Program) (c:VC) (all:List Oper) (l0:List SI) (n0 nx:Nat) (x:SI) (gs:List GW) (ps:List (Nat×List Nat)) (u:Tm->AV->Tm) (next:VS->VT) (S:VS):VT:=match an_ all x (P_ S.T x.rd topq)with
 |some t=>match t with
  |false=>next ⟨u S.T (.tup []),S.H,S.n,S.lv,S.D⟩
  |true=>match bZ_ x with
   |true=>match lA_ P x nx with
    |some p=>next ⟨u S.T p.1,S.H,S.n,S.lv,S.D⟩
    |none=>.bad
   |false=>match isW x with
    |true=>match w2_ x.bef (b2_ x (P_ S.T x.rd topq)) ps with
     |true=>vDW P c x u S next
     |false=>.bad
    |false=>match vI_ x.bef (gu_ x S.T) gs&&l0_ x.bef (gu_ x S.T) l0 0 n0 with
     |true=>match x.fz with
      |true=>AQ_ P x u S next
      |false=>vT_ P c x (hK_ x S gs) u S next
     |false=>.bad
 |none=>.bad
def ic_ (x:SI) (i:Nat) (S:VS) (gs:List GW):List GW:=match isW x with
 |true=>⟨i,S.H,b2_ x (P_ S.T x.rd topq)⟩::gs
 |false=>gs
def ie_ (x:SI) (i:Nat) (S:VS) (ps:List (Nat×List Nat)):List (Nat×List Nat):=match isW x with
 |true=>ps
 |false=>(i,gu_ x S.T)::ps
def jT_ (P:Program) (N:Nat) (c:VC) (all:List Oper) (l0:List SI) (n0:Nat):List SI->Nat->Nat->List GW->List (Nat×List Nat)->VS->(VS->VT)->VT
 |[],_,_,_,_,S,K=>K S
 |x::r,i,nx,gs,ps,S,K=>match b6_ N x.o.dst with
  | .bad=>.bad
  | .mk u=>match ok_ all x.o S.T with
    |some k=>.ite k (sW_ P c all l0 n0 nx x gs ps u (λS'=>jT_ P N c all l0 n0 r (Nat.succ i) (fl_ x nx) (ic_ x i (S.know k true) gs) (ie_ x i (S.know k true) ps) S' K) (S.know k true)) (sW_ P c all l0 n0 nx x gs ps u (λS'=>jT_ P N c all l0 n0 r (Nat.succ i) (fl_ x nx) (ic_ x i (S.know k false) gs) (ie_ x i (S.know k false) ps) S' K) (S.know k false))
    |none=>sW_ P c all l0 n0 nx x gs ps u (λS'=>jT_ P N c all l0 n0 r (Nat.succ i) (fl_ x nx) (ic_ x i S gs) (ie_ x i S ps) S' K) S
def oD_ (P:Program) (N fuel:Nat) (I:Inl P fuel) (c:VC) (ops:List Oper) (S:VS) (X:VX->VT) (K:VS->VT):VT:=match qo_ ops with
 | .mk l _=>match co_ l 0 with
   |b=>match nJ_ (dZ_ b l) 0&&mk_ (dZ_ b l) (dZ_ b l)with
    |true=>match j4_ P (dZ_ b l) S.H with
     |some H=>jT_ P N c ops (dZ_ b l) S.H.next (dZ_ b l) 0 S.H.next [] [] ⟨S.T,H,S.n,S.lv,S.D⟩ λS=>nr_ P N fuel I c ops X (mK_ b ops) S K
     |none=>.bad
    |false=>.bad
 | .no=>.bad
def isF (c:VC) (o:Oper):Bool:=match o.op with
 | .call cl=>match cl.callee with
   | .value f=>match f with
     | .func g=>match zb_ c.fs g with
       |some _=>true
       |none=>false
     |_=>false
   |_=>false
 |_=>false
def zR_ (c:VC):List Oper->Bool
 |[]=>false
 |o::r=>match isF c o with
  |true=>true
  |false=>zR_ c r
def nS_ (m:Nat):List Edge->Bool
 |[]=>true
 |e::r=>match d8_ e with
  |true=>bit m e.on&&nS_ m r
  |false=>nS_ m r
structure I_q where
 i:Nat
 o:Oper
def ka_ (m:Nat):List Oper->Nat->List I_q
 |[],_=>[]
 |o::r,i=>match not (bit m i)&&nS_ m o.after.toList with
  |true=>⟨i,o⟩::ka_ m r (Nat.succ i)
  |false=>ka_ m r (Nat.succ i)
def pP_ (m i:Nat):Nat:=Nat.lor m (Nat.pow 2 i)
def xb_ (i:Nat):List Edge->Bool
 |[]=>false
 |e::r=>match d8_ e&&Nat.beq e.on i with
  |true=>true
  |false=>xb_ i r
def apartB (all:List Oper) (x y:Oper):Bool:=(match x.dst with
    |some d=>not (memT d (de_ all y))&&(match y.dst with
     |some e=>not (Nat.beq d e)
     |none=>true)
    |none=>true)&&(match y.dst with
    |some e=>not (memT e (de_ all x))
    |none=>true)
def o8_ (all:List Oper) (m i:Nat) (x:Oper):List Oper->Nat->Bool
 |[],_=>true
 |y::r,j=>(Nat.beq j i||(bit m j||(xb_ i y.after.toList||apartB all x y)))&&o8_ all m i x r (Nat.succ j)
def pL_:List Oper->Bool
 |[]=>true
 |o::r=>match o.op with
  | .select _ _=>false
  |_=>pL_ r
def rG_ (P:Program) (T:Tm) (o:Oper):Option AV:=match o.guard with
 |some _=>none
 |none=>match o.op with
  | .move x=>some (look T x)
  | .nilCheck x=>match look T x with
    | .ptr id off=>some (.ptr id off)
    |_=>none
  | .fieldAddr s x f=>match look T x with
    | .ptr id off=>b0_ P s (.ptr id off) f
    |_=>none
  | .extract x i=>match look T x with
    | .tup cs=>qt_ i cs
    |_=>none
  |_=>none
structure MV where
 x:I_q
 a:AV
def k8_ (P:Program) (all:List Oper) (m:Nat) (T:Tm):List I_q->Option MV
 |[]=>none
 |x::r=>match rG_ P T x.o with
  |some a=>match o8_ all m x.i x.o all 0 with
   |true=>some ⟨x,a⟩
   |false=>k8_ P all m T r
  |none=>k8_ P all m T r
def tG_:List (Nat×AV)->List (Nat×AV)->Bool
 |[],[]=>true
 |(i,a)::r,(j,b)::s=>Nat.beq i j&&(bB_ a b&&tG_ r s)
 |_,_=>false
def tj_:List (Nat×List AV)->List (Nat×List AV)->Bool
 |[],[]=>true
 |(i,a)::r,(j,b)::s=>Nat.beq i j&&(er_ a b&&tj_ r s)
 |_,_=>false
def qS_:Option Nat->Option Nat->Bool
 |none,none=>true
 |some a,some b=>Nat.beq a b
 |_,_=>false
def sT_:List (Option Nat)->List (Option Nat)->Bool
 |[],[]=>true
 |a::r,b::s=>qS_ a b&&sT_ r s
 |_,_=>false
def qm_:List (Nat×Nat)->List (Nat×Nat)->Bool
 |[],[]=>true
 |(i,a)::r,(j,b)::s=>Nat.beq i j&&(Nat.beq a b&&qm_ r s)
 |_,_=>false
def mo_:List TA->List TA->Bool
 |[],[]=>true
 |⟨a,b,c,d,e⟩::r,⟨a',b',c',d',e'⟩::s=>Nat.beq a a'&&(Nat.beq b b'&&(Nat.beq c c'&&(Nat.beq d d'&&(qS_ e e'&&mo_ r s))))
 |_,_=>false
def r4_:Tpl->Tpl->Bool
 |⟨a,b,c,d,e,f,g⟩,⟨a',b',c',d',e',f',g'⟩=>tG_ a a'&&(tj_ b b'&&(Nat.beq c c'&&(Nat.beq d d'&&(mo_ e e'&&(qm_ f f'&&qm_ g g')))))
def sA_:List (Bool×Tpl)->List (Bool×Tpl)->Bool
 |[],[]=>true
 |(i,a)::r,(j,b)::s=>i==j&&(r4_ a b&&sA_ r s)
 |_,_=>false
def yD_:FT->FT->Bool
 |⟨a,b,c⟩,⟨a',b',c'⟩=>Nat.beq a a'&&(r4_ b b'&&sA_ c c')
def zr_:XOp->XOp->Bool
 | .bin o t a b,.bin o' t' a' b'=>decide (o=o')&&(Nat.beq t t'&&(a==a'&&b==b'))
 | .un o,.un o'=>decide (o=o')
 | .conv a b,.conv a' b'=>Nat.beq a a'&&Nat.beq b b'
 | .idx a,.idx a'=>Nat.beq a a'
 | .iaddr a,.iaddr a'=>Nat.beq a a'
 | .faddr a b,.faddr a' b'=>Nat.beq a a'&&Nat.beq b b'
 | .load a,.load a'=>Nat.beq a a'
 | .fld a b,.fld a' b'=>Nat.beq a a'&&Nat.beq b b'
 | .slc t a b,.slc t' a' b'=>Nat.beq t t'&&(a==a'&&b==b')
 | .len a,.len a'=>Nat.beq a a'
 | .nilc,.nilc=>true
 | .app a b,.app a' b'=>Nat.beq a a'&&Nat.beq b b'
 | .mm a,.mm a'=>a==a'
 | .ext a,.ext a'=>Nat.beq a a'
 | .inb,.inb=>true
 | .ldx a b c,.ldx a' b' c'=>Nat.beq a a'&&(Nat.beq b b'&&Nat.beq c c')
 | .stx a b c,.stx a' b' c'=>Nat.beq a a'&&(Nat.beq b b'&&Nat.beq c c')
 | .tkx,.tkx=>true
 | .emp,.emp=>true
 | .mkx a b c,.mkx a' b' c'=>Nat.beq a a'&&(Nat.beq b b'&&er_ c c')
 | .skx,.skx=>true
 | .flat a b c d,.flat a' b' c' d'=>Nat.beq a a'&&(Nat.beq b b'&&(Nat.beq c c'&&Nat.beq d d'))
 | .opn a b,.opn a' b'=>Nat.beq a a'&&Nat.beq b b'
 |_,_=>false
def u0_:Chk->Chk->Bool
 | .same i j,.same i' j'=>Nat.beq i i'&&Nat.beq j j'
 | .nn i,.nn i'=>Nat.beq i i'
 | .pos i,.pos i'=>Nat.beq i i'
 |_,_=>false
mutual
def em_:VT->VT->Bool
 | .done v,.done w=>bB_ v w
 | .ite i a b,.ite i' a' b'=>Nat.beq i i'&&(em_ a a'&&em_ b b')
 | .lt o l n m t,.lt o' l' n' m' t'=>zr_ o o'&&(er_ l l'&&(Nat.beq n n'&&(qS_ m m'&&em_ t t')))
 | .call f l n sh t,.call f' l' n' sh' t'=>Nat.beq f f'&&(er_ l l'&&(Nat.beq n n'&&(sT_ sh sh'&&em_ t t')))
 | .loop n j hv bs,.loop n' j' hv' bs'=>Nat.beq n n'&&(Nat.beq j j'&&(er_ hv hv'&&mH_ bs bs'))
 | .again l j hv,.again l' j' hv'=>Nat.beq l l'&&(Nat.beq j j'&&er_ hv hv')
 | .chk c t,.chk c' t'=>u0_ c c'&&em_ t t'
 | .callF f ft hv n bs,.callF f' ft' hv' n' bs'=>Nat.beq f f'&&(yD_ ft ft'&&(er_ hv hv'&&(Nat.beq n n'&&mH_ bs bs')))
 | .both a b,.both a' b'=>em_ a a'&&em_ b b'
 |_,_=>false
def mH_:VTs->VTs->Bool
 | .nil,.nil=>true
 | .cons n t r,.cons n' t' r'=>Nat.beq n n'&&(em_ t t'&&mH_ r r')
 |_,_=>false
end
def qW_ (a b:VT):VT:=match em_ a b with
 |true=>a
 |false=>.both a b
def rX_ (f:I_q->VT) (x:I_q):List I_q->VT
 |[]=>f x
 |y::r=>qW_ (f x) (rX_ f y r)
def oC_ (P:Program) (N fuel:Nat) (I:Inl P fuel) (c:VC) (all:List Oper) (X:VX->VT) (K:VS->VT):Nat->Nat->VS->VT
 |0,_,_=>.bad
 |n+1,m,S=>match ka_ m all 0 with
  |[]=>K S
  |x::r=>match k8_ P all m S.T (x::r)with
   |some q=>match b6_ N q.x.o.dst with
    | .mk u=>oC_ P N fuel I c all X K n (pP_ m q.x.i) ⟨u S.T q.a,S.H,S.n,S.lv,S.D⟩
    | .bad=>.bad
   |none=>rX_ (λx=>nr_ P N fuel I c all X [x.o] S λS'=>oC_ P N fuel I c all X K n (pP_ m x.i) S') x r
def gn_:List Oper->Tm->Tm
 |[],T=>T
 |o::r,T=>match o.dst with
  |some d=>gn_ r (dP_ T d .opq)
  |none=>gn_ r T
def g5_ (ops:List Oper) (X:VX->VT) (r:VX):VT:=match r with
 | .pan v S=>X (.pan v ⟨gn_ ops S.T,S.H,S.n,S.lv,S.D⟩)
 | .exit i S=>X (.exit i S)
 | .ret S=>X (.ret S)
def vX_ (N:Nat):List Oper->Bool
 |[]=>true
 |o::r=>(match o.dst with
  |some d=>Nat.blt d N
  |none=>true)&&vX_ N r
def xZ_ (c:VC):Nat->List SI->Bool
 |0,_=>false
 |_+1,[]=>false
 |n+1,x::r=>match isF c x.o with
  |true=>true
  |false=>xZ_ c n r
def By_ (c:VC) (ops:List Oper):Bool:=match qo_ ops with
 | .mk l _=>xZ_ c (co_ l 0) l
 | .no=>true
def rw_ (P:Program) (N fuel:Nat) (I:Inl P fuel) (c:VC) (ops:List Oper) (S:VS) (X:VX->VT) (K:VS->VT):VT:=match pL_ ops&&(vX_ N ops&&Nat.ble N 512)with
 |true=>oC_ P N fuel I c ops (g5_ ops X) K (Nat.succ (lenOp ops)) 0 S
 |false=>.bad
where
 lenOp:List Oper->Nat
 |[]=>0
 |_::r=>Nat.succ (lenOp r)
def Bx_ (ops:List Oper):Bool:=match qo_ ops with
 | .mk l _=>match co_ l 0 with
   |b=>nJ_ (dZ_ b l) 0&&mk_ (dZ_ b l) (dZ_ b l)
 | .no=>true
def s5_ (T:Tm):List Oper->Nat->AV
 |[],_=>.opq
 |o::r,t=>match o.op with
  | .move x=>match o.dst with
    |some d=>match Nat.beq d t with
     |true=>look T x
     |false=>s5_ T r t
    |none=>s5_ T r t
  |_=>s5_ T r t
def AM_ (own:Bool) (T:Tm) (all:List Oper) (x i:Operand):List AV:=match x with
 | .tmp b=>match s5_ T all b with
   | .slx id z k=>match own with
     |true=>[]
     |false=>[.slx id z k]
   | .sl id off len z cap=>match i with
     | .tmp j=>match s5_ T all j with
       | .sym _=>[.sl id off len z cap]
       |_=>[]
     |_=>[]
   |_=>[]
 |_=>[]
def rU_ (T:Tm) (all:List Oper):List (Nat×Operand)->List AV
 |[]=>[]
 |(_,x)::r=>match x with
  | .tmp t=>match s5_ T all t with
    | .slx id z k=>.slx id z k::rU_ T all r
    |_=>rU_ T all r
  |_=>rU_ T all r
def kK_ (own:Bool) (T:Tm) (all:List Oper):List Oper->List AV
 |[]=>[]
 |o::r=>match o.op with
  | .indexAddr _ x i=>lf_ (AM_ own T all x i) (kK_ own T all r)
  | .buildSlice _ _ ps=>match own with
    |true=>kK_ own T all r
    |false=>lf_ (rU_ T all ps.toList) (kK_ own T all r)
  |_=>kK_ own T all r
def ly_ (own:Bool) (l:List Oper) (S:VS):VS:=match kK_ own S.T l l with
 |[]=>S
 |a=>d3_ S a
def rC_ (b:VS->(VS->VT)->VT):Nat->VS->VT
 |0,_=>.bad
 |n+1,S=>b S λS'=>rC_ b n S'
def qv_ (n k lvl:Nat) (tps:List Tpl) (S:VS):VT:=match et_ n k tps 0 S with
 |some r=>kj_ r.l (tL_ r.m.nn (.again lvl r.j r.m.hv))
 |none=>.bad
def mP_ (b:VS->(VS->VT)->VT) (n k lvl:Nat) (tps:List Tpl):List Tpl->VTs
 |[]=>.nil
 |tp::r=>.cons tp.nv (b (tp.inst n (Nat.succ lvl)) (qv_ n k lvl tps)) (mP_ b n k lvl tps r)
def yu_ (k:Nat) (b:VS->(VS->VT)->VT) (tps:List Tpl) (S:VS):VT:=match et_ S.n k tps 0 S with
 |some r=>kj_ r.l (tL_ r.m.nn (.loop S.n r.j r.m.hv (mP_ b S.n k S.lv tps tps)))
 |none=>.bad
def yz_ (id:Nat) (K:VS->VT) (X:VX->VT) (r:VX):VT:=match r with
 | .exit id' S=>match Nat.beq id' id with
   |true=>K S
   |false=>X r
 | .ret _=>X r
 | .pan _ _=>X r
mutual
def oc_ (id sz i len:Nat):AV->AV
 | .slx id' z j=>match Nat.beq id id'&&(Nat.beq sz z&&Nat.beq i j)with
   |true=>.sl id 0 len sz none
   |false=>.slx id' z j
 | .agg cs=>.agg (ja_ id sz i len cs)
 | .tup cs=>.tup (ja_ id sz i len cs)
 |a=>a
def ja_ (id sz i len:Nat):List AV->List AV
 |[]=>[]
 |a::r=>oc_ id sz i len a::ja_ id sz i len r
end
def sI_ (id sz i len:Nat) (H:AHeap):List Nat->AHeap
 |[]=>H
 |q::r=>match (sI_ id sz i len H r).get q with
  |some (.cells cs)=>(sI_ id sz i len H r).set q (.cells (ja_ id sz i len cs))
  |_=>sI_ id sz i len H r
def kk_ (t:TA) (i:Nat) (S:VS):VS:=⟨aT_ (oc_ t.id t.sz i t.j) S.T,sI_ t.id t.sz i t.j (S.H.set t.id (.cells (m_ S.n (Nat.mul t.j t.sz)))) [0,1,2,3],Nat.add S.n (Nat.mul t.j t.sz),S.lv,S.D⟩
def n0_:List TA->VS->(VS->VT)->VT
 |[],S,k=>k S
 |t::r,S,k=>match S.H.get t.id with
  |some (.syl i)=>.lt (.opn t.j t.sz) [.sym i] S.n (some (Nat.mul t.j t.sz)) (n0_ r (kk_ t i S) k)
  |_=>n0_ r S k
def o2_ (t o:Nat) (S:VS):VS:=match tget S.T t with
 | .ptr id b=>match S.H.get id with
   |some (.cells cs)=>match qt_ (Nat.add b o) cs with
    |some a=>xM_ S [a] id
    |none=>S
   |_=>S
 |a=>d3_ S [a]
def pB_ (S:VS):List (Nat×Nat)->VS
 |[]=>S
 |(t,o)::r=>pB_ (o2_ t o S) r
def zi_ (c:VC) (rid:Nat) (ops:List Oper) (S:VS) (k:VS->VT):VT:=match ops with
 |[]=>k S
 |_::_=>match m1_ c.hs (Nat.add 10000 rid)with
  |some (tp::_)=>n0_ tp.acc (pB_ S tp.fix) k
  |_=>k S
def vg_ (P:Program) (N fuel:Nat) (I:Inl P fuel) (c:VC) (ops:Array Oper) (draw:Bool) (S:VS) (K:VS->VT) (X:VX->VT):VT:=match draw with
 |false=>nr_ P N fuel I c ops.toList X ops.toList S K
 |true=>match mq_ P (aM_ P fuel) N ops.toList S.T S.H S.D with
  |some r=>match r with
   | .norm T H D=>K ⟨T,H,S.n,S.lv,D⟩
   |_=>.bad
  |none=>match zR_ c ops.toList with
   |false=>match Bx_ ops.toList with
    |true=>oD_ P N fuel I c ops.toList (ly_ c.own ops.toList S) X K
    |false=>rw_ P N fuel I c ops.toList S X K
   |true=>match By_ c ops.toList with
    |true=>rw_ P N fuel I c ops.toList S X K
    |false=>oD_ P N fuel I c ops.toList (ly_ c.own ops.toList S) X K
def a7_ (P:Program) (N fuel:Nat) (I:Inl P fuel) (c:VC):Nat->Code->VS->(VS->VT)->(VX->VT)->VT
 |_,.skip,S,K,X=>K S
 |_,.label _,S,K,X=>K S
 |_,.region rid ops draw,S,K,X=>zi_ c rid ops.toList S λS=>vg_ P N fuel I c ops draw S K X
 |bid,.seq a b,S,K,X=>a7_ P N fuel I c bid a S (λS=>a7_ P N fuel I c bid b S K X) X
 |bid,.cond cd a b,S,K,X=>match look S.T cd with
  | .bool t=>match t with
    |true=>a7_ P N fuel I c bid a S K X
    |false=>a7_ P N fuel I c bid b S K X
  |_=>match kB_ S.T cd with
   |some i=>.ite i (a7_ P N fuel I c bid a (S.know i true) K X) (a7_ P N fuel I c bid b (S.know i false) K X)
   |none=>.bad
 |_,.block id b,S,K,X=>a7_ P N fuel I c id b S K (yz_ id K X)
 |bid,.loop b,S,K,X=>match m1_ c.hs bid with
  |some tps=>yu_ c.k (λS K=>a7_ P N fuel I c bid b S K X) tps S
  |none=>rC_ (λS K=>a7_ P N fuel I c bid b S K X) fuel S
 |_,.exit id,S,K,X=>X (.exit id S)
 |_,.ret,S,K,X=>X (.ret S)
 |_,_,_,_,_=>.bad
def tV_ (Q:Option (AV×AHeap)):VT:=match Q with
 |some (a,H)=>match fH_ 100 H a with
  |some v=>match r_ v with
   |true=>.done v
   |false=>.bad
  |none=>.bad
 |none=>.bad
def q4_:List Oper->Bool
 |[]=>false
 |o::r=>match o.op with
  | .call c=>match c.callee with
    | .builtin .recover=>true
    |_=>q4_ r
  |_=>q4_ r
def CD_ (u:Option AV) (ops:List Oper):Bool:=match u with
 |some _=>true
 |none=>q4_ ops
def aQ_ (P:Program) (N fuel:Nat) (I:Inl P fuel) (c:VC):Code->VS->Option AV->(VS->Option AV->VT)->(VS->Option AV->VT)->VT
 | .skip,S,u,K,R=>K S u
 | .region rid ops draw,S,u,K,R=>match CD_ u ops.toList with
   |true=>match draw with
    |true=>.bad
    |false=>match lc_ P (aM_ P fuel) N ops.toList ops.toList S.T S.H u with
     |some r=>match r with
      | .norm T H u'=>K ⟨T,H,S.n,S.lv,[]⟩ u'
      | .ret _ _ _=>.bad
     |none=>.bad
   |false=>vg_ P N fuel I c ops draw S (λS=>match S.D with
    |[]=>K S none
    |_::_=>.bad) (λ_=>.bad)
 | .seq a b,S,u,K,R=>aQ_ P N fuel I c a S u (λS u=>aQ_ P N fuel I c b S u K R) R
 | .cond cd a b,S,u,K,R=>match look S.T cd with
   | .bool t=>match t with
     |true=>aQ_ P N fuel I c a S u K R
     |false=>aQ_ P N fuel I c b S u K R
   |_=>match kB_ S.T cd with
    |some i=>.ite i (aQ_ P N fuel I c a (S.know i true) u K R) (aQ_ P N fuel I c b (S.know i false) u K R)
    |none=>.bad
 | .block _ b,S,u,K,R=>aQ_ P N fuel I c b S u K R
 | .ret,S,u,K,R=>R S u
 |_,_,_,_,_=>.bad
def eP_ (P:Program) (fuel:Nat) (I:Inl P fuel) (c:VC) (rs:List ResultVar) (fin:FRes->Nat->Nat->VT):Dfs->Tm->AHeap->Nat->Nat->Option AV->VT
 |[],T,H,n,lv,u=>match dH_ P (aM_ P fuel) fuel rs T [] H u with
  |some r=>fin r n lv
  |none=>.bad
 |(f,args)::D,T,H,n,lv,u=>match P.funcs[f]? with
  |some fn=>match fn.body with
   |some cd=>match Nat.ble (aB_ args) fn.ntmps&&(Nat.ble fn.ntmps 512&&(n4_ H.next n D&&Nat.ble c.k H.next))with
    |true=>match (λ(S:VS) (u:Option AV)=>match e5_ P S.T S.H fn.results.toList with
       |some _=>eP_ P fuel I c rs fin D (aT_ (bA_ H.next n) T) S.H S.n S.lv u
       |none=>.bad)with
     |K=>aQ_ P fn.ntmps fuel I ⟨c.fc,c.cs,[],H.next,c.own,c.fs⟩ cd ⟨au_ args 0 tnil,H,n,lv,[]⟩ u K K
    |false=>.bad
   |none=>.bad
  |none=>.bad
def kG_ (P:Program) (fuel:Nat) (I:Inl P fuel) (c:VC) (rs:List ResultVar) (fin:FRes->Nat->Nat->VT) (u:Option AV) (S:VS):VT:=match dH_ P (aM_ P fuel) fuel rs S.T S.D S.H u with
 |some r=>fin r S.n S.lv
 |none=>eP_ P fuel I c rs fin S.D S.T S.H S.n S.lv u
def ur_ (r:FRes) (_ _:Nat):VT:=match r with
 | .ret a H=>tV_ (some (a,H))
 | .pan _ _=>.bad
def rM_ (P:Program) (fuel:Nat) (I:Inl P fuel) (c:VC) (rs:List ResultVar) (u:Option AV) (S:VS):VT:=kG_ P fuel I c rs ur_ u S
def Bm_ (P:Program) (fuel:Nat) (I:Inl P fuel) (c:VC) (rs:List ResultVar) (r:VX):VT:=match r with
 | .ret S=>rM_ P fuel I c rs none S
 | .pan v S=>rM_ P fuel I c rs (some v) S
 | .exit _ _=>.bad
def tc_ (n k:Nat) (b:Bool) (S:VS):List (Bool×Tpl)->Nat->VT
 |[],_=>.bad
 |(b',tp)::r,j=>match b==b' with
  |false=>tc_ n k b S r (Nat.succ j)
  |true=>match cW_ tp S with
   |f=>match iE_ n k tp f.S with
    |some m=>kj_ f.l (tL_ m.nn (.done (.tup (.int .i64 (.ofNat j)::m.hv))))
    |none=>tc_ n k b S r (Nat.succ j)
def wS_ (ft:FT) (r:FRes) (n lv:Nat):VT:=match r with
 | .ret a H=>tc_ (Nat.add 64 ft.ent.nv) ft.k false ⟨dP_ topq 0 a,H,n,lv,[]⟩ ft.exs 0
 | .pan a H=>tc_ (Nat.add 64 ft.ent.nv) ft.k true ⟨dP_ topq 0 a,H,n,lv,[]⟩ ft.exs 0
def h1_ (P:Program) (fuel:Nat) (I:Inl P fuel) (c:VC) (rs:List ResultVar) (ft:FT) (u:Option AV) (S:VS):VT:=kG_ P fuel I c rs (wS_ ft) u S
def x4_ (P:Program) (fuel:Nat) (I:Inl P fuel) (c:VC) (rs:List ResultVar) (ft:FT) (r:VX):VT:=match r with
 | .ret S=>h1_ P fuel I c rs ft none S
 | .pan v S=>h1_ P fuel I c rs ft (some v) S
 | .exit _ _=>.bad
def t5_ (P:Program) (fuel:Nat) (I:Inl P fuel) (c:VC) (f:FuncId) (ft:FT):VT:=match P.funcs[f]? with
 |some fn=>match fn.body with
  |some cd=>match Nat.ble (aB_ (cc_ ft.ent.slots)) fn.ntmps&&(Nat.ble fn.ntmps 512&&Nat.beq c.k ft.k)with
   |true=>a7_ P fn.ntmps fuel I c 0 cd ⟨au_ (a1_ 64 (cc_ ft.ent.slots)) 0 tnil,ft.ent.heap 64,Nat.add 64 ft.ent.nv,0,[]⟩ (h1_ P fuel I c fn.results.toList ft none) (x4_ P fuel I c fn.results.toList ft)
   |false=>.bad
  |none=>.bad
 |none=>.bad
def yB_ (P:Program) (fuel:Nat) (I:Inl P fuel) (c:VC) (f:FuncId) (args:List AV) (n:Nat):VT:=match P.funcs[f]? with
 |some fn=>match fn.body with
  |some cd=>match Nat.ble (aB_ args) fn.ntmps&&Nat.ble fn.ntmps 512 with
   |true=>a7_ P fn.ntmps fuel I c 0 cd ⟨au_ args 0 tnil,H0,n,0,[]⟩ (rM_ P fuel I c fn.results.toList none) (Bm_ P fuel I c fn.results.toList)
   |false=>.bad
  |none=>.bad
 |none=>.bad
def Aq_ (ret pan:AV->AHeap->Nat->Nat->VT) (r:FRes) (n lv:Nat):VT:=match r with
 | .ret a H=>ret a H n lv
 | .pan a H=>pan a H n lv
def r2_ (P:Program) (fuel:Nat) (I:Inl P fuel) (c:VC) (rs:List ResultVar) (ret pan:AV->AHeap->Nat->Nat->VT) (u:Option AV) (S:VS):VT:=kG_ P fuel I c rs (Aq_ ret pan) u S
def Ar_ (P:Program) (fuel:Nat) (I:Inl P fuel) (c:VC) (rs:List ResultVar) (ret pan:AV->AHeap->Nat->Nat->VT) (r:VX):VT:=match r with
 | .exit _ _=>.bad
 | .ret S=>r2_ P fuel I c rs ret pan none S
 | .pan v S=>r2_ P fuel I c rs ret pan (some v) S
def yE_ (P:Program) (fuel:Nat) (I:Inl P fuel) (c:VC) (g:FuncId) (args:List AV) (H:AHeap) (n lv:Nat) (ret pan:AV->AHeap->Nat->Nat->VT):VT:=match P.funcs[g]? with
 |some fn=>match fn.body with
  |some cd=>match Nat.ble (aB_ args) fn.ntmps&&Nat.ble fn.ntmps 512 with
   |true=>a7_ P fn.ntmps fuel I ⟨c.fc,c.cs,[],H.next,c.own,c.fs⟩ 0 cd ⟨au_ args 0 tnil,H,n,lv,[]⟩ (r2_ P fuel I ⟨c.fc,c.cs,[],H.next,c.own,c.fs⟩ fn.results.toList ret pan none) (Ar_ P fuel I ⟨c.fc,c.cs,[],H.next,c.own,c.fs⟩ fn.results.toList ret pan)
   |false=>.bad
  |none=>.bad
 |none=>.bad
end
end Go.Sx
