/-
  The evaluator with symbols, with loops by templates and calls by what is known of them.
-/
import Derived.Test.YtbjjpimpabbpdaaGreatDoorSyX
set_option linter.unusedVariables false
set_option linter.unusedSimpArgs false
namespace Go.Sx
structure TA where
 id:Nat
 sz:Nat
 j:Nat
 loc:Nat
 off:Option Nat
structure Tpl where
 slots:List (Nat×AV)
 rows:List (Nat×List AV)
 next:Nat
 nv:Nat
 acc:List TA:=[]
 maps:List (Nat×Nat):=[]
 fix:List (Nat×Nat):=[]
abbrev sU_:=List (Nat×List Tpl)
structure FT where
 k:Nat
 ent:Tpl
 exs:List (Bool×Tpl)
inductive Chk where
 |same (i j:Nat)
 |nn (i:Nat)
 |pos (i:Nat)
mutual
inductive VT where
 |bad
 |done (v:AV)
 |ite (i:Nat) (a b:VT)
 |lt (op:XOp) (args:List AV) (n:Nat) (m:Option Nat) (t:VT)
 |call (f:FuncId) (args:List AV) (n:Nat) (sh:List (Option Nat)) (t:VT)
 |loop (n j:Nat) (hv:List AV) (bs:VTs)
 |again (lvl j:Nat) (hv:List AV)
 |chk (c:Chk) (t:VT)
 |callF (f:FuncId) (ft:FT) (hv:List AV) (n:Nat) (bs:VTs)
 |both (a b:VT)
inductive VTs where
 |nil
 |cons (nv:Nat) (t:VT) (r:VTs)
end
def flat:List (Option Nat)->List AV->Option (List AV)
 |[],[]=>some []
 |none::s,a::r=>match flat s r with
  |some l=>some (a::l)
  |none=>none
 |some m::s,.agg cs::r=>match decide (cs.length=m)with
  |true=>match flat s r with
   |some l=>some (cs++l)
   |none=>none
  |false=>none
 |_,_=>none
def hr_ (sh:List (Option Nat)) (v:AV):Option (List AV):=match sh with
 |[s]=>flat [s] [v]
 |sh=>match v with
  | .tup l=>flat sh l
  |_=>none
def bq_:Nat->List (Option Nat)->List AV
 |_,[]=>[]
 |n,none::s=>.sym n::bq_ (Nat.succ n) s
 |n,some m::s=>.agg (ah_ n m)::bq_ (Nat.add n m) s
def de_ (n:Nat) (sh:List (Option Nat)):AV:=match sh with
 |[s]=>match bq_ n [s]with
  |a::_=>a
  |[]=>.tup []
 |sh=>.tup (bq_ n sh)
def cL_:List (Option Nat)->Nat
 |[]=>0
 |none::s=>Nat.succ (cL_ s)
 |some m::s=>Nat.add m (cL_ s)
mutual
def bh_ (n:Nat):AV->AV
 | .slx j z i=>match z with
   |0=>.sym (Nat.add n j)
   |z+1=>.slx j (z+1) (Nat.add n i)
 | .ptx id j sz _=>.slx id sz j
 | .vptr cs=>.vptr (bw_ n cs)
 | .vsl a z cs=>.vsl a z (bw_ n cs)
 | .fn f cs=>.fn f (bw_ n cs)
 | .iface t a=>.iface t (bh_ n a)
 | .agg cs=>.agg (bw_ n cs)
 | .tup cs=>.tup (bw_ n cs)
 |a=>a
def bw_ (n:Nat):List AV->List AV
 |[]=>[]
 |a::r=>bh_ n a::bw_ n r
end
def cI_ (n:Nat):List (Nat×AV)->Tm
 |[]=>topq
 |(t,a)::r=>dx_ (cI_ n r) t (bh_ n a)
def f8_ (n next:Nat):List (Nat×List AV)->AHeap
 |[]=>⟨hnil,next,top⟩
 |(id,cs)::r=>(f8_ n next r).set id (.cells (bw_ n cs))
def fp_ (n:Nat) (H:AHeap):List TA->AHeap
 |[]=>H
 |t::r=>(fp_ n H r).set t.id (.syl (Nat.add n t.j))
def iy_ (n:Nat) (H:AHeap):List (Nat×Nat)->AHeap
 |[]=>H
 |(id,j)::r=>(iy_ n H r).set id (.mpl (Nat.add n j))
def lL_:Nat:=1500
def ht_ (i:Nat):Nat:=Nat.div (Nat.sub i lL_) 16
def zF (i:Nat):Nat:=Nat.mod (Nat.sub i lL_) 16
def jB_ (n i:Nat):Nat:=match Nat.blt i lL_ with
 |true=>i
 |false=>Nat.add n (ht_ i)
def j8_ (n:Nat) (H:AHeap):List (Nat×Nat)->AHeap
 |[]=>H
 |(id,i)::r=>(j8_ n H r).set id (.syl (jB_ n i))
def pN_:List (Nat×Nat)->List Nat->List Nat
 |[],acc=>acc
 |(id,_)::r,acc=>id::pN_ r acc
def oQ_ (H:AHeap) (id:Nat):Option AV:=match H.get id with
 |some (.map es _)=>match ad_ (bz_ es)with
  |true=>some (.vsl (nI_ es) 2 (bz_ es))
  |false=>none
 |some (.mpl i)=>some (.sym i)
 |_=>none
def mn_:List (Nat×List AV)->List Nat
 |[]=>[]
 |(id,_)::r=>id::mn_ r
mutual
def tn_:AV->AV->List (Nat×AV)->List (Nat×AV)
 | .slx j z _,a,acc=>match z with
   |0=>(j,a)::acc
   |_+1=>acc
 | .agg ts,.agg cs,acc=>np_ ts cs acc
 | .tup ts,.tup cs,acc=>np_ ts cs acc
 | .vptr ts,.vptr cs,acc=>np_ ts cs acc
 | .vsl _ _ ts,.vsl _ _ cs,acc=>np_ ts cs acc
 | .fn _ ts,.fn _ cs,acc=>np_ ts cs acc
 | .iface _ t,.iface _ a,acc=>tn_ t a acc
 |_,_,acc=>acc
def np_:List AV->List AV->List (Nat×AV)->List (Nat×AV)
 |t::ts,a::r,acc=>tn_ t a (np_ ts r acc)
 |_,_,acc=>acc
end
def s3_:List (Nat×AV)->Nat->Option AV
 |[],_=>none
 |(i,a)::r,j=>match Nat.beq i j with
  |true=>some a
  |false=>s3_ r j
def oF_ (acc:List (Nat×AV)):Nat->Nat->Option (List AV)
 |_,0=>some []
 |j,m+1=>match s3_ acc j with
  |some a=>match oF_ acc (Nat.succ j) m with
   |some l=>some (a::l)
   |none=>none
  |none=>none
structure DA where
 id:Nat
 sz:Nat
 j:Nat
 x:AV
 act:Option Nat
def hf_ (H:AHeap) (sz:Nat) (a:AV):Option (AV×Option Nat):=match a with
 | .nsl=>some (.nsl,none)
 | .slx id sz' i=>match H.get id with
   |some (.syl k)=>match Nat.beq k i&&Nat.beq sz' sz with
    |true=>some (.sym i,some id)
    |false=>none
   |_=>none
 | .sl id off len sz' _=>match H.get id with
   |some (.cells cs)=>match a5_ (Nat.mul len sz) cs with
    |some cs=>match Nat.beq off 0&&(Nat.beq sz' sz&&(Nat.blt 0 len&&(Nat.beq (aY_ cs) (Nat.mul len sz)&&(ad_ cs&&a7_ cs))))with
     |true=>some (.vsl len sz cs,some id)
     |false=>none
    |none=>none
   |_=>none
 |_=>none
def nS_:Nat->List AV->Option AV
 |_,[]=>none
 |0,a::_=>some a
 |n+1,_::r=>nS_ n r
def au_:List (Nat×Nat)->Nat->Option Nat
 |[],_=>none
 |(a,t)::r,i=>match Nat.beq a i with
  |true=>some t
  |false=>au_ r i
def ke_ (T:Tm) (H:AHeap) (rn:List (Nat×Nat)) (t:TA):Option AV:=match t.off with
 |none=>some (tget T t.loc)
 |some o=>match au_ rn t.loc with
  |some a=>match H.get a with
   |some (.cells cs)=>nS_ o cs
   |_=>none
  |none=>match tget T (Nat.sub t.loc 600)with
   | .tup cs=>nS_ o cs
   |_=>none
def pn_ (T:Tm) (H:AHeap) (rn:List (Nat×Nat)):List TA->Option (List DA)
 |[]=>some []
 |t::r=>match ke_ T H rn t with
  |some a=>match hf_ H t.sz a with
   |some (x,act)=>match pn_ T H rn r with
    |some l=>some (⟨t.id,t.sz,t.j,x,act⟩::l)
    |none=>none
   |none=>none
  |none=>none
def ay_:List DA->Nat->Option DA
 |[],_=>none
 |d::r,id=>match Nat.beq d.id id with
  |true=>some d
  |false=>ay_ r id
def jA_:Option Nat->Option Nat->Bool
 |none,none=>true
 |some a,some b=>Nat.beq a b
 |_,_=>false
mutual
def mA (H:AHeap) (ds:List DA) (rn:List (Nat×Nat)) (hv:List AV) (n:Nat):AV->AV->Bool
 | .opq,_=>true
 | .sym i,a=>Nat.blt i n&&bF_ (.sym i) a
 | .ptr id off,a=>match a with
   | .ptr id' off'=>jA_ (au_ rn id) (some id')&&Nat.beq off off'
   |_=>false
 | .sl id off len sz cap,a=>match a with
   | .sl id' off' len' sz' cap'=>jA_ (au_ rn id) (some id')&&(Nat.beq off off'&&(Nat.beq len len'&&(Nat.beq sz sz'&&(cap.isNone||cap==cap'))))
   |_=>false
 | .agg ts,a=>match a with
   | .agg cs=>mL H ds rn hv n ts cs
   |_=>false
 | .tup ts,a=>match a with
   | .tup cs=>mL H ds rn hv n ts cs
   |_=>false
 | .vptr ts,a=>match a with
   | .vptr cs=>mL H ds rn hv n ts cs
   |_=>false
 | .vsl len sz ts,a=>match a with
   | .vsl len' sz' cs=>Nat.beq len len'&&(Nat.beq sz sz'&&mL H ds rn hv n ts cs)
   |_=>false
 | .fn f ts,a=>match a with
   | .fn g cs=>Nat.beq f g&&mL H ds rn hv n ts cs
   |_=>false
 | .iface t x,a=>match a with
   | .iface u y=>Nat.beq t u&&mA H ds rn hv n x y
   |_=>false
 | .slx j z i,a=>match z with
   |0=>match cz_ j hv with
    |some x=>bF_ x a
    |none=>false
   |z+1=>match ay_ ds j with
    |some d=>match hf_ H (Nat.succ z) a with
     |some (x,act)=>Nat.beq d.sz (Nat.succ z)&&(Nat.beq d.j i&&(bF_ d.x x&&jA_ d.act act))
     |none=>false
    |none=>false
 | .ptx id i sz _,a=>match a with
   | .slx id' sz' i'=>jA_ (au_ rn id) (some id')&&(Nat.beq sz sz'&&(Nat.beq i i'&&Nat.blt i n))
   |_=>false
 | .map id,a=>match a with
   | .map id'=>jA_ (au_ rn id) (some id')
   |_=>false
 |t,a=>bF_ t a
def mL (H:AHeap) (ds:List DA) (rn:List (Nat×Nat)) (hv:List AV) (n:Nat):List AV->List AV->Bool
 |[],[]=>true
 |t::ts,a::r=>mA H ds rn hv n t a&&mL H ds rn hv n ts r
 |_,_=>false
end
mutual
def eN_ (n:Nat):AV->Bool
 | .sym i=>Nat.blt i n
 | .vptr cs=>aF_ n cs
 | .vsl _ _ cs=>aF_ n cs
 | .fn _ cs=>aF_ n cs
 | .iface _ a=>eN_ n a
 | .agg cs=>aF_ n cs
 | .tup cs=>aF_ n cs
 |_=>true
def aF_ (n:Nat):List AV->Bool
 |[]=>true
 |a::r=>eN_ n a&&aF_ n r
end
structure VS where
 T:Tm
 H:AHeap
 n:Nat
 lv:Nat
 D:Dfs
inductive VX where
 |exit (id:Nat) (S:VS)
 |ret (S:VS)
 |pan (v:AV) (S:VS)
def VS.x (S:VS):XS:=⟨S.T,S.H,S.n⟩
def VS.know (S:VS) (i:Nat) (b:Bool):VS:=⟨a9_ (g7_ i b) S.T,S.H,S.n,S.lv,S.D⟩
def ue_ (T:Tm):List (Nat×AV)->List (Nat×AV)->List (Nat×AV)
 |[],acc=>acc
 |(t,a)::r,acc=>tn_ a (tget T t) (ue_ T r acc)
def ud_ (H:AHeap) (rn:List (Nat×Nat)):List (Nat×List AV)->List (Nat×AV)->List (Nat×AV)
 |[],acc=>acc
 |(id,cs)::r,acc=>match au_ rn id with
  |some a=>match H.get a with
   |some (.cells l)=>np_ cs l (ud_ H rn r acc)
   |_=>acc
  |none=>acc
def uc_:List DA->List (Nat×AV)->List (Nat×AV)
 |[],acc=>acc
 |d::r,acc=>(d.j,d.x)::uc_ r acc
def mT (H:AHeap) (ds:List DA) (rn:List (Nat×Nat)) (hv:List AV) (n:Nat) (T:Tm):List (Nat×AV)->Bool
 |[]=>true
 |(t,a)::r=>Nat.blt t 512&&(mA H ds rn hv n a (tget T t)&&mT H ds rn hv n T r)
def qg_ (id a:Nat) (rn:List (Nat×Nat)):List (Nat×Nat):=match au_ rn id with
 |none=>(id,a)::rn
 |some _=>rn
mutual
def qA_:AV->AV->List (Nat×Nat)->List (Nat×Nat)
 | .ptr id _,.ptr id' _,rn=>qg_ id id' rn
 | .sl id _ _ _ _,.sl id' _ _ _ _,rn=>qg_ id id' rn
 | .ptx id _ _ _,.slx id' _ _,rn=>qg_ id id' rn
 | .map id,.map id',rn=>qg_ id id' rn
 | .agg ts,.agg cs,rn=>lS_ ts cs rn
 | .tup ts,.tup cs,rn=>lS_ ts cs rn
 | .iface _ t,.iface _ a,rn=>qA_ t a rn
 |_,_,rn=>rn
def lS_:List AV->List AV->List (Nat×Nat)->List (Nat×Nat)
 |t::ts,a::r,rn=>lS_ ts r (qA_ t a rn)
 |_,_,rn=>rn
end
def s0_ (T:Tm):List (Nat×AV)->List (Nat×Nat)->List (Nat×Nat)
 |[],rn=>rn
 |(t,a)::r,rn=>s0_ T r (qA_ a (tget T t) rn)
def lR_ (H:AHeap):List (Nat×List AV)->List (Nat×Nat)->List (Nat×Nat)
 |[],rn=>rn
 |(id,cs)::r,rn=>match au_ rn id with
  |some a=>match H.get a with
   |some (.cells l)=>lR_ H r (lS_ cs l rn)
   |_=>lR_ H r rn
  |none=>match H.get id with
   |some (.cells l)=>lR_ H r (lS_ cs l ((id,id)::rn))
   |_=>lR_ H r rn
def rl_:List (Nat×Nat)->List (Nat×Nat)->List (Nat×Nat)
 |[],rn=>rn
 |(id,_)::r,rn=>rl_ r (qg_ id id rn)
def qT_ (ids:List Nat):List (Nat×Nat)->List (Nat×Nat)
 |[]=>[]
 |(id,a)::r=>match memT id ids with
  |true=>(id,a)::qT_ ids r
  |false=>qT_ ids r
def Tpl.ids (tp:Tpl):List Nat:=pN_ tp.fix (pN_ tp.maps (mn_ tp.rows))
def tI_ (tp:Tpl) (T:Tm) (H:AHeap):List (Nat×Nat):=qT_ tp.ids (rl_ tp.fix (rl_ tp.maps (lR_ H tp.rows (s0_ T tp.slots []))))
def tu_:List (Nat×Nat)->List (Nat×Nat)->List (Nat×Nat)
 |[],acc=>acc
 |(id,a)::r,acc=>(a,id)::tu_ r acc
def qR_:List DA->List (Nat×Nat)->List (Nat×Nat)
 |[],acc=>acc
 |d::r,acc=>match d.act with
  |some i=>(i,d.id)::qR_ r acc
  |none=>qR_ r acc
def mN (ds:List DA) (inv:List (Nat×Nat)) (next:Nat):List (Nat×Nat)->Bool
 |[]=>true
 |(id,a)::r=>Nat.blt id next&&(Nat.blt id top&&(jA_ (au_ inv a) (some id)&&((ay_ ds id).isNone&&mN ds inv next r)))
def mH (ds:List DA) (rn:List (Nat×Nat)) (hv:List AV) (n:Nat) (H:AHeap):List (Nat×List AV)->Bool
 |[]=>true
 |(id,cs)::r=>(match au_ rn id with
  |some a=>match H.get a with
   |some (.cells l)=>mL H ds rn hv n cs l
   |_=>false
  |none=>false)&&mH ds rn hv n H r
def mD (inv:List (Nat×Nat)) (hv:List AV) (next:Nat):List DA->Bool
 |[]=>true
 |d::r=>Nat.blt d.id next&&(Nat.blt d.id top&&((match cz_ d.j hv with
  |some y=>bF_ y d.x
  |none=>false)&&((match d.act with
  |some i=>jA_ (au_ inv i) (some d.id)
  |none=>true)&&mD inv hv next r)))
def uj_ (H:AHeap) (rn:List (Nat×Nat)):List (Nat×Nat)->List (Nat×AV)->Option (List (Nat×AV))
 |[],acc=>some acc
 |(id,j)::r,acc=>match au_ rn id with
  |some a=>match oQ_ H a with
   |some x=>match uj_ H rn r acc with
    |some l=>some ((j,x)::l)
    |none=>none
   |none=>none
  |none=>none
def mM (rn:List (Nat×Nat)) (hv:List AV) (H:AHeap):List (Nat×Nat)->Bool
 |[]=>true
 |(id,j)::r=>(match au_ rn id with
  |some a=>match oQ_ H a with
   |some x=>match cz_ j hv with
    |some y=>bF_ y x
    |none=>false
   |none=>false
  |none=>false)&&mM rn hv H r
def oH_ (cs:List AV) (x:AV):Bool:=match x with
 | .vsl len z cs'=>dA_ cs' cs&&(Nat.beq (aY_ cs) (Nat.mul len z)&&(ad_ cs&&a7_ cs))
 |_=>false
def mF (rn:List (Nat×Nat)) (hv:List AV) (n:Nat) (H:AHeap):List (Nat×Nat)->Bool
 |[]=>true
 |(id,i)::r=>(match au_ rn id with
  |some a=>match H.get a with
   |some (.syl i')=>match Nat.blt i lL_ with
    |true=>Nat.blt i n&&Nat.beq i i'
    |false=>match cz_ (ht_ i) hv with
     |some x=>bF_ x (.sym i')
     |none=>false
   |some (.cells cs)=>match Nat.blt i lL_ with
    |true=>false
    |false=>match cz_ (ht_ i) hv with
     |some x=>oH_ cs x
     |none=>false
   |_=>false
  |none=>false)&&mF rn hv n H r
def pF_ (rn:List (Nat×Nat)) (H:AHeap):List (Nat×Nat)->List (Nat×AV)->List (Nat×AV)
 |[],acc=>acc
 |(id,i)::r,acc=>match Nat.blt i lL_ with
  |true=>pF_ rn H r acc
  |false=>match au_ rn id with
   |some a=>match H.get a with
    |some (.syl i')=>(ht_ i,.sym i')::pF_ rn H r acc
    |some (.cells cs)=>(ht_ i,.vsl (Nat.div (aY_ cs) (zF i)) (zF i) cs)::pF_ rn H r acc
    |_=>pF_ rn H r acc
   |none=>pF_ rn H r acc
def sj_ (ds:List DA) (rn:List (Nat×Nat)):Nat->Bool
 |0=>true
 |k+1=>(match au_ rn k with
  |some a=>Nat.beq a k
  |none=>match ay_ ds k with
   |some d=>jA_ d.act (some k)
   |none=>false)&&sj_ ds rn k
def noD:Dfs->Bool
 |[]=>true
 |_=>false
structure MR where
 rn:List (Nat×Nat)
 ds:List DA
 hv:List AV
def MR.inv (m:MR):List (Nat×Nat):=qR_ m.ds (tu_ m.rn [])
def gP_ (n:Nat) (tp:Tpl) (T:Tm) (H:AHeap):Option MR:=match tI_ tp T H with
 |rn=>match pn_ T H rn tp.acc with
  |none=>none
  |some ds=>match uj_ H rn tp.maps (uc_ ds (ue_ T tp.slots (ud_ H rn tp.rows [])))with
   |none=>none
   |some ms=>match oF_ (pF_ rn H tp.fix ms) 0 tp.nv with
    |none=>none
    |some hv=>match MR.mk rn ds hv with
      |m=>match ad_ hv&&(a7_ hv&&(mT H ds rn hv n T tp.slots&&(mN ds m.inv tp.next rn&&(mH ds rn hv n H tp.rows&&(mD m.inv hv tp.next ds&&(mM rn hv H tp.maps&&(mF rn hv n H tp.fix&&Nat.ble tp.next top)))))))with
       |true=>some m
       |false=>none
def nnL (k:Nat) (hv:List AV):List TA->Option (List Nat)
 |[]=>some []
 |t::r=>match nnL k hv r with
  |none=>none
  |some l=>match Nat.blt t.id k with
   |false=>some l
   |true=>match cz_ t.j hv with
    |some (.sym i)=>some (i::l)
    |some (.vsl _ _ _)=>some l
    |_=>none
structure MT where
 hv:List AV
 nn:List Nat
def gQ_ (n k:Nat) (tp:Tpl) (S:VS):Option MT:=match noD S.D with
 |false=>none
 |true=>match gP_ n tp S.T S.H with
  |none=>none
  |some m=>match sj_ m.ds m.rn k with
   |false=>none
   |true=>match nnL k m.hv tp.acc with
    |none=>none
    |some l=>some ⟨m.hv,l⟩
mutual
def ri_:AV->AV->List AV
 | .slx _ z _,a=>match z with
   |0=>match ae_ a with
    |true=>[]
    |false=>[a]
   |_+1=>[]
 | .agg ts,.agg cs=>rk_ ts cs
 | .tup ts,.tup cs=>rk_ ts cs
 | .iface _ t,.iface _ a=>ri_ t a
 | .vsl _ _ _,.sl id o n z c=>[.sl id o n z c]
 |_,_=>[]
def rk_:List AV->List AV->List AV
 |t::ts,a::r=>jo_ (ri_ t a) (rk_ ts r)
 |_,_=>[]
end
def f7_ (T:Tm):List (Nat×AV)->List AV
 |[]=>[]
 |(t,a)::r=>jo_ (ri_ a (tget T t)) (f7_ T r)
def dy_ (S:VS) (args:List AV):VS:=let l:=d8_ 100 S.H args []
 ⟨a9_ (frz (eh_ S.H l)) S.T,dl_ S.H l,S.n,S.lv,S.D⟩
def th_ (S:VS) (args:List AV) (id:Nat):VS:=let l:=d8_ 100 S.H args []
 ⟨a9_ (frz (eh_ S.H l)) S.T,sG_ (eh_ S.H l) id (dl_ S.H l),S.n,S.lv,S.D⟩
mutual
def reA (id i k:Nat):AV->AV
 | .slx a z j=>match Nat.beq a id&&Nat.beq j i with
   |true=>.slx a z k
   |false=>.slx a z j
 | .vptr cs=>.vptr (reL id i k cs)
 | .vsl n z cs=>.vsl n z (reL id i k cs)
 | .fn f cs=>.fn f (reL id i k cs)
 | .iface t a=>.iface t (reA id i k a)
 | .agg cs=>.agg (reL id i k cs)
 | .tup cs=>.tup (reL id i k cs)
 |a=>a
def reL (id i k:Nat):List AV->List AV
 |[]=>[]
 |a::r=>reA id i k a::reL id i k r
end
structure SR where
 id:Nat
 i:Nat
 k:Nat
def g4_ (H:AHeap):List AV->List SR
 |[]=>[]
 |a::r=>match a with
  | .slx id _ i=>match H.get id with
    |some (.syl k)=>match Nat.beq i k with
     |true=>g4_ H r
     |false=>⟨id,i,k⟩::g4_ H r
    |_=>g4_ H r
  |_=>g4_ H r
def tH_:List SR->List AV->List AV
 |[],l=>l
 |q::r,l=>tH_ r (reL q.id q.i q.k l)
def reS:List SR->VS->VS
 |[],S=>S
 |q::r,S=>reS r ⟨a9_ (reA q.id q.i q.k) S.T,S.H,S.n,S.lv,S.D⟩
def nW_:List SR->List (Nat×Nat)
 |[]=>[]
 |q::r=>(q.i,q.k)::nW_ r
structure FR where
 l:List (Nat×Nat)
 S:VS
def gk_ (S:VS) (l:List AV):FR:=match g4_ S.H l with
 |[]=>⟨[],dy_ S l⟩
 |q=>⟨nW_ q,dy_ (reS q S) (tH_ q l)⟩
def k5_ (tp:Tpl) (S:VS):FR:=match f7_ S.T tp.slots with
 |[]=>⟨[],S⟩
 |l=>gk_ S l
def n9_ (H:AHeap) (a:AV):Option (Nat×Nat×AV):=match a with
 | .slx id z i=>match H.get id with
   |some (.syl k)=>match Nat.beq i k with
    |true=>none
    |false=>some (i,k,.slx id z k)
   |_=>none
 |_=>none
def fG_:Nat->AV->List AV->List AV
 |_,_,[]=>[]
 |0,x,_::r=>x::r
 |n+1,x,a::r=>a::fG_ n x r
def k3_ (rn:List (Nat×Nat)) (t:TA) (S:VS):FR:=match ke_ S.T S.H rn t with
 |none=>⟨[],S⟩
 |some a=>match n9_ S.H a with
  |none=>⟨[],S⟩
  |some (i,k,a')=>match t.off with
   |none=>match Nat.blt t.loc 512 with
    |true=>⟨[(i,k)],⟨dx_ S.T t.loc a',S.H,S.n,S.lv,S.D⟩⟩
    |false=>⟨[],S⟩
   |some o=>match au_ rn t.loc with
    |some r=>match S.H.get r with
     |some (.cells cs)=>⟨[(i,k)],⟨S.T,S.H.set r (.cells (fG_ o a' cs)),S.n,S.lv,S.D⟩⟩
     |_=>⟨[],S⟩
    |none=>match tget S.T (Nat.sub t.loc 600)with
     | .tup cs=>match Nat.blt (Nat.sub t.loc 600) 512 with
       |true=>⟨[(i,k)],⟨dx_ S.T (Nat.sub t.loc 600) (.tup (fG_ o a' cs)),S.H,S.n,S.lv,S.D⟩⟩
       |false=>⟨[],S⟩
     |_=>⟨[],S⟩
def dZ_ (rn:List (Nat×Nat)):List TA->VS->FR
 |[],S=>⟨[],S⟩
 |t::r,S=>match k3_ rn t S with
  |f=>match dZ_ rn r f.S with
   |g=>⟨appP f.l g.l,g.S⟩
where
 appP:List (Nat×Nat)->List (Nat×Nat)->List (Nat×Nat)
 |[],l=>l
 |x::r,l=>x::appP r l
def k4_ (tp:Tpl) (S:VS):FR:=dZ_ (tI_ tp S.T S.H) tp.acc S
def cH_ (tp:Tpl) (S:VS):FR:=match k5_ tp S with
 |f=>match k4_ tp f.S with
  |g=>⟨dZ_.appP f.l g.l,g.S⟩
def i8_:List (Nat×Nat)->VT->VT
 |[],t=>t
 |(i,k)::r,t=>.chk (.same i k) (i8_ r t)
structure MA where
 j:Nat
 l:List (Nat×Nat)
 m:MT
def clashT (T:Tm):List (Nat×AV)->Bool
 |[]=>false
 |(t,a)::r=>(match a with
  | .int _ x=>match tget T t with
    | .int _ y=>not (eqI x y)
    |_=>false
  |_=>false)||clashT T r
def dL_ (n k:Nat):List Tpl->Nat->VS->Option MA
 |[],_,_=>none
 |tp::r,j,S=>match clashT S.T tp.slots with
  |true=>dL_ n k r (Nat.succ j) S
  |false=>match cH_ tp S with
   |f=>match gQ_ n k tp f.S with
    |some m=>some ⟨j,f.l,m⟩
    |none=>dL_ n k r (Nat.succ j) S
def Tpl.heap (tp:Tpl) (n:Nat):AHeap:=j8_ n (iy_ n (fp_ n (f8_ n tp.next tp.rows) tp.acc) tp.maps) tp.fix
def Tpl.inst (tp:Tpl) (n lv:Nat):VS:=⟨cI_ n tp.slots,tp.heap n,Nat.add n tp.nv,lv,[]⟩
def qu_:List Nat->VT->VT
 |[],t=>t
 |i::r,t=>.chk (.nn i) (qu_ r t)
section
variable [Gl]
def cA_:List (Nat×AV)->List AV
 |[]=>[]
 |(_,a)::r=>a::cA_ r
def r0_ (ft:FT) (n:Nat) (Y0:Sy) (Q:Nat->List AV->Prop) (Y:Sy) (r:FRes):Prop:=
 ∃j ws b tp,ft.exs[j]? =some (b,tp)/\Q j ws/\okL ws=true/\ws.length=tp.nv/\Y=Y0.puts n ws/\r=(match b with
  |true=>.pan (tget (cI_ n tp.slots) 0) (tp.heap n)
  |false=>.ret (tget (cI_ n tp.slots) 0) (tp.heap n))
def CF (P:Program) (f:FuncId) (ft:FT) (vs:List AV) (Q:Nat->List AV->Prop):Prop:=
 vs.length=ft.ent.nv/\∀Y,Fresh Y 64->SemCallF P ft.k (Y.puts 64 vs) f (bw_ 64 (cA_ ft.ent.slots)) (ft.ent.heap 64) (r0_ ft (Nat.add 64 ft.ent.nv) (Y.puts 64 vs) Q)
def Chk.ok (Y:Sy):Chk->Prop
 | .same i j=>(Y.v i=some .nsl/\Y.v j=some .nsl)\/∃n z cs ds,Y.v i=some (.vsl n z cs)/\Y.v j=some (.vsl n z ds)
 | .nn i=>∃n z cs,Y.v i=some (.vsl n z cs)
 | .pos i=>∃n z cs,Y.v i=some (.vsl (n+1) z cs)
mutual
def VOK (P:Program) (Q:AV->Prop):List (Nat->List AV->Prop)->Sy->VT->Prop
 |_,_,.bad=>False
 |_,Y,.done v=>Q (den Y.v v)
 |L,Y,.ite i a b=>∃t,Y.v i=some (.bool t)/\(t=true->VOK P Q L Y a)/\(t=false->VOK P Q L Y b)
 |L,Y,.lt op args n m t=>match m with
  |none=>∃r,op.run P (ab_ Y.v args)=some r/\okC r=true/\VOK P Q L (Y.put n r) t
  |some k=>∃cs,op.run P (ab_ Y.v args)=some (.agg cs)/\cs.length=k/\okL cs=true/\VOK P Q L (Y.puts n cs) t
 |L,Y,.call f args n sh t=>∃v vs,kD_ P f (ab_ Y.v args) v/\hr_ sh v=some vs/\okL vs=true/\VOK P Q L (Y.puts n vs) t
 |L,Y,.loop n j hv bs=>∃(Inv:Nat->List AV->Prop) (μ:Nat->List AV->Nat),(∀j vs,Inv j vs->okL vs=true)/\Inv j (ab_ Y.v hv)/\ti_ P Q Inv μ L n 0 Y bs
 |L,Y,.again lvl j hv=>∃R,L[lvl]? =some R/\R j (ab_ Y.v hv)
 |L,Y,.chk c t=>c.ok Y/\VOK P Q L Y t
 |L,Y,.callF f ft hv n bs=>∃R,CF P f ft (ab_ Y.v hv) R/\okL (ab_ Y.v hv)=true/\r1_ P Q R L (Y.puts n (ab_ Y.v hv)) (Nat.add n ft.ent.nv) 0 bs
 |L,Y,.both a b=>VOK P Q L Y a/\VOK P Q L Y b
def ti_ (P:Program) (Q:AV->Prop) (Inv:Nat->List AV->Prop) (μ:Nat->List AV->Nat):List (Nat->List AV->Prop)->Nat->Nat->Sy->VTs->Prop
 |_,_,_,_,.nil=>True
 |L,n,j,Y,.cons nv t r=>(∀vs,vs.length=nv->Inv j vs->VOK P Q (L++[λj' vs'=>Inv j' vs'/\μ j' vs'<μ j vs]) (Y.puts n vs) t)/\ti_ P Q Inv μ L n (j+1) Y r
def r1_ (P:Program) (Q:AV->Prop) (R:Nat->List AV->Prop):List (Nat->List AV->Prop)->Sy->Nat->Nat->VTs->Prop
 |_,_,_,_,.nil=>True
 |L,Y,n,j,.cons _ t r=>(∀ws,R j ws->VOK P Q L (Y.puts n ws) t)/\r1_ P Q R L Y n (j+1) r
end
end
def k7_:sU_->Nat->Option (List Tpl)
 |[],_=>none
 |(b,l)::r,bid=>match Nat.beq b bid with
  |true=>some l
  |false=>k7_ r bid
section
variable [Gl]
abbrev qe_:=List (FuncId×List (Option Nat))
def tM_:qe_->FuncId->Option (List (Option Nat))
 |[],_=>none
 |(g,sh)::r,f=>match Nat.beq g f with
  |true=>some sh
  |false=>tM_ r f
abbrev qf_:=List (FuncId×FT)
def ts_:qf_->FuncId->Option FT
 |[],_=>none
 |(g,t)::r,f=>match Nat.beq g f with
  |true=>some t
  |false=>ts_ r f
structure VC where
 fc:FcT
 cs:qe_
 hs:sU_
 k:Nat
 own:Bool
 fs:qf_
def qk_ (P:Program) (S:VS) (o:Oper):Option (Nat×Nat×XOp×List AV):=match noD S.D with
 |true=>fN_ P S.T S.H o
 |false=>none
def nl_ (P:Program) (S:VS) (o:Oper):Option (Nat×Nat×XOp×List AV):=match noD S.D with
 |true=>match cC_ P S.T S.H o with
  |some r=>some r
  |none=>tB_ P S.T S.H o
 |false=>none
def q4_ (P:Program) (S:VS) (o:Oper):Option (Nat×XOp×List AV):=match noD S.D with
 |true=>q3_ P S.T S.H o
 |false=>none
def sgS (hv:List AV) (n i:Nat):Nat:=match Nat.blt i 64 with
 |true=>i
 |false=>match cz_ (Nat.sub i 64) hv with
  |some (.sym s)=>s
  |_=>Nat.add n (Nat.sub i 64)
def sgV (hv:List AV) (n i:Nat):AV:=match Nat.blt i 64 with
 |true=>.sym i
 |false=>match cz_ (Nat.sub i 64) hv with
  |some a=>match okC a with
   |true=>a
   |false=>.sym (sgS hv n i)
  |none=>.sym (sgS hv n i)
mutual
def cl_ (hv:List AV) (n:Nat) (r:Nat->Nat):AV->AV
 | .sym i=>sgV hv n i
 | .slx id z i=>.slx (r id) z (sgS hv n i)
 | .ptx id j z off=>.ptx (r id) (sgS hv n j) z off
 | .ptr id off=>.ptr (r id) off
 | .sl id off len sz cap=>.sl (r id) off len sz cap
 | .map id=>.map (r id)
 | .vptr cs=>.vptr (fh_ hv n r cs)
 | .vsl a z cs=>.vsl a z (fh_ hv n r cs)
 | .fn f cs=>.fn f (fh_ hv n r cs)
 | .iface t a=>.iface t (cl_ hv n r a)
 | .agg cs=>.agg (fh_ hv n r cs)
 | .tup cs=>.tup (fh_ hv n r cs)
 |a=>a
def fh_ (hv:List AV) (n:Nat) (r:Nat->Nat):List AV->List AV
 |[]=>[]
 |a::l=>cl_ hv n r a::fh_ hv n r l
end
def q2_ (hv:List AV) (n:Nat) (r:Nat->Nat):ABlk->Option ABlk
 | .cells cs=>some (.cells (fh_ hv n r cs))
 | .syl i=>some (.syl (sgS hv n i))
 | .mpl i=>some (.mpl (sgS hv n i))
 |_=>none
def lc_ (hv:List AV) (n:Nat) (r:Nat->Nat) (F:AHeap) (base:AHeap):List Nat->AHeap
 |[]=>base
 |id::l=>match F.get id with
  |some k=>match q2_ hv n r k with
   |some k'=>(lc_ hv n r F base l).set (r id) k'
   |none=>lc_ hv n r F base l
  |none=>lc_ hv n r F base l
def c1_:List TA->List Nat->List Nat
 |[],l=>l
 |t::r,l=>t.id::c1_ r l
def p7_:List (Nat×Nat)->List Nat->List Nat
 |[],l=>l
 |(_,a)::r,l=>a::p7_ r l
def nk_:List DA->List Nat->List Nat
 |[],l=>l
 |d::r,l=>match d.act with
  |some i=>i::nk_ r l
  |none=>nk_ r l
def hv_ (m:MR) (j:Nat):Option Nat:=match au_ m.rn j with
 |some a=>some a
 |none=>match ay_ m.ds j with
  |some d=>d.act
  |none=>none
def nL_ (m:MR):Nat->Option (List Nat)
 |0=>some []
 |k+1=>match nL_ m k with
  |some l=>match hv_ m k with
   |some a=>some (snoc l a)
   |none=>none
  |none=>none
where
 snoc:List Nat->Nat->List Nat
 |[],a=>[a]
 |x::r,a=>x::snoc r a
def ss_:Nat->List Nat->Option Nat
 |_,[]=>none
 |0,a::_=>some a
 |n+1,_::r=>ss_ n r
def n0_ (low:List Nat) (k nx j:Nat):Nat:=match ss_ j low with
 |some a=>a
 |none=>Nat.add nx (Nat.sub j k)
mutual
def g9_:AV->Bool
 | .ptr id _=>Nat.blt id top
 | .sl id _ _ _ _=>Nat.blt id top
 | .map id=>Nat.blt id top
 | .slx id _ _=>Nat.blt id top
 | .ptx id _ _ _=>Nat.blt id top
 | .vptr cs=>ha_ cs
 | .vsl _ _ cs=>ha_ cs
 | .fn _ cs=>ha_ cs
 | .iface _ a=>g9_ a
 | .agg cs=>ha_ cs
 | .tup cs=>ha_ cs
 |_=>true
def ha_:List AV->Bool
 |[]=>true
 |a::r=>g9_ a&&ha_ r
end
def ob_ (n:Nat):List (Nat×List AV)->Bool
 |[]=>true
 |(_,cs)::r=>ha_ (bw_ n cs)&&ob_ n r
def oa_:List Nat->Bool
 |[]=>true
 |i::r=>Nat.blt i top&&oa_ r
def it_ (H:AHeap):List Nat->Bool
 |[]=>true
 |a::r=>(H.get a).isSome&&it_ H r
def fH_:Nat->List (Nat×AV)->Bool
 |_,[]=>true
 |i,(j,_)::r=>Nat.beq i j&&(Nat.blt i 512&&fH_ (Nat.succ i) r)
def mP_ (k n:Nat) (H:AHeap):List (Bool×Tpl)->Bool
 |[]=>true
 |(_,tp)::r=>Nat.ble k tp.next&&(Nat.blt (Nat.add H.next (Nat.sub tp.next k)) H.hi&&(g9_ (tget (cI_ n tp.slots) 0)&&(ob_ n tp.rows&&(oa_ (c1_ tp.acc tp.ids)&&mP_ k n H r))))
def exH (ft:FT) (m:MR) (low:List Nat) (S:VS) (tp:Tpl):AHeap:=lc_ m.hv S.n (n0_ low ft.k S.H.next) (tp.heap (Nat.add 64 ft.ent.nv))
 (match dl_ S.H (nk_ m.ds (p7_ m.rn []))with
   |B=>⟨B.tr,Nat.add S.H.next (Nat.sub tp.next ft.k),B.hi⟩) (c1_ tp.acc tp.ids)
def exV (ft:FT) (m:MR) (low:List Nat) (S:VS) (tp:Tpl):AV:=cl_ m.hv S.n (n0_ low ft.k S.H.next) (tget (cI_ (Nat.add 64 ft.ent.nv) tp.slots) 0)
def exN (ft:FT) (S:VS) (tp:Tpl):Nat:=Nat.add (Nat.add S.n ft.ent.nv) tp.nv
def rM_ (ft:FT) (m:MR) (low:List Nat) (u:Tm->AV->Tm) (S:VS) (X:VX->VT) (k:VS->VT):List (Bool×Tpl)->VTs
 |[]=>.nil
 |(b,tp)::r=>.cons tp.nv (match b with
  |false=>k ⟨u S.T (exV ft m low S tp),exH ft m low S tp,exN ft S tp,S.lv,S.D⟩
  |true=>X (.pan (exV ft m low S tp) ⟨S.T,exH ft m low S tp,exN ft S tp,S.lv,S.D⟩)) (rM_ ft m low u S X k r)
def lz_ (g:FuncId) (ft:FT) (u:Tm->AV->Tm) (S:VS) (args:List AV) (X:VX->VT) (k:VS->VT):VT:=match k4_ ft.ent ⟨aX_ args 0 topq,S.H,S.n,S.lv,[]⟩with
 |f=>match gP_ 64 ft.ent f.S.T f.S.H with
  |none=>.bad
  |some m=>match nL_ m ft.k with
   |none=>.bad
   |some low=>match mP_ ft.k (Nat.add 64 ft.ent.nv) f.S.H ft.exs&&(Nat.ble f.S.H.hi top&&(Nat.beq (aY_ args) (aY_ (cA_ ft.ent.slots))&&(fH_ 0 ft.ent.slots&&it_ f.S.H low)))with
    |true=>i8_ f.l (.callF g ft m.hv S.n (rM_ ft m low u ⟨S.T,f.S.H,S.n,S.lv,S.D⟩ X k ft.exs))
    |false=>.bad
def of_ (P:Program) (g:FuncId) (ft:FT) (o:Oper) (u:Tm->AV->Tm) (S:VS) (args:List AV) (X:VX->VT) (k:VS->VT):VT:=match f7_ (aX_ args 0 topq) ft.ent.slots with
 |[]=>lz_ g ft u S args X k
 |l=>match gk_ S l with
  |f=>match (ac_ P o).run f.S.T f.S.H with
   |some r=>match r with
    | .call g' args'=>match Nat.beq g' g with
      |true=>i8_ f.l (lz_ g ft u f.S args' X k)
      |false=>.bad
    |_=>.bad
   |none=>.bad
def INL (P:Program) (Q:AV->Prop) (fc:FcT) (L:List (Nat->List AV->Prop)) (n:Nat) (Y:Sy) (ret pan:AV->AHeap->Nat->Nat->VT) (Y':Sy) (r:FRes):Prop:=
 ∃(n' lv':Nat) (L':List (Nat->List AV->Prop)),L <+: L'/\L'.length=lv'/\n<=n'/\(∀i,i<n->Y'.v i=Y.v i)/\(Fresh Y' n'/\KnownF P fc Y')/\(match r with
  | .ret a H=>VOK P Q L' Y' (ret a H n' lv')
  | .pan a H=>VOK P Q L' Y' (pan a H n' lv'))
structure Inl (P:Program) (fuel:Nat) where
 run:VC->FuncId->List AV->AHeap->Nat->Nat->(AV->AHeap->Nat->Nat->VT)->(AV->AHeap->Nat->Nat->VT)->VT
 ok:∀{c:VC} {g:FuncId} {args:List AV} {H:AHeap} {n lv:Nat} {ret pan:AV->AHeap->Nat->Nat->VT} {Q:AV->Prop} {L:List (Nat->List AV->Prop)} {Y:Sy},P.follows .mixedOrders=true->as_ P (a6_ P fuel)->L.length=lv->Fresh Y n/\KnownF P c.fc Y->
  VOK P Q L Y (run c g args H n lv ret pan)->SemCallF P H.next Y g args H (INL P Q c.fc L n Y ret pan)
def in0 (P:Program) (fuel:Nat):Inl P fuel:=⟨λ_ _ _ _ _ _ _ _=>.bad,λ_ _ _ _ h=>by unfold VOK at h;exact h.elim⟩
mutual
def cJ_ (k n:Nat):AV->Bool
 | .ptr id _=>Nat.blt id k
 | .sl id _ _ _ _=>Nat.blt id k
 | .map id=>Nat.blt id k
 | .slx id _ i=>Nat.blt id k&&Nat.blt i n
 | .ptx id j _ _=>Nat.blt id k&&Nat.blt j n
 | .sym i=>Nat.blt i n
 | .vptr cs=>d2_ k n cs
 | .vsl _ _ cs=>d2_ k n cs
 | .fn _ cs=>d2_ k n cs
 | .iface _ a=>cJ_ k n a
 | .agg cs=>d2_ k n cs
 | .tup cs=>d2_ k n cs
 |_=>true
def d2_ (k n:Nat):List AV->Bool
 |[]=>true
 |a::r=>cJ_ k n a&&d2_ k n r
end
def bG_ (k n:Nat) (a:AV):AV:=match cJ_ k n a with
 |true=>a
 |false=>.opq
def mq_ (k n:Nat):Dfs->Bool
 |[]=>true
 |(_,args)::r=>d2_ k n args&&mq_ k n r
def lA_ (P:Program) {fuel:Nat} (I:Inl P fuel) (c:VC) (o:Oper) (u:Tm->AV->Tm) (S:VS) (X:VX->VT) (k:VS->VT):VT:=match mq_ S.H.next S.n S.D&&Nat.ble c.k S.H.next with
 |false=>.bad
 |true=>match a9_ (bG_ S.H.next S.n) S.T with
  |T1=>match (ac_ P o).run T1 S.H with
   |some r=>match r with
    | .call g args=>I.run c g args S.H S.n S.lv
      (λa H n lv=>match Nat.beq lv S.lv with
       |true=>k ⟨u T1 a,H,n,lv,S.D⟩
       |false=>.bad)
      (λa H n lv=>match Nat.beq lv S.lv with
       |true=>X (.pan a ⟨T1,H,n,lv,S.D⟩)
       |false=>.bad)
    |_=>.bad
   |none=>.bad
def rF_ (P:Program) (fuel:Nat) (I:Inl P fuel) (c:VC) (o:Oper) (u:Tm->AV->Tm) (S:VS) (g:FuncId) (args:List AV) (X:VX->VT) (k:VS->VT):VT:=match ts_ c.fs g with
 |some ft=>of_ P g ft o u S args X k
 |none=>match tM_ c.cs g with
  |some sh=>match ad_ args with
   |true=>.call g args S.n sh (k ⟨u S.T (de_ S.n sh),S.H,Nat.add S.n (cL_ sh),S.lv,S.D⟩)
   |false=>match (ac_ P o).run (dy_ S args).T (dy_ S args).H with
    |some r=>match r with
     | .call g' args'=>match Nat.beq g' g&&ad_ args' with
       |true=>.call g args' S.n sh (k ⟨u (dy_ S args).T (de_ S.n sh),(dy_ S args).H,Nat.add S.n (cL_ sh),S.lv,S.D⟩)
       |false=>.bad
     |_=>.bad
    |none=>.bad
  |none=>match a6_ P fuel g args S.H with
   |some r=>match r with
    | .ret a H'=>k ⟨u S.T a,H',S.n,S.lv,S.D⟩
    | .pan _ _=>lA_ P I c o u S X k
   |none=>lA_ P I c o u S X k
def sQ_ (P:Program) (c:VC) (u:Tm->AV->Tm) (S:VS) (k:VS->VT) (op:XOp) (args:List AV):VT:=match ms_ P op with
 |none=>match ma_ c.fc.b op args with
  |some v=>k ⟨u S.T v,S.H,S.n,S.lv,S.D⟩
  |none=>.lt op args S.n none (k ⟨u S.T (.sym S.n),S.H,Nat.succ S.n,S.lv,S.D⟩)
 |some m=>.lt op args S.n (some m) (k ⟨u S.T (.agg (ah_ S.n m)),S.H,Nat.add S.n m,S.lv,S.D⟩)
def tV_ (P:Program) (c:VC) (o:Oper) (u:Tm->AV->Tm) (S:VS) (k:VS->VT):Option VT:=match c.own with
 |false=>none
 |true=>match rg_ P S.T o with
  |some a=>some (k ⟨u S.T a,S.H,S.n,S.lv,S.D⟩)
  |none=>match pO_ P S.T o with
   |some (op,args,id,sz)=>some (.lt op args S.n none (k ⟨u S.T (.ptx id S.n sz 0),S.H,Nat.succ S.n,S.lv,S.D⟩))
   |none=>match ldX S.T S.H o with
    |some (op,args)=>match ms_ P op with
     |none=>some (.lt op args S.n none (k ⟨u S.T (.sym S.n),S.H,Nat.succ S.n,S.lv,S.D⟩))
     |some m=>some (.lt op args S.n (some m) (k ⟨u S.T (.agg (ah_ S.n m)),S.H,Nat.add S.n m,S.lv,S.D⟩))
    |none=>match stX S.T S.H o with
     |some (op,args,id)=>some (.lt op args S.n none (k ⟨u S.T (.tup []),S.H.set id (.syl S.n),Nat.succ S.n,S.lv,S.D⟩))
     |none=>match tkX P S.T S.H o with
        |some (op,args,id,sz)=>some (.lt op args S.n none (k ⟨u S.T (.slx id sz S.n),S.H.set id (.syl S.n),Nat.succ S.n,S.lv,S.D⟩))
        |none=>none
def rT_ (P:Program) (fuel:Nat) (I:Inl P fuel) (c:VC) (o:Oper) (u:Tm->AV->Tm) (S:VS) (X:VX->VT) (k:VS->VT):VT:=match (ac_ P o).run S.T S.H with
 |some r=>match r with
  | .val a H'=>k ⟨u S.T a,H',S.n,S.lv,S.D⟩
  | .call g args=>rF_ P fuel I c o u S g args X k
  | .dfr g args=>k ⟨u S.T (.tup []),S.H,S.n,S.lv,(g,args)::S.D⟩
  | .pan v=>X (.pan v S)
  |_=>.bad
 |none=>match lk_ o S.T with
  |some (i,a,b)=>.ite i (k ⟨u (S.know i true).T (look (S.know i true).T a),S.H,S.n,S.lv,S.D⟩) (k ⟨u (S.know i false).T (look (S.know i false).T b),S.H,S.n,S.lv,S.D⟩)
  |none=>match qs_ c.fc.x S.T o with
   |some v=>k ⟨u S.T v,S.H,S.n,S.lv,S.D⟩
   |none=>match tV_ P c o u S k with
    |some t=>t
    |none=>match qk_ P S o with
    |some (id,sz,op,args)=>.lt op args S.n none (k ⟨u S.T (.slx S.H.next sz S.n),(S.H.erase id).push (.syl S.n),Nat.succ S.n,S.lv,S.D⟩)
    |none=>match nl_ P S o with
    |some (id,sz,op,args)=>.lt op args S.n none (k ⟨u S.T (.slx S.H.next sz S.n),(S.H.erase id).push (.syl S.n),Nat.succ S.n,S.lv,S.D⟩)
    |none=>match nJ_ S.T o with
     |some (op,args)=>.lt op args S.n none (k ⟨u S.T (.sym S.n),S.H,Nat.succ S.n,S.lv,S.D⟩)
     |none=>match q4_ P S o with
     |some (id,op,args)=>.lt op args S.n none (k ⟨u S.T (.tup []),S.H.set id (.mpl S.n),Nat.succ S.n,S.lv,S.D⟩)
     |none=>match q1_ S.T S.H o with
     |some (op,args)=>match nF_ P o with
      |true=>.lt op args S.n none (k ⟨u S.T (.sym S.n),S.H,Nat.succ S.n,S.lv,S.D⟩)
      |false=>.bad
     |none=>match jR_ S.T S.H o with
     |some (op,args)=>.lt op args S.n none (k ⟨u S.T (.sym S.n),S.H,Nat.succ S.n,S.lv,S.D⟩)
     |none=>match mgX S.T S.H o with
     |some (op,args)=>.lt op args S.n none (k ⟨u S.T (.sym S.n),S.H,Nat.succ S.n,S.lv,S.D⟩)
     |none=>match tr_ P S.T o with
     |some (op,args)=>.lt op args S.n none (k ⟨u S.T (.sym S.n),S.H,Nat.succ S.n,S.lv,S.D⟩)
     |none=>match c9_ S.T o with
      |some (op,args)=>match ad_ args with
       |true=>sQ_ P c u S k op args
       |false=>match c9_ (dy_ S args).T o with
        |some (op',args')=>match ad_ args' with
         |true=>sQ_ P c u (dy_ S args) k op' args'
         |false=>.bad
        |none=>.bad
      |none=>.bad
def rQ_ (all:List Oper) (o:Oper) (T:Tm):Option Bool:=match a1_ all o with
 | .always=>some true
 | .mk g=>g T
def vOp (P:Program) (fuel:Nat) (I:Inl P fuel) (c:VC) (all:List Oper) (o:Oper) (u:Tm->AV->Tm) (X:VX->VT) (next:VS->VT) (S:VS):VT:=match rQ_ all o S.T with
 |some t=>match t with
  |false=>next ⟨u S.T (.tup []),S.H,S.n,S.lv,S.D⟩
  |true=>rT_ P fuel I c o u S X next
 |none=>.bad
def rj_ (T:Tm):List (Nat×Operand)->List AV
 |[]=>[]
 |(_,x)::r=>match look T x with
  | .slx id z i=>.slx id z i::rj_ T r
  |_=>rj_ T r
def mN_:List AV->List AV
 |[]=>[]
 |a::r=>match a with
  | .slx id z i=>.slx id z i::mN_ r
  | .sl id o l z c=>.sl id o l z c::mN_ r
  |_=>mN_ r
def mO_ (T:Tm):List (Nat×Operand)->List AV
 |[]=>[]
 |(_,x)::r=>match look T x with
  | .slx id z i=>.slx id z i::mO_ T r
  | .sl id o l z c=>.sl id o l z c::mO_ T r
  | .agg cs=>jo_ (mN_ cs) (mO_ T r)
  |_=>mO_ T r
def mh_ (own:Bool) (o:Oper) (S:VS):VS:=match o.op with
 | .buildSlice _ _ ps=>match (match own with
   |true=>mO_ S.T ps.toList
   |false=>rj_ S.T ps.toList)with
   |[]=>S
   |a=>dy_ S a
 | .call c=>match own with
   |false=>S
   |true=>match c.callee with
    | .builtin b=>match b with
      | .append=>match c.args.toList with
        |[_,x]=>match look S.T x with
         | .sl id _ _ _ _=>match S.H.get id with
          |some (.cells cs)=>match mN_ cs with
           |[]=>S
           |a=>th_ S a id
          |_=>S
         |_=>S
        |_=>S
      |_=>S
    |_=>S
 |_=>S
def lC_ (P:Program) (N fuel:Nat) (I:Inl P fuel) (c:VC) (all:List Oper) (X:VX->VT):List Oper->VS->(VS->VT)->VT
 |[],S,K=>K S
 |o::r,S,K=>match b5_ N o.dst with
  | .bad=>.bad
  | .mk u=>match mk_ all o S.T with
    |some i=>.ite i (vOp P fuel I c all o u X (λS=>lC_ P N fuel I c all X r S K) (S.know i true)) (vOp P fuel I c all o u X (λS=>lC_ P N fuel I c all X r S K) (S.know i false))
    |none=>vOp P fuel I c all o u X (λS=>lC_ P N fuel I c all X r S K) (mh_ c.own o S)
def isM (x:SI):Bool:=match x.o.op with
 | .alloc _=>true
 | .box _ _=>true
 | .buildSlice _ _ _=>true
 |_=>false
inductive Tch where
 |none
 |one (id:Nat)
 |all
def g8_ (x:SI) (R:Tm):Tch:=match x.o.op with
 | .call c=>match iD_ x with
   |false=>.all
   |true=>match c.args.toList with
    |s::r=>match look R s with
     | .slx id _ _=>.one id
     | .sym _=>.none
     | .sl id _ _ _ _=>.one id
     | .vsl n _ _=>match n with
       |0=>match r with
        |y::_=>match look R y with
          | .sym _=>.none
          |_=>.all
        |[]=>.all
       |_+1=>.all
     |_=>.all
    |[]=>.all
 |_=>.all
def ib_ (x:SI) (R:Tm):Bool:=match iD_ x with
 |false=>false
 |true=>match g8_ x R with
  | .all=>false
  |_=>true
def b1_ (x:SI) (R:Tm):Tch:=match isM x with
 |true=>.none
 |false=>match x.o.op with
  | .store _ a _=>match look R a with
    | .ptr id _=>.one id
    | .ptx id _ _ _=>.one id
    |_=>.all
  |_=>g8_ x R
def apart (t:Tch) (ids:List Nat):Bool:=match t with
 | .none=>true
 | .one id=>not (memT id ids)
 | .all=>match ids with
   |[]=>true
   |_::_=>false
structure GW where
 i:Nat
 H:AHeap
 t:Tch
def mI_ (bef:Nat) (H:AHeap):List GW->AHeap
 |[]=>H
 |g::r=>match bit bef g.i with
  |true=>H
  |false=>mI_ bef g.H r
def rb_ (bef:Nat) (ids:List Nat):List GW->Bool
 |[]=>true
 |g::r=>match bit bef g.i with
  |true=>true
  |false=>apart g.t ids&&rb_ bef ids r
def st_ (bef:Nat) (t:Tch):List (Nat×List Nat)->Bool
 |[]=>true
 |(i,ids)::r=>(bit bef i||apart t ids)&&st_ bef t r
def dv_ (H:AHeap):List Nat->AHeap
 |[]=>⟨hnil,0,0⟩
 |id::r=>match H.get id with
  |some b=>(dv_ H r).set id b
  |none=>dv_ H r
def uh_ (a:AV) (acc:List Nat):List Nat:=match a with
 | .ptr id _=>id::acc
 | .sl id _ _ _ _=>id::acc
 | .map id=>id::acc
 | .ptx id _ _ _=>id::acc
 |_=>acc
def s5_ (T:Tm):List Nat->List Nat
 |[]=>[]
 |t::r=>uh_ (tget T t) (s5_ T r)
def fo_ (x:SI) (T:Tm):List Nat:=match uY_ x with
 |true=>[]
 |false=>s5_ T x.rd
def gH_ (x:SI) (S:VS) (gs:List GW):AHeap:=dv_ (mI_ x.bef S.H gs) (fo_ x S.T)
def oY_ (x:SI) (i:Nat) (y:SI):Bool:=match isW x&&isW y with
 |true=>bit y.bef i
 |false=>true
def nT_ (x:SI) (i:Nat):List SI->Bool
 |[]=>true
 |y::r=>oY_ x i y&&nT_ x i r
def lh_:List SI->Nat->Bool
 |[],_=>true
 |x::r,i=>nT_ x i r&&lh_ r (Nat.succ i)
def qN_ (x:SI):Nat->Bool
 |0=>true
 |n+1=>bit x.bef n&&qN_ x n
def rB_ (x:SI) (i n:Nat):Nat:=match Nat.beq n (Nat.succ i)&&qN_ x i with
 |true=>i
 |false=>n
def ck_:List SI->Nat->Nat
 |[],i=>i
 |x::r,i=>rB_ x i (ck_ r (Nat.succ i))
def dq_:Nat->List SI->List SI
 |0,_=>[]
 |_+1,[]=>[]
 |n+1,x::r=>x::dq_ n r
def jV_:Nat->List Oper->List Oper
 |0,l=>l
 |_+1,[]=>[]
 |n+1,_::r=>jV_ n r
def pi_ (P:Program) (x:SI) (Hx:AHeap) (u:Tm->AV->Tm) (S:VS) (k:VS->VT):VT:=match ch_ (ac_ P x.o) (ar_ S.T x.rd topq) Hx with
 |some q=>k ⟨u S.T q,S.H,S.n,S.lv,S.D⟩
 |none=>.bad
def rH_ (u:Tm->AV->Tm) (S:VS) (k:VS->VT) (R:Tm) (o:Oper) (id sz:Nat) (op:XOp) (args:List AV):VT:=match aF_ S.n args with
 |true=>match S.H.get S.H.next with
  |none=>match fs_ args with
   |true=>.lt op args S.n none (k ⟨u S.T (.slx S.H.next sz S.n),(S.H.erase id).push (.syl S.n),Nat.succ S.n,S.lv,S.D⟩)
   |false=>match c2_ args with
    |some i=>.lt .emp [.sym i] S.n none (.ite S.n (k ⟨u S.T (lY_ R o),S.H,Nat.succ S.n,S.lv,S.D⟩)
     (.lt op args (Nat.succ S.n) none (k ⟨u S.T (.slx S.H.next sz (Nat.succ S.n)),(S.H.erase id).push (.syl (Nat.succ S.n)),Nat.succ (Nat.succ S.n),S.lv,S.D⟩)))
    |none=>.bad
  |some _=>.bad
 |false=>.bad
def m9_ (P:Program) (x:SI) (u:Tm->AV->Tm) (S:VS) (k:VS->VT):VT:=match iD_ x with
 |false=>.bad
 |true=>match fN_ P (ar_ S.T x.rd topq) S.H x.o with
  |some (id,sz,op,args)=>match aF_ S.n args with
   |true=>match S.H.get S.H.next with
    |none=>match fs_ args with
     |true=>.lt op args S.n none (k ⟨u S.T (.slx S.H.next sz S.n),(S.H.erase id).push (.syl S.n),Nat.succ S.n,S.lv,S.D⟩)
     |false=>match c2_ args with
        |some i=>.chk (.pos i) (.lt op args S.n none (k ⟨u S.T (.slx S.H.next sz S.n),(S.H.erase id).push (.syl S.n),Nat.succ S.n,S.lv,S.D⟩))
        |none=>.bad
    |some _=>.bad
   |false=>.bad
  |none=>match cC_ P (ar_ S.T x.rd topq) S.H x.o with
   |some (id,sz,op,args)=>rH_ u S k (ar_ S.T x.rd topq) x.o id sz op args
   |none=>match c9_ (ar_ S.T x.rd topq) x.o with
    |some (op,args)=>match ad_ args&&aF_ S.n args with
     |true=>match ms_ P op with
      |none=>.lt op args S.n none (k ⟨u S.T (.sym S.n),S.H,Nat.succ S.n,S.lv,S.D⟩)
      |some _=>.bad
     |false=>.bad
    |none=>.bad
def vDW (P:Program) (c:VC) (x:SI) (u:Tm->AV->Tm) (S:VS) (k:VS->VT):VT:=match (ac_ P x.o).run (ar_ S.T x.rd topq) S.H with
 |some r=>match r with
  | .val a H'=>match isM x with
    |true=>match S.H.get S.H.next with
     |none=>k ⟨u S.T a,H',S.n,S.lv,S.D⟩
     |some _=>.bad
    |false=>match ib_ x (ar_ S.T x.rd topq)with
     |true=>m9_ P x u S k
     |false=>k ⟨u S.T a,H',S.n,S.lv,S.D⟩
  |_=>.bad
 |none=>match c.own with
  |false=>m9_ P x u S k
  |true=>match stX (ar_ S.T x.rd topq) S.H x.o with
   |some (op,args,id)=>match aF_ S.n args&&not (isM x)with
    |true=>.lt op args S.n none (k ⟨u S.T (.tup []),S.H.set id (.syl S.n),Nat.succ S.n,S.lv,S.D⟩)
    |false=>.bad
   |none=>m9_ P x u S k
def tg_ (P:Program) (c:VC) (R:Tm) (Hx:AHeap) (o:Oper) (u:Tm->AV->Tm) (S:VS) (k:VS->VT):Option VT:=match c.own with
 |false=>none
 |true=>match rg_ P R o with
  |some a=>some (k ⟨u S.T a,S.H,S.n,S.lv,S.D⟩)
  |none=>match pO_ P R o with
   |some (op,args,id,sz)=>match aF_ S.n args with
    |true=>some (.lt op args S.n none (k ⟨u S.T (.ptx id S.n sz 0),S.H,Nat.succ S.n,S.lv,S.D⟩))
    |false=>none
   |none=>match ldX R Hx o with
    |some (op,args)=>match aF_ S.n args with
     |true=>match ms_ P op with
        |none=>some (.lt op args S.n none (k ⟨u S.T (.sym S.n),S.H,Nat.succ S.n,S.lv,S.D⟩))
        |some m=>some (.lt op args S.n (some m) (k ⟨u S.T (.agg (ah_ S.n m)),S.H,Nat.add S.n m,S.lv,S.D⟩))
     |false=>none
    |none=>match nJ_ R o with
     |some (op,args)=>match aF_ S.n args with
        |true=>some (.lt op args S.n none (k ⟨u S.T (.sym S.n),S.H,Nat.succ S.n,S.lv,S.D⟩))
        |false=>none
     |none=>none
def nn_ (P:Program) (R:Tm) (o:Oper):Option AV:=match o.op with
 | .buildSlice t n ps=>match bg_ P ⟨hnil,0,1⟩ t n (cG_ (look R) ps.toList)with
   |some r=>match r.1 with
    | .sl _ _ len sz _=>match r.2.get 0 with
      |some (.cells cs)=>match ad_ cs with
       |true=>some (.vsl len sz cs)
       |false=>none
      |_=>none
    |_=>none
   |none=>none
 |_=>none
def uu_ (P:Program) (x:SI) (u:Tm->AV->Tm) (S:VS) (k:VS->VT):VT:=match nn_ P (ar_ S.T x.rd topq) x.o with
 |some q=>k ⟨u S.T q,S.H,S.n,S.lv,S.D⟩
 |none=>.bad
def rI_ (P:Program) (c:VC) (x:SI) (Hx:AHeap) (u:Tm->AV->Tm) (S:VS) (k:VS->VT):VT:=match ch_ (ac_ P x.o) (ar_ S.T x.rd topq) Hx with
 |some q=>k ⟨u S.T q,S.H,S.n,S.lv,S.D⟩
 |none=>match tg_ P c (ar_ S.T x.rd topq) Hx x.o u S k with
 |some t=>t
 |none=>match (ac_ P x.o).run (ar_ S.T x.rd topq) Hx with
  |some r=>match r with
   | .call g args=>match tM_ c.cs g with
     |some sh=>match ad_ args&&aF_ S.n args with
      |true=>.call g args S.n sh (k ⟨u S.T (de_ S.n sh),S.H,Nat.add S.n (cL_ sh),S.lv,S.D⟩)
      |false=>.bad
     |none=>.bad
   |_=>.bad
  |none=>match lk_ x.o S.T with
   |some (i,_,_)=>.ite i (pi_ P x Hx u (S.know i true) k) (pi_ P x Hx u (S.know i false) k)
   |none=>match jR_ (ar_ S.T x.rd topq) Hx x.o with
    |some (op,args)=>match aF_ S.n args with
     |true=>.lt op args S.n none (k ⟨u S.T (.sym S.n),S.H,Nat.succ S.n,S.lv,S.D⟩)
     |false=>.bad
    |none=>match c9_ (ar_ S.T x.rd topq) x.o with
     |some (op,args)=>match ad_ args&&aF_ S.n args with
      |true=>match ms_ P op with
        |none=>.lt op args S.n none (k ⟨u S.T (.sym S.n),S.H,Nat.succ S.n,S.lv,S.D⟩)
        |some m=>.lt op args S.n (some m) (k ⟨u S.T (.agg (ah_ S.n m)),S.H,Nat.add S.n m,S.lv,S.D⟩)
      |false=>.bad
     |none=>.bad
def jF_ (P:Program) (x:SI) (nx:Nat):Option (AV×ABlk):=match x.o.op with
 | .alloc t=>match e1_ P ⟨hnil,nx,Nat.succ nx⟩ t with
   |some p=>match p.2.get nx with
    |some k=>some (p.1,k)
    |none=>none
   |none=>none
 |_=>none
def h9_ (P:Program):List SI->AHeap->Option AHeap
 |[],H=>some H
 |x::r,H=>match bV_ x with
  |false=>h9_ P r H
  |true=>match H.get H.next with
   |some _=>none
   |none=>match H.room with
    |false=>none
    |true=>match jF_ P x H.next with
     |some p=>h9_ P r (H.push p.2)
     |none=>none
def jE_ (bef:Nat) (ids:List Nat):List SI->Nat->Nat->Bool
 |[],_,_=>true
 |y::r,i,nx=>match bV_ y with
  |false=>jE_ bef ids r (Nat.succ i) nx
  |true=>(bit bef i||not (memT nx ids))&&jE_ bef ids r (Nat.succ i) (Nat.succ nx)
def jD_ (bef:Nat):List SI->Nat->Bool
 |[],_=>true
 |y::r,i=>match bV_ y with
  |false=>jD_ bef r (Nat.succ i)
  |true=>bit bef i&&jD_ bef r (Nat.succ i)
def jG_ (l0:List SI):List SI->Bool
 |[]=>true
 |x::r=>match isW x with
  |false=>jG_ l0 r
  |true=>jD_ x.bef l0 0&&jG_ l0 r
def eG_ (x:SI) (nx:Nat):Nat:=match bV_ x with
 |true=>Nat.succ nx
 |false=>nx
def qb_ (P:Program) (c:VC) (all:List Oper) (l0:List SI) (n0 nx:Nat) (x:SI) (gs:List GW) (ps:List (Nat×List Nat)) (u:Tm->AV->Tm) (next:VS->VT) (S:VS):VT:=match aK_ all x (ar_ S.T x.rd topq)with
 |some t=>match t with
  |false=>next ⟨u S.T (.tup []),S.H,S.n,S.lv,S.D⟩
  |true=>match bV_ x with
   |true=>match jF_ P x nx with
    |some p=>next ⟨u S.T p.1,S.H,S.n,S.lv,S.D⟩
    |none=>.bad
   |false=>match isW x with
    |true=>match st_ x.bef (b1_ x (ar_ S.T x.rd topq)) ps with
     |true=>vDW P c x u S next
     |false=>.bad
    |false=>match rb_ x.bef (fo_ x S.T) gs&&jE_ x.bef (fo_ x S.T) l0 0 n0 with
     |true=>match x.fz with
      |true=>uu_ P x u S next
      |false=>rI_ P c x (gH_ x S gs) u S next
     |false=>.bad
 |none=>.bad
def gG_ (x:SI) (i:Nat) (S:VS) (gs:List GW):List GW:=match isW x with
 |true=>⟨i,S.H,b1_ x (ar_ S.T x.rd topq)⟩::gs
 |false=>gs
def gY_ (x:SI) (i:Nat) (S:VS) (ps:List (Nat×List Nat)):List (Nat×List Nat):=match isW x with
 |true=>ps
 |false=>(i,fo_ x S.T)::ps
def jh_ (P:Program) (N:Nat) (c:VC) (all:List Oper) (l0:List SI) (n0:Nat):List SI->Nat->Nat->List GW->List (Nat×List Nat)->VS->(VS->VT)->VT
 |[],_,_,_,_,S,K=>K S
 |x::r,i,nx,gs,ps,S,K=>match b5_ N x.o.dst with
  | .bad=>.bad
  | .mk u=>match mk_ all x.o S.T with
    |some k=>.ite k (qb_ P c all l0 n0 nx x gs ps u (λS'=>jh_ P N c all l0 n0 r (Nat.succ i) (eG_ x nx) (gG_ x i (S.know k true) gs) (gY_ x i (S.know k true) ps) S' K) (S.know k true)) (qb_ P c all l0 n0 nx x gs ps u (λS'=>jh_ P N c all l0 n0 r (Nat.succ i) (eG_ x nx) (gG_ x i (S.know k false) gs) (gY_ x i (S.know k false) ps) S' K) (S.know k false))
    |none=>qb_ P c all l0 n0 nx x gs ps u (λS'=>jh_ P N c all l0 n0 r (Nat.succ i) (eG_ x nx) (gG_ x i S gs) (gY_ x i S ps) S' K) S
def nb_ (P:Program) (N fuel:Nat) (I:Inl P fuel) (c:VC) (ops:List Oper) (S:VS) (X:VX->VT) (K:VS->VT):VT:=match nX_ ops with
 | .mk l _=>match ck_ l 0 with
   |b=>match lh_ (dq_ b l) 0&&jG_ (dq_ b l) (dq_ b l)with
    |true=>match h9_ P (dq_ b l) S.H with
     |some H=>jh_ P N c ops (dq_ b l) S.H.next (dq_ b l) 0 S.H.next [] [] ⟨S.T,H,S.n,S.lv,S.D⟩ λS=>lC_ P N fuel I c ops X (jV_ b ops) S K
     |none=>.bad
    |false=>.bad
 | .no=>.bad
def isF (c:VC) (o:Oper):Bool:=match o.op with
 | .call cl=>match cl.callee with
   | .value f=>match f with
     | .func g=>match ts_ c.fs g with
       |some _=>true
       |none=>false
     |_=>false
   |_=>false
 |_=>false
def ug_ (c:VC):List Oper->Bool
 |[]=>false
 |o::r=>match isF c o with
  |true=>true
  |false=>ug_ c r
def ln_ (m:Nat):List Edge->Bool
 |[]=>true
 |e::r=>match dt_ e with
  |true=>bit m e.on&&ln_ m r
  |false=>ln_ m r
structure I_q where
 i:Nat
 o:Oper
def i0_ (m:Nat):List Oper->Nat->List I_q
 |[],_=>[]
 |o::r,i=>match not (bit m i)&&ln_ m o.after.toList with
  |true=>⟨i,o⟩::i0_ m r (Nat.succ i)
  |false=>i0_ m r (Nat.succ i)
def mU_ (m i:Nat):Nat:=Nat.lor m (Nat.pow 2 i)
def sa_ (i:Nat):List Edge->Bool
 |[]=>false
 |e::r=>match dt_ e&&Nat.beq e.on i with
  |true=>true
  |false=>sa_ i r
def apartB (all:List Oper) (x y:Oper):Bool:=(match x.dst with
    |some d=>not (memT d (cU_ all y))&&(match y.dst with
     |some e=>not (Nat.beq d e)
     |none=>true)
    |none=>true)&&(match y.dst with
    |some e=>not (memT e (cU_ all x))
    |none=>true)
def md_ (all:List Oper) (m i:Nat) (x:Oper):List Oper->Nat->Bool
 |[],_=>true
 |y::r,j=>(Nat.beq j i||(bit m j||(sa_ i y.after.toList||apartB all x y)))&&md_ all m i x r (Nat.succ j)
def mD_:List Oper->Bool
 |[]=>true
 |o::r=>match o.op with
  | .select _ _=>false
  |_=>mD_ r
def oS_ (P:Program) (T:Tm) (o:Oper):Option AV:=match o.guard with
 |some _=>none
 |none=>match o.op with
  | .move x=>some (look T x)
  | .nilCheck x=>match look T x with
    | .ptr id off=>some (.ptr id off)
    |_=>none
  | .fieldAddr s x f=>match look T x with
    | .ptr id off=>bX_ P s (.ptr id off) f
    |_=>none
  | .extract x i=>match look T x with
    | .tup cs=>nS_ i cs
    |_=>none
  |_=>none
structure MV where
 x:I_q
 a:AV
def iX_ (P:Program) (all:List Oper) (m:Nat) (T:Tm):List I_q->Option MV
 |[]=>none
 |x::r=>match oS_ P T x.o with
  |some a=>match md_ all m x.i x.o all 0 with
   |true=>some ⟨x,a⟩
   |false=>iX_ P all m T r
  |none=>iX_ P all m T r
def px_:List (Nat×AV)->List (Nat×AV)->Bool
 |[],[]=>true
 |(i,a)::r,(j,b)::s=>Nat.beq i j&&(bF_ a b&&px_ r s)
 |_,_=>false
def py_:List (Nat×List AV)->List (Nat×List AV)->Bool
 |[],[]=>true
 |(i,a)::r,(j,b)::s=>Nat.beq i j&&(dA_ a b&&py_ r s)
 |_,_=>false
def ns_:Option Nat->Option Nat->Bool
 |none,none=>true
 |some a,some b=>Nat.beq a b
 |_,_=>false
def pw_:List (Option Nat)->List (Option Nat)->Bool
 |[],[]=>true
 |a::r,b::s=>ns_ a b&&pw_ r s
 |_,_=>false
def nr_:List (Nat×Nat)->List (Nat×Nat)->Bool
 |[],[]=>true
 |(i,a)::r,(j,b)::s=>Nat.beq i j&&(Nat.beq a b&&nr_ r s)
 |_,_=>false
def jY_:List TA->List TA->Bool
 |[],[]=>true
 |⟨a,b,c,d,e⟩::r,⟨a',b',c',d',e'⟩::s=>Nat.beq a a'&&(Nat.beq b b'&&(Nat.beq c c'&&(Nat.beq d d'&&(ns_ e e'&&jY_ r s))))
 |_,_=>false
def oz_:Tpl->Tpl->Bool
 |⟨a,b,c,d,e,f,g⟩,⟨a',b',c',d',e',f',g'⟩=>px_ a a'&&(py_ b b'&&(Nat.beq c c'&&(Nat.beq d d'&&(jY_ e e'&&(nr_ f f'&&nr_ g g')))))
def pv_:List (Bool×Tpl)->List (Bool×Tpl)->Bool
 |[],[]=>true
 |(i,a)::r,(j,b)::s=>i==j&&(oz_ a b&&pv_ r s)
 |_,_=>false
def tp_:FT->FT->Bool
 |⟨a,b,c⟩,⟨a',b',c'⟩=>Nat.beq a a'&&(oz_ b b'&&pv_ c c')
def tq_:XOp->XOp->Bool
 | .bin o t a b,.bin o' t' a' b'=>decide (o=o')&&(Nat.beq t t'&&(a==a'&&b==b'))
 | .un o,.un o'=>decide (o=o')
 | .conv a b,.conv a' b'=>Nat.beq a a'&&Nat.beq b b'
 | .idx a,.idx a'=>Nat.beq a a'
 | .iaddr a,.iaddr a'=>Nat.beq a a'
 | .faddr a b,.faddr a' b'=>Nat.beq a a'&&Nat.beq b b'
 | .load a,.load a'=>Nat.beq a a'
 | .fld a b,.fld a' b'=>Nat.beq a a'&&Nat.beq b b'
 | .slc t a b,.slc t' a' b'=>Nat.beq t t'&&(a==a'&&b==b')
 | .len a,.len a'=>Nat.beq a a'
 | .nilc,.nilc=>true
 | .app a b,.app a' b'=>Nat.beq a a'&&Nat.beq b b'
 | .mm a,.mm a'=>a==a'
 | .ext a,.ext a'=>Nat.beq a a'
 | .inb,.inb=>true
 | .ldx a b c,.ldx a' b' c'=>Nat.beq a a'&&(Nat.beq b b'&&Nat.beq c c')
 | .stx a b c,.stx a' b' c'=>Nat.beq a a'&&(Nat.beq b b'&&Nat.beq c c')
 | .tkx,.tkx=>true
 | .emp,.emp=>true
 | .mkx a b c,.mkx a' b' c'=>Nat.beq a a'&&(Nat.beq b b'&&dA_ c c')
 | .skx,.skx=>true
 | .flat a b c d,.flat a' b' c' d'=>Nat.beq a a'&&(Nat.beq b b'&&(Nat.beq c c'&&Nat.beq d d'))
 | .opn a b,.opn a' b'=>Nat.beq a a'&&Nat.beq b b'
 |_,_=>false
def qD_:Chk->Chk->Bool
 | .same i j,.same i' j'=>Nat.beq i i'&&Nat.beq j j'
 | .nn i,.nn i'=>Nat.beq i i'
 | .pos i,.pos i'=>Nat.beq i i'
 |_,_=>false
mutual
def dE_:VT->VT->Bool
 | .done v,.done w=>bF_ v w
 | .ite i a b,.ite i' a' b'=>Nat.beq i i'&&(dE_ a a'&&dE_ b b')
 | .lt o l n m t,.lt o' l' n' m' t'=>tq_ o o'&&(dA_ l l'&&(Nat.beq n n'&&(ns_ m m'&&dE_ t t')))
 | .call f l n sh t,.call f' l' n' sh' t'=>Nat.beq f f'&&(dA_ l l'&&(Nat.beq n n'&&(pw_ sh sh'&&dE_ t t')))
 | .loop n j hv bs,.loop n' j' hv' bs'=>Nat.beq n n'&&(Nat.beq j j'&&(dA_ hv hv'&&jZ_ bs bs'))
 | .again l j hv,.again l' j' hv'=>Nat.beq l l'&&(Nat.beq j j'&&dA_ hv hv')
 | .chk c t,.chk c' t'=>qD_ c c'&&dE_ t t'
 | .callF f ft hv n bs,.callF f' ft' hv' n' bs'=>Nat.beq f f'&&(tp_ ft ft'&&(dA_ hv hv'&&(Nat.beq n n'&&jZ_ bs bs')))
 | .both a b,.both a' b'=>dE_ a a'&&dE_ b b'
 |_,_=>false
def jZ_:VTs->VTs->Bool
 | .nil,.nil=>true
 | .cons n t r,.cons n' t' r'=>Nat.beq n n'&&(dE_ t t'&&jZ_ r r')
 |_,_=>false
end
def nP_ (a b:VT):VT:=match dE_ a b with
 |true=>a
 |false=>.both a b
def om_ (f:I_q->VT) (x:I_q):List I_q->VT
 |[]=>f x
 |y::r=>nP_ (f x) (om_ f y r)
def m7_ (P:Program) (N fuel:Nat) (I:Inl P fuel) (c:VC) (all:List Oper) (X:VX->VT) (K:VS->VT):Nat->Nat->VS->VT
 |0,_,_=>.bad
 |n+1,m,S=>match i0_ m all 0 with
  |[]=>K S
  |x::r=>match iX_ P all m S.T (x::r)with
   |some q=>match b5_ N q.x.o.dst with
    | .mk u=>m7_ P N fuel I c all X K n (mU_ m q.x.i) ⟨u S.T q.a,S.H,S.n,S.lv,S.D⟩
    | .bad=>.bad
   |none=>om_ (λx=>lC_ P N fuel I c all X [x.o] S λS'=>m7_ P N fuel I c all X K n (mU_ m x.i) S') x r
def fj_:List Oper->Tm->Tm
 |[],T=>T
 |o::r,T=>match o.dst with
  |some d=>fj_ r (dx_ T d .opq)
  |none=>fj_ r T
def fP_ (ops:List Oper) (X:VX->VT) (r:VX):VT:=match r with
 | .pan v S=>X (.pan v ⟨fj_ ops S.T,S.H,S.n,S.lv,S.D⟩)
 | .exit i S=>X (.exit i S)
 | .ret S=>X (.ret S)
def qC_ (N:Nat):List Oper->Bool
 |[]=>true
 |o::r=>(match o.dst with
  |some d=>Nat.blt d N
  |none=>true)&&qC_ N r
def sV_ (c:VC):Nat->List SI->Bool
 |0,_=>false
 |_+1,[]=>false
 |n+1,x::r=>match isF c x.o with
  |true=>true
  |false=>sV_ c n r
def uS_ (c:VC) (ops:List Oper):Bool:=match nX_ ops with
 | .mk l _=>sV_ c (ck_ l 0) l
 | .no=>true
def ph_ (P:Program) (N fuel:Nat) (I:Inl P fuel) (c:VC) (ops:List Oper) (S:VS) (X:VX->VT) (K:VS->VT):VT:=match mD_ ops&&(qC_ N ops&&Nat.ble N 512)with
 |true=>m7_ P N fuel I c ops (fP_ ops X) K (Nat.succ (lenOp ops)) 0 S
 |false=>.bad
where
 lenOp:List Oper->Nat
 |[]=>0
 |_::r=>Nat.succ (lenOp r)
def uW_ (ops:List Oper):Bool:=match nX_ ops with
 | .mk l _=>match ck_ l 0 with
   |b=>lh_ (dq_ b l) 0&&jG_ (dq_ b l) (dq_ b l)
 | .no=>true
def p8_ (T:Tm):List Oper->Nat->AV
 |[],_=>.opq
 |o::r,t=>match o.op with
  | .move x=>match o.dst with
    |some d=>match Nat.beq d t with
     |true=>look T x
     |false=>p8_ T r t
    |none=>p8_ T r t
  |_=>p8_ T r t
def up_ (own:Bool) (T:Tm) (all:List Oper) (x i:Operand):List AV:=match x with
 | .tmp b=>match p8_ T all b with
   | .slx id z k=>match own with
     |true=>[]
     |false=>[.slx id z k]
   | .sl id off len z cap=>match i with
     | .tmp j=>match p8_ T all j with
       | .sym _=>[.sl id off len z cap]
       |_=>[]
     |_=>[]
   |_=>[]
 |_=>[]
def o8_ (T:Tm) (all:List Oper):List (Nat×Operand)->List AV
 |[]=>[]
 |(_,x)::r=>match x with
  | .tmp t=>match p8_ T all t with
    | .slx id z k=>.slx id z k::o8_ T all r
    |_=>o8_ T all r
  |_=>o8_ T all r
def i4_ (own:Bool) (T:Tm) (all:List Oper):List Oper->List AV
 |[]=>[]
 |o::r=>match o.op with
  | .indexAddr _ x i=>jo_ (up_ own T all x i) (i4_ own T all r)
  | .buildSlice _ _ ps=>match own with
    |true=>i4_ own T all r
    |false=>jo_ (o8_ T all ps.toList) (i4_ own T all r)
  |_=>i4_ own T all r
def jw_ (own:Bool) (l:List Oper) (S:VS):VS:=match i4_ own S.T l l with
 |[]=>S
 |a=>dy_ S a
def pl_ (b:VS->(VS->VT)->VT):Nat->VS->VT
 |0,_=>.bad
 |n+1,S=>b S λS'=>pl_ b n S'
def oe_ (n k lvl:Nat) (tps:List Tpl) (S:VS):VT:=match dL_ n k tps 0 S with
 |some r=>i8_ r.l (qu_ r.m.nn (.again lvl r.j r.m.hv))
 |none=>.bad
def ly_ (b:VS->(VS->VT)->VT) (n k lvl:Nat) (tps:List Tpl):List Tpl->VTs
 |[]=>.nil
 |tp::r=>.cons tp.nv (b (tp.inst n (Nat.succ lvl)) (oe_ n k lvl tps)) (ly_ b n k lvl tps r)
def tW_ (k:Nat) (b:VS->(VS->VT)->VT) (tps:List Tpl) (S:VS):VT:=match dL_ S.n k tps 0 S with
 |some r=>i8_ r.l (qu_ r.m.nn (.loop S.n r.j r.m.hv (ly_ b S.n k S.lv tps tps)))
 |none=>.bad
def tQ_ (id:Nat) (K:VS->VT) (X:VX->VT) (r:VX):VT:=match r with
 | .exit id' S=>match Nat.beq id' id with
   |true=>K S
   |false=>X r
 | .ret _=>X r
 | .pan _ _=>X r
mutual
def mG_ (id sz i len:Nat):AV->AV
 | .slx id' z j=>match Nat.beq id id'&&(Nat.beq sz z&&Nat.beq i j)with
   |true=>.sl id 0 len sz none
   |false=>.slx id' z j
 | .agg cs=>.agg (hG_ id sz i len cs)
 | .tup cs=>.tup (hG_ id sz i len cs)
 |a=>a
def hG_ (id sz i len:Nat):List AV->List AV
 |[]=>[]
 |a::r=>mG_ id sz i len a::hG_ id sz i len r
end
def p0_ (id sz i len:Nat) (H:AHeap):List Nat->AHeap
 |[]=>H
 |q::r=>match (p0_ id sz i len H r).get q with
  |some (.cells cs)=>(p0_ id sz i len H r).set q (.cells (hG_ id sz i len cs))
  |_=>p0_ id sz i len H r
def jm_ (t:TA) (i:Nat) (S:VS):VS:=⟨a9_ (mG_ t.id t.sz i t.j) S.T,p0_ t.id t.sz i t.j (S.H.set t.id (.cells (ah_ S.n (Nat.mul t.j t.sz)))) [0,1,2,3],Nat.add S.n (Nat.mul t.j t.sz),S.lv,S.D⟩
def ne_:List TA->VS->(VS->VT)->VT
 |[],S,k=>k S
 |t::r,S,k=>match S.H.get t.id with
  |some (.syl i)=>.lt (.opn t.j t.sz) [.sym i] S.n (some (Nat.mul t.j t.sz)) (ne_ r (jm_ t i S) k)
  |_=>ne_ r S k
def mg_ (t o:Nat) (S:VS):VS:=match tget S.T t with
 | .ptr id b=>match S.H.get id with
   |some (.cells cs)=>match nS_ (Nat.add b o) cs with
    |some a=>th_ S [a] id
    |none=>S
   |_=>S
 |a=>dy_ S [a]
def mi_ (S:VS):List (Nat×Nat)->VS
 |[]=>S
 |(t,o)::r=>mi_ (mg_ t o S) r
def tU_ (c:VC) (rid:Nat) (ops:List Oper) (S:VS) (k:VS->VT):VT:=match ops with
 |[]=>k S
 |_::_=>match k7_ c.hs (Nat.add 10000 rid)with
  |some (tp::_)=>ne_ tp.acc (mi_ S tp.fix) k
  |_=>k S
def rS_ (P:Program) (N fuel:Nat) (I:Inl P fuel) (c:VC) (ops:Array Oper) (draw:Bool) (S:VS) (K:VS->VT) (X:VX->VT):VT:=match draw with
 |false=>lC_ P N fuel I c ops.toList X ops.toList S K
 |true=>match jU_ P (a6_ P fuel) N ops.toList S.T S.H S.D with
  |some r=>match r with
   | .norm T H D=>K ⟨T,H,S.n,S.lv,D⟩
   |_=>.bad
  |none=>match ug_ c ops.toList with
   |false=>match uW_ ops.toList with
    |true=>nb_ P N fuel I c ops.toList (jw_ c.own ops.toList S) X K
    |false=>ph_ P N fuel I c ops.toList S X K
   |true=>match uS_ c ops.toList with
    |true=>ph_ P N fuel I c ops.toList S X K
    |false=>nb_ P N fuel I c ops.toList (jw_ c.own ops.toList S) X K
def br_ (P:Program) (N fuel:Nat) (I:Inl P fuel) (c:VC):Nat->Code->VS->(VS->VT)->(VX->VT)->VT
 |_,.skip,S,K,X=>K S
 |_,.label _,S,K,X=>K S
 |_,.region rid ops draw,S,K,X=>tU_ c rid ops.toList S λS=>rS_ P N fuel I c ops draw S K X
 |bid,.seq a b,S,K,X=>br_ P N fuel I c bid a S (λS=>br_ P N fuel I c bid b S K X) X
 |bid,.cond cd a b,S,K,X=>match look S.T cd with
  | .bool t=>match t with
    |true=>br_ P N fuel I c bid a S K X
    |false=>br_ P N fuel I c bid b S K X
  |_=>match je_ S.T cd with
   |some i=>.ite i (br_ P N fuel I c bid a (S.know i true) K X) (br_ P N fuel I c bid b (S.know i false) K X)
   |none=>.bad
 |_,.block id b,S,K,X=>br_ P N fuel I c id b S K (tQ_ id K X)
 |bid,.loop b,S,K,X=>match k7_ c.hs bid with
  |some tps=>tW_ c.k (λS K=>br_ P N fuel I c bid b S K X) tps S
  |none=>pl_ (λS K=>br_ P N fuel I c bid b S K X) fuel S
 |_,.exit id,S,K,X=>X (.exit id S)
 |_,.ret,S,K,X=>X (.ret S)
 |_,_,_,_,_=>.bad
def rK_ (Q:Option (AV×AHeap)):VT:=match Q with
 |some (a,H)=>match eM_ 100 H a with
  |some v=>match ae_ v with
   |true=>.done v
   |false=>.bad
  |none=>.bad
 |none=>.bad
def nB_:List Oper->Bool
 |[]=>false
 |o::r=>match o.op with
  | .call c=>match c.callee with
    | .builtin .recover=>true
    |_=>nB_ r
  |_=>nB_ r
def uV_ (u:Option AV) (ops:List Oper):Bool:=match u with
 |some _=>true
 |none=>nB_ ops
def bb_ (P:Program) (N fuel:Nat) (I:Inl P fuel) (c:VC):Code->VS->Option AV->(VS->Option AV->VT)->(VS->Option AV->VT)->VT
 | .skip,S,u,K,R=>K S u
 | .region rid ops draw,S,u,K,R=>match uV_ u ops.toList with
   |true=>match draw with
    |true=>.bad
    |false=>match jz_ P (a6_ P fuel) N ops.toList ops.toList S.T S.H u with
     |some r=>match r with
      | .norm T H u'=>K ⟨T,H,S.n,S.lv,[]⟩ u'
      | .ret _ _ _=>.bad
     |none=>.bad
   |false=>rS_ P N fuel I c ops draw S (λS=>match S.D with
    |[]=>K S none
    |_::_=>.bad) (λ_=>.bad)
 | .seq a b,S,u,K,R=>bb_ P N fuel I c a S u (λS u=>bb_ P N fuel I c b S u K R) R
 | .cond cd a b,S,u,K,R=>match look S.T cd with
   | .bool t=>match t with
     |true=>bb_ P N fuel I c a S u K R
     |false=>bb_ P N fuel I c b S u K R
   |_=>match je_ S.T cd with
    |some i=>.ite i (bb_ P N fuel I c a (S.know i true) u K R) (bb_ P N fuel I c b (S.know i false) u K R)
    |none=>.bad
 | .block _ b,S,u,K,R=>bb_ P N fuel I c b S u K R
 | .ret,S,u,K,R=>R S u
 |_,_,_,_,_=>.bad
def ed_ (P:Program) (fuel:Nat) (I:Inl P fuel) (c:VC) (rs:List ResultVar) (fin:FRes->Nat->Nat->VT):Dfs->Tm->AHeap->Nat->Nat->Option AV->VT
 |[],T,H,n,lv,u=>match c8_ P (a6_ P fuel) fuel rs T [] H u with
  |some r=>fin r n lv
  |none=>.bad
 |(f,args)::D,T,H,n,lv,u=>match P.funcs[f]? with
  |some fn=>match fn.body with
   |some cd=>match Nat.ble (aY_ args) fn.ntmps&&(Nat.ble fn.ntmps 512&&(mq_ H.next n D&&Nat.ble c.k H.next))with
    |true=>match (λ(S:VS) (u:Option AV)=>match ei_ P S.T S.H fn.results.toList with
       |some _=>ed_ P fuel I c rs fin D (a9_ (bG_ H.next n) T) S.H S.n S.lv u
       |none=>.bad)with
     |K=>bb_ P fn.ntmps fuel I ⟨c.fc,c.cs,[],H.next,c.own,c.fs⟩ cd ⟨aX_ args 0 tnil,H,n,lv,[]⟩ u K K
    |false=>.bad
   |none=>.bad
  |none=>.bad
def jj_ (P:Program) (fuel:Nat) (I:Inl P fuel) (c:VC) (rs:List ResultVar) (fin:FRes->Nat->Nat->VT) (u:Option AV) (S:VS):VT:=match c8_ P (a6_ P fuel) fuel rs S.T S.D S.H u with
 |some r=>fin r S.n S.lv
 |none=>ed_ P fuel I c rs fin S.D S.T S.H S.n S.lv u
def rJ_ (r:FRes) (_ _:Nat):VT:=match r with
 | .ret a H=>rK_ (some (a,H))
 | .pan _ _=>.bad
def pj_ (P:Program) (fuel:Nat) (I:Inl P fuel) (c:VC) (rs:List ResultVar) (u:Option AV) (S:VS):VT:=jj_ P fuel I c rs rJ_ u S
def u6_ (P:Program) (fuel:Nat) (I:Inl P fuel) (c:VC) (rs:List ResultVar) (r:VX):VT:=match r with
 | .ret S=>pj_ P fuel I c rs none S
 | .pan v S=>pj_ P fuel I c rs (some v) S
 | .exit _ _=>.bad
def qc_ (n k:Nat) (b:Bool) (S:VS):List (Bool×Tpl)->Nat->VT
 |[],_=>.bad
 |(b',tp)::r,j=>match b==b' with
  |false=>qc_ n k b S r (Nat.succ j)
  |true=>match cH_ tp S with
   |f=>match gQ_ n k tp f.S with
    |some m=>i8_ f.l (qu_ m.nn (.done (.tup (.int .i64 (.ofNat j)::m.hv))))
    |none=>qc_ n k b S r (Nat.succ j)
def sM_ (ft:FT) (r:FRes) (n lv:Nat):VT:=match r with
 | .ret a H=>qc_ (Nat.add 64 ft.ent.nv) ft.k false ⟨dx_ topq 0 a,H,n,lv,[]⟩ ft.exs 0
 | .pan a H=>qc_ (Nat.add 64 ft.ent.nv) ft.k true ⟨dx_ topq 0 a,H,n,lv,[]⟩ ft.exs 0
def lB_ (P:Program) (fuel:Nat) (I:Inl P fuel) (c:VC) (rs:List ResultVar) (ft:FT) (u:Option AV) (S:VS):VT:=jj_ P fuel I c rs (sM_ ft) u S
def uy_ (P:Program) (fuel:Nat) (I:Inl P fuel) (c:VC) (rs:List ResultVar) (ft:FT) (r:VX):VT:=match r with
 | .ret S=>lB_ P fuel I c rs ft none S
 | .pan v S=>lB_ P fuel I c rs ft (some v) S
 | .exit _ _=>.bad
def rN_ (P:Program) (fuel:Nat) (I:Inl P fuel) (c:VC) (f:FuncId) (ft:FT):VT:=match P.funcs[f]? with
 |some fn=>match fn.body with
  |some cd=>match Nat.ble (aY_ (cA_ ft.ent.slots)) fn.ntmps&&(Nat.ble fn.ntmps 512&&Nat.beq c.k ft.k)with
   |true=>br_ P fn.ntmps fuel I c 0 cd ⟨aX_ (bw_ 64 (cA_ ft.ent.slots)) 0 tnil,ft.ent.heap 64,Nat.add 64 ft.ent.nv,0,[]⟩ (lB_ P fuel I c fn.results.toList ft none) (uy_ P fuel I c fn.results.toList ft)
   |false=>.bad
  |none=>.bad
 |none=>.bad
def tR_ (P:Program) (fuel:Nat) (I:Inl P fuel) (c:VC) (f:FuncId) (args:List AV) (n:Nat):VT:=match P.funcs[f]? with
 |some fn=>match fn.body with
  |some cd=>match Nat.ble (aY_ args) fn.ntmps&&Nat.ble fn.ntmps 512 with
   |true=>br_ P fn.ntmps fuel I c 0 cd ⟨aX_ args 0 tnil,H0,n,0,[]⟩ (pj_ P fuel I c fn.results.toList none) (u6_ P fuel I c fn.results.toList)
   |false=>.bad
  |none=>.bad
 |none=>.bad
def uw_ (ret pan:AV->AHeap->Nat->Nat->VT) (r:FRes) (n lv:Nat):VT:=match r with
 | .ret a H=>ret a H n lv
 | .pan a H=>pan a H n lv
def pk_ (P:Program) (fuel:Nat) (I:Inl P fuel) (c:VC) (rs:List ResultVar) (ret pan:AV->AHeap->Nat->Nat->VT) (u:Option AV) (S:VS):VT:=jj_ P fuel I c rs (uw_ ret pan) u S
def ux_ (P:Program) (fuel:Nat) (I:Inl P fuel) (c:VC) (rs:List ResultVar) (ret pan:AV->AHeap->Nat->Nat->VT) (r:VX):VT:=match r with
 | .exit _ _=>.bad
 | .ret S=>pk_ P fuel I c rs ret pan none S
 | .pan v S=>pk_ P fuel I c rs ret pan (some v) S
def tS_ (P:Program) (fuel:Nat) (I:Inl P fuel) (c:VC) (g:FuncId) (args:List AV) (H:AHeap) (n lv:Nat) (ret pan:AV->AHeap->Nat->Nat->VT):VT:=match P.funcs[g]? with
 |some fn=>match fn.body with
  |some cd=>match Nat.ble (aY_ args) fn.ntmps&&Nat.ble fn.ntmps 512 with
   |true=>br_ P fn.ntmps fuel I ⟨c.fc,c.cs,[],H.next,c.own,c.fs⟩ 0 cd ⟨aX_ args 0 tnil,H,n,lv,[]⟩ (pk_ P fuel I ⟨c.fc,c.cs,[],H.next,c.own,c.fs⟩ fn.results.toList ret pan none) (ux_ P fuel I ⟨c.fc,c.cs,[],H.next,c.own,c.fs⟩ fn.results.toList ret pan)
   |false=>.bad
  |none=>.bad
 |none=>.bad
end
end Go.Sx
