/-
  The evaluator with symbols, with loops by templates and calls by what is known of them.
-/
import Derived.Test.YtjconanknjgpnaaGreatSyX
set_option linter.unusedVariables false
set_option linter.unusedSimpArgs false
namespace Go.Sx
structure TA where
 id:Nat
 sz:Nat
 j:Nat
 loc:Nat
 off:Option Nat
structure Tpl where
 slots:List (Nat×AV)
 rows:List (Nat×List AV)
 next:Nat
 nv:Nat
 acc:List TA:=[]
 maps:List (Nat×Nat):=[]
 fix:List (Nat×Nat):=[]
abbrev Hints:=List (Nat×List Tpl)
structure FT where
 k:Nat
 ent:Tpl
 exs:List (Bool×Tpl)
inductive Chk where
 |same (i j:Nat)
 |nn (i:Nat)
 |pos (i:Nat)
mutual
inductive VT where
 |bad
 |done (v:AV)
 |ite (i:Nat) (a b:VT)
 |lt (op:XOp) (args:List AV) (n:Nat) (m:Option Nat) (t:VT)
 |call (f:FuncId) (args:List AV) (n:Nat) (sh:List (Option Nat)) (t:VT)
 |loop (n j:Nat) (hv:List AV) (bs:VTs)
 |again (lvl j:Nat) (hv:List AV)
 |chk (c:Chk) (t:VT)
 |callF (f:FuncId) (ft:FT) (hv:List AV) (n:Nat) (bs:VTs)
 |both (a b:VT)
inductive VTs where
 |nil
 |cons (nv:Nat) (t:VT) (r:VTs)
end
def flat:List (Option Nat)->List AV->Option (List AV)
 |[],[]=>some []
 |none::s,a::r=>match flat s r with
  |some l=>some (a::l)
  |none=>none
 |some m::s,.agg cs::r=>match decide (cs.length=m)with
  |true=>match flat s r with
   |some l=>some (cs++l)
   |none=>none
  |false=>none
 |_,_=>none
def flatV (sh:List (Option Nat)) (v:AV):Option (List AV):=match sh with
 |[s]=>flat [s] [v]
 |sh=>match v with
  | .tup l=>flat sh l
  |_=>none
def shapes:Nat->List (Option Nat)->List AV
 |_,[]=>[]
 |n,none::s=>.sym n::shapes (Nat.succ n) s
 |n,some m::s=>.agg (symsFrom n m)::shapes (Nat.add n m) s
def shapeV (n:Nat) (sh:List (Option Nat)):AV:=match sh with
 |[s]=>match shapes n [s]with
  |a::_=>a
  |[]=>.tup []
 |sh=>.tup (shapes n sh)
def shLen:List (Option Nat)->Nat
 |[]=>0
 |none::s=>Nat.succ (shLen s)
 |some m::s=>Nat.add m (shLen s)
mutual
def instA (n:Nat):AV->AV
 | .slx j z i=>match z with
   |0=>.sym (Nat.add n j)
   |z+1=>.slx j (z+1) (Nat.add n i)
 | .ptx id j sz _=>.slx id sz j
 | .vptr cs=>.vptr (instL n cs)
 | .vsl a z cs=>.vsl a z (instL n cs)
 | .fn f cs=>.fn f (instL n cs)
 | .iface t a=>.iface t (instA n a)
 | .agg cs=>.agg (instL n cs)
 | .tup cs=>.tup (instL n cs)
 |a=>a
def instL (n:Nat):List AV->List AV
 |[]=>[]
 |a::r=>instA n a::instL n r
end
def instT (n:Nat):List (Nat×AV)->Tm
 |[]=>topq
 |(t,a)::r=>tset (instT n r) t (instA n a)
def instH (n next:Nat):List (Nat×List AV)->AHeap
 |[]=>⟨hnil,next,top⟩
 |(id,cs)::r=>(instH n next r).set id (.cells (instL n cs))
def instS (n:Nat) (H:AHeap):List TA->AHeap
 |[]=>H
 |t::r=>(instS n H r).set t.id (.syl (Nat.add n t.j))
def instM (n:Nat) (H:AHeap):List (Nat×Nat)->AHeap
 |[]=>H
 |(id,j)::r=>(instM n H r).set id (.mpl (Nat.add n j))
def bigF:Nat:=1500
def holeF (i:Nat):Nat:=Nat.div (Nat.sub i bigF) 16
def zF (i:Nat):Nat:=Nat.mod (Nat.sub i bigF) 16
def symF (n i:Nat):Nat:=match Nat.blt i bigF with
 |true=>i
 |false=>Nat.add n (holeF i)
def instF (n:Nat) (H:AHeap):List (Nat×Nat)->AHeap
 |[]=>H
 |(id,i)::r=>(instF n H r).set id (.syl (symF n i))
def idsM:List (Nat×Nat)->List Nat->List Nat
 |[],acc=>acc
 |(id,_)::r,acc=>id::idsM r acc
def mapOf (H:AHeap) (id:Nat):Option AV:=match H.get id with
 |some (.map es _)=>match symOkL (flatE es)with
  |true=>some (.vsl (lenE es) 2 (flatE es))
  |false=>none
 |some (.mpl i)=>some (.sym i)
 |_=>none
def idsOf:List (Nat×List AV)->List Nat
 |[]=>[]
 |(id,_)::r=>id::idsOf r
mutual
def colA:AV->AV->List (Nat×AV)->List (Nat×AV)
 | .slx j z _,a,acc=>match z with
   |0=>(j,a)::acc
   |_+1=>acc
 | .agg ts,.agg cs,acc=>colL ts cs acc
 | .tup ts,.tup cs,acc=>colL ts cs acc
 | .vptr ts,.vptr cs,acc=>colL ts cs acc
 | .vsl _ _ ts,.vsl _ _ cs,acc=>colL ts cs acc
 | .fn _ ts,.fn _ cs,acc=>colL ts cs acc
 | .iface _ t,.iface _ a,acc=>colA t a acc
 |_,_,acc=>acc
def colL:List AV->List AV->List (Nat×AV)->List (Nat×AV)
 |t::ts,a::r,acc=>colA t a (colL ts r acc)
 |_,_,acc=>acc
end
def findH:List (Nat×AV)->Nat->Option AV
 |[],_=>none
 |(i,a)::r,j=>match Nat.beq i j with
  |true=>some a
  |false=>findH r j
def holes (acc:List (Nat×AV)):Nat->Nat->Option (List AV)
 |_,0=>some []
 |j,m+1=>match findH acc j with
  |some a=>match holes acc (Nat.succ j) m with
   |some l=>some (a::l)
   |none=>none
  |none=>none
structure DA where
 id:Nat
 sz:Nat
 j:Nat
 x:AV
 act:Option Nat
def accOf (H:AHeap) (sz:Nat) (a:AV):Option (AV×Option Nat):=match a with
 | .nsl=>some (.nsl,none)
 | .slx id sz' i=>match H.get id with
   |some (.syl k)=>match Nat.beq k i&&Nat.beq sz' sz with
    |true=>some (.sym i,some id)
    |false=>none
   |_=>none
 | .sl id off len sz' _=>match H.get id with
   |some (.cells cs)=>match takeEx (Nat.mul len sz) cs with
    |some cs=>match Nat.beq off 0&&(Nat.beq sz' sz&&(Nat.blt 0 len&&(Nat.beq (lenA cs) (Nat.mul len sz)&&(symOkL cs&&allOne cs))))with
     |true=>some (.vsl len sz cs,some id)
     |false=>none
    |none=>none
   |_=>none
 |_=>none
def nthL:Nat->List AV->Option AV
 |_,[]=>none
 |0,a::_=>some a
 |n+1,_::r=>nthL n r
def findN:List (Nat×Nat)->Nat->Option Nat
 |[],_=>none
 |(a,t)::r,i=>match Nat.beq a i with
  |true=>some t
  |false=>findN r i
def locOf (T:Tm) (H:AHeap) (rn:List (Nat×Nat)) (t:TA):Option AV:=match t.off with
 |none=>some (tget T t.loc)
 |some o=>match findN rn t.loc with
  |some a=>match H.get a with
   |some (.cells cs)=>nthL o cs
   |_=>none
  |none=>match tget T (Nat.sub t.loc 600)with
   | .tup cs=>nthL o cs
   |_=>none
def accL (T:Tm) (H:AHeap) (rn:List (Nat×Nat)):List TA->Option (List DA)
 |[]=>some []
 |t::r=>match locOf T H rn t with
  |some a=>match accOf H t.sz a with
   |some (x,act)=>match accL T H rn r with
    |some l=>some (⟨t.id,t.sz,t.j,x,act⟩::l)
    |none=>none
   |none=>none
  |none=>none
def findA':List DA->Nat->Option DA
 |[],_=>none
 |d::r,id=>match Nat.beq d.id id with
  |true=>some d
  |false=>findA' r id
def optB:Option Nat->Option Nat->Bool
 |none,none=>true
 |some a,some b=>Nat.beq a b
 |_,_=>false
mutual
def mA (H:AHeap) (ds:List DA) (rn:List (Nat×Nat)) (hv:List AV) (n:Nat):AV->AV->Bool
 | .opq,_=>true
 | .sym i,a=>Nat.blt i n&&beqA (.sym i) a
 | .ptr id off,a=>match a with
   | .ptr id' off'=>optB (findN rn id) (some id')&&Nat.beq off off'
   |_=>false
 | .sl id off len sz cap,a=>match a with
   | .sl id' off' len' sz' cap'=>optB (findN rn id) (some id')&&(Nat.beq off off'&&(Nat.beq len len'&&(Nat.beq sz sz'&&(cap.isNone||cap==cap'))))
   |_=>false
 | .agg ts,a=>match a with
   | .agg cs=>mL H ds rn hv n ts cs
   |_=>false
 | .tup ts,a=>match a with
   | .tup cs=>mL H ds rn hv n ts cs
   |_=>false
 | .vptr ts,a=>match a with
   | .vptr cs=>mL H ds rn hv n ts cs
   |_=>false
 | .vsl len sz ts,a=>match a with
   | .vsl len' sz' cs=>Nat.beq len len'&&(Nat.beq sz sz'&&mL H ds rn hv n ts cs)
   |_=>false
 | .fn f ts,a=>match a with
   | .fn g cs=>Nat.beq f g&&mL H ds rn hv n ts cs
   |_=>false
 | .iface t x,a=>match a with
   | .iface u y=>Nat.beq t u&&mA H ds rn hv n x y
   |_=>false
 | .slx j z i,a=>match z with
   |0=>match nthA j hv with
    |some x=>beqA x a
    |none=>false
   |z+1=>match findA' ds j with
    |some d=>match accOf H (Nat.succ z) a with
     |some (x,act)=>Nat.beq d.sz (Nat.succ z)&&(Nat.beq d.j i&&(beqA d.x x&&optB d.act act))
     |none=>false
    |none=>false
 | .ptx id i sz _,a=>match a with
   | .slx id' sz' i'=>optB (findN rn id) (some id')&&(Nat.beq sz sz'&&(Nat.beq i i'&&Nat.blt i n))
   |_=>false
 | .map id,a=>match a with
   | .map id'=>optB (findN rn id) (some id')
   |_=>false
 |t,a=>beqA t a
def mL (H:AHeap) (ds:List DA) (rn:List (Nat×Nat)) (hv:List AV) (n:Nat):List AV->List AV->Bool
 |[],[]=>true
 |t::ts,a::r=>mA H ds rn hv n t a&&mL H ds rn hv n ts r
 |_,_=>false
end
mutual
def symLt (n:Nat):AV->Bool
 | .sym i=>Nat.blt i n
 | .vptr cs=>symLtL n cs
 | .vsl _ _ cs=>symLtL n cs
 | .fn _ cs=>symLtL n cs
 | .iface _ a=>symLt n a
 | .agg cs=>symLtL n cs
 | .tup cs=>symLtL n cs
 |_=>true
def symLtL (n:Nat):List AV->Bool
 |[]=>true
 |a::r=>symLt n a&&symLtL n r
end
structure VS where
 T:Tm
 H:AHeap
 n:Nat
 lv:Nat
 D:Dfs
inductive VX where
 |exit (id:Nat) (S:VS)
 |ret (S:VS)
 |pan (v:AV) (S:VS)
def VS.x (S:VS):XS:=⟨S.T,S.H,S.n⟩
def VS.know (S:VS) (i:Nat) (b:Bool):VS:=⟨mapT (subB i b) S.T,S.H,S.n,S.lv,S.D⟩
def colT (T:Tm):List (Nat×AV)->List (Nat×AV)->List (Nat×AV)
 |[],acc=>acc
 |(t,a)::r,acc=>colA a (tget T t) (colT T r acc)
def colH (H:AHeap) (rn:List (Nat×Nat)):List (Nat×List AV)->List (Nat×AV)->List (Nat×AV)
 |[],acc=>acc
 |(id,cs)::r,acc=>match findN rn id with
  |some a=>match H.get a with
   |some (.cells l)=>colL cs l (colH H rn r acc)
   |_=>acc
  |none=>acc
def accH:List DA->List (Nat×AV)->List (Nat×AV)
 |[],acc=>acc
 |d::r,acc=>(d.j,d.x)::accH r acc
def mT (H:AHeap) (ds:List DA) (rn:List (Nat×Nat)) (hv:List AV) (n:Nat) (T:Tm):List (Nat×AV)->Bool
 |[]=>true
 |(t,a)::r=>Nat.blt t 512&&(mA H ds rn hv n a (tget T t)&&mT H ds rn hv n T r)
def addN (id a:Nat) (rn:List (Nat×Nat)):List (Nat×Nat):=match findN rn id with
 |none=>(id,a)::rn
 |some _=>rn
mutual
def discA:AV->AV->List (Nat×Nat)->List (Nat×Nat)
 | .ptr id _,.ptr id' _,rn=>addN id id' rn
 | .sl id _ _ _ _,.sl id' _ _ _ _,rn=>addN id id' rn
 | .ptx id _ _ _,.slx id' _ _,rn=>addN id id' rn
 | .map id,.map id',rn=>addN id id' rn
 | .agg ts,.agg cs,rn=>discL ts cs rn
 | .tup ts,.tup cs,rn=>discL ts cs rn
 | .iface _ t,.iface _ a,rn=>discA t a rn
 |_,_,rn=>rn
def discL:List AV->List AV->List (Nat×Nat)->List (Nat×Nat)
 |t::ts,a::r,rn=>discL ts r (discA t a rn)
 |_,_,rn=>rn
end
def discT (T:Tm):List (Nat×AV)->List (Nat×Nat)->List (Nat×Nat)
 |[],rn=>rn
 |(t,a)::r,rn=>discT T r (discA a (tget T t) rn)
def discH (H:AHeap):List (Nat×List AV)->List (Nat×Nat)->List (Nat×Nat)
 |[],rn=>rn
 |(id,cs)::r,rn=>match findN rn id with
  |some a=>match H.get a with
   |some (.cells l)=>discH H r (discL cs l rn)
   |_=>discH H r rn
  |none=>match H.get id with
   |some (.cells l)=>discH H r (discL cs l ((id,id)::rn))
   |_=>discH H r rn
def restN:List (Nat×Nat)->List (Nat×Nat)->List (Nat×Nat)
 |[],rn=>rn
 |(id,_)::r,rn=>restN r (addN id id rn)
def keepN (ids:List Nat):List (Nat×Nat)->List (Nat×Nat)
 |[]=>[]
 |(id,a)::r=>match memT id ids with
  |true=>(id,a)::keepN ids r
  |false=>keepN ids r
def Tpl.ids (tp:Tpl):List Nat:=idsM tp.fix (idsM tp.maps (idsOf tp.rows))
def rnOf (tp:Tpl) (T:Tm) (H:AHeap):List (Nat×Nat):=keepN tp.ids (restN tp.fix (restN tp.maps (discH H tp.rows (discT T tp.slots []))))
def invN:List (Nat×Nat)->List (Nat×Nat)->List (Nat×Nat)
 |[],acc=>acc
 |(id,a)::r,acc=>(a,id)::invN r acc
def invD:List DA->List (Nat×Nat)->List (Nat×Nat)
 |[],acc=>acc
 |d::r,acc=>match d.act with
  |some i=>(i,d.id)::invD r acc
  |none=>invD r acc
def mN (ds:List DA) (inv:List (Nat×Nat)) (next:Nat):List (Nat×Nat)->Bool
 |[]=>true
 |(id,a)::r=>Nat.blt id next&&(Nat.blt id top&&(optB (findN inv a) (some id)&&((findA' ds id).isNone&&mN ds inv next r)))
def mH (ds:List DA) (rn:List (Nat×Nat)) (hv:List AV) (n:Nat) (H:AHeap):List (Nat×List AV)->Bool
 |[]=>true
 |(id,cs)::r=>(match findN rn id with
  |some a=>match H.get a with
   |some (.cells l)=>mL H ds rn hv n cs l
   |_=>false
  |none=>false)&&mH ds rn hv n H r
def mD (inv:List (Nat×Nat)) (hv:List AV) (next:Nat):List DA->Bool
 |[]=>true
 |d::r=>Nat.blt d.id next&&(Nat.blt d.id top&&((match nthA d.j hv with
  |some y=>beqA y d.x
  |none=>false)&&((match d.act with
  |some i=>optB (findN inv i) (some d.id)
  |none=>true)&&mD inv hv next r)))
def mapL (H:AHeap) (rn:List (Nat×Nat)):List (Nat×Nat)->List (Nat×AV)->Option (List (Nat×AV))
 |[],acc=>some acc
 |(id,j)::r,acc=>match findN rn id with
  |some a=>match mapOf H a with
   |some x=>match mapL H rn r acc with
    |some l=>some ((j,x)::l)
    |none=>none
   |none=>none
  |none=>none
def mM (rn:List (Nat×Nat)) (hv:List AV) (H:AHeap):List (Nat×Nat)->Bool
 |[]=>true
 |(id,j)::r=>(match findN rn id with
  |some a=>match mapOf H a with
   |some x=>match nthA j hv with
    |some y=>beqA y x
    |none=>false
   |none=>false
  |none=>false)&&mM rn hv H r
def isCells (cs:List AV) (x:AV):Bool:=match x with
 | .vsl len z cs'=>beqL cs' cs&&(Nat.beq (lenA cs) (Nat.mul len z)&&(symOkL cs&&allOne cs))
 |_=>false
def mF (rn:List (Nat×Nat)) (hv:List AV) (n:Nat) (H:AHeap):List (Nat×Nat)->Bool
 |[]=>true
 |(id,i)::r=>(match findN rn id with
  |some a=>match H.get a with
   |some (.syl i')=>match Nat.blt i bigF with
    |true=>Nat.blt i n&&Nat.beq i i'
    |false=>match nthA (holeF i) hv with
     |some x=>beqA x (.sym i')
     |none=>false
   |some (.cells cs)=>match Nat.blt i bigF with
    |true=>false
    |false=>match nthA (holeF i) hv with
     |some x=>isCells cs x
     |none=>false
   |_=>false
  |none=>false)&&mF rn hv n H r
def fixL (rn:List (Nat×Nat)) (H:AHeap):List (Nat×Nat)->List (Nat×AV)->List (Nat×AV)
 |[],acc=>acc
 |(id,i)::r,acc=>match Nat.blt i bigF with
  |true=>fixL rn H r acc
  |false=>match findN rn id with
   |some a=>match H.get a with
    |some (.syl i')=>(holeF i,.sym i')::fixL rn H r acc
    |some (.cells cs)=>(holeF i,.vsl (Nat.div (lenA cs) (zF i)) (zF i) cs)::fixL rn H r acc
    |_=>fixL rn H r acc
   |none=>fixL rn H r acc
def lowN (ds:List DA) (rn:List (Nat×Nat)):Nat->Bool
 |0=>true
 |k+1=>(match findN rn k with
  |some a=>Nat.beq a k
  |none=>match findA' ds k with
   |some d=>optB d.act (some k)
   |none=>false)&&lowN ds rn k
def noD:Dfs->Bool
 |[]=>true
 |_=>false
structure MR where
 rn:List (Nat×Nat)
 ds:List DA
 hv:List AV
def MR.inv (m:MR):List (Nat×Nat):=invD m.ds (invN m.rn [])
def matchR (n:Nat) (tp:Tpl) (T:Tm) (H:AHeap):Option MR:=match rnOf tp T H with
 |rn=>match accL T H rn tp.acc with
  |none=>none
  |some ds=>match mapL H rn tp.maps (accH ds (colT T tp.slots (colH H rn tp.rows [])))with
   |none=>none
   |some ms=>match holes (fixL rn H tp.fix ms) 0 tp.nv with
    |none=>none
    |some hv=>match MR.mk rn ds hv with
      |m=>match symOkL hv&&(allOne hv&&(mT H ds rn hv n T tp.slots&&(mN ds m.inv tp.next rn&&(mH ds rn hv n H tp.rows&&(mD m.inv hv tp.next ds&&(mM rn hv H tp.maps&&(mF rn hv n H tp.fix&&Nat.ble tp.next top)))))))with
       |true=>some m
       |false=>none
def nnL (k:Nat) (hv:List AV):List TA->Option (List Nat)
 |[]=>some []
 |t::r=>match nnL k hv r with
  |none=>none
  |some l=>match Nat.blt t.id k with
   |false=>some l
   |true=>match nthA t.j hv with
    |some (.sym i)=>some (i::l)
    |some (.vsl _ _ _)=>some l
    |_=>none
structure MT where
 hv:List AV
 nn:List Nat
def matchT (n k:Nat) (tp:Tpl) (S:VS):Option MT:=match noD S.D with
 |false=>none
 |true=>match matchR n tp S.T S.H with
  |none=>none
  |some m=>match lowN m.ds m.rn k with
   |false=>none
   |true=>match nnL k m.hv tp.acc with
    |none=>none
    |some l=>some ⟨m.hv,l⟩
mutual
def refsA:AV->AV->List AV
 | .slx _ z _,a=>match z with
   |0=>match symOk a with
    |true=>[]
    |false=>[a]
   |_+1=>[]
 | .agg ts,.agg cs=>refsL ts cs
 | .tup ts,.tup cs=>refsL ts cs
 | .iface _ t,.iface _ a=>refsA t a
 | .vsl _ _ _,.sl id o n z c=>[.sl id o n z c]
 |_,_=>[]
def refsL:List AV->List AV->List AV
 |t::ts,a::r=>appA (refsA t a) (refsL ts r)
 |_,_=>[]
end
def holeRefs (T:Tm):List (Nat×AV)->List AV
 |[]=>[]
 |(t,a)::r=>appA (refsA a (tget T t)) (holeRefs T r)
def vFrz (S:VS) (args:List AV):VS:=let l:=reachL 100 S.H args []
 ⟨mapT (frz (onlyH S.H l)) S.T,lessH S.H l,S.n,S.lv,S.D⟩
def vFrzR (S:VS) (args:List AV) (id:Nat):VS:=let l:=reachL 100 S.H args []
 ⟨mapT (frz (onlyH S.H l)) S.T,setF (onlyH S.H l) id (lessH S.H l),S.n,S.lv,S.D⟩
mutual
def reA (id i k:Nat):AV->AV
 | .slx a z j=>match Nat.beq a id&&Nat.beq j i with
   |true=>.slx a z k
   |false=>.slx a z j
 | .vptr cs=>.vptr (reL id i k cs)
 | .vsl n z cs=>.vsl n z (reL id i k cs)
 | .fn f cs=>.fn f (reL id i k cs)
 | .iface t a=>.iface t (reA id i k a)
 | .agg cs=>.agg (reL id i k cs)
 | .tup cs=>.tup (reL id i k cs)
 |a=>a
def reL (id i k:Nat):List AV->List AV
 |[]=>[]
 |a::r=>reA id i k a::reL id i k r
end
structure SR where
 id:Nat
 i:Nat
 k:Nat
def staleL (H:AHeap):List AV->List SR
 |[]=>[]
 |a::r=>match a with
  | .slx id _ i=>match H.get id with
    |some (.syl k)=>match Nat.beq i k with
     |true=>staleL H r
     |false=>⟨id,i,k⟩::staleL H r
    |_=>staleL H r
  |_=>staleL H r
def reLs:List SR->List AV->List AV
 |[],l=>l
 |q::r,l=>reLs r (reL q.id q.i q.k l)
def reS:List SR->VS->VS
 |[],S=>S
 |q::r,S=>reS r ⟨mapT (reA q.id q.i q.k) S.T,S.H,S.n,S.lv,S.D⟩
def pairsR:List SR->List (Nat×Nat)
 |[]=>[]
 |q::r=>(q.i,q.k)::pairsR r
structure FR where
 l:List (Nat×Nat)
 S:VS
def vFrzS (S:VS) (l:List AV):FR:=match staleL S.H l with
 |[]=>⟨[],vFrz S l⟩
 |q=>⟨pairsR q,vFrz (reS q S) (reLs q l)⟩
def frzT (tp:Tpl) (S:VS):FR:=match holeRefs S.T tp.slots with
 |[]=>⟨[],S⟩
 |l=>vFrzS S l
def staleA (H:AHeap) (a:AV):Option (Nat×Nat×AV):=match a with
 | .slx id z i=>match H.get id with
   |some (.syl k)=>match Nat.beq i k with
    |true=>none
    |false=>some (i,k,.slx id z k)
   |_=>none
 |_=>none
def setN:Nat->AV->List AV->List AV
 |_,_,[]=>[]
 |0,x,_::r=>x::r
 |n+1,x,a::r=>a::setN n x r
def fresh1 (rn:List (Nat×Nat)) (t:TA) (S:VS):FR:=match locOf S.T S.H rn t with
 |none=>⟨[],S⟩
 |some a=>match staleA S.H a with
  |none=>⟨[],S⟩
  |some (i,k,a')=>match t.off with
   |none=>match Nat.blt t.loc 512 with
    |true=>⟨[(i,k)],⟨tset S.T t.loc a',S.H,S.n,S.lv,S.D⟩⟩
    |false=>⟨[],S⟩
   |some o=>match findN rn t.loc with
    |some r=>match S.H.get r with
     |some (.cells cs)=>⟨[(i,k)],⟨S.T,S.H.set r (.cells (setN o a' cs)),S.n,S.lv,S.D⟩⟩
     |_=>⟨[],S⟩
    |none=>⟨[],S⟩
def freshL (rn:List (Nat×Nat)):List TA->VS->FR
 |[],S=>⟨[],S⟩
 |t::r,S=>match fresh1 rn t S with
  |f=>match freshL rn r f.S with
   |g=>⟨appP f.l g.l,g.S⟩
where
 appP:List (Nat×Nat)->List (Nat×Nat)->List (Nat×Nat)
 |[],l=>l
 |x::r,l=>x::appP r l
def freshT (tp:Tpl) (S:VS):FR:=freshL (rnOf tp S.T S.H) tp.acc S
def readyT (tp:Tpl) (S:VS):FR:=match frzT tp S with
 |f=>match freshT tp f.S with
  |g=>⟨freshL.appP f.l g.l,g.S⟩
def sames:List (Nat×Nat)->VT->VT
 |[],t=>t
 |(i,k)::r,t=>.chk (.same i k) (sames r t)
structure MA where
 j:Nat
 l:List (Nat×Nat)
 m:MT
def clashT (T:Tm):List (Nat×AV)->Bool
 |[]=>false
 |(t,a)::r=>(match a with
  | .int _ x=>match tget T t with
    | .int _ y=>not (eqI x y)
    |_=>false
  |_=>false)||clashT T r
def matchAny (n k:Nat):List Tpl->Nat->VS->Option MA
 |[],_,_=>none
 |tp::r,j,S=>match clashT S.T tp.slots with
  |true=>matchAny n k r (Nat.succ j) S
  |false=>match readyT tp S with
   |f=>match matchT n k tp f.S with
    |some m=>some ⟨j,f.l,m⟩
    |none=>matchAny n k r (Nat.succ j) S
def Tpl.heap (tp:Tpl) (n:Nat):AHeap:=instF n (instM n (instS n (instH n tp.next tp.rows) tp.acc) tp.maps) tp.fix
def Tpl.inst (tp:Tpl) (n lv:Nat):VS:=⟨instT n tp.slots,tp.heap n,Nat.add n tp.nv,lv,[]⟩
def chks:List Nat->VT->VT
 |[],t=>t
 |i::r,t=>.chk (.nn i) (chks r t)
section
variable [Gl]
def valsT:List (Nat×AV)->List AV
 |[]=>[]
 |(_,a)::r=>a::valsT r
def FEnd (ft:FT) (n:Nat) (Y0:Sy) (Q:Nat->List AV->Prop) (Y:Sy) (r:FRes):Prop:=
 ∃j ws b tp,ft.exs[j]? =some (b,tp)/\Q j ws/\okL ws=true/\ws.length=tp.nv/\Y=Y0.puts n ws/\r=(match b with
  |true=>.pan (tget (instT n tp.slots) 0) (tp.heap n)
  |false=>.ret (tget (instT n tp.slots) 0) (tp.heap n))
def CF (P:Program) (f:FuncId) (ft:FT) (vs:List AV) (Q:Nat->List AV->Prop):Prop:=
 vs.length=ft.ent.nv/\∀Y,Fresh Y 64->SemCallF P ft.k (Y.puts 64 vs) f (instL 64 (valsT ft.ent.slots)) (ft.ent.heap 64) (FEnd ft (Nat.add 64 ft.ent.nv) (Y.puts 64 vs) Q)
def Chk.ok (Y:Sy):Chk->Prop
 | .same i j=>(Y.v i=some .nsl/\Y.v j=some .nsl)\/∃n z cs ds,Y.v i=some (.vsl n z cs)/\Y.v j=some (.vsl n z ds)
 | .nn i=>∃n z cs,Y.v i=some (.vsl n z cs)
 | .pos i=>∃n z cs,Y.v i=some (.vsl (n+1) z cs)
mutual
def VOK (P:Program) (Q:AV->Prop):List (Nat->List AV->Prop)->Sy->VT->Prop
 |_,_,.bad=>False
 |_,Y,.done v=>Q (den Y.v v)
 |L,Y,.ite i a b=>∃t,Y.v i=some (.bool t)/\(t=true->VOK P Q L Y a)/\(t=false->VOK P Q L Y b)
 |L,Y,.lt op args n m t=>match m with
  |none=>∃r,op.run P (denL Y.v args)=some r/\okC r=true/\VOK P Q L (Y.put n r) t
  |some k=>∃cs,op.run P (denL Y.v args)=some (.agg cs)/\cs.length=k/\okL cs=true/\VOK P Q L (Y.puts n cs) t
 |L,Y,.call f args n sh t=>∃v vs,Pure P f (denL Y.v args) v/\flatV sh v=some vs/\okL vs=true/\VOK P Q L (Y.puts n vs) t
 |L,Y,.loop n j hv bs=>∃(Inv:Nat->List AV->Prop) (μ:Nat->List AV->Nat),(∀j vs,Inv j vs->okL vs=true)/\Inv j (denL Y.v hv)/\VOKs P Q Inv μ L n 0 Y bs
 |L,Y,.again lvl j hv=>∃R,L[lvl]? =some R/\R j (denL Y.v hv)
 |L,Y,.chk c t=>c.ok Y/\VOK P Q L Y t
 |L,Y,.callF f ft hv n bs=>∃R,CF P f ft (denL Y.v hv) R/\okL (denL Y.v hv)=true/\VOKb P Q R L (Y.puts n (denL Y.v hv)) (Nat.add n ft.ent.nv) 0 bs
 |L,Y,.both a b=>VOK P Q L Y a/\VOK P Q L Y b
def VOKs (P:Program) (Q:AV->Prop) (Inv:Nat->List AV->Prop) (μ:Nat->List AV->Nat):List (Nat->List AV->Prop)->Nat->Nat->Sy->VTs->Prop
 |_,_,_,_,.nil=>True
 |L,n,j,Y,.cons nv t r=>(∀vs,vs.length=nv->Inv j vs->VOK P Q (L++[λj' vs'=>Inv j' vs'/\μ j' vs'<μ j vs]) (Y.puts n vs) t)/\VOKs P Q Inv μ L n (j+1) Y r
def VOKb (P:Program) (Q:AV->Prop) (R:Nat->List AV->Prop):List (Nat->List AV->Prop)->Sy->Nat->Nat->VTs->Prop
 |_,_,_,_,.nil=>True
 |L,Y,n,j,.cons _ t r=>(∀ws,R j ws->VOK P Q L (Y.puts n ws) t)/\VOKb P Q R L Y n (j+1) r
end
end
def hintsOf:Hints->Nat->Option (List Tpl)
 |[],_=>none
 |(b,l)::r,bid=>match Nat.beq b bid with
  |true=>some l
  |false=>hintsOf r bid
section
variable [Gl]
abbrev Calls0:=List (FuncId×List (Option Nat))
def shOf:Calls0->FuncId->Option (List (Option Nat))
 |[],_=>none
 |(g,sh)::r,f=>match Nat.beq g f with
  |true=>some sh
  |false=>shOf r f
abbrev CallsF:=List (FuncId×FT)
def ftOf:CallsF->FuncId->Option FT
 |[],_=>none
 |(g,t)::r,f=>match Nat.beq g f with
  |true=>some t
  |false=>ftOf r f
structure VC where
 fc:FcT
 cs:Calls0
 hs:Hints
 k:Nat
 own:Bool
 fs:CallsF
def appVS (P:Program) (S:VS) (o:Oper):Option (Nat×Nat×XOp×List AV):=match noD S.D with
 |true=>appOf P S.T S.H o
 |false=>none
def app2VS (P:Program) (S:VS) (o:Oper):Option (Nat×Nat×XOp×List AV):=match noD S.D with
 |true=>match appOf2 P S.T S.H o with
  |some r=>some r
  |none=>newX P S.T S.H o
 |false=>none
def mupVS (P:Program) (S:VS) (o:Oper):Option (Nat×XOp×List AV):=match noD S.D with
 |true=>mupOf P S.T S.H o
 |false=>none
def sgS (hv:List AV) (n i:Nat):Nat:=match Nat.blt i 64 with
 |true=>i
 |false=>match nthA (Nat.sub i 64) hv with
  |some (.sym s)=>s
  |_=>Nat.add n (Nat.sub i 64)
def sgV (hv:List AV) (n i:Nat):AV:=match Nat.blt i 64 with
 |true=>.sym i
 |false=>match nthA (Nat.sub i 64) hv with
  |some a=>match okC a with
   |true=>a
   |false=>.sym (sgS hv n i)
  |none=>.sym (sgS hv n i)
mutual
def movA (hv:List AV) (n:Nat) (r:Nat->Nat):AV->AV
 | .sym i=>sgV hv n i
 | .slx id z i=>.slx (r id) z (sgS hv n i)
 | .ptx id j z off=>.ptx (r id) (sgS hv n j) z off
 | .ptr id off=>.ptr (r id) off
 | .sl id off len sz cap=>.sl (r id) off len sz cap
 | .map id=>.map (r id)
 | .vptr cs=>.vptr (movL hv n r cs)
 | .vsl a z cs=>.vsl a z (movL hv n r cs)
 | .fn f cs=>.fn f (movL hv n r cs)
 | .iface t a=>.iface t (movA hv n r a)
 | .agg cs=>.agg (movL hv n r cs)
 | .tup cs=>.tup (movL hv n r cs)
 |a=>a
def movL (hv:List AV) (n:Nat) (r:Nat->Nat):List AV->List AV
 |[]=>[]
 |a::l=>movA hv n r a::movL hv n r l
end
def movB (hv:List AV) (n:Nat) (r:Nat->Nat):ABlk->Option ABlk
 | .cells cs=>some (.cells (movL hv n r cs))
 | .syl i=>some (.syl (sgS hv n i))
 | .mpl i=>some (.mpl (sgS hv n i))
 |_=>none
def movH (hv:List AV) (n:Nat) (r:Nat->Nat) (F:AHeap) (base:AHeap):List Nat->AHeap
 |[]=>base
 |id::l=>match F.get id with
  |some k=>match movB hv n r k with
   |some k'=>(movH hv n r F base l).set (r id) k'
   |none=>movH hv n r F base l
  |none=>movH hv n r F base l
def accIds:List TA->List Nat->List Nat
 |[],l=>l
 |t::r,l=>t.id::accIds r l
def sndL:List (Nat×Nat)->List Nat->List Nat
 |[],l=>l
 |(_,a)::r,l=>a::sndL r l
def actL:List DA->List Nat->List Nat
 |[],l=>l
 |d::r,l=>match d.act with
  |some i=>i::actL r l
  |none=>actL r l
def lowAt (m:MR) (j:Nat):Option Nat:=match findN m.rn j with
 |some a=>some a
 |none=>match findA' m.ds j with
  |some d=>d.act
  |none=>none
def lowL (m:MR):Nat->Option (List Nat)
 |0=>some []
 |k+1=>match lowL m k with
  |some l=>match lowAt m k with
   |some a=>some (snoc l a)
   |none=>none
  |none=>none
where
 snoc:List Nat->Nat->List Nat
 |[],a=>[a]
 |x::r,a=>x::snoc r a
def nthQ:Nat->List Nat->Option Nat
 |_,[]=>none
 |0,a::_=>some a
 |n+1,_::r=>nthQ n r
def rnum (low:List Nat) (k nx j:Nat):Nat:=match nthQ j low with
 |some a=>a
 |none=>Nat.add nx (Nat.sub j k)
mutual
def topA:AV->Bool
 | .ptr id _=>Nat.blt id top
 | .sl id _ _ _ _=>Nat.blt id top
 | .map id=>Nat.blt id top
 | .slx id _ _=>Nat.blt id top
 | .ptx id _ _ _=>Nat.blt id top
 | .vptr cs=>topL cs
 | .vsl _ _ cs=>topL cs
 | .fn _ cs=>topL cs
 | .iface _ a=>topA a
 | .agg cs=>topL cs
 | .tup cs=>topL cs
 |_=>true
def topL:List AV->Bool
 |[]=>true
 |a::r=>topA a&&topL r
end
def topR (n:Nat):List (Nat×List AV)->Bool
 |[]=>true
 |(_,cs)::r=>topL (instL n cs)&&topR n r
def topN:List Nat->Bool
 |[]=>true
 |i::r=>Nat.blt i top&&topN r
def getAll (H:AHeap):List Nat->Bool
 |[]=>true
 |a::r=>(H.get a).isSome&&getAll H r
def slots0:Nat->List (Nat×AV)->Bool
 |_,[]=>true
 |i,(j,_)::r=>Nat.beq i j&&(Nat.blt i 512&&slots0 (Nat.succ i) r)
def roomX (k n:Nat) (H:AHeap):List (Bool×Tpl)->Bool
 |[]=>true
 |(_,tp)::r=>Nat.ble k tp.next&&(Nat.blt (Nat.add H.next (Nat.sub tp.next k)) H.hi&&(topA (tget (instT n tp.slots) 0)&&(topR n tp.rows&&(topN (accIds tp.acc tp.ids)&&roomX k n H r))))
def exH (ft:FT) (m:MR) (low:List Nat) (S:VS) (tp:Tpl):AHeap:=movH m.hv S.n (rnum low ft.k S.H.next) (tp.heap (Nat.add 64 ft.ent.nv))
 (match lessH S.H (actL m.ds (sndL m.rn []))with
   |B=>⟨B.tr,Nat.add S.H.next (Nat.sub tp.next ft.k),B.hi⟩) (accIds tp.acc tp.ids)
def exV (ft:FT) (m:MR) (low:List Nat) (S:VS) (tp:Tpl):AV:=movA m.hv S.n (rnum low ft.k S.H.next) (tget (instT (Nat.add 64 ft.ent.nv) tp.slots) 0)
def exN (ft:FT) (S:VS) (tp:Tpl):Nat:=Nat.add (Nat.add S.n ft.ent.nv) tp.nv
def vEnds (ft:FT) (m:MR) (low:List Nat) (u:Tm->AV->Tm) (S:VS) (X:VX->VT) (k:VS->VT):List (Bool×Tpl)->VTs
 |[]=>.nil
 |(b,tp)::r=>.cons tp.nv (match b with
  |false=>k ⟨u S.T (exV ft m low S tp),exH ft m low S tp,exN ft S tp,S.lv,S.D⟩
  |true=>X (.pan (exV ft m low S tp) ⟨S.T,exH ft m low S tp,exN ft S tp,S.lv,S.D⟩)) (vEnds ft m low u S X k r)
def vCallG (g:FuncId) (ft:FT) (u:Tm->AV->Tm) (S:VS) (args:List AV) (X:VX->VT) (k:VS->VT):VT:=match freshT ft.ent ⟨enterT args 0 topq,S.H,S.n,S.lv,[]⟩with
 |f=>match matchR 64 ft.ent f.S.T f.S.H with
  |none=>.bad
  |some m=>match lowL m ft.k with
   |none=>.bad
   |some low=>match roomX ft.k (Nat.add 64 ft.ent.nv) f.S.H ft.exs&&(Nat.ble f.S.H.hi top&&(Nat.beq (lenA args) (lenA (valsT ft.ent.slots))&&(slots0 0 ft.ent.slots&&getAll f.S.H low)))with
    |true=>sames f.l (.callF g ft m.hv S.n (vEnds ft m low u ⟨S.T,f.S.H,S.n,S.lv,S.D⟩ X k ft.exs))
    |false=>.bad
def vCallF (P:Program) (g:FuncId) (ft:FT) (o:Oper) (u:Tm->AV->Tm) (S:VS) (args:List AV) (X:VX->VT) (k:VS->VT):VT:=match holeRefs (enterT args 0 topq) ft.ent.slots with
 |[]=>vCallG g ft u S args X k
 |l=>match vFrzS S l with
  |f=>match (stage P o).run f.S.T f.S.H with
   |some r=>match r with
    | .call g' args'=>match Nat.beq g' g with
      |true=>sames f.l (vCallG g ft u f.S args' X k)
      |false=>.bad
    |_=>.bad
   |none=>.bad
def vCall (P:Program) (fuel:Nat) (c:VC) (o:Oper) (u:Tm->AV->Tm) (S:VS) (g:FuncId) (args:List AV) (X:VX->VT) (k:VS->VT):VT:=match ftOf c.fs g with
 |some ft=>vCallF P g ft o u S args X k
 |none=>match shOf c.cs g with
  |some sh=>match symOkL args with
   |true=>.call g args S.n sh (k ⟨u S.T (shapeV S.n sh),S.H,Nat.add S.n (shLen sh),S.lv,S.D⟩)
   |false=>match (stage P o).run (vFrz S args).T (vFrz S args).H with
    |some r=>match r with
     | .call g' args'=>match Nat.beq g' g&&symOkL args' with
       |true=>.call g args' S.n sh (k ⟨u (vFrz S args).T (shapeV S.n sh),(vFrz S args).H,Nat.add S.n (shLen sh),S.lv,S.D⟩)
       |false=>.bad
     |_=>.bad
    |none=>.bad
  |none=>match callN P fuel g args S.H with
   |some r=>match r with
    | .ret a H'=>k ⟨u S.T a,H',S.n,S.lv,S.D⟩
    | .pan _ _=>.bad
   |none=>.bad
def vLet (P:Program) (c:VC) (u:Tm->AV->Tm) (S:VS) (k:VS->VT) (op:XOp) (args:List AV):VT:=match letSh P op with
 |none=>match findF c.fc.b op args with
  |some v=>k ⟨u S.T v,S.H,S.n,S.lv,S.D⟩
  |none=>.lt op args S.n none (k ⟨u S.T (.sym S.n),S.H,Nat.succ S.n,S.lv,S.D⟩)
 |some m=>.lt op args S.n (some m) (k ⟨u S.T (.agg (symsFrom S.n m)),S.H,Nat.add S.n m,S.lv,S.D⟩)
def vOwn (P:Program) (c:VC) (o:Oper) (u:Tm->AV->Tm) (S:VS) (k:VS->VT):Option VT:=match c.own with
 |false=>none
 |true=>match ptxV P S.T o with
  |some a=>some (k ⟨u S.T a,S.H,S.n,S.lv,S.D⟩)
  |none=>match inbX P S.T o with
   |some (op,args,id,sz)=>some (.lt op args S.n none (k ⟨u S.T (.ptx id S.n sz 0),S.H,Nat.succ S.n,S.lv,S.D⟩))
   |none=>match ldX S.T S.H o with
    |some (op,args)=>match letSh P op with
     |none=>some (.lt op args S.n none (k ⟨u S.T (.sym S.n),S.H,Nat.succ S.n,S.lv,S.D⟩))
     |some m=>some (.lt op args S.n (some m) (k ⟨u S.T (.agg (symsFrom S.n m)),S.H,Nat.add S.n m,S.lv,S.D⟩))
    |none=>match stX S.T S.H o with
     |some (op,args,id)=>some (.lt op args S.n none (k ⟨u S.T (.tup []),S.H.set id (.syl S.n),Nat.succ S.n,S.lv,S.D⟩))
     |none=>match tkX P S.T S.H o with
        |some (op,args,id,sz)=>some (.lt op args S.n none (k ⟨u S.T (.slx id sz S.n),S.H.set id (.syl S.n),Nat.succ S.n,S.lv,S.D⟩))
        |none=>none
def vStep (P:Program) (fuel:Nat) (c:VC) (o:Oper) (u:Tm->AV->Tm) (S:VS) (X:VX->VT) (k:VS->VT):VT:=match (stage P o).run S.T S.H with
 |some r=>match r with
  | .val a H'=>k ⟨u S.T a,H',S.n,S.lv,S.D⟩
  | .call g args=>vCall P fuel c o u S g args X k
  | .dfr g args=>k ⟨u S.T (.tup []),S.H,S.n,S.lv,(g,args)::S.D⟩
  | .pan v=>X (.pan v S)
  |_=>.bad
 |none=>match pickSym o S.T with
  |some (i,a,b)=>.ite i (k ⟨u (S.know i true).T (look (S.know i true).T a),S.H,S.n,S.lv,S.D⟩) (k ⟨u (S.know i false).T (look (S.know i false).T b),S.H,S.n,S.lv,S.D⟩)
  |none=>match callX c.fc.x S.T o with
   |some v=>k ⟨u S.T v,S.H,S.n,S.lv,S.D⟩
   |none=>match vOwn P c o u S k with
    |some t=>t
    |none=>match appVS P S o with
    |some (id,sz,op,args)=>.lt op args S.n none (k ⟨u S.T (.slx S.H.next sz S.n),(S.H.erase id).push (.syl S.n),Nat.succ S.n,S.lv,S.D⟩)
    |none=>match app2VS P S o with
    |some (id,sz,op,args)=>.lt op args S.n none (k ⟨u S.T (.slx S.H.next sz S.n),(S.H.erase id).push (.syl S.n),Nat.succ S.n,S.lv,S.D⟩)
    |none=>match lenX S.T o with
     |some (op,args)=>.lt op args S.n none (k ⟨u S.T (.sym S.n),S.H,Nat.succ S.n,S.lv,S.D⟩)
     |none=>match mupVS P S o with
     |some (id,op,args)=>.lt op args S.n none (k ⟨u S.T (.tup []),S.H.set id (.mpl S.n),Nat.succ S.n,S.lv,S.D⟩)
     |none=>match mlenX S.T S.H o with
     |some (op,args)=>match isMapT P o with
      |true=>.lt op args S.n none (k ⟨u S.T (.sym S.n),S.H,Nat.succ S.n,S.lv,S.D⟩)
      |false=>.bad
     |none=>match convX S.T S.H o with
     |some (op,args)=>.lt op args S.n none (k ⟨u S.T (.sym S.n),S.H,Nat.succ S.n,S.lv,S.D⟩)
     |none=>match mgX S.T S.H o with
     |some (op,args)=>.lt op args S.n none (k ⟨u S.T (.sym S.n),S.H,Nat.succ S.n,S.lv,S.D⟩)
     |none=>match extX P S.T o with
     |some (op,args)=>.lt op args S.n none (k ⟨u S.T (.sym S.n),S.H,Nat.succ S.n,S.lv,S.D⟩)
     |none=>match letOf S.T o with
      |some (op,args)=>match symOkL args with
       |true=>vLet P c u S k op args
       |false=>match letOf (vFrz S args).T o with
        |some (op',args')=>match symOkL args' with
         |true=>vLet P c u (vFrz S args) k op' args'
         |false=>.bad
        |none=>.bad
      |none=>.bad
def vGuard (all:List Oper) (o:Oper) (T:Tm):Option Bool:=match guardC all o with
 | .always=>some true
 | .mk g=>g T
def vOp (P:Program) (fuel:Nat) (c:VC) (all:List Oper) (o:Oper) (u:Tm->AV->Tm) (X:VX->VT) (next:VS->VT) (S:VS):VT:=match vGuard all o S.T with
 |some t=>match t with
  |false=>next ⟨u S.T (.tup []),S.H,S.n,S.lv,S.D⟩
  |true=>vStep P fuel c o u S X next
 |none=>.bad
def refsB (T:Tm):List (Nat×Operand)->List AV
 |[]=>[]
 |(_,x)::r=>match look T x with
  | .slx id z i=>.slx id z i::refsB T r
  |_=>refsB T r
def refsC:List AV->List AV
 |[]=>[]
 |a::r=>match a with
  | .slx id z i=>.slx id z i::refsC r
  | .sl id o l z c=>.sl id o l z c::refsC r
  |_=>refsC r
def refsO (T:Tm):List (Nat×Operand)->List AV
 |[]=>[]
 |(_,x)::r=>match look T x with
  | .slx id z i=>.slx id z i::refsO T r
  | .sl id o l z c=>.sl id o l z c::refsO T r
  | .agg cs=>appA (refsC cs) (refsO T r)
  |_=>refsO T r
def frzB (own:Bool) (o:Oper) (S:VS):VS:=match o.op with
 | .buildSlice _ _ ps=>match (match own with
   |true=>refsO S.T ps.toList
   |false=>refsB S.T ps.toList)with
   |[]=>S
   |a=>vFrz S a
 | .call c=>match own with
   |false=>S
   |true=>match c.callee with
    | .builtin b=>match b with
      | .append=>match c.args.toList with
        |[_,x]=>match look S.T x with
         | .sl id _ _ _ _=>match S.H.get id with
          |some (.cells cs)=>match refsC cs with
           |[]=>S
           |a=>vFrzR S a id
          |_=>S
         |_=>S
        |_=>S
      |_=>S
    |_=>S
 |_=>S
def vOps (P:Program) (N fuel:Nat) (c:VC) (all:List Oper) (X:VX->VT):List Oper->VS->(VS->VT)->VT
 |[],S,K=>K S
 |o::r,S,K=>match putC N o.dst with
  | .bad=>.bad
  | .mk u=>match guardSym all o S.T with
    |some i=>.ite i (vOp P fuel c all o u X (λS=>vOps P N fuel c all X r S K) (S.know i true)) (vOp P fuel c all o u X (λS=>vOps P N fuel c all X r S K) (S.know i false))
    |none=>vOp P fuel c all o u X (λS=>vOps P N fuel c all X r S K) (frzB c.own o S)
def isM (x:SI):Bool:=match x.o.op with
 | .alloc _=>true
 | .box _ _=>true
 | .buildSlice _ _ _=>true
 |_=>false
inductive Tch where
 |none
 |one (id:Nat)
 |all
def tchApp (x:SI) (R:Tm):Tch:=match x.o.op with
 | .call c=>match isApp x with
   |false=>.all
   |true=>match c.args.toList with
    |s::_=>match look R s with
     | .slx id _ _=>.one id
     | .sym _=>.none
     | .sl id _ _ _ _=>.one id
     |_=>.all
    |[]=>.all
 |_=>.all
def appBad (x:SI) (R:Tm):Bool:=match isApp x with
 |false=>false
 |true=>match tchApp x R with
  | .all=>false
  |_=>true
def touchOf (x:SI) (R:Tm):Tch:=match isM x with
 |true=>.none
 |false=>match x.o.op with
  | .store _ a _=>match look R a with
    | .ptr id _=>.one id
    | .ptx id _ _ _=>.one id
    |_=>.all
  |_=>tchApp x R
def apart (t:Tch) (ids:List Nat):Bool:=match t with
 | .none=>true
 | .one id=>not (memT id ids)
 | .all=>match ids with
   |[]=>true
   |_::_=>false
structure GW where
 i:Nat
 H:AHeap
 t:Tch
def pickH (bef:Nat) (H:AHeap):List GW->AHeap
 |[]=>H
 |g::r=>match bit bef g.i with
  |true=>H
  |false=>pickH bef g.H r
def okRd (bef:Nat) (ids:List Nat):List GW->Bool
 |[]=>true
 |g::r=>match bit bef g.i with
  |true=>true
  |false=>apart g.t ids&&okRd bef ids r
def okWr (bef:Nat) (t:Tch):List (Nat×List Nat)->Bool
 |[]=>true
 |(i,ids)::r=>(bit bef i||apart t ids)&&okWr bef t r
def rowsIn (H:AHeap):List Nat->AHeap
 |[]=>⟨hnil,0,0⟩
 |id::r=>match H.get id with
  |some b=>(rowsIn H r).set id b
  |none=>rowsIn H r
def idTop (a:AV) (acc:List Nat):List Nat:=match a with
 | .ptr id _=>id::acc
 | .sl id _ _ _ _=>id::acc
 | .map id=>id::acc
 | .ptx id _ _ _=>id::acc
 |_=>acc
def idsRd (T:Tm):List Nat->List Nat
 |[]=>[]
 |t::r=>idTop (tget T t) (idsRd T r)
def idsOp (x:SI) (T:Tm):List Nat:=match isPu x with
 |true=>[]
 |false=>idsRd T x.rd
def heapOf (x:SI) (S:VS) (gs:List GW):AHeap:=rowsIn (pickH x.bef S.H gs) (idsOp x S.T)
def okTwo (x:SI) (i:Nat) (y:SI):Bool:=match isW x&&isW y with
 |true=>bit y.bef i
 |false=>true
def okTwo1 (x:SI) (i:Nat):List SI->Bool
 |[]=>true
 |y::r=>okTwo x i y&&okTwo1 x i r
def okTwos:List SI->Nat->Bool
 |[],_=>true
 |x::r,i=>okTwo1 x i r&&okTwos r (Nat.succ i)
def fullB (x:SI):Nat->Bool
 |0=>true
 |n+1=>bit x.bef n&&fullB x n
def tailIf (x:SI) (i n:Nat):Nat:=match Nat.beq n (Nat.succ i)&&fullB x i with
 |true=>i
 |false=>n
def tailAt:List SI->Nat->Nat
 |[],i=>i
 |x::r,i=>tailIf x i (tailAt r (Nat.succ i))
def takeS:Nat->List SI->List SI
 |0,_=>[]
 |_+1,[]=>[]
 |n+1,x::r=>x::takeS n r
def dropO:Nat->List Oper->List Oper
 |0,l=>l
 |_+1,[]=>[]
 |n+1,_::r=>dropO n r
def vDVal (P:Program) (x:SI) (Hx:AHeap) (u:Tm->AV->Tm) (S:VS) (k:VS->VT):VT:=match readV (stage P x.o) (keepT S.T x.rd topq) Hx with
 |some q=>k ⟨u S.T q,S.H,S.n,S.lv,S.D⟩
 |none=>.bad
def vDApp2 (u:Tm->AV->Tm) (S:VS) (k:VS->VT) (R:Tm) (o:Oper) (id sz:Nat) (op:XOp) (args:List AV):VT:=match symLtL S.n args with
 |true=>match S.H.get S.H.next with
  |none=>match appPos args with
   |true=>.lt op args S.n none (k ⟨u S.T (.slx S.H.next sz S.n),(S.H.erase id).push (.syl S.n),Nat.succ S.n,S.lv,S.D⟩)
   |false=>match appSym args with
    |some i=>.lt .emp [.sym i] S.n none (.ite S.n (k ⟨u S.T (empV R o),S.H,Nat.succ S.n,S.lv,S.D⟩)
     (.lt op args (Nat.succ S.n) none (k ⟨u S.T (.slx S.H.next sz (Nat.succ S.n)),(S.H.erase id).push (.syl (Nat.succ S.n)),Nat.succ (Nat.succ S.n),S.lv,S.D⟩)))
    |none=>.bad
  |some _=>.bad
 |false=>.bad
def vDApp (P:Program) (x:SI) (u:Tm->AV->Tm) (S:VS) (k:VS->VT):VT:=match isApp x with
 |false=>.bad
 |true=>match appOf P (keepT S.T x.rd topq) S.H x.o with
  |some (id,sz,op,args)=>match symLtL S.n args with
   |true=>match S.H.get S.H.next with
    |none=>match appPos args with
     |true=>.lt op args S.n none (k ⟨u S.T (.slx S.H.next sz S.n),(S.H.erase id).push (.syl S.n),Nat.succ S.n,S.lv,S.D⟩)
     |false=>match appSym args with
        |some i=>.chk (.pos i) (.lt op args S.n none (k ⟨u S.T (.slx S.H.next sz S.n),(S.H.erase id).push (.syl S.n),Nat.succ S.n,S.lv,S.D⟩))
        |none=>.bad
    |some _=>.bad
   |false=>.bad
  |none=>match appOf2 P (keepT S.T x.rd topq) S.H x.o with
   |some (id,sz,op,args)=>vDApp2 u S k (keepT S.T x.rd topq) x.o id sz op args
   |none=>match letOf (keepT S.T x.rd topq) x.o with
    |some (op,args)=>match symOkL args&&symLtL S.n args with
     |true=>match letSh P op with
      |none=>.lt op args S.n none (k ⟨u S.T (.sym S.n),S.H,Nat.succ S.n,S.lv,S.D⟩)
      |some _=>.bad
     |false=>.bad
    |none=>.bad
def vDW (P:Program) (c:VC) (x:SI) (u:Tm->AV->Tm) (S:VS) (k:VS->VT):VT:=match (stage P x.o).run (keepT S.T x.rd topq) S.H with
 |some r=>match r with
  | .val a H'=>match isM x with
    |true=>match S.H.get S.H.next with
     |none=>k ⟨u S.T a,H',S.n,S.lv,S.D⟩
     |some _=>.bad
    |false=>match appBad x (keepT S.T x.rd topq)with
     |true=>vDApp P x u S k
     |false=>k ⟨u S.T a,H',S.n,S.lv,S.D⟩
  |_=>.bad
 |none=>match c.own with
  |false=>vDApp P x u S k
  |true=>match stX (keepT S.T x.rd topq) S.H x.o with
   |some (op,args,id)=>match symLtL S.n args&&not (isM x)with
    |true=>.lt op args S.n none (k ⟨u S.T (.tup []),S.H.set id (.syl S.n),Nat.succ S.n,S.lv,S.D⟩)
    |false=>.bad
   |none=>vDApp P x u S k
def vDOwn (P:Program) (c:VC) (R:Tm) (Hx:AHeap) (o:Oper) (u:Tm->AV->Tm) (S:VS) (k:VS->VT):Option VT:=match c.own with
 |false=>none
 |true=>match ptxV P R o with
  |some a=>some (k ⟨u S.T a,S.H,S.n,S.lv,S.D⟩)
  |none=>match inbX P R o with
   |some (op,args,id,sz)=>match symLtL S.n args with
    |true=>some (.lt op args S.n none (k ⟨u S.T (.ptx id S.n sz 0),S.H,Nat.succ S.n,S.lv,S.D⟩))
    |false=>none
   |none=>match ldX R Hx o with
    |some (op,args)=>match symLtL S.n args with
     |true=>match letSh P op with
        |none=>some (.lt op args S.n none (k ⟨u S.T (.sym S.n),S.H,Nat.succ S.n,S.lv,S.D⟩))
        |some m=>some (.lt op args S.n (some m) (k ⟨u S.T (.agg (symsFrom S.n m)),S.H,Nat.add S.n m,S.lv,S.D⟩))
     |false=>none
    |none=>match lenX R o with
     |some (op,args)=>match symLtL S.n args with
        |true=>some (.lt op args S.n none (k ⟨u S.T (.sym S.n),S.H,Nat.succ S.n,S.lv,S.D⟩))
        |false=>none
     |none=>none
def buildV (P:Program) (R:Tm) (o:Oper):Option AV:=match o.op with
 | .buildSlice t n ps=>match evBuildSlice P ⟨hnil,0,1⟩ t n (partsA (look R) ps.toList)with
   |some r=>match r.1 with
    | .sl _ _ len sz _=>match r.2.get 0 with
      |some (.cells cs)=>match symOkL cs with
       |true=>some (.vsl len sz cs)
       |false=>none
      |_=>none
    |_=>none
   |none=>none
 |_=>none
def vDFz (P:Program) (x:SI) (u:Tm->AV->Tm) (S:VS) (k:VS->VT):VT:=match buildV P (keepT S.T x.rd topq) x.o with
 |some q=>k ⟨u S.T q,S.H,S.n,S.lv,S.D⟩
 |none=>.bad
def vDStep (P:Program) (c:VC) (x:SI) (Hx:AHeap) (u:Tm->AV->Tm) (S:VS) (k:VS->VT):VT:=match readV (stage P x.o) (keepT S.T x.rd topq) Hx with
 |some q=>k ⟨u S.T q,S.H,S.n,S.lv,S.D⟩
 |none=>match vDOwn P c (keepT S.T x.rd topq) Hx x.o u S k with
 |some t=>t
 |none=>match (stage P x.o).run (keepT S.T x.rd topq) Hx with
  |some r=>match r with
   | .call g args=>match shOf c.cs g with
     |some sh=>match symOkL args&&symLtL S.n args with
      |true=>.call g args S.n sh (k ⟨u S.T (shapeV S.n sh),S.H,Nat.add S.n (shLen sh),S.lv,S.D⟩)
      |false=>.bad
     |none=>.bad
   |_=>.bad
  |none=>match pickSym x.o S.T with
   |some (i,_,_)=>.ite i (vDVal P x Hx u (S.know i true) k) (vDVal P x Hx u (S.know i false) k)
   |none=>match convX (keepT S.T x.rd topq) Hx x.o with
    |some (op,args)=>match symLtL S.n args with
     |true=>.lt op args S.n none (k ⟨u S.T (.sym S.n),S.H,Nat.succ S.n,S.lv,S.D⟩)
     |false=>.bad
    |none=>match letOf (keepT S.T x.rd topq) x.o with
     |some (op,args)=>match symOkL args&&symLtL S.n args with
      |true=>match letSh P op with
        |none=>.lt op args S.n none (k ⟨u S.T (.sym S.n),S.H,Nat.succ S.n,S.lv,S.D⟩)
        |some m=>.lt op args S.n (some m) (k ⟨u S.T (.agg (symsFrom S.n m)),S.H,Nat.add S.n m,S.lv,S.D⟩)
      |false=>.bad
     |none=>.bad
def alVal (P:Program) (x:SI) (nx:Nat):Option (AV×ABlk):=match x.o.op with
 | .alloc t=>match evAlloc P ⟨hnil,nx,Nat.succ nx⟩ t with
   |some p=>match p.2.get nx with
    |some k=>some (p.1,k)
    |none=>none
   |none=>none
 |_=>none
def alHeap (P:Program):List SI->AHeap->Option AHeap
 |[],H=>some H
 |x::r,H=>match isAl x with
  |false=>alHeap P r H
  |true=>match H.get H.next with
   |some _=>none
   |none=>match H.room with
    |false=>none
    |true=>match alVal P x H.next with
     |some p=>alHeap P r (H.push p.2)
     |none=>none
def alChk (bef:Nat) (ids:List Nat):List SI->Nat->Nat->Bool
 |[],_,_=>true
 |y::r,i,nx=>match isAl y with
  |false=>alChk bef ids r (Nat.succ i) nx
  |true=>(bit bef i||not (memT nx ids))&&alChk bef ids r (Nat.succ i) (Nat.succ nx)
def alBef (bef:Nat):List SI->Nat->Bool
 |[],_=>true
 |y::r,i=>match isAl y with
  |false=>alBef bef r (Nat.succ i)
  |true=>bit bef i&&alBef bef r (Nat.succ i)
def alWrs (l0:List SI):List SI->Bool
 |[]=>true
 |x::r=>match isW x with
  |false=>alWrs l0 r
  |true=>alBef x.bef l0 0&&alWrs l0 r
def nxNext (x:SI) (nx:Nat):Nat:=match isAl x with
 |true=>Nat.succ nx
 |false=>nx
def vDOp (P:Program) (c:VC) (all:List Oper) (l0:List SI) (n0 nx:Nat) (x:SI) (gs:List GW) (ps:List (Nat×List Nat)) (u:Tm->AV->Tm) (next:VS->VT) (S:VS):VT:=match guardE all x (keepT S.T x.rd topq)with
 |some t=>match t with
  |false=>next ⟨u S.T (.tup []),S.H,S.n,S.lv,S.D⟩
  |true=>match isAl x with
   |true=>match alVal P x nx with
    |some p=>next ⟨u S.T p.1,S.H,S.n,S.lv,S.D⟩
    |none=>.bad
   |false=>match isW x with
    |true=>match okWr x.bef (touchOf x (keepT S.T x.rd topq)) ps with
     |true=>vDW P c x u S next
     |false=>.bad
    |false=>match okRd x.bef (idsOp x S.T) gs&&alChk x.bef (idsOp x S.T) l0 0 n0 with
     |true=>match x.fz with
      |true=>vDFz P x u S next
      |false=>vDStep P c x (heapOf x S gs) u S next
     |false=>.bad
 |none=>.bad
def gsNext (x:SI) (i:Nat) (S:VS) (gs:List GW):List GW:=match isW x with
 |true=>⟨i,S.H,touchOf x (keepT S.T x.rd topq)⟩::gs
 |false=>gs
def psNext (x:SI) (i:Nat) (S:VS) (ps:List (Nat×List Nat)):List (Nat×List Nat):=match isW x with
 |true=>ps
 |false=>(i,idsOp x S.T)::ps
def vDOps (P:Program) (N:Nat) (c:VC) (all:List Oper) (l0:List SI) (n0:Nat):List SI->Nat->Nat->List GW->List (Nat×List Nat)->VS->(VS->VT)->VT
 |[],_,_,_,_,S,K=>K S
 |x::r,i,nx,gs,ps,S,K=>match putC N x.o.dst with
  | .bad=>.bad
  | .mk u=>match guardSym all x.o S.T with
    |some k=>.ite k (vDOp P c all l0 n0 nx x gs ps u (λS'=>vDOps P N c all l0 n0 r (Nat.succ i) (nxNext x nx) (gsNext x i (S.know k true) gs) (psNext x i (S.know k true) ps) S' K) (S.know k true)) (vDOp P c all l0 n0 nx x gs ps u (λS'=>vDOps P N c all l0 n0 r (Nat.succ i) (nxNext x nx) (gsNext x i (S.know k false) gs) (psNext x i (S.know k false) ps) S' K) (S.know k false))
    |none=>vDOp P c all l0 n0 nx x gs ps u (λS'=>vDOps P N c all l0 n0 r (Nat.succ i) (nxNext x nx) (gsNext x i S gs) (psNext x i S ps) S' K) S
def vDraw (P:Program) (N fuel:Nat) (c:VC) (ops:List Oper) (S:VS) (X:VX->VT) (K:VS->VT):VT:=match plan ops with
 | .mk l _=>match tailAt l 0 with
   |b=>match okTwos (takeS b l) 0&&alWrs (takeS b l) (takeS b l)with
    |true=>match alHeap P (takeS b l) S.H with
     |some H=>vDOps P N c ops (takeS b l) S.H.next (takeS b l) 0 S.H.next [] [] ⟨S.T,H,S.n,S.lv,S.D⟩ λS=>vOps P N fuel c ops X (dropO b ops) S K
     |none=>.bad
    |false=>.bad
 | .no=>.bad
def isF (c:VC) (o:Oper):Bool:=match o.op with
 | .call cl=>match cl.callee with
   | .value f=>match f with
     | .func g=>match ftOf c.fs g with
       |some _=>true
       |none=>false
     |_=>false
   |_=>false
 |_=>false
def hasF (c:VC):List Oper->Bool
 |[]=>false
 |o::r=>match isF c o with
  |true=>true
  |false=>hasF c r
def rdyE (m:Nat):List Edge->Bool
 |[]=>true
 |e::r=>match bindsE e with
  |true=>bit m e.on&&rdyE m r
  |false=>rdyE m r
structure I_q where
 i:Nat
 o:Oper
def rdyL (m:Nat):List Oper->Nat->List I_q
 |[],_=>[]
 |o::r,i=>match not (bit m i)&&rdyE m o.after.toList with
  |true=>⟨i,o⟩::rdyL m r (Nat.succ i)
  |false=>rdyL m r (Nat.succ i)
def setB (m i:Nat):Nat:=Nat.lor m (Nat.pow 2 i)
def dirE (i:Nat):List Edge->Bool
 |[]=>false
 |e::r=>match bindsE e&&Nat.beq e.on i with
  |true=>true
  |false=>dirE i r
def apartB (all:List Oper) (x y:Oper):Bool:=(match x.dst with
    |some d=>not (memT d (readsOf all y))&&(match y.dst with
     |some e=>not (Nat.beq d e)
     |none=>true)
    |none=>true)&&(match y.dst with
    |some e=>not (memT e (readsOf all x))
    |none=>true)
def freeB (all:List Oper) (m i:Nat) (x:Oper):List Oper->Nat->Bool
 |[],_=>true
 |y::r,j=>(Nat.beq j i||(bit m j||(dirE i y.after.toList||apartB all x y)))&&freeB all m i x r (Nat.succ j)
def noSel:List Oper->Bool
 |[]=>true
 |o::r=>match o.op with
  | .select _ _=>false
  |_=>noSel r
def mvVal (P:Program) (T:Tm) (o:Oper):Option AV:=match o.guard with
 |some _=>none
 |none=>match o.op with
  | .move x=>some (look T x)
  | .nilCheck x=>match look T x with
    | .ptr id off=>some (.ptr id off)
    |_=>none
  | .fieldAddr s x f=>match look T x with
    | .ptr id off=>evField P s (.ptr id off) f
    |_=>none
  | .extract x i=>match look T x with
    | .tup cs=>nthL i cs
    |_=>none
  |_=>none
structure MV where
 x:I_q
 a:AV
def pickMv (P:Program) (all:List Oper) (m:Nat) (T:Tm):List I_q->Option MV
 |[]=>none
 |x::r=>match mvVal P T x.o with
  |some a=>match freeB all m x.i x.o all 0 with
   |true=>some ⟨x,a⟩
   |false=>pickMv P all m T r
  |none=>pickMv P all m T r
def eqPs:List (Nat×AV)->List (Nat×AV)->Bool
 |[],[]=>true
 |(i,a)::r,(j,b)::s=>Nat.beq i j&&(beqA a b&&eqPs r s)
 |_,_=>false
def eqRs:List (Nat×List AV)->List (Nat×List AV)->Bool
 |[],[]=>true
 |(i,a)::r,(j,b)::s=>Nat.beq i j&&(beqL a b&&eqRs r s)
 |_,_=>false
def eqON:Option Nat->Option Nat->Bool
 |none,none=>true
 |some a,some b=>Nat.beq a b
 |_,_=>false
def eqOs:List (Option Nat)->List (Option Nat)->Bool
 |[],[]=>true
 |a::r,b::s=>eqON a b&&eqOs r s
 |_,_=>false
def eqNs:List (Nat×Nat)->List (Nat×Nat)->Bool
 |[],[]=>true
 |(i,a)::r,(j,b)::s=>Nat.beq i j&&(Nat.beq a b&&eqNs r s)
 |_,_=>false
def eqTAs:List TA->List TA->Bool
 |[],[]=>true
 |⟨a,b,c,d,e⟩::r,⟨a',b',c',d',e'⟩::s=>Nat.beq a a'&&(Nat.beq b b'&&(Nat.beq c c'&&(Nat.beq d d'&&(eqON e e'&&eqTAs r s))))
 |_,_=>false
def eqTpl:Tpl->Tpl->Bool
 |⟨a,b,c,d,e,f,g⟩,⟨a',b',c',d',e',f',g'⟩=>eqPs a a'&&(eqRs b b'&&(Nat.beq c c'&&(Nat.beq d d'&&(eqTAs e e'&&(eqNs f f'&&eqNs g g')))))
def eqEx:List (Bool×Tpl)->List (Bool×Tpl)->Bool
 |[],[]=>true
 |(i,a)::r,(j,b)::s=>i==j&&(eqTpl a b&&eqEx r s)
 |_,_=>false
def eqFT:FT->FT->Bool
 |⟨a,b,c⟩,⟨a',b',c'⟩=>Nat.beq a a'&&(eqTpl b b'&&eqEx c c')
def eqXO:XOp->XOp->Bool
 | .bin o t a b,.bin o' t' a' b'=>decide (o=o')&&(Nat.beq t t'&&(a==a'&&b==b'))
 | .un o,.un o'=>decide (o=o')
 | .conv a b,.conv a' b'=>Nat.beq a a'&&Nat.beq b b'
 | .idx a,.idx a'=>Nat.beq a a'
 | .iaddr a,.iaddr a'=>Nat.beq a a'
 | .faddr a b,.faddr a' b'=>Nat.beq a a'&&Nat.beq b b'
 | .load a,.load a'=>Nat.beq a a'
 | .fld a b,.fld a' b'=>Nat.beq a a'&&Nat.beq b b'
 | .slc t a b,.slc t' a' b'=>Nat.beq t t'&&(a==a'&&b==b')
 | .len a,.len a'=>Nat.beq a a'
 | .nilc,.nilc=>true
 | .app a b,.app a' b'=>Nat.beq a a'&&Nat.beq b b'
 | .mm a,.mm a'=>a==a'
 | .ext a,.ext a'=>Nat.beq a a'
 | .inb,.inb=>true
 | .ldx a b c,.ldx a' b' c'=>Nat.beq a a'&&(Nat.beq b b'&&Nat.beq c c')
 | .stx a b c,.stx a' b' c'=>Nat.beq a a'&&(Nat.beq b b'&&Nat.beq c c')
 | .tkx,.tkx=>true
 | .emp,.emp=>true
 | .mkx a b c,.mkx a' b' c'=>Nat.beq a a'&&(Nat.beq b b'&&beqL c c')
 | .skx,.skx=>true
 | .flat a b c d,.flat a' b' c' d'=>Nat.beq a a'&&(Nat.beq b b'&&(Nat.beq c c'&&Nat.beq d d'))
 |_,_=>false
def eqChk:Chk->Chk->Bool
 | .same i j,.same i' j'=>Nat.beq i i'&&Nat.beq j j'
 | .nn i,.nn i'=>Nat.beq i i'
 | .pos i,.pos i'=>Nat.beq i i'
 |_,_=>false
mutual
def eqVT:VT->VT->Bool
 | .done v,.done w=>beqA v w
 | .ite i a b,.ite i' a' b'=>Nat.beq i i'&&(eqVT a a'&&eqVT b b')
 | .lt o l n m t,.lt o' l' n' m' t'=>eqXO o o'&&(beqL l l'&&(Nat.beq n n'&&(eqON m m'&&eqVT t t')))
 | .call f l n sh t,.call f' l' n' sh' t'=>Nat.beq f f'&&(beqL l l'&&(Nat.beq n n'&&(eqOs sh sh'&&eqVT t t')))
 | .loop n j hv bs,.loop n' j' hv' bs'=>Nat.beq n n'&&(Nat.beq j j'&&(beqL hv hv'&&eqVTs bs bs'))
 | .again l j hv,.again l' j' hv'=>Nat.beq l l'&&(Nat.beq j j'&&beqL hv hv')
 | .chk c t,.chk c' t'=>eqChk c c'&&eqVT t t'
 | .callF f ft hv n bs,.callF f' ft' hv' n' bs'=>Nat.beq f f'&&(eqFT ft ft'&&(beqL hv hv'&&(Nat.beq n n'&&eqVTs bs bs')))
 | .both a b,.both a' b'=>eqVT a a'&&eqVT b b'
 |_,_=>false
def eqVTs:VTs->VTs->Bool
 | .nil,.nil=>true
 | .cons n t r,.cons n' t' r'=>Nat.beq n n'&&(eqVT t t'&&eqVTs r r')
 |_,_=>false
end
def mkBoth (a b:VT):VT:=match eqVT a b with
 |true=>a
 |false=>.both a b
def bothL (f:I_q->VT) (x:I_q):List I_q->VT
 |[]=>f x
 |y::r=>mkBoth (f x) (bothL f y r)
def vAny (P:Program) (N fuel:Nat) (c:VC) (all:List Oper) (X:VX->VT) (K:VS->VT):Nat->Nat->VS->VT
 |0,_,_=>.bad
 |n+1,m,S=>match rdyL m all 0 with
  |[]=>K S
  |x::r=>match pickMv P all m S.T (x::r)with
   |some q=>match putC N q.x.o.dst with
    | .mk u=>vAny P N fuel c all X K n (setB m q.x.i) ⟨u S.T q.a,S.H,S.n,S.lv,S.D⟩
    | .bad=>.bad
   |none=>bothL (λx=>vOps P N fuel c all X [x.o] S λS'=>vAny P N fuel c all X K n (setB m x.i) S') x r
def blurL:List Oper->Tm->Tm
 |[],T=>T
 |o::r,T=>match o.dst with
  |some d=>blurL r (tset T d .opq)
  |none=>blurL r T
def blurX (ops:List Oper) (X:VX->VT) (r:VX):VT:=match r with
 | .pan v S=>X (.pan v ⟨blurL ops S.T,S.H,S.n,S.lv,S.D⟩)
 | .exit i S=>X (.exit i S)
 | .ret S=>X (.ret S)
def dstB (N:Nat):List Oper->Bool
 |[]=>true
 |o::r=>(match o.dst with
  |some d=>Nat.blt d N
  |none=>true)&&dstB N r
def anyFS (c:VC):Nat->List SI->Bool
 |0,_=>false
 |_+1,[]=>false
 |n+1,x::r=>match isF c x.o with
  |true=>true
  |false=>anyFS c n r
def anyF (c:VC) (ops:List Oper):Bool:=match plan ops with
 | .mk l _=>anyFS c (tailAt l 0) l
 | .no=>true
def vAnyR (P:Program) (N fuel:Nat) (c:VC) (ops:List Oper) (S:VS) (X:VX->VT) (K:VS->VT):VT:=match noSel ops&&(dstB N ops&&Nat.ble N 512)with
 |true=>vAny P N fuel c ops (blurX ops X) K (Nat.succ (lenOp ops)) 0 S
 |false=>.bad
where
 lenOp:List Oper->Nat
 |[]=>0
 |_::r=>Nat.succ (lenOp r)
def srcD (T:Tm):List Oper->Nat->AV
 |[],_=>.opq
 |o::r,t=>match o.op with
  | .move x=>match o.dst with
    |some d=>match Nat.beq d t with
     |true=>look T x
     |false=>srcD T r t
    |none=>srcD T r t
  |_=>srcD T r t
def readD (own:Bool) (T:Tm) (all:List Oper) (x i:Operand):List AV:=match x with
 | .tmp b=>match srcD T all b with
   | .slx id z k=>match own with
     |true=>[]
     |false=>[.slx id z k]
   | .sl id off len z cap=>match i with
     | .tmp j=>match srcD T all j with
       | .sym _=>[.sl id off len z cap]
       |_=>[]
     |_=>[]
   |_=>[]
 |_=>[]
def putsD (T:Tm) (all:List Oper):List (Nat×Operand)->List AV
 |[]=>[]
 |(_,x)::r=>match x with
  | .tmp t=>match srcD T all t with
    | .slx id z k=>.slx id z k::putsD T all r
    |_=>putsD T all r
  |_=>putsD T all r
def readsD (own:Bool) (T:Tm) (all:List Oper):List Oper->List AV
 |[]=>[]
 |o::r=>match o.op with
  | .indexAddr _ x i=>appA (readD own T all x i) (readsD own T all r)
  | .buildSlice _ _ ps=>match own with
    |true=>readsD own T all r
    |false=>appA (putsD T all ps.toList) (readsD own T all r)
  |_=>readsD own T all r
def frzD (own:Bool) (l:List Oper) (S:VS):VS:=match readsD own S.T l l with
 |[]=>S
 |a=>vFrz S a
def vLoop (b:VS->(VS->VT)->VT):Nat->VS->VT
 |0,_=>.bad
 |n+1,S=>b S λS'=>vLoop b n S'
def vAgain (n k lvl:Nat) (tps:List Tpl) (S:VS):VT:=match matchAny n k tps 0 S with
 |some r=>sames r.l (chks r.m.nn (.again lvl r.j r.m.hv))
 |none=>.bad
def vBodies (b:VS->(VS->VT)->VT) (n k lvl:Nat) (tps:List Tpl):List Tpl->VTs
 |[]=>.nil
 |tp::r=>.cons tp.nv (b (tp.inst n (Nat.succ lvl)) (vAgain n k lvl tps)) (vBodies b n k lvl tps r)
def vTpl (k:Nat) (b:VS->(VS->VT)->VT) (tps:List Tpl) (S:VS):VT:=match matchAny S.n k tps 0 S with
 |some r=>sames r.l (chks r.m.nn (.loop S.n r.j r.m.hv (vBodies b S.n k S.lv tps tps)))
 |none=>.bad
def vEnd (id:Nat) (K:VS->VT) (X:VX->VT) (r:VX):VT:=match r with
 | .exit id' S=>match Nat.beq id' id with
   |true=>K S
   |false=>X r
 | .ret _=>X r
 | .pan _ _=>X r
def vCode (P:Program) (N fuel:Nat) (c:VC):Nat->Code->VS->(VS->VT)->(VX->VT)->VT
 |_,.skip,S,K,X=>K S
 |_,.label _,S,K,X=>K S
 |_,.region _ ops draw,S,K,X=>match draw with
  |false=>vOps P N fuel c ops.toList X ops.toList S K
  |true=>match drawE P (callN P fuel) N ops.toList S.T S.H S.D with
   |some r=>match r with
    | .norm T H D=>K ⟨T,H,S.n,S.lv,D⟩
    |_=>.bad
   |none=>match hasF c ops.toList with
    |false=>vDraw P N fuel c ops.toList (frzD c.own ops.toList S) X K
    |true=>match anyF c ops.toList with
     |true=>vAnyR P N fuel c ops.toList S X K
     |false=>vDraw P N fuel c ops.toList (frzD c.own ops.toList S) X K
 |bid,.seq a b,S,K,X=>vCode P N fuel c bid a S (λS=>vCode P N fuel c bid b S K X) X
 |bid,.cond cd a b,S,K,X=>match look S.T cd with
  | .bool t=>match t with
    |true=>vCode P N fuel c bid a S K X
    |false=>vCode P N fuel c bid b S K X
  |_=>match symTmp S.T cd with
   |some i=>.ite i (vCode P N fuel c bid a (S.know i true) K X) (vCode P N fuel c bid b (S.know i false) K X)
   |none=>.bad
 |_,.block id b,S,K,X=>vCode P N fuel c id b S K (vEnd id K X)
 |bid,.loop b,S,K,X=>match hintsOf c.hs bid with
  |some tps=>vTpl c.k (λS K=>vCode P N fuel c bid b S K X) tps S
  |none=>vLoop (λS K=>vCode P N fuel c bid b S K X) fuel S
 |_,.exit id,S,K,X=>X (.exit id S)
 |_,.ret,S,K,X=>X (.ret S)
 |_,_,_,_,_=>.bad
def vDoneV (Q:Option (AV×AHeap)):VT:=match Q with
 |some (a,H)=>match snap 100 H a with
  |some v=>match symOk v with
   |true=>.done v
   |false=>.bad
  |none=>.bad
 |none=>.bad
def vDone (P:Program) (fuel:Nat) (rs:List ResultVar) (u:Option AV) (S:VS):VT:=match leaveE P (callN P fuel) fuel rs S.T S.D S.H u with
 |some r=>match r with
  | .ret a H=>vDoneV (some (a,H))
  | .pan _ _=>.bad
 |none=>.bad
def vRet (P:Program) (fuel:Nat) (rs:List ResultVar) (r:VX):VT:=match r with
 | .ret S=>vDone P fuel rs none S
 | .pan v S=>vDone P fuel rs (some v) S
 | .exit _ _=>.bad
def vFin (n k:Nat) (b:Bool) (S:VS):List (Bool×Tpl)->Nat->VT
 |[],_=>.bad
 |(b',tp)::r,j=>match b==b' with
  |false=>vFin n k b S r (Nat.succ j)
  |true=>match readyT tp S with
   |f=>match matchT n k tp f.S with
    |some m=>sames f.l (chks m.nn (.done (.tup (.int .i64 (.ofNat j)::m.hv))))
    |none=>vFin n k b S r (Nat.succ j)
def vDoneF (P:Program) (fuel:Nat) (rs:List ResultVar) (ft:FT) (u:Option AV) (S:VS):VT:=match leaveE P (callN P fuel) fuel rs S.T S.D S.H u with
 |some r=>match r with
  | .ret a H=>vFin (Nat.add 64 ft.ent.nv) ft.k false ⟨tset topq 0 a,H,S.n,S.lv,[]⟩ ft.exs 0
  | .pan a H=>vFin (Nat.add 64 ft.ent.nv) ft.k true ⟨tset topq 0 a,H,S.n,S.lv,[]⟩ ft.exs 0
 |none=>.bad
def vRetF (P:Program) (fuel:Nat) (rs:List ResultVar) (ft:FT) (r:VX):VT:=match r with
 | .ret S=>vDoneF P fuel rs ft none S
 | .pan v S=>vDoneF P fuel rs ft (some v) S
 | .exit _ _=>.bad
def vFnF (P:Program) (fuel:Nat) (c:VC) (f:FuncId) (ft:FT):VT:=match P.funcs[f]? with
 |some fn=>match fn.body with
  |some cd=>match Nat.ble (lenA (valsT ft.ent.slots)) fn.ntmps&&(Nat.ble fn.ntmps 512&&Nat.beq c.k ft.k)with
   |true=>vCode P fn.ntmps fuel c 0 cd ⟨enterT (instL 64 (valsT ft.ent.slots)) 0 tnil,ft.ent.heap 64,Nat.add 64 ft.ent.nv,0,[]⟩ (vDoneF P fuel fn.results.toList ft none) (vRetF P fuel fn.results.toList ft)
   |false=>.bad
  |none=>.bad
 |none=>.bad
def vFn (P:Program) (fuel:Nat) (c:VC) (f:FuncId) (args:List AV) (n:Nat):VT:=match P.funcs[f]? with
 |some fn=>match fn.body with
  |some cd=>match Nat.ble (lenA args) fn.ntmps&&Nat.ble fn.ntmps 512 with
   |true=>vCode P fn.ntmps fuel c 0 cd ⟨enterT args 0 tnil,H0,n,0,[]⟩ (vDone P fuel fn.results.toList none) (vRet P fuel fn.results.toList)
   |false=>.bad
  |none=>.bad
 |none=>.bad
end
end Go.Sx
