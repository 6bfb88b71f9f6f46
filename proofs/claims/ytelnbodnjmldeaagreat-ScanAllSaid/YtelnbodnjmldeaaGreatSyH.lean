/-
  The evaluator with symbols, with loops by templates and calls by what is known of them.
-/
import Derived.Test.YtelnbodnjmldeaaGreatSyN
set_option linter.all false
open Nat renaming eq_of_beq_eq_true→za',blt_eq→zd'
open List renaming mem_cons_of_mem→zb',mem_cons_self→zc'
namespace Go.Sx
structure TA where
 id:Nat
 sz:Nat
 j:Nat
 loc:Nat
 off:Option Nat
structure BH where
 slots:List (Nat×AV)
 rows:List (Nat×List AV)
 next:Nat
 nv:Nat
 acc:List TA:=[]
 maps:List (Nat×Nat):=[]
 fix:List (Nat×Nat):=[]
abbrev kS:=List (Nat×List BH)
structure FT where
 k:Nat
 ent:BH
 exs:List (Bool×BH)
inductive Dl where
 |same (i j:Nat)
 |nn (i:Nat)
 |pos (i:Nat)
mutual
inductive VT where
 |bad
 |done (v:AV)
 |ite (i:Nat) (a b:VT)
 |lt (op:XOp) (ag:List AV) (n:Nat) (m:Option Nat) (t:VT)
 |call (f:FuncId) (ag:List AV) (n:Nat) (sh:List (Option Nat)) (t:VT)
 |loop (n j:Nat) (hv:List AV) (bs:Hp)
 |again (lvl j:Nat) (hv:List AV)
 |chk (c:Dl) (t:VT)
 |callF (f:FuncId) (ft:FT) (hv:List AV) (n:Nat) (bs:Hp)
 |both (a b:VT)
inductive Hp where
 |nil
 |cons (nv:Nat) (t:VT) (r:Hp)
end
def flat:List (Option Nat)->List AV->Option (List AV)
 |[],[]=>some []
 |none::s,a::r=>match flat s r with
  |some l=>some (a::l)
  |none=>none
 |some m::s,.agg cs::r=>match decide (cs.length=m)with
  |true=>match flat s r with
   |some l=>some (cs++l)
   |none=>none
  |false=>none
 |_,_=>none
def Kp (sh:List (Option Nat)) (v:AV):Option (List AV):=match sh with
 |[s]=>flat [s] [v]
 |sh=>match v with
  | .tup l=>flat sh l
  |_=>none
def Fo:Nat->List (Option Nat)->List AV
 |_,[]=>[]
 |n,none::s=>.sym n::Fo (Nat.succ n) s
 |n,some m::s=>.agg (Ae n m)::Fo (Nat.add n m) s
def Ik (n:Nat) (sh:List (Option Nat)):AV:=match sh with
 |[s]=>match Fo n [s]with
  |a::_=>a
  |[]=>.tup []
 |sh=>.tup (Fo n sh)
def FH:List (Option Nat)->Nat
 |[]=>0
 |none::s=>Nat.succ (FH s)
 |some m::s=>Nat.add m (FH s)
mutual
def DC (n:Nat):AV->AV
 | .slx j z i=>match z with
   |0=>.sym (Nat.add n j)
   |z+1=>.slx j (z+1) (Nat.add n i)
 | .ptx id j sz _=>.slx id sz j
 | .vptr cs=>.vptr (CB n cs)
 | .vsl a z cs=>.vsl a z (CB n cs)
 | .fn f cs=>.fn f (CB n cs)
 | .iface t a=>.iface t (DC n a)
 | .agg cs=>.agg (CB n cs)
 | .tup cs=>.tup (CB n cs)
 |a=>a
def CB (n:Nat):List AV->List AV
 |[]=>[]
 |a::r=>DC n a::CB n r
end
def Fq (n:Nat):List (Nat×AV)->Tm
 |[]=>AP
 |(t,a)::r=>D9 (Fq n r) t (DC n a)
def Mm (n next:Nat):List (Nat×List AV)->AHeap
 |[]=>⟨AE,next,Bb⟩
 |(id,cs)::r=>(Mm n next r).set id (.cells (CB n cs))
def Lx (n:Nat) (H:AHeap):List TA->AHeap
 |[]=>H
 |t::r=>(Lx n H r).set t.id (.syl (Nat.add n t.j))
def Ox (n:Nat) (H:AHeap):List (Nat×Nat)->AHeap
 |[]=>H
 |(id,j)::r=>(Ox n H r).set id (.mpl (Nat.add n j))
def KT:Nat:=1500
def K4 (i:Nat):Nat:=Nat.div (Nat.sub i KT) 16
def zF (i:Nat):Nat:=Nat.mod (Nat.sub i KT) 16
def Iz (n i:Nat):Nat:=match Nat.blt i KT with
 |true=>i
 |false=>Nat.add n (K4 i)
def Oc (n:Nat) (H:AHeap):List (Nat×Nat)->AHeap
 |[]=>H
 |(id,i)::r=>(Oc n H r).set id (.syl (Iz n i))
def NL:List (Nat×Nat)->List Nat->List Nat
 |[],acc=>acc
 |(id,_)::r,acc=>id::NL r acc
def VQ (H:AHeap) (id:Nat):Option AV:=match H.get id with
 |some (.map es _)=>match Bm (B8 es)&&Ms es with
  |true=>some (.vsl (Kf es) 2 (B8 es))
  |false=>none
 |some (.mpl i)=>some (.sym i)
 |_=>none
def QG:List (Nat×List AV)->List Nat
 |[]=>[]
 |(id,_)::r=>id::QG r
mutual
def XW:AV->AV->List (Nat×AV)->List (Nat×AV)
 | .slx j z _,a,acc=>match z with
   |0=>(j,a)::acc
   |_+1=>acc
 | .agg ts,.agg cs,acc=>Mf ts cs acc
 | .tup ts,.tup cs,acc=>Mf ts cs acc
 | .vptr ts,.vptr cs,acc=>Mf ts cs acc
 | .vsl _ _ ts,.vsl _ _ cs,acc=>Mf ts cs acc
 | .fn _ ts,.fn _ cs,acc=>Mf ts cs acc
 | .iface _ t,.iface _ a,acc=>XW t a acc
 |_,_,acc=>acc
def Mf:List AV->List AV->List (Nat×AV)->List (Nat×AV)
 |t::ts,a::r,acc=>XW t a (Mf ts r acc)
 |_,_,acc=>acc
end
def Py:List (Nat×AV)->Nat->Option AV
 |[],_=>none
 |(i,a)::r,j=>match Nat.beq i j with
  |true=>some a
  |false=>Py r j
def TZ (acc:List (Nat×AV)):Nat->Nat->Option (List AV)
 |_,0=>some []
 |j,m+1=>match Py acc j with
  |some a=>match TZ acc (Nat.succ j) m with
   |some l=>some (a::l)
   |none=>none
  |none=>none
structure DA where
 id:Nat
 sz:Nat
 j:Nat
 x:AV
 act:Option Nat
def Le (H:AHeap) (sz:Nat) (a:AV):Option (AV×Option Nat):=match a with
 | .nsl=>some (.nsl,none)
 | .slx id sz' i=>match H.get id with
   |some (.syl k)=>match Nat.beq k i&&Nat.beq sz' sz with
    |true=>some (.sym i,some id)
    |false=>none
   |_=>none
 | .sl id off len sz' _=>match H.get id with
   |some (.cells cs)=>match CJ (Nat.mul len sz) cs with
    |some cs=>match Nat.beq off 0&&(Nat.beq sz' sz&&(Nat.blt 0 len&&(Nat.beq (Bs cs) (Nat.mul len sz)&&(Bm cs&&Dc cs))))with
     |true=>some (.vsl len sz cs,some id)
     |false=>none
    |none=>none
   |_=>none
 |_=>none
def K8:Nat->List AV->Option AV
 |_,[]=>none
 |0,a::_=>some a
 |n+1,_::r=>K8 n r
def BT:List (Nat×Nat)->Nat->Option Nat
 |[],_=>none
 |(a,t)::r,i=>match Nat.beq a i with
  |true=>some t
  |false=>BT r i
def NX (T:Tm) (H:AHeap) (rn:List (Nat×Nat)) (t:TA):Option AV:=match t.off with
 |none=>some (Ao T t.loc)
 |some o=>match BT rn t.loc with
  |some a=>match H.get a with
   |some (.cells cs)=>K8 o cs
   |_=>none
  |none=>match Ao T (Nat.sub t.loc 600)with
   | .tup cs=>K8 o cs
   | .agg cs=>K8 o cs
   |_=>none
def NQ (T:Tm) (H:AHeap) (rn:List (Nat×Nat)):List TA->Option (List DA)
 |[]=>some []
 |t::r=>match NX T H rn t with
  |some a=>match Le H t.sz a with
   |some (x,act)=>match NQ T H rn r with
    |some l=>some (⟨t.id,t.sz,t.j,x,act⟩::l)
    |none=>none
   |none=>none
  |none=>none
def CO:List DA->Nat->Option DA
 |[],_=>none
 |d::r,id=>match Nat.beq d.id id with
  |true=>some d
  |false=>CO r id
def Ji:Option Nat->Option Nat->Bool
 |none,none=>true
 |some a,some b=>Nat.beq a b
 |_,_=>false
mutual
def mA (H:AHeap) (ds:List DA) (rn:List (Nat×Nat)) (hv:List AV) (n:Nat):AV->AV->Bool
 | .opq,_=>true
 | .sym i,a=>Nat.blt i n&&CG (.sym i) a
 | .ptr id off,a=>match a with
   | .ptr id' off'=>Ji (BT rn id) (some id')&&Nat.beq off off'
   |_=>false
 | .sl id off len sz cap,a=>match a with
   | .sl id' off' len' sz' cap'=>Ji (BT rn id) (some id')&&(Nat.beq off off'&&(Nat.beq len len'&&(Nat.beq sz sz'&&(cap.isNone||cap==cap'))))
   |_=>false
 | .agg ts,a=>match a with
   | .agg cs=>mL H ds rn hv n ts cs
   |_=>false
 | .tup ts,a=>match a with
   | .tup cs=>mL H ds rn hv n ts cs
   |_=>false
 | .vptr ts,a=>match a with
   | .vptr cs=>mL H ds rn hv n ts cs
   |_=>false
 | .vsl len sz ts,a=>match a with
   | .vsl len' sz' cs=>Nat.beq len len'&&(Nat.beq sz sz'&&mL H ds rn hv n ts cs)
   |_=>false
 | .fn f ts,a=>match a with
   | .fn g cs=>Nat.beq f g&&mL H ds rn hv n ts cs
   |_=>false
 | .iface t x,a=>match a with
   | .iface u y=>Nat.beq t u&&mA H ds rn hv n x y
   |_=>false
 | .slx j z i,a=>match z with
   |0=>match C8 j hv with
    |some x=>CG x a
    |none=>false
   |z+1=>match CO ds j with
    |some d=>match Le H (Nat.succ z) a with
     |some (x,act)=>Nat.beq d.sz (Nat.succ z)&&(Nat.beq d.j i&&(CG d.x x&&Ji d.act act))
     |none=>false
    |none=>false
 | .ptx id i sz _,a=>match a with
   | .slx id' sz' i'=>Ji (BT rn id) (some id')&&(Nat.beq sz sz'&&(Nat.beq i i'&&Nat.blt i n))
   |_=>false
 | .map id,a=>match a with
   | .map id'=>Ji (BT rn id) (some id')
   |_=>false
 |t,a=>CG t a
def mL (H:AHeap) (ds:List DA) (rn:List (Nat×Nat)) (hv:List AV) (n:Nat):List AV->List AV->Bool
 |[],[]=>true
 |t::ts,a::r=>mA H ds rn hv n t a&&mL H ds rn hv n ts r
 |_,_=>false
end
mutual
def Im (n:Nat):AV->Bool
 | .sym i=>Nat.blt i n
 | .vptr cs=>CP n cs
 | .vsl _ _ cs=>CP n cs
 | .fn _ cs=>CP n cs
 | .iface _ a=>Im n a
 | .agg cs=>CP n cs
 | .tup cs=>CP n cs
 |_=>true
def CP (n:Nat):List AV->Bool
 |[]=>true
 |a::r=>Im n a&&CP n r
end
structure VS where
 T:Tm
 H:AHeap
 n:Nat
 lv:Nat
 D:Bj
inductive VX where
 |exit (id:Nat) (S:VS)
 |ret (S:VS)
 |pan (v:AV) (S:VS)
def VS.x (S:VS):XS:=⟨S.T,S.H,S.n⟩
def VS.know (S:VS) (i:Nat) (b:Bool):VS:=⟨BZ (Gt i b) S.T,S.H,S.n,S.lv,S.D⟩
def d5 (T:Tm):List (Nat×AV)->List (Nat×AV)->List (Nat×AV)
 |[],acc=>acc
 |(t,a)::r,acc=>XW a (Ao T t) (d5 T r acc)
def nZ (H:AHeap) (rn:List (Nat×Nat)):List (Nat×List AV)->List (Nat×AV)->List (Nat×AV)
 |[],acc=>acc
 |(id,cs)::r,acc=>match BT rn id with
  |some a=>match H.get a with
   |some (.cells l)=>Mf cs l (nZ H rn r acc)
   |_=>acc
  |none=>acc
def gi:List DA->List (Nat×AV)->List (Nat×AV)
 |[],acc=>acc
 |d::r,acc=>(d.j,d.x)::gi r acc
def mT (H:AHeap) (ds:List DA) (rn:List (Nat×Nat)) (hv:List AV) (n:Nat) (T:Tm):List (Nat×AV)->Bool
 |[]=>true
 |(t,a)::r=>Nat.blt t 512&&(mA H ds rn hv n a (Ao T t)&&mT H ds rn hv n T r)
def QN (id a:Nat) (rn:List (Nat×Nat)):List (Nat×Nat):=match BT rn id with
 |none=>(id,a)::rn
 |some _=>rn
mutual
def bc:AV->AV->List (Nat×Nat)->List (Nat×Nat)
 | .ptr id _,.ptr id' _,rn=>QN id id' rn
 | .sl id _ _ _ _,.sl id' _ _ _ _,rn=>QN id id' rn
 | .ptx id _ _ _,.slx id' _ _,rn=>QN id id' rn
 | .map id,.map id',rn=>QN id id' rn
 | .agg ts,.agg cs,rn=>Px ts cs rn
 | .tup ts,.tup cs,rn=>Px ts cs rn
 | .iface _ t,.iface _ a,rn=>bc t a rn
 |_,_,rn=>rn
def Px:List AV->List AV->List (Nat×Nat)->List (Nat×Nat)
 |t::ts,a::r,rn=>Px ts r (bc t a rn)
 |_,_,rn=>rn
end
def nu (T:Tm):List (Nat×AV)->List (Nat×Nat)->List (Nat×Nat)
 |[],rn=>rn
 |(t,a)::r,rn=>nu T r (bc a (Ao T t) rn)
def Ru (H:AHeap):List (Nat×List AV)->List (Nat×Nat)->List (Nat×Nat)
 |[],rn=>rn
 |(id,cs)::r,rn=>match BT rn id with
  |some a=>match H.get a with
   |some (.cells l)=>Ru H r (Px cs l rn)
   |_=>Ru H r rn
  |none=>match H.get id with
   |some (.cells l)=>Ru H r (Px cs l ((id,id)::rn))
   |_=>Ru H r rn
def X7:List (Nat×Nat)->List (Nat×Nat)->List (Nat×Nat)
 |[],rn=>rn
 |(id,_)::r,rn=>X7 r (QN id id rn)
def W8 (ids:List Nat):List (Nat×Nat)->List (Nat×Nat)
 |[]=>[]
 |(id,a)::r=>match BB id ids with
  |true=>(id,a)::W8 ids r
  |false=>W8 ids r
def BH.ids (tp:BH):List Nat:=NL tp.fix (NL tp.maps (QG tp.rows))
def bu (tp:BH) (T:Tm) (H:AHeap):List (Nat×Nat):=W8 tp.ids (X7 tp.fix (X7 tp.maps (Ru H tp.rows (nu T tp.slots []))))
def Yp:List (Nat×Nat)->List (Nat×Nat)->List (Nat×Nat)
 |[],acc=>acc
 |(id,a)::r,acc=>(a,id)::Yp r acc
def RD:List DA->List (Nat×Nat)->List (Nat×Nat)
 |[],acc=>acc
 |d::r,acc=>match d.act with
  |some i=>(i,d.id)::RD r acc
  |none=>RD r acc
def mN (ds:List DA) (inv:List (Nat×Nat)) (next:Nat):List (Nat×Nat)->Bool
 |[]=>true
 |(id,a)::r=>Nat.blt id next&&(Nat.blt id Bb&&(Ji (BT inv a) (some id)&&((CO ds id).isNone&&mN ds inv next r)))
def mH (ds:List DA) (rn:List (Nat×Nat)) (hv:List AV) (n:Nat) (H:AHeap):List (Nat×List AV)->Bool
 |[]=>true
 |(id,cs)::r=>(match BT rn id with
  |some a=>match H.get a with
   |some (.cells l)=>mL H ds rn hv n cs l
   |_=>false
  |none=>false)&&mH ds rn hv n H r
def mD (inv:List (Nat×Nat)) (hv:List AV) (next:Nat):List DA->Bool
 |[]=>true
 |d::r=>Nat.blt d.id next&&(Nat.blt d.id Bb&&((match C8 d.j hv with
  |some y=>CG y d.x
  |none=>false)&&((match d.act with
  |some i=>Ji (BT inv i) (some d.id)
  |none=>true)&&mD inv hv next r)))
def lO (H:AHeap) (rn:List (Nat×Nat)):List (Nat×Nat)->List (Nat×AV)->Option (List (Nat×AV))
 |[],acc=>some acc
 |(id,j)::r,acc=>match BT rn id with
  |some a=>match VQ H a with
   |some x=>match lO H rn r acc with
    |some l=>some ((j,x)::l)
    |none=>none
   |none=>none
  |none=>none
def mM (rn:List (Nat×Nat)) (hv:List AV) (H:AHeap):List (Nat×Nat)->Bool
 |[]=>true
 |(id,j)::r=>(match BT rn id with
  |some a=>match VQ H a with
   |some x=>match C8 j hv with
    |some y=>CG y x
    |none=>false
   |none=>false
  |none=>false)&&mM rn hv H r
def ji (cs:List AV) (x:AV):Bool:=match x with
 | .vsl len z cs'=>Ek cs' cs&&(Nat.beq (Bs cs) (Nat.mul len z)&&(Bm cs&&Dc cs))
 |_=>false
def mF (rn:List (Nat×Nat)) (hv:List AV) (n:Nat) (H:AHeap):List (Nat×Nat)->Bool
 |[]=>true
 |(id,i)::r=>(match BT rn id with
  |some a=>match H.get a with
   |some (.syl i')=>match Nat.blt i KT with
    |true=>Nat.blt i n&&Nat.beq i i'
    |false=>match C8 (K4 i) hv with
     |some x=>CG x (.sym i')
     |none=>false
   |some (.cells cs)=>match Nat.blt i KT with
    |true=>false
    |false=>match C8 (K4 i) hv with
     |some x=>ji cs x
     |none=>false
   |_=>false
  |none=>false)&&mF rn hv n H r
def Nj (rn:List (Nat×Nat)) (H:AHeap):List (Nat×Nat)->List (Nat×AV)->List (Nat×AV)
 |[],acc=>acc
 |(id,i)::r,acc=>match Nat.blt i KT with
  |true=>Nj rn H r acc
  |false=>match BT rn id with
   |some a=>match H.get a with
    |some (.syl i')=>(K4 i,.sym i')::Nj rn H r acc
    |some (.cells cs)=>(K4 i,.vsl (Nat.div (Bs cs) (zF i)) (zF i) cs)::Nj rn H r acc
    |_=>Nj rn H r acc
   |none=>Nj rn H r acc
def Wk (ds:List DA) (rn:List (Nat×Nat)):Nat->Bool
 |0=>true
 |k+1=>(match BT rn k with
  |some a=>Nat.beq a k
  |none=>match CO ds k with
   |some d=>Ji d.act (some k)
   |none=>false)&&Wk ds rn k
def P8:Bj->Bool
 |[]=>true
 |_=>false
structure MR where
 rn:List (Nat×Nat)
 ds:List DA
 hv:List AV
def MR.inv (m:MR):List (Nat×Nat):=RD m.ds (Yp m.rn [])
def ND (n:Nat) (tp:BH) (T:Tm) (H:AHeap):Option MR:=match bu tp T H with
 |rn=>match NQ T H rn tp.acc with
  |none=>none
  |some ds=>match lO H rn tp.maps (gi ds (d5 T tp.slots (nZ H rn tp.rows [])))with
   |none=>none
   |some ms=>match TZ (Nj rn H tp.fix ms) 0 tp.nv with
    |none=>none
    |some hv=>match MR.mk rn ds hv with
      |m=>match Bm hv&&(Dc hv&&(mT H ds rn hv n T tp.slots&&(mN ds m.inv tp.next rn&&(mH ds rn hv n H tp.rows&&(mD m.inv hv tp.next ds&&(mM rn hv H tp.maps&&(mF rn hv n H tp.fix&&Nat.ble tp.next Bb)))))))with
       |true=>some m
       |false=>none
def UI (k:Nat) (hv:List AV):List TA->Option (List Nat)
 |[]=>some []
 |t::r=>match UI k hv r with
  |none=>none
  |some l=>match Nat.blt t.id k with
   |false=>some l
   |true=>match C8 t.j hv with
    |some (.sym i)=>some (i::l)
    |some (.vsl _ _ _)=>some l
    |_=>none
structure MT where
 hv:List AV
 nn:List Nat
def Oq (n k:Nat) (tp:BH) (S:VS):Option MT:=match P8 S.D with
 |false=>none
 |true=>match ND n tp S.T S.H with
  |none=>none
  |some m=>match Wk m.ds m.rn k with
   |false=>none
   |true=>match UI k m.hv tp.acc with
    |none=>none
    |some l=>some ⟨m.hv,l⟩
mutual
def YD:AV->AV->List AV
 | .slx _ z _,a=>match z with
   |0=>match Bh a with
    |true=>[]
    |false=>[a]
   |_+1=>[]
 | .agg ts,.agg cs=>Xg ts cs
 | .tup ts,.tup cs=>Xg ts cs
 | .iface _ t,.iface _ a=>YD t a
 | .vsl _ _ _,.sl id o n z c=>[.sl id o n z c]
 |_,_=>[]
def Xg:List AV->List AV->List AV
 |t::ts,a::r=>IV (YD t a) (Xg ts r)
 |_,_=>[]
end
def V5 (T:Tm):List (Nat×AV)->List AV
 |[]=>[]
 |(t,a)::r=>IV (YD a (Ao T t)) (V5 T r)
def Ec (S:VS) (ag:List AV):VS:=let l:=Kg 100 S.H ag []
 ⟨BZ (frz (FY S.H l)) S.T,GK S.H l,S.n,S.lv,S.D⟩
def eM (S:VS) (ag:List AV) (id:Nat):VS:=let l:=Kg 100 S.H ag []
 ⟨BZ (frz (FY S.H l)) S.T,Sb (FY S.H l) id (GK S.H l),S.n,S.lv,S.D⟩
mutual
def FB (id i k:Nat):AV->AV
 | .slx a z j=>match Nat.beq a id&&Nat.beq j i with
   |true=>.slx a z k
   |false=>.slx a z j
 | .vptr cs=>.vptr (Jv id i k cs)
 | .vsl n z cs=>.vsl n z (Jv id i k cs)
 | .fn f cs=>.fn f (Jv id i k cs)
 | .iface t a=>.iface t (FB id i k a)
 | .agg cs=>.agg (Jv id i k cs)
 | .tup cs=>.tup (Jv id i k cs)
 |a=>a
def Jv (id i k:Nat):List AV->List AV
 |[]=>[]
 |a::r=>FB id i k a::Jv id i k r
end
structure SR where
 id:Nat
 i:Nat
 k:Nat
def NG (H:AHeap):List AV->List SR
 |[]=>[]
 |a::r=>match a with
  | .slx id _ i=>match H.get id with
    |some (.syl k)=>match Nat.beq i k with
     |true=>NG H r
     |false=>⟨id,i,k⟩::NG H r
    |_=>NG H r
  |_=>NG H r
def YA:List SR->List AV->List AV
 |[],l=>l
 |q::r,l=>YA r (Jv q.id q.i q.k l)
def I4:List SR->VS->VS
 |[],S=>S
 |q::r,S=>I4 r ⟨BZ (FB q.id q.i q.k) S.T,S.H,S.n,S.lv,S.D⟩
def aq:List SR->List (Nat×Nat)
 |[]=>[]
 |q::r=>(q.i,q.k)::aq r
structure FR where
 l:List (Nat×Nat)
 S:VS
def La (S:VS) (l:List AV):FR:=match NG S.H l with
 |[]=>⟨[],Ec S l⟩
 |q=>⟨aq q,Ec (I4 q S) (YA q l)⟩
def Jo (tp:BH) (S:VS):FR:=match V5 S.T tp.slots with
 |[]=>⟨[],S⟩
 |l=>La S l
def Ya (H:AHeap) (a:AV):Option (Nat×Nat×AV):=match a with
 | .slx id z i=>match H.get id with
   |some (.syl k)=>match Nat.beq i k with
    |true=>none
    |false=>some (i,k,.slx id z k)
   |_=>none
 |_=>none
def EO:Nat->AV->List AV->List AV
 |_,_,[]=>[]
 |0,x,_::r=>x::r
 |n+1,x,a::r=>a::EO n x r
def Tc (rn:List (Nat×Nat)) (t:TA) (S:VS):FR:=match NX S.T S.H rn t with
 |none=>⟨[],S⟩
 |some a=>match Ya S.H a with
  |none=>⟨[],S⟩
  |some (i,k,a')=>match t.off with
   |none=>match Nat.blt t.loc 512 with
    |true=>⟨[(i,k)],⟨D9 S.T t.loc a',S.H,S.n,S.lv,S.D⟩⟩
    |false=>⟨[],S⟩
   |some o=>match BT rn t.loc with
    |some r=>match S.H.get r with
     |some (.cells cs)=>⟨[(i,k)],⟨S.T,S.H.set r (.cells (EO o a' cs)),S.n,S.lv,S.D⟩⟩
     |_=>⟨[],S⟩
    |none=>match Ao S.T (Nat.sub t.loc 600)with
     | .tup cs=>match Nat.blt (Nat.sub t.loc 600) 512 with
       |true=>⟨[(i,k)],⟨D9 S.T (Nat.sub t.loc 600) (.tup (EO o a' cs)),S.H,S.n,S.lv,S.D⟩⟩
       |false=>⟨[],S⟩
     | .agg cs=>match Nat.blt (Nat.sub t.loc 600) 512 with
       |true=>⟨[(i,k)],⟨D9 S.T (Nat.sub t.loc 600) (.agg (EO o a' cs)),S.H,S.n,S.lv,S.D⟩⟩
       |false=>⟨[],S⟩
     |_=>⟨[],S⟩
def Jp (rn:List (Nat×Nat)):List TA->VS->FR
 |[],S=>⟨[],S⟩
 |t::r,S=>match Tc rn t S with
  |f=>match Jp rn r f.S with
   |g=>⟨appP f.l g.l,g.S⟩
where
 appP:List (Nat×Nat)->List (Nat×Nat)->List (Nat×Nat)
 |[],l=>l
 |x::r,l=>x::appP r l
def TO (tp:BH) (S:VS):FR:=Jp (bu tp S.T S.H) tp.acc S
def H6 (tp:BH) (S:VS):FR:=match Jo tp S with
 |f=>match TO tp f.S with
  |g=>⟨Jp.appP f.l g.l,g.S⟩
def Mp:List (Nat×Nat)->VT->VT
 |[],t=>t
 |(i,k)::r,t=>.chk (.same i k) (Mp r t)
structure MA where
 j:Nat
 l:List (Nat×Nat)
 m:MT
def HD (T:Tm):List (Nat×AV)->Bool
 |[]=>false
 |(t,a)::r=>(match a with
  | .int _ x=>match Ao T t with
    | .int _ y=>not (Ja x y)
    |_=>false
  |_=>false)||HD T r
def Nc (n k:Nat):List BH->Nat->VS->Option MA
 |[],_,_=>none
 |tp::r,j,S=>match HD S.T tp.slots with
  |true=>Nc n k r (Nat.succ j) S
  |false=>match H6 tp S with
   |f=>match Oq n k tp f.S with
    |some m=>some ⟨j,f.l,m⟩
    |none=>Nc n k r (Nat.succ j) S
def BH.heap (tp:BH) (n:Nat):AHeap:=Oc n (Ox n (Lx n (Mm n tp.next tp.rows) tp.acc) tp.maps) tp.fix
def BH.inst (tp:BH) (n lv:Nat):VS:=⟨Fq n tp.slots,tp.heap n,Nat.add n tp.nv,lv,[]⟩
def Rx:List Nat->VT->VT
 |[],t=>t
 |i::r,t=>.chk (.nn i) (Rx r t)
section
variable [Gl]
def DE:List (Nat×AV)->List AV
 |[]=>[]
 |(_,a)::r=>a::DE r
def Oi (ft:FT) (n:Nat) (Y0:Sy) (Q:Nat->List AV->Prop) (Y:Sy) (r:A5):Prop:=
 ∃j ws b tp,ft.exs[j]? =some (b,tp)/\Q j ws/\Ak ws=true/\ws.length=tp.nv/\Y=Y0.puts n ws/\r=(match b with
  |true=>.pan (Ao (Fq n tp.slots) 0) (tp.heap n)
  |false=>.ret (Ao (Fq n tp.slots) 0) (tp.heap n))
def CF (P:Program) (f:FuncId) (ft:FT) (vs:List AV) (Q:Nat->List AV->Prop):Prop:=
 vs.length=ft.ent.nv/\∀Y,AA Y 64->A0 P ft.k (Y.puts 64 vs) f (CB 64 (DE ft.ent.slots)) (ft.ent.heap 64) (Oi ft (Nat.add 64 ft.ent.nv) (Y.puts 64 vs) Q)
def Dl.ok (Y:Sy):Dl->Prop
 | .same i j=>(Y.v i=some .nsl/\Y.v j=some .nsl)\/∃n z cs ds,Y.v i=some (.vsl n z cs)/\Y.v j=some (.vsl n z ds)
 | .nn i=>∃n z cs,Y.v i=some (.vsl n z cs)
 | .pos i=>∃n z cs,Y.v i=some (.vsl (n+1) z cs)
mutual
def AC (P:Program) (Q:AV->Prop):List (Nat->List AV->Prop)->Sy->VT->Prop
 |_,_,.bad=>False
 |_,Y,.done v=>Q (Ar Y.v v)
 |L,Y,.ite i a b=>∃t,Y.v i=some (.bool t)/\(t=true->AC P Q L Y a)/\(t=false->AC P Q L Y b)
 |L,Y,.lt op ag n m t=>match m with
  |none=>∃r,op.run P (An Y.v ag)=some r/\okC r=true/\AC P Q L (Y.put n r) t
  |some k=>∃cs,op.run P (An Y.v ag)=some (.agg cs)/\cs.length=k/\Ak cs=true/\AC P Q L (Y.puts n cs) t
 |L,Y,.call f ag n sh t=>∃v vs,HL P f (An Y.v ag) v/\Kp sh v=some vs/\Ak vs=true/\AC P Q L (Y.puts n vs) t
 |L,Y,.loop n j hv bs=>∃(Inv:Nat->List AV->Prop) (μ:Nat->List AV->Nat),(∀j vs,Inv j vs->Ak vs=true)/\Inv j (An Y.v hv)/\Wo P Q Inv μ L n 0 Y bs
 |L,Y,.again lvl j hv=>∃R,L[lvl]? =some R/\R j (An Y.v hv)
 |L,Y,.chk c t=>c.ok Y/\AC P Q L Y t
 |L,Y,.callF f ft hv n bs=>∃R,CF P f ft (An Y.v hv) R/\Ak (An Y.v hv)=true/\PZ P Q R L (Y.puts n (An Y.v hv)) (Nat.add n ft.ent.nv) 0 bs
 |L,Y,.both a b=>AC P Q L Y a/\AC P Q L Y b
def Wo (P:Program) (Q:AV->Prop) (Inv:Nat->List AV->Prop) (μ:Nat->List AV->Nat):List (Nat->List AV->Prop)->Nat->Nat->Sy->Hp->Prop
 |_,_,_,_,.nil=>True
 |L,n,j,Y,.cons nv t r=>(∀vs,vs.length=nv->Inv j vs->AC P Q (L++[λj' vs'=>Inv j' vs'/\μ j' vs'<μ j vs]) (Y.puts n vs) t)/\Wo P Q Inv μ L n (j+1) Y r
def PZ (P:Program) (Q:AV->Prop) (R:Nat->List AV->Prop):List (Nat->List AV->Prop)->Sy->Nat->Nat->Hp->Prop
 |_,_,_,_,.nil=>True
 |L,Y,n,j,.cons _ t r=>(∀ws,R j ws->AC P Q L (Y.puts n ws) t)/\PZ P Q R L Y n (j+1) r
end
end
def Sc:kS->Nat->Option (List BH)
 |[],_=>none
 |(b,l)::r,bid=>match Nat.beq b bid with
  |true=>some l
  |false=>Sc r bid
section
variable [Gl]
abbrev cN:=List (FuncId×List (Option Nat))
def bp:cN->FuncId->Option (List (Option Nat))
 |[],_=>none
 |(g,sh)::r,f=>match Nat.beq g f with
  |true=>some sh
  |false=>bp r f
abbrev oI:=List (FuncId×FT)
def WH:oI->FuncId->Option FT
 |[],_=>none
 |(g,t)::r,f=>match Nat.beq g f with
  |true=>some t
  |false=>WH r f
structure VC where
 fc:S8
 cs:cN
 hs:kS
 k:Nat
 own:Bool
 fs:oI
def Wm (P:Program) (S:VS) (o:Oper):Option (Nat×Nat×XOp×List AV):=match P8 S.D with
 |true=>JE P S.T S.H o
 |false=>none
def Xq (P:Program) (S:VS) (o:Oper):Option (Nat×Nat×XOp×List AV):=match P8 S.D with
 |true=>match Hm P S.T S.H o with
  |some r=>some r
  |none=>Wy P S.T S.H o
 |false=>none
def bf (P:Program) (S:VS) (o:Oper):Option (Nat×XOp×List AV):=match P8 S.D with
 |true=>Yh P S.T S.H o
 |false=>none
def GV (hv:List AV) (n i:Nat):Nat:=match Nat.blt i 64 with
 |true=>i
 |false=>match C8 (Nat.sub i 64) hv with
  |some (.sym s)=>s
  |_=>Nat.add n (Nat.sub i 64)
def dR (hv:List AV) (n i:Nat):AV:=match Nat.blt i 64 with
 |true=>.sym i
 |false=>match C8 (Nat.sub i 64) hv with
  |some a=>match okC a with
   |true=>a
   |false=>.sym (GV hv n i)
  |none=>.sym (GV hv n i)
mutual
def Ee (hv:List AV) (n:Nat) (r:Nat->Nat):AV->AV
 | .sym i=>dR hv n i
 | .slx id z i=>.slx (r id) z (GV hv n i)
 | .ptx id j z off=>.ptx (r id) (GV hv n j) z off
 | .ptr id off=>.ptr (r id) off
 | .sl id off len sz cap=>.sl (r id) off len sz cap
 | .map id=>.map (r id)
 | .vptr cs=>.vptr (Fu hv n r cs)
 | .vsl a z cs=>.vsl a z (Fu hv n r cs)
 | .fn f cs=>.fn f (Fu hv n r cs)
 | .iface t a=>.iface t (Ee hv n r a)
 | .agg cs=>.agg (Fu hv n r cs)
 | .tup cs=>.tup (Fu hv n r cs)
 |a=>a
def Fu (hv:List AV) (n:Nat) (r:Nat->Nat):List AV->List AV
 |[]=>[]
 |a::l=>Ee hv n r a::Fu hv n r l
end
def QL (hv:List AV) (n:Nat) (r:Nat->Nat):A2->Option A2
 | .cells cs=>some (.cells (Fu hv n r cs))
 | .syl i=>some (.syl (GV hv n i))
 | .mpl i=>some (.mpl (GV hv n i))
 |_=>none
def J4 (hv:List AV) (n:Nat) (r:Nat->Nat) (F:AHeap) (base:AHeap):List Nat->AHeap
 |[]=>base
 |id::l=>match F.get id with
  |some k=>match QL hv n r k with
   |some k'=>(J4 hv n r F base l).set (r id) k'
   |none=>J4 hv n r F base l
  |none=>J4 hv n r F base l
def HA:List TA->List Nat->List Nat
 |[],l=>l
 |t::r,l=>t.id::HA r l
def NA:List (Nat×Nat)->List Nat->List Nat
 |[],l=>l
 |(_,a)::r,l=>a::NA r l
def Ml:List DA->List Nat->List Nat
 |[],l=>l
 |d::r,l=>match d.act with
  |some i=>i::Ml r l
  |none=>Ml r l
def Mu (m:MR) (j:Nat):Option Nat:=match BT m.rn j with
 |some a=>some a
 |none=>match CO m.ds j with
  |some d=>d.act
  |none=>none
def LE (m:MR):Nat->Option (List Nat)
 |0=>some []
 |k+1=>match LE m k with
  |some l=>match Mu m k with
   |some a=>some (snoc l a)
   |none=>none
  |none=>none
where
 snoc:List Nat->Nat->List Nat
 |[],a=>[a]
 |x::r,a=>x::snoc r a
def VA:Nat->List Nat->Option Nat
 |_,[]=>none
 |0,a::_=>some a
 |n+1,_::r=>VA n r
def Ph (low:List Nat) (k nx j:Nat):Nat:=match VA j low with
 |some a=>a
 |none=>Nat.add nx (Nat.sub j k)
mutual
def Ip:AV->Bool
 | .ptr id _=>Nat.blt id Bb
 | .sl id _ _ _ _=>Nat.blt id Bb
 | .map id=>Nat.blt id Bb
 | .slx id _ _=>Nat.blt id Bb
 | .ptx id _ _ _=>Nat.blt id Bb
 | .vptr cs=>HU cs
 | .vsl _ _ cs=>HU cs
 | .fn _ cs=>HU cs
 | .iface _ a=>Ip a
 | .agg cs=>HU cs
 | .tup cs=>HU cs
 |_=>true
def HU:List AV->Bool
 |[]=>true
 |a::r=>Ip a&&HU r
end
def Oy (n:Nat):List (Nat×List AV)->Bool
 |[]=>true
 |(_,cs)::r=>HU (CB n cs)&&Oy n r
def Oe:List Nat->Bool
 |[]=>true
 |i::r=>Nat.blt i Bb&&Oe r
def Ti (H:AHeap):List Nat->Bool
 |[]=>true
 |a::r=>(H.get a).isSome&&Ti H r
def QI:Nat->List (Nat×AV)->Bool
 |_,[]=>true
 |i,(j,_)::r=>Nat.beq i j&&(Nat.blt i 512&&QI (Nat.succ i) r)
def UA (k n:Nat) (H:AHeap):List (Bool×BH)->Bool
 |[]=>true
 |(_,tp)::r=>Nat.ble k tp.next&&(Nat.blt (Nat.add H.next (Nat.sub tp.next k)) H.hi&&(Ip (Ao (Fq n tp.slots) 0)&&(Oy n tp.rows&&(Oe (HA tp.acc tp.ids)&&UA k n H r))))
def HP (ft:FT) (m:MR) (low:List Nat) (S:VS) (tp:BH):AHeap:=J4 m.hv S.n (Ph low ft.k S.H.next) (tp.heap (Nat.add 64 ft.ent.nv))
 (match GK S.H (Ml m.ds (NA m.rn []))with
   |B=>⟨B.tr,Nat.add S.H.next (Nat.sub tp.next ft.k),B.hi⟩) (HA tp.acc tp.ids)
def Kx (ft:FT) (m:MR) (low:List Nat) (S:VS) (tp:BH):AV:=Ee m.hv S.n (Ph low ft.k S.H.next) (Ao (Fq (Nat.add 64 ft.ent.nv) tp.slots) 0)
def OW (ft:FT) (S:VS) (tp:BH):Nat:=Nat.add (Nat.add S.n ft.ent.nv) tp.nv
def Wj (ft:FT) (m:MR) (low:List Nat) (u:Tm->AV->Tm) (S:VS) (X:VX->VT) (k:VS->VT):List (Bool×BH)->Hp
 |[]=>.nil
 |(b,tp)::r=>.cons tp.nv (match b with
  |false=>k ⟨u S.T (Kx ft m low S tp),HP ft m low S tp,OW ft S tp,S.lv,S.D⟩
  |true=>X (.pan (Kx ft m low S tp) ⟨S.T,HP ft m low S tp,OW ft S tp,S.lv,S.D⟩)) (Wj ft m low u S X k r)
def Sk (g:FuncId) (ft:FT) (u:Tm->AV->Tm) (S:VS) (ag:List AV) (X:VX->VT) (k:VS->VT):VT:=match TO ft.ent ⟨C6 ag 0 AP,S.H,S.n,S.lv,[]⟩with
 |f=>match ND 64 ft.ent f.S.T f.S.H with
  |none=>.bad
  |some m=>match LE m ft.k with
   |none=>.bad
   |some low=>match UA ft.k (Nat.add 64 ft.ent.nv) f.S.H ft.exs&&(Nat.ble f.S.H.hi Bb&&(Nat.beq (Bs ag) (Bs (DE ft.ent.slots))&&(QI 0 ft.ent.slots&&Ti f.S.H low)))with
    |true=>Mp f.l (.callF g ft m.hv S.n (Wj ft m low u ⟨S.T,f.S.H,S.n,S.lv,S.D⟩ X k ft.exs))
    |false=>.bad
def XG (P:Program) (g:FuncId) (ft:FT) (o:Oper) (u:Tm->AV->Tm) (S:VS) (ag:List AV) (X:VX->VT) (k:VS->VT):VT:=match V5 (C6 ag 0 AP) ft.ent.slots with
 |[]=>Sk g ft u S ag X k
 |l=>match La S l with
  |f=>match (A3 P o).run f.S.T f.S.H with
   |some r=>match r with
    | .call g' args'=>match Nat.beq g' g with
      |true=>Mp f.l (Sk g ft u f.S args' X k)
      |false=>.bad
    |_=>.bad
   |none=>.bad
def aC (P:Program) (Q:AV->Prop) (fc:S8) (L:List (Nat->List AV->Prop)) (n:Nat) (Y:Sy) (ret pan:AV->AHeap->Nat->Nat->VT) (Y':Sy) (r:A5):Prop:=
 ∃(n' lv':Nat) (L':List (Nat->List AV->Prop)),L <+: L'/\L'.length=lv'/\n<=n'/\(∀i,i<n->Y'.v i=Y.v i)/\(AA Y' n'/\Br P fc Y')/\(match r with
  | .ret a H=>AC P Q L' Y' (ret a H n' lv')
  | .pan a H=>AC P Q L' Y' (pan a H n' lv'))
structure C3 (P:Program) (fuel:Nat) where
 run:VC->FuncId->List AV->AHeap->Nat->Nat->(AV->AHeap->Nat->Nat->VT)->(AV->AHeap->Nat->Nat->VT)->VT
 ok:∀{c:VC} {g:FuncId} {ag:List AV} {H:AHeap} {n lv:Nat} {ret pan:AV->AHeap->Nat->Nat->VT} {Q:AV->Prop} {L:List (Nat->List AV->Prop)} {Y:Sy},P.follows .mixedOrders=true->Cj P (CL P fuel)->L.length=lv->AA Y n/\Br P c.fc Y->
  AC P Q L Y (run c g ag H n lv ret pan)->A0 P H.next Y g ag H (aC P Q c.fc L n Y ret pan)
def vn (P:Program) (fuel:Nat):C3 P fuel:=⟨λ_ _ _ _ _ _ _ _=>.bad,λ_ _ _ _ h=>by grind [AC]⟩
mutual
def GZ (k n:Nat):AV->Bool
 | .ptr id _=>Nat.blt id k
 | .sl id _ _ _ _=>Nat.blt id k
 | .map id=>Nat.blt id k
 | .slx id _ i=>Nat.blt id k&&Nat.blt i n
 | .ptx id j _ _=>Nat.blt id k&&Nat.blt j n
 | .sym i=>Nat.blt i n
 | .vptr cs=>K5 k n cs
 | .vsl _ _ cs=>K5 k n cs
 | .fn _ cs=>K5 k n cs
 | .iface _ a=>GZ k n a
 | .agg cs=>K5 k n cs
 | .tup cs=>K5 k n cs
 |_=>true
def K5 (k n:Nat):List AV->Bool
 |[]=>true
 |a::r=>GZ k n a&&K5 k n r
end
def D3 (k n:Nat) (a:AV):AV:=match GZ k n a with
 |true=>a
 |false=>.opq
def Vl (k n:Nat):Bj->Bool
 |[]=>true
 |(_,ag)::r=>K5 k n ag&&Vl k n r
def SM (P:Program) {fuel:Nat} (I:C3 P fuel) (c:VC) (o:Oper) (u:Tm->AV->Tm) (S:VS) (X:VX->VT) (k:VS->VT):VT:=match Vl S.H.next S.n S.D&&Nat.ble c.k S.H.next with
 |false=>.bad
 |true=>match BZ (D3 S.H.next S.n) S.T with
  |T1=>match (A3 P o).run T1 S.H with
   |some r=>match r with
    | .call g ag=>I.run c g ag S.H S.n S.lv
      (λa H n lv=>match Nat.beq lv S.lv with
       |true=>k ⟨u T1 a,H,n,lv,S.D⟩
       |false=>.bad)
      (λa H n lv=>match Nat.beq lv S.lv with
       |true=>X (.pan a ⟨T1,H,n,lv,S.D⟩)
       |false=>.bad)
    |_=>.bad
   |none=>.bad
def aU (P:Program) (fuel:Nat) (I:C3 P fuel) (c:VC) (o:Oper) (u:Tm->AV->Tm) (S:VS) (g:FuncId) (ag:List AV) (X:VX->VT) (k:VS->VT):VT:=match WH c.fs g with
 |some ft=>XG P g ft o u S ag X k
 |none=>match bp c.cs g with
  |some sh=>match Bm ag with
   |true=>.call g ag S.n sh (k ⟨u S.T (Ik S.n sh),S.H,Nat.add S.n (FH sh),S.lv,S.D⟩)
   |false=>match (A3 P o).run (Ec S ag).T (Ec S ag).H with
    |some r=>match r with
     | .call g' args'=>match Nat.beq g' g&&Bm args' with
       |true=>.call g args' S.n sh (k ⟨u (Ec S ag).T (Ik S.n sh),(Ec S ag).H,Nat.add S.n (FH sh),S.lv,S.D⟩)
       |false=>.bad
     |_=>.bad
    |none=>.bad
  |none=>match CL P fuel g ag S.H with
   |some r=>match r with
    | .ret a H'=>k ⟨u S.T a,H',S.n,S.lv,S.D⟩
    | .pan _ _=>SM P I c o u S X k
   |none=>SM P I c o u S X k
def SU (P:Program) (c:VC) (u:Tm->AV->Tm) (S:VS) (k:VS->VT) (op:XOp) (ag:List AV):VT:=match O5 P op with
 |none=>match QZ c.fc.b op ag with
  |some v=>k ⟨u S.T v,S.H,S.n,S.lv,S.D⟩
  |none=>.lt op ag S.n none (k ⟨u S.T (.sym S.n),S.H,Nat.succ S.n,S.lv,S.D⟩)
 |some m=>.lt op ag S.n (some m) (k ⟨u S.T (.agg (Ae S.n m)),S.H,Nat.add S.n m,S.lv,S.D⟩)
def Yl (P:Program) (c:VC) (o:Oper) (u:Tm->AV->Tm) (S:VS) (k:VS->VT):Option VT:=match c.own with
 |false=>none
 |true=>match PE P S.T o with
  |some a=>some (k ⟨u S.T a,S.H,S.n,S.lv,S.D⟩)
  |none=>match Nr P S.T o with
   |some (op,ag,id,sz)=>some (.lt op ag S.n none (k ⟨u S.T (.ptx id S.n sz 0),S.H,Nat.succ S.n,S.lv,S.D⟩))
   |none=>match Ng S.T S.H o with
    |some (op,ag)=>match O5 P op with
     |none=>some (.lt op ag S.n none (k ⟨u S.T (.sym S.n),S.H,Nat.succ S.n,S.lv,S.D⟩))
     |some m=>some (.lt op ag S.n (some m) (k ⟨u S.T (.agg (Ae S.n m)),S.H,Nat.add S.n m,S.lv,S.D⟩))
    |none=>match JS S.T S.H o with
     |some (op,ag,id)=>some (.lt op ag S.n none (k ⟨u S.T (.tup []),S.H.set id (.syl S.n),Nat.succ S.n,S.lv,S.D⟩))
     |none=>match Yd P S.T S.H o with
        |some (op,ag,id,sz)=>some (.lt op ag S.n none (k ⟨u S.T (.slx id sz S.n),S.H.set id (.syl S.n),Nat.succ S.n,S.lv,S.D⟩))
        |none=>none
def XM (P:Program) (fuel:Nat) (I:C3 P fuel) (c:VC) (o:Oper) (u:Tm->AV->Tm) (S:VS) (X:VX->VT) (k:VS->VT):VT:=match (A3 P o).run S.T S.H with
 |some r=>match r with
  | .val a H'=>k ⟨u S.T a,H',S.n,S.lv,S.D⟩
  | .call g ag=>aU P fuel I c o u S g ag X k
  | .dfr g ag=>k ⟨u S.T (.tup []),S.H,S.n,S.lv,(g,ag)::S.D⟩
  | .pan v=>X (.pan v S)
  |_=>.bad
 |none=>match aI o S.T with
  |some (i,a,b)=>.ite i (k ⟨u (S.know i true).T (look (S.know i true).T a),S.H,S.n,S.lv,S.D⟩) (k ⟨u (S.know i false).T (look (S.know i false).T b),S.H,S.n,S.lv,S.D⟩)
  |none=>match br c.fc.x S.T o with
   |some v=>k ⟨u S.T v,S.H,S.n,S.lv,S.D⟩
   |none=>match Yl P c o u S k with
    |some t=>t
    |none=>match Wm P S o with
    |some (id,sz,op,ag)=>.lt op ag S.n none (k ⟨u S.T (.slx S.H.next sz S.n),(S.H.erase id).push (.syl S.n),Nat.succ S.n,S.lv,S.D⟩)
    |none=>match Xq P S o with
    |some (id,sz,op,ag)=>.lt op ag S.n none (k ⟨u S.T (.slx S.H.next sz S.n),(S.H.erase id).push (.syl S.n),Nat.succ S.n,S.lv,S.D⟩)
    |none=>match FA S.T o with
     |some (op,ag)=>.lt op ag S.n none (k ⟨u S.T (.sym S.n),S.H,Nat.succ S.n,S.lv,S.D⟩)
     |none=>match bf P S o with
     |some (id,op,ag)=>.lt op ag S.n none (k ⟨u S.T (.tup []),S.H.set id (.mpl S.n),Nat.succ S.n,S.lv,S.D⟩)
     |none=>match bD S.T S.H o with
     |some (op,ag)=>match YU P o with
      |true=>.lt op ag S.n none (k ⟨u S.T (.sym S.n),S.H,Nat.succ S.n,S.lv,S.D⟩)
      |false=>.bad
     |none=>match Nw S.T S.H o with
     |some (op,ag)=>.lt op ag S.n none (k ⟨u S.T (.sym S.n),S.H,Nat.succ S.n,S.lv,S.D⟩)
     |none=>match W5 S.T S.H o with
     |some (op,ag)=>.lt op ag S.n none (k ⟨u S.T (.sym S.n),S.H,Nat.succ S.n,S.lv,S.D⟩)
     |none=>match aQ P S.T o with
     |some (op,ag)=>.lt op ag S.n none (k ⟨u S.T (.sym S.n),S.H,Nat.succ S.n,S.lv,S.D⟩)
     |none=>match FO S.T o with
      |some (op,ag)=>match Bm ag with
       |true=>SU P c u S k op ag
       |false=>match FO (Ec S ag).T o with
        |some (op',args')=>match Bm args' with
         |true=>SU P c u (Ec S ag) k op' args'
         |false=>.bad
        |none=>.bad
      |none=>.bad
def lA (all:List Oper) (o:Oper) (T:Tm):Option Bool:=match Du all o with
 | .always=>some true
 | .mk g=>g T
def N4 (P:Program) (fuel:Nat) (I:C3 P fuel) (c:VC) (all:List Oper) (o:Oper) (u:Tm->AV->Tm) (X:VX->VT) (next:VS->VT) (S:VS):VT:=match lA all o S.T with
 |some t=>match t with
  |false=>next ⟨u S.T (.tup []),S.H,S.n,S.lv,S.D⟩
  |true=>XM P fuel I c o u S X next
 |none=>.bad
def aR (T:Tm):List (Nat×Operand)->List AV
 |[]=>[]
 |(_,x)::r=>match look T x with
  | .slx id z i=>.slx id z i::aR T r
  |_=>aR T r
def Pz:List AV->List AV
 |[]=>[]
 |a::r=>match a with
  | .slx id z i=>.slx id z i::Pz r
  | .sl id o l z c=>.sl id o l z c::Pz r
  |_=>Pz r
def Pl (T:Tm):List (Nat×Operand)->List AV
 |[]=>[]
 |(_,x)::r=>match look T x with
  | .slx id z i=>.slx id z i::Pl T r
  | .sl id o l z c=>.sl id o l z c::Pl T r
  | .agg cs=>IV (Pz cs) (Pl T r)
  |_=>Pl T r
def LV (own:Bool) (o:Oper) (S:VS):VS:=match o.op with
 | .buildSlice _ _ ps=>match (match own with
   |true=>Pl S.T ps.toList
   |false=>aR S.T ps.toList)with
   |[]=>S
   |a=>Ec S a
 | .call c=>match own with
   |false=>S
   |true=>match c.callee with
    | .builtin b=>match b with
      | .append=>match c.args.toList with
        |[_,x]=>match look S.T x with
         | .sl id _ _ _ _=>match S.H.get id with
          |some (.cells cs)=>match Pz cs with
           |[]=>S
           |a=>eM S a id
          |_=>S
         |_=>S
        |_=>S
      |_=>S
    |_=>S
 |_=>S
def J0 (P:Program) (N fuel:Nat) (I:C3 P fuel) (c:VC) (all:List Oper) (X:VX->VT):List Oper->VS->(VS->VT)->VT
 |[],S,K=>K S
 |o::r,S,K=>match CN N o.dst with
  | .bad=>.bad
  | .mk u=>match fC all o S.T with
    |some i=>.ite i (N4 P fuel I c all o u X (λS=>J0 P N fuel I c all X r S K) (S.know i true)) (N4 P fuel I c all o u X (λS=>J0 P N fuel I c all X r S K) (S.know i false))
    |none=>N4 P fuel I c all o u X (λS=>J0 P N fuel I c all X r S K) (LV c.own o S)
def Gz (x:SI):Bool:=match x.o.op with
 | .alloc _=>true
 | .box _ _=>true
 | .buildSlice _ _ _=>true
 |_=>false
inductive OO where
 |none
 |one (id:Nat)
 |all
def N2 (x:SI) (R:Tm):OO:=match x.o.op with
 | .call c=>match OX x with
   |false=>.all
   |true=>match c.args.toList with
    |s::r=>match look R s with
     | .slx id _ _=>.one id
     | .sym _=>.none
     | .sl id _ _ _ _=>.one id
     | .vsl n _ _=>match n with
       |0=>match r with
        |y::_=>match look R y with
          | .sym _=>.none
          |_=>.all
        |[]=>.all
       |_+1=>.all
     |_=>.all
    |[]=>.all
 |_=>.all
def Rs (x:SI) (R:Tm):Bool:=match OX x with
 |false=>false
 |true=>match N2 x R with
  | .all=>false
  |_=>true
def Hj (x:SI) (R:Tm):OO:=match Gz x with
 |true=>.none
 |false=>match x.o.op with
  | .store _ a _=>match look R a with
    | .ptr id _=>.one id
    | .ptx id _ _ _=>.one id
    |_=>.all
  |_=>N2 x R
def apart (t:OO) (ids:List Nat):Bool:=match t with
 | .none=>true
 | .one id=>not (BB id ids)
 | .all=>match ids with
   |[]=>true
   |_::_=>false
structure GW where
 i:Nat
 H:AHeap
 t:OO
def Rb (bef:Nat) (H:AHeap):List GW->AHeap
 |[]=>H
 |g::r=>match AW bef g.i with
  |true=>H
  |false=>Rb bef g.H r
def Ps (bef:Nat) (ids:List Nat):List GW->Bool
 |[]=>true
 |g::r=>match AW bef g.i with
  |true=>true
  |false=>apart g.t ids&&Ps bef ids r
def V7 (bef:Nat) (t:OO):List (Nat×List Nat)->Bool
 |[]=>true
 |(i,ids)::r=>(AW bef i||apart t ids)&&V7 bef t r
def Ia (H:AHeap):List Nat->AHeap
 |[]=>⟨AE,0,0⟩
 |id::r=>match H.get id with
  |some b=>(Ia H r).set id b
  |none=>Ia H r
def zw (a:AV) (acc:List Nat):List Nat:=match a with
 | .ptr id _=>id::acc
 | .sl id _ _ _ _=>id::acc
 | .map id=>id::acc
 | .ptx id _ _ _=>id::acc
 |_=>acc
def mV (T:Tm):List Nat->List Nat
 |[]=>[]
 |t::r=>zw (Ao T t) (mV T r)
def Jq (x:SI) (T:Tm):List Nat:=match vX_ x with
 |true=>[]
 |false=>mV T x.rd
def Na (x:SI) (S:VS) (gs:List GW):AHeap:=Ia (Rb x.bef S.H gs) (Jq x S.T)
def Ty (x:SI) (i:Nat) (y:SI):Bool:=match Cq x&&Cq y with
 |true=>AW y.bef i
 |false=>true
def WV (x:SI) (i:Nat):List SI->Bool
 |[]=>true
 |y::r=>Ty x i y&&WV x i r
def UM:List SI->Nat->Bool
 |[],_=>true
 |x::r,i=>WV x i r&&UM r (Nat.succ i)
def XC (x:SI):Nat->Bool
 |0=>true
 |n+1=>AW x.bef n&&XC x n
def fT (x:SI) (i n:Nat):Nat:=match Nat.beq n (Nat.succ i)&&XC x i with
 |true=>i
 |false=>n
def HE:List SI->Nat->Nat
 |[],i=>i
 |x::r,i=>fT x i (HE r (Nat.succ i))
def Hn:Nat->List SI->List SI
 |0,_=>[]
 |_+1,[]=>[]
 |n+1,x::r=>x::Hn n r
def VH:Nat->List Oper->List Oper
 |0,l=>l
 |_+1,[]=>[]
 |n+1,_::r=>VH n r
def UB (P:Program) (x:SI) (Hx:AHeap) (u:Tm->AV->Tm) (S:VS) (k:VS->VT):VT:=match Ev (A3 P x.o) (BR S.T x.rd AP) Hx with
 |some q=>k ⟨u S.T q,S.H,S.n,S.lv,S.D⟩
 |none=>.bad
def lm (u:Tm->AV->Tm) (S:VS) (k:VS->VT) (R:Tm) (o:Oper) (id sz:Nat) (op:XOp) (ag:List AV):VT:=match CP S.n ag with
 |true=>match S.H.get S.H.next with
  |none=>match LM ag with
   |true=>.lt op ag S.n none (k ⟨u S.T (.slx S.H.next sz S.n),(S.H.erase id).push (.syl S.n),Nat.succ S.n,S.lv,S.D⟩)
   |false=>match HG ag with
    |some i=>.lt .emp [.sym i] S.n none (.ite S.n (k ⟨u S.T (KB R o),S.H,Nat.succ S.n,S.lv,S.D⟩)
     (.lt op ag (Nat.succ S.n) none (k ⟨u S.T (.slx S.H.next sz (Nat.succ S.n)),(S.H.erase id).push (.syl (Nat.succ S.n)),Nat.succ (Nat.succ S.n),S.lv,S.D⟩)))
    |none=>.bad
  |some _=>.bad
 |false=>.bad
def QY (P:Program) (x:SI) (u:Tm->AV->Tm) (S:VS) (k:VS->VT):VT:=match OX x with
 |false=>.bad
 |true=>match JE P (BR S.T x.rd AP) S.H x.o with
  |some (id,sz,op,ag)=>match CP S.n ag with
   |true=>match S.H.get S.H.next with
    |none=>match LM ag with
     |true=>.lt op ag S.n none (k ⟨u S.T (.slx S.H.next sz S.n),(S.H.erase id).push (.syl S.n),Nat.succ S.n,S.lv,S.D⟩)
     |false=>match HG ag with
        |some i=>.chk (.pos i) (.lt op ag S.n none (k ⟨u S.T (.slx S.H.next sz S.n),(S.H.erase id).push (.syl S.n),Nat.succ S.n,S.lv,S.D⟩))
        |none=>.bad
    |some _=>.bad
   |false=>.bad
  |none=>match Hm P (BR S.T x.rd AP) S.H x.o with
   |some (id,sz,op,ag)=>lm u S k (BR S.T x.rd AP) x.o id sz op ag
   |none=>match FO (BR S.T x.rd AP) x.o with
    |some (op,ag)=>match Bm ag&&CP S.n ag with
     |true=>match O5 P op with
      |none=>.lt op ag S.n none (k ⟨u S.T (.sym S.n),S.H,Nat.succ S.n,S.lv,S.D⟩)
      |some _=>.bad
     |false=>.bad
    |none=>.bad
def ii (P:Program) (c:VC) (x:SI) (u:Tm->AV->Tm) (S:VS) (k:VS->VT):VT:=match (A3 P x.o).run (BR S.T x.rd AP) S.H with
 |some r=>match r with
  | .val a H'=>match Gz x with
    |true=>match S.H.get S.H.next with
     |none=>k ⟨u S.T a,H',S.n,S.lv,S.D⟩
     |some _=>.bad
    |false=>match Rs x (BR S.T x.rd AP)with
     |true=>QY P x u S k
     |false=>k ⟨u S.T a,H',S.n,S.lv,S.D⟩
  |_=>.bad
 |none=>match c.own with
  |false=>QY P x u S k
  |true=>match JS (BR S.T x.rd AP) S.H x.o with
   |some (op,ag,id)=>match CP S.n ag&&not (Gz x)with
    |true=>.lt op ag S.n none (k ⟨u S.T (.tup []),S.H.set id (.syl S.n),Nat.succ S.n,S.lv,S.D⟩)
    |false=>.bad
   |none=>QY P x u S k
def nC (P:Program) (c:VC) (R:Tm) (Hx:AHeap) (o:Oper) (u:Tm->AV->Tm) (S:VS) (k:VS->VT):Option VT:=match c.own with
 |false=>none
 |true=>match PE P R o with
  |some a=>some (k ⟨u S.T a,S.H,S.n,S.lv,S.D⟩)
  |none=>match Nr P R o with
   |some (op,ag,id,sz)=>match CP S.n ag with
    |true=>some (.lt op ag S.n none (k ⟨u S.T (.ptx id S.n sz 0),S.H,Nat.succ S.n,S.lv,S.D⟩))
    |false=>none
   |none=>match Ng R Hx o with
    |some (op,ag)=>match CP S.n ag with
     |true=>match O5 P op with
        |none=>some (.lt op ag S.n none (k ⟨u S.T (.sym S.n),S.H,Nat.succ S.n,S.lv,S.D⟩))
        |some m=>some (.lt op ag S.n (some m) (k ⟨u S.T (.agg (Ae S.n m)),S.H,Nat.add S.n m,S.lv,S.D⟩))
     |false=>none
    |none=>match FA R o with
     |some (op,ag)=>match CP S.n ag with
        |true=>some (.lt op ag S.n none (k ⟨u S.T (.sym S.n),S.H,Nat.succ S.n,S.lv,S.D⟩))
        |false=>none
     |none=>none
def aX (P:Program) (R:Tm) (o:Oper):Option AV:=match o.op with
 | .buildSlice t n ps=>match MX P ⟨AE,0,1⟩ t n (II (look R) ps.toList)with
   |some r=>match r.1 with
    | .sl _ _ len sz _=>match r.2.get 0 with
      |some (.cells cs)=>match Bm cs with
       |true=>some (.vsl len sz cs)
       |false=>none
      |_=>none
    |_=>none
   |none=>none
 |_=>none
def oh (P:Program) (x:SI) (u:Tm->AV->Tm) (S:VS) (k:VS->VT):VT:=match aX P (BR S.T x.rd AP) x.o with
 |some q=>k ⟨u S.T q,S.H,S.n,S.lv,S.D⟩
 |none=>.bad
def fA (P:Program) (c:VC) (x:SI) (Hx:AHeap) (u:Tm->AV->Tm) (S:VS) (k:VS->VT):VT:=match Ev (A3 P x.o) (BR S.T x.rd AP) Hx with
 |some q=>k ⟨u S.T q,S.H,S.n,S.lv,S.D⟩
 |none=>match nC P c (BR S.T x.rd AP) Hx x.o u S k with
 |some t=>t
 |none=>match (A3 P x.o).run (BR S.T x.rd AP) Hx with
  |some r=>match r with
   | .call g ag=>match bp c.cs g with
     |some sh=>match Bm ag&&CP S.n ag with
      |true=>.call g ag S.n sh (k ⟨u S.T (Ik S.n sh),S.H,Nat.add S.n (FH sh),S.lv,S.D⟩)
      |false=>.bad
     |none=>.bad
   |_=>.bad
  |none=>match aI x.o S.T with
   |some (i,_,_)=>.ite i (UB P x Hx u (S.know i true) k) (UB P x Hx u (S.know i false) k)
   |none=>match Nw (BR S.T x.rd AP) Hx x.o with
    |some (op,ag)=>match CP S.n ag with
     |true=>.lt op ag S.n none (k ⟨u S.T (.sym S.n),S.H,Nat.succ S.n,S.lv,S.D⟩)
     |false=>.bad
    |none=>match FO (BR S.T x.rd AP) x.o with
     |some (op,ag)=>match Bm ag&&CP S.n ag with
      |true=>match O5 P op with
        |none=>.lt op ag S.n none (k ⟨u S.T (.sym S.n),S.H,Nat.succ S.n,S.lv,S.D⟩)
        |some m=>.lt op ag S.n (some m) (k ⟨u S.T (.agg (Ae S.n m)),S.H,Nat.add S.n m,S.lv,S.D⟩)
      |false=>.bad
     |none=>.bad
def NC (P:Program) (x:SI) (nx:Nat):Option (AV×A2):=match x.o.op with
 | .alloc t=>match M9 P ⟨AE,nx,Nat.succ nx⟩ t with
   |some p=>match p.2.get nx with
    |some k=>some (p.1,k)
    |none=>none
   |none=>none
 |_=>none
def Rz (P:Program):List SI->AHeap->Option AHeap
 |[],H=>some H
 |x::r,H=>match C0 x with
  |false=>Rz P r H
  |true=>match H.get H.next with
   |some _=>none
   |none=>match H.room with
    |false=>none
    |true=>match NC P x H.next with
     |some p=>Rz P r (H.push p.2)
     |none=>none
def OD (bef:Nat) (ids:List Nat):List SI->Nat->Nat->Bool
 |[],_,_=>true
 |y::r,i,nx=>match C0 y with
  |false=>OD bef ids r (Nat.succ i) nx
  |true=>(AW bef i||not (BB nx ids))&&OD bef ids r (Nat.succ i) (Nat.succ nx)
def ON (bef:Nat):List SI->Nat->Bool
 |[],_=>true
 |y::r,i=>match C0 y with
  |false=>ON bef r (Nat.succ i)
  |true=>AW bef i&&ON bef r (Nat.succ i)
def NN (l0:List SI):List SI->Bool
 |[]=>true
 |x::r=>match Cq x with
  |false=>NN l0 r
  |true=>ON x.bef l0 0&&NN l0 r
def K6 (x:SI) (nx:Nat):Nat:=match C0 x with
 |true=>Nat.succ nx
 |false=>nx
def Oz (P:Program) (c:VC) (all:List Oper) (l0:List SI) (n0 nx:Nat) (x:SI) (gs:List GW) (ps:List (Nat×List Nat)) (u:Tm->AV->Tm) (next:VS->VT) (S:VS):VT:=match CR all x (BR S.T x.rd AP)with
 |some t=>match t with
  |false=>next ⟨u S.T (.tup []),S.H,S.n,S.lv,S.D⟩
  |true=>match C0 x with
   |true=>match NC P x nx with
    |some p=>next ⟨u S.T p.1,S.H,S.n,S.lv,S.D⟩
    |none=>.bad
   |false=>match Cq x with
    |true=>match V7 x.bef (Hj x (BR S.T x.rd AP)) ps with
     |true=>ii P c x u S next
     |false=>.bad
    |false=>match Ps x.bef (Jq x S.T) gs&&OD x.bef (Jq x S.T) l0 0 n0 with
     |true=>match x.fz with
      |true=>oh P x u S next
      |false=>fA P c x (Na x S gs) u S next
     |false=>.bad
 |none=>.bad
def P6 (x:SI) (i:Nat) (S:VS) (gs:List GW):List GW:=match Cq x with
 |true=>⟨i,S.H,Hj x (BR S.T x.rd AP)⟩::gs
 |false=>gs
def P1 (x:SI) (i:Nat) (S:VS) (ps:List (Nat×List Nat)):List (Nat×List Nat):=match Cq x with
 |true=>ps
 |false=>(i,Jq x S.T)::ps
def Mn (P:Program) (N:Nat) (c:VC) (all:List Oper) (l0:List SI) (n0:Nat):List SI->Nat->Nat->List GW->List (Nat×List Nat)->VS->(VS->VT)->VT
 |[],_,_,_,_,S,K=>K S
 |x::r,i,nx,gs,ps,S,K=>match CN N x.o.dst with
  | .bad=>.bad
  | .mk u=>match fC all x.o S.T with
    |some k=>.ite k (Oz P c all l0 n0 nx x gs ps u (λS'=>Mn P N c all l0 n0 r (Nat.succ i) (K6 x nx) (P6 x i (S.know k true) gs) (P1 x i (S.know k true) ps) S' K) (S.know k true)) (Oz P c all l0 n0 nx x gs ps u (λS'=>Mn P N c all l0 n0 r (Nat.succ i) (K6 x nx) (P6 x i (S.know k false) gs) (P1 x i (S.know k false) ps) S' K) (S.know k false))
    |none=>Oz P c all l0 n0 nx x gs ps u (λS'=>Mn P N c all l0 n0 r (Nat.succ i) (K6 x nx) (P6 x i S gs) (P1 x i S ps) S' K) S
def Re (P:Program) (N fuel:Nat) (I:C3 P fuel) (c:VC) (Af:List Oper) (S:VS) (X:VX->VT) (K:VS->VT):VT:=match M0 Af with
 | .mk l _=>match HE l 0 with
   |b=>match UM (Hn b l) 0&&NN (Hn b l) (Hn b l)with
    |true=>match Rz P (Hn b l) S.H with
     |some H=>Mn P N c Af (Hn b l) S.H.next (Hn b l) 0 S.H.next [] [] ⟨S.T,H,S.n,S.lv,S.D⟩ λS=>J0 P N fuel I c Af X (VH b Af) S K
     |none=>.bad
    |false=>.bad
 | .no=>.bad
def cR (c:VC) (o:Oper):Bool:=match o.op with
 | .call cl=>match cl.callee with
   | .value f=>match f with
     | .func g=>match WH c.fs g with
       |some _=>true
       |none=>false
     |_=>false
   |_=>false
 |_=>false
def kY (c:VC):List Oper->Bool
 |[]=>false
 |o::r=>match cR c o with
  |true=>true
  |false=>kY c r
def Ld (m:Nat):List Edge->Bool
 |[]=>true
 |e::r=>match JV e with
  |true=>AW m e.on&&Ld m r
  |false=>Ld m r
structure Gk where
 i:Nat
 o:Oper
def Ii (m:Nat):List Oper->Nat->List Gk
 |[],_=>[]
 |o::r,i=>match not (AW m i)&&Ld m o.after.toList with
  |true=>⟨i,o⟩::Ii m r (Nat.succ i)
  |false=>Ii m r (Nat.succ i)
def Lu (m i:Nat):Nat:=Nat.lor m (Nat.pow 2 i)
def TY (i:Nat):List Edge->Bool
 |[]=>false
 |e::r=>match JV e&&Nat.beq e.on i with
  |true=>true
  |false=>TY i r
def EH (all:List Oper) (x y:Oper):Bool:=(match x.dst with
    |some d=>not (BB d (JB all y))&&(match y.dst with
     |some e=>not (Nat.beq d e)
     |none=>true)
    |none=>true)&&(match y.dst with
    |some e=>not (BB e (JB all x))
    |none=>true)
def TB (all:List Oper) (m i:Nat) (x:Oper):List Oper->Nat->Bool
 |[],_=>true
 |y::r,j=>(Nat.beq j i||(AW m j||(TY i y.after.toList||EH all x y)))&&TB all m i x r (Nat.succ j)
def P9:List Oper->Bool
 |[]=>true
 |o::r=>match o.op with
  | .select _ _=>false
  |_=>P9 r
def Sg (P:Program) (T:Tm) (o:Oper):Option AV:=match o.guard with
 |some _=>none
 |none=>match o.op with
  | .move x=>some (look T x)
  | .nilCheck x=>match look T x with
    | .ptr id off=>some (.ptr id off)
    |_=>none
  | .fieldAddr s x f=>match look T x with
    | .ptr id off=>Hd P s (.ptr id off) f
    |_=>none
  | .extract x i=>match look T x with
    | .tup cs=>K8 i cs
    |_=>none
  |_=>none
structure MV where
 x:Gk
 a:AV
def QW (P:Program) (all:List Oper) (m:Nat) (T:Tm):List Gk->Option MV
 |[]=>none
 |x::r=>match Sg P T x.o with
  |some a=>match TB all m x.i x.o all 0 with
   |true=>some ⟨x,a⟩
   |false=>QW P all m T r
  |none=>QW P all m T r
def Rr:List (Nat×AV)->List (Nat×AV)->Bool
 |[],[]=>true
 |(i,a)::r,(j,b)::s=>Nat.beq i j&&(CG a b&&Rr r s)
 |_,_=>false
def Pt:List (Nat×List AV)->List (Nat×List AV)->Bool
 |[],[]=>true
 |(i,a)::r,(j,b)::s=>Nat.beq i j&&(Ek a b&&Pt r s)
 |_,_=>false
def MC:Option Nat->Option Nat->Bool
 |none,none=>true
 |some a,some b=>Nat.beq a b
 |_,_=>false
def Pa:List (Option Nat)->List (Option Nat)->Bool
 |[],[]=>true
 |a::r,b::s=>MC a b&&Pa r s
 |_,_=>false
def M6:List (Nat×Nat)->List (Nat×Nat)->Bool
 |[],[]=>true
 |(i,a)::r,(j,b)::s=>Nat.beq i j&&(Nat.beq a b&&M6 r s)
 |_,_=>false
def O8:List TA->List TA->Bool
 |[],[]=>true
 |⟨a,b,c,d,e⟩::r,⟨a',b',c',d',e'⟩::s=>Nat.beq a a'&&(Nat.beq b b'&&(Nat.beq c c'&&(Nat.beq d d'&&(MC e e'&&O8 r s))))
 |_,_=>false
def Tk:BH->BH->Bool
 |⟨a,b,c,d,e,f,g⟩,⟨a',b',c',d',e',f',g'⟩=>Rr a a'&&(Pt b b'&&(Nat.beq c c'&&(Nat.beq d d'&&(O8 e e'&&(M6 f f'&&M6 g g')))))
def Rk:List (Bool×BH)->List (Bool×BH)->Bool
 |[],[]=>true
 |(i,a)::r,(j,b)::s=>i==j&&(Tk a b&&Rk r s)
 |_,_=>false
def fq:FT->FT->Bool
 |⟨a,b,c⟩,⟨a',b',c'⟩=>Nat.beq a a'&&(Tk b b'&&Rk c c')
def WA:XOp->XOp->Bool
 | .bin o t a b,.bin o' t' a' b'=>decide (o=o')&&(Nat.beq t t'&&(a==a'&&b==b'))
 | .un o,.un o'=>decide (o=o')
 | .conv a b,.conv a' b'=>Nat.beq a a'&&Nat.beq b b'
 | .idx a,.idx a'=>Nat.beq a a'
 | .iaddr a,.iaddr a'=>Nat.beq a a'
 | .faddr a b,.faddr a' b'=>Nat.beq a a'&&Nat.beq b b'
 | .load a,.load a'=>Nat.beq a a'
 | .fld a b,.fld a' b'=>Nat.beq a a'&&Nat.beq b b'
 | .slc t a b,.slc t' a' b'=>Nat.beq t t'&&(a==a'&&b==b')
 | .len a,.len a'=>Nat.beq a a'
 | .nilc,.nilc=>true
 | .app a b,.app a' b'=>Nat.beq a a'&&Nat.beq b b'
 | .mm a,.mm a'=>a==a'
 | .ext a,.ext a'=>Nat.beq a a'
 | .inb,.inb=>true
 | .ldx a b c,.ldx a' b' c'=>Nat.beq a a'&&(Nat.beq b b'&&Nat.beq c c')
 | .stx a b c,.stx a' b' c'=>Nat.beq a a'&&(Nat.beq b b'&&Nat.beq c c')
 | .tkx,.tkx=>true
 | .emp,.emp=>true
 | .mkx a b c,.mkx a' b' c'=>Nat.beq a a'&&(Nat.beq b b'&&Ek c c')
 | .mkz a b c,.mkz a' b' c'=>Nat.beq a a'&&(Nat.beq b b'&&Ek c c')
 | .skx,.skx=>true
 | .flat a b c d,.flat a' b' c' d'=>Nat.beq a a'&&(Nat.beq b b'&&(Nat.beq c c'&&Nat.beq d d'))
 | .opn a b,.opn a' b'=>Nat.beq a a'&&Nat.beq b b'
 |_,_=>false
def Xz:Dl->Dl->Bool
 | .same i j,.same i' j'=>Nat.beq i i'&&Nat.beq j j'
 | .nn i,.nn i'=>Nat.beq i i'
 | .pos i,.pos i'=>Nat.beq i i'
 |_,_=>false
mutual
def Em:VT->VT->Bool
 | .done v,.done w=>CG v w
 | .ite i a b,.ite i' a' b'=>Nat.beq i i'&&(Em a a'&&Em b b')
 | .lt o l n m t,.lt o' l' n' m' t'=>WA o o'&&(Ek l l'&&(Nat.beq n n'&&(MC m m'&&Em t t')))
 | .call f l n sh t,.call f' l' n' sh' t'=>Nat.beq f f'&&(Ek l l'&&(Nat.beq n n'&&(Pa sh sh'&&Em t t')))
 | .loop n j hv bs,.loop n' j' hv' bs'=>Nat.beq n n'&&(Nat.beq j j'&&(Ek hv hv'&&OG bs bs'))
 | .again l j hv,.again l' j' hv'=>Nat.beq l l'&&(Nat.beq j j'&&Ek hv hv')
 | .chk c t,.chk c' t'=>Xz c c'&&Em t t'
 | .callF f ft hv n bs,.callF f' ft' hv' n' bs'=>Nat.beq f f'&&(fq ft ft'&&(Ek hv hv'&&(Nat.beq n n'&&OG bs bs')))
 | .both a b,.both a' b'=>Em a a'&&Em b b'
 |_,_=>false
def OG:Hp->Hp->Bool
 | .nil,.nil=>true
 | .cons n t r,.cons n' t' r'=>Nat.beq n n'&&(Em t t'&&OG r r')
 |_,_=>false
end
def YY (a b:VT):VT:=match Em a b with
 |true=>a
 |false=>.both a b
def VZ (f:Gk->VT) (x:Gk):List Gk->VT
 |[]=>f x
 |y::r=>YY (f x) (VZ f y r)
def LP (P:Program) (N fuel:Nat) (I:C3 P fuel) (c:VC) (all:List Oper) (X:VX->VT) (K:VS->VT):Nat->Nat->VS->VT
 |0,_,_=>.bad
 |n+1,m,S=>match Ii m all 0 with
  |[]=>K S
  |x::r=>match QW P all m S.T (x::r)with
   |some q=>match CN N q.x.o.dst with
    | .mk u=>LP P N fuel I c all X K n (Lu m q.x.i) ⟨u S.T q.a,S.H,S.n,S.lv,S.D⟩
    | .bad=>.bad
   |none=>VZ (λx=>J0 P N fuel I c all X [x.o] S λS'=>LP P N fuel I c all X K n (Lu m x.i) S') x r
def HY:List Oper->Tm->Tm
 |[],T=>T
 |o::r,T=>match o.dst with
  |some d=>HY r (D9 T d .opq)
  |none=>HY r T
def Od (Af:List Oper) (X:VX->VT) (r:VX):VT:=match r with
 | .pan v S=>X (.pan v ⟨HY Af S.T,S.H,S.n,S.lv,S.D⟩)
 | .exit i S=>X (.exit i S)
 | .ret S=>X (.ret S)
def SV (N:Nat):List Oper->Bool
 |[]=>true
 |o::r=>(match o.dst with
  |some d=>Nat.blt d N
  |none=>true)&&SV N r
def ce (c:VC):Nat->List SI->Bool
 |0,_=>false
 |_+1,[]=>false
 |n+1,x::r=>match cR c x.o with
  |true=>true
  |false=>ce c n r
def rq (c:VC) (Af:List Oper):Bool:=match M0 Af with
 | .mk l _=>ce c (HE l 0) l
 | .no=>true
def VN (P:Program) (N fuel:Nat) (I:C3 P fuel) (c:VC) (Af:List Oper) (S:VS) (X:VX->VT) (K:VS->VT):VT:=match P9 Af&&(SV N Af&&Nat.ble N 512)with
 |true=>LP P N fuel I c Af (Od Af X) K (Nat.succ (lenOp Af)) 0 S
 |false=>.bad
where
 lenOp:List Oper->Nat
 |[]=>0
 |_::r=>Nat.succ (lenOp r)
def xM (Af:List Oper):Bool:=match M0 Af with
 | .mk l _=>match HE l 0 with
   |b=>UM (Hn b l) 0&&NN (Hn b l) (Hn b l)
 | .no=>true
def OM (T:Tm):List Oper->Nat->AV
 |[],_=>.opq
 |o::r,t=>match o.op with
  | .move x=>match o.dst with
    |some d=>match Nat.beq d t with
     |true=>look T x
     |false=>OM T r t
    |none=>OM T r t
  |_=>OM T r t
def rL (own:Bool) (T:Tm) (all:List Oper) (x i:Operand):List AV:=match x with
 | .tmp b=>match OM T all b with
   | .slx id z k=>match own with
     |true=>[]
     |false=>[.slx id z k]
   | .sl id off len z cap=>match i with
     | .tmp j=>match OM T all j with
       | .sym _=>[.sl id off len z cap]
       |_=>[]
     |_=>[]
   |_=>[]
 |_=>[]
def Tg (T:Tm) (all:List Oper):List (Nat×Operand)->List AV
 |[]=>[]
 |(_,x)::r=>match x with
  | .tmp t=>match OM T all t with
    | .slx id z k=>.slx id z k::Tg T all r
    |_=>Tg T all r
  |_=>Tg T all r
def QC (own:Bool) (T:Tm) (all:List Oper):List Oper->List AV
 |[]=>[]
 |o::r=>match o.op with
  | .indexAddr _ x i=>IV (rL own T all x i) (QC own T all r)
  | .buildSlice _ _ ps=>match own with
    |true=>QC own T all r
    |false=>IV (Tg T all ps.toList) (QC own T all r)
  |_=>QC own T all r
def IC (own:Bool) (l:List Oper) (S:VS):VS:=match QC own S.T l l with
 |[]=>S
 |a=>Ec S a
def S4 (b:VS->(VS->VT)->VT):Nat->VS->VT
 |0,_=>.bad
 |n+1,S=>b S λS'=>S4 b n S'
def W4 (n k lvl:Nat) (tps:List BH) (S:VS):VT:=match Nc n k tps 0 S with
 |some r=>Mp r.l (Rx r.m.nn (.again lvl r.j r.m.hv))
 |none=>.bad
def WJ (b:VS->(VS->VT)->VT) (n k lvl:Nat) (tps:List BH):List BH->Hp
 |[]=>.nil
 |tp::r=>.cons tp.nv (b (tp.inst n (Nat.succ lvl)) (W4 n k lvl tps)) (WJ b n k lvl tps r)
def az (k:Nat) (b:VS->(VS->VT)->VT) (tps:List BH) (S:VS):VT:=match Nc S.n k tps 0 S with
 |some r=>Mp r.l (Rx r.m.nn (.loop S.n r.j r.m.hv (WJ b S.n k S.lv tps tps)))
 |none=>.bad
def ZK (id:Nat) (K:VS->VT) (X:VX->VT) (r:VX):VT:=match r with
 | .exit id' S=>match Nat.beq id' id with
   |true=>K S
   |false=>X r
 | .ret _=>X r
 | .pan _ _=>X r
mutual
def Lo (id sz i len:Nat):AV->AV
 | .slx id' z j=>match Nat.beq id id'&&(Nat.beq sz z&&Nat.beq i j)with
   |true=>.sl id 0 len sz none
   |false=>.slx id' z j
 | .agg cs=>.agg (Hc id sz i len cs)
 | .tup cs=>.tup (Hc id sz i len cs)
 |a=>a
def Hc (id sz i len:Nat):List AV->List AV
 |[]=>[]
 |a::r=>Lo id sz i len a::Hc id sz i len r
end
def NR (id sz i len:Nat) (H:AHeap):List Nat->AHeap
 |[]=>H
 |q::r=>match (NR id sz i len H r).get q with
  |some (.cells cs)=>(NR id sz i len H r).set q (.cells (Hc id sz i len cs))
  |_=>NR id sz i len H r
def Mg (t:TA) (i:Nat) (S:VS):VS:=⟨BZ (Lo t.id t.sz i t.j) S.T,NR t.id t.sz i t.j (S.H.set t.id (.cells (Ae S.n (Nat.mul t.j t.sz)))) [0,1,2,3],Nat.add S.n (Nat.mul t.j t.sz),S.lv,S.D⟩
def Rw:List TA->VS->(VS->VT)->VT
 |[],S,k=>k S
 |t::r,S,k=>match S.H.get t.id with
  |some (.syl i)=>.lt (.opn t.j t.sz) [.sym i] S.n (some (Nat.mul t.j t.sz)) (Rw r (Mg t i S) k)
  |_=>Rw r S k
def Lr (t o:Nat) (S:VS):VS:=match Ao S.T t with
 | .ptr id b=>match S.H.get id with
   |some (.cells cs)=>match K8 (Nat.add b o) cs with
    |some a=>eM S [a] id
    |none=>S
   |_=>S
 |a=>Ec S [a]
def KL (S:VS):List (Nat×Nat)->VS
 |[]=>S
 |(t,o)::r=>KL (Lr t o S) r
def bK (c:VC) (rid:Nat) (Af:List Oper) (S:VS) (k:VS->VT):VT:=match Af with
 |[]=>k S
 |_::_=>match Sc c.hs (Nat.add 10000 rid)with
  |some (tp::_)=>Rw tp.acc (KL S tp.fix) k
  |_=>k S
def gA (c:VC) (rid:Nat):Bool:=match Sc c.hs (Nat.add 20000 rid)with
 |some _=>true
 |none=>false
def Rl (P:Program) (N fuel:Nat) (I:C3 P fuel) (c:VC) (any:Bool) (Af:Array Oper) (draw:Bool) (S:VS) (K:VS->VT) (X:VX->VT):VT:=match draw with
 |false=>J0 P N fuel I c Af.toList X Af.toList S K
 |true=>match O3 P (CL P fuel) N Af.toList S.T S.H S.D with
  |some r=>match r with
   | .norm T H D=>K ⟨T,H,S.n,S.lv,D⟩
   |_=>.bad
  |none=>match kY c Af.toList with
   |false=>match !any&&xM Af.toList with
    |true=>Re P N fuel I c Af.toList (IC c.own Af.toList S) X K
    |false=>VN P N fuel I c Af.toList S X K
   |true=>match rq c Af.toList with
    |true=>VN P N fuel I c Af.toList S X K
    |false=>Re P N fuel I c Af.toList (IC c.own Af.toList S) X K
def ER (P:Program) (N fuel:Nat) (I:C3 P fuel) (c:VC):Nat->Code->VS->(VS->VT)->(VX->VT)->VT
 |_,.skip,S,K,X=>K S
 |_,.label _,S,K,X=>K S
 |_,.region rid Af draw,S,K,X=>bK c rid Af.toList S λS=>Rl P N fuel I c (gA c rid) Af draw S K X
 |bid,.seq a b,S,K,X=>ER P N fuel I c bid a S (λS=>ER P N fuel I c bid b S K X) X
 |bid,.cond cd a b,S,K,X=>match look S.T cd with
  | .bool t=>match t with
    |true=>ER P N fuel I c bid a S K X
    |false=>ER P N fuel I c bid b S K X
  |_=>match RG S.T cd with
   |some i=>.ite i (ER P N fuel I c bid a (S.know i true) K X) (ER P N fuel I c bid b (S.know i false) K X)
   |none=>.bad
 |_,.block id b,S,K,X=>ER P N fuel I c id b S K (ZK id K X)
 |bid,.loop b,S,K,X=>match Sc c.hs bid with
  |some tps=>az c.k (λS K=>ER P N fuel I c bid b S K X) tps S
  |none=>S4 (λS K=>ER P N fuel I c bid b S K X) fuel S
 |_,.exit id,S,K,X=>X (.exit id S)
 |_,.ret,S,K,X=>X (.ret S)
 |_,_,_,_,_=>.bad
def mG (Q:Option (AV×AHeap)):VT:=match Q with
 |some (a,H)=>match Fe 100 H a with
  |some v=>match Bh v with
   |true=>.done v
   |false=>.bad
  |none=>.bad
 |none=>.bad
def Xf:List Oper->Bool
 |[]=>false
 |o::r=>match o.op with
  | .call c=>match c.callee with
    | .builtin .recover=>true
    |_=>Xf r
  |_=>Xf r
def zt (u:Option AV) (Af:List Oper):Bool:=match u with
 |some _=>true
 |none=>Xf Af
def Ij (P:Program) (N fuel:Nat) (I:C3 P fuel) (c:VC):Code->VS->Option AV->(VS->Option AV->VT)->(VS->Option AV->VT)->VT
 | .skip,S,u,K,R=>K S u
 | .region rid Af draw,S,u,K,R=>match zt u Af.toList with
   |true=>match draw with
    |true=>.bad
    |false=>match JR P (CL P fuel) N Af.toList Af.toList S.T S.H u with
     |some r=>match r with
      | .norm T H u'=>K ⟨T,H,S.n,S.lv,[]⟩ u'
      | .ret _ _ _=>.bad
     |none=>.bad
   |false=>Rl P N fuel I c (gA c rid) Af draw S (λS=>match S.D with
    |[]=>K S none
    |_::_=>.bad) (λ_=>.bad)
 | .seq a b,S,u,K,R=>Ij P N fuel I c a S u (λS u=>Ij P N fuel I c b S u K R) R
 | .cond cd a b,S,u,K,R=>match look S.T cd with
   | .bool t=>match t with
     |true=>Ij P N fuel I c a S u K R
     |false=>Ij P N fuel I c b S u K R
   |_=>match RG S.T cd with
    |some i=>.ite i (Ij P N fuel I c a (S.know i true) u K R) (Ij P N fuel I c b (S.know i false) u K R)
    |none=>.bad
 | .block _ b,S,u,K,R=>Ij P N fuel I c b S u K R
 | .ret,S,u,K,R=>R S u
 |_,_,_,_,_=>.bad
def Mq (P:Program) (fuel:Nat) (I:C3 P fuel) (c:VC) (rs:List ResultVar) (fin:A5->Nat->Nat->VT):Bj->Tm->AHeap->Nat->Nat->Option AV->VT
 |[],T,H,n,lv,u=>match Io P (CL P fuel) fuel rs T [] H u with
  |some r=>fin r n lv
  |none=>.bad
 |(f,ag)::D,T,H,n,lv,u=>match P.funcs[f]? with
  |some fn=>match fn.body with
   |some cd=>match Nat.ble (Bs ag) fn.ntmps&&(Nat.ble fn.ntmps 512&&(Vl H.next n D&&Nat.ble c.k H.next))with
    |true=>match (λ(S:VS) (u:Option AV)=>match Hv P S.T S.H fn.results.toList with
       |some _=>Mq P fuel I c rs fin D (BZ (D3 H.next n) T) S.H S.n S.lv u
       |none=>.bad)with
     |K=>Ij P fn.ntmps fuel I ⟨c.fc,c.cs,[],H.next,c.own,c.fs⟩ cd ⟨C6 ag 0 B6,H,n,lv,[]⟩ u K K
    |false=>.bad
   |none=>.bad
  |none=>.bad
def PR (P:Program) (fuel:Nat) (I:C3 P fuel) (c:VC) (rs:List ResultVar) (fin:A5->Nat->Nat->VT) (u:Option AV) (S:VS):VT:=match Io P (CL P fuel) fuel rs S.T S.D S.H u with
 |some r=>fin r S.n S.lv
 |none=>Mq P fuel I c rs fin S.D S.T S.H S.n S.lv u
def nL (r:A5) (_ _:Nat):VT:=match r with
 | .ret a H=>mG (some (a,H))
 | .pan _ _=>.bad
def Ul (P:Program) (fuel:Nat) (I:C3 P fuel) (c:VC) (rs:List ResultVar) (u:Option AV) (S:VS):VT:=PR P fuel I c rs nL u S
def zH (P:Program) (fuel:Nat) (I:C3 P fuel) (c:VC) (rs:List ResultVar) (r:VX):VT:=match r with
 | .ret S=>Ul P fuel I c rs none S
 | .pan v S=>Ul P fuel I c rs (some v) S
 | .exit _ _=>.bad
def N0 (n k:Nat) (b:Bool) (S:VS):List (Bool×BH)->Nat->VT
 |[],_=>.bad
 |(b',tp)::r,j=>match b==b' with
  |false=>N0 n k b S r (Nat.succ j)
  |true=>match H6 tp S with
   |f=>match Oq n k tp f.S with
    |some m=>Mp f.l (Rx m.nn (.done (.tup (.int .i64 (.ofNat j)::m.hv))))
    |none=>N0 n k b S r (Nat.succ j)
def tm_ (ft:FT) (r:A5) (n lv:Nat):VT:=match r with
 | .ret a H=>N0 (Nat.add 64 ft.ent.nv) ft.k false ⟨D9 AP 0 a,H,n,lv,[]⟩ ft.exs 0
 | .pan a H=>N0 (Nat.add 64 ft.ent.nv) ft.k true ⟨D9 AP 0 a,H,n,lv,[]⟩ ft.exs 0
def Nz (P:Program) (fuel:Nat) (I:C3 P fuel) (c:VC) (rs:List ResultVar) (ft:FT) (u:Option AV) (S:VS):VT:=PR P fuel I c rs (tm_ ft) u S
def d6 (P:Program) (fuel:Nat) (I:C3 P fuel) (c:VC) (rs:List ResultVar) (ft:FT) (r:VX):VT:=match r with
 | .ret S=>Nz P fuel I c rs ft none S
 | .pan v S=>Nz P fuel I c rs ft (some v) S
 | .exit _ _=>.bad
def YC (P:Program) (fuel:Nat) (I:C3 P fuel) (c:VC) (f:FuncId) (ft:FT):VT:=match P.funcs[f]? with
 |some fn=>match fn.body with
  |some cd=>match Nat.ble (Bs (DE ft.ent.slots)) fn.ntmps&&(Nat.ble fn.ntmps 512&&Nat.beq c.k ft.k)with
   |true=>ER P fn.ntmps fuel I c 0 cd ⟨C6 (CB 64 (DE ft.ent.slots)) 0 B6,ft.ent.heap 64,Nat.add 64 ft.ent.nv,0,[]⟩ (Nz P fuel I c fn.results.toList ft none) (d6 P fuel I c fn.results.toList ft)
   |false=>.bad
  |none=>.bad
 |none=>.bad
def Xo (P:Program) (fuel:Nat) (I:C3 P fuel) (c:VC) (f:FuncId) (ag:List AV) (n:Nat):VT:=match P.funcs[f]? with
 |some fn=>match fn.body with
  |some cd=>match Nat.ble (Bs ag) fn.ntmps&&Nat.ble fn.ntmps 512 with
   |true=>ER P fn.ntmps fuel I c 0 cd ⟨C6 ag 0 B6,H0,n,0,[]⟩ (Ul P fuel I c fn.results.toList none) (zH P fuel I c fn.results.toList)
   |false=>.bad
  |none=>.bad
 |none=>.bad
def zC (ret pan:AV->AHeap->Nat->Nat->VT) (r:A5) (n lv:Nat):VT:=match r with
 | .ret a H=>ret a H n lv
 | .pan a H=>pan a H n lv
def TU (P:Program) (fuel:Nat) (I:C3 P fuel) (c:VC) (rs:List ResultVar) (ret pan:AV->AHeap->Nat->Nat->VT) (u:Option AV) (S:VS):VT:=PR P fuel I c rs (zC ret pan) u S
def rP (P:Program) (fuel:Nat) (I:C3 P fuel) (c:VC) (rs:List ResultVar) (ret pan:AV->AHeap->Nat->Nat->VT) (r:VX):VT:=match r with
 | .exit _ _=>.bad
 | .ret S=>TU P fuel I c rs ret pan none S
 | .pan v S=>TU P fuel I c rs ret pan (some v) S
def Yz (P:Program) (fuel:Nat) (I:C3 P fuel) (c:VC) (g:FuncId) (ag:List AV) (H:AHeap) (n lv:Nat) (ret pan:AV->AHeap->Nat->Nat->VT):VT:=match P.funcs[g]? with
 |some fn=>match fn.body with
  |some cd=>match Nat.ble (Bs ag) fn.ntmps&&Nat.ble fn.ntmps 512 with
   |true=>ER P fn.ntmps fuel I ⟨c.fc,c.cs,[],H.next,c.own,c.fs⟩ 0 cd ⟨C6 ag 0 B6,H,n,lv,[]⟩ (TU P fuel I ⟨c.fc,c.cs,[],H.next,c.own,c.fs⟩ fn.results.toList ret pan none) (rP P fuel I ⟨c.fc,c.cs,[],H.next,c.own,c.fs⟩ fn.results.toList ret pan)
   |false=>.bad
  |none=>.bad
 |none=>.bad
end
theorem MY:∀(l:List AV) (n:Nat),C8 n l=l[n]?
 |[],n=>by cases n<;>rfl
 |a::r,0=>rfl
 |a::r,n+1=>by simp [C8,MY r n]
structure Gr (H:AHeap) (ds:List DA) (rn:List (Nat×Nat)) (hv:List AV) (n:Nat) (E E':Ag):Prop where
 phi:∀id a,BT rn id=some a->E'.φ id=E.φ a
 sz:E'.sz=E.sz
 imm:E'.imm=E.imm
 low:∀i,i<n->E'.sy i=E.sy i
 hole:∀j x,C8 j hv=some x->Bh x=true/\E'.sy (n+j)=some (Ar E.sy x)/\(Ar E.sy x).one=true
 acc:∀id d i,CO ds id=some d->d.act=some i->Ar E.sy d.x≠ .nsl->E'.φ id=E.φ i
 val:∀id d,CO ds id=some d->C8 d.j hv=some d.x
def r8 {E:Ag} {H:AHeap} {sz:Nat} {a x:AV} {act:Option Nat} {v:Value} (h:Le H sz a=some (x,act)) (hc:Ac E a v):
  (v=.slice none 0 0/\Ar E.sy x=.nsl)\/∃i len cs,act=some i/\Ar E.sy x=.vsl len sz cs/\∃b o n c off',E.φ i=some (b,o)/\E.sz b=some n/\v=.slice (some ⟨b,o+off',none⟩) len c/\(c≠0->off'=0)/\len<=c/\o+c*sz<=n:=by
 unfold Le at h;split at h;cases h;exact .inl ⟨hc,rfl⟩
 .rename_i id sz' i;split at h
  .split at h
   .rename_i hb;cases h;obtain ⟨e1,e2⟩:=Au hb;have e2:=za' e2;subst e2;obtain ⟨a,h1,⟨rfl,h2⟩|⟨len,cs,rfl,h2⟩⟩:=hc
    .grind [Ar]
    ·
     exact .inr ⟨id,len,cs,rfl,by simp only [Ar,h1],h2⟩
   cases h
  cases h
 .rename_i id off len sz' cap;split at h
  .split at h
   case h_2=>cases h
   split at h;rename_i hb;cases h;obtain ⟨e1,hb⟩:=Au hb;obtain ⟨e2,hb⟩:=Au hb;have e1:=za' e1;have e2:=za' e2;subst e1 e2;obtain ⟨b,o,nn,c,off',q1,q2,q3,q4,q5,q6,_⟩:=hc;exact .inr ⟨id,len,_,rfl,by rfl,b,o,nn,c,off',q1,q2,q3,q4,q5,by omega⟩;cases h
  cases h
 cases h
theorem K3 {a b:Option Nat} (h:Ji a b=true):a=b:=by
 unfold Ji at h
 grind [za']
def Gr.con0 {H:AHeap} {ds:List DA} {rn:List (Nat×Nat)} {hv:List AV} {n:Nat} {E E':Ag} (h:Gr H ds rn hv n E E') {a:AV} {v:Value} (hc:Aj E a v):Aj E' a v:=Js (λ_ _ _ hx=>by rw [h.imm];exact hx) hc
mutual
theorem aa {H:AHeap} {ds:List DA} {rn:List (Nat×Nat)} {hv:List AV} {n:Nat} {E E':Ag} (h:Gr H ds rn hv n E E'):∀{t a:AV} {v:Value},mA H ds rn hv n t a=true->Ac E a v->Ac E' (DC n t) v
 | .opq,_,_,_,_=>by simp [DC,Ac]
 | .slx j z q,a,v,hm,hc=>by
   unfold mA at hm;unfold DC;cases z with
   |zero=>simp only at hm⊢;split at hm;rename_i x hx;have:=Dz hm;subst this;obtain ⟨h1,h2,h3⟩:=h.hole _ _ hx;exact ⟨_,h2,h3,h.con0 (CZ h1 hc)⟩;cases hm
   |succ z=>
    simp only at hm⊢;split at hm
    .rename_i d hd;split at hm
     .rename_i x act hacc;obtain ⟨e1,hm⟩:=Au hm;obtain ⟨e2,hm⟩:=Au hm;obtain ⟨e3,e4⟩:=Au hm;have e2:=za' e2;have e3:=Dz e3;have e4:=K3 e4;have hval:=h.val _ _ hd;obtain ⟨_,h2,_⟩:=h.hole _ _ hval;refine ⟨_,by rw [←e2];exact h2,?_⟩;rcases r8 hacc hc with ⟨k1,k2⟩|⟨i,len,cs,k1,k2,b,o,nn,c,off',q1,q2,q3,q4,q5,q6⟩
      .grind
      rw [e3];refine .inr ⟨len,cs,k2,b,o,nn,c,off',?_,by rw [h.sz];exact q2,q3,q4,q5,q6⟩;rw [h.acc _ _ _ hd (e4.trans k1) (by grind)];exact q1
     cases hm
    cases hm
 | .sym i,a,v,hm,hc=>by obtain ⟨h1,h2⟩:=Au hm;have:=Dz h2;subst this;have hi:i<n:=(by simp_all);obtain ⟨a,q1,q2,q3⟩:=hc;exact ⟨a,by rw [h.low i hi];exact q1,q2,h.con0 q3⟩
 | .ptr id off,a,v,hm,hc=>by unfold mA at hm;split at hm;obtain ⟨h1,h2⟩:=Au hm;have h2:=za' h2;subst h2;simp only [DC,Ac]at hc⊢;rw [h.phi id _ (K3 h1)];exact hc;cases hm
 | .sl id off len sz cap,a,v,hm,hc=>by
   unfold mA at hm;split at hm
   .obtain ⟨h1,hm⟩:=Au hm;obtain ⟨e2,hm⟩:=Au hm;obtain ⟨e3,hm⟩:=Au hm;obtain ⟨e4,e5⟩:=Au hm;have e2:=za' e2;have e3:=za' e3;have e4:=za' e4;simp only [DC,Ac]at hc⊢;rw [h.phi id _ (K3 h1),h.sz]
    grind
   cases hm
 | .agg ts,a,v,hm,hc=>by unfold mA at hm;split at hm;obtain ⟨vs,rfl,h2⟩:=hc;exact ⟨vs,rfl,Ma h hm h2⟩;cases hm
 | .tup ts,a,v,hm,hc=>by unfold mA at hm;split at hm;obtain ⟨vs,rfl,h2⟩:=hc;exact ⟨vs,rfl,Ma h hm h2⟩;cases hm
 | .vptr ts,a,v,hm,hc=>by unfold mA at hm;split at hm;obtain ⟨b,o,vs,h1,h2,h3⟩:=hc;exact ⟨b,o,vs,h1,Ma h hm h2,λi u hu=>by rw [h.imm];exact h3 i u hu⟩;cases hm
 | .vsl len sz ts,a,v,hm,hc=>by unfold mA at hm;split at hm;obtain ⟨e1,hm1⟩:=Au hm;obtain ⟨e2,hm2⟩:=Au hm1;have e3:=za' e1;subst e3;obtain ⟨b,o,vs,c,h1,h2,h3,h4⟩:=hc;exact ⟨b,o,vs,c,h1,h2,Ma h hm2 h3,λi u hu=>by rw [h.imm];exact h4 i u hu⟩;cases hm
 | .fn f ts,a,v,hm,hc=>by unfold mA at hm;split at hm;obtain ⟨e1,hm1⟩:=Au hm;have e2:=za' e1;subst e2;simp only [DC,Ac]at hc⊢;obtain ⟨vs,h1,h2⟩:=hc;exact ⟨vs,h1,Ma h hm1 h2⟩;cases hm
 | .iface t x,a,v,hm,hc=>by unfold mA at hm;split at hm;obtain ⟨e1,hm1⟩:=Au hm;have e2:=za' e1;subst e2;simp only [DC,Ac]at hc⊢;obtain ⟨u,h1,h2⟩:=hc;exact ⟨u,h1,aa h hm1 h2⟩;cases hm
 | .ptx id i sz _,a,v,hm,hc=>by unfold mA at hm;split at hm;obtain ⟨h1,hm⟩:=Au hm;obtain ⟨e1,hm⟩:=Au hm;obtain ⟨e2,e3⟩:=Au hm;have e1:=za' e1;have e2:=za' e2;subst e1 e2;have hi:i<n:=(by simp_all);simp only [DC,Ac]at hc⊢;rw [h.phi id _ (K3 h1),h.sz,h.low i hi];exact hc;cases hm
 | .map id,a,v,hm,hc=>by unfold mA at hm;split at hm;simp only [DC,Ac]at hc⊢;rw [h.phi id _ (K3 hm)];exact hc;cases hm
 | .bool b,a,v,hm,hc=>by
   grind [Dz,mA,DC,Ac]
 | .int k b,a,v,hm,hc=>by
   grind [Dz,mA,DC,Ac]
 | .flt k b,a,v,hm,hc=>by
   grind [Dz,mA,DC,Ac]
 | .nan k,a,v,hm,hc=>by
   grind [Dz,mA,DC,Ac]
 | .str s,a,v,hm,hc=>by
   grind [Dz,mA,DC,Ac]
 | .nptr,a,v,hm,hc=>by
   grind [Dz,mA,DC,Ac]
 | .nsl,a,v,hm,hc=>by
   grind [Dz,mA,DC,Ac]
 | .nmap,a,v,hm,hc=>by
   grind [Dz,mA,DC,Ac]
 | .nfn,a,v,hm,hc=>by
   grind [Dz,mA,DC,Ac]
 | .nif,a,v,hm,hc=>by
   grind [Dz,mA,DC,Ac]
theorem Ma {H:AHeap} {ds:List DA} {rn:List (Nat×Nat)} {hv:List AV} {n:Nat} {E E':Ag} (h:Gr H ds rn hv n E E'):∀{ts as:List AV} {vs:List Value},mL H ds rn hv n ts as=true->Ah E as vs->Ah E' (CB n ts) vs
 |[],[],vs,hm,hc=>by grind [CB,Ah]
 |t::ts,a::r,vs,hm,hc=>by obtain ⟨h1,h2⟩:=Au hm;simp only [Ah]at hc;simp only [CB,Ah];obtain ⟨v,q,e,c1,c2⟩:=hc;exact ⟨v,q,e,aa h h1 c1,Ma h h2 c2⟩
 |[],_::_,_,hm,_=>by simp [mL]at hm
 |_::_,[],_,hm,_=>by simp [mL]at hm
end
def cQ {H:AHeap} {ds:List DA} {rn:List (Nat×Nat)} {hv:List AV} {n:Nat} {E E':Ag} (h:Gr H ds rn hv n E E') {T:Tm} {tmps:Array Value} (hc:∀t,t<512->Ac E (Ao T t) (tmps.getD t undef)):
  ∀(slots:List (Nat×AV)),mT H ds rn hv n T slots=true->∀t,t<512->Ac E' (Ao (Fq n slots) t) (tmps.getD t undef)
 |[],_,t,ht=>by show Ac E' (Ao AP t) _;rw [K2];simp [Ac]
 |(s,a)::r,hm,t,ht=>by obtain ⟨h1,hm⟩:=Au hm;obtain ⟨h2,hm⟩:=Au hm;have h1:s<512:=(by simpa [Nat.blt_eq]using h1);show Ac E' (Ao (D9 (Fq n r) s (DC n a)) t) _;by_cases e:s=t;subst e;rw [GD _ ht];exact aa h h2 (hc s ht);rw [Fm _ ht h1 e];exact cQ h hc r hm t ht
def Yc {n next:Nat}:∀(rows:List (Nat×List AV)),(∀id cs,(id,cs)∈rows->id<Bb)->∀id k,(Mm n next rows).get id=some k->∃cs,(id,cs)∈rows/\k=.cells (CB n cs)
 |[],_,id,k,h=>by
  grind [Pc,Mm]
 |(i,c)::r,hlt,id,k,h=>by
  have h:((Mm n next r).set i (.cells (CB n c))).get id=some k:=h;have hi:=hlt i c (zc' ..);by_cases e:i=id
  .subst e;rw [AHeap.get_set_same _ hi]at h
   grind
  rw [AHeap.get_set_ne _ hi e]at h;obtain ⟨cs,h1,h2⟩:=Yc r (λa b h=>hlt a b (zb' _ h)) id k h;exact ⟨cs,zb' _ h1,h2⟩
theorem kK {n next:Nat}:∀rows,(Mm n next rows).next=next/\(Mm n next rows).hi=Bb
 |[]=>⟨rfl,rfl⟩
 |(i,c)::r=>kK r
theorem G9:∀{l:List (Nat×Nat)} {i a:Nat},BT l i=some a->(i,a)∈l
 |[],i,a,h=>by cases h
 |(j,t)::r,i,a,h=>by unfold BT at h;split at h;rename_i hb;cases h;rw [AF hb];exact zc' ..;exact zb' _ (G9 h)
def fg {ds:List DA} {inv:List (Nat×Nat)} {next:Nat}:∀{rn:List (Nat×Nat)},mN ds inv next rn=true->∀id a,(id,a)∈rn->id<next/\id<Bb/\BT inv a=some id/\CO ds id=none
 |[],_,id,a,h=>by cases h
 |(i,q)::r,hm,id,a,h=>by obtain ⟨h1,hm⟩:=Au hm;obtain ⟨h2,hm⟩:=Au hm;obtain ⟨h3,hm⟩:=Au hm;obtain ⟨h4,hm⟩:=Au hm;rcases List.mem_cons.1 h with h|h;cases h;exact ⟨by simp_all,by simp_all,K3 h3,by simpa using h4⟩;exact fg hm id a h
def jn {ds:List DA} {rn:List (Nat×Nat)} {hv:List AV} {n:Nat} {H:AHeap}:∀(rows:List (Nat×List AV)),mH ds rn hv n H rows=true->∀id cs,(id,cs)∈rows->∃a l,BT rn id=some a/\H.get a=some (.cells l)/\mL H ds rn hv n cs l=true
 |[],_,id,cs,h=>by cases h
 |(i,c)::r,hm,id,cs,h=>by obtain ⟨h1,hm⟩:=Au hm;rcases List.mem_cons.1 h with h|h;cases h;split at h1;rename_i a ha;split at h1;rename_i l hl;exact ⟨a,l,ha,hl,h1⟩;cases h1;cases h1;exact jn r hm id cs h
def eU {inv:List (Nat×Nat)} {hv:List AV} {next:Nat}:∀{ds:List DA},mD inv hv next ds=true->∀d,d∈ds->d.id<next/\d.id<Bb/\C8 d.j hv=some d.x/\∀i,d.act=some i->BT inv i=some d.id
 |[],_,d,h=>by cases h
 |q::r,hm,d,h=>by
  obtain ⟨h1,hm⟩:=Au hm;obtain ⟨h2,hm⟩:=Au hm;obtain ⟨h3,hm⟩:=Au hm;obtain ⟨h4,hm⟩:=Au hm;rcases List.mem_cons.1 h with rfl|h
  .grind [zd',Dz,K3]
  exact eU hm d h
def iB {rn:List (Nat×Nat)} {hv:List AV} {H:AHeap}:∀(ms:List (Nat×Nat)),mM rn hv H ms=true->∀id j,(id,j)∈ms->∃a x,BT rn id=some a/\VQ H a=some x/\C8 j hv=some x
 |[],_,id,j,h=>by cases h
 |(i,q)::r,hm,id,j,h=>by obtain ⟨h1,hm⟩:=Au hm;rcases List.mem_cons.1 h with h|h;cases h;split at h1;rename_i a ha;split at h1;rename_i x hx;split at h1;rename_i y hy;exact ⟨a,x,ha,hx,by rw [hy,Dz h1]⟩;cases h1;cases h1;cases h1;exact iB r hm id j h
def wz (n:Nat) {i:Nat} (h:Nat.blt i KT=true):Iz n i=i:=by unfold Iz;rw [h]
def dZ (n:Nat) {i:Nat} (h:Nat.blt i KT=false):Iz n i=n+K4 i:=by
 grind [Iz]
inductive F5 (hv:List AV) (n s:Nat):A2->Prop where
 |old (h:s<n):F5 hv n s (.syl s)
 |sym (j i:Nat) (h:s=n+j) (hj:C8 j hv=some (.sym i)):F5 hv n s (.syl i)
 |cells (j len z:Nat) (cs:List AV) (h:s=n+j) (hj:C8 j hv=some (.vsl len z cs)) (hl:cs.length=len*z) (hs:Bm cs=true):F5 hv n s (.cells cs)
def gW {rn:List (Nat×Nat)} {hv:List AV} {n:Nat} {H:AHeap}:∀(ms:List (Nat×Nat)),mF rn hv n H ms=true->∀id i,(id,i)∈ms->∃a k,BT rn id=some a/\H.get a=some k/\F5 hv n (Iz n i) k
 |[],_,id,j,h=>by cases h
 |(i,q)::r,hm,id,j,h=>by obtain ⟨h1,hm⟩:=Au hm;rcases List.mem_cons.1 h with h|h;cases h;split at h1;rename_i a ha;split at h1;rename_i x hx;split at h1;rename_i hb;obtain ⟨h0,h1⟩:=Au h1;have h1:=za' h1;have h0:q<n:=(by simp_all);refine ⟨a,_,ha,hx,?_⟩;rw [wz n hb,h1];exact .old (by omega);rename_i hb;split at h1;rename_i y hy;have:=Dz h1;subst this;exact ⟨a,_,ha,hx,.sym (K4 q) x (dZ n hb) hy⟩;cases h1;rename_i cs hx;split at h1;cases h1;rename_i hb;split at h1;rename_i y hy;unfold ji at h1;split at h1;rename_i len z cs';obtain ⟨e1,h1⟩:=Au h1;obtain ⟨e2,h1⟩:=Au h1;obtain ⟨e3,_⟩:=Au h1;have:=Fv e1;subst this;have e2:=za' e2;rw [BW]at e2;exact ⟨a,_,ha,hx,.cells (K4 q) len z _ (dZ n hb) hy e2 e3⟩;cases h1;cases h1;cases h1;cases h1;exact gW r hm id j h
theorem Jk:∀{ds:List DA} {id:Nat} {d:DA},CO ds id=some d->d∈ds/\d.id=id
 |[],id,d,h=>by cases h
 |q::r,id,d,h=>by unfold CO at h;split at h;rename_i hb;cases h;exact ⟨zc' ..,za' hb⟩;obtain ⟨h1,h2⟩:=Jk h;exact ⟨zb' _ h1,h2⟩
theorem RZ {T:Tm} {H:AHeap} {rn:List (Nat×Nat)}:∀{ts:List TA} {ds:List DA},NQ T H rn ts=some ds->∀d,d∈ds->∃t a,t∈ts/\t.id=d.id/\t.j=d.j/\NX T H rn t=some a/\Le H d.sz a=some (d.x,d.act)
 |[],ds,h,d,hd=>by cases h;cases hd
 |t::r,ds,h,d,hd=>by
  unfold NQ at h;split at h
  .rename_i a ha;split at h
   .rename_i x act hx;split at h
    .rename_i l hl;cases h;rcases List.mem_cons.1 hd with rfl|hd
     .grind
     obtain ⟨t',a',h0,h1⟩:=RZ hl d hd;exact ⟨t',a',zb' _ h0,h1⟩
    cases h
   cases h
  cases h
def j7 {n:Nat} {T:Tm} {H H0:AHeap} {rn:List (Nat×Nat)}:∀{ts:List TA} {ds:List DA},NQ T H rn ts=some ds->(∀d,d∈ds->d.id<Bb)->∀id k,(Lx n H0 ts).get id=some k->(CO ds id=none/\H0.get id=some k)\/∃d,CO ds id=some d/\k=.syl (n+d.j)
 |[],ds,h,hlt,id,k,hk=>by cases h;exact .inl ⟨rfl,hk⟩
 |t::r,ds,h,hlt,id,k,hk=>by
  unfold NQ at h;split at h
  .split at h
   .rename_i x act hx;split at h
    .rename_i l hl;cases h;have ht:t.id<Bb:=hlt _ (zc' ..);unfold Lx at hk;by_cases e:t.id=id;subst e;rw [AHeap.get_set_same _ ht]at hk;cases hk;exact .inr ⟨⟨t.id,t.sz,t.j,x,act⟩,by simp [CO],rfl⟩
     .rw [AHeap.get_set_ne _ ht e]at hk;have hb:Nat.beq t.id id=false:=by
       cases hb:Nat.beq t.id id with
       |true=>exact absurd (za' hb) e
       |false=>rfl
      have:=j7 hl (λd hd=>hlt d (zb' _ hd)) id k hk;unfold CO;simp only [hb];exact this
    cases h
   cases h
  cases h
theorem lw {n:Nat} {H0:AHeap}:∀ts:List TA,(Lx n H0 ts).next=H0.next/\(Lx n H0 ts).hi=H0.hi
 |[]=>⟨rfl,rfl⟩
 |t::r=>lw r
def aN {n:Nat} {H0:AHeap}:∀(ms:List (Nat×Nat)),(∀id j,(id,j)∈ms->id<Bb)->∀id k,(Ox n H0 ms).get id=some k->(∃j,(id,j)∈ms/\k=.mpl (n+j))\/H0.get id=some k
 |[],_,id,k,h=>.inr h
 |(i,q)::r,hlt,id,k,h=>by
  have h:((Ox n H0 r).set i (.mpl (Nat.add n q))).get id=some k:=h;have hi:=hlt i q (zc' ..);by_cases e:i=id
  .subst e;rw [AHeap.get_set_same _ hi]at h
   grind
  rw [AHeap.get_set_ne _ hi e]at h;rcases aN r (λa b h=>hlt a b (zb' _ h)) id k h with ⟨j,h1,h2⟩|h;exact .inl ⟨j,zb' _ h1,h2⟩;exact .inr h
theorem mz {n:Nat} {H0:AHeap}:∀ms:List (Nat×Nat),(Ox n H0 ms).next=H0.next/\(Ox n H0 ms).hi=H0.hi
 |[]=>⟨rfl,rfl⟩
 |(i,q)::r=>mz r
def WO {n:Nat} {H0:AHeap}:∀(ms:List (Nat×Nat)),(∀id j,(id,j)∈ms->id<Bb)->∀id k,(Oc n H0 ms).get id=some k->(∃j,(id,j)∈ms/\k=.syl (Iz n j))\/H0.get id=some k
 |[],_,id,k,h=>.inr h
 |(i,q)::r,hlt,id,k,h=>by
  have h:((Oc n H0 r).set i (.syl (Iz n q))).get id=some k:=h;have hi:=hlt i q (zc' ..);by_cases e:i=id
  .subst e;rw [AHeap.get_set_same _ hi]at h
   grind
  rw [AHeap.get_set_ne _ hi e]at h;rcases WO r (λa b h=>hlt a b (zb' _ h)) id k h with ⟨j,h1,h2⟩|h;exact .inl ⟨j,zb' _ h1,h2⟩;exact .inr h
theorem j9 {n:Nat} {H0:AHeap}:∀ms:List (Nat×Nat),(Oc n H0 ms).next=H0.next/\(Oc n H0 ms).hi=H0.hi
 |[]=>⟨rfl,rfl⟩
 |(i,q)::r=>j9 r
def BH.heap_next (tp:BH) (n:Nat):(tp.heap n).next=tp.next/\(tp.heap n).hi=Bb:=by unfold BH.heap;simp [j9,mz,lw,kK]
theorem fi {H:AHeap} {ds:List DA} {rn:List (Nat×Nat)} {hv:List AV} {n:Nat}:∀{ts as:List AV},mL H ds rn hv n ts as=true->as.length=ts.length
 |[],[],_=>rfl
 |t::ts,a::r,h=>by simp [fi (Au h).2]
 |[],_::_,h=>by simp [mL]at h
 |_::_,[],h=>by simp [mL]at h
theorem T4 (n:Nat):∀l:List AV,(CB n l).length=l.length
 |[]=>rfl
 |a::r=>by simp [CB,T4 n r]
theorem KM (s:Nat->Option AV):∀l:List AV,(An s l).length=l.length
 |[]=>rfl
 |a::r=>by simp [An,KM s r]
def QJ (s:Nat->Option AV):∀(l:List AV) (i:Nat) (a:AV),l[i]? =some a->(An s l)[i]? =some (Ar s a)
 |[],i,a,h=>by simp at h
 |b::r,0,a,h=>by grind [An]
 |b::r,i+1,a,h=>by simpa [An]using QJ s r i a (by simpa using h)
def UL:∀{l:List AV},Bm l=true->∀(i:Nat) (a:AV),l[i]? =some a->Bh a=true
 |[],_,i,a,h=>by simp at h
 |b::r,hs,i,a,h=>by
  simp only [Bm]at hs;cases hb:Bh b with
  |true=>
   rw [hb]at hs;cases i with
   |zero=>simp at h;subst h;exact hb
   |succ i=>exact UL hs i a (by simpa using h)
  |false=>rw [hb]at hs;cases hs
theorem ZB:∀(acc:List (Nat×AV)) (j m:Nat) (l:List AV),TZ acc j m=some l->l.length=m
 |acc,j,0,l,h=>by cases h;rfl
 |acc,j,m+1,l,h=>by unfold TZ at h;split at h;split at h;rename_i l' hl;cases h;simp [ZB acc _ m _ hl];cases h;cases h
def AR (n:Nat) (Y Y':Sy):Prop:=∀i,i<n->Y'.v i=Y.v i
theorem AR.refl (n:Nat) (Y:Sy):AR n Y Y:=λ_ _=>rfl
theorem AR.trans {n m:Nat} {Y Y' Y'':Sy} (h:AR n Y Y') (h':AR m Y' Y'') (hn:n<=m):AR n Y Y'':=λi hi=>(h' i (by omega)).trans (h i hi)
theorem AR.puts:∀{Y:Sy} {n:Nat} (l:List AV) (m:Nat),m<=n->AR m Y (Y.puts n l)
 |Y,n,[],m,h=>λ_ _=>rfl
 |Y,n,a::r,m,h=>λi hi=>by have:=AR.puts (Y:=Y.put n a) (n:=n+1) r m (by omega) i hi;exact this.trans (Sy.put_ne _ _ (by omega))
theorem AR.put {Y:Sy} {n:Nat} (a:AV) {m:Nat} (h:m<=n):AR m Y (Y.put n a):=λi hi=>Sy.put_ne _ _ (by omega)
variable [Gl]
def Jg:AV->Bool
 | .nsl=>true
 |_=>false
omit [Gl]in
def VF {D:Bj} (h:P8 D=true):D=[]:=by
 cases D with
 |nil=>rfl
 |cons _ _=>cases h
def R5 (m:MR) (E:Ag) (Y:Sy) (bim:Nat->Nat->Option Value):Ag where
 φ id:=match CO m.ds id with
   |some d=>match Jg (Ar E.sy d.x)with
    |true=>none
    |false=>match d.act with
     |some i=>E.φ i
     |none=>none
   |none=>match BT m.rn id with
    |some a=>E.φ a
    |none=>none
 sz:=E.sz
 imm:=E.imm
 res id:=(∃d,CO m.ds id=some d/\Jg (Ar E.sy d.x)=true)\/∃a,CO m.ds id=none/\BT m.rn id=some a/\E.vd a
 bim:=bim
 sy:=Y.v
 syl:=Y.l
 vd id:=(∃d,CO m.ds id=some d/\Jg (Ar E.sy d.x)=true)\/∃a,CO m.ds id=none/\BT m.rn id=some a/\E.vd a
def GQ (m:MR) (own:Nat->Option Nat):Nat->Option Nat:=λb=>match own b with
 |some i=>BT m.inv i
 |none=>none
omit [Gl]in
theorem jx {x:AV} (hx:x≠ .nsl):Jg x=false:=by cases x<;>first|rfl|exact absurd rfl hx
structure Pn (n:Nat) (tp:BH) (T:Tm) (E E':Ag) (own:Nat->Option Nat) (w:World) (m:MR):Prop where
 len:(An E.sy m.hv).length=tp.nv
 slots:∀tmps:Array Value,(∀t,t<512->Ac E (Ao T t) (tmps.getD t undef))->∀t,t<512->Ac E' (Ao (Fq n tp.slots) t) (tmps.getD t undef)
 rows:∀id k,(tp.heap n).get id=some k->BF E' w (GQ m own) id k
 fresh:∀id,tp.next<=id->E'.φ id=none
 vd:∀id,E'.vd id->E'.φ id=none/\id<tp.next
 next:tp.next<=Bb
 acc:∀d,d∈m.ds->∃t,t∈tp.acc/\t.id=d.id/\t.j=d.j/\C8 d.j m.hv=some d.x
 inj:∀i j a,(BT m.rn i=some a\/∃d,CO m.ds i=some d/\d.act=some a)->(BT m.rn j=some a\/∃d,CO m.ds j=some d/\d.act=some a)->i=j
 rnA:∀i a,BT m.rn i=some a->CO m.ds i=none
 accN:∀d a,d∈m.ds->d.act=some a->Jg (Ar E.sy d.x)=true->E.φ a=none
section
omit [Gl]
def iP {n:Nat} {tp:BH} {T:Tm} {H:AHeap} {m:MR} {Y0:Sy} {E:Ag} {w:World} {own:Nat->Option Nat} (hm:ND n tp T H=some m) (hf:AA Y0 n) (hx:∀i,i<n->E.sy i=Y0.v i) (hok:Ak (An E.sy m.hv)=true)
  (g1:∀id k,H.get id=some k->BF E w own id k) (hvd:∀id,E.vd id->E.φ id=none) (bim:Nat->Nat->Option Value):Pn n tp T E (R5 m E (Y0.puts n (An E.sy m.hv)) bim) own w m:=by
 unfold ND at hm;simp only at hm;split at hm;cases hm;rename_i ds hds;split at hm;cases hm;rename_i msl hms;split at hm;cases hm;rename_i hv hh;split at hm
 case h_2=>cases hm
 rename_i hb;cases hm;generalize hrn:bu tp T H=rn at*;obtain ⟨b1,hb⟩:=Au hb;obtain ⟨b2,hb⟩:=Au hb;obtain ⟨b3,hb⟩:=Au hb;obtain ⟨b4,hb⟩:=Au hb;obtain ⟨b5,hb⟩:=Au hb;obtain ⟨b6,hb⟩:=Au hb;obtain ⟨b7,hb⟩:=Au hb;obtain ⟨b8,b9⟩:=Au hb;have hN:=fg b4;have hmap:=iB tp.maps b7;have hrow:=jn tp.rows b5;have hacc:=eU b6;have hfix:=gW tp.fix b8;have b9:=Nat.le_of_ble_eq_true b9
 let Y':=Y0.puts n (An E.sy hv)
 let E':Ag:=R5 ⟨rn,ds,hv⟩ E Y' bim
 have hphiN:∀id a,BT rn id=some a->E'.φ id=E.φ a:=λid a h=>by
  show (match CO ds id with
   |some d=>_
   |none=>match BT rn id with
    |some a=>E.φ a
    |none=>none)=_
  rw [(hN id a (G9 h)).2.2.2,h]
 have hme:Gr H ds rn hv n E E':={
  phi:=hphiN
  sz:=rfl
  imm:=rfl
  low:=λi hi=>by rw [hx i hi];exact AR.puts (An E.sy hv) n (Nat.le_refl n) i hi
  hole:=λj x hj=>by rw [MY]at hj;have h1:=UL b1 j x hj;have h2:=QJ E.sy hv j x hj;exact ⟨h1,F7 (An E.sy hv) hf j _ h2,Fx (JN hok _ (List.mem_of_getElem? h2))⟩
  acc:=λid d i h1 h2 h3=>by
   show (match CO ds id with
    |some d=>match Jg (Ar E.sy d.x)with
     |true=>none
     |false=>match d.act with
      |some i=>E.φ i
      |none=>none
    |none=>_)=_
   grind [jx]
  val:=λid d h=>(hacc d (Jk h).1).2.2.1 }
 have hconC:∀id d i,CO ds id=some d->d.act=some i->Ar E.sy d.x≠ .nsl->∃b o,E.φ i=some (b,o)/\own b=some i/\BlkAt E' w b o (.syl (n+d.j)):=by
  intro id d i h1 h2 h3;have hdm:=(Jk h1).1;obtain ⟨_,_,hval,_⟩:=hacc d hdm;obtain ⟨hs1,hs2,hs3⟩:=hme.hole _ _ hval;obtain ⟨t,a',_,_,_,_,ha2⟩:=RZ hds d hdm;have hxok:okC (Ar E.sy d.x)=true:=by rw [MY]at hval;exact JN hok _ (List.mem_of_getElem? (QJ E.sy hv d.j d.x hval))
  rw [h2]at ha2;unfold Le at ha2;split at ha2;simp at ha2
  .split at ha2
   .rename_i k hk;split at ha2
    .rename_i hbb;simp only [A6,Prod.mk.injEq]at ha2;obtain ⟨hdx,rfl⟩:=ha2;obtain ⟨e1,e2⟩:=Au hbb;have e1:=za' e1;subst e1;obtain ⟨_,hv2⟩|⟨b,o,q1,q2,len,sz'',cs,q3,q4,arr,t',q5,q6,q7,q8⟩:=g1 _ _ hk
     .have hv2:E.sy k=some .nsl:=hv2
      grind [Ar]
     .refine ⟨b,o,q1,q2,len,sz'',cs,?_,q4,arr,t',q5,q6,q7,λq x hq=>?_⟩
      .grind [Ar]
      obtain ⟨u,k1,k2,k3⟩:=q8 q x hq;exact ⟨u,k1,k2,hme.con0 k3⟩
    cases ha2
   cases ha2
  .rename_i id' off len sz' cap _;split at ha2
   .rename_i cs0 hk;split at ha2
    case h_2=>cases ha2
    rename_i cs htk;have htk2:=(Ju htk).1;split at ha2
    .rename_i hbb;simp only [A6,Prod.mk.injEq]at ha2;obtain ⟨hdx,rfl⟩:=ha2;obtain ⟨e1,hbb⟩:=Au hbb;obtain ⟨e2,hbb⟩:=Au hbb;obtain ⟨e3,hbb⟩:=Au hbb;obtain ⟨e4,hbb⟩:=Au hbb;obtain ⟨e5,e6⟩:=Au hbb;have e4:=za' e4;rw [BW]at e4;obtain ⟨_,hv2⟩|⟨b,o,q1,q2,arr,t',q5,q6,q7,q8⟩:=g1 _ _ hk;exact hv2.elim
     .rw [←hdx]at hxok
      refine ⟨b,o,q1,q2,len,d.sz,An E.sy cs,?_,by rw [KM];exact e4,arr,t',q5,q6,by
       rw [KM,htk2,List.length_take];omega,λq x hq=>?_⟩
      rw [hs2,←hdx];rfl
      .rw [Lq]at hq;cases hcq:cs[q]? with
       |none=>grind
       |some y=>
        rw [hcq]at hq;simp only [Option.map_some,A6]at hq;subst hq;have hcq0:cs0[q]? =some y:=by
         grind
        obtain ⟨u,k1,k2⟩:=q8 q y hcq0;have hmem2:(An E.sy cs)[q]? =some (Ar E.sy y):=(by rw [Lq,hcq];rfl);exact ⟨u,k1,Fx (JN hxok _ (List.mem_of_getElem? hmem2)),hme.con0 (CZ (UL e5 q y hcq) k2)⟩
    cases ha2
   cases ha2
  cases ha2
 have hinvN:∀id a,BT rn id=some a->BT (MR.mk rn ds hv).inv a=some id:=λid a h=>(hN id a (G9 h)).2.2.1;have hown:∀b i id,own b=some i->BT (MR.mk rn ds hv).inv i=some id->GQ ⟨rn,ds,hv⟩ own b=some id:=λb i id h1 h2=>by
  grind [GQ]
 refine { len:=by grind [KM,ZB],slots:=λtmps hc=>cQ hme hc tp.slots b3,rows:=λid k hk=>?_,fresh:=λid hid=>?_,vd:=λid hi=>?_,next:=b9,acc:=λd hd=>?_,inj:=λi j a hi hj=>?_,rnA:=λi a h=>(hN i a (G9 h)).2.2.2,accN:=λd a hd hda AE=>?_ }
 .rcases WO tp.fix (λa b h=>by grind [G9]) id k hk with ⟨j,hj,rfl⟩|hk
  .obtain ⟨a,k',ha,hk,hj⟩:=hfix id j hj;have hphi:=hphiN id a ha;have hs:∀i',H.get a=some (.syl i')->(∀x,E.sy i'=some x->E'.sy (Iz n j)=some x)->BF E' w (GQ ⟨rn,ds,hv⟩ own) id (.syl (Iz n j)):=λi' hk hsj=>(by obtain ⟨hv1,hv2⟩|⟨b,o,e1,e2,len,sz,cs,e3,e4,arr,t,e5,e6,e7,e8⟩:=g1 a _ hk;exact .inl ⟨.inr ⟨a,(hN id a (G9 ha)).2.2.2,ha,hv1⟩,hsj _ hv2⟩;exact .inr ⟨b,o,hphi.trans e1,hown _ _ _ e2 (hinvN _ _ ha),len,sz,cs,hsj _ e3,e4,arr,t,e5,e6,e7,λi x hi=>by obtain ⟨u,k1,k2,k3⟩:=e8 i x hi;exact ⟨u,k1,k2,hme.con0 k3⟩⟩);cases hj with
   |old hlt=>exact hs _ hk λx hx=>by rw [hme.low _ hlt,hx]
   |sym q i' e hq=>
    obtain ⟨_,h2,_⟩:=hme.hole _ _ hq
    grind [Ar]
   |cells q len z cs e hq hl hso=>
    obtain ⟨_,h2,_⟩:=hme.hole _ _ hq;have hxok:Ak (An E.sy cs)=true:=by
     rw [MY]at hq;have:=JN hok _ (List.mem_of_getElem? (QJ E.sy hv q _ hq))
     grind [Ar,okC]
    obtain ⟨_,hv2⟩|⟨b,o,e1,e2,arr,t',q5,q6,q7,q8⟩:=g1 _ _ hk;exact hv2.elim
    .refine .inr ⟨b,o,hphi.trans e1,hown _ _ _ e2 (hinvN _ _ ha),len,z,An E.sy cs,by rw [e,h2];rfl,by rw [KM];exact hl,arr,t',q5,q6,by rw [KM];exact q7,λq x hq=>?_⟩;rw [Lq]at hq;cases hcq:cs[q]? with
     |none=>grind
     |some y=>rw [hcq]at hq;simp only [Option.map_some,A6]at hq;subst hq;obtain ⟨u,k1,k2⟩:=q8 q y hcq;have hmem2:(An E.sy cs)[q]? =some (Ar E.sy y):=(by rw [Lq,hcq];rfl);exact ⟨u,k1,Fx (JN hxok _ (List.mem_of_getElem? hmem2)),hme.con0 (CZ (UL hso q y hcq) k2)⟩
  rcases aN tp.maps (λa b h=>by grind [G9]) id k hk with ⟨j,hj,rfl⟩|hk;obtain ⟨a,x,ha,hx',hval⟩:=hmap id j hj;obtain ⟨hs1,hs2,_⟩:=hme.hole _ _ hval;have hphi:=hphiN id a ha;unfold VQ at hx';split at hx';rename_i es clock hk;split at hx';rename_i hso;cases hx';obtain ⟨_,hv2⟩|⟨b,o,e1,e2,e0,es',e3,e4⟩:=g1 a _ hk;exact hv2.elim;refine .inr ⟨b,o,hphi.trans e1,hown _ _ _ e2 (hinvN _ _ ha),e0,Kf es,An E.sy (B8 es),by rw [hs2];rfl,es',clock,e3,?_,(W7 (Au hso).1 (Au hso).2 e4).imp λ_ _ hc=>hme.con0 hc⟩;rw [Y8 e4,Array.length_toList];cases hx';rename_i i hk;cases hx';obtain ⟨_,hv2⟩|⟨b,o,e1,e2,e0,n',cs',f3,es',c0,f4,f5,f6⟩:=g1 a _ hk;exact hv2.elim;exact .inr ⟨b,o,hphi.trans e1,hown _ _ _ e2 (hinvN _ _ ha),e0,n',cs',by grind [Ar],es',c0,f4,f5,f6.imp λ_ _ hc=>hme.con0 hc⟩;cases hx';rcases j7 hds (λd hd=>(hacc d hd).2.1) id k hk with ⟨hfn,hk⟩|⟨d,hd,rfl⟩
  .obtain ⟨cs,h1,rfl⟩:=Yc tp.rows (λa b h=>by grind [G9]) id k hk;obtain ⟨a,l,ha,h3,h4⟩:=hrow id cs h1;obtain ⟨_,hv2⟩|⟨b,o,e1,e2,arr,t,e3,e4,e5,e6⟩:=g1 a _ h3;exact hv2.elim;refine .inr ⟨b,o,(hphiN id a ha).trans e1,hown _ _ _ e2 (hinvN _ _ ha),arr,t,e3,e4,?_,λi x hx'=>?_⟩
   .grind [T4,fi]
   .have hL:Ah E l ((arr.toList.drop o).take l.length):=by
      grind [Ah.of_at]
    obtain ⟨u,f1,f2⟩:=(Ma hme h4 hL).at i x hx'
    grind
  .obtain ⟨hdm,hdi⟩:=Jk hd;obtain ⟨_,_,hval,hin⟩:=hacc d hdm;obtain ⟨_,hs2,_⟩:=hme.hole _ _ hval;by_cases AE:Ar E.sy d.x=.nsl
   .refine .inl ⟨.inl ⟨d,hd,by rw [AE];rfl⟩,?_⟩;show E'.sy (n+d.j)=some .nsl
    grind
   .obtain ⟨t,a',_,_,_,_,ha2⟩:=RZ hds d hdm;have hact:∃i,d.act=some i:=by
     cases hact:d.act with
     |some i=>simp
     |none=>unfold Le at ha2;split at ha2;simp only [A6,Prod.mk.injEq]at ha2;exact absurd (by rw [←ha2.1];rfl) AE;all_goals grind
    obtain ⟨i,hi⟩:=hact;obtain ⟨b,o,q1,q2,q3⟩:=hconC id d i hd hi AE;exact .inr ⟨b,o,(hme.acc id d i hd hi AE).trans q1,hown _ _ _ q2 (by grind),q3⟩
 .show (match CO ds id with
    |some d=>_
    |none=>match BT rn id with
     |some a=>E.φ a
     |none=>none)=none
  grind [Jk,G9]
 .rcases hi with ⟨d,hd,hdn⟩|⟨a,hfa,ha,hva⟩
  .obtain ⟨hdm,hdi⟩:=Jk hd;refine ⟨?_,by grind⟩;show (match CO ds id with
    |some d=>match Jg (Ar E.sy d.x)with
     |true=>none
     |false=>match d.act with
      |some i=>E.φ i
      |none=>none
    |none=>_)=none
   grind
  grind [G9]
 .grind [RZ]
 .grind [Jk]
 .obtain ⟨t,a',_,_,_,_,ha2⟩:=RZ hds d hd;rw [hda]at ha2;unfold Le at ha2;split at ha2;simp at ha2
  .split at ha2
   .rename_i k hk;split at ha2
    .rename_i hbb;simp only [A6,Prod.mk.injEq]at ha2;obtain ⟨hdx,rfl⟩:=ha2;have e1:=za' (Au hbb).1;subst e1;rcases g1 _ _ hk with ⟨q1,_⟩|⟨b,o,q1,q2,len,sz'',cs,q3,_⟩
     .grind
     rw [←hdx]at AE;simp only [Ar,q3]at AE;cases AE
    cases ha2
   cases ha2
  .split at ha2
   .split at ha2
    case h_2=>cases ha2
    split at ha2;simp only [A6,Prod.mk.injEq]at ha2;rw [←ha2.1]at AE;cases AE;cases ha2
   cases ha2
  cases ha2
def jD {ds:List DA} {rn:List (Nat×Nat)}:∀{k:Nat},Wk ds rn k=true->∀i,i<k->BT rn i=some i\/(BT rn i=none/\∃d,CO ds i=some d/\d.act=some i)
 |0,_,i,hi=>absurd hi (Nat.not_lt_zero _)
 |k+1,h,i,hi=>by obtain ⟨h1,h2⟩:=Au h;rcases Nat.lt_or_ge i k with hlt|hge;exact jD h2 i hlt;have:i=k:=(by omega);subst this;split at h1;rename_i a ha;rw [AF h1]at ha;exact .inl ha;rename_i hn;split at h1;rename_i d hd;exact .inr ⟨hn,d,hd,K3 h1⟩;cases h1
def cq {k:Nat} {hv:List AV}:∀{ts:List TA} {l:List Nat},UI k hv ts=some l->∀t,t∈ts->t.id<k->(∃i,C8 t.j hv=some (.sym i)/\i∈l)\/∃n z cs,C8 t.j hv=some (.vsl n z cs)
 |[],l,h,t,ht,_=>by cases ht
 |q::r,l,h,t,ht,hk=>by
  unfold UI at h;split at h;cases h;rename_i l' hl;rcases List.mem_cons.1 ht with rfl|ht
  .grind [zd']
  have ih:=cq hl t ht hk;split at h;cases h;exact ih;split at h;cases h;exact ih.imp (λ⟨i,h1,h2⟩=>⟨i,h1,zb' _ h2⟩) id;cases h;exact ih;cases h
end
def vy {P:Program} {N n lv k:Nat} {tp:BH} {S:VS} {mt:MT} {Y0 Y:Sy} (hm:Oq n k tp S=some mt) (hf:AA Y0 n) (hx:AR n Y0 Y) (hok:Ak (An Y.v mt.hv)=true) (hnn:∀i,i∈mt.nn->(Dl.nn i).ok Y):
  (An Y.v mt.hv).length=tp.nv/\A1 P N k Y S.T S.H S.D (Y0.puts n (An Y.v mt.hv)) (tp.inst n lv).T (tp.inst n lv).H []:=by
 unfold Oq at hm;split at hm;cases hm;rename_i b0;split at hm;cases hm;rename_i m hmr;split at hm;cases hm;rename_i hlow;split at hm;cases hm;rename_i nl hnl;cases hm;have hD:=VF b0;rw [hD];have hlen:(An Y.v m.hv).length=tp.nv:=by
  grind [ND,KM,ZB]
 refine ⟨hlen,λB pr E a w hy st=>?_⟩;have hsyE:E.sy=Y.v:=hy.v;obtain ⟨own,g1,g2,g3⟩:=st.r.own;have hc:=iP (w:=w) (own:=own) hmr hf (λi hi=>by rw [hsyE];exact hx i hi) (by grind) g1 (λid h=>(st.r.resv id (st.r.vds id h)).1) E.bim;rw [hsyE]at hc;obtain ⟨p1,p2,p3,p4⟩:=hf.puts (An Y.v m.hv)
 let E':Ag:=R5 m E (Y0.puts n (An Y.v m.hv)) E.bim
 have hphi:∀i x,i<k->E.φ i=some x->E'.φ i=some x:=λi x hi hφ=>by
  rcases jD hlow i hi with h|⟨h,d,hd,hda⟩
  .have:=hc.rnA i i h;show (match CO m.ds i with
    |some d=>_
    |none=>match BT m.rn i with
     |some a=>E.φ a
     |none=>none)=_
   grind
  .obtain ⟨hdm,hdi⟩:=Jk hd;obtain ⟨t,t1,t2,t3,t4⟩:=hc.acc d hdm;have hne:Ar E.sy d.x≠ .nsl:=by
    rcases cq hnl t t1 (by omega)with ⟨i',q1,q2⟩|⟨a1,a2,a3,q1⟩
    .obtain ⟨a1,a2,a3,q3⟩:=hnn i' q2
     grind [Ar]
    grind [Ar]
   show (match CO m.ds i with
    |some d=>match Jg (Ar E.sy d.x)with
     |true=>none
     |false=>match d.act with
      |some i=>E.φ i
      |none=>none
    |none=>_)=_
   grind [jx]
 have hle:E.leF k E':=⟨λi x hi h=>hphi i x hi h,λ_ _ h=>h,λ_ _ _ h=>h,rfl,λi hi=>by rw [hsyE,hx i (by have:=hf.1;omega)];exact p4 i hi⟩;refine ⟨E',hle,⟨rfl,rfl,λ_ h=>h⟩,⟨st.t.size,st.t.le,hc.slots a.tmps st.t.con,st.t.gl.leF hle⟩,?_,st.d⟩;obtain ⟨n1,n2⟩:=BH.heap_next tp n;refine { own:=⟨GQ m own,hc.rows,λb hb=>by grind [GQ],λb o v hv=>by unfold GQ;simp only [g3 b o v hv]⟩,imm:=st.r.imm,ib:=st.r.ib,fresh:=λid h1 h2=>hc.fresh id (n1▸h1),resv:=λid hi=>?_,vds:=λ_ h=>h,szs:=st.r.szs,prot:=st.r.prot,size:=st.r.size,os:=st.r.os,output:=st.r.output };obtain ⟨h1,h2⟩:=hc.vd id hi;refine ⟨h1,λhx=>?_⟩;have:(tp.heap n).next<=id:=hx.1
 omega
end Go.Sx
