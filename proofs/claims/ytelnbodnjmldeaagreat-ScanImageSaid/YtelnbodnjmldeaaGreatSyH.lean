/-
  The evaluator with symbols, with loops by templates and calls by what is known of them.
-/
import Derived.Test.YtelnbodnjmldeaaGreatSyN
set_option linter.all false
open Nat renaming eq_of_beq_eq_true→za',blt_eq→zd'
open List renaming mem_cons_of_mem→zb',mem_cons_self→zc'
namespace Go.Sx
structure TA where
 id:Nat
 sz:Nat
 j:Nat
 loc:Nat
 off:Option Nat
structure BE where
 slots:List (Nat×AV)
 rows:List (Nat×List AV)
 next:Nat
 nv:Nat
 acc:List TA:=[]
 maps:List (Nat×Nat):=[]
 fix:List (Nat×Nat):=[]
abbrev mc:=List (Nat×List BE)
structure FT where
 k:Nat
 ent:BE
 exs:List (Bool×BE)
inductive DF where
 |same (i j:Nat)
 |nn (i:Nat)
 |pos (i:Nat)
mutual
inductive VT where
 |bad
 |done (v:AV)
 |ite (i:Nat) (a b:VT)
 |lt (op:XOp) (ag:List AV) (n:Nat) (m:Option Nat) (t:VT)
 |call (f:FuncId) (ag:List AV) (n:Nat) (sh:List (Option Nat)) (t:VT)
 |loop (n j:Nat) (hv:List AV) (bs:GY)
 |again (lvl j:Nat) (hv:List AV)
 |chk (c:DF) (t:VT)
 |callF (f:FuncId) (ft:FT) (hv:List AV) (n:Nat) (bs:GY)
 |both (a b:VT)
inductive GY where
 |nil
 |cons (nv:Nat) (t:VT) (r:GY)
end
def flat:List (Option Nat)->List AV->Option (List AV)
 |[],[]=>some []
 |none::s,a::r=>match flat s r with
  |some l=>some (a::l)
  |none=>none
 |some m::s,.agg cs::r=>match decide (cs.length=m)with
  |true=>match flat s r with
   |some l=>some (cs++l)
   |none=>none
  |false=>none
 |_,_=>none
def Ls (sh:List (Option Nat)) (v:AV):Option (List AV):=match sh with
 |[s]=>flat [s] [v]
 |sh=>match v with
  | .tup l=>flat sh l
  |_=>none
def Fr:Nat->List (Option Nat)->List AV
 |_,[]=>[]
 |n,none::s=>.sym n::Fr (Nat.succ n) s
 |n,some m::s=>.agg (Af n m)::Fr (Nat.add n m) s
def Id (n:Nat) (sh:List (Option Nat)):AV:=match sh with
 |[s]=>match Fr n [s]with
  |a::_=>a
  |[]=>.tup []
 |sh=>.tup (Fr n sh)
def FJ:List (Option Nat)->Nat
 |[]=>0
 |none::s=>Nat.succ (FJ s)
 |some m::s=>Nat.add m (FJ s)
mutual
def DG (n:Nat):AV->AV
 | .slx j z i=>match z with
   |0=>.sym (Nat.add n j)
   |z+1=>.slx j (z+1) (Nat.add n i)
 | .ptx id j sz _=>.slx id sz j
 | .vptr cs=>.vptr (CE n cs)
 | .vsl a z cs=>.vsl a z (CE n cs)
 | .fn f cs=>.fn f (CE n cs)
 | .iface t a=>.iface t (DG n a)
 | .agg cs=>.agg (CE n cs)
 | .tup cs=>.tup (CE n cs)
 |a=>a
def CE (n:Nat):List AV->List AV
 |[]=>[]
 |a::r=>DG n a::CE n r
end
def Fx (n:Nat):List (Nat×AV)->Tm
 |[]=>AK
 |(t,a)::r=>Ea (Fx n r) t (DG n a)
def LG (n next:Nat):List (Nat×List AV)->AHeap
 |[]=>⟨AD,next,A8⟩
 |(id,cs)::r=>(LG n next r).set id (.cells (CE n cs))
def Lq (n:Nat) (H:AHeap):List TA->AHeap
 |[]=>H
 |t::r=>(Lq n H r).set t.id (.syl (Nat.add n t.j))
def Og (n:Nat) (H:AHeap):List (Nat×Nat)->AHeap
 |[]=>H
 |(id,j)::r=>(Og n H r).set id (.mpl (Nat.add n j))
def K9:Nat:=1500
def Lv (i:Nat):Nat:=Nat.div (Nat.sub i K9) 16
def zF (i:Nat):Nat:=Nat.mod (Nat.sub i K9) 16
def IX (n i:Nat):Nat:=match Nat.blt i K9 with
 |true=>i
 |false=>Nat.add n (Lv i)
def OS (n:Nat) (H:AHeap):List (Nat×Nat)->AHeap
 |[]=>H
 |(id,i)::r=>(OS n H r).set id (.syl (IX n i))
def N0:List (Nat×Nat)->List Nat->List Nat
 |[],acc=>acc
 |(id,_)::r,acc=>id::N0 r acc
def SU (H:AHeap) (id:Nat):Option AV:=match H.get id with
 |some (.map es _)=>match Bi (B7 es)&&Mv es with
  |true=>some (.vsl (Kb es) 2 (B7 es))
  |false=>none
 |some (.mpl i)=>some (.sym i)
 |_=>none
def R8:List (Nat×List AV)->List Nat
 |[]=>[]
 |(id,_)::r=>id::R8 r
mutual
def YB:AV->AV->List (Nat×AV)->List (Nat×AV)
 | .slx j z _,a,acc=>match z with
   |0=>(j,a)::acc
   |_+1=>acc
 | .agg ts,.agg cs,acc=>MN ts cs acc
 | .tup ts,.tup cs,acc=>MN ts cs acc
 | .vptr ts,.vptr cs,acc=>MN ts cs acc
 | .vsl _ _ ts,.vsl _ _ cs,acc=>MN ts cs acc
 | .fn _ ts,.fn _ cs,acc=>MN ts cs acc
 | .iface _ t,.iface _ a,acc=>YB t a acc
 |_,_,acc=>acc
def MN:List AV->List AV->List (Nat×AV)->List (Nat×AV)
 |t::ts,a::r,acc=>YB t a (MN ts r acc)
 |_,_,acc=>acc
end
def P3:List (Nat×AV)->Nat->Option AV
 |[],_=>none
 |(i,a)::r,j=>match Nat.beq i j with
  |true=>some a
  |false=>P3 r j
def Te (acc:List (Nat×AV)):Nat->Nat->Option (List AV)
 |_,0=>some []
 |j,m+1=>match P3 acc j with
  |some a=>match Te acc (Nat.succ j) m with
   |some l=>some (a::l)
   |none=>none
  |none=>none
structure DA where
 id:Nat
 sz:Nat
 j:Nat
 x:AV
 act:Option Nat
def KN (H:AHeap) (sz:Nat) (a:AV):Option (AV×Option Nat):=match a with
 | .nsl=>some (.nsl,none)
 | .slx id sz' i=>match H.get id with
   |some (.syl k)=>match Nat.beq k i&&Nat.beq sz' sz with
    |true=>some (.sym i,some id)
    |false=>none
   |_=>none
 | .sl id off len sz' _=>match H.get id with
   |some (.cells cs)=>match CN (Nat.mul len sz) cs with
    |some cs=>match Nat.beq off 0&&(Nat.beq sz' sz&&(Nat.blt 0 len&&(Nat.beq (Bp cs) (Nat.mul len sz)&&(Bi cs&&Ds cs))))with
     |true=>some (.vsl len sz cs,some id)
     |false=>none
    |none=>none
   |_=>none
 |_=>none
def Kz:Nat->List AV->Option AV
 |_,[]=>none
 |0,a::_=>some a
 |n+1,_::r=>Kz n r
def BQ:List (Nat×Nat)->Nat->Option Nat
 |[],_=>none
 |(a,t)::r,i=>match Nat.beq a i with
  |true=>some t
  |false=>BQ r i
def OE (T:Tm) (H:AHeap) (rn:List (Nat×Nat)) (t:TA):Option AV:=match t.off with
 |none=>some (An T t.loc)
 |some o=>match BQ rn t.loc with
  |some a=>match H.get a with
   |some (.cells cs)=>Kz o cs
   |_=>none
  |none=>match An T (Nat.sub t.loc 600)with
   | .tup cs=>Kz o cs
   | .agg cs=>Kz o cs
   |_=>none
def O0 (T:Tm) (H:AHeap) (rn:List (Nat×Nat)):List TA->Option (List DA)
 |[]=>some []
 |t::r=>match OE T H rn t with
  |some a=>match KN H t.sz a with
   |some (x,act)=>match O0 T H rn r with
    |some l=>some (⟨t.id,t.sz,t.j,x,act⟩::l)
    |none=>none
   |none=>none
  |none=>none
def CR:List DA->Nat->Option DA
 |[],_=>none
 |d::r,id=>match Nat.beq d.id id with
  |true=>some d
  |false=>CR r id
def IV:Option Nat->Option Nat->Bool
 |none,none=>true
 |some a,some b=>Nat.beq a b
 |_,_=>false
mutual
def mA (H:AHeap) (ds:List DA) (rn:List (Nat×Nat)) (hv:List AV) (n:Nat):AV->AV->Bool
 | .opq,_=>true
 | .sym i,a=>Nat.blt i n&&CI (.sym i) a
 | .ptr id off,a=>match a with
   | .ptr id' off'=>IV (BQ rn id) (some id')&&Nat.beq off off'
   |_=>false
 | .sl id off len sz cap,a=>match a with
   | .sl id' off' len' sz' cap'=>IV (BQ rn id) (some id')&&(Nat.beq off off'&&(Nat.beq len len'&&(Nat.beq sz sz'&&(cap.isNone||cap==cap'))))
   |_=>false
 | .agg ts,a=>match a with
   | .agg cs=>mL H ds rn hv n ts cs
   |_=>false
 | .tup ts,a=>match a with
   | .tup cs=>mL H ds rn hv n ts cs
   |_=>false
 | .vptr ts,a=>match a with
   | .vptr cs=>mL H ds rn hv n ts cs
   |_=>false
 | .vsl len sz ts,a=>match a with
   | .vsl len' sz' cs=>Nat.beq len len'&&(Nat.beq sz sz'&&mL H ds rn hv n ts cs)
   |_=>false
 | .fn f ts,a=>match a with
   | .fn g cs=>Nat.beq f g&&mL H ds rn hv n ts cs
   |_=>false
 | .iface t x,a=>match a with
   | .iface u y=>Nat.beq t u&&mA H ds rn hv n x y
   |_=>false
 | .slx j z i,a=>match z with
   |0=>match Dd j hv with
    |some x=>CI x a
    |none=>false
   |z+1=>match CR ds j with
    |some d=>match KN H (Nat.succ z) a with
     |some (x,act)=>Nat.beq d.sz (Nat.succ z)&&(Nat.beq d.j i&&(CI d.x x&&IV d.act act))
     |none=>false
    |none=>false
 | .ptx id i sz _,a=>match a with
   | .slx id' sz' i'=>IV (BQ rn id) (some id')&&(Nat.beq sz sz'&&(Nat.beq i i'&&Nat.blt i n))
   |_=>false
 | .map id,a=>match a with
   | .map id'=>IV (BQ rn id) (some id')
   |_=>false
 |t,a=>CI t a
def mL (H:AHeap) (ds:List DA) (rn:List (Nat×Nat)) (hv:List AV) (n:Nat):List AV->List AV->Bool
 |[],[]=>true
 |t::ts,a::r=>mA H ds rn hv n t a&&mL H ds rn hv n ts r
 |_,_=>false
end
mutual
def Ii (n:Nat):AV->Bool
 | .sym i=>Nat.blt i n
 | .vptr cs=>CM n cs
 | .vsl _ _ cs=>CM n cs
 | .fn _ cs=>CM n cs
 | .iface _ a=>Ii n a
 | .agg cs=>CM n cs
 | .tup cs=>CM n cs
 |_=>true
def CM (n:Nat):List AV->Bool
 |[]=>true
 |a::r=>Ii n a&&CM n r
end
structure VS where
 T:Tm
 H:AHeap
 n:Nat
 lv:Nat
 D:Bg
inductive VX where
 |exit (id:Nat) (S:VS)
 |ret (S:VS)
 |pan (v:AV) (S:VS)
def VS.x (S:VS):XS:=⟨S.T,S.H,S.n⟩
def VS.know (S:VS) (i:Nat) (b:Bool):VS:=⟨B1 (GG i b) S.T,S.H,S.n,S.lv,S.D⟩
def ob (T:Tm):List (Nat×AV)->List (Nat×AV)->List (Nat×AV)
 |[],acc=>acc
 |(t,a)::r,acc=>YB a (An T t) (ob T r acc)
def mu (H:AHeap) (rn:List (Nat×Nat)):List (Nat×List AV)->List (Nat×AV)->List (Nat×AV)
 |[],acc=>acc
 |(id,cs)::r,acc=>match BQ rn id with
  |some a=>match H.get a with
   |some (.cells l)=>MN cs l (mu H rn r acc)
   |_=>acc
  |none=>acc
def n6:List DA->List (Nat×AV)->List (Nat×AV)
 |[],acc=>acc
 |d::r,acc=>(d.j,d.x)::n6 r acc
def mT (H:AHeap) (ds:List DA) (rn:List (Nat×Nat)) (hv:List AV) (n:Nat) (T:Tm):List (Nat×AV)->Bool
 |[]=>true
 |(t,a)::r=>Nat.blt t 512&&(mA H ds rn hv n a (An T t)&&mT H ds rn hv n T r)
def Po (id a:Nat) (rn:List (Nat×Nat)):List (Nat×Nat):=match BQ rn id with
 |none=>(id,a)::rn
 |some _=>rn
mutual
def YO:AV->AV->List (Nat×Nat)->List (Nat×Nat)
 | .ptr id _,.ptr id' _,rn=>Po id id' rn
 | .sl id _ _ _ _,.sl id' _ _ _ _,rn=>Po id id' rn
 | .ptx id _ _ _,.slx id' _ _,rn=>Po id id' rn
 | .map id,.map id',rn=>Po id id' rn
 | .agg ts,.agg cs,rn=>PM ts cs rn
 | .tup ts,.tup cs,rn=>PM ts cs rn
 | .iface _ t,.iface _ a,rn=>YO t a rn
 |_,_,rn=>rn
def PM:List AV->List AV->List (Nat×Nat)->List (Nat×Nat)
 |t::ts,a::r,rn=>PM ts r (YO t a rn)
 |_,_,rn=>rn
end
def mz (T:Tm):List (Nat×AV)->List (Nat×Nat)->List (Nat×Nat)
 |[],rn=>rn
 |(t,a)::r,rn=>mz T r (YO a (An T t) rn)
def R4 (H:AHeap):List (Nat×List AV)->List (Nat×Nat)->List (Nat×Nat)
 |[],rn=>rn
 |(id,cs)::r,rn=>match BQ rn id with
  |some a=>match H.get a with
   |some (.cells l)=>R4 H r (PM cs l rn)
   |_=>R4 H r rn
  |none=>match H.get id with
   |some (.cells l)=>R4 H r (PM cs l ((id,id)::rn))
   |_=>R4 H r rn
def aw:List (Nat×Nat)->List (Nat×Nat)->List (Nat×Nat)
 |[],rn=>rn
 |(id,_)::r,rn=>aw r (Po id id rn)
def ZF (ids:List Nat):List (Nat×Nat)->List (Nat×Nat)
 |[]=>[]
 |(id,a)::r=>match Bx id ids with
  |true=>(id,a)::ZF ids r
  |false=>ZF ids r
def BE.ids (tp:BE):List Nat:=N0 tp.fix (N0 tp.maps (R8 tp.rows))
def aN (tp:BE) (T:Tm) (H:AHeap):List (Nat×Nat):=ZF tp.ids (aw tp.fix (aw tp.maps (R4 H tp.rows (mz T tp.slots []))))
def cb:List (Nat×Nat)->List (Nat×Nat)->List (Nat×Nat)
 |[],acc=>acc
 |(id,a)::r,acc=>(a,id)::cb r acc
def P4:List DA->List (Nat×Nat)->List (Nat×Nat)
 |[],acc=>acc
 |d::r,acc=>match d.act with
  |some i=>(i,d.id)::P4 r acc
  |none=>P4 r acc
def mN (ds:List DA) (inv:List (Nat×Nat)) (next:Nat):List (Nat×Nat)->Bool
 |[]=>true
 |(id,a)::r=>Nat.blt id next&&(Nat.blt id A8&&(IV (BQ inv a) (some id)&&((CR ds id).isNone&&mN ds inv next r)))
def mH (ds:List DA) (rn:List (Nat×Nat)) (hv:List AV) (n:Nat) (H:AHeap):List (Nat×List AV)->Bool
 |[]=>true
 |(id,cs)::r=>(match BQ rn id with
  |some a=>match H.get a with
   |some (.cells l)=>mL H ds rn hv n cs l
   |_=>false
  |none=>false)&&mH ds rn hv n H r
def mD (inv:List (Nat×Nat)) (hv:List AV) (next:Nat):List DA->Bool
 |[]=>true
 |d::r=>Nat.blt d.id next&&(Nat.blt d.id A8&&((match Dd d.j hv with
  |some y=>CI y d.x
  |none=>false)&&((match d.act with
  |some i=>IV (BQ inv i) (some d.id)
  |none=>true)&&mD inv hv next r)))
def mq (H:AHeap) (rn:List (Nat×Nat)):List (Nat×Nat)->List (Nat×AV)->Option (List (Nat×AV))
 |[],acc=>some acc
 |(id,j)::r,acc=>match BQ rn id with
  |some a=>match SU H a with
   |some x=>match mq H rn r acc with
    |some l=>some ((j,x)::l)
    |none=>none
   |none=>none
  |none=>none
def mM (rn:List (Nat×Nat)) (hv:List AV) (H:AHeap):List (Nat×Nat)->Bool
 |[]=>true
 |(id,j)::r=>(match BQ rn id with
  |some a=>match SU H a with
   |some x=>match Dd j hv with
    |some y=>CI y x
    |none=>false
   |none=>false
  |none=>false)&&mM rn hv H r
def gF (cs:List AV) (x:AV):Bool:=match x with
 | .vsl len z cs'=>El cs' cs&&(Nat.beq (Bp cs) (Nat.mul len z)&&(Bi cs&&Ds cs))
 |_=>false
def mF (rn:List (Nat×Nat)) (hv:List AV) (n:Nat) (H:AHeap):List (Nat×Nat)->Bool
 |[]=>true
 |(id,i)::r=>(match BQ rn id with
  |some a=>match H.get a with
   |some (.syl i')=>match Nat.blt i K9 with
    |true=>Nat.blt i n&&Nat.beq i i'
    |false=>match Dd (Lv i) hv with
     |some x=>CI x (.sym i')
     |none=>false
   |some (.cells cs)=>match Nat.blt i K9 with
    |true=>false
    |false=>match Dd (Lv i) hv with
     |some x=>gF cs x
     |none=>false
   |_=>false
  |none=>false)&&mF rn hv n H r
def M9 (rn:List (Nat×Nat)) (H:AHeap):List (Nat×Nat)->List (Nat×AV)->List (Nat×AV)
 |[],acc=>acc
 |(id,i)::r,acc=>match Nat.blt i K9 with
  |true=>M9 rn H r acc
  |false=>match BQ rn id with
   |some a=>match H.get a with
    |some (.syl i')=>(Lv i,.sym i')::M9 rn H r acc
    |some (.cells cs)=>(Lv i,.vsl (Nat.div (Bp cs) (zF i)) (zF i) cs)::M9 rn H r acc
    |_=>M9 rn H r acc
   |none=>M9 rn H r acc
def Xk (ds:List DA) (rn:List (Nat×Nat)):Nat->Bool
 |0=>true
 |k+1=>(match BQ rn k with
  |some a=>Nat.beq a k
  |none=>match CR ds k with
   |some d=>IV d.act (some k)
   |none=>false)&&Xk ds rn k
def Ru:Bg->Bool
 |[]=>true
 |_=>false
structure MR where
 rn:List (Nat×Nat)
 ds:List DA
 hv:List AV
def MR.inv (m:MR):List (Nat×Nat):=P4 m.ds (cb m.rn [])
def NS (n:Nat) (tp:BE) (T:Tm) (H:AHeap):Option MR:=match aN tp T H with
 |rn=>match O0 T H rn tp.acc with
  |none=>none
  |some ds=>match mq H rn tp.maps (n6 ds (ob T tp.slots (mu H rn tp.rows [])))with
   |none=>none
   |some ms=>match Te (M9 rn H tp.fix ms) 0 tp.nv with
    |none=>none
    |some hv=>match MR.mk rn ds hv with
      |m=>match Bi hv&&(Ds hv&&(mT H ds rn hv n T tp.slots&&(mN ds m.inv tp.next rn&&(mH ds rn hv n H tp.rows&&(mD m.inv hv tp.next ds&&(mM rn hv H tp.maps&&(mF rn hv n H tp.fix&&Nat.ble tp.next A8)))))))with
       |true=>some m
       |false=>none
def VN (k:Nat) (hv:List AV):List TA->Option (List Nat)
 |[]=>some []
 |t::r=>match VN k hv r with
  |none=>none
  |some l=>match Nat.blt t.id k with
   |false=>some l
   |true=>match Dd t.j hv with
    |some (.sym i)=>some (i::l)
    |some (.vsl _ _ _)=>some l
    |_=>none
structure MT where
 hv:List AV
 nn:List Nat
def Oc (n k:Nat) (tp:BE) (S:VS):Option MT:=match Ru S.D with
 |false=>none
 |true=>match NS n tp S.T S.H with
  |none=>none
  |some m=>match Xk m.ds m.rn k with
   |false=>none
   |true=>match VN k m.hv tp.acc with
    |none=>none
    |some l=>some ⟨m.hv,l⟩
mutual
def bY:AV->AV->List AV
 | .slx _ z _,a=>match z with
   |0=>match Bf a with
    |true=>[]
    |false=>[a]
   |_+1=>[]
 | .agg ts,.agg cs=>X3 ts cs
 | .tup ts,.tup cs=>X3 ts cs
 | .iface _ t,.iface _ a=>bY t a
 | .vsl _ _ _,.sl id o n z c=>[.sl id o n z c]
 |_,_=>[]
def X3:List AV->List AV->List AV
 |t::ts,a::r=>IL (bY t a) (X3 ts r)
 |_,_=>[]
end
def SC (T:Tm):List (Nat×AV)->List AV
 |[]=>[]
 |(t,a)::r=>IL (bY a (An T t)) (SC T r)
def Ee (S:VS) (ag:List AV):VS:=let l:=Jr 100 S.H ag []
 ⟨B1 (frz (FH S.H l)) S.T,GA S.H l,S.n,S.lv,S.D⟩
def ff (S:VS) (ag:List AV) (id:Nat):VS:=let l:=Jr 100 S.H ag []
 ⟨B1 (frz (FH S.H l)) S.T,Wg (FH S.H l) id (GA S.H l),S.n,S.lv,S.D⟩
mutual
def Fv (id i k:Nat):AV->AV
 | .slx a z j=>match Nat.beq a id&&Nat.beq j i with
   |true=>.slx a z k
   |false=>.slx a z j
 | .vptr cs=>.vptr (JY id i k cs)
 | .vsl n z cs=>.vsl n z (JY id i k cs)
 | .fn f cs=>.fn f (JY id i k cs)
 | .iface t a=>.iface t (Fv id i k a)
 | .agg cs=>.agg (JY id i k cs)
 | .tup cs=>.tup (JY id i k cs)
 |a=>a
def JY (id i k:Nat):List AV->List AV
 |[]=>[]
 |a::r=>Fv id i k a::JY id i k r
end
structure SR where
 id:Nat
 i:Nat
 k:Nat
def ON (H:AHeap):List AV->List SR
 |[]=>[]
 |a::r=>match a with
  | .slx id _ i=>match H.get id with
    |some (.syl k)=>match Nat.beq i k with
     |true=>ON H r
     |false=>⟨id,i,k⟩::ON H r
    |_=>ON H r
  |_=>ON H r
def ZP:List SR->List AV->List AV
 |[],l=>l
 |q::r,l=>ZP r (JY q.id q.i q.k l)
def Jh:List SR->VS->VS
 |[],S=>S
 |q::r,S=>Jh r ⟨B1 (Fv q.id q.i q.k) S.T,S.H,S.n,S.lv,S.D⟩
def bA:List SR->List (Nat×Nat)
 |[]=>[]
 |q::r=>(q.i,q.k)::bA r
structure FR where
 l:List (Nat×Nat)
 S:VS
def Ky (S:VS) (l:List AV):FR:=match ON S.H l with
 |[]=>⟨[],Ee S l⟩
 |q=>⟨bA q,Ee (Jh q S) (ZP q l)⟩
def Ke (tp:BE) (S:VS):FR:=match SC S.T tp.slots with
 |[]=>⟨[],S⟩
 |l=>Ky S l
def bX (H:AHeap) (a:AV):Option (Nat×Nat×AV):=match a with
 | .slx id z i=>match H.get id with
   |some (.syl k)=>match Nat.beq i k with
    |true=>none
    |false=>some (i,k,.slx id z k)
   |_=>none
 |_=>none
def EP:Nat->AV->List AV->List AV
 |_,_,[]=>[]
 |0,x,_::r=>x::r
 |n+1,x,a::r=>a::EP n x r
def Sr (rn:List (Nat×Nat)) (t:TA) (S:VS):FR:=match OE S.T S.H rn t with
 |none=>⟨[],S⟩
 |some a=>match bX S.H a with
  |none=>⟨[],S⟩
  |some (i,k,a')=>match t.off with
   |none=>match Nat.blt t.loc 512 with
    |true=>⟨[(i,k)],⟨Ea S.T t.loc a',S.H,S.n,S.lv,S.D⟩⟩
    |false=>⟨[],S⟩
   |some o=>match BQ rn t.loc with
    |some r=>match S.H.get r with
     |some (.cells cs)=>⟨[(i,k)],⟨S.T,S.H.set r (.cells (EP o a' cs)),S.n,S.lv,S.D⟩⟩
     |_=>⟨[],S⟩
    |none=>match An S.T (Nat.sub t.loc 600)with
     | .tup cs=>match Nat.blt (Nat.sub t.loc 600) 512 with
       |true=>⟨[(i,k)],⟨Ea S.T (Nat.sub t.loc 600) (.tup (EP o a' cs)),S.H,S.n,S.lv,S.D⟩⟩
       |false=>⟨[],S⟩
     | .agg cs=>match Nat.blt (Nat.sub t.loc 600) 512 with
       |true=>⟨[(i,k)],⟨Ea S.T (Nat.sub t.loc 600) (.agg (EP o a' cs)),S.H,S.n,S.lv,S.D⟩⟩
       |false=>⟨[],S⟩
     |_=>⟨[],S⟩
def Kg (rn:List (Nat×Nat)):List TA->VS->FR
 |[],S=>⟨[],S⟩
 |t::r,S=>match Sr rn t S with
  |f=>match Kg rn r f.S with
   |g=>⟨appP f.l g.l,g.S⟩
where
 appP:List (Nat×Nat)->List (Nat×Nat)->List (Nat×Nat)
 |[],l=>l
 |x::r,l=>x::appP r l
def ST (tp:BE) (S:VS):FR:=Kg (aN tp S.T S.H) tp.acc S
def Ij (tp:BE) (S:VS):FR:=match Ke tp S with
 |f=>match ST tp f.S with
  |g=>⟨Kg.appP f.l g.l,g.S⟩
def M4:List (Nat×Nat)->VT->VT
 |[],t=>t
 |(i,k)::r,t=>.chk (.same i k) (M4 r t)
structure MA where
 j:Nat
 l:List (Nat×Nat)
 m:MT
def In (T:Tm):List (Nat×AV)->Bool
 |[]=>false
 |(t,a)::r=>(match a with
  | .int _ x=>match An T t with
    | .int _ y=>not (I7 x y)
    |_=>false
  |_=>false)||In T r
def NK (n k:Nat):List BE->Nat->VS->Option MA
 |[],_,_=>none
 |tp::r,j,S=>match In S.T tp.slots with
  |true=>NK n k r (Nat.succ j) S
  |false=>match Ij tp S with
   |f=>match Oc n k tp f.S with
    |some m=>some ⟨j,f.l,m⟩
    |none=>NK n k r (Nat.succ j) S
def BE.heap (tp:BE) (n:Nat):AHeap:=OS n (Og n (Lq n (LG n tp.next tp.rows) tp.acc) tp.maps) tp.fix
def BE.inst (tp:BE) (n lv:Nat):VS:=⟨Fx n tp.slots,tp.heap n,Nat.add n tp.nv,lv,[]⟩
def PH:List Nat->VT->VT
 |[],t=>t
 |i::r,t=>.chk (.nn i) (PH r t)
section
variable [Gl]
def DB:List (Nat×AV)->List AV
 |[]=>[]
 |(_,a)::r=>a::DB r
def Ny (ft:FT) (n:Nat) (Y0:Sy) (Q:Nat->List AV->Prop) (Y:Sy) (r:A1):Prop:=
 ∃j ws b tp,ft.exs[j]? =some (b,tp)/\Q j ws/\Ak ws=true/\ws.length=tp.nv/\Y=Y0.puts n ws/\r=(match b with
  |true=>.pan (An (Fx n tp.slots) 0) (tp.heap n)
  |false=>.ret (An (Fx n tp.slots) 0) (tp.heap n))
def CF (P:Program) (f:FuncId) (ft:FT) (vs:List AV) (Q:Nat->List AV->Prop):Prop:=
 vs.length=ft.ent.nv/\∀Y,AA Y 64->AW P ft.k (Y.puts 64 vs) f (CE 64 (DB ft.ent.slots)) (ft.ent.heap 64) (Ny ft (Nat.add 64 ft.ent.nv) (Y.puts 64 vs) Q)
def DF.ok (Y:Sy):DF->Prop
 | .same i j=>(Y.v i=some .nsl/\Y.v j=some .nsl)\/∃n z cs ds,Y.v i=some (.vsl n z cs)/\Y.v j=some (.vsl n z ds)
 | .nn i=>∃n z cs,Y.v i=some (.vsl n z cs)
 | .pos i=>∃n z cs,Y.v i=some (.vsl (n+1) z cs)
mutual
def AB (P:Program) (Q:AV->Prop):List (Nat->List AV->Prop)->Sy->VT->Prop
 |_,_,.bad=>False
 |_,Y,.done v=>Q (Ap Y.v v)
 |L,Y,.ite i a b=>∃t,Y.v i=some (.bool t)/\(t=true->AB P Q L Y a)/\(t=false->AB P Q L Y b)
 |L,Y,.lt op ag n m t=>match m with
  |none=>∃r,op.run P (Am Y.v ag)=some r/\okC r=true/\AB P Q L (Y.put n r) t
  |some k=>∃cs,op.run P (Am Y.v ag)=some (.agg cs)/\cs.length=k/\Ak cs=true/\AB P Q L (Y.puts n cs) t
 |L,Y,.call f ag n sh t=>∃v vs,HR P f (Am Y.v ag) v/\Ls sh v=some vs/\Ak vs=true/\AB P Q L (Y.puts n vs) t
 |L,Y,.loop n j hv bs=>∃(Inv:Nat->List AV->Prop) (μ:Nat->List AV->Nat),(∀j vs,Inv j vs->Ak vs=true)/\Inv j (Am Y.v hv)/\Yf P Q Inv μ L n 0 Y bs
 |L,Y,.again lvl j hv=>∃R,L[lvl]? =some R/\R j (Am Y.v hv)
 |L,Y,.chk c t=>c.ok Y/\AB P Q L Y t
 |L,Y,.callF f ft hv n bs=>∃R,CF P f ft (Am Y.v hv) R/\Ak (Am Y.v hv)=true/\QG P Q R L (Y.puts n (Am Y.v hv)) (Nat.add n ft.ent.nv) 0 bs
 |L,Y,.both a b=>AB P Q L Y a/\AB P Q L Y b
def Yf (P:Program) (Q:AV->Prop) (Inv:Nat->List AV->Prop) (μ:Nat->List AV->Nat):List (Nat->List AV->Prop)->Nat->Nat->Sy->GY->Prop
 |_,_,_,_,.nil=>True
 |L,n,j,Y,.cons nv t r=>(∀vs,vs.length=nv->Inv j vs->AB P Q (L++[λj' vs'=>Inv j' vs'/\μ j' vs'<μ j vs]) (Y.puts n vs) t)/\Yf P Q Inv μ L n (j+1) Y r
def QG (P:Program) (Q:AV->Prop) (R:Nat->List AV->Prop):List (Nat->List AV->Prop)->Sy->Nat->Nat->GY->Prop
 |_,_,_,_,.nil=>True
 |L,Y,n,j,.cons _ t r=>(∀ws,R j ws->AB P Q L (Y.puts n ws) t)/\QG P Q R L Y n (j+1) r
end
end
def SG:mc->Nat->Option (List BE)
 |[],_=>none
 |(b,l)::r,bid=>match Nat.beq b bid with
  |true=>some l
  |false=>SG r bid
section
variable [Gl]
abbrev fN:=List (FuncId×List (Option Nat))
def YZ:fN->FuncId->Option (List (Option Nat))
 |[],_=>none
 |(g,sh)::r,f=>match Nat.beq g f with
  |true=>some sh
  |false=>YZ r f
abbrev lj:=List (FuncId×FT)
def Xn:lj->FuncId->Option FT
 |[],_=>none
 |(g,t)::r,f=>match Nat.beq g f with
  |true=>some t
  |false=>Xn r f
structure VC where
 fc:T8
 cs:fN
 hs:mc
 k:Nat
 own:Bool
 fs:lj
def ZQ (P:Program) (S:VS) (o:Oper):Option (Nat×Nat×XOp×List AV):=match Ru S.D with
 |true=>J8 P S.T S.H o
 |false=>none
def XT (P:Program) (S:VS) (o:Oper):Option (Nat×Nat×XOp×List AV):=match Ru S.D with
 |true=>match Hu P S.T S.H o with
  |some r=>some r
  |none=>aO P S.T S.H o
 |false=>none
def YW (P:Program) (S:VS) (o:Oper):Option (Nat×XOp×List AV):=match Ru S.D with
 |true=>YN P S.T S.H o
 |false=>none
def Hf (hv:List AV) (n i:Nat):Nat:=match Nat.blt i 64 with
 |true=>i
 |false=>match Dd (Nat.sub i 64) hv with
  |some (.sym s)=>s
  |_=>Nat.add n (Nat.sub i 64)
def lI (hv:List AV) (n i:Nat):AV:=match Nat.blt i 64 with
 |true=>.sym i
 |false=>match Dd (Nat.sub i 64) hv with
  |some a=>match okC a with
   |true=>a
   |false=>.sym (Hf hv n i)
  |none=>.sym (Hf hv n i)
mutual
def D9 (hv:List AV) (n:Nat) (r:Nat->Nat):AV->AV
 | .sym i=>lI hv n i
 | .slx id z i=>.slx (r id) z (Hf hv n i)
 | .ptx id j z off=>.ptx (r id) (Hf hv n j) z off
 | .ptr id off=>.ptr (r id) off
 | .sl id off len sz cap=>.sl (r id) off len sz cap
 | .map id=>.map (r id)
 | .vptr cs=>.vptr (Fz hv n r cs)
 | .vsl a z cs=>.vsl a z (Fz hv n r cs)
 | .fn f cs=>.fn f (Fz hv n r cs)
 | .iface t a=>.iface t (D9 hv n r a)
 | .agg cs=>.agg (Fz hv n r cs)
 | .tup cs=>.tup (Fz hv n r cs)
 |a=>a
def Fz (hv:List AV) (n:Nat) (r:Nat->Nat):List AV->List AV
 |[]=>[]
 |a::l=>D9 hv n r a::Fz hv n r l
end
def Rg (hv:List AV) (n:Nat) (r:Nat->Nat):AZ->Option AZ
 | .cells cs=>some (.cells (Fz hv n r cs))
 | .syl i=>some (.syl (Hf hv n i))
 | .mpl i=>some (.mpl (Hf hv n i))
 |_=>none
def JJ (hv:List AV) (n:Nat) (r:Nat->Nat) (F:AHeap) (base:AHeap):List Nat->AHeap
 |[]=>base
 |id::l=>match F.get id with
  |some k=>match Rg hv n r k with
   |some k'=>(JJ hv n r F base l).set (r id) k'
   |none=>JJ hv n r F base l
  |none=>JJ hv n r F base l
def HI:List TA->List Nat->List Nat
 |[],l=>l
 |t::r,l=>t.id::HI r l
def O6:List (Nat×Nat)->List Nat->List Nat
 |[],l=>l
 |(_,a)::r,l=>a::O6 r l
def Mf:List DA->List Nat->List Nat
 |[],l=>l
 |d::r,l=>match d.act with
  |some i=>i::Mf r l
  |none=>Mf r l
def M2 (m:MR) (j:Nat):Option Nat:=match BQ m.rn j with
 |some a=>some a
 |none=>match CR m.ds j with
  |some d=>d.act
  |none=>none
def LA (m:MR):Nat->Option (List Nat)
 |0=>some []
 |k+1=>match LA m k with
  |some l=>match M2 m k with
   |some a=>some (snoc l a)
   |none=>none
  |none=>none
where
 snoc:List Nat->Nat->List Nat
 |[],a=>[a]
 |x::r,a=>x::snoc r a
def SB:Nat->List Nat->Option Nat
 |_,[]=>none
 |0,a::_=>some a
 |n+1,_::r=>SB n r
def Rz (low:List Nat) (k nx j:Nat):Nat:=match SB j low with
 |some a=>a
 |none=>Nat.add nx (Nat.sub j k)
mutual
def HS:AV->Bool
 | .ptr id _=>Nat.blt id A8
 | .sl id _ _ _ _=>Nat.blt id A8
 | .map id=>Nat.blt id A8
 | .slx id _ _=>Nat.blt id A8
 | .ptx id _ _ _=>Nat.blt id A8
 | .vptr cs=>HD cs
 | .vsl _ _ cs=>HD cs
 | .fn _ cs=>HD cs
 | .iface _ a=>HS a
 | .agg cs=>HD cs
 | .tup cs=>HD cs
 |_=>true
def HD:List AV->Bool
 |[]=>true
 |a::r=>HS a&&HD r
end
def OM (n:Nat):List (Nat×List AV)->Bool
 |[]=>true
 |(_,cs)::r=>HD (CE n cs)&&OM n r
def OP:List Nat->Bool
 |[]=>true
 |i::r=>Nat.blt i A8&&OP r
def UW (H:AHeap):List Nat->Bool
 |[]=>true
 |a::r=>(H.get a).isSome&&UW H r
def QV:Nat->List (Nat×AV)->Bool
 |_,[]=>true
 |i,(j,_)::r=>Nat.beq i j&&(Nat.blt i 512&&QV (Nat.succ i) r)
def Ul (k n:Nat) (H:AHeap):List (Bool×BE)->Bool
 |[]=>true
 |(_,tp)::r=>Nat.ble k tp.next&&(Nat.blt (Nat.add H.next (Nat.sub tp.next k)) H.hi&&(HS (An (Fx n tp.slots) 0)&&(OM n tp.rows&&(OP (HI tp.acc tp.ids)&&Ul k n H r))))
def HL (ft:FT) (m:MR) (low:List Nat) (S:VS) (tp:BE):AHeap:=JJ m.hv S.n (Rz low ft.k S.H.next) (tp.heap (Nat.add 64 ft.ent.nv))
 (match GA S.H (Mf m.ds (O6 m.rn []))with
   |B=>⟨B.tr,Nat.add S.H.next (Nat.sub tp.next ft.k),B.hi⟩) (HI tp.acc tp.ids)
def KD (ft:FT) (m:MR) (low:List Nat) (S:VS) (tp:BE):AV:=D9 m.hv S.n (Rz low ft.k S.H.next) (An (Fx (Nat.add 64 ft.ent.nv) tp.slots) 0)
def M6 (ft:FT) (S:VS) (tp:BE):Nat:=Nat.add (Nat.add S.n ft.ent.nv) tp.nv
def aB (ft:FT) (m:MR) (low:List Nat) (u:Tm->AV->Tm) (S:VS) (X:VX->VT) (k:VS->VT):List (Bool×BE)->GY
 |[]=>.nil
 |(b,tp)::r=>.cons tp.nv (match b with
  |false=>k ⟨u S.T (KD ft m low S tp),HL ft m low S tp,M6 ft S tp,S.lv,S.D⟩
  |true=>X (.pan (KD ft m low S tp) ⟨S.T,HL ft m low S tp,M6 ft S tp,S.lv,S.D⟩)) (aB ft m low u S X k r)
def UB (g:FuncId) (ft:FT) (u:Tm->AV->Tm) (S:VS) (ag:List AV) (X:VX->VT) (k:VS->VT):VT:=match ST ft.ent ⟨Dc ag 0 AK,S.H,S.n,S.lv,[]⟩with
 |f=>match NS 64 ft.ent f.S.T f.S.H with
  |none=>.bad
  |some m=>match LA m ft.k with
   |none=>.bad
   |some low=>match Ul ft.k (Nat.add 64 ft.ent.nv) f.S.H ft.exs&&(Nat.ble f.S.H.hi A8&&(Nat.beq (Bp ag) (Bp (DB ft.ent.slots))&&(QV 0 ft.ent.slots&&UW f.S.H low)))with
    |true=>M4 f.l (.callF g ft m.hv S.n (aB ft m low u ⟨S.T,f.S.H,S.n,S.lv,S.D⟩ X k ft.exs))
    |false=>.bad
def Y8 (P:Program) (g:FuncId) (ft:FT) (o:Oper) (u:Tm->AV->Tm) (S:VS) (ag:List AV) (X:VX->VT) (k:VS->VT):VT:=match SC (Dc ag 0 AK) ft.ent.slots with
 |[]=>UB g ft u S ag X k
 |l=>match Ky S l with
  |f=>match (A0 P o).run f.S.T f.S.H with
   |some r=>match r with
    | .call g' args'=>match Nat.beq g' g with
      |true=>M4 f.l (UB g ft u f.S args' X k)
      |false=>.bad
    |_=>.bad
   |none=>.bad
def WK (P:Program) (Q:AV->Prop) (fc:T8) (L:List (Nat->List AV->Prop)) (n:Nat) (Y:Sy) (ret pan:AV->AHeap->Nat->Nat->VT) (Y':Sy) (r:A1):Prop:=
 ∃(n' lv':Nat) (L':List (Nat->List AV->Prop)),L <+: L'/\L'.length=lv'/\n<=n'/\(∀i,i<n->Y'.v i=Y.v i)/\(AA Y' n'/\Br P fc Y')/\(match r with
  | .ret a H=>AB P Q L' Y' (ret a H n' lv')
  | .pan a H=>AB P Q L' Y' (pan a H n' lv'))
structure C8 (P:Program) (fuel:Nat) where
 run:VC->FuncId->List AV->AHeap->Nat->Nat->(AV->AHeap->Nat->Nat->VT)->(AV->AHeap->Nat->Nat->VT)->VT
 ok:∀{c:VC} {g:FuncId} {ag:List AV} {H:AHeap} {n lv:Nat} {ret pan:AV->AHeap->Nat->Nat->VT} {Q:AV->Prop} {L:List (Nat->List AV->Prop)} {Y:Sy},P.follows .mixedOrders=true->Ci P (CO P fuel)->L.length=lv->AA Y n/\Br P c.fc Y->
  AB P Q L Y (run c g ag H n lv ret pan)->AW P H.next Y g ag H (WK P Q c.fc L n Y ret pan)
def ug (P:Program) (fuel:Nat):C8 P fuel:=⟨λ_ _ _ _ _ _ _ _=>.bad,λ_ _ _ _ h=>by grind [AB]⟩
mutual
def Hb (k n:Nat):AV->Bool
 | .ptr id _=>Nat.blt id k
 | .sl id _ _ _ _=>Nat.blt id k
 | .map id=>Nat.blt id k
 | .slx id _ i=>Nat.blt id k&&Nat.blt i n
 | .ptx id j _ _=>Nat.blt id k&&Nat.blt j n
 | .sym i=>Nat.blt i n
 | .vptr cs=>KH k n cs
 | .vsl _ _ cs=>KH k n cs
 | .fn _ cs=>KH k n cs
 | .iface _ a=>Hb k n a
 | .agg cs=>KH k n cs
 | .tup cs=>KH k n cs
 |_=>true
def KH (k n:Nat):List AV->Bool
 |[]=>true
 |a::r=>Hb k n a&&KH k n r
end
def DY (k n:Nat) (a:AV):AV:=match Hb k n a with
 |true=>a
 |false=>.opq
def TL (k n:Nat):Bg->Bool
 |[]=>true
 |(_,ag)::r=>KH k n ag&&TL k n r
def UZ (P:Program) {fuel:Nat} (I:C8 P fuel) (c:VC) (o:Oper) (u:Tm->AV->Tm) (S:VS) (X:VX->VT) (k:VS->VT):VT:=match TL S.H.next S.n S.D&&Nat.ble c.k S.H.next with
 |false=>.bad
 |true=>match B1 (DY S.H.next S.n) S.T with
  |T1=>match (A0 P o).run T1 S.H with
   |some r=>match r with
    | .call g ag=>I.run c g ag S.H S.n S.lv
      (λa H n lv=>match Nat.beq lv S.lv with
       |true=>k ⟨u T1 a,H,n,lv,S.D⟩
       |false=>.bad)
      (λa H n lv=>match Nat.beq lv S.lv with
       |true=>X (.pan a ⟨T1,H,n,lv,S.D⟩)
       |false=>.bad)
    |_=>.bad
   |none=>.bad
def Ww (P:Program) (fuel:Nat) (I:C8 P fuel) (c:VC) (o:Oper) (u:Tm->AV->Tm) (S:VS) (g:FuncId) (ag:List AV) (X:VX->VT) (k:VS->VT):VT:=match Xn c.fs g with
 |some ft=>Y8 P g ft o u S ag X k
 |none=>match YZ c.cs g with
  |some sh=>match Bi ag with
   |true=>.call g ag S.n sh (k ⟨u S.T (Id S.n sh),S.H,Nat.add S.n (FJ sh),S.lv,S.D⟩)
   |false=>match (A0 P o).run (Ee S ag).T (Ee S ag).H with
    |some r=>match r with
     | .call g' args'=>match Nat.beq g' g&&Bi args' with
       |true=>.call g args' S.n sh (k ⟨u (Ee S ag).T (Id S.n sh),(Ee S ag).H,Nat.add S.n (FJ sh),S.lv,S.D⟩)
       |false=>.bad
     |_=>.bad
    |none=>.bad
  |none=>match CO P fuel g ag S.H with
   |some r=>match r with
    | .ret a H'=>k ⟨u S.T a,H',S.n,S.lv,S.D⟩
    | .pan _ _=>UZ P I c o u S X k
   |none=>UZ P I c o u S X k
def SP (P:Program) (c:VC) (u:Tm->AV->Tm) (S:VS) (k:VS->VT) (op:XOp) (ag:List AV):VT:=match Ps P op with
 |none=>match Pm c.fc.b op ag with
  |some v=>k ⟨u S.T v,S.H,S.n,S.lv,S.D⟩
  |none=>.lt op ag S.n none (k ⟨u S.T (.sym S.n),S.H,Nat.succ S.n,S.lv,S.D⟩)
 |some m=>.lt op ag S.n (some m) (k ⟨u S.T (.agg (Af S.n m)),S.H,Nat.add S.n m,S.lv,S.D⟩)
def Wq (P:Program) (c:VC) (o:Oper) (u:Tm->AV->Tm) (S:VS) (k:VS->VT):Option VT:=match c.own with
 |false=>none
 |true=>match QJ P S.T o with
  |some a=>some (k ⟨u S.T a,S.H,S.n,S.lv,S.D⟩)
  |none=>match Nd P S.T o with
   |some (op,ag,id,sz)=>some (.lt op ag S.n none (k ⟨u S.T (.ptx id S.n sz 0),S.H,Nat.succ S.n,S.lv,S.D⟩))
   |none=>match Pc S.T S.H o with
    |some (op,ag)=>match Ps P op with
     |none=>some (.lt op ag S.n none (k ⟨u S.T (.sym S.n),S.H,Nat.succ S.n,S.lv,S.D⟩))
     |some m=>some (.lt op ag S.n (some m) (k ⟨u S.T (.agg (Af S.n m)),S.H,Nat.add S.n m,S.lv,S.D⟩))
    |none=>match JE S.T S.H o with
     |some (op,ag,id)=>some (.lt op ag S.n none (k ⟨u S.T (.tup []),S.H.set id (.syl S.n),Nat.succ S.n,S.lv,S.D⟩))
     |none=>match bC P S.T S.H o with
        |some (op,ag,id,sz)=>some (.lt op ag S.n none (k ⟨u S.T (.slx id sz S.n),S.H.set id (.syl S.n),Nat.succ S.n,S.lv,S.D⟩))
        |none=>none
def bL (P:Program) (fuel:Nat) (I:C8 P fuel) (c:VC) (o:Oper) (u:Tm->AV->Tm) (S:VS) (X:VX->VT) (k:VS->VT):VT:=match (A0 P o).run S.T S.H with
 |some r=>match r with
  | .val a H'=>k ⟨u S.T a,H',S.n,S.lv,S.D⟩
  | .call g ag=>Ww P fuel I c o u S g ag X k
  | .dfr g ag=>k ⟨u S.T (.tup []),S.H,S.n,S.lv,(g,ag)::S.D⟩
  | .pan v=>X (.pan v S)
  |_=>.bad
 |none=>match XG o S.T with
  |some (i,a,b)=>.ite i (k ⟨u (S.know i true).T (look (S.know i true).T a),S.H,S.n,S.lv,S.D⟩) (k ⟨u (S.know i false).T (look (S.know i false).T b),S.H,S.n,S.lv,S.D⟩)
  |none=>match aq c.fc.x S.T o with
   |some v=>k ⟨u S.T v,S.H,S.n,S.lv,S.D⟩
   |none=>match Wq P c o u S k with
    |some t=>t
    |none=>match ZQ P S o with
    |some (id,sz,op,ag)=>.lt op ag S.n none (k ⟨u S.T (.slx S.H.next sz S.n),(S.H.erase id).push (.syl S.n),Nat.succ S.n,S.lv,S.D⟩)
    |none=>match XT P S o with
    |some (id,sz,op,ag)=>.lt op ag S.n none (k ⟨u S.T (.slx S.H.next sz S.n),(S.H.erase id).push (.syl S.n),Nat.succ S.n,S.lv,S.D⟩)
    |none=>match Fa S.T o with
     |some (op,ag)=>.lt op ag S.n none (k ⟨u S.T (.sym S.n),S.H,Nat.succ S.n,S.lv,S.D⟩)
     |none=>match YW P S o with
     |some (id,op,ag)=>.lt op ag S.n none (k ⟨u S.T (.tup []),S.H.set id (.mpl S.n),Nat.succ S.n,S.lv,S.D⟩)
     |none=>match Yu S.T S.H o with
     |some (op,ag)=>match bJ P o with
      |true=>.lt op ag S.n none (k ⟨u S.T (.sym S.n),S.H,Nat.succ S.n,S.lv,S.D⟩)
      |false=>.bad
     |none=>match M8 S.T S.H o with
     |some (op,ag)=>.lt op ag S.n none (k ⟨u S.T (.sym S.n),S.H,Nat.succ S.n,S.lv,S.D⟩)
     |none=>match Xh S.T S.H o with
     |some (op,ag)=>.lt op ag S.n none (k ⟨u S.T (.sym S.n),S.H,Nat.succ S.n,S.lv,S.D⟩)
     |none=>match ax P S.T o with
     |some (op,ag)=>.lt op ag S.n none (k ⟨u S.T (.sym S.n),S.H,Nat.succ S.n,S.lv,S.D⟩)
     |none=>match FI S.T o with
      |some (op,ag)=>match Bi ag with
       |true=>SP P c u S k op ag
       |false=>match FI (Ee S ag).T o with
        |some (op',args')=>match Bi args' with
         |true=>SP P c u (Ee S ag) k op' args'
         |false=>.bad
        |none=>.bad
      |none=>.bad
def ma (all:List Oper) (o:Oper) (T:Tm):Option Bool:=match Dy all o with
 | .always=>some true
 | .mk g=>g T
def OV (P:Program) (fuel:Nat) (I:C8 P fuel) (c:VC) (all:List Oper) (o:Oper) (u:Tm->AV->Tm) (X:VX->VT) (next:VS->VT) (S:VS):VT:=match ma all o S.T with
 |some t=>match t with
  |false=>next ⟨u S.T (.tup []),S.H,S.n,S.lv,S.D⟩
  |true=>bL P fuel I c o u S X next
 |none=>.bad
def Xo (T:Tm):List (Nat×Operand)->List AV
 |[]=>[]
 |(_,x)::r=>match look T x with
  | .slx id z i=>.slx id z i::Xo T r
  |_=>Xo T r
def PG:List AV->List AV
 |[]=>[]
 |a::r=>match a with
  | .slx id z i=>.slx id z i::PG r
  | .sl id o l z c=>.sl id o l z c::PG r
  |_=>PG r
def R3 (T:Tm):List (Nat×Operand)->List AV
 |[]=>[]
 |(_,x)::r=>match look T x with
  | .slx id z i=>.slx id z i::R3 T r
  | .sl id o l z c=>.sl id o l z c::R3 T r
  | .agg cs=>IL (PG cs) (R3 T r)
  |_=>R3 T r
def MQ (own:Bool) (o:Oper) (S:VS):VS:=match o.op with
 | .buildSlice _ _ ps=>match (match own with
   |true=>R3 S.T ps.toList
   |false=>Xo S.T ps.toList)with
   |[]=>S
   |a=>Ee S a
 | .call c=>match own with
   |false=>S
   |true=>match c.callee with
    | .builtin b=>match b with
      | .append=>match c.args.toList with
        |[_,x]=>match look S.T x with
         | .sl id _ _ _ _=>match S.H.get id with
          |some (.cells cs)=>match PG cs with
           |[]=>S
           |a=>ff S a id
          |_=>S
         |_=>S
        |_=>S
      |_=>S
    |_=>S
 |_=>S
def Ka (P:Program) (N fuel:Nat) (I:C8 P fuel) (c:VC) (all:List Oper) (X:VX->VT):List Oper->VS->(VS->VT)->VT
 |[],S,K=>K S
 |o::r,S,K=>match CP N o.dst with
  | .bad=>.bad
  | .mk u=>match dy all o S.T with
    |some i=>.ite i (OV P fuel I c all o u X (λS=>Ka P N fuel I c all X r S K) (S.know i true)) (OV P fuel I c all o u X (λS=>Ka P N fuel I c all X r S K) (S.know i false))
    |none=>OV P fuel I c all o u X (λS=>Ka P N fuel I c all X r S K) (MQ c.own o S)
def Gx (x:SI):Bool:=match x.o.op with
 | .alloc _=>true
 | .box _ _=>true
 | .buildSlice _ _ _=>true
 |_=>false
inductive Nu where
 |none
 |one (id:Nat)
 |all
def Nt (x:SI) (R:Tm):Nu:=match x.o.op with
 | .call c=>match OU x with
   |false=>.all
   |true=>match c.args.toList with
    |s::r=>match look R s with
     | .slx id _ _=>.one id
     | .sym _=>.none
     | .sl id _ _ _ _=>.one id
     | .vsl n _ _=>match n with
       |0=>match r with
        |y::_=>match look R y with
          | .sym _=>.none
          |_=>.all
        |[]=>.all
       |_+1=>.all
     |_=>.all
    |[]=>.all
 |_=>.all
def PU (x:SI) (R:Tm):Bool:=match OU x with
 |false=>false
 |true=>match Nt x R with
  | .all=>false
  |_=>true
def Ha (x:SI) (R:Tm):Nu:=match Gx x with
 |true=>.none
 |false=>match x.o.op with
  | .store _ a _=>match look R a with
    | .ptr id _=>.one id
    | .ptx id _ _ _=>.one id
    |_=>.all
  |_=>Nt x R
def apart (t:Nu) (ids:List Nat):Bool:=match t with
 | .none=>true
 | .one id=>not (Bx id ids)
 | .all=>match ids with
   |[]=>true
   |_::_=>false
structure GW where
 i:Nat
 H:AHeap
 t:Nu
def PK (bef:Nat) (H:AHeap):List GW->AHeap
 |[]=>H
 |g::r=>match AO bef g.i with
  |true=>H
  |false=>PK bef g.H r
def QD (bef:Nat) (ids:List Nat):List GW->Bool
 |[]=>true
 |g::r=>match AO bef g.i with
  |true=>true
  |false=>apart g.t ids&&QD bef ids r
def Vw (bef:Nat) (t:Nu):List (Nat×List Nat)->Bool
 |[]=>true
 |(i,ids)::r=>(AO bef i||apart t ids)&&Vw bef t r
def HX (H:AHeap):List Nat->AHeap
 |[]=>⟨AD,0,0⟩
 |id::r=>match H.get id with
  |some b=>(HX H r).set id b
  |none=>HX H r
def rD (a:AV) (acc:List Nat):List Nat:=match a with
 | .ptr id _=>id::acc
 | .sl id _ _ _ _=>id::acc
 | .map id=>id::acc
 | .ptx id _ _ _=>id::acc
 |_=>acc
def eS (T:Tm):List Nat->List Nat
 |[]=>[]
 |t::r=>rD (An T t) (eS T r)
def JA (x:SI) (T:Tm):List Nat:=match vW_ x with
 |true=>[]
 |false=>eS T x.rd
def NU (x:SI) (S:VS) (gs:List GW):AHeap:=HX (PK x.bef S.H gs) (JA x S.T)
def Vs (x:SI) (i:Nat) (y:SI):Bool:=match Cq x&&Cq y with
 |true=>AO y.bef i
 |false=>true
def Xp (x:SI) (i:Nat):List SI->Bool
 |[]=>true
 |y::r=>Vs x i y&&Xp x i r
def SO:List SI->Nat->Bool
 |[],_=>true
 |x::r,i=>Xp x i r&&SO r (Nat.succ i)
def aD (x:SI):Nat->Bool
 |0=>true
 |n+1=>AO x.bef n&&aD x n
def eJ (x:SI) (i n:Nat):Nat:=match Nat.beq n (Nat.succ i)&&aD x i with
 |true=>i
 |false=>n
def Il:List SI->Nat->Nat
 |[],i=>i
 |x::r,i=>eJ x i (Il r (Nat.succ i))
def GV:Nat->List SI->List SI
 |0,_=>[]
 |_+1,[]=>[]
 |n+1,x::r=>x::GV n r
def VU:Nat->List Oper->List Oper
 |0,l=>l
 |_+1,[]=>[]
 |n+1,_::r=>VU n r
def Vd (P:Program) (x:SI) (Hx:AHeap) (u:Tm->AV->Tm) (S:VS) (k:VS->VT):VT:=match Ev (A0 P x.o) (BO S.T x.rd AK) Hx with
 |some q=>k ⟨u S.T q,S.H,S.n,S.lv,S.D⟩
 |none=>.bad
def cu (u:Tm->AV->Tm) (S:VS) (k:VS->VT) (R:Tm) (o:Oper) (id sz:Nat) (op:XOp) (ag:List AV):VT:=match CM S.n ag with
 |true=>match S.H.get S.H.next with
  |none=>match LR ag with
   |true=>.lt op ag S.n none (k ⟨u S.T (.slx S.H.next sz S.n),(S.H.erase id).push (.syl S.n),Nat.succ S.n,S.lv,S.D⟩)
   |false=>match HQ ag with
    |some i=>.lt .emp [.sym i] S.n none (.ite S.n (k ⟨u S.T (KY R o),S.H,Nat.succ S.n,S.lv,S.D⟩)
     (.lt op ag (Nat.succ S.n) none (k ⟨u S.T (.slx S.H.next sz (Nat.succ S.n)),(S.H.erase id).push (.syl (Nat.succ S.n)),Nat.succ (Nat.succ S.n),S.lv,S.D⟩)))
    |none=>.bad
  |some _=>.bad
 |false=>.bad
def QA (P:Program) (x:SI) (u:Tm->AV->Tm) (S:VS) (k:VS->VT):VT:=match OU x with
 |false=>.bad
 |true=>match J8 P (BO S.T x.rd AK) S.H x.o with
  |some (id,sz,op,ag)=>match CM S.n ag with
   |true=>match S.H.get S.H.next with
    |none=>match LR ag with
     |true=>.lt op ag S.n none (k ⟨u S.T (.slx S.H.next sz S.n),(S.H.erase id).push (.syl S.n),Nat.succ S.n,S.lv,S.D⟩)
     |false=>match HQ ag with
        |some i=>.chk (.pos i) (.lt op ag S.n none (k ⟨u S.T (.slx S.H.next sz S.n),(S.H.erase id).push (.syl S.n),Nat.succ S.n,S.lv,S.D⟩))
        |none=>.bad
    |some _=>.bad
   |false=>.bad
  |none=>match Hu P (BO S.T x.rd AK) S.H x.o with
   |some (id,sz,op,ag)=>cu u S k (BO S.T x.rd AK) x.o id sz op ag
   |none=>match FI (BO S.T x.rd AK) x.o with
    |some (op,ag)=>match Bi ag&&CM S.n ag with
     |true=>match Ps P op with
      |none=>.lt op ag S.n none (k ⟨u S.T (.sym S.n),S.H,Nat.succ S.n,S.lv,S.D⟩)
      |some _=>.bad
     |false=>.bad
    |none=>.bad
def fM (P:Program) (c:VC) (x:SI) (u:Tm->AV->Tm) (S:VS) (k:VS->VT):VT:=match (A0 P x.o).run (BO S.T x.rd AK) S.H with
 |some r=>match r with
  | .val a H'=>match Gx x with
    |true=>match S.H.get S.H.next with
     |none=>k ⟨u S.T a,H',S.n,S.lv,S.D⟩
     |some _=>.bad
    |false=>match PU x (BO S.T x.rd AK)with
     |true=>QA P x u S k
     |false=>k ⟨u S.T a,H',S.n,S.lv,S.D⟩
  |_=>.bad
 |none=>match c.own with
  |false=>QA P x u S k
  |true=>match JE (BO S.T x.rd AK) S.H x.o with
   |some (op,ag,id)=>match CM S.n ag&&not (Gx x)with
    |true=>.lt op ag S.n none (k ⟨u S.T (.tup []),S.H.set id (.syl S.n),Nat.succ S.n,S.lv,S.D⟩)
    |false=>.bad
   |none=>QA P x u S k
def fY (P:Program) (c:VC) (R:Tm) (Hx:AHeap) (o:Oper) (u:Tm->AV->Tm) (S:VS) (k:VS->VT):Option VT:=match c.own with
 |false=>none
 |true=>match QJ P R o with
  |some a=>some (k ⟨u S.T a,S.H,S.n,S.lv,S.D⟩)
  |none=>match Nd P R o with
   |some (op,ag,id,sz)=>match CM S.n ag with
    |true=>some (.lt op ag S.n none (k ⟨u S.T (.ptx id S.n sz 0),S.H,Nat.succ S.n,S.lv,S.D⟩))
    |false=>none
   |none=>match Pc R Hx o with
    |some (op,ag)=>match CM S.n ag with
     |true=>match Ps P op with
        |none=>some (.lt op ag S.n none (k ⟨u S.T (.sym S.n),S.H,Nat.succ S.n,S.lv,S.D⟩))
        |some m=>some (.lt op ag S.n (some m) (k ⟨u S.T (.agg (Af S.n m)),S.H,Nat.add S.n m,S.lv,S.D⟩))
     |false=>none
    |none=>match Fa R o with
     |some (op,ag)=>match CM S.n ag with
        |true=>some (.lt op ag S.n none (k ⟨u S.T (.sym S.n),S.H,Nat.succ S.n,S.lv,S.D⟩))
        |false=>none
     |none=>none
def WB (P:Program) (R:Tm) (o:Oper):Option AV:=match o.op with
 | .buildSlice t n ps=>match Me P ⟨AD,0,1⟩ t n (IW (look R) ps.toList)with
   |some r=>match r.1 with
    | .sl _ _ len sz _=>match r.2.get 0 with
      |some (.cells cs)=>match Bi cs with
       |true=>some (.vsl len sz cs)
       |false=>none
      |_=>none
    |_=>none
   |none=>none
 |_=>none
def jr (P:Program) (x:SI) (u:Tm->AV->Tm) (S:VS) (k:VS->VT):VT:=match WB P (BO S.T x.rd AK) x.o with
 |some q=>k ⟨u S.T q,S.H,S.n,S.lv,S.D⟩
 |none=>.bad
def jq (P:Program) (c:VC) (x:SI) (Hx:AHeap) (u:Tm->AV->Tm) (S:VS) (k:VS->VT):VT:=match Ev (A0 P x.o) (BO S.T x.rd AK) Hx with
 |some q=>k ⟨u S.T q,S.H,S.n,S.lv,S.D⟩
 |none=>match fY P c (BO S.T x.rd AK) Hx x.o u S k with
 |some t=>t
 |none=>match (A0 P x.o).run (BO S.T x.rd AK) Hx with
  |some r=>match r with
   | .call g ag=>match YZ c.cs g with
     |some sh=>match Bi ag&&CM S.n ag with
      |true=>.call g ag S.n sh (k ⟨u S.T (Id S.n sh),S.H,Nat.add S.n (FJ sh),S.lv,S.D⟩)
      |false=>.bad
     |none=>.bad
   |_=>.bad
  |none=>match XG x.o S.T with
   |some (i,_,_)=>.ite i (Vd P x Hx u (S.know i true) k) (Vd P x Hx u (S.know i false) k)
   |none=>match M8 (BO S.T x.rd AK) Hx x.o with
    |some (op,ag)=>match CM S.n ag with
     |true=>.lt op ag S.n none (k ⟨u S.T (.sym S.n),S.H,Nat.succ S.n,S.lv,S.D⟩)
     |false=>.bad
    |none=>match FI (BO S.T x.rd AK) x.o with
     |some (op,ag)=>match Bi ag&&CM S.n ag with
      |true=>match Ps P op with
        |none=>.lt op ag S.n none (k ⟨u S.T (.sym S.n),S.H,Nat.succ S.n,S.lv,S.D⟩)
        |some m=>.lt op ag S.n (some m) (k ⟨u S.T (.agg (Af S.n m)),S.H,Nat.add S.n m,S.lv,S.D⟩)
      |false=>.bad
     |none=>.bad
def O8 (P:Program) (x:SI) (nx:Nat):Option (AV×AZ):=match x.o.op with
 | .alloc t=>match NA P ⟨AD,nx,Nat.succ nx⟩ t with
   |some p=>match p.2.get nx with
    |some k=>some (p.1,k)
    |none=>none
   |none=>none
 |_=>none
def Rb (P:Program):List SI->AHeap->Option AHeap
 |[],H=>some H
 |x::r,H=>match C4 x with
  |false=>Rb P r H
  |true=>match H.get H.next with
   |some _=>none
   |none=>match H.room with
    |false=>none
    |true=>match O8 P x H.next with
     |some p=>Rb P r (H.push p.2)
     |none=>none
def NI (bef:Nat) (ids:List Nat):List SI->Nat->Nat->Bool
 |[],_,_=>true
 |y::r,i,nx=>match C4 y with
  |false=>NI bef ids r (Nat.succ i) nx
  |true=>(AO bef i||not (Bx nx ids))&&NI bef ids r (Nat.succ i) (Nat.succ nx)
def OK (bef:Nat):List SI->Nat->Bool
 |[],_=>true
 |y::r,i=>match C4 y with
  |false=>OK bef r (Nat.succ i)
  |true=>AO bef i&&OK bef r (Nat.succ i)
def Ng (l0:List SI):List SI->Bool
 |[]=>true
 |x::r=>match Cq x with
  |false=>Ng l0 r
  |true=>OK x.bef l0 0&&Ng l0 r
def K3 (x:SI) (nx:Nat):Nat:=match C4 x with
 |true=>Nat.succ nx
 |false=>nx
def Nc (P:Program) (c:VC) (all:List Oper) (l0:List SI) (n0 nx:Nat) (x:SI) (gs:List GW) (ps:List (Nat×List Nat)) (u:Tm->AV->Tm) (next:VS->VT) (S:VS):VT:=match CT all x (BO S.T x.rd AK)with
 |some t=>match t with
  |false=>next ⟨u S.T (.tup []),S.H,S.n,S.lv,S.D⟩
  |true=>match C4 x with
   |true=>match O8 P x nx with
    |some p=>next ⟨u S.T p.1,S.H,S.n,S.lv,S.D⟩
    |none=>.bad
   |false=>match Cq x with
    |true=>match Vw x.bef (Ha x (BO S.T x.rd AK)) ps with
     |true=>fM P c x u S next
     |false=>.bad
    |false=>match QD x.bef (JA x S.T) gs&&NI x.bef (JA x S.T) l0 0 n0 with
     |true=>match x.fz with
      |true=>jr P x u S next
      |false=>jq P c x (NU x S gs) u S next
     |false=>.bad
 |none=>.bad
def RA (x:SI) (i:Nat) (S:VS) (gs:List GW):List GW:=match Cq x with
 |true=>⟨i,S.H,Ha x (BO S.T x.rd AK)⟩::gs
 |false=>gs
def R0 (x:SI) (i:Nat) (S:VS) (ps:List (Nat×List Nat)):List (Nat×List Nat):=match Cq x with
 |true=>ps
 |false=>(i,JA x S.T)::ps
def LP (P:Program) (N:Nat) (c:VC) (all:List Oper) (l0:List SI) (n0:Nat):List SI->Nat->Nat->List GW->List (Nat×List Nat)->VS->(VS->VT)->VT
 |[],_,_,_,_,S,K=>K S
 |x::r,i,nx,gs,ps,S,K=>match CP N x.o.dst with
  | .bad=>.bad
  | .mk u=>match dy all x.o S.T with
    |some k=>.ite k (Nc P c all l0 n0 nx x gs ps u (λS'=>LP P N c all l0 n0 r (Nat.succ i) (K3 x nx) (RA x i (S.know k true) gs) (R0 x i (S.know k true) ps) S' K) (S.know k true)) (Nc P c all l0 n0 nx x gs ps u (λS'=>LP P N c all l0 n0 r (Nat.succ i) (K3 x nx) (RA x i (S.know k false) gs) (R0 x i (S.know k false) ps) S' K) (S.know k false))
    |none=>Nc P c all l0 n0 nx x gs ps u (λS'=>LP P N c all l0 n0 r (Nat.succ i) (K3 x nx) (RA x i S gs) (R0 x i S ps) S' K) S
def PI (P:Program) (N fuel:Nat) (I:C8 P fuel) (c:VC) (Ae:List Oper) (S:VS) (X:VX->VT) (K:VS->VT):VT:=match M1 Ae with
 | .mk l _=>match Il l 0 with
   |b=>match SO (GV b l) 0&&Ng (GV b l) (GV b l)with
    |true=>match Rb P (GV b l) S.H with
     |some H=>LP P N c Ae (GV b l) S.H.next (GV b l) 0 S.H.next [] [] ⟨S.T,H,S.n,S.lv,S.D⟩ λS=>Ka P N fuel I c Ae X (VU b Ae) S K
     |none=>.bad
    |false=>.bad
 | .no=>.bad
def dt (c:VC) (o:Oper):Bool:=match o.op with
 | .call cl=>match cl.callee with
   | .value f=>match f with
     | .func g=>match Xn c.fs g with
       |some _=>true
       |none=>false
     |_=>false
   |_=>false
 |_=>false
def lR (c:VC):List Oper->Bool
 |[]=>false
 |o::r=>match dt c o with
  |true=>true
  |false=>lR c r
def KO (m:Nat):List Edge->Bool
 |[]=>true
 |e::r=>match Kj e with
  |true=>AO m e.on&&KO m r
  |false=>KO m r
structure Gr where
 i:Nat
 o:Oper
def HY (m:Nat):List Oper->Nat->List Gr
 |[],_=>[]
 |o::r,i=>match not (AO m i)&&KO m o.after.toList with
  |true=>⟨i,o⟩::HY m r (Nat.succ i)
  |false=>HY m r (Nat.succ i)
def Lu (m i:Nat):Nat:=Nat.lor m (Nat.pow 2 i)
def SX (i:Nat):List Edge->Bool
 |[]=>false
 |e::r=>match Kj e&&Nat.beq e.on i with
  |true=>true
  |false=>SX i r
def Es (all:List Oper) (x y:Oper):Bool:=(match x.dst with
    |some d=>not (Bx d (JF all y))&&(match y.dst with
     |some e=>not (Nat.beq d e)
     |none=>true)
    |none=>true)&&(match y.dst with
    |some e=>not (Bx e (JF all x))
    |none=>true)
def Vt (all:List Oper) (m i:Nat) (x:Oper):List Oper->Nat->Bool
 |[],_=>true
 |y::r,j=>(Nat.beq j i||(AO m j||(SX i y.after.toList||Es all x y)))&&Vt all m i x r (Nat.succ j)
def Rv:List Oper->Bool
 |[]=>true
 |o::r=>match o.op with
  | .select _ _=>false
  |_=>Rv r
def Vu (P:Program) (T:Tm) (o:Oper):Option AV:=match o.guard with
 |some _=>none
 |none=>match o.op with
  | .move x=>some (look T x)
  | .nilCheck x=>match look T x with
    | .ptr id off=>some (.ptr id off)
    |_=>none
  | .fieldAddr s x f=>match look T x with
    | .ptr id off=>GZ P s (.ptr id off) f
    |_=>none
  | .extract x i=>match look T x with
    | .tup cs=>Kz i cs
    |_=>none
  |_=>none
structure MV where
 x:Gr
 a:AV
def PD (P:Program) (all:List Oper) (m:Nat) (T:Tm):List Gr->Option MV
 |[]=>none
 |x::r=>match Vu P T x.o with
  |some a=>match Vt all m x.i x.o all 0 with
   |true=>some ⟨x,a⟩
   |false=>PD P all m T r
  |none=>PD P all m T r
def QE:List (Nat×AV)->List (Nat×AV)->Bool
 |[],[]=>true
 |(i,a)::r,(j,b)::s=>Nat.beq i j&&(CI a b&&QE r s)
 |_,_=>false
def P9:List (Nat×List AV)->List (Nat×List AV)->Bool
 |[],[]=>true
 |(i,a)::r,(j,b)::s=>Nat.beq i j&&(El a b&&P9 r s)
 |_,_=>false
def L6:Option Nat->Option Nat->Bool
 |none,none=>true
 |some a,some b=>Nat.beq a b
 |_,_=>false
def Rw:List (Option Nat)->List (Option Nat)->Bool
 |[],[]=>true
 |a::r,b::s=>L6 a b&&Rw r s
 |_,_=>false
def NL:List (Nat×Nat)->List (Nat×Nat)->Bool
 |[],[]=>true
 |(i,a)::r,(j,b)::s=>Nat.beq i j&&(Nat.beq a b&&NL r s)
 |_,_=>false
def Ri:List TA->List TA->Bool
 |[],[]=>true
 |⟨a,b,c,d,e⟩::r,⟨a',b',c',d',e'⟩::s=>Nat.beq a a'&&(Nat.beq b b'&&(Nat.beq c c'&&(Nat.beq d d'&&(L6 e e'&&Ri r s))))
 |_,_=>false
def Ud:BE->BE->Bool
 |⟨a,b,c,d,e,f,g⟩,⟨a',b',c',d',e',f',g'⟩=>QE a a'&&(P9 b b'&&(Nat.beq c c'&&(Nat.beq d d'&&(Ri e e'&&(NL f f'&&NL g g')))))
def RR:List (Bool×BE)->List (Bool×BE)->Bool
 |[],[]=>true
 |(i,a)::r,(j,b)::s=>i==j&&(Ud a b&&RR r s)
 |_,_=>false
def mE:FT->FT->Bool
 |⟨a,b,c⟩,⟨a',b',c'⟩=>Nat.beq a a'&&(Ud b b'&&RR c c')
def WE:XOp->XOp->Bool
 | .bin o t a b,.bin o' t' a' b'=>decide (o=o')&&(Nat.beq t t'&&(a==a'&&b==b'))
 | .un o,.un o'=>decide (o=o')
 | .conv a b,.conv a' b'=>Nat.beq a a'&&Nat.beq b b'
 | .idx a,.idx a'=>Nat.beq a a'
 | .iaddr a,.iaddr a'=>Nat.beq a a'
 | .faddr a b,.faddr a' b'=>Nat.beq a a'&&Nat.beq b b'
 | .load a,.load a'=>Nat.beq a a'
 | .fld a b,.fld a' b'=>Nat.beq a a'&&Nat.beq b b'
 | .slc t a b,.slc t' a' b'=>Nat.beq t t'&&(a==a'&&b==b')
 | .len a,.len a'=>Nat.beq a a'
 | .nilc,.nilc=>true
 | .app a b,.app a' b'=>Nat.beq a a'&&Nat.beq b b'
 | .mm a,.mm a'=>a==a'
 | .ext a,.ext a'=>Nat.beq a a'
 | .inb,.inb=>true
 | .ldx a b c,.ldx a' b' c'=>Nat.beq a a'&&(Nat.beq b b'&&Nat.beq c c')
 | .stx a b c,.stx a' b' c'=>Nat.beq a a'&&(Nat.beq b b'&&Nat.beq c c')
 | .tkx,.tkx=>true
 | .emp,.emp=>true
 | .mkx a b c,.mkx a' b' c'=>Nat.beq a a'&&(Nat.beq b b'&&El c c')
 | .mkz a b c,.mkz a' b' c'=>Nat.beq a a'&&(Nat.beq b b'&&El c c')
 | .skx,.skx=>true
 | .flat a b c d,.flat a' b' c' d'=>Nat.beq a a'&&(Nat.beq b b'&&(Nat.beq c c'&&Nat.beq d d'))
 | .opn a b,.opn a' b'=>Nat.beq a a'&&Nat.beq b b'
 |_,_=>false
def W3:DF->DF->Bool
 | .same i j,.same i' j'=>Nat.beq i i'&&Nat.beq j j'
 | .nn i,.nn i'=>Nat.beq i i'
 | .pos i,.pos i'=>Nat.beq i i'
 |_,_=>false
mutual
def Ek:VT->VT->Bool
 | .done v,.done w=>CI v w
 | .ite i a b,.ite i' a' b'=>Nat.beq i i'&&(Ek a a'&&Ek b b')
 | .lt o l n m t,.lt o' l' n' m' t'=>WE o o'&&(El l l'&&(Nat.beq n n'&&(L6 m m'&&Ek t t')))
 | .call f l n sh t,.call f' l' n' sh' t'=>Nat.beq f f'&&(El l l'&&(Nat.beq n n'&&(Rw sh sh'&&Ek t t')))
 | .loop n j hv bs,.loop n' j' hv' bs'=>Nat.beq n n'&&(Nat.beq j j'&&(El hv hv'&&NC bs bs'))
 | .again l j hv,.again l' j' hv'=>Nat.beq l l'&&(Nat.beq j j'&&El hv hv')
 | .chk c t,.chk c' t'=>W3 c c'&&Ek t t'
 | .callF f ft hv n bs,.callF f' ft' hv' n' bs'=>Nat.beq f f'&&(mE ft ft'&&(El hv hv'&&(Nat.beq n n'&&NC bs bs')))
 | .both a b,.both a' b'=>Ek a a'&&Ek b b'
 |_,_=>false
def NC:GY->GY->Bool
 | .nil,.nil=>true
 | .cons n t r,.cons n' t' r'=>Nat.beq n n'&&(Ek t t'&&NC r r')
 |_,_=>false
end
def Yq (a b:VT):VT:=match Ek a b with
 |true=>a
 |false=>.both a b
def SW (f:Gr->VT) (x:Gr):List Gr->VT
 |[]=>f x
 |y::r=>Yq (f x) (SW f y r)
def Mh (P:Program) (N fuel:Nat) (I:C8 P fuel) (c:VC) (all:List Oper) (X:VX->VT) (K:VS->VT):Nat->Nat->VS->VT
 |0,_,_=>.bad
 |n+1,m,S=>match HY m all 0 with
  |[]=>K S
  |x::r=>match PD P all m S.T (x::r)with
   |some q=>match CP N q.x.o.dst with
    | .mk u=>Mh P N fuel I c all X K n (Lu m q.x.i) ⟨u S.T q.a,S.H,S.n,S.lv,S.D⟩
    | .bad=>.bad
   |none=>SW (λx=>Ka P N fuel I c all X [x.o] S λS'=>Mh P N fuel I c all X K n (Lu m x.i) S') x r
def Iu:List Oper->Tm->Tm
 |[],T=>T
 |o::r,T=>match o.dst with
  |some d=>Iu r (Ea T d .opq)
  |none=>Iu r T
def N3 (Ae:List Oper) (X:VX->VT) (r:VX):VT:=match r with
 | .pan v S=>X (.pan v ⟨Iu Ae S.T,S.H,S.n,S.lv,S.D⟩)
 | .exit i S=>X (.exit i S)
 | .ret S=>X (.ret S)
def Vf (N:Nat):List Oper->Bool
 |[]=>true
 |o::r=>(match o.dst with
  |some d=>Nat.blt d N
  |none=>true)&&Vf N r
def lG (c:VC):Nat->List SI->Bool
 |0,_=>false
 |_+1,[]=>false
 |n+1,x::r=>match dt c x.o with
  |true=>true
  |false=>lG c n r
def vF (c:VC) (Ae:List Oper):Bool:=match M1 Ae with
 | .mk l _=>lG c (Il l 0) l
 | .no=>true
def Up (P:Program) (N fuel:Nat) (I:C8 P fuel) (c:VC) (Ae:List Oper) (S:VS) (X:VX->VT) (K:VS->VT):VT:=match Rv Ae&&(Vf N Ae&&Nat.ble N 512)with
 |true=>Mh P N fuel I c Ae (N3 Ae X) K (Nat.succ (lenOp Ae)) 0 S
 |false=>.bad
where
 lenOp:List Oper->Nat
 |[]=>0
 |_::r=>Nat.succ (lenOp r)
def vc (Ae:List Oper):Bool:=match M1 Ae with
 | .mk l _=>match Il l 0 with
   |b=>SO (GV b l) 0&&Ng (GV b l) (GV b l)
 | .no=>true
def Oz (T:Tm):List Oper->Nat->AV
 |[],_=>.opq
 |o::r,t=>match o.op with
  | .move x=>match o.dst with
    |some d=>match Nat.beq d t with
     |true=>look T x
     |false=>Oz T r t
    |none=>Oz T r t
  |_=>Oz T r t
def yA (own:Bool) (T:Tm) (all:List Oper) (x i:Operand):List AV:=match x with
 | .tmp b=>match Oz T all b with
   | .slx id z k=>match own with
     |true=>[]
     |false=>[.slx id z k]
   | .sl id off len z cap=>match i with
     | .tmp j=>match Oz T all j with
       | .sym _=>[.sl id off len z cap]
       |_=>[]
     |_=>[]
   |_=>[]
 |_=>[]
def V3 (T:Tm) (all:List Oper):List (Nat×Operand)->List AV
 |[]=>[]
 |(_,x)::r=>match x with
  | .tmp t=>match Oz T all t with
    | .slx id z k=>.slx id z k::V3 T all r
    |_=>V3 T all r
  |_=>V3 T all r
def PL (own:Bool) (T:Tm) (all:List Oper):List Oper->List AV
 |[]=>[]
 |o::r=>match o.op with
  | .indexAddr _ x i=>IL (yA own T all x i) (PL own T all r)
  | .buildSlice _ _ ps=>match own with
    |true=>PL own T all r
    |false=>IL (V3 T all ps.toList) (PL own T all r)
  |_=>PL own T all r
def Jj (own:Bool) (l:List Oper) (S:VS):VS:=match PL own S.T l l with
 |[]=>S
 |a=>Ee S a
def VY (b:VS->(VS->VT)->VT):Nat->VS->VT
 |0,_=>.bad
 |n+1,S=>b S λS'=>VY b n S'
def X7 (n k lvl:Nat) (tps:List BE) (S:VS):VT:=match NK n k tps 0 S with
 |some r=>M4 r.l (PH r.m.nn (.again lvl r.j r.m.hv))
 |none=>.bad
def XV (b:VS->(VS->VT)->VT) (n k lvl:Nat) (tps:List BE):List BE->GY
 |[]=>.nil
 |tp::r=>.cons tp.nv (b (tp.inst n (Nat.succ lvl)) (X7 n k lvl tps)) (XV b n k lvl tps r)
def Y5 (k:Nat) (b:VS->(VS->VT)->VT) (tps:List BE) (S:VS):VT:=match NK S.n k tps 0 S with
 |some r=>M4 r.l (PH r.m.nn (.loop S.n r.j r.m.hv (XV b S.n k S.lv tps tps)))
 |none=>.bad
def X5 (id:Nat) (K:VS->VT) (X:VX->VT) (r:VX):VT:=match r with
 | .exit id' S=>match Nat.beq id' id with
   |true=>K S
   |false=>X r
 | .ret _=>X r
 | .pan _ _=>X r
mutual
def Le (id sz i len:Nat):AV->AV
 | .slx id' z j=>match Nat.beq id id'&&(Nat.beq sz z&&Nat.beq i j)with
   |true=>.sl id 0 len sz none
   |false=>.slx id' z j
 | .agg cs=>.agg (Ho id sz i len cs)
 | .tup cs=>.tup (Ho id sz i len cs)
 |a=>a
def Ho (id sz i len:Nat):List AV->List AV
 |[]=>[]
 |a::r=>Le id sz i len a::Ho id sz i len r
end
def N7 (id sz i len:Nat) (H:AHeap):List Nat->AHeap
 |[]=>H
 |q::r=>match (N7 id sz i len H r).get q with
  |some (.cells cs)=>(N7 id sz i len H r).set q (.cells (Ho id sz i len cs))
  |_=>N7 id sz i len H r
def LY (t:TA) (i:Nat) (S:VS):VS:=⟨B1 (Le t.id t.sz i t.j) S.T,N7 t.id t.sz i t.j (S.H.set t.id (.cells (Af S.n (Nat.mul t.j t.sz)))) [0,1,2,3],Nat.add S.n (Nat.mul t.j t.sz),S.lv,S.D⟩
def QT:List TA->VS->(VS->VT)->VT
 |[],S,k=>k S
 |t::r,S,k=>match S.H.get t.id with
  |some (.syl i)=>.lt (.opn t.j t.sz) [.sym i] S.n (some (Nat.mul t.j t.sz)) (QT r (LY t i S) k)
  |_=>QT r S k
def Lt (t o:Nat) (S:VS):VS:=match An S.T t with
 | .ptr id b=>match S.H.get id with
   |some (.cells cs)=>match Kz (Nat.add b o) cs with
    |some a=>ff S [a] id
    |none=>S
   |_=>S
 |a=>Ee S [a]
def KZ (S:VS):List (Nat×Nat)->VS
 |[]=>S
 |(t,o)::r=>KZ (Lt t o S) r
def XH (c:VC) (rid:Nat) (Ae:List Oper) (S:VS) (k:VS->VT):VT:=match Ae with
 |[]=>k S
 |_::_=>match SG c.hs (Nat.add 10000 rid)with
  |some (tp::_)=>QT tp.acc (KZ S tp.fix) k
  |_=>k S
def lZ (c:VC) (rid:Nat):Bool:=match SG c.hs (Nat.add 20000 rid)with
 |some _=>true
 |none=>false
def PQ (P:Program) (N fuel:Nat) (I:C8 P fuel) (c:VC) (any:Bool) (Ae:Array Oper) (draw:Bool) (S:VS) (K:VS->VT) (X:VX->VT):VT:=match draw with
 |false=>Ka P N fuel I c Ae.toList X Ae.toList S K
 |true=>match Nk P (CO P fuel) N Ae.toList S.T S.H S.D with
  |some r=>match r with
   | .norm T H D=>K ⟨T,H,S.n,S.lv,D⟩
   |_=>.bad
  |none=>match lR c Ae.toList with
   |false=>match !any&&vc Ae.toList with
    |true=>PI P N fuel I c Ae.toList (Jj c.own Ae.toList S) X K
    |false=>Up P N fuel I c Ae.toList S X K
   |true=>match vF c Ae.toList with
    |true=>Up P N fuel I c Ae.toList S X K
    |false=>PI P N fuel I c Ae.toList (Jj c.own Ae.toList S) X K
def EN (P:Program) (N fuel:Nat) (I:C8 P fuel) (c:VC):Nat->Code->VS->(VS->VT)->(VX->VT)->VT
 |_,.skip,S,K,X=>K S
 |_,.label _,S,K,X=>K S
 |_,.region rid Ae draw,S,K,X=>XH c rid Ae.toList S λS=>PQ P N fuel I c (lZ c rid) Ae draw S K X
 |bid,.seq a b,S,K,X=>EN P N fuel I c bid a S (λS=>EN P N fuel I c bid b S K X) X
 |bid,.cond cd a b,S,K,X=>match look S.T cd with
  | .bool t=>match t with
    |true=>EN P N fuel I c bid a S K X
    |false=>EN P N fuel I c bid b S K X
  |_=>match QI S.T cd with
   |some i=>.ite i (EN P N fuel I c bid a (S.know i true) K X) (EN P N fuel I c bid b (S.know i false) K X)
   |none=>.bad
 |_,.block id b,S,K,X=>EN P N fuel I c id b S K (X5 id K X)
 |bid,.loop b,S,K,X=>match SG c.hs bid with
  |some tps=>Y5 c.k (λS K=>EN P N fuel I c bid b S K X) tps S
  |none=>VY (λS K=>EN P N fuel I c bid b S K X) fuel S
 |_,.exit id,S,K,X=>X (.exit id S)
 |_,.ret,S,K,X=>X (.ret S)
 |_,_,_,_,_=>.bad
def pA (Q:Option (AV×AHeap)):VT:=match Q with
 |some (a,H)=>match Fd 100 H a with
  |some v=>match Bf v with
   |true=>.done v
   |false=>.bad
  |none=>.bad
 |none=>.bad
def Ws:List Oper->Bool
 |[]=>false
 |o::r=>match o.op with
  | .call c=>match c.callee with
    | .builtin .recover=>true
    |_=>Ws r
  |_=>Ws r
def vX (u:Option AV) (Ae:List Oper):Bool:=match u with
 |some _=>true
 |none=>Ws Ae
def HU (P:Program) (N fuel:Nat) (I:C8 P fuel) (c:VC):Code->VS->Option AV->(VS->Option AV->VT)->(VS->Option AV->VT)->VT
 | .skip,S,u,K,R=>K S u
 | .region rid Ae draw,S,u,K,R=>match vX u Ae.toList with
   |true=>match draw with
    |true=>.bad
    |false=>match Jz P (CO P fuel) N Ae.toList Ae.toList S.T S.H u with
     |some r=>match r with
      | .norm T H u'=>K ⟨T,H,S.n,S.lv,[]⟩ u'
      | .ret _ _ _=>.bad
     |none=>.bad
   |false=>PQ P N fuel I c (lZ c rid) Ae draw S (λS=>match S.D with
    |[]=>K S none
    |_::_=>.bad) (λ_=>.bad)
 | .seq a b,S,u,K,R=>HU P N fuel I c a S u (λS u=>HU P N fuel I c b S u K R) R
 | .cond cd a b,S,u,K,R=>match look S.T cd with
   | .bool t=>match t with
     |true=>HU P N fuel I c a S u K R
     |false=>HU P N fuel I c b S u K R
   |_=>match QI S.T cd with
    |some i=>.ite i (HU P N fuel I c a (S.know i true) u K R) (HU P N fuel I c b (S.know i false) u K R)
    |none=>.bad
 | .block _ b,S,u,K,R=>HU P N fuel I c b S u K R
 | .ret,S,u,K,R=>R S u
 |_,_,_,_,_=>.bad
def Mu (P:Program) (fuel:Nat) (I:C8 P fuel) (c:VC) (rs:List ResultVar) (fin:A1->Nat->Nat->VT):Bg->Tm->AHeap->Nat->Nat->Option AV->VT
 |[],T,H,n,lv,u=>match H8 P (CO P fuel) fuel rs T [] H u with
  |some r=>fin r n lv
  |none=>.bad
 |(f,ag)::D,T,H,n,lv,u=>match P.funcs[f]? with
  |some fn=>match fn.body with
   |some cd=>match Nat.ble (Bp ag) fn.ntmps&&(Nat.ble fn.ntmps 512&&(TL H.next n D&&Nat.ble c.k H.next))with
    |true=>match (λ(S:VS) (u:Option AV)=>match G9 P S.T S.H fn.results.toList with
       |some _=>Mu P fuel I c rs fin D (B1 (DY H.next n) T) S.H S.n S.lv u
       |none=>.bad)with
     |K=>HU P fn.ntmps fuel I ⟨c.fc,c.cs,[],H.next,c.own,c.fs⟩ cd ⟨Dc ag 0 B4,H,n,lv,[]⟩ u K K
    |false=>.bad
   |none=>.bad
  |none=>.bad
def PW (P:Program) (fuel:Nat) (I:C8 P fuel) (c:VC) (rs:List ResultVar) (fin:A1->Nat->Nat->VT) (u:Option AV) (S:VS):VT:=match H8 P (CO P fuel) fuel rs S.T S.D S.H u with
 |some r=>fin r S.n S.lv
 |none=>Mu P fuel I c rs fin S.D S.T S.H S.n S.lv u
def gR (r:A1) (_ _:Nat):VT:=match r with
 | .ret a H=>pA (some (a,H))
 | .pan _ _=>.bad
def VJ (P:Program) (fuel:Nat) (I:C8 P fuel) (c:VC) (rs:List ResultVar) (u:Option AV) (S:VS):VT:=PW P fuel I c rs gR u S
def v5_ (P:Program) (fuel:Nat) (I:C8 P fuel) (c:VC) (rs:List ResultVar) (r:VX):VT:=match r with
 | .ret S=>VJ P fuel I c rs none S
 | .pan v S=>VJ P fuel I c rs (some v) S
 | .exit _ _=>.bad
def O9 (n k:Nat) (b:Bool) (S:VS):List (Bool×BE)->Nat->VT
 |[],_=>.bad
 |(b',tp)::r,j=>match b==b' with
  |false=>O9 n k b S r (Nat.succ j)
  |true=>match Ij tp S with
   |f=>match Oc n k tp f.S with
    |some m=>M4 f.l (PH m.nn (.done (.tup (.int .i64 (.ofNat j)::m.hv))))
    |none=>O9 n k b S r (Nat.succ j)
def wX (ft:FT) (r:A1) (n lv:Nat):VT:=match r with
 | .ret a H=>O9 (Nat.add 64 ft.ent.nv) ft.k false ⟨Ea AK 0 a,H,n,lv,[]⟩ ft.exs 0
 | .pan a H=>O9 (Nat.add 64 ft.ent.nv) ft.k true ⟨Ea AK 0 a,H,n,lv,[]⟩ ft.exs 0
def Pg (P:Program) (fuel:Nat) (I:C8 P fuel) (c:VC) (rs:List ResultVar) (ft:FT) (u:Option AV) (S:VS):VT:=PW P fuel I c rs (wX ft) u S
def j4 (P:Program) (fuel:Nat) (I:C8 P fuel) (c:VC) (rs:List ResultVar) (ft:FT) (r:VX):VT:=match r with
 | .ret S=>Pg P fuel I c rs ft none S
 | .pan v S=>Pg P fuel I c rs ft (some v) S
 | .exit _ _=>.bad
def Wv (P:Program) (fuel:Nat) (I:C8 P fuel) (c:VC) (f:FuncId) (ft:FT):VT:=match P.funcs[f]? with
 |some fn=>match fn.body with
  |some cd=>match Nat.ble (Bp (DB ft.ent.slots)) fn.ntmps&&(Nat.ble fn.ntmps 512&&Nat.beq c.k ft.k)with
   |true=>EN P fn.ntmps fuel I c 0 cd ⟨Dc (CE 64 (DB ft.ent.slots)) 0 B4,ft.ent.heap 64,Nat.add 64 ft.ent.nv,0,[]⟩ (Pg P fuel I c fn.results.toList ft none) (j4 P fuel I c fn.results.toList ft)
   |false=>.bad
  |none=>.bad
 |none=>.bad
def Yv (P:Program) (fuel:Nat) (I:C8 P fuel) (c:VC) (f:FuncId) (ag:List AV) (n:Nat):VT:=match P.funcs[f]? with
 |some fn=>match fn.body with
  |some cd=>match Nat.ble (Bp ag) fn.ntmps&&Nat.ble fn.ntmps 512 with
   |true=>EN P fn.ntmps fuel I c 0 cd ⟨Dc ag 0 B4,H0,n,0,[]⟩ (VJ P fuel I c fn.results.toList none) (v5_ P fuel I c fn.results.toList)
   |false=>.bad
  |none=>.bad
 |none=>.bad
def vu_ (ret pan:AV->AHeap->Nat->Nat->VT) (r:A1) (n lv:Nat):VT:=match r with
 | .ret a H=>ret a H n lv
 | .pan a H=>pan a H n lv
def Wf (P:Program) (fuel:Nat) (I:C8 P fuel) (c:VC) (rs:List ResultVar) (ret pan:AV->AHeap->Nat->Nat->VT) (u:Option AV) (S:VS):VT:=PW P fuel I c rs (vu_ ret pan) u S
def xp (P:Program) (fuel:Nat) (I:C8 P fuel) (c:VC) (rs:List ResultVar) (ret pan:AV->AHeap->Nat->Nat->VT) (r:VX):VT:=match r with
 | .exit _ _=>.bad
 | .ret S=>Wf P fuel I c rs ret pan none S
 | .pan v S=>Wf P fuel I c rs ret pan (some v) S
def Wt (P:Program) (fuel:Nat) (I:C8 P fuel) (c:VC) (g:FuncId) (ag:List AV) (H:AHeap) (n lv:Nat) (ret pan:AV->AHeap->Nat->Nat->VT):VT:=match P.funcs[g]? with
 |some fn=>match fn.body with
  |some cd=>match Nat.ble (Bp ag) fn.ntmps&&Nat.ble fn.ntmps 512 with
   |true=>EN P fn.ntmps fuel I ⟨c.fc,c.cs,[],H.next,c.own,c.fs⟩ 0 cd ⟨Dc ag 0 B4,H,n,lv,[]⟩ (Wf P fuel I ⟨c.fc,c.cs,[],H.next,c.own,c.fs⟩ fn.results.toList ret pan none) (xp P fuel I ⟨c.fc,c.cs,[],H.next,c.own,c.fs⟩ fn.results.toList ret pan)
   |false=>.bad
  |none=>.bad
 |none=>.bad
end
theorem LZ:∀(l:List AV) (n:Nat),Dd n l=l[n]?
 |[],n=>by cases n<;>rfl
 |a::r,0=>rfl
 |a::r,n+1=>by simp [Dd,LZ r n]
structure GF (H:AHeap) (ds:List DA) (rn:List (Nat×Nat)) (hv:List AV) (n:Nat) (E E':Ag):Prop where
 phi:∀id a,BQ rn id=some a->E'.φ id=E.φ a
 sz:E'.sz=E.sz
 imm:E'.imm=E.imm
 low:∀i,i<n->E'.sy i=E.sy i
 hole:∀j x,Dd j hv=some x->Bf x=true/\E'.sy (n+j)=some (Ap E.sy x)/\(Ap E.sy x).one=true
 acc:∀id d i,CR ds id=some d->d.act=some i->Ap E.sy d.x≠ .nsl->E'.φ id=E.φ i
 val:∀id d,CR ds id=some d->Dd d.j hv=some d.x
def vb {E:Ag} {H:AHeap} {sz:Nat} {a x:AV} {act:Option Nat} {v:Value} (h:KN H sz a=some (x,act)) (hc:Ac E a v):
  (v=.slice none 0 0/\Ap E.sy x=.nsl)\/∃i len cs,act=some i/\Ap E.sy x=.vsl len sz cs/\∃b o n c off',E.φ i=some (b,o)/\E.sz b=some n/\v=.slice (some ⟨b,o+off',none⟩) len c/\(c≠0->off'=0)/\len<=c/\o+c*sz<=n:=by
 unfold KN at h;split at h;cases h;exact .inl ⟨hc,rfl⟩
 .rename_i id sz' i;split at h
  .split at h
   .rename_i hb;cases h;obtain ⟨e1,e2⟩:=Aq hb;have e2:=za' e2;subst e2;obtain ⟨a,h1,⟨rfl,h2⟩|⟨len,cs,rfl,h2⟩⟩:=hc
    .grind [Ap]
    ·
     exact .inr ⟨id,len,cs,rfl,by simp only [Ap,h1],h2⟩
   cases h
  cases h
 .rename_i id off len sz' cap;split at h
  .split at h
   case h_2=>cases h
   split at h;rename_i hb;cases h;obtain ⟨e1,hb⟩:=Aq hb;obtain ⟨e2,hb⟩:=Aq hb;have e1:=za' e1;have e2:=za' e2;subst e1 e2;obtain ⟨b,o,nn,c,off',q1,q2,q3,q4,q5,q6,_⟩:=hc;exact .inr ⟨id,len,_,rfl,by rfl,b,o,nn,c,off',q1,q2,q3,q4,q5,by omega⟩;cases h
  cases h
 cases h
theorem K8 {a b:Option Nat} (h:IV a b=true):a=b:=by
 unfold IV at h
 grind [za']
def GF.con0 {H:AHeap} {ds:List DA} {rn:List (Nat×Nat)} {hv:List AV} {n:Nat} {E E':Ag} (h:GF H ds rn hv n E E') {a:AV} {v:Value} (hc:Al E a v):Al E' a v:=JL (λ_ _ _ hx=>by rw [h.imm];exact hx) hc
mutual
theorem Xe {H:AHeap} {ds:List DA} {rn:List (Nat×Nat)} {hv:List AV} {n:Nat} {E E':Ag} (h:GF H ds rn hv n E E'):∀{t a:AV} {v:Value},mA H ds rn hv n t a=true->Ac E a v->Ac E' (DG n t) v
 | .opq,_,_,_,_=>by simp [DG,Ac]
 | .slx j z q,a,v,hm,hc=>by
   unfold mA at hm;unfold DG;cases z with
   |zero=>simp only at hm⊢;split at hm;rename_i x hx;have:=Dx hm;subst this;obtain ⟨h1,h2,h3⟩:=h.hole _ _ hx;exact ⟨_,h2,h3,h.con0 (C7 h1 hc)⟩;cases hm
   |succ z=>
    simp only at hm⊢;split at hm
    .rename_i d hd;split at hm
     .rename_i x act hacc;obtain ⟨e1,hm⟩:=Aq hm;obtain ⟨e2,hm⟩:=Aq hm;obtain ⟨e3,e4⟩:=Aq hm;have e2:=za' e2;have e3:=Dx e3;have e4:=K8 e4;have hval:=h.val _ _ hd;obtain ⟨_,h2,_⟩:=h.hole _ _ hval;refine ⟨_,by rw [←e2];exact h2,?_⟩;rcases vb hacc hc with ⟨k1,k2⟩|⟨i,len,cs,k1,k2,b,o,nn,c,off',q1,q2,q3,q4,q5,q6⟩
      .grind
      rw [e3];refine .inr ⟨len,cs,k2,b,o,nn,c,off',?_,by rw [h.sz];exact q2,q3,q4,q5,q6⟩;rw [h.acc _ _ _ hd (e4.trans k1) (by grind)];exact q1
     cases hm
    cases hm
 | .sym i,a,v,hm,hc=>by obtain ⟨h1,h2⟩:=Aq hm;have:=Dx h2;subst this;have hi:i<n:=(by simp_all);obtain ⟨a,q1,q2,q3⟩:=hc;exact ⟨a,by rw [h.low i hi];exact q1,q2,h.con0 q3⟩
 | .ptr id off,a,v,hm,hc=>by unfold mA at hm;split at hm;obtain ⟨h1,h2⟩:=Aq hm;have h2:=za' h2;subst h2;simp only [DG,Ac]at hc⊢;rw [h.phi id _ (K8 h1)];exact hc;cases hm
 | .sl id off len sz cap,a,v,hm,hc=>by
   unfold mA at hm;split at hm
   .obtain ⟨h1,hm⟩:=Aq hm;obtain ⟨e2,hm⟩:=Aq hm;obtain ⟨e3,hm⟩:=Aq hm;obtain ⟨e4,e5⟩:=Aq hm;have e2:=za' e2;have e3:=za' e3;have e4:=za' e4;simp only [DG,Ac]at hc⊢;rw [h.phi id _ (K8 h1),h.sz]
    grind
   cases hm
 | .agg ts,a,v,hm,hc=>by unfold mA at hm;split at hm;obtain ⟨vs,rfl,h2⟩:=hc;exact ⟨vs,rfl,MY h hm h2⟩;cases hm
 | .tup ts,a,v,hm,hc=>by unfold mA at hm;split at hm;obtain ⟨vs,rfl,h2⟩:=hc;exact ⟨vs,rfl,MY h hm h2⟩;cases hm
 | .vptr ts,a,v,hm,hc=>by unfold mA at hm;split at hm;obtain ⟨b,o,vs,h1,h2,h3⟩:=hc;exact ⟨b,o,vs,h1,MY h hm h2,λi u hu=>by rw [h.imm];exact h3 i u hu⟩;cases hm
 | .vsl len sz ts,a,v,hm,hc=>by unfold mA at hm;split at hm;obtain ⟨e1,hm1⟩:=Aq hm;obtain ⟨e2,hm2⟩:=Aq hm1;have e3:=za' e1;subst e3;obtain ⟨b,o,vs,c,h1,h2,h3,h4⟩:=hc;exact ⟨b,o,vs,c,h1,h2,MY h hm2 h3,λi u hu=>by rw [h.imm];exact h4 i u hu⟩;cases hm
 | .fn f ts,a,v,hm,hc=>by unfold mA at hm;split at hm;obtain ⟨e1,hm1⟩:=Aq hm;have e2:=za' e1;subst e2;simp only [DG,Ac]at hc⊢;obtain ⟨vs,h1,h2⟩:=hc;exact ⟨vs,h1,MY h hm1 h2⟩;cases hm
 | .iface t x,a,v,hm,hc=>by unfold mA at hm;split at hm;obtain ⟨e1,hm1⟩:=Aq hm;have e2:=za' e1;subst e2;simp only [DG,Ac]at hc⊢;obtain ⟨u,h1,h2⟩:=hc;exact ⟨u,h1,Xe h hm1 h2⟩;cases hm
 | .ptx id i sz _,a,v,hm,hc=>by unfold mA at hm;split at hm;obtain ⟨h1,hm⟩:=Aq hm;obtain ⟨e1,hm⟩:=Aq hm;obtain ⟨e2,e3⟩:=Aq hm;have e1:=za' e1;have e2:=za' e2;subst e1 e2;have hi:i<n:=(by simp_all);simp only [DG,Ac]at hc⊢;rw [h.phi id _ (K8 h1),h.sz,h.low i hi];exact hc;cases hm
 | .map id,a,v,hm,hc=>by unfold mA at hm;split at hm;simp only [DG,Ac]at hc⊢;rw [h.phi id _ (K8 hm)];exact hc;cases hm
 | .bool b,a,v,hm,hc=>by
   grind [Dx,mA,DG,Ac]
 | .int k b,a,v,hm,hc=>by
   grind [Dx,mA,DG,Ac]
 | .flt k b,a,v,hm,hc=>by
   grind [Dx,mA,DG,Ac]
 | .nan k,a,v,hm,hc=>by
   grind [Dx,mA,DG,Ac]
 | .str s,a,v,hm,hc=>by
   grind [Dx,mA,DG,Ac]
 | .nptr,a,v,hm,hc=>by
   grind [Dx,mA,DG,Ac]
 | .nsl,a,v,hm,hc=>by
   grind [Dx,mA,DG,Ac]
 | .nmap,a,v,hm,hc=>by
   grind [Dx,mA,DG,Ac]
 | .nfn,a,v,hm,hc=>by
   grind [Dx,mA,DG,Ac]
 | .nif,a,v,hm,hc=>by
   grind [Dx,mA,DG,Ac]
theorem MY {H:AHeap} {ds:List DA} {rn:List (Nat×Nat)} {hv:List AV} {n:Nat} {E E':Ag} (h:GF H ds rn hv n E E'):∀{ts as:List AV} {vs:List Value},mL H ds rn hv n ts as=true->Ah E as vs->Ah E' (CE n ts) vs
 |[],[],vs,hm,hc=>by grind [CE,Ah]
 |t::ts,a::r,vs,hm,hc=>by obtain ⟨h1,h2⟩:=Aq hm;simp only [Ah]at hc;simp only [CE,Ah];obtain ⟨v,q,e,c1,c2⟩:=hc;exact ⟨v,q,e,Xe h h1 c1,MY h h2 c2⟩
 |[],_::_,_,hm,_=>by simp [mL]at hm
 |_::_,[],_,hm,_=>by simp [mL]at hm
end
def iq {H:AHeap} {ds:List DA} {rn:List (Nat×Nat)} {hv:List AV} {n:Nat} {E E':Ag} (h:GF H ds rn hv n E E') {T:Tm} {tmps:Array Value} (hc:∀t,t<512->Ac E (An T t) (tmps.getD t undef)):
  ∀(slots:List (Nat×AV)),mT H ds rn hv n T slots=true->∀t,t<512->Ac E' (An (Fx n slots) t) (tmps.getD t undef)
 |[],_,t,ht=>by show Ac E' (An AK t) _;rw [Ks];simp [Ac]
 |(s,a)::r,hm,t,ht=>by obtain ⟨h1,hm⟩:=Aq hm;obtain ⟨h2,hm⟩:=Aq hm;have h1:s<512:=(by simpa [Nat.blt_eq]using h1);show Ac E' (An (Ea (Fx n r) s (DG n a)) t) _;by_cases e:s=t;subst e;rw [Gw _ ht];exact Xe h h2 (hc s ht);rw [Fi _ ht h1 e];exact iq h hc r hm t ht
def WA {n next:Nat}:∀(rows:List (Nat×List AV)),(∀id cs,(id,cs)∈rows->id<A8)->∀id k,(LG n next rows).get id=some k->∃cs,(id,cs)∈rows/\k=.cells (CE n cs)
 |[],_,id,k,h=>by
  grind [PV,LG]
 |(i,c)::r,hlt,id,k,h=>by
  have h:((LG n next r).set i (.cells (CE n c))).get id=some k:=h;have hi:=hlt i c (zc' ..);by_cases e:i=id
  .subst e;rw [AHeap.get_set_same _ hi]at h
   grind
  rw [AHeap.get_set_ne _ hi e]at h;obtain ⟨cs,h1,h2⟩:=WA r (λa b h=>hlt a b (zb' _ h)) id k h;exact ⟨cs,zb' _ h1,h2⟩
theorem fb {n next:Nat}:∀rows,(LG n next rows).next=next/\(LG n next rows).hi=A8
 |[]=>⟨rfl,rfl⟩
 |(i,c)::r=>fb r
theorem Hg:∀{l:List (Nat×Nat)} {i a:Nat},BQ l i=some a->(i,a)∈l
 |[],i,a,h=>by cases h
 |(j,t)::r,i,a,h=>by unfold BQ at h;split at h;rename_i hb;cases h;rw [AE hb];exact zc' ..;exact zb' _ (Hg h)
def dU {ds:List DA} {inv:List (Nat×Nat)} {next:Nat}:∀{rn:List (Nat×Nat)},mN ds inv next rn=true->∀id a,(id,a)∈rn->id<next/\id<A8/\BQ inv a=some id/\CR ds id=none
 |[],_,id,a,h=>by cases h
 |(i,q)::r,hm,id,a,h=>by obtain ⟨h1,hm⟩:=Aq hm;obtain ⟨h2,hm⟩:=Aq hm;obtain ⟨h3,hm⟩:=Aq hm;obtain ⟨h4,hm⟩:=Aq hm;rcases List.mem_cons.1 h with h|h;cases h;exact ⟨by simp_all,by simp_all,K8 h3,by simpa using h4⟩;exact dU hm id a h
def cw {ds:List DA} {rn:List (Nat×Nat)} {hv:List AV} {n:Nat} {H:AHeap}:∀(rows:List (Nat×List AV)),mH ds rn hv n H rows=true->∀id cs,(id,cs)∈rows->∃a l,BQ rn id=some a/\H.get a=some (.cells l)/\mL H ds rn hv n cs l=true
 |[],_,id,cs,h=>by cases h
 |(i,c)::r,hm,id,cs,h=>by obtain ⟨h1,hm⟩:=Aq hm;rcases List.mem_cons.1 h with h|h;cases h;split at h1;rename_i a ha;split at h1;rename_i l hl;exact ⟨a,l,ha,hl,h1⟩;cases h1;cases h1;exact cw r hm id cs h
def cr {inv:List (Nat×Nat)} {hv:List AV} {next:Nat}:∀{ds:List DA},mD inv hv next ds=true->∀d,d∈ds->d.id<next/\d.id<A8/\Dd d.j hv=some d.x/\∀i,d.act=some i->BQ inv i=some d.id
 |[],_,d,h=>by cases h
 |q::r,hm,d,h=>by
  obtain ⟨h1,hm⟩:=Aq hm;obtain ⟨h2,hm⟩:=Aq hm;obtain ⟨h3,hm⟩:=Aq hm;obtain ⟨h4,hm⟩:=Aq hm;rcases List.mem_cons.1 h with rfl|h
  .grind [zd',Dx,K8]
  exact cr hm d h
def cT {rn:List (Nat×Nat)} {hv:List AV} {H:AHeap}:∀(ms:List (Nat×Nat)),mM rn hv H ms=true->∀id j,(id,j)∈ms->∃a x,BQ rn id=some a/\SU H a=some x/\Dd j hv=some x
 |[],_,id,j,h=>by cases h
 |(i,q)::r,hm,id,j,h=>by obtain ⟨h1,hm⟩:=Aq hm;rcases List.mem_cons.1 h with h|h;cases h;split at h1;rename_i a ha;split at h1;rename_i x hx;split at h1;rename_i y hy;exact ⟨a,x,ha,hx,by rw [hy,Dx h1]⟩;cases h1;cases h1;cases h1;exact cT r hm id j h
def rZ_ (n:Nat) {i:Nat} (h:Nat.blt i K9=true):IX n i=i:=by unfold IX;rw [h]
def fZ (n:Nat) {i:Nat} (h:Nat.blt i K9=false):IX n i=n+Lv i:=by
 grind [IX]
inductive Gm (hv:List AV) (n s:Nat):AZ->Prop where
 |old (h:s<n):Gm hv n s (.syl s)
 |sym (j i:Nat) (h:s=n+j) (hj:Dd j hv=some (.sym i)):Gm hv n s (.syl i)
 |cells (j len z:Nat) (cs:List AV) (h:s=n+j) (hj:Dd j hv=some (.vsl len z cs)) (hl:cs.length=len*z) (hs:Bi cs=true):Gm hv n s (.cells cs)
def pD {rn:List (Nat×Nat)} {hv:List AV} {n:Nat} {H:AHeap}:∀(ms:List (Nat×Nat)),mF rn hv n H ms=true->∀id i,(id,i)∈ms->∃a k,BQ rn id=some a/\H.get a=some k/\Gm hv n (IX n i) k
 |[],_,id,j,h=>by cases h
 |(i,q)::r,hm,id,j,h=>by obtain ⟨h1,hm⟩:=Aq hm;rcases List.mem_cons.1 h with h|h;cases h;split at h1;rename_i a ha;split at h1;rename_i x hx;split at h1;rename_i hb;obtain ⟨h0,h1⟩:=Aq h1;have h1:=za' h1;have h0:q<n:=(by simp_all);refine ⟨a,_,ha,hx,?_⟩;rw [rZ_ n hb,h1];exact .old (by omega);rename_i hb;split at h1;rename_i y hy;have:=Dx h1;subst this;exact ⟨a,_,ha,hx,.sym (Lv q) x (fZ n hb) hy⟩;cases h1;rename_i cs hx;split at h1;cases h1;rename_i hb;split at h1;rename_i y hy;unfold gF at h1;split at h1;rename_i len z cs';obtain ⟨e1,h1⟩:=Aq h1;obtain ⟨e2,h1⟩:=Aq h1;obtain ⟨e3,_⟩:=Aq h1;have:=FD e1;subst this;have e2:=za' e2;rw [BW]at e2;exact ⟨a,_,ha,hx,.cells (Lv q) len z _ (fZ n hb) hy e2 e3⟩;cases h1;cases h1;cases h1;cases h1;exact pD r hm id j h
theorem Ji:∀{ds:List DA} {id:Nat} {d:DA},CR ds id=some d->d∈ds/\d.id=id
 |[],id,d,h=>by cases h
 |q::r,id,d,h=>by unfold CR at h;split at h;rename_i hb;cases h;exact ⟨zc' ..,za' hb⟩;obtain ⟨h1,h2⟩:=Ji h;exact ⟨zb' _ h1,h2⟩
theorem RK {T:Tm} {H:AHeap} {rn:List (Nat×Nat)}:∀{ts:List TA} {ds:List DA},O0 T H rn ts=some ds->∀d,d∈ds->∃t a,t∈ts/\t.id=d.id/\t.j=d.j/\OE T H rn t=some a/\KN H d.sz a=some (d.x,d.act)
 |[],ds,h,d,hd=>by cases h;cases hd
 |t::r,ds,h,d,hd=>by
  unfold O0 at h;split at h
  .rename_i a ha;split at h
   .rename_i x act hx;split at h
    .rename_i l hl;cases h;rcases List.mem_cons.1 hd with rfl|hd
     .grind
     obtain ⟨t',a',h0,h1⟩:=RK hl d hd;exact ⟨t',a',zb' _ h0,h1⟩
    cases h
   cases h
  cases h
def cp {n:Nat} {T:Tm} {H H0:AHeap} {rn:List (Nat×Nat)}:∀{ts:List TA} {ds:List DA},O0 T H rn ts=some ds->(∀d,d∈ds->d.id<A8)->∀id k,(Lq n H0 ts).get id=some k->(CR ds id=none/\H0.get id=some k)\/∃d,CR ds id=some d/\k=.syl (n+d.j)
 |[],ds,h,hlt,id,k,hk=>by cases h;exact .inl ⟨rfl,hk⟩
 |t::r,ds,h,hlt,id,k,hk=>by
  unfold O0 at h;split at h
  .split at h
   .rename_i x act hx;split at h
    .rename_i l hl;cases h;have ht:t.id<A8:=hlt _ (zc' ..);unfold Lq at hk;by_cases e:t.id=id;subst e;rw [AHeap.get_set_same _ ht]at hk;cases hk;exact .inr ⟨⟨t.id,t.sz,t.j,x,act⟩,by simp [CR],rfl⟩
     .rw [AHeap.get_set_ne _ ht e]at hk;have hb:Nat.beq t.id id=false:=by
       cases hb:Nat.beq t.id id with
       |true=>exact absurd (za' hb) e
       |false=>rfl
      have:=cp hl (λd hd=>hlt d (zb' _ hd)) id k hk;unfold CR;simp only [hb];exact this
    cases h
   cases h
  cases h
theorem dl {n:Nat} {H0:AHeap}:∀ts:List TA,(Lq n H0 ts).next=H0.next/\(Lq n H0 ts).hi=H0.hi
 |[]=>⟨rfl,rfl⟩
 |t::r=>dl r
def XY {n:Nat} {H0:AHeap}:∀(ms:List (Nat×Nat)),(∀id j,(id,j)∈ms->id<A8)->∀id k,(Og n H0 ms).get id=some k->(∃j,(id,j)∈ms/\k=.mpl (n+j))\/H0.get id=some k
 |[],_,id,k,h=>.inr h
 |(i,q)::r,hlt,id,k,h=>by
  have h:((Og n H0 r).set i (.mpl (Nat.add n q))).get id=some k:=h;have hi:=hlt i q (zc' ..);by_cases e:i=id
  .subst e;rw [AHeap.get_set_same _ hi]at h
   grind
  rw [AHeap.get_set_ne _ hi e]at h;rcases XY r (λa b h=>hlt a b (zb' _ h)) id k h with ⟨j,h1,h2⟩|h;exact .inl ⟨j,zb' _ h1,h2⟩;exact .inr h
theorem jz {n:Nat} {H0:AHeap}:∀ms:List (Nat×Nat),(Og n H0 ms).next=H0.next/\(Og n H0 ms).hi=H0.hi
 |[]=>⟨rfl,rfl⟩
 |(i,q)::r=>jz r
def aM {n:Nat} {H0:AHeap}:∀(ms:List (Nat×Nat)),(∀id j,(id,j)∈ms->id<A8)->∀id k,(OS n H0 ms).get id=some k->(∃j,(id,j)∈ms/\k=.syl (IX n j))\/H0.get id=some k
 |[],_,id,k,h=>.inr h
 |(i,q)::r,hlt,id,k,h=>by
  have h:((OS n H0 r).set i (.syl (IX n q))).get id=some k:=h;have hi:=hlt i q (zc' ..);by_cases e:i=id
  .subst e;rw [AHeap.get_set_same _ hi]at h
   grind
  rw [AHeap.get_set_ne _ hi e]at h;rcases aM r (λa b h=>hlt a b (zb' _ h)) id k h with ⟨j,h1,h2⟩|h;exact .inl ⟨j,zb' _ h1,h2⟩;exact .inr h
theorem dh {n:Nat} {H0:AHeap}:∀ms:List (Nat×Nat),(OS n H0 ms).next=H0.next/\(OS n H0 ms).hi=H0.hi
 |[]=>⟨rfl,rfl⟩
 |(i,q)::r=>dh r
def BE.heap_next (tp:BE) (n:Nat):(tp.heap n).next=tp.next/\(tp.heap n).hi=A8:=by unfold BE.heap;simp [dh,jz,dl,fb]
theorem nD {H:AHeap} {ds:List DA} {rn:List (Nat×Nat)} {hv:List AV} {n:Nat}:∀{ts as:List AV},mL H ds rn hv n ts as=true->as.length=ts.length
 |[],[],_=>rfl
 |t::ts,a::r,h=>by simp [nD (Aq h).2]
 |[],_::_,h=>by simp [mL]at h
 |_::_,[],h=>by simp [mL]at h
theorem SH (n:Nat):∀l:List AV,(CE n l).length=l.length
 |[]=>rfl
 |a::r=>by simp [CE,SH n r]
theorem Ld (s:Nat->Option AV):∀l:List AV,(Am s l).length=l.length
 |[]=>rfl
 |a::r=>by simp [Am,Ld s r]
def Pw (s:Nat->Option AV):∀(l:List AV) (i:Nat) (a:AV),l[i]? =some a->(Am s l)[i]? =some (Ap s a)
 |[],i,a,h=>by simp at h
 |b::r,0,a,h=>by grind [Am]
 |b::r,i+1,a,h=>by simpa [Am]using Pw s r i a (by simpa using h)
def V7:∀{l:List AV},Bi l=true->∀(i:Nat) (a:AV),l[i]? =some a->Bf a=true
 |[],_,i,a,h=>by simp at h
 |b::r,hs,i,a,h=>by
  simp only [Bi]at hs;cases hb:Bf b with
  |true=>
   rw [hb]at hs;cases i with
   |zero=>simp at h;subst h;exact hb
   |succ i=>exact V7 hs i a (by simpa using h)
  |false=>rw [hb]at hs;cases hs
theorem ZS:∀(acc:List (Nat×AV)) (j m:Nat) (l:List AV),Te acc j m=some l->l.length=m
 |acc,j,0,l,h=>by cases h;rfl
 |acc,j,m+1,l,h=>by unfold Te at h;split at h;split at h;rename_i l' hl;cases h;simp [ZS acc _ m _ hl];cases h;cases h
def AM (n:Nat) (Y Y':Sy):Prop:=∀i,i<n->Y'.v i=Y.v i
theorem AM.refl (n:Nat) (Y:Sy):AM n Y Y:=λ_ _=>rfl
theorem AM.trans {n m:Nat} {Y Y' Y'':Sy} (h:AM n Y Y') (h':AM m Y' Y'') (hn:n<=m):AM n Y Y'':=λi hi=>(h' i (by omega)).trans (h i hi)
theorem AM.puts:∀{Y:Sy} {n:Nat} (l:List AV) (m:Nat),m<=n->AM m Y (Y.puts n l)
 |Y,n,[],m,h=>λ_ _=>rfl
 |Y,n,a::r,m,h=>λi hi=>by have:=AM.puts (Y:=Y.put n a) (n:=n+1) r m (by omega) i hi;exact this.trans (Sy.put_ne _ _ (by omega))
theorem AM.put {Y:Sy} {n:Nat} (a:AV) {m:Nat} (h:m<=n):AM m Y (Y.put n a):=λi hi=>Sy.put_ne _ _ (by omega)
variable [Gl]
def Ja:AV->Bool
 | .nsl=>true
 |_=>false
omit [Gl]in
def TE {D:Bg} (h:Ru D=true):D=[]:=by
 cases D with
 |nil=>rfl
 |cons _ _=>cases h
def Va (m:MR) (E:Ag) (Y:Sy) (bim:Nat->Nat->Option Value):Ag where
 φ id:=match CR m.ds id with
   |some d=>match Ja (Ap E.sy d.x)with
    |true=>none
    |false=>match d.act with
     |some i=>E.φ i
     |none=>none
   |none=>match BQ m.rn id with
    |some a=>E.φ a
    |none=>none
 sz:=E.sz
 imm:=E.imm
 res id:=(∃d,CR m.ds id=some d/\Ja (Ap E.sy d.x)=true)\/∃a,CR m.ds id=none/\BQ m.rn id=some a/\E.vd a
 bim:=bim
 sy:=Y.v
 syl:=Y.l
 vd id:=(∃d,CR m.ds id=some d/\Ja (Ap E.sy d.x)=true)\/∃a,CR m.ds id=none/\BQ m.rn id=some a/\E.vd a
def Hl (m:MR) (own:Nat->Option Nat):Nat->Option Nat:=λb=>match own b with
 |some i=>BQ m.inv i
 |none=>none
omit [Gl]in
theorem d8 {x:AV} (hx:x≠ .nsl):Ja x=false:=by cases x<;>first|rfl|exact absurd rfl hx
structure Ph (n:Nat) (tp:BE) (T:Tm) (E E':Ag) (own:Nat->Option Nat) (w:World) (m:MR):Prop where
 len:(Am E.sy m.hv).length=tp.nv
 slots:∀tmps:Array Value,(∀t,t<512->Ac E (An T t) (tmps.getD t undef))->∀t,t<512->Ac E' (An (Fx n tp.slots) t) (tmps.getD t undef)
 rows:∀id k,(tp.heap n).get id=some k->Bz E' w (Hl m own) id k
 fresh:∀id,tp.next<=id->E'.φ id=none
 vd:∀id,E'.vd id->E'.φ id=none/\id<tp.next
 next:tp.next<=A8
 acc:∀d,d∈m.ds->∃t,t∈tp.acc/\t.id=d.id/\t.j=d.j/\Dd d.j m.hv=some d.x
 inj:∀i j a,(BQ m.rn i=some a\/∃d,CR m.ds i=some d/\d.act=some a)->(BQ m.rn j=some a\/∃d,CR m.ds j=some d/\d.act=some a)->i=j
 rnA:∀i a,BQ m.rn i=some a->CR m.ds i=none
 accN:∀d a,d∈m.ds->d.act=some a->Ja (Ap E.sy d.x)=true->E.φ a=none
section
omit [Gl]
def ja {n:Nat} {tp:BE} {T:Tm} {H:AHeap} {m:MR} {Y0:Sy} {E:Ag} {w:World} {own:Nat->Option Nat} (hm:NS n tp T H=some m) (hf:AA Y0 n) (hx:∀i,i<n->E.sy i=Y0.v i) (hok:Ak (Am E.sy m.hv)=true)
  (g1:∀id k,H.get id=some k->Bz E w own id k) (hvd:∀id,E.vd id->E.φ id=none) (bim:Nat->Nat->Option Value):Ph n tp T E (Va m E (Y0.puts n (Am E.sy m.hv)) bim) own w m:=by
 unfold NS at hm;simp only at hm;split at hm;cases hm;rename_i ds hds;split at hm;cases hm;rename_i msl hms;split at hm;cases hm;rename_i hv hh;split at hm
 case h_2=>cases hm
 rename_i hb;cases hm;generalize hrn:aN tp T H=rn at*;obtain ⟨b1,hb⟩:=Aq hb;obtain ⟨b2,hb⟩:=Aq hb;obtain ⟨b3,hb⟩:=Aq hb;obtain ⟨b4,hb⟩:=Aq hb;obtain ⟨b5,hb⟩:=Aq hb;obtain ⟨b6,hb⟩:=Aq hb;obtain ⟨b7,hb⟩:=Aq hb;obtain ⟨b8,b9⟩:=Aq hb;have hN:=dU b4;have hmap:=cT tp.maps b7;have hrow:=cw tp.rows b5;have hacc:=cr b6;have hfix:=pD tp.fix b8;have b9:=Nat.le_of_ble_eq_true b9
 let Y':=Y0.puts n (Am E.sy hv)
 let E':Ag:=Va ⟨rn,ds,hv⟩ E Y' bim
 have hphiN:∀id a,BQ rn id=some a->E'.φ id=E.φ a:=λid a h=>by
  show (match CR ds id with
   |some d=>_
   |none=>match BQ rn id with
    |some a=>E.φ a
    |none=>none)=_
  rw [(hN id a (Hg h)).2.2.2,h]
 have hme:GF H ds rn hv n E E':={
  phi:=hphiN
  sz:=rfl
  imm:=rfl
  low:=λi hi=>by rw [hx i hi];exact AM.puts (Am E.sy hv) n (Nat.le_refl n) i hi
  hole:=λj x hj=>by rw [LZ]at hj;have h1:=V7 b1 j x hj;have h2:=Pw E.sy hv j x hj;exact ⟨h1,Gj (Am E.sy hv) hf j _ h2,Fn (J1 hok _ (List.mem_of_getElem? h2))⟩
  acc:=λid d i h1 h2 h3=>by
   show (match CR ds id with
    |some d=>match Ja (Ap E.sy d.x)with
     |true=>none
     |false=>match d.act with
      |some i=>E.φ i
      |none=>none
    |none=>_)=_
   grind [d8]
  val:=λid d h=>(hacc d (Ji h).1).2.2.1 }
 have hconC:∀id d i,CR ds id=some d->d.act=some i->Ap E.sy d.x≠ .nsl->∃b o,E.φ i=some (b,o)/\own b=some i/\BlkAt E' w b o (.syl (n+d.j)):=by
  intro id d i h1 h2 h3;have hdm:=(Ji h1).1;obtain ⟨_,_,hval,_⟩:=hacc d hdm;obtain ⟨hs1,hs2,hs3⟩:=hme.hole _ _ hval;obtain ⟨t,a',_,_,_,_,ha2⟩:=RK hds d hdm;have hxok:okC (Ap E.sy d.x)=true:=by rw [LZ]at hval;exact J1 hok _ (List.mem_of_getElem? (Pw E.sy hv d.j d.x hval))
  rw [h2]at ha2;unfold KN at ha2;split at ha2;simp at ha2
  .split at ha2
   .rename_i k hk;split at ha2
    .rename_i hbb;simp only [A2,Prod.mk.injEq]at ha2;obtain ⟨hdx,rfl⟩:=ha2;obtain ⟨e1,e2⟩:=Aq hbb;have e1:=za' e1;subst e1;obtain ⟨_,hv2⟩|⟨b,o,q1,q2,len,sz'',cs,q3,q4,arr,t',q5,q6,q7,q8⟩:=g1 _ _ hk
     .have hv2:E.sy k=some .nsl:=hv2
      grind [Ap]
     .refine ⟨b,o,q1,q2,len,sz'',cs,?_,q4,arr,t',q5,q6,q7,λq x hq=>?_⟩
      .grind [Ap]
      obtain ⟨u,k1,k2,k3⟩:=q8 q x hq;exact ⟨u,k1,k2,hme.con0 k3⟩
    cases ha2
   cases ha2
  .rename_i id' off len sz' cap _;split at ha2
   .rename_i cs0 hk;split at ha2
    case h_2=>cases ha2
    rename_i cs htk;have htk2:=(Ju htk).1;split at ha2
    .rename_i hbb;simp only [A2,Prod.mk.injEq]at ha2;obtain ⟨hdx,rfl⟩:=ha2;obtain ⟨e1,hbb⟩:=Aq hbb;obtain ⟨e2,hbb⟩:=Aq hbb;obtain ⟨e3,hbb⟩:=Aq hbb;obtain ⟨e4,hbb⟩:=Aq hbb;obtain ⟨e5,e6⟩:=Aq hbb;have e4:=za' e4;rw [BW]at e4;obtain ⟨_,hv2⟩|⟨b,o,q1,q2,arr,t',q5,q6,q7,q8⟩:=g1 _ _ hk;exact hv2.elim
     .rw [←hdx]at hxok
      refine ⟨b,o,q1,q2,len,d.sz,Am E.sy cs,?_,by rw [Ld];exact e4,arr,t',q5,q6,by
       rw [Ld,htk2,List.length_take];omega,λq x hq=>?_⟩
      rw [hs2,←hdx];rfl
      .rw [Lk]at hq;cases hcq:cs[q]? with
       |none=>grind
       |some y=>
        rw [hcq]at hq;simp only [Option.map_some,A2]at hq;subst hq;have hcq0:cs0[q]? =some y:=by
         grind
        obtain ⟨u,k1,k2⟩:=q8 q y hcq0;have hmem2:(Am E.sy cs)[q]? =some (Ap E.sy y):=(by rw [Lk,hcq];rfl);exact ⟨u,k1,Fn (J1 hxok _ (List.mem_of_getElem? hmem2)),hme.con0 (C7 (V7 e5 q y hcq) k2)⟩
    cases ha2
   cases ha2
  cases ha2
 have hinvN:∀id a,BQ rn id=some a->BQ (MR.mk rn ds hv).inv a=some id:=λid a h=>(hN id a (Hg h)).2.2.1;have hown:∀b i id,own b=some i->BQ (MR.mk rn ds hv).inv i=some id->Hl ⟨rn,ds,hv⟩ own b=some id:=λb i id h1 h2=>by
  grind [Hl]
 refine { len:=by grind [Ld,ZS],slots:=λtmps hc=>iq hme hc tp.slots b3,rows:=λid k hk=>?_,fresh:=λid hid=>?_,vd:=λid hi=>?_,next:=b9,acc:=λd hd=>?_,inj:=λi j a hi hj=>?_,rnA:=λi a h=>(hN i a (Hg h)).2.2.2,accN:=λd a hd hda AD=>?_ }
 .rcases aM tp.fix (λa b h=>by grind [Hg]) id k hk with ⟨j,hj,rfl⟩|hk
  .obtain ⟨a,k',ha,hk,hj⟩:=hfix id j hj;have hphi:=hphiN id a ha;have hs:∀i',H.get a=some (.syl i')->(∀x,E.sy i'=some x->E'.sy (IX n j)=some x)->Bz E' w (Hl ⟨rn,ds,hv⟩ own) id (.syl (IX n j)):=λi' hk hsj=>(by obtain ⟨hv1,hv2⟩|⟨b,o,e1,e2,len,sz,cs,e3,e4,arr,t,e5,e6,e7,e8⟩:=g1 a _ hk;exact .inl ⟨.inr ⟨a,(hN id a (Hg ha)).2.2.2,ha,hv1⟩,hsj _ hv2⟩;exact .inr ⟨b,o,hphi.trans e1,hown _ _ _ e2 (hinvN _ _ ha),len,sz,cs,hsj _ e3,e4,arr,t,e5,e6,e7,λi x hi=>by obtain ⟨u,k1,k2,k3⟩:=e8 i x hi;exact ⟨u,k1,k2,hme.con0 k3⟩⟩);cases hj with
   |old hlt=>exact hs _ hk λx hx=>by rw [hme.low _ hlt,hx]
   |sym q i' e hq=>
    obtain ⟨_,h2,_⟩:=hme.hole _ _ hq
    grind [Ap]
   |cells q len z cs e hq hl hso=>
    obtain ⟨_,h2,_⟩:=hme.hole _ _ hq;have hxok:Ak (Am E.sy cs)=true:=by
     rw [LZ]at hq;have:=J1 hok _ (List.mem_of_getElem? (Pw E.sy hv q _ hq))
     grind [Ap,okC]
    obtain ⟨_,hv2⟩|⟨b,o,e1,e2,arr,t',q5,q6,q7,q8⟩:=g1 _ _ hk;exact hv2.elim
    .refine .inr ⟨b,o,hphi.trans e1,hown _ _ _ e2 (hinvN _ _ ha),len,z,Am E.sy cs,by rw [e,h2];rfl,by rw [Ld];exact hl,arr,t',q5,q6,by rw [Ld];exact q7,λq x hq=>?_⟩;rw [Lk]at hq;cases hcq:cs[q]? with
     |none=>grind
     |some y=>rw [hcq]at hq;simp only [Option.map_some,A2]at hq;subst hq;obtain ⟨u,k1,k2⟩:=q8 q y hcq;have hmem2:(Am E.sy cs)[q]? =some (Ap E.sy y):=(by rw [Lk,hcq];rfl);exact ⟨u,k1,Fn (J1 hxok _ (List.mem_of_getElem? hmem2)),hme.con0 (C7 (V7 hso q y hcq) k2)⟩
  rcases XY tp.maps (λa b h=>by grind [Hg]) id k hk with ⟨j,hj,rfl⟩|hk;obtain ⟨a,x,ha,hx',hval⟩:=hmap id j hj;obtain ⟨hs1,hs2,_⟩:=hme.hole _ _ hval;have hphi:=hphiN id a ha;unfold SU at hx';split at hx';rename_i es clock hk;split at hx';rename_i hso;cases hx';obtain ⟨_,hv2⟩|⟨b,o,e1,e2,e0,es',e3,e4⟩:=g1 a _ hk;exact hv2.elim;refine .inr ⟨b,o,hphi.trans e1,hown _ _ _ e2 (hinvN _ _ ha),e0,Kb es,Am E.sy (B7 es),by rw [hs2];rfl,es',clock,e3,?_,(YX (Aq hso).1 (Aq hso).2 e4).imp λ_ _ hc=>hme.con0 hc⟩;rw [XL e4,Array.length_toList];cases hx';rename_i i hk;cases hx';obtain ⟨_,hv2⟩|⟨b,o,e1,e2,e0,n',cs',f3,es',c0,f4,f5,f6⟩:=g1 a _ hk;exact hv2.elim;exact .inr ⟨b,o,hphi.trans e1,hown _ _ _ e2 (hinvN _ _ ha),e0,n',cs',by grind [Ap],es',c0,f4,f5,f6.imp λ_ _ hc=>hme.con0 hc⟩;cases hx';rcases cp hds (λd hd=>(hacc d hd).2.1) id k hk with ⟨hfn,hk⟩|⟨d,hd,rfl⟩
  .obtain ⟨cs,h1,rfl⟩:=WA tp.rows (λa b h=>by grind [Hg]) id k hk;obtain ⟨a,l,ha,h3,h4⟩:=hrow id cs h1;obtain ⟨_,hv2⟩|⟨b,o,e1,e2,arr,t,e3,e4,e5,e6⟩:=g1 a _ h3;exact hv2.elim;refine .inr ⟨b,o,(hphiN id a ha).trans e1,hown _ _ _ e2 (hinvN _ _ ha),arr,t,e3,e4,?_,λi x hx'=>?_⟩
   .grind [SH,nD]
   .have hL:Ah E l ((arr.toList.drop o).take l.length):=by
      grind [Ah.of_at]
    obtain ⟨u,f1,f2⟩:=(MY hme h4 hL).at i x hx'
    grind
  .obtain ⟨hdm,hdi⟩:=Ji hd;obtain ⟨_,_,hval,hin⟩:=hacc d hdm;obtain ⟨_,hs2,_⟩:=hme.hole _ _ hval;by_cases AD:Ap E.sy d.x=.nsl
   .refine .inl ⟨.inl ⟨d,hd,by rw [AD];rfl⟩,?_⟩;show E'.sy (n+d.j)=some .nsl
    grind
   .obtain ⟨t,a',_,_,_,_,ha2⟩:=RK hds d hdm;have hact:∃i,d.act=some i:=by
     cases hact:d.act with
     |some i=>simp
     |none=>unfold KN at ha2;split at ha2;simp only [A2,Prod.mk.injEq]at ha2;exact absurd (by rw [←ha2.1];rfl) AD;all_goals grind
    obtain ⟨i,hi⟩:=hact;obtain ⟨b,o,q1,q2,q3⟩:=hconC id d i hd hi AD;exact .inr ⟨b,o,(hme.acc id d i hd hi AD).trans q1,hown _ _ _ q2 (by grind),q3⟩
 .show (match CR ds id with
    |some d=>_
    |none=>match BQ rn id with
     |some a=>E.φ a
     |none=>none)=none
  grind [Ji,Hg]
 .rcases hi with ⟨d,hd,hdn⟩|⟨a,hfa,ha,hva⟩
  .obtain ⟨hdm,hdi⟩:=Ji hd;refine ⟨?_,by grind⟩;show (match CR ds id with
    |some d=>match Ja (Ap E.sy d.x)with
     |true=>none
     |false=>match d.act with
      |some i=>E.φ i
      |none=>none
    |none=>_)=none
   grind
  grind [Hg]
 .grind [RK]
 .grind [Ji]
 .obtain ⟨t,a',_,_,_,_,ha2⟩:=RK hds d hd;rw [hda]at ha2;unfold KN at ha2;split at ha2;simp at ha2
  .split at ha2
   .rename_i k hk;split at ha2
    .rename_i hbb;simp only [A2,Prod.mk.injEq]at ha2;obtain ⟨hdx,rfl⟩:=ha2;have e1:=za' (Aq hbb).1;subst e1;rcases g1 _ _ hk with ⟨q1,_⟩|⟨b,o,q1,q2,len,sz'',cs,q3,_⟩
     .grind
     rw [←hdx]at AD;simp only [Ap,q3]at AD;cases AD
    cases ha2
   cases ha2
  .split at ha2
   .split at ha2
    case h_2=>cases ha2
    split at ha2;simp only [A2,Prod.mk.injEq]at ha2;rw [←ha2.1]at AD;cases AD;cases ha2
   cases ha2
  cases ha2
def kI {ds:List DA} {rn:List (Nat×Nat)}:∀{k:Nat},Xk ds rn k=true->∀i,i<k->BQ rn i=some i\/(BQ rn i=none/\∃d,CR ds i=some d/\d.act=some i)
 |0,_,i,hi=>absurd hi (Nat.not_lt_zero _)
 |k+1,h,i,hi=>by obtain ⟨h1,h2⟩:=Aq h;rcases Nat.lt_or_ge i k with hlt|hge;exact kI h2 i hlt;have:i=k:=(by omega);subst this;split at h1;rename_i a ha;rw [AE h1]at ha;exact .inl ha;rename_i hn;split at h1;rename_i d hd;exact .inr ⟨hn,d,hd,K8 h1⟩;cases h1
def kM {k:Nat} {hv:List AV}:∀{ts:List TA} {l:List Nat},VN k hv ts=some l->∀t,t∈ts->t.id<k->(∃i,Dd t.j hv=some (.sym i)/\i∈l)\/∃n z cs,Dd t.j hv=some (.vsl n z cs)
 |[],l,h,t,ht,_=>by cases ht
 |q::r,l,h,t,ht,hk=>by
  unfold VN at h;split at h;cases h;rename_i l' hl;rcases List.mem_cons.1 ht with rfl|ht
  .grind [zd']
  have ih:=kM hl t ht hk;split at h;cases h;exact ih;split at h;cases h;exact ih.imp (λ⟨i,h1,h2⟩=>⟨i,h1,zb' _ h2⟩) id;cases h;exact ih;cases h
end
def wD {P:Program} {N n lv k:Nat} {tp:BE} {S:VS} {mt:MT} {Y0 Y:Sy} (hm:Oc n k tp S=some mt) (hf:AA Y0 n) (hx:AM n Y0 Y) (hok:Ak (Am Y.v mt.hv)=true) (hnn:∀i,i∈mt.nn->(DF.nn i).ok Y):
  (Am Y.v mt.hv).length=tp.nv/\AY P N k Y S.T S.H S.D (Y0.puts n (Am Y.v mt.hv)) (tp.inst n lv).T (tp.inst n lv).H []:=by
 unfold Oc at hm;split at hm;cases hm;rename_i b0;split at hm;cases hm;rename_i m hmr;split at hm;cases hm;rename_i hlow;split at hm;cases hm;rename_i nl hnl;cases hm;have hD:=TE b0;rw [hD];have hlen:(Am Y.v m.hv).length=tp.nv:=by
  grind [NS,Ld,ZS]
 refine ⟨hlen,λB pr E a w hy st=>?_⟩;have hsyE:E.sy=Y.v:=hy.v;obtain ⟨own,g1,g2,g3⟩:=st.r.own;have hc:=ja (w:=w) (own:=own) hmr hf (λi hi=>by rw [hsyE];exact hx i hi) (by grind) g1 (λid h=>(st.r.resv id (st.r.vds id h)).1) E.bim;rw [hsyE]at hc;obtain ⟨p1,p2,p3,p4⟩:=hf.puts (Am Y.v m.hv)
 let E':Ag:=Va m E (Y0.puts n (Am Y.v m.hv)) E.bim
 have hphi:∀i x,i<k->E.φ i=some x->E'.φ i=some x:=λi x hi hφ=>by
  rcases kI hlow i hi with h|⟨h,d,hd,hda⟩
  .have:=hc.rnA i i h;show (match CR m.ds i with
    |some d=>_
    |none=>match BQ m.rn i with
     |some a=>E.φ a
     |none=>none)=_
   grind
  .obtain ⟨hdm,hdi⟩:=Ji hd;obtain ⟨t,t1,t2,t3,t4⟩:=hc.acc d hdm;have hne:Ap E.sy d.x≠ .nsl:=by
    rcases kM hnl t t1 (by omega)with ⟨i',q1,q2⟩|⟨a1,a2,a3,q1⟩
    .obtain ⟨a1,a2,a3,q3⟩:=hnn i' q2
     grind [Ap]
    grind [Ap]
   show (match CR m.ds i with
    |some d=>match Ja (Ap E.sy d.x)with
     |true=>none
     |false=>match d.act with
      |some i=>E.φ i
      |none=>none
    |none=>_)=_
   grind [d8]
 have hle:E.leF k E':=⟨λi x hi h=>hphi i x hi h,λ_ _ h=>h,λ_ _ _ h=>h,rfl,λi hi=>by rw [hsyE,hx i (by have:=hf.1;omega)];exact p4 i hi⟩;refine ⟨E',hle,⟨rfl,rfl,λ_ h=>h⟩,⟨st.t.size,st.t.le,hc.slots a.tmps st.t.con,st.t.gl.leF hle⟩,?_,st.d⟩;obtain ⟨n1,n2⟩:=BE.heap_next tp n;refine { own:=⟨Hl m own,hc.rows,λb hb=>by grind [Hl],λb o v hv=>by unfold Hl;simp only [g3 b o v hv]⟩,imm:=st.r.imm,ib:=st.r.ib,fresh:=λid h1 h2=>hc.fresh id (n1▸h1),resv:=λid hi=>?_,vds:=λ_ h=>h,szs:=st.r.szs,prot:=st.r.prot,size:=st.r.size,os:=st.r.os,output:=st.r.output };obtain ⟨h1,h2⟩:=hc.vd id hi;refine ⟨h1,λhx=>?_⟩;have:(tp.heap n).next<=id:=hx.1
 omega
end Go.Sx
