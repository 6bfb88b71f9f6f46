/-
  A symbol as a number, a number as a value: short names for trees.
-/
import Derived.Test.YtijpblconliffaaGreatDoorSyK
import Derived.Test.YtijpblconliffaaGreatDoorRows
import Derived.KernelRfl
import Derived.Test.YtijpblconliffaaGreatDoorSyD
namespace Go.Proofs.YtijpblconliffaaGreatDoor.vars
open Go Go.Sx
instance symN (n:Nat):OfNat AV n:=⟨.sym n⟩
abbrev J (n:Int):AV:=.int .i64 n
abbrev K (o:XOp) (a:List AV) (i:Nat) (t:VT):VT:=.lt o a i none t
abbrev Q0:XOp:=.bin .add 3 false true
abbrev Li (o:XOp) (a:List AV) (n:Nat) (t:VT):VT:=.lt o a n none t
abbrev It (o:XOp) (a:List AV) (n:Nat) (A B:VT):VT:=.lt o a n none (.ite n A B)
abbrev Iq (i:Nat) (k:Int) (n:Nat) (A B:VT):VT:=.lt Q0 [.sym i,J k] n none (.ite n A B)
abbrev Dn (l:List AV):VT:=.done (.tup (J 0::l))
abbrev Cf (f:FuncId) (t:FT) (h:List AV) (n k:Nat) (b:VT):VT:=.callF f t h n (.cons k b .nil)
abbrev Q1:XOp:=.bin .eql 3 false true
abbrev Q2:XOp:=.bin .lss 3 false false
abbrev Q3:XOp:=.bin .neq 3 false false
abbrev Q4:XOp:=.load 3
abbrev Q5:XOp:=.load 9
abbrev Q6:XOp:=.un .not
abbrev Q7:XOp:=.len 87
abbrev Q8:XOp:=.iaddr 47
abbrev Q9:XOp:=.iaddr 87
abbrev Qa:XOp:=.len 47
abbrev Qb:XOp:=.len 42
abbrev Qc:XOp:=.bin .mul 3 false true
abbrev Qd:XOp:=.app 12 128
abbrev Qe:XOp:=.iaddr 52
abbrev Qf:XOp:=.bin .lss 3 false true
abbrev Qg:XOp:=.iaddr 42
abbrev Qh:XOp:=.len 43
abbrev Qi:XOp:=.iaddr 26
abbrev Qj:XOp:=.len 52
abbrev Qk:XOp:=.bin .gtr 3 false true
abbrev Ql:XOp:=.bin .neq 3 false true
abbrev Qm:XOp:=.app 3 24
abbrev Qn:XOp:=.bin .geq 3 false true
abbrev Qo:XOp:=.len 26
abbrev Qp:XOp:=.load 91
abbrev Qq:XOp:=.bin .neq 27 false true
abbrev Qr:XOp:=.bin .eql 3 false false
abbrev Qs:XOp:=.app 1 16
abbrev Qt:XOp:=.app 15 128
abbrev Qu:XOp:=.load 54
abbrev Qv:XOp:=.app 4 64
abbrev Qx:XOp:=.load 38
abbrev Qy:XOp:=.bin .sub 3 false true
abbrev Qz:XOp:=.faddr 51 1
abbrev Z0:XOp:=.faddr 51 2
abbrev Z1:XOp:=.load 49
abbrev Z2:XOp:=.app 4 40
abbrev Z3:XOp:=.faddr 91 1
abbrev Z4:XOp:=.faddr 54 1
abbrev Z5:XOp:=.faddr 51 0
abbrev Z6:XOp:=.faddr 91 3
abbrev Z7:XOp:=.iaddr 43
abbrev Z8:XOp:=.bin .neq 2 false false
abbrev Z9:XOp:=.bin .neq 4 false false
abbrev Zb:XOp:=.ldx 100 15 0
abbrev Zc:XOp:=.bin .eql 9 false false
abbrev Zd:XOp:=.bin .geq 3 false false
abbrev Ze:XOp:=.slc 87 true true
abbrev Zf:XOp:=.faddr 38 0
abbrev Zh:XOp:=.conv 5 3
abbrev Zi:XOp:=.bin .add 3 false false
abbrev Zk:XOp:=.load 100
abbrev Zn:XOp:=.bin .gtr 3 false false
abbrev Zo:XOp:=.bin .lss 2 false true
abbrev Zp:XOp:=.slc 42 true false
abbrev Zq:XOp:=.bin .leq 3 false false
abbrev Zu:XOp:=.bin .rem 5 false true
abbrev Zv:XOp:=.bin .sub 3 false false
abbrev Zy:XOp:=.bin .eql 4 false false
end Go.Proofs.YtijpblconliffaaGreatDoor.vars
set_option linter.unusedVariables false
namespace Go.Proofs.YtijpblconliffaaGreatDoor.vars
open Go Go.Sx
def hs:Nat->Nat->List AV
 |_,0=>[]
 |j,n+1=>.slx j 0 0::hs (j+1) n
def pk (a b:AV):Nat×List AV:=(0,[a,b])
def ftC (w:Nat):FT:=⟨0,⟨[(0,.slx 0 0 0)],[],0,1,[],[],[]⟩,[(false,⟨[(0,.slx 0 w 0)],[],1,1,[⟨0,w,0,0,none⟩],[],[]⟩)]⟩
def vw_:FT:=ftC 15
def sx_:FT:=ftC 12
def sQ_:FT:=ftC 4
def sess:AV:=.agg (hs 0 5++[.slx 0 12 5,.slx 1 15 6,.slx 7 0 0])
def ftS (sl:List (Nat×AV)) (nv:Nat):FT:=⟨0,⟨sl,[],0,nv,[],[],[]⟩,[(false,⟨[(0,sess)],[],2,8,[⟨0,12,5,600,some 5⟩,⟨1,15,6,600,some 6⟩],[],[]⟩)]⟩
def vR_:FT:=ftS [(0,.agg (hs 0 8))] 8
def wd_:FT:=ftS [(0,.agg (hs 0 8)),(1,.slx 8 0 0),(2,.slx 9 0 0)] 10
def wc_:FT:=vR_
def u4_ (r:Nat):List AV:=hs 0 20++[.slx 1 12 20,.slx r 15 21]++hs 22 3
def vL_:List AV:=aj_ 64 20++[.ptx 1 84 12 0,.ptx 2 85 15 0]++aj_ 86 3
def why:AV:=.iface 178 (.agg [.slx 0 0 0])
def ftV (sl:List (Nat×AV)) (nv:Nat) (exs:List (Bool×Nat×AV)):FT:=⟨3,⟨(0,.ptr 0 0)::sl,[(0,u4_ 2)],3,nv+25,[⟨1,12,20,0,some 20⟩,⟨2,15,21,0,some 21⟩],[],[]⟩,
 exs.map λ(b,n,a)=>(b,⟨[(0,a)],[(0,vL_)],3,n,[],[],[(1,84),(2,85)]⟩)⟩
def uu_:FT:=ftV [(1,.agg (hs 25 12))] 12 [(false,1,.slx 0 0 0),(true,1,why)]
def vx_:FT:=uu_
def wg_:FT:=ftV [(1,.agg (hs 25 4))] 4 [(false,3,.agg (hs 0 3))]
def wh_:FT:=ftV [(1,.agg (hs 25 4))] 4 [(false,1,.slx 0 0 0)]
def wu_ (id:AV):List AV:=[.int .i64 6,id,.int .i64 0,.int .i64 0,.int .i64 0,.bool false,.int .i64 0,.int .i64 0,.int .i64 0,.flt .f64 0,.nsl,.nsl]
def ftA (k:Nat) (exs:List (Bool×Tpl)):FT:=⟨4,⟨[(0,.ptr 0 0),(1,.agg (hs 25 12)),(2,.ptr 3 0)],[(0,u4_ 2),(3,wu_ (.slx 37 0 0))],4,38,[⟨1,12,20,0,some 20⟩,⟨2,15,21,0,some 21⟩],[],[]⟩,exs⟩
def vf_ (n p v:AV):List AV:=[.int .i64 6,.sym 101,.int .i64 0,n,.int .i64 0,.bool false,.int .i64 0,.int .i64 0,.int .i64 0,.flt .f64 0,p,v]
def exP:Bool×Tpl:=(true,⟨[(0,why)],[(0,vL_),(3,vf_ (.int .i64 0) .nsl .nsl)],4,1,[],[],[(1,84),(2,85)]⟩)
def we_:FT:=ftA 0 [(false,⟨[(0,.tup [])],[(0,vL_),(3,vf_ (.int .i64 0) .nsl (.slx 4 3 0))],5,1,[⟨4,3,0,3,some 11⟩],[],[(1,84),(2,85)]⟩),exP]
def wf_:FT:=ftA 0 [(false,⟨[(0,.tup [])],[(0,vL_),(3,vf_ (.slx 0 0 0) (.slx 4 1 1) .nsl)],5,2,[⟨4,1,1,3,some 10⟩],[],[(1,84),(2,85)]⟩),exP]
def v0_ (r:Nat):List AV:=aj_ 64 20++[.ptx 1 84 12 0,.slx r 15 0,.slx 1 0 0]++aj_ 87 2
def ft55:FT:=⟨3,⟨[(0,.ptr 0 0),(1,.agg (hs 25 12)),(2,.ptr 2 0)],[(0,u4_ 3),(2,wu_ (.slx 37 0 0))],4,38,[⟨1,12,20,0,some 20⟩,⟨3,15,21,0,some 21⟩],[],[]⟩,
 [(false,⟨[(0,.tup [])],[(0,v0_ 3),(2,vf_ (.slx 2 0 0) .nsl .nsl)],4,3,[⟨3,15,0,0,some 21⟩],[],[(1,84)]⟩),(true,⟨[(0,.iface 178 (.agg [.slx 2 0 0]))],[(0,v0_ 3),(2,vf_ (.int .i64 0) .nsl .nsl)],4,3,[⟨3,15,0,0,some 21⟩],[],[(1,84)]⟩)]⟩
def ft56:FT:=⟨2,⟨[(0,.ptr 0 0),(1,.agg (hs 25 12))],[(0,u4_ 2)],3,37,[⟨1,12,20,0,some 20⟩,⟨2,15,21,0,some 21⟩],[],[]⟩,
 [(false,⟨[(0,.tup [])],[(0,v0_ 2)],3,2,[⟨2,15,0,0,some 21⟩],[],[(1,84)]⟩),(true,⟨[(0,.iface 178 (.agg [.slx 2 0 0]))],[(0,v0_ 2)],3,3,[⟨2,15,0,0,some 21⟩],[],[(1,84)]⟩)]⟩
def ft99:FT:=⟨1,⟨[(0,.slx 0 15 0),(1,.slx 1 0 0)],[],1,2,[⟨0,15,0,0,none⟩],[],[]⟩,[(false,⟨[(0,.slx 0 0 0)],[],1,1,[],[],[(0,64)]⟩)]⟩
def ft101:FT:=⟨0,⟨[(0,.slx 0 15 0),(1,.slx 1 0 0),(2,.slx 2 0 0)],[],1,3,[⟨0,15,0,0,none⟩],[],[]⟩,[(false,⟨[(0,.slx 0 15 0)],[],1,1,[⟨0,15,0,0,none⟩],[],[]⟩)]⟩
def xW_:List AV:=aj_ 64 20++[.ptx 1 84 12 0,.ptx 2 85 15 0,.sym 86,.slx 0 0 0,.sym 88]
def ft53:FT:=⟨3,⟨[(0,.ptr 0 0),(1,.agg (hs 25 12))],[(0,u4_ 2)],3,37,[⟨1,12,20,0,some 20⟩,⟨2,15,21,0,some 21⟩],[],[]⟩,
 [(false,⟨[(0,.tup [])],[(0,xW_)],3,1,[],[],[(1,84),(2,85)]⟩),(true,⟨[(0,why)],[(0,vL_)],3,1,[],[],[(1,84),(2,85)]⟩)]⟩
def xV_:List AV:=aj_ 64 20++[.ptx 1 84 12 0,.slx 2 15 0,.slx 1 0 0,.slx 2 0 0,.sym 88]
def ft27:FT:=⟨2,⟨[(0,.ptr 0 0),(1,.agg (hs 25 12))],[(0,u4_ 2)],3,37,[⟨1,12,20,0,some 20⟩,⟨2,15,21,0,some 21⟩],[],[]⟩,
 [(false,⟨[(0,.tup [.agg (hs 3 12),.slx 15 0 0])],[(0,xV_)],3,16,[⟨2,15,0,0,some 21⟩],[],[(1,84)]⟩)]⟩
def VARS:AV:=.vsl 7 10 [.str [97],.int .i64 1,.int .i64 2,.int .i64 0,.int .i64 2,.int .i64 0,.flt .f64 0,.int .i64 0,.int .i64 0,.flt .f64 0,.str [98],.int .i64 1,.int .i64 1,.int .i64 0,.int .i64 1,.int .i64 0,.flt .f64 0,.int .i64 0,.int .i64 0,.flt .f64 0,.str [111],.int .i64 2,.int .i64 2,.int .i64 0,.int .i64 2,.int .i64 1,.flt .f64 0,.int .i64 2,.int .i64 9,.flt .f64 0,.str [110],.int .i64 3,.int .i64 2,.int .i64 0,.int .i64 2,.int .i64 0,.flt .f64 0,.int .i64 0,.int .i64 0,.flt .f64 0,.str [120],.int .i64 3,.int .i64 2,.int .i64 0,.int .i64 2,.int .i64 0,.flt .f64 0,.int .i64 0,.int .i64 0,.flt .f64 0,.str [114],.int .i64 3,.int .i64 5,.int .i64 0,.int .i64 5,.int .i64 0,.flt .f64 0,.int .i64 0,.int .i64 0,.flt .f64 0,.str [107],.int .i64 3,.int .i64 2,.int .i64 3,.int .i64 2,.int .i64 0,.flt .f64 0,.int .i64 0,.int .i64 0,.flt .f64 0]
end Go.Proofs.YtijpblconliffaaGreatDoor.vars
set_option maxRecDepth 100000
set_option linter.unusedVariables false
set_option linter.unusedSimpArgs false
namespace Go.Proofs.YtijpblconliffaaGreatDoor.vars
open Go Go.Sx
instance gI:Gl:=glT gl0 nr0 []
theorem mo:Tryz.prog.follows .mixedOrders=true:=by kernel_rfl
theorem ov:kC_ Tryz.prog:=vA_ gl0 nr0 _
theorem a_ {P:Program} {Q:AV->Prop} {L:List (Nat->List AV->Prop)} {Y:Sy} {f:FuncId} {ft:FT} {hv vs:List AV} {n:Nat} {bs:VTs} {R:Nat->List AV->Prop} (h1:CF P f ft vs R) (h0:ab_ Y.v hv=vs) (h2:okL vs=true) (h3:sb_ P Q R L (Y.puts n vs) (Nat.add n ft.ent.nv) 0 bs):VOK P Q L Y (.callF f ft hv n bs):=by subst h0;exact uo_ h1 h2 h3
theorem dT {p:Prop} [Decidable p] (h:decide p=true):p:=of_decide_eq_true h
theorem dF {p:Prop} [Decidable p] (h:decide p=false):¬p:=of_decide_eq_false h
theorem e_ {x y:Int} {t:TypeId} {cx cy:Bool} (h1: -9223372036854775807<=x+y) (h2:x+y<=9223372036854775807):(XOp.bin .add t cx cy).run Tryz.prog [.int .i64 x,.int .i64 y]=some (.int .i64 (x+y)):=by rw [run_add,vE_ (by omega) (by omega)]
theorem h_ {t:TypeId} {cx cy:Bool} {e:Int}:(XOp.bin .neq t cx cy).run Tryz.prog [.int .i64 e,.int .i64 e]=some (.bool false):=by rw [run_neq,decide_eq_true rfl];rfl
theorem r_ {cs:List AV} (h:okL cs=true):aX_ (.agg cs)=true:=kk_ (a:=.agg cs) h
theorem vU_ {a b:AV} (ha:aX_ a=true) (hb:aX_ b=true):aX_ (.tup [a,b])=true:=by simp only [aX_,cA_,ha,hb]
theorem ul_ {α:Type} {enc:α->List AV} {w b:Nat} (hw:∀a,(enc a).length=w) (hwp:0<w) (hb:0<b) {l:List α} {x:AV} (h:SlV enc w l x) (hl:l.length*b<=1073741824):(XOp.app w b).run Tryz.prog [.vsl 0 w [],x]=some (dp_ enc w l):=by
 have ha:bl_ w x=some (l.length,bq_ enc l):=h.arg hw;show (match bl_ w x with|some (n,l')=>gu_ w b (.vsl 0 w []) n l'|none=>none)=_;rw [ha];show gu_ w b (.vsl 0 w []) l.length (bq_ enc l)=_;have h1:(bq_ enc l).length=l.length*w:=bC_ hw l;have hl1:l.length<=1073741824:=Nat.le_trans (Nat.le_mul_of_pos_right _ hb) hl;unfold gu_;simp only [h1,decide_true,List.length_nil,Nat.zero_mul,and_self];cases l with
 |nil=>rfl
 |cons c r=>have c1:(Nat.ble (Nat.mul (Nat.add 0 (r.length+1)) b) 1073741824&&Nat.ble (Nat.add 0 (r.length+1)) 1073741824&&Nat.blt 0 b)=true:=(by have e:Nat.mul (Nat.add 0 (r.length+1)) b=(r.length+1)*b:=(by show (0+(r.length+1))*b=_;rw [Nat.zero_add]);have e2:Nat.add 0 (r.length+1)=r.length+1:=Nat.zero_add _;have e3:Nat.blt 0 b=true:=(by rw [Nat.blt_eq];exact hb);rw [e,e2,e3,Nat.ble_eq_true_of_le (show (r.length+1)*b<=1073741824 from hl),Nat.ble_eq_true_of_le (show r.length+1<=1073741824 from hl1)];rfl);simp only [List.length_cons,c1];show some (AV.vsl (Nat.add 0 (r.length+1)) w ([]++bq_ enc (c::r)))=_;rw [show Nat.add 0 (r.length+1)=r.length+1 from Nat.zero_add _,List.nil_append];rfl
structure FV where
 k:Int
 i:Int
 f:Option Nat
def fv:Option Nat->AV
 |some n=>.flt .f64 n
 |none=>.nan .f64
theorem vG_ (o:Option Nat):okC (fv o)=true:=by cases o<;>rfl
def FV.z:FV:=⟨0,0,some 0⟩
def f_ (v:FV):List AV:=[.int .i64 v.k,.int .i64 v.i,fv v.f]
theorem uT_ (v:FV):(f_ v).length=3:=rfl
theorem m_ (v:FV):okL (f_ v)=true:=by simp only [f_,okL,okC,vG_]
def q_ (s:List UInt8):List AV:=[.str s]
theorem vz_ (s:List UInt8):(q_ s).length=1:=rfl
theorem okP (s:List UInt8):okL (q_ s)=true:=rfl
def A_ (c:UInt8):List AV:=[.int .u8 (c.toNat:Int)]
theorem wD_ (c:UInt8):(A_ c).length=1:=rfl
theorem R_ (c:UInt8):okL (A_ c)=true:=rfl
def J_ (n:Int):List AV:=[.int .i64 n]
theorem vT_ (n:Int):(J_ n).length=1:=rfl
theorem okI (n:Int):okL (J_ n)=true:=rfl
structure SV {α:Type} (enc:α->List AV) (w:Nat) where
 l:List α
 x:AV
 h:SlV enc w l x
def SV.nil {α:Type} {enc:α->List AV} {w:Nat}:SV enc w:=⟨[],.nsl,.inr ⟨rfl,rfl⟩⟩
def SV.of {α:Type} {enc:α->List AV} {w:Nat} (l:List α):SV enc w:=⟨l,cs_ enc w l,SlV.of l⟩
def SV.v {α:Type} {enc:α->List AV} {w:Nat} (l:List α):SV enc w:=⟨l,dp_ enc w l,SlV.v l⟩
theorem SV.ok {α:Type} {enc:α->List AV} {w:Nat} (s:SV enc w) (h:∀a,okL (enc a)=true):okC s.x=true:=s.h.ok h
structure GM where
 kind:Int
 id:Int
 err:Int
 n:Int
 seq:Int
 lost:Bool
 every:Int
 band:FV
 paths:SV q_ 1
 vals:SV f_ 3
def encM (m:GM):List AV:=[.int .i64 m.kind,.int .i64 m.id,.int .i64 m.err,.int .i64 m.n,.int .i64 m.seq,.bool m.lost,.int .i64 m.every,.int .i64 m.band.k,.int .i64 m.band.i,fv m.band.f,m.paths.x,m.vals.x]
theorem uG_ (m:GM):(encM m).length=12:=rfl
theorem B_ (m:GM):okL (encM m)=true:=by simp only [encM,okL,okC,vG_,m.paths.ok okP,m.vals.ok m_]
def GM.Sm (m:GM):Prop:=m.paths.l.length<=1000/\m.vals.l.length<=1000
structure GT where
 seq:Int
 v:FV
 lost:Bool
def uq_ (t:GT):List AV:=[.int .i64 t.seq,.int .i64 t.v.k,.int .i64 t.v.i,fv t.v.f,.bool t.lost]
theorem xy_ (t:GT):(uq_ t).length=5:=rfl
theorem okT (t:GT):okL (uq_ t)=true:=by simp only [uq_,okL,okC,vG_]
structure GW where
 num:Int
 addr:Int
 every:Int
 due:Int
 band:FV
 most:Int
 has:Bool
 lost:Bool
 last:FV
 seq:Int
 queue:SV uq_ 5
def c_ (w:GW):List AV:=[.int .i64 w.num,.int .i64 w.addr,.int .i64 w.every,.int .i64 w.due,.int .i64 w.band.k,.int .i64 w.band.i,fv w.band.f,.int .i64 w.most,.bool w.has,.bool w.lost,.int .i64 w.last.k,.int .i64 w.last.i,fv w.last.f,.int .i64 w.seq,w.queue.x]
theorem en_ (w:GW):(c_ w).length=15:=rfl
theorem T_ (w:GW):okL (c_ w)=true:=by simp only [c_,okL,okC,vG_,w.queue.ok okT]
def GW.Sm (w:GW):Prop:=w.queue.l.length<=1000
structure GR where
 sess:Int
 id:Int
 addrs:SV J_ 1
 vals:SV f_ 3
def encR (r:GR):List AV:=[.int .i64 r.sess,.int .i64 r.id,r.addrs.x,r.vals.x]
theorem uQ_ (r:GR):(encR r).length=4:=rfl
theorem k_ (r:GR):okL (encR r)=true:=by simp only [encR,okL,okC,r.addrs.ok okI,r.vals.ok m_]
def GR.Sm (r:GR):Prop:=r.addrs.l.length<=1000/\r.vals.l.length<=1000
structure GS where
 on:Bool
 seen:Int
 b:SV A_ 1
 bad:Bool
 inn:SV encM 12
 out:SV encM 12
 subs:SV c_ 15
 num:Int
def n_ (s:GS):List AV:=[.bool s.on,.int .i64 s.seen,s.b.x,.bool s.bad,s.inn.x,s.out.x,s.subs.x,.int .i64 s.num]
theorem okS (s:GS):okL (n_ s)=true:=by simp only [n_,okL,okC,s.b.ok R_,s.inn.ok B_,s.out.ok B_,s.subs.ok T_]
structure GS.Sm (s:GS):Prop where
 b:s.b.l.length<=1000000
 inn:s.inn.l.length<=1000
 out:s.out.l.length<=1000
 subs:s.subs.l.length<=1000
 inM:∀m∈s.inn.l,m.Sm
 outM:∀m∈s.out.l,m.Sm
 subM:∀w∈s.subs.l,w.Sm
structure GG where
 path:List UInt8
 addr:Int
 kind:Int
 role:Int
def u_ (t:GG):List AV:=[.str t.path,.int .i64 t.addr,.int .i64 t.kind,.int .i64 t.role]
theorem vy_ (t:GG):(u_ t).length=4:=rfl
theorem U_ (t:GG):okL (u_ t)=true:=rfl
end Go.Proofs.YtijpblconliffaaGreatDoor.vars
set_option maxRecDepth 100000
set_option linter.unusedVariables false
set_option linter.unusedSimpArgs false
namespace Go.Proofs.YtijpblconliffaaGreatDoor.vars
open Go Go.Sx
def c49:VC:=⟨⟨[],[]⟩,[],[],0,true,[]⟩
def t49:VT:=
 (K (.bin .eql 49 false true) [64,.nsl] 65
 (.ite 65
 (.done (.nsl))
 (K (.app 1 8) [.vsl 0 1 [],64] 66
 (.done (66)))))
def c50:VC:=⟨⟨[],[]⟩,[],[],0,true,[]⟩
def t50:VT:=
 (K (.bin .eql 26 false true) [64,.nsl] 65
 (.ite 65
 (.done (.nsl))
 (K Qm [.vsl 0 3 [],64] 66
 (.done (66)))))
def xe_:VC:=⟨⟨[],[]⟩,[],[],0,true,[]⟩
def wQ_:VT:=
 (K (.bin .eql 22 false true) [64,.nsl] 65
 (.ite 65
 (.done (.nsl))
 (K (.app 1 1) [.vsl 0 1 [],64] 66
 (.done (66)))))
def xh_:VC:=⟨⟨[],[]⟩,[],[],0,true,[]⟩
def wT_:VT:=
 (K (.bin .eql 98 false true) [64,.nsl] 65
 (.ite 65
 (.done (.nsl))
 (K (.app 5 40) [.vsl 0 5 [],64] 66
 (.done (66)))))
def xm_:VC:=⟨⟨[],[]⟩,[],[],0,true,[]⟩
def w2_:VT:=
 (K (.bin .eql 52 false true) [64,.nsl] 65
 (.ite 65
 (.done (.nsl))
 (K Qs [.vsl 0 1 [],64] 66
 (.done (66)))))
def xg_:VC:=⟨⟨[],[]⟩,[],[],0,true,[]⟩
def wS_:VT:=
 (K (.bin .eql 43 false true) [64,.nsl] 65
 (.ite 65
 (.done (.tup [J 0,.nsl]))
 (K Qt [.vsl 0 15 [],64] 66
 (.done (.tup [J 0,66])))))
def xl_:VC:=⟨⟨[],[]⟩,[(154,[none]),(50,[none])],[],0,true,[]⟩
def w1_:VT:=.call 154 [74] 76 [none]<|.call 50 [75] 77 [none]<|.done (.agg [64,65,66,67,68,69,70,71,72,73,76,77])
def xf_:VC:=⟨⟨[],[]⟩,[(144,[(some 12)])],[(0,[⟨[(7,.slx 0 0 0),(2,.slx 0 12 1),(5,64),(6,65)],[],1,2,[⟨0,12,1,2,none⟩],[],[]⟩])],0,true,[]⟩
def wR_:VT:=
 (K Qb [64] 65
 (.loop 66 0 [J 0,.nsl]
 (.cons 2
 (K Q2 [66,65] 68
 (.ite 68
 (K Qg [64,66] 69
 (.lt Qu [69] 70 (some 12)
 (.call 144 [.agg [70,71,72,73,74,75,76,77,78,79,80,81]] 82 [(some 12)]
 (K Qd [67,.agg [82,83,84,85,86,87,88,89,90,91,92,93]] 94
 (K Q0 [66,J 1] 95
 (.again 0 0 [95,94]))))))
 (.done (.tup [J 0,67]))))
 .nil)))
def xj_:VC:=⟨⟨[],[]⟩,[(49,[none]),(50,[none])],[],0,true,[]⟩
def wZ_:VT:=.call 49 [66] 68 [none]<|.call 50 [67] 69 [none]<|.done (.agg [64,65,68,69])
def c26:VC:=⟨⟨[],[]⟩,[(49,[none]),(50,[none])],[(0,[⟨[(7,.slx 0 0 0),(2,.slx 0 4 1),(5,64),(6,65)],[],1,2,[⟨0,4,1,2,none⟩],[],[]⟩])],0,true,[]⟩
def t26:VT:=
 (K Qa [64] 65
 (.loop 66 0 [J 0,.nsl]
 (.cons 2
 (K Q2 [66,65] 68
 (.ite 68
 (K Q8 [64,66] 69
 (.lt (.load 51) [69] 70 (some 4)
 (.call 49 [72] 74 [none]
 (.call 50 [73] 75 [none]
 (K Qv [67,.agg [70,71,74,75]] 76
 (K Q0 [66,J 1] 77
 (.again 0 0 [77,76])))))))
 (.done (67))))
 .nil)))
def xi_:VC:=⟨⟨[],[]⟩,[(133,[(some 4)])],[(0,[⟨[(7,.slx 0 0 0),(2,.slx 0 4 1),(5,64),(6,65)],[],1,2,[⟨0,4,1,2,none⟩],[],[]⟩])],0,true,[]⟩
def wY_:VT:=
 (K Qa [64] 65
 (.loop 66 0 [J 0,.nsl]
 (.cons 2
 (K Q2 [66,65] 68
 (.ite 68
 (K Q8 [64,66] 69
 (.lt (.load 51) [69] 70 (some 4)
 (.call 133 [.agg [70,71,72,73]] 74 [(some 4)]
 (K Qv [67,.agg [74,75,76,77]] 78
 (K Q0 [66,J 1] 79
 (.again 0 0 [79,78]))))))
 (.done (.tup [J 0,67]))))
 .nil)))
theorem p49 (s:SV J_ 1) (hl:s.l.length<=1000):ju_ Tryz.prog 49 [s.x] s.x:=by obtain ⟨l,x,h⟩:=s;have hx:=h.ok okI;simp only at hl⊢;refine t1_ (sh:=[none]) (ls:=[x]) (c:=c49) (n:=300) (t:=t49) mo ov (by rcases h with rfl|⟨_,rfl⟩<;>rfl) (by simp only [okL,hx]) (pZ_ hx) (λY _=>vv_ _) rfl (by kernel_rfl) λY hf hg=>?_;unfold t49;rcases h with rfl|⟨_,rfl⟩;refine vo_ (r:=.bool false) (by kernel_rfl) rfl (u7_ (t:=false) rfl (λh=>by cases h) (λ_=>?_));exact vo_ (ul_ vT_ (by decide) (by decide) (SlV.v (enc:=J_) (w:=1) l) (by omega)) (r8_ okI _) (uy_ rfl);exact vo_ (r:=.bool true) (by kernel_rfl) rfl (u7_ (t:=true) rfl (λ_=>uy_ rfl) (λh=>by cases h))
theorem p50 (s:SV f_ 3) (hl:s.l.length<=1000):ju_ Tryz.prog 50 [s.x] s.x:=by obtain ⟨l,x,h⟩:=s;have hx:=h.ok m_;simp only at hl⊢;refine t1_ (sh:=[none]) (ls:=[x]) (c:=c50) (n:=300) (t:=t50) mo ov (by rcases h with rfl|⟨_,rfl⟩<;>rfl) (by simp only [okL,hx]) (pZ_ hx) (λY _=>vv_ _) rfl (by kernel_rfl) λY hf hg=>?_;unfold t50;rcases h with rfl|⟨_,rfl⟩;refine vo_ (r:=.bool false) (by kernel_rfl) rfl (u7_ (t:=false) rfl (λh=>by cases h) (λ_=>?_));exact vo_ (ul_ uT_ (by decide) (by decide) (SlV.v (enc:=f_) (w:=3) l) (by omega)) (r8_ m_ _) (uy_ rfl);exact vo_ (r:=.bool true) (by kernel_rfl) rfl (u7_ (t:=true) rfl (λ_=>uy_ rfl) (λh=>by cases h))
theorem xK_ (s:SV A_ 1) (hl:s.l.length<=1000000):ju_ Tryz.prog 121 [s.x] s.x:=by obtain ⟨l,x,h⟩:=s;have hx:=h.ok R_;simp only at hl⊢;refine t1_ (sh:=[none]) (ls:=[x]) (c:=xe_) (n:=300) (t:=wQ_) mo ov (by rcases h with rfl|⟨_,rfl⟩<;>rfl) (by simp only [okL,hx]) (pZ_ hx) (λY _=>vv_ _) rfl (by kernel_rfl) λY hf hg=>?_;unfold wQ_;rcases h with rfl|⟨_,rfl⟩;refine vo_ (r:=.bool false) (by kernel_rfl) rfl (u7_ (t:=false) rfl (λh=>by cases h) (λ_=>?_));exact vo_ (ul_ wD_ (by decide) (by decide) (SlV.v (enc:=A_) (w:=1) l) (by omega)) (r8_ R_ _) (uy_ rfl);exact vo_ (r:=.bool true) (by kernel_rfl) rfl (u7_ (t:=true) rfl (λ_=>uy_ rfl) (λh=>by cases h))
theorem xM_ (s:SV uq_ 5) (hl:s.l.length<=1000):ju_ Tryz.prog 124 [s.x] s.x:=by obtain ⟨l,x,h⟩:=s;have hx:=h.ok okT;simp only at hl⊢;refine t1_ (sh:=[none]) (ls:=[x]) (c:=xh_) (n:=300) (t:=wT_) mo ov (by rcases h with rfl|⟨_,rfl⟩<;>rfl) (by simp only [okL,hx]) (pZ_ hx) (λY _=>vv_ _) rfl (by kernel_rfl) λY hf hg=>?_;unfold wT_;rcases h with rfl|⟨_,rfl⟩;refine vo_ (r:=.bool false) (by kernel_rfl) rfl (u7_ (t:=false) rfl (λh=>by cases h) (λ_=>?_));exact vo_ (ul_ xy_ (by decide) (by decide) (SlV.v (enc:=uq_) (w:=5) l) (by omega)) (r8_ okT _) (uy_ rfl);exact vo_ (r:=.bool true) (by kernel_rfl) rfl (u7_ (t:=true) rfl (λ_=>uy_ rfl) (λh=>by cases h))
theorem xS_ (s:SV q_ 1) (hl:s.l.length<=1000):ju_ Tryz.prog 154 [s.x] s.x:=by obtain ⟨l,x,h⟩:=s;have hx:=h.ok okP;simp only at hl⊢;refine t1_ (sh:=[none]) (ls:=[x]) (c:=xm_) (n:=300) (t:=w2_) mo ov (by rcases h with rfl|⟨_,rfl⟩<;>rfl) (by simp only [okL,hx]) (pZ_ hx) (λY _=>vv_ _) rfl (by kernel_rfl) λY hf hg=>?_;unfold w2_;rcases h with rfl|⟨_,rfl⟩;refine vo_ (r:=.bool false) (by kernel_rfl) rfl (u7_ (t:=false) rfl (λh=>by cases h) (λ_=>?_));exact vo_ (ul_ vz_ (by decide) (by decide) (SlV.v (enc:=q_) (w:=1) l) (by omega)) (r8_ okP _) (uy_ rfl);exact vo_ (r:=.bool true) (by kernel_rfl) rfl (u7_ (t:=true) rfl (λ_=>uy_ rfl) (λh=>by cases h))
theorem xL_ (s:SV c_ 15) (hl:s.l.length<=1000):CF Tryz.prog 123 vw_ [s.x] (λ_ ws=>ws=[s.x]):=by obtain ⟨l,x,h⟩:=s;have hx:=h.ok T_;simp only at hl⊢;refine va_ (c:=xg_) (n:=300) (t:=wS_) mo ov rfl (λY _=>vv_ _) (by kernel_rfl) λY hf hg=>?_;unfold wS_;rcases h with rfl|⟨_,rfl⟩;refine vo_ (r:=.bool false) (by kernel_rfl) rfl (u7_ (t:=false) rfl (λh=>by cases h) (λ_=>?_));exact vo_ (ul_ en_ (by decide) (by decide) (SlV.v (enc:=c_) (w:=15) l) (by omega)) (r8_ T_ _) (VOK_fin (by show okL [dp_ c_ 15 l]=true;simp only [okL,r8_ T_]) rfl);exact vo_ (r:=.bool true) (by kernel_rfl) rfl (u7_ (t:=true) rfl (λ_=>VOK_fin rfl rfl) (λh=>by cases h))
theorem xP_ (m:GM) (hm:m.Sm):ju_ Tryz.prog 144 [.agg (encM m)] (.agg (encM m)):=by have okm:=B_ m;refine t1_ (sh:=[some 12]) (ls:=encM m) (c:=xl_) (n:=300) (t:=w1_) mo ov rfl okm (r_ okm) (λY _=>vv_ _) rfl (by kernel_rfl) λY hf hg=>?_;unfold w1_;refine ux_ (xS_ m.paths hm.1) rfl (by simp only [okL,m.paths.ok okP]) (ux_ (p50 m.vals hm.2) rfl (by simp only [okL,m.vals.ok m_]) (uy_ rfl))
theorem wM_ (r:GR) (hm:r.Sm):ju_ Tryz.prog 133 [.agg (encR r)] (.agg (encR r)):=by have okm:=k_ r;refine t1_ (sh:=[some 4]) (ls:=encR r) (c:=xj_) (n:=300) (t:=wZ_) mo ov rfl okm (r_ okm) (λY _=>vv_ _) rfl (by kernel_rfl) λY hf hg=>?_;unfold wZ_;refine ux_ (p49 r.addrs hm.1) rfl (by simp only [okL,r.addrs.ok okI]) (ux_ (p50 r.vals hm.2) rfl (by simp only [okL,r.vals.ok m_]) (uy_ rfl))
theorem iaM (s:SV encM 12) {i:Nat} (h:i<s.l.length):(XOp.iaddr 42).run Tryz.prog [s.x,.int .i64 (i:Int)]=some (.vptr (bq_ encM (s.l.drop i))):=s.h.ia (e:=54) Tryz.underlying42 (ti:=(Tryz.prog.info? 54).get!) (by kernel_rfl) (by kernel_rfl) uG_ h .i64
theorem ldM {l:List GM} {i:Nat} (h:i<l.length):(XOp.load 54).run Tryz.prog [.vptr (bq_ encM (l.drop i))]=some (.agg (encM l[i])):=sS_ (ti:=(Tryz.prog.info? 54).get!) Tryz.underlying54 rfl (by kernel_rfl) (by kernel_rfl) uG_ h
theorem iaR (s:SV encR 4) {i:Nat} (h:i<s.l.length):(XOp.iaddr 47).run Tryz.prog [s.x,.int .i64 (i:Int)]=some (.vptr (bq_ encR (s.l.drop i))):=s.h.ia (e:=51) Tryz.underlying47 (ti:=(Tryz.prog.info? 51).get!) (by kernel_rfl) (by kernel_rfl) uQ_ h .i64
theorem ldR {l:List GR} {i:Nat} (h:i<l.length):(XOp.load 51).run Tryz.prog [.vptr (bq_ encR (l.drop i))]=some (.agg (encR l[i])):=sS_ (ti:=(Tryz.prog.info? 51).get!) Tryz.underlying51 rfl (by kernel_rfl) (by kernel_rfl) uQ_ h
theorem g_ {α:Type} {l:List α} {i:Nat} (h:i<l.length):l.take (i+1)=l.take i++[l[i]]:=by rw [List.take_add_one,List.getElem?_eq_getElem h];rfl
theorem wK_ (s:SV encM 12) (hl:s.l.length<=1000) (hm:∀m∈s.l,m.Sm):CF Tryz.prog 122 sx_ [s.x] (λ_ ws=>ws=[cs_ encM 12 s.l]):=by
 have hx:=s.ok B_;refine va_ (c:=xf_) (n:=300) (t:=wR_) mo ov rfl (λY _=>vv_ _) (by kernel_rfl) λY hf hg=>?_;unfold wR_;refine vo_ (s.h.len Tryz.underlying42) rfl ?_;refine uz_ (ι:=Nat) (λi=>[.int .i64 (i:Int),cs_ encM 12 (s.l.take i)]) (λi=>i<=s.l.length) (λi=>s.l.length-i) 0 (Nat.zero_le _) rfl (λ_ _=>by simp only [okL,okC,t9_ B_]) (λi j _ _ h=>?_) (λi hi=>?_)
 .have h:=(List.cons.inj h).1;injection h with _ h
  omega
 refine vo_ (run_lss ..) rfl (u7_ rfl (λhc=>?_) (λhc=>?_));have hc:(i:Int)<(s.l.length:Int):=dT hc;have hc:i<s.l.length:=(by omega);refine vo_ (iaM s hc) (kN_ B_ _) (u8_ (ldM hc) rfl (B_ _) (ux_ (xP_ s.l[i] (hm _ (List.getElem_mem hc))) rfl (B_ _) ?_));refine vo_ (t4_ uG_ (by decide) (by decide) (s.l.take i) s.l[i] (by rw [List.length_take];omega)) (t9_ B_ _) (vo_ (e_ (by omega) (by omega)) rfl (un_ rfl ⟨i+1,hc,?_,by omega⟩));rw [g_ hc];rfl;have hc:¬(i:Int)<(s.l.length:Int):=dF hc;have e:i=s.l.length:=(by omega);subst e;refine VOK_fin (by show okL [cs_ encM 12 _]=true;simp only [okL,t9_ B_]) ?_;show [cs_ encM 12 (s.l.take s.l.length)]=_;rw [List.take_length]
theorem wL_ (s:SV encR 4) (hl:s.l.length<=1000) (hm:∀m∈s.l,m.Sm):CF Tryz.prog 132 sQ_ [s.x] (λ_ ws=>ws=[cs_ encR 4 s.l]):=by
 have hx:=s.ok k_;refine va_ (c:=xi_) (n:=300) (t:=wY_) mo ov rfl (λY _=>vv_ _) (by kernel_rfl) λY hf hg=>?_;unfold wY_;refine vo_ (s.h.len Tryz.underlying47) rfl ?_;refine uz_ (ι:=Nat) (λi=>[.int .i64 (i:Int),cs_ encR 4 (s.l.take i)]) (λi=>i<=s.l.length) (λi=>s.l.length-i) 0 (Nat.zero_le _) rfl (λ_ _=>by simp only [okL,okC,t9_ k_]) (λi j _ _ h=>?_) (λi hi=>?_)
 .have h:=(List.cons.inj h).1;injection h with _ h
  omega
 refine vo_ (run_lss ..) rfl (u7_ rfl (λhc=>?_) (λhc=>?_));have hc:(i:Int)<(s.l.length:Int):=dT hc;have hc:i<s.l.length:=(by omega);refine vo_ (iaR s hc) (kN_ k_ _) (u8_ (ldR hc) rfl (k_ _) (ux_ (wM_ s.l[i] (hm _ (List.getElem_mem hc))) rfl (k_ _) ?_));refine vo_ (t4_ uQ_ (by decide) (by decide) (s.l.take i) s.l[i] (by rw [List.length_take];omega)) (t9_ k_ _) (vo_ (e_ (by omega) (by omega)) rfl (un_ rfl ⟨i+1,hc,?_,by omega⟩));rw [g_ hc];rfl;have hc:¬(i:Int)<(s.l.length:Int):=dF hc;have e:i=s.l.length:=(by omega);subst e;refine VOK_fin (by show okL [cs_ encR 4 _]=true;simp only [okL,t9_ k_]) ?_;show [cs_ encR 4 (s.l.take s.l.length)]=_;rw [List.take_length]
theorem p26 (s:SV encR 4) (hl:s.l.length<=1000) (hm:∀m∈s.l,m.Sm):ju_ Tryz.prog 26 [s.x] (cs_ encR 4 s.l):=by
 have hx:=s.ok k_;refine t1_ (sh:=[none]) (ls:=[s.x]) (c:=c26) (n:=300) (t:=t26) mo ov (by rcases s.h with h|⟨_,h⟩<;>rw [h]<;>rfl) (by simp only [okL,hx]) (pZ_ (t9_ k_ _)) (λY _=>vv_ _) rfl (by kernel_rfl) λY hf hg=>?_;unfold t26;refine vo_ (s.h.len Tryz.underlying47) rfl ?_;refine uz_ (ι:=Nat) (λi=>[.int .i64 (i:Int),cs_ encR 4 (s.l.take i)]) (λi=>i<=s.l.length) (λi=>s.l.length-i) 0 (Nat.zero_le _) rfl (λ_ _=>by simp only [okL,okC,t9_ k_]) (λi j _ _ h=>?_) (λi hi=>?_)
 .have h:=(List.cons.inj h).1;injection h with _ h
  omega
 refine vo_ (run_lss ..) rfl (u7_ rfl (λhc=>?_) (λhc=>?_));have hc:(i:Int)<(s.l.length:Int):=dT hc;have hc:i<s.l.length:=(by omega);have hmi:=hm _ (List.getElem_mem hc);refine vo_ (iaR s hc) (kN_ k_ _) (u8_ (ldR hc) rfl (k_ _) (ux_ (p49 s.l[i].addrs hmi.1) rfl (by simp only [okL,s.l[i].addrs.ok okI]) (ux_ (p50 s.l[i].vals hmi.2) rfl (by simp only [okL,s.l[i].vals.ok m_]) ?_)));refine vo_ (t4_ uQ_ (by decide) (by decide) (s.l.take i) s.l[i] (by rw [List.length_take];omega)) (t9_ k_ _) (vo_ (e_ (by omega) (by omega)) rfl (un_ rfl ⟨i+1,hc,?_,by omega⟩));rw [g_ hc];rfl;have hc:¬(i:Int)<(s.l.length:Int):=dF hc;have e:i=s.l.length:=(by omega);subst e;refine uy_ ?_;show cs_ encR 4 (s.l.take s.l.length)=_;rw [List.take_length]
end Go.Proofs.YtijpblconliffaaGreatDoor.vars
set_option linter.unusedVariables false
set_option linter.unusedSimpArgs false
namespace Go.Sx
section
variable {P:Program} {t:TypeId} {ti:TypeInfo} {α:Type} {enc:α->List AV} {w:Nat}
theorem p_:∀(a xs b c:List AV),b.length=xs.length->c8_ a.length xs (a++(b++c))=some (a++(xs++c))
 |[],[],[],c,_=>by cases c<;>rfl
 |[],x::xs,y::b,c,h=>by have ih:=p_ [] xs b c (by simpa using h);simp only [List.nil_append,List.length_nil,List.cons_append]at ih⊢;simp only [c8_,ih]
 |[],x::xs,[],c,h=>by simp at h
 |[],[],y::b,c,h=>by simp at h
 |x::a,xs,b,c,h=>by simp only [List.cons_append,List.length_cons,c8_,p_ a xs b c h]
theorem vg_ (hw:∀a,(enc a).length=w) (l:List α) {i:Nat} (hi:i<l.length):∃a b,bq_ enc l=a++(enc l[i]++b)/\a.length=i*w/\∀x,bq_ enc (l.set i x)=a++(enc x++b):=by
 refine ⟨bq_ enc (l.take i),bq_ enc (l.drop (i+1)),?_,?_,λx=>?_⟩;have h1:l=l.take i++l[i]::l.drop (i+1):=(by rw [List.getElem_cons_drop,List.take_append_drop]);have h2:=congrArg (bq_ enc) h1;rw [dg_]at h2;exact h2
 .rw [bC_ hw,List.length_take];congr 1;omega
 rw [List.set_eq_take_append_cons_drop,if_pos hi,dg_];rfl
theorem vZ_ (hw:∀a,(enc a).length=w) {l:List α} {i:Nat} (hi:i<l.length) {off:Nat} {v:AV} {xs p q r:List AV} {y:α} (hc:v.cells=xs) (ho:v≠ .opq) (hinf:P.info? t=some ti) (hs:ti.size=xs.length) (h1:a8_ xs=true)
  (he:enc l[i]=p++(q++r)) (hp:p.length=off) (hq:q.length=xs.length) (hy:enc y=p++(xs++r)) (k:IntKind):(XOp.stx t w off).run P [cs_ enc w l,.int k (i:Int),v]=some (cs_ enc w (l.set i y)):=by
 obtain ⟨a,b,e1,e2,e3⟩:=vg_ hw l hi;obtain ⟨x0,l',rfl⟩:∃x l',l=x::l':=by cases l with|nil=>simp at hi|cons x l'=>exact ⟨x,l',rfl⟩
 have cI_:∃z l'',(x0::l').set i y=z::l''/\l''.length=l'.length:=by
  cases i with
  |zero=>exact ⟨y,l',rfl,rfl⟩
  |succ i=>exact ⟨x0,l'.set i y,rfl,by simp⟩
 obtain ⟨z,l'',e4,e5⟩:=cI_;have hst:b9_ P (ry_ (bq_ enc (x0::l'))) t (.ptr 0 (i*w+off)) v=some (.tup [],(ry_ (bq_ enc (x0::l'))).set 0 (.cells (bq_ enc ((x0::l').set i y)))):=by
  have hg:(ry_ (bq_ enc (x0::l'))).get 0=some (.cells (bq_ enc (x0::l'))):=rfl;have hsa:c8_ (i*w+off) xs (bq_ enc (x0::l'))=some (bq_ enc ((x0::l').set i y)):=(by have:=p_ (a++p) xs q (r++b) hq;rw [List.length_append,e2,hp]at this;rw [e1,he,e3,hy];simpa [List.append_assoc]using this);have hb:Nat.beq xs.length ti.size=true:=(by rw [hs];exact Nat.beq_refl _);cases v with
  |opq=>exact absurd rfl ho
  |_=>simp only [b9_,hinf];simp only [hc,hb,h1,hg,hsa]
 show (match b9_ P (ry_ (bq_ enc (x0::l'))) t (.ptr 0 (Nat.add (Nat.mul i w) off)) v with
  |some r=>match r.2.get 0 with
   |some (.cells cs')=>some (AV.vsl (l'.length+1) w cs')
   |_=>none
  |none=>none)=_
 have e6:Nat.add (Nat.mul i w) off=i*w+off:=rfl;rw [e6,hst];have hg2:∀c:List AV,((ry_ (bq_ enc (x0::l'))).set 0 (.cells c)).get 0=some (.cells c):=λc=>rfl;simp only [hg2];rw [e4];show _=some (AV.vsl (l''.length+1) w (bq_ enc (z::l'')));rw [e5]
theorem vX_ {l:List α} {i:Nat} (hi:i<l.length) (k:IntKind):(XOp.inb).run P [cs_ enc w l,.int k (i:Int)]=some (.int .i64 (i:Int)):=by
 cases l with
 |nil=>simp at hi
 |cons x r=>
  show (match Sx.idx (i:Int) (r.length+1)with|some n=>some (AV.int .i64 (.ofNat n))|none=>none)=_;have hb:Nat.blt i (r.length+1)=true:=(by simpa [Nat.blt_eq]using hi);have:Sx.idx (i:Int) (r.length+1)=some i:=by show (match Nat.blt i (r.length+1)with|true=>some i|false=>none)=some i;rw [hb]
  rw [this];rfl
end
theorem I_:∀{l:List AV},okL l=true->a8_ l=true
 |[],_=>rfl
 |a::r,h=>by rw [aY_]at h;obtain ⟨h1,h2⟩:=aa_ h;have:a.one=true:=(by cases a<;>first|rfl|(simp [okC]at h1));simp only [a8_,this,I_ h2]
end Go.Sx
set_option linter.unusedVariables false
set_option linter.unusedSimpArgs false
namespace Go.Sx
section
variable {P:Program} {t:TypeId} {ti:TypeInfo} {α:Type} {enc:α->List AV} {w:Nat}
theorem vJ_ {d:TypeDesc} (ht:P.underlying t=some d) (ha:lE_ d=true) (hinf:P.info? t=some ti) (hs:ti.size=w) (hw:∀a,(enc a).length=w) {l:List α} {i:Nat} (hi:i<l.length) (k:IntKind):(XOp.ldx t w 0).run P [cs_ enc w l,.int k (i:Int)]=some (.agg (enc l[i])):=by
 obtain ⟨a,b,e1,e2,_⟩:=vg_ hw l hi;obtain ⟨x0,l',rfl⟩:∃x l',l=x::l':=by cases l with|nil=>simp at hi|cons x l'=>exact ⟨x,l',rfl⟩
 show bg_ P (ry_ (bq_ enc (x0::l'))) t (.ptr 0 (i*w+0))=_;unfold bg_;simp only [ht,ha,hinf];have hg:(ry_ (bq_ enc (x0::l'))).get 0=some (.cells (bq_ enc (x0::l'))):=rfl;unfold aT_;simp only [hg];have hd:ai_ (i*w+0) (bq_ enc (x0::l'))=enc (x0::l')[i]++b:=by rw [az_,e1,Nat.add_zero,←e2,List.drop_left]
 have hl:ti.size=(enc (x0::l')[i]).length:=by rw [hs,hw]
 rw [hd,hl,do_]
end
end Go.Sx
set_option maxRecDepth 100000
set_option linter.unusedVariables false
set_option linter.unusedSimpArgs false
namespace Go.Proofs.YtijpblconliffaaGreatDoor.vars
open Go Go.Sx
def c89:VC:=⟨⟨[],[]⟩,[(121,[none]),(124,[none])],[(10003,[⟨[],[],0,0,[],[],[(1,4)]⟩]),(0,[⟨[(26,.slx 0 0 0),(1,.ptr 0 0),(24,.slx 2 15 1),(2,.ptr 1 0),(25,79)],[(0,[64,65,72,67,74,.slx 3 12 2,.slx 2 15 1,71]),(1,[.bool false,J 0,.nsl,.bool false,.nsl,.nsl,.nsl,J 0])],4,3,[⟨2,15,1,24,none⟩,⟨2,15,1,0,(some 6)⟩,⟨3,12,2,0,(some 5)⟩],[],[]⟩])],0,true,[(122,sx_),(123,vw_)]⟩
def t89:VT:=
 (.call 121 [66] 72 [none]
 (.callF 122 sx_ [68] 73
 (.cons 1
 (.callF 122 sx_ [69] 75
 (.cons 1
 (.callF 123 vw_ [70] 77
 (.cons 1
 (K Qh [78] 79
 (.loop 80 0 [J 0,78,76]
 (.cons 3
 (K Q2 [80,79] 83
 (.ite 83
 (K .inb [81,80] 84
 (.lt Zb [81,84] 85 (some 15)
 (.call 124 [99] 100 [none]
 (K .inb [81,80] 101
 (K (.stx 98 15 14) [81,101,100] 102
 (K Q0 [80,J 1] 103
 (.chk (.same 81 102)
 (.chk (.same 81 102)
 (.again 0 0 [103,102,82])))))))))
 (.done (.tup [J 0,64,65,72,67,74,82,81,71]))))
 .nil)))
 .nil))
 .nil))
 .nil)))
def c48:VC:=⟨⟨[],[]⟩,[(90,[(some 15)])],[(0,[⟨[(14,.slx 0 0 0),(2,73),(1,72),(3,.ptr 0 0),(12,.slx 2 15 1),(6,.ptr 1 0),(13,90)],[(0,[82,83,84,85,86,.slx 3 12 2,.slx 2 15 1,89]),(1,[.bool false,J 0,.nsl,.bool false,.nsl,.nsl,.nsl,J 0])],4,3,[⟨2,15,1,12,none⟩,⟨2,15,1,0,(some 6)⟩,⟨3,12,2,0,(some 5)⟩],[],[]⟩])],0,true,[(89,vR_)]⟩
def t48:VT:=
 (.callF 89 vR_ [64,65,66,67,68,69,70,71] 74
 (.cons 8
 (K Qh [88] 90
 (.loop 91 0 [J 0,88,87]
 (.cons 3
 (K Q2 [91,90] 94
 (.ite 94
 (K .inb [92,91] 95
 (.lt Zb [92,95] 96 (some 15)
 (K Qn [97,J 0] 111
 (.ite 111
 (K Qo [72] 112
 (K Q2 [97,112] 113
 (.ite 113
 (K Qi [72,97] 114
 (.lt Qx [114] 115 (some 3)
 (.call 90 [.agg [96,97,98,99,100,101,102,103,104,105,106,107,108,109,110],.agg [115,116,117],73] 118 [(some 15)]
 (K .inb [92,91] 133
 (K (.stx 100 15 0) [92,133,.agg [118,119,120,121,122,123,124,125,126,127,128,129,130,131,132]] 134
 (K Q0 [91,J 1] 135
 (.chk (.same 92 134)
 (.chk (.same 92 134)
 (.again 0 0 [135,134,93])))))))))
 (K Q0 [91,J 1] 114
 (.again 0 0 [114,92,93])))))
 (K Q0 [91,J 1] 112
 (.again 0 0 [112,92,93]))))))
 (.done (.tup [J 0,82,83,84,85,86,93,92,89]))))
 .nil)))
 .nil))
def c25:VC:=⟨⟨[],[]⟩,[],[],0,true,[(48,wd_)]⟩
def t25:VT:=Cf 48 wd_ [64,65,66,67,68,69,70,71,.nsl,J 0] 72 8<|Dn [82,83,84,85,86,87,88,89]
def G_ (s:GS):GS:={ s with inn:=.of s.inn.l,out:=.of s.out.l }
def RS (s:GS):Nat->List AV->Prop:=λ_ ws=>ws=n_ (G_ s)
theorem vK_ (l:List GW) {i:Nat} (hi:i<l.length):l.set i l[i]=l:=List.set_getElem_self hi
theorem wz_ (s:SV c_ 15):(some s.x=some .nsl/\some s.x=some .nsl)\/∃n z cs ds,some s.x=some (.vsl n z cs)/\some s.x=some (.vsl n z ds):=by rcases s.h with h|⟨_,h⟩;rw [h];exact .inr ⟨_,_,_,_,rfl,rfl⟩;rw [h];exact .inl ⟨rfl,rfl⟩
theorem wn_ {α:Type} {enc:α->List AV} {w:Nat} (s:SV enc w) {i:Nat} (hi:i<s.l.length):s.x=cs_ enc w s.l:=s.h.eq (λe=>by rw [e]at hi;cases hi)
theorem vS_ (s:SV c_ 15) {i:Nat} (hi:i<s.l.length):(XOp.inb).run Tryz.prog [s.x,.int .i64 (i:Int)]=some (.int .i64 (i:Int)):=by rw [wn_ s hi];exact vX_ (enc:=c_) hi .i64
theorem wk_ (s:SV c_ 15) {i:Nat} (hi:i<s.l.length):(XOp.ldx 100 15 0).run Tryz.prog [s.x,.int .i64 (i:Int)]=some (.agg (c_ s.l[i])):=by rw [wn_ s hi];exact vJ_ (ti:=(Tryz.prog.info? 100).get!) Tryz.underlying100 rfl (by kernel_rfl) (by kernel_rfl) en_ hi .i64
theorem xX_ (s:SV c_ 15) {i:Nat} (hi:i<s.l.length):(XOp.stx 98 15 14).run Tryz.prog [s.x,.int .i64 (i:Int),s.l[i].queue.x]=some s.x:=by
 have hq:=s.l[i].queue.ok okT;have h:=vZ_ (P:=Tryz.prog) (t:=98) (ti:=(Tryz.prog.info? 98).get!) en_ hi (off:=14) (v:=s.l[i].queue.x) (p:=(c_ s.l[i]).take 14) (q:=[s.l[i].queue.x]) (r:=[]) (xs:=[s.l[i].queue.x]) (y:=s.l[i])
  (by rcases s.l[i].queue.h with h|⟨_,h⟩<;>rw [h]<;>rfl) (λe=>by rw [e]at hq;cases hq) (by kernel_rfl) (by kernel_rfl) (I_ (by simp only [okL,hq])) rfl rfl rfl rfl .i64
 rw [vK_ _ hi,←wn_ s hi]at h;exact h
theorem p89 (s:GS) (hs:s.Sm):CF Tryz.prog 89 vR_ (n_ s) (RS s):=by
 have okw:=s.subs.ok T_;refine va_ (c:=c89) (n:=300) (t:=t89) mo ov rfl (λY _=>vv_ _) (by kernel_rfl) λY hf hg=>?_;unfold t89;refine ux_ (xK_ s.b hs.b) rfl (by simp only [okL,s.b.ok R_]) ?_;refine a_ (wK_ s.inn hs.inn hs.inM) rfl (by simp only [okL,s.inn.ok B_]) ⟨?_,trivial⟩;rintro ws rfl;refine a_ (wK_ s.out hs.out hs.outM) rfl (by simp only [okL,s.out.ok B_]) ⟨?_,trivial⟩;rintro ws rfl;refine a_ (xL_ s.subs hs.subs) rfl (by simp only [okL,okw]) ⟨?_,trivial⟩;rintro ws rfl;have hl:=hs.subs;refine vo_ (s.subs.h.len Tryz.underlying43) rfl ?_;refine uz_ (ι:=Nat) (λi=>[.int .i64 (i:Int),s.subs.x,cs_ encM 12 s.out.l]) (λi=>i<=s.subs.l.length) (λi=>s.subs.l.length-i) 0 (Nat.zero_le _) rfl (λ_ _=>by simp only [okL,okC,okw,t9_ B_]) (λi j _ _ h=>?_) (λi hi=>?_)
 .have h:=(List.cons.inj h).1;injection h with _ h
  omega
 refine vo_ (run_lss ..) rfl (u7_ rfl (λhc=>?_) (λhc=>?_));have hc:(i:Int)<(s.subs.l.length:Int):=dT hc;have hc:i<s.subs.l.length:=(by omega);have hq:=hs.subM _ (List.getElem_mem hc);refine vo_ (vS_ s.subs hc) rfl (u8_ (wk_ s.subs hc) rfl (T_ _) (ux_ (xM_ s.subs.l[i].queue hq) rfl (by simp only [okL,s.subs.l[i].queue.ok okT]) ?_));exact vo_ (vS_ s.subs hc) rfl (vo_ (xX_ s.subs hc) okw (vo_ (e_ (by omega) (by omega)) rfl (u6_ (wz_ s.subs) (u6_ (wz_ s.subs) (un_ rfl ⟨i+1,hc,rfl,by omega⟩)))));exact VOK_fin (okS (G_ s)) rfl
theorem p48 (s:GS) (hs:s.Sm) (now:Int):CF Tryz.prog 48 wd_ (n_ s++[.nsl,.int .i64 now]) (RS s):=by
 have okw:=s.subs.ok T_;refine va_ (c:=c48) (n:=300) (t:=t48) mo ov rfl (λY _=>vv_ _) (by kernel_rfl) λY hf hg=>?_;unfold t48;refine a_ (p89 s hs) rfl (okS s) ⟨?_,trivial⟩;rintro ws rfl;have hl:=hs.subs;refine vo_ (s.subs.h.len Tryz.underlying43) rfl ?_;refine uz_ (ι:=Nat) (λi=>[.int .i64 (i:Int),s.subs.x,cs_ encM 12 s.out.l]) (λi=>i<=s.subs.l.length) (λi=>s.subs.l.length-i) 0 (Nat.zero_le _) rfl (λ_ _=>by simp only [okL,okC,okw,t9_ B_]) (λi j _ _ h=>?_) (λi hi=>?_)
 .have h:=(List.cons.inj h).1;injection h with _ h
  omega
 refine vo_ (run_lss ..) rfl (u7_ rfl (λhc=>?_) (λhc=>?_));have hc:(i:Int)<(s.subs.l.length:Int):=dT hc;have hc:i<s.subs.l.length:=(by omega);refine vo_ (vS_ s.subs hc) rfl (u8_ (wk_ s.subs hc) rfl (T_ _) (vo_ (run_geq ..) rfl (u7_ rfl (λha=>?_) (λ_=>?_))));have ha:(0:Int)<=s.subs.l[i].addr:=dT ha;refine vo_ (r:=.int .i64 0) (by kernel_rfl) rfl (vo_ (run_lss ..) rfl (u7_ rfl (λhb=>?_) (λ_=>?_)));have hb:s.subs.l[i].addr<0:=dT hb;omega;exact vo_ (e_ (by omega) (by omega)) rfl (un_ rfl ⟨i+1,hc,rfl,by omega⟩);exact vo_ (e_ (by omega) (by omega)) rfl (un_ rfl ⟨i+1,hc,rfl,by omega⟩);exact VOK_fin (okS (G_ s)) rfl
theorem p25 (s:GS) (hs:s.Sm):CF Tryz.prog 25 wc_ (n_ s) (RS s):=by refine va_ (c:=c25) (n:=300) (t:=t25) mo ov rfl (λY _=>vv_ _) (by kernel_rfl) λY hf hg=>?_;unfold t25;refine a_ (p48 s hs 0) rfl (kN_.okL_join (okS s) rfl) ⟨?_,trivial⟩;rintro ws rfl;exact VOK_fin (okS (G_ s)) rfl
end Go.Proofs.YtijpblconliffaaGreatDoor.vars
