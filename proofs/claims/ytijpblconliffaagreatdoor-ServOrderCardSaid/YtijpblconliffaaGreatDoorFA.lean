/-
  A symbol as a number, a number as a value: short names for trees.
-/
import Derived.Test.YtijpblconliffaaGreatDoorSyK
import Derived.Test.YtijpblconliffaaGreatDoorRows
import Derived.KernelRfl
import Derived.Test.YtijpblconliffaaGreatDoorSyD
namespace Go.Proofs.YtijpblconliffaaGreatDoor.vars
open Go Go.Sx
instance symN (n:Nat):OfNat AV n:=⟨.sym n⟩
abbrev J (n:Int):AV:=.int .i64 n
abbrev K (o:XOp) (a:List AV) (i:Nat) (t:VT):VT:=.lt o a i none t
abbrev Q0:XOp:=.bin .eql 3 false true
abbrev Li (o:XOp) (a:List AV) (n:Nat) (t:VT):VT:=.lt o a n none t
abbrev It (o:XOp) (a:List AV) (n:Nat) (A B:VT):VT:=.lt o a n none (.ite n A B)
abbrev Iq (i:Nat) (k:Int) (n:Nat) (A B:VT):VT:=.lt Q0 [.sym i,J k] n none (.ite n A B)
abbrev Dn (l:List AV):VT:=.done (.tup (J 0::l))
abbrev Cf (f:FuncId) (t:FT) (h:List AV) (n k:Nat) (b:VT):VT:=.callF f t h n (.cons k b .nil)
abbrev Q1:XOp:=.bin .add 3 false true
abbrev Q2:XOp:=.bin .lss 3 false false
abbrev Q3:XOp:=.iaddr 47
abbrev Q4:XOp:=.load 9
abbrev Q5:XOp:=.len 47
abbrev Q6:XOp:=.load 3
abbrev Q7:XOp:=.bin .mul 3 false true
abbrev Q8:XOp:=.un .not
abbrev Q9:XOp:=.bin .neq 3 false false
abbrev Qa:XOp:=.len 42
abbrev Qb:XOp:=.len 87
abbrev Qc:XOp:=.bin .lss 3 false true
abbrev Qd:XOp:=.iaddr 87
abbrev Qe:XOp:=.iaddr 42
abbrev Qf:XOp:=.len 26
abbrev Qg:XOp:=.load 91
abbrev Qh:XOp:=.iaddr 52
abbrev Qi:XOp:=.bin .gtr 3 false true
abbrev Qk:XOp:=.iaddr 26
abbrev Ql:XOp:=.bin .sub 3 false true
abbrev Qm:XOp:=.faddr 51 1
abbrev Qn:XOp:=.faddr 51 2
abbrev Qo:XOp:=.load 49
abbrev Qp:XOp:=.app 3 24
abbrev Qq:XOp:=.app 1 16
abbrev Qr:XOp:=.app 12 128
abbrev Qs:XOp:=.len 43
abbrev Qt:XOp:=.bin .geq 3 false true
abbrev Qu:XOp:=.load 38
abbrev Qv:XOp:=.faddr 54 1
abbrev Qx:XOp:=.app 4 64
abbrev Qy:XOp:=.ldx 100 15 0
abbrev Qz:XOp:=.bin .geq 3 false false
abbrev Z0:XOp:=.bin .neq 3 false true
abbrev Z1:XOp:=.bin .neq 27 false true
abbrev Z2:XOp:=.bin .eql 3 false false
abbrev Z4:XOp:=.conv 5 3
abbrev Z5:XOp:=.faddr 51 0
abbrev Zb:XOp:=.bin .leq 3 false false
abbrev Zc:XOp:=.bin .add 3 false false
abbrev Zg:XOp:=.bin .rem 5 false true
abbrev Zh:XOp:=.bin .sub 3 false false
end Go.Proofs.YtijpblconliffaaGreatDoor.vars
set_option linter.unusedVariables false
namespace Go.Proofs.YtijpblconliffaaGreatDoor.vars
open Go Go.Sx
def hs:Nat->Nat->List AV
 |_,0=>[]
 |j,n+1=>.slx j 0 0::hs (j+1) n
def pk (a b:AV):Nat×List AV:=(0,[a,b])
def ftC (w:Nat):FT:=⟨0,⟨[(0,.slx 0 0 0)],[],0,1,[],[],[]⟩,[(false,⟨[(0,.slx 0 w 0)],[],1,1,[⟨0,w,0,0,none⟩],[],[]⟩)]⟩
def vm_:FT:=ftC 15
def sm_:FT:=ftC 12
def su_:FT:=ftC 4
def sess:AV:=.agg (hs 0 5++[.slx 0 12 5,.slx 1 15 6,.slx 7 0 0])
def ftS (sl:List (Nat×AV)) (nv:Nat):FT:=⟨0,⟨sl,[],0,nv,[],[],[]⟩,[(false,⟨[(0,sess)],[],2,8,[⟨0,12,5,600,some 5⟩,⟨1,15,6,600,some 6⟩],[],[]⟩)]⟩
def vK_:FT:=ftS [(0,.agg (hs 0 8))] 8
def v3_:FT:=ftS [(0,.agg (hs 0 8)),(1,.slx 8 0 0),(2,.slx 9 0 0)] 10
def v2_:FT:=vK_
def uZ_ (r:Nat):List AV:=hs 0 20++[.slx 1 12 20,.slx r 15 21]++hs 22 3
def vF_:List AV:=aj_ 64 20++[.ptx 1 84 12 0,.ptx 2 85 15 0]++aj_ 86 3
def why:AV:=.iface 178 (.agg [.slx 0 0 0])
def ftV (sl:List (Nat×AV)) (nv:Nat) (exs:List (Bool×Nat×AV)):FT:=⟨3,⟨(0,.ptr 0 0)::sl,[(0,uZ_ 2)],3,nv+25,[⟨1,12,20,0,some 20⟩,⟨2,15,21,0,some 21⟩],[],[]⟩,
 exs.map λ(b,n,a)=>(b,⟨[(0,a)],[(0,vF_)],3,n,[],[],[(1,84),(2,85)]⟩)⟩
def uL_:FT:=ftV [(1,.agg (hs 25 12))] 12 [(false,1,.slx 0 0 0),(true,1,why)]
def vr_:FT:=uL_
def v6_:FT:=ftV [(1,.agg (hs 25 4))] 4 [(false,3,.agg (hs 0 3))]
def v7_:FT:=ftV [(1,.agg (hs 25 4))] 4 [(false,1,.slx 0 0 0)]
def wl_ (id:AV):List AV:=[.int .i64 6,id,.int .i64 0,.int .i64 0,.int .i64 0,.bool false,.int .i64 0,.int .i64 0,.int .i64 0,.flt .f64 0,.nsl,.nsl]
def ftA (k:Nat) (exs:List (Bool×Tpl)):FT:=⟨4,⟨[(0,.ptr 0 0),(1,.agg (hs 25 12)),(2,.ptr 3 0)],[(0,uZ_ 2),(3,wl_ (.slx 37 0 0))],4,38,[⟨1,12,20,0,some 20⟩,⟨2,15,21,0,some 21⟩],[],[]⟩,exs⟩
def va_ (n p v:AV):List AV:=[.int .i64 6,.sym 101,.int .i64 0,n,.int .i64 0,.bool false,.int .i64 0,.int .i64 0,.int .i64 0,.flt .f64 0,p,v]
def exP:Bool×Tpl:=(true,⟨[(0,why)],[(0,vF_),(3,va_ (.int .i64 0) .nsl .nsl)],4,1,[],[],[(1,84),(2,85)]⟩)
def v4_:FT:=ftA 0 [(false,⟨[(0,.tup [])],[(0,vF_),(3,va_ (.int .i64 0) .nsl (.slx 4 3 0))],5,1,[⟨4,3,0,3,some 11⟩],[],[(1,84),(2,85)]⟩),exP]
def v5_:FT:=ftA 0 [(false,⟨[(0,.tup [])],[(0,vF_),(3,va_ (.slx 0 0 0) (.slx 4 1 1) .nsl)],5,2,[⟨4,1,1,3,some 10⟩],[],[(1,84),(2,85)]⟩),exP]
def vS_ (r:Nat):List AV:=aj_ 64 20++[.ptx 1 84 12 0,.slx r 15 0,.slx 1 0 0]++aj_ 87 2
def ft55:FT:=⟨3,⟨[(0,.ptr 0 0),(1,.agg (hs 25 12)),(2,.ptr 2 0)],[(0,uZ_ 3),(2,wl_ (.slx 37 0 0))],4,38,[⟨1,12,20,0,some 20⟩,⟨3,15,21,0,some 21⟩],[],[]⟩,
 [(false,⟨[(0,.tup [])],[(0,vS_ 3),(2,va_ (.slx 2 0 0) .nsl .nsl)],4,3,[⟨3,15,0,0,some 21⟩],[],[(1,84)]⟩),(true,⟨[(0,.iface 178 (.agg [.slx 2 0 0]))],[(0,vS_ 3),(2,va_ (.int .i64 0) .nsl .nsl)],4,3,[⟨3,15,0,0,some 21⟩],[],[(1,84)]⟩)]⟩
def ft56:FT:=⟨2,⟨[(0,.ptr 0 0),(1,.agg (hs 25 12))],[(0,uZ_ 2)],3,37,[⟨1,12,20,0,some 20⟩,⟨2,15,21,0,some 21⟩],[],[]⟩,
 [(false,⟨[(0,.tup [])],[(0,vS_ 2)],3,2,[⟨2,15,0,0,some 21⟩],[],[(1,84)]⟩),(true,⟨[(0,.iface 178 (.agg [.slx 2 0 0]))],[(0,vS_ 2)],3,3,[⟨2,15,0,0,some 21⟩],[],[(1,84)]⟩)]⟩
def ft99:FT:=⟨1,⟨[(0,.slx 0 15 0),(1,.slx 1 0 0)],[],1,2,[⟨0,15,0,0,none⟩],[],[]⟩,[(false,⟨[(0,.slx 0 0 0)],[],1,1,[],[],[(0,64)]⟩)]⟩
def ft101:FT:=⟨0,⟨[(0,.slx 0 15 0),(1,.slx 1 0 0),(2,.slx 2 0 0)],[],1,3,[⟨0,15,0,0,none⟩],[],[]⟩,[(false,⟨[(0,.slx 0 15 0)],[],1,1,[⟨0,15,0,0,none⟩],[],[]⟩)]⟩
def xz_:List AV:=aj_ 64 20++[.ptx 1 84 12 0,.ptx 2 85 15 0,.sym 86,.slx 0 0 0,.sym 88]
def ft53:FT:=⟨3,⟨[(0,.ptr 0 0),(1,.agg (hs 25 12))],[(0,uZ_ 2)],3,37,[⟨1,12,20,0,some 20⟩,⟨2,15,21,0,some 21⟩],[],[]⟩,
 [(false,⟨[(0,.tup [])],[(0,xz_)],3,1,[],[],[(1,84),(2,85)]⟩),(true,⟨[(0,why)],[(0,vF_)],3,1,[],[],[(1,84),(2,85)]⟩)]⟩
def xy_:List AV:=aj_ 64 20++[.ptx 1 84 12 0,.slx 2 15 0,.slx 1 0 0,.slx 2 0 0,.sym 88]
def ft27:FT:=⟨2,⟨[(0,.ptr 0 0),(1,.agg (hs 25 12))],[(0,uZ_ 2)],3,37,[⟨1,12,20,0,some 20⟩,⟨2,15,21,0,some 21⟩],[],[]⟩,
 [(false,⟨[(0,.tup [.agg (hs 3 12),.slx 15 0 0])],[(0,xy_)],3,16,[⟨2,15,0,0,some 21⟩],[],[(1,84)]⟩)]⟩
def VARS:AV:=.vsl 7 10 [.str [97],.int .i64 1,.int .i64 2,.int .i64 0,.int .i64 2,.int .i64 0,.flt .f64 0,.int .i64 0,.int .i64 0,.flt .f64 0,.str [98],.int .i64 1,.int .i64 1,.int .i64 0,.int .i64 1,.int .i64 0,.flt .f64 0,.int .i64 0,.int .i64 0,.flt .f64 0,.str [111],.int .i64 2,.int .i64 2,.int .i64 0,.int .i64 2,.int .i64 1,.flt .f64 0,.int .i64 2,.int .i64 9,.flt .f64 0,.str [110],.int .i64 3,.int .i64 2,.int .i64 0,.int .i64 2,.int .i64 0,.flt .f64 0,.int .i64 0,.int .i64 0,.flt .f64 0,.str [120],.int .i64 3,.int .i64 2,.int .i64 0,.int .i64 2,.int .i64 0,.flt .f64 0,.int .i64 0,.int .i64 0,.flt .f64 0,.str [114],.int .i64 3,.int .i64 5,.int .i64 0,.int .i64 5,.int .i64 0,.flt .f64 0,.int .i64 0,.int .i64 0,.flt .f64 0,.str [107],.int .i64 3,.int .i64 2,.int .i64 3,.int .i64 2,.int .i64 0,.flt .f64 0,.int .i64 0,.int .i64 0,.flt .f64 0]
end Go.Proofs.YtijpblconliffaaGreatDoor.vars
set_option maxRecDepth 100000
set_option linter.unusedVariables false
set_option linter.unusedSimpArgs false
namespace Go.Proofs.YtijpblconliffaaGreatDoor.vars
open Go Go.Sx
instance gI:Gl:=glT gl0 nr0 []
theorem mo:Tryz.prog.follows .mixedOrders=true:=by kernel_rfl
theorem ov:kD_ Tryz.prog:=vv_ gl0 nr0 _
theorem a_ {P:Program} {Q:AV->Prop} {L:List (Nat->List AV->Prop)} {Y:Sy} {f:FuncId} {ft:FT} {hv vs:List AV} {n:Nat} {bs:VTs} {R:Nat->List AV->Prop} (h1:CF P f ft vs R) (h0:ab_ Y.v hv=vs) (h2:okL vs=true) (h3:r8_ P Q R L (Y.puts n vs) (Nat.add n ft.ent.nv) 0 bs):VOK P Q L Y (.callF f ft hv n bs):=by subst h0;exact uk_ h1 h2 h3
theorem dT {p:Prop} [Decidable p] (h:decide p=true):p:=of_decide_eq_true h
theorem dF {p:Prop} [Decidable p] (h:decide p=false):¬p:=of_decide_eq_false h
theorem e_ {x y:Int} {t:TypeId} {cx cy:Bool} (h1: -9223372036854775807<=x+y) (h2:x+y<=9223372036854775807):(XOp.bin .add t cx cy).run Tryz.prog [.int .i64 x,.int .i64 y]=some (.int .i64 (x+y)):=by rw [run_add,vz_ (by omega) (by omega)]
theorem eo_ {t:TypeId} {cx cy:Bool} {e:Int}:(XOp.bin .neq t cx cy).run Tryz.prog [.int .i64 e,.int .i64 e]=some (.bool false):=by rw [run_neq,decide_eq_true rfl];rfl
theorem n_ {cs:List AV} (h:okL cs=true):aX_ (.agg cs)=true:=kl_ (a:=.agg cs) h
theorem vM_ {a b:AV} (ha:aX_ a=true) (hb:aX_ b=true):aX_ (.tup [a,b])=true:=by simp only [aX_,cA_,ha,hb]
theorem um_ {α:Type} {enc:α->List AV} {w b:Nat} (hw:∀a,(enc a).length=w) (hwp:0<w) (hb:0<b) {l:List α} {x:AV} (h:SlV enc w l x) (hl:l.length*b<=1073741824):(XOp.app w b).run Tryz.prog [.vsl 0 w [],x]=some (dq_ enc w l):=by
 have ha:bl_ w x=some (l.length,bq_ enc l):=h.arg hw;show (match bl_ w x with|some (n,l')=>gu_ w b (.vsl 0 w []) n l'|none=>none)=_;rw [ha];show gu_ w b (.vsl 0 w []) l.length (bq_ enc l)=_;have h1:(bq_ enc l).length=l.length*w:=bC_ hw l;have hl1:l.length<=1073741824:=Nat.le_trans (Nat.le_mul_of_pos_right _ hb) hl;unfold gu_;simp only [h1,decide_true,List.length_nil,Nat.zero_mul,and_self];cases l with
 |nil=>rfl
 |cons c r=>have c1:(Nat.ble (Nat.mul (Nat.add 0 (r.length+1)) b) 1073741824&&Nat.ble (Nat.add 0 (r.length+1)) 1073741824&&Nat.blt 0 b)=true:=(by have e:Nat.mul (Nat.add 0 (r.length+1)) b=(r.length+1)*b:=(by show (0+(r.length+1))*b=_;rw [Nat.zero_add]);have e2:Nat.add 0 (r.length+1)=r.length+1:=Nat.zero_add _;have e3:Nat.blt 0 b=true:=(by rw [Nat.blt_eq];exact hb);rw [e,e2,e3,Nat.ble_eq_true_of_le (show (r.length+1)*b<=1073741824 from hl),Nat.ble_eq_true_of_le (show r.length+1<=1073741824 from hl1)];rfl);simp only [List.length_cons,c1];show some (AV.vsl (Nat.add 0 (r.length+1)) w ([]++bq_ enc (c::r)))=_;rw [show Nat.add 0 (r.length+1)=r.length+1 from Nat.zero_add _,List.nil_append];rfl
structure FV where
 k:Int
 i:Int
 f:Option Nat
def fv:Option Nat->AV
 |some n=>.flt .f64 n
 |none=>.nan .f64
theorem C_ (o:Option Nat):okC (fv o)=true:=by cases o<;>rfl
def FV.z:FV:=⟨0,0,some 0⟩
def h_ (v:FV):List AV:=[.int .i64 v.k,.int .i64 v.i,fv v.f]
theorem uT_ (v:FV):(h_ v).length=3:=rfl
theorem T_ (v:FV):okL (h_ v)=true:=by simp only [h_,okL,okC,C_]
def m_ (s:List UInt8):List AV:=[.str s]
theorem vt_ (s:List UInt8):(m_ s).length=1:=rfl
theorem okP (s:List UInt8):okL (m_ s)=true:=rfl
def y_ (c:UInt8):List AV:=[.int .u8 (c.toNat:Int)]
theorem wt_ (c:UInt8):(y_ c).length=1:=rfl
theorem O_ (c:UInt8):okL (y_ c)=true:=rfl
def R_ (n:Int):List AV:=[.int .i64 n]
theorem wb_ (n:Int):(R_ n).length=1:=rfl
theorem okI (n:Int):okL (R_ n)=true:=rfl
structure SV {α:Type} (enc:α->List AV) (w:Nat) where
 l:List α
 x:AV
 h:SlV enc w l x
def SV.nil {α:Type} {enc:α->List AV} {w:Nat}:SV enc w:=⟨[],.nsl,.inr ⟨rfl,rfl⟩⟩
def SV.of {α:Type} {enc:α->List AV} {w:Nat} (l:List α):SV enc w:=⟨l,cs_ enc w l,SlV.of l⟩
def SV.v {α:Type} {enc:α->List AV} {w:Nat} (l:List α):SV enc w:=⟨l,dq_ enc w l,SlV.v l⟩
theorem SV.ok {α:Type} {enc:α->List AV} {w:Nat} (s:SV enc w) (h:∀a,okL (enc a)=true):okC s.x=true:=s.h.ok h
structure GM where
 kind:Int
 id:Int
 err:Int
 n:Int
 seq:Int
 lost:Bool
 every:Int
 band:FV
 paths:SV m_ 1
 vals:SV h_ 3
def c_ (m:GM):List AV:=[.int .i64 m.kind,.int .i64 m.id,.int .i64 m.err,.int .i64 m.n,.int .i64 m.seq,.bool m.lost,.int .i64 m.every,.int .i64 m.band.k,.int .i64 m.band.i,fv m.band.f,m.paths.x,m.vals.x]
theorem uO_ (m:GM):(c_ m).length=12:=rfl
theorem x_ (m:GM):okL (c_ m)=true:=by simp only [c_,okL,okC,C_,m.paths.ok okP,m.vals.ok T_]
def GM.Sm (m:GM):Prop:=m.paths.l.length<=1000/\m.vals.l.length<=1000
structure GT where
 seq:Int
 v:FV
 lost:Bool
def uo_ (t:GT):List AV:=[.int .i64 t.seq,.int .i64 t.v.k,.int .i64 t.v.i,fv t.v.f,.bool t.lost]
theorem xe_ (t:GT):(uo_ t).length=5:=rfl
theorem okT (t:GT):okL (uo_ t)=true:=by simp only [uo_,okL,okC,C_]
structure GW where
 num:Int
 addr:Int
 every:Int
 due:Int
 band:FV
 most:Int
 has:Bool
 lost:Bool
 last:FV
 seq:Int
 queue:SV uo_ 5
def d_ (w:GW):List AV:=[.int .i64 w.num,.int .i64 w.addr,.int .i64 w.every,.int .i64 w.due,.int .i64 w.band.k,.int .i64 w.band.i,fv w.band.f,.int .i64 w.most,.bool w.has,.bool w.lost,.int .i64 w.last.k,.int .i64 w.last.i,fv w.last.f,.int .i64 w.seq,w.queue.x]
theorem en_ (w:GW):(d_ w).length=15:=rfl
theorem Q_ (w:GW):okL (d_ w)=true:=by simp only [d_,okL,okC,C_,w.queue.ok okT]
def GW.Sm (w:GW):Prop:=w.queue.l.length<=1000
structure GR where
 sess:Int
 id:Int
 addrs:SV R_ 1
 vals:SV h_ 3
def encR (r:GR):List AV:=[.int .i64 r.sess,.int .i64 r.id,r.addrs.x,r.vals.x]
theorem vu_ (r:GR):(encR r).length=4:=rfl
theorem r_ (r:GR):okL (encR r)=true:=by simp only [encR,okL,okC,r.addrs.ok okI,r.vals.ok T_]
def GR.Sm (r:GR):Prop:=r.addrs.l.length<=1000/\r.vals.l.length<=1000
structure GS where
 on:Bool
 seen:Int
 b:SV y_ 1
 bad:Bool
 inn:SV c_ 12
 out:SV c_ 12
 subs:SV d_ 15
 num:Int
def s_ (s:GS):List AV:=[.bool s.on,.int .i64 s.seen,s.b.x,.bool s.bad,s.inn.x,s.out.x,s.subs.x,.int .i64 s.num]
theorem okS (s:GS):okL (s_ s)=true:=by simp only [s_,okL,okC,s.b.ok O_,s.inn.ok x_,s.out.ok x_,s.subs.ok Q_]
structure GS.Sm (s:GS):Prop where
 b:s.b.l.length<=1000000
 inn:s.inn.l.length<=1000
 out:s.out.l.length<=1000
 subs:s.subs.l.length<=1000
 inM:∀m∈s.inn.l,m.Sm
 outM:∀m∈s.out.l,m.Sm
 subM:∀w∈s.subs.l,w.Sm
structure GG where
 path:List UInt8
 addr:Int
 kind:Int
 role:Int
def t_ (t:GG):List AV:=[.str t.path,.int .i64 t.addr,.int .i64 t.kind,.int .i64 t.role]
theorem vs_ (t:GG):(t_ t).length=4:=rfl
theorem S_ (t:GG):okL (t_ t)=true:=rfl
end Go.Proofs.YtijpblconliffaaGreatDoor.vars
set_option maxRecDepth 100000
set_option linter.unusedVariables false
set_option linter.unusedSimpArgs false
namespace Go.Proofs.YtijpblconliffaaGreatDoor.vars
open Go Go.Sx
def c49:VC:=⟨⟨[],[]⟩,[],[],0,true,[]⟩
def t49:VT:=
 (K (.bin .eql 49 false true) [64,.nsl] 65
 (.ite 65
 (.done (.nsl))
 (K (.app 1 8) [.vsl 0 1 [],64] 66
 (.done (66)))))
def c50:VC:=⟨⟨[],[]⟩,[],[],0,true,[]⟩
def t50:VT:=
 (K (.bin .eql 26 false true) [64,.nsl] 65
 (.ite 65
 (.done (.nsl))
 (K Qp [.vsl 0 3 [],64] 66
 (.done (66)))))
def wY_:VC:=⟨⟨[],[]⟩,[],[],0,true,[]⟩
def wD_:VT:=
 (K (.bin .eql 22 false true) [64,.nsl] 65
 (.ite 65
 (.done (.nsl))
 (K (.app 1 1) [.vsl 0 1 [],64] 66
 (.done (66)))))
def w1_:VC:=⟨⟨[],[]⟩,[],[],0,true,[]⟩
def wG_:VT:=
 (K (.bin .eql 98 false true) [64,.nsl] 65
 (.ite 65
 (.done (.nsl))
 (K (.app 5 40) [.vsl 0 5 [],64] 66
 (.done (66)))))
def w6_:VC:=⟨⟨[],[]⟩,[],[],0,true,[]⟩
def wP_:VT:=
 (K (.bin .eql 52 false true) [64,.nsl] 65
 (.ite 65
 (.done (.nsl))
 (K Qq [.vsl 0 1 [],64] 66
 (.done (66)))))
def w0_:VC:=⟨⟨[],[]⟩,[],[],0,true,[]⟩
def wF_:VT:=
 (K (.bin .eql 43 false true) [64,.nsl] 65
 (.ite 65
 (.done (.tup [J 0,.nsl]))
 (K (.app 15 128) [.vsl 0 15 [],64] 66
 (.done (.tup [J 0,66])))))
def w5_:VC:=⟨⟨[],[]⟩,[(154,[none]),(50,[none])],[],0,true,[]⟩
def wO_:VT:=.call 154 [74] 76 [none]<|.call 50 [75] 77 [none]<|.done (.agg [64,65,66,67,68,69,70,71,72,73,76,77])
def wZ_:VC:=⟨⟨[],[]⟩,[(144,[(some 12)])],[(0,[⟨[(7,.slx 0 0 0),(2,.slx 0 12 1),(5,64),(6,65)],[],1,2,[⟨0,12,1,2,none⟩],[],[]⟩])],0,true,[]⟩
def wE_:VT:=
 (K Qa [64] 65
 (.loop 66 0 [J 0,.nsl]
 (.cons 2
 (K Q2 [66,65] 68
 (.ite 68
 (K Qe [64,66] 69
 (.lt (.load 54) [69] 70 (some 12)
 (.call 144 [.agg [70,71,72,73,74,75,76,77,78,79,80,81]] 82 [(some 12)]
 (K Qr [67,.agg [82,83,84,85,86,87,88,89,90,91,92,93]] 94
 (K Q1 [66,J 1] 95
 (.again 0 0 [95,94]))))))
 (.done (.tup [J 0,67]))))
 .nil)))
def w3_:VC:=⟨⟨[],[]⟩,[(49,[none]),(50,[none])],[],0,true,[]⟩
def wM_:VT:=.call 49 [66] 68 [none]<|.call 50 [67] 69 [none]<|.done (.agg [64,65,68,69])
def c26:VC:=⟨⟨[],[]⟩,[(49,[none]),(50,[none])],[(0,[⟨[(7,.slx 0 0 0),(2,.slx 0 4 1),(5,64),(6,65)],[],1,2,[⟨0,4,1,2,none⟩],[],[]⟩])],0,true,[]⟩
def t26:VT:=
 (K Q5 [64] 65
 (.loop 66 0 [J 0,.nsl]
 (.cons 2
 (K Q2 [66,65] 68
 (.ite 68
 (K Q3 [64,66] 69
 (.lt (.load 51) [69] 70 (some 4)
 (.call 49 [72] 74 [none]
 (.call 50 [73] 75 [none]
 (K Qx [67,.agg [70,71,74,75]] 76
 (K Q1 [66,J 1] 77
 (.again 0 0 [77,76])))))))
 (.done (67))))
 .nil)))
def w2_:VC:=⟨⟨[],[]⟩,[(133,[(some 4)])],[(0,[⟨[(7,.slx 0 0 0),(2,.slx 0 4 1),(5,64),(6,65)],[],1,2,[⟨0,4,1,2,none⟩],[],[]⟩])],0,true,[]⟩
def wL_:VT:=
 (K Q5 [64] 65
 (.loop 66 0 [J 0,.nsl]
 (.cons 2
 (K Q2 [66,65] 68
 (.ite 68
 (K Q3 [64,66] 69
 (.lt (.load 51) [69] 70 (some 4)
 (.call 133 [.agg [70,71,72,73]] 74 [(some 4)]
 (K Qx [67,.agg [74,75,76,77]] 78
 (K Q1 [66,J 1] 79
 (.again 0 0 [79,78]))))))
 (.done (.tup [J 0,67]))))
 .nil)))
theorem p49 (s:SV R_ 1) (hl:s.l.length<=1000):jv_ Tryz.prog 49 [s.x] s.x:=by obtain ⟨l,x,h⟩:=s;have hx:=h.ok okI;simp only at hl⊢;refine tX_ (sh:=[none]) (ls:=[x]) (c:=c49) (n:=300) (t:=t49) mo ov (by rcases h with rfl|⟨_,rfl⟩<;>rfl) (by simp only [okL,hx]) (pW_ hx) (λY _=>vq_ _) rfl (by kernel_rfl) λY hf hg=>?_;unfold t49;rcases h with rfl|⟨_,rfl⟩;refine vj_ (r:=.bool false) (by kernel_rfl) rfl (u1_ (t:=false) rfl (λh=>by cases h) (λ_=>?_));exact vj_ (um_ wb_ (by decide) (by decide) (SlV.v (enc:=R_) (w:=1) l) (by omega)) (r5_ okI _) (us_ rfl);exact vj_ (r:=.bool true) (by kernel_rfl) rfl (u1_ (t:=true) rfl (λ_=>us_ rfl) (λh=>by cases h))
theorem p50 (s:SV h_ 3) (hl:s.l.length<=1000):jv_ Tryz.prog 50 [s.x] s.x:=by obtain ⟨l,x,h⟩:=s;have hx:=h.ok T_;simp only at hl⊢;refine tX_ (sh:=[none]) (ls:=[x]) (c:=c50) (n:=300) (t:=t50) mo ov (by rcases h with rfl|⟨_,rfl⟩<;>rfl) (by simp only [okL,hx]) (pW_ hx) (λY _=>vq_ _) rfl (by kernel_rfl) λY hf hg=>?_;unfold t50;rcases h with rfl|⟨_,rfl⟩;refine vj_ (r:=.bool false) (by kernel_rfl) rfl (u1_ (t:=false) rfl (λh=>by cases h) (λ_=>?_));exact vj_ (um_ uT_ (by decide) (by decide) (SlV.v (enc:=h_) (w:=3) l) (by omega)) (r5_ T_ _) (us_ rfl);exact vj_ (r:=.bool true) (by kernel_rfl) rfl (u1_ (t:=true) rfl (λ_=>us_ rfl) (λh=>by cases h))
theorem xn_ (s:SV y_ 1) (hl:s.l.length<=1000000):jv_ Tryz.prog 121 [s.x] s.x:=by obtain ⟨l,x,h⟩:=s;have hx:=h.ok O_;simp only at hl⊢;refine tX_ (sh:=[none]) (ls:=[x]) (c:=wY_) (n:=300) (t:=wD_) mo ov (by rcases h with rfl|⟨_,rfl⟩<;>rfl) (by simp only [okL,hx]) (pW_ hx) (λY _=>vq_ _) rfl (by kernel_rfl) λY hf hg=>?_;unfold wD_;rcases h with rfl|⟨_,rfl⟩;refine vj_ (r:=.bool false) (by kernel_rfl) rfl (u1_ (t:=false) rfl (λh=>by cases h) (λ_=>?_));exact vj_ (um_ wt_ (by decide) (by decide) (SlV.v (enc:=y_) (w:=1) l) (by omega)) (r5_ O_ _) (us_ rfl);exact vj_ (r:=.bool true) (by kernel_rfl) rfl (u1_ (t:=true) rfl (λ_=>us_ rfl) (λh=>by cases h))
theorem xp_ (s:SV uo_ 5) (hl:s.l.length<=1000):jv_ Tryz.prog 124 [s.x] s.x:=by obtain ⟨l,x,h⟩:=s;have hx:=h.ok okT;simp only at hl⊢;refine tX_ (sh:=[none]) (ls:=[x]) (c:=w1_) (n:=300) (t:=wG_) mo ov (by rcases h with rfl|⟨_,rfl⟩<;>rfl) (by simp only [okL,hx]) (pW_ hx) (λY _=>vq_ _) rfl (by kernel_rfl) λY hf hg=>?_;unfold wG_;rcases h with rfl|⟨_,rfl⟩;refine vj_ (r:=.bool false) (by kernel_rfl) rfl (u1_ (t:=false) rfl (λh=>by cases h) (λ_=>?_));exact vj_ (um_ xe_ (by decide) (by decide) (SlV.v (enc:=uo_) (w:=5) l) (by omega)) (r5_ okT _) (us_ rfl);exact vj_ (r:=.bool true) (by kernel_rfl) rfl (u1_ (t:=true) rfl (λ_=>us_ rfl) (λh=>by cases h))
theorem xv_ (s:SV m_ 1) (hl:s.l.length<=1000):jv_ Tryz.prog 154 [s.x] s.x:=by obtain ⟨l,x,h⟩:=s;have hx:=h.ok okP;simp only at hl⊢;refine tX_ (sh:=[none]) (ls:=[x]) (c:=w6_) (n:=300) (t:=wP_) mo ov (by rcases h with rfl|⟨_,rfl⟩<;>rfl) (by simp only [okL,hx]) (pW_ hx) (λY _=>vq_ _) rfl (by kernel_rfl) λY hf hg=>?_;unfold wP_;rcases h with rfl|⟨_,rfl⟩;refine vj_ (r:=.bool false) (by kernel_rfl) rfl (u1_ (t:=false) rfl (λh=>by cases h) (λ_=>?_));exact vj_ (um_ vt_ (by decide) (by decide) (SlV.v (enc:=m_) (w:=1) l) (by omega)) (r5_ okP _) (us_ rfl);exact vj_ (r:=.bool true) (by kernel_rfl) rfl (u1_ (t:=true) rfl (λ_=>us_ rfl) (λh=>by cases h))
theorem xo_ (s:SV d_ 15) (hl:s.l.length<=1000):CF Tryz.prog 123 vm_ [s.x] (λ_ ws=>ws=[s.x]):=by obtain ⟨l,x,h⟩:=s;have hx:=h.ok Q_;simp only at hl⊢;refine u4_ (c:=w0_) (n:=300) (t:=wF_) mo ov rfl (λY _=>vq_ _) (by kernel_rfl) λY hf hg=>?_;unfold wF_;rcases h with rfl|⟨_,rfl⟩;refine vj_ (r:=.bool false) (by kernel_rfl) rfl (u1_ (t:=false) rfl (λh=>by cases h) (λ_=>?_));exact vj_ (um_ en_ (by decide) (by decide) (SlV.v (enc:=d_) (w:=15) l) (by omega)) (r5_ Q_ _) (VOK_fin (by show okL [dq_ d_ 15 l]=true;simp only [okL,r5_ Q_]) rfl);exact vj_ (r:=.bool true) (by kernel_rfl) rfl (u1_ (t:=true) rfl (λ_=>VOK_fin rfl rfl) (λh=>by cases h))
theorem xs_ (m:GM) (hm:m.Sm):jv_ Tryz.prog 144 [.agg (c_ m)] (.agg (c_ m)):=by have okm:=x_ m;refine tX_ (sh:=[some 12]) (ls:=c_ m) (c:=w5_) (n:=300) (t:=wO_) mo ov rfl okm (n_ okm) (λY _=>vq_ _) rfl (by kernel_rfl) λY hf hg=>?_;unfold wO_;refine ur_ (xv_ m.paths hm.1) rfl (by simp only [okL,m.paths.ok okP]) (ur_ (p50 m.vals hm.2) rfl (by simp only [okL,m.vals.ok T_]) (us_ rfl))
theorem wB_ (r:GR) (hm:r.Sm):jv_ Tryz.prog 133 [.agg (encR r)] (.agg (encR r)):=by have okm:=r_ r;refine tX_ (sh:=[some 4]) (ls:=encR r) (c:=w3_) (n:=300) (t:=wM_) mo ov rfl okm (n_ okm) (λY _=>vq_ _) rfl (by kernel_rfl) λY hf hg=>?_;unfold wM_;refine ur_ (p49 r.addrs hm.1) rfl (by simp only [okL,r.addrs.ok okI]) (ur_ (p50 r.vals hm.2) rfl (by simp only [okL,r.vals.ok T_]) (us_ rfl))
theorem iaM (s:SV c_ 12) {i:Nat} (h:i<s.l.length):(XOp.iaddr 42).run Tryz.prog [s.x,.int .i64 (i:Int)]=some (.vptr (bq_ c_ (s.l.drop i))):=s.h.ia (e:=54) Tryz.underlying42 (ti:=(Tryz.prog.info? 54).get!) (by kernel_rfl) (by kernel_rfl) uO_ h .i64
theorem ldM {l:List GM} {i:Nat} (h:i<l.length):(XOp.load 54).run Tryz.prog [.vptr (bq_ c_ (l.drop i))]=some (.agg (c_ l[i])):=sO_ (ti:=(Tryz.prog.info? 54).get!) Tryz.underlying54 rfl (by kernel_rfl) (by kernel_rfl) uO_ h
theorem iaR (s:SV encR 4) {i:Nat} (h:i<s.l.length):(XOp.iaddr 47).run Tryz.prog [s.x,.int .i64 (i:Int)]=some (.vptr (bq_ encR (s.l.drop i))):=s.h.ia (e:=51) Tryz.underlying47 (ti:=(Tryz.prog.info? 51).get!) (by kernel_rfl) (by kernel_rfl) vu_ h .i64
theorem ldR {l:List GR} {i:Nat} (h:i<l.length):(XOp.load 51).run Tryz.prog [.vptr (bq_ encR (l.drop i))]=some (.agg (encR l[i])):=sO_ (ti:=(Tryz.prog.info? 51).get!) Tryz.underlying51 rfl (by kernel_rfl) (by kernel_rfl) vu_ h
theorem f_ {α:Type} {l:List α} {i:Nat} (h:i<l.length):l.take (i+1)=l.take i++[l[i]]:=by rw [List.take_add_one,List.getElem?_eq_getElem h];rfl
theorem wz_ (s:SV c_ 12) (hl:s.l.length<=1000) (hm:∀m∈s.l,m.Sm):CF Tryz.prog 122 sm_ [s.x] (λ_ ws=>ws=[cs_ c_ 12 s.l]):=by
 have hx:=s.ok x_;refine u4_ (c:=wZ_) (n:=300) (t:=wE_) mo ov rfl (λY _=>vq_ _) (by kernel_rfl) λY hf hg=>?_;unfold wE_;refine vj_ (s.h.len Tryz.underlying42) rfl ?_;refine ut_ (ι:=Nat) (λi=>[.int .i64 (i:Int),cs_ c_ 12 (s.l.take i)]) (λi=>i<=s.l.length) (λi=>s.l.length-i) 0 (Nat.zero_le _) rfl (λ_ _=>by simp only [okL,okC,t5_ x_]) (λi j _ _ h=>?_) (λi hi=>?_)
 .have h:=(List.cons.inj h).1;injection h with _ h
  omega
 refine vj_ (run_lss ..) rfl (u1_ rfl (λhc=>?_) (λhc=>?_));have hc:(i:Int)<(s.l.length:Int):=dT hc;have hc:i<s.l.length:=(by omega);refine vj_ (iaM s hc) (kO_ x_ _) (u2_ (ldM hc) rfl (x_ _) (ur_ (xs_ s.l[i] (hm _ (List.getElem_mem hc))) rfl (x_ _) ?_));refine vj_ (t0_ uO_ (by decide) (by decide) (s.l.take i) s.l[i] (by rw [List.length_take];omega)) (t5_ x_ _) (vj_ (e_ (by omega) (by omega)) rfl (uj_ rfl ⟨i+1,hc,?_,by omega⟩));rw [f_ hc];rfl;have hc:¬(i:Int)<(s.l.length:Int):=dF hc;have e:i=s.l.length:=(by omega);subst e;refine VOK_fin (by show okL [cs_ c_ 12 _]=true;simp only [okL,t5_ x_]) ?_;show [cs_ c_ 12 (s.l.take s.l.length)]=_;rw [List.take_length]
theorem wA_ (s:SV encR 4) (hl:s.l.length<=1000) (hm:∀m∈s.l,m.Sm):CF Tryz.prog 132 su_ [s.x] (λ_ ws=>ws=[cs_ encR 4 s.l]):=by
 have hx:=s.ok r_;refine u4_ (c:=w2_) (n:=300) (t:=wL_) mo ov rfl (λY _=>vq_ _) (by kernel_rfl) λY hf hg=>?_;unfold wL_;refine vj_ (s.h.len Tryz.underlying47) rfl ?_;refine ut_ (ι:=Nat) (λi=>[.int .i64 (i:Int),cs_ encR 4 (s.l.take i)]) (λi=>i<=s.l.length) (λi=>s.l.length-i) 0 (Nat.zero_le _) rfl (λ_ _=>by simp only [okL,okC,t5_ r_]) (λi j _ _ h=>?_) (λi hi=>?_)
 .have h:=(List.cons.inj h).1;injection h with _ h
  omega
 refine vj_ (run_lss ..) rfl (u1_ rfl (λhc=>?_) (λhc=>?_));have hc:(i:Int)<(s.l.length:Int):=dT hc;have hc:i<s.l.length:=(by omega);refine vj_ (iaR s hc) (kO_ r_ _) (u2_ (ldR hc) rfl (r_ _) (ur_ (wB_ s.l[i] (hm _ (List.getElem_mem hc))) rfl (r_ _) ?_));refine vj_ (t0_ vu_ (by decide) (by decide) (s.l.take i) s.l[i] (by rw [List.length_take];omega)) (t5_ r_ _) (vj_ (e_ (by omega) (by omega)) rfl (uj_ rfl ⟨i+1,hc,?_,by omega⟩));rw [f_ hc];rfl;have hc:¬(i:Int)<(s.l.length:Int):=dF hc;have e:i=s.l.length:=(by omega);subst e;refine VOK_fin (by show okL [cs_ encR 4 _]=true;simp only [okL,t5_ r_]) ?_;show [cs_ encR 4 (s.l.take s.l.length)]=_;rw [List.take_length]
theorem p26 (s:SV encR 4) (hl:s.l.length<=1000) (hm:∀m∈s.l,m.Sm):jv_ Tryz.prog 26 [s.x] (cs_ encR 4 s.l):=by
 have hx:=s.ok r_;refine tX_ (sh:=[none]) (ls:=[s.x]) (c:=c26) (n:=300) (t:=t26) mo ov (by rcases s.h with h|⟨_,h⟩<;>rw [h]<;>rfl) (by simp only [okL,hx]) (pW_ (t5_ r_ _)) (λY _=>vq_ _) rfl (by kernel_rfl) λY hf hg=>?_;unfold t26;refine vj_ (s.h.len Tryz.underlying47) rfl ?_;refine ut_ (ι:=Nat) (λi=>[.int .i64 (i:Int),cs_ encR 4 (s.l.take i)]) (λi=>i<=s.l.length) (λi=>s.l.length-i) 0 (Nat.zero_le _) rfl (λ_ _=>by simp only [okL,okC,t5_ r_]) (λi j _ _ h=>?_) (λi hi=>?_)
 .have h:=(List.cons.inj h).1;injection h with _ h
  omega
 refine vj_ (run_lss ..) rfl (u1_ rfl (λhc=>?_) (λhc=>?_));have hc:(i:Int)<(s.l.length:Int):=dT hc;have hc:i<s.l.length:=(by omega);have hmi:=hm _ (List.getElem_mem hc);refine vj_ (iaR s hc) (kO_ r_ _) (u2_ (ldR hc) rfl (r_ _) (ur_ (p49 s.l[i].addrs hmi.1) rfl (by simp only [okL,s.l[i].addrs.ok okI]) (ur_ (p50 s.l[i].vals hmi.2) rfl (by simp only [okL,s.l[i].vals.ok T_]) ?_)));refine vj_ (t0_ vu_ (by decide) (by decide) (s.l.take i) s.l[i] (by rw [List.length_take];omega)) (t5_ r_ _) (vj_ (e_ (by omega) (by omega)) rfl (uj_ rfl ⟨i+1,hc,?_,by omega⟩));rw [f_ hc];rfl;have hc:¬(i:Int)<(s.l.length:Int):=dF hc;have e:i=s.l.length:=(by omega);subst e;refine us_ ?_;show cs_ encR 4 (s.l.take s.l.length)=_;rw [List.take_length]
end Go.Proofs.YtijpblconliffaaGreatDoor.vars
set_option linter.unusedVariables false
set_option linter.unusedSimpArgs false
namespace Go.Sx
section
variable {P:Program} {t:TypeId} {ti:TypeInfo} {α:Type} {enc:α->List AV} {w:Nat}
theorem l_:∀(a xs b c:List AV),b.length=xs.length->c9_ a.length xs (a++(b++c))=some (a++(xs++c))
 |[],[],[],c,_=>by cases c<;>rfl
 |[],x::xs,y::b,c,h=>by have ih:=l_ [] xs b c (by simpa using h);simp only [List.nil_append,List.length_nil,List.cons_append]at ih⊢;simp only [c9_,ih]
 |[],x::xs,[],c,h=>by simp at h
 |[],[],y::b,c,h=>by simp at h
 |x::a,xs,b,c,h=>by simp only [List.cons_append,List.length_cons,c9_,l_ a xs b c h]
theorem vc_ (hw:∀a,(enc a).length=w) (l:List α) {i:Nat} (hi:i<l.length):∃a b,bq_ enc l=a++(enc l[i]++b)/\a.length=i*w/\∀x,bq_ enc (l.set i x)=a++(enc x++b):=by
 refine ⟨bq_ enc (l.take i),bq_ enc (l.drop (i+1)),?_,?_,λx=>?_⟩;have h1:l=l.take i++l[i]::l.drop (i+1):=(by rw [List.getElem_cons_drop,List.take_append_drop]);have h2:=congrArg (bq_ enc) h1;rw [dh_]at h2;exact h2
 .rw [bC_ hw,List.length_take];congr 1;omega
 rw [List.set_eq_take_append_cons_drop,if_pos hi,dh_];rfl
theorem vR_ (hw:∀a,(enc a).length=w) {l:List α} {i:Nat} (hi:i<l.length) {off:Nat} {v:AV} {xs p q r:List AV} {y:α} (hc:v.cells=xs) (ho:v≠ .opq) (hinf:P.info? t=some ti) (hs:ti.size=xs.length) (h1:a8_ xs=true)
  (he:enc l[i]=p++(q++r)) (hp:p.length=off) (hq:q.length=xs.length) (hy:enc y=p++(xs++r)) (k:IntKind):(XOp.stx t w off).run P [cs_ enc w l,.int k (i:Int),v]=some (cs_ enc w (l.set i y)):=by
 obtain ⟨a,b,e1,e2,e3⟩:=vc_ hw l hi;obtain ⟨x0,l',rfl⟩:∃x l',l=x::l':=by cases l with|nil=>simp at hi|cons x l'=>exact ⟨x,l',rfl⟩
 have cI_:∃z l'',(x0::l').set i y=z::l''/\l''.length=l'.length:=by
  cases i with
  |zero=>exact ⟨y,l',rfl,rfl⟩
  |succ i=>exact ⟨x0,l'.set i y,rfl,by simp⟩
 obtain ⟨z,l'',e4,e5⟩:=cI_;have hst:b9_ P (rv_ (bq_ enc (x0::l'))) t (.ptr 0 (i*w+off)) v=some (.tup [],(rv_ (bq_ enc (x0::l'))).set 0 (.cells (bq_ enc ((x0::l').set i y)))):=by
  have hg:(rv_ (bq_ enc (x0::l'))).get 0=some (.cells (bq_ enc (x0::l'))):=rfl;have hsa:c9_ (i*w+off) xs (bq_ enc (x0::l'))=some (bq_ enc ((x0::l').set i y)):=(by have:=l_ (a++p) xs q (r++b) hq;rw [List.length_append,e2,hp]at this;rw [e1,he,e3,hy];simpa [List.append_assoc]using this);have hb:Nat.beq xs.length ti.size=true:=(by rw [hs];exact Nat.beq_refl _);cases v with
  |opq=>exact absurd rfl ho
  |_=>simp only [b9_,hinf];simp only [hc,hb,h1,hg,hsa]
 show (match b9_ P (rv_ (bq_ enc (x0::l'))) t (.ptr 0 (Nat.add (Nat.mul i w) off)) v with
  |some r=>match r.2.get 0 with
   |some (.cells cs')=>some (AV.vsl (l'.length+1) w cs')
   |_=>none
  |none=>none)=_
 have e6:Nat.add (Nat.mul i w) off=i*w+off:=rfl;rw [e6,hst];have hg2:∀c:List AV,((rv_ (bq_ enc (x0::l'))).set 0 (.cells c)).get 0=some (.cells c):=λc=>rfl;simp only [hg2];rw [e4];show _=some (AV.vsl (l''.length+1) w (bq_ enc (z::l'')));rw [e5]
theorem vP_ {l:List α} {i:Nat} (hi:i<l.length) (k:IntKind):(XOp.inb).run P [cs_ enc w l,.int k (i:Int)]=some (.int .i64 (i:Int)):=by
 cases l with
 |nil=>simp at hi
 |cons x r=>
  show (match Sx.idx (i:Int) (r.length+1)with|some n=>some (AV.int .i64 (.ofNat n))|none=>none)=_;have hb:Nat.blt i (r.length+1)=true:=(by simpa [Nat.blt_eq]using hi);have:Sx.idx (i:Int) (r.length+1)=some i:=by show (match Nat.blt i (r.length+1)with|true=>some i|false=>none)=some i;rw [hb]
  rw [this];rfl
end
theorem F_:∀{l:List AV},okL l=true->a8_ l=true
 |[],_=>rfl
 |a::r,h=>by rw [aY_]at h;obtain ⟨h1,h2⟩:=aa_ h;have:a.one=true:=(by cases a<;>first|rfl|(simp [okC]at h1));simp only [a8_,this,F_ h2]
end Go.Sx
set_option linter.unusedVariables false
set_option linter.unusedSimpArgs false
namespace Go.Sx
section
variable {P:Program} {t:TypeId} {ti:TypeInfo} {α:Type} {enc:α->List AV} {w:Nat}
theorem vD_ {d:TypeDesc} (ht:P.underlying t=some d) (ha:lD_ d=true) (hinf:P.info? t=some ti) (hs:ti.size=w) (hw:∀a,(enc a).length=w) {l:List α} {i:Nat} (hi:i<l.length) (k:IntKind):(XOp.ldx t w 0).run P [cs_ enc w l,.int k (i:Int)]=some (.agg (enc l[i])):=by
 obtain ⟨a,b,e1,e2,_⟩:=vc_ hw l hi;obtain ⟨x0,l',rfl⟩:∃x l',l=x::l':=by cases l with|nil=>simp at hi|cons x l'=>exact ⟨x,l',rfl⟩
 show bg_ P (rv_ (bq_ enc (x0::l'))) t (.ptr 0 (i*w+0))=_;unfold bg_;simp only [ht,ha,hinf];have hg:(rv_ (bq_ enc (x0::l'))).get 0=some (.cells (bq_ enc (x0::l'))):=rfl;unfold aT_;simp only [hg];have hd:ai_ (i*w+0) (bq_ enc (x0::l'))=enc (x0::l')[i]++b:=by rw [az_,e1,Nat.add_zero,←e2,List.drop_left]
 have hl:ti.size=(enc (x0::l')[i]).length:=by rw [hs,hw]
 rw [hd,hl,dp_]
end
end Go.Sx
set_option maxRecDepth 100000
set_option linter.unusedVariables false
set_option linter.unusedSimpArgs false
namespace Go.Proofs.YtijpblconliffaaGreatDoor.vars
open Go Go.Sx
def c89:VC:=⟨⟨[],[]⟩,[(121,[none]),(124,[none])],[(10003,[⟨[],[],0,0,[],[],[(1,4)]⟩]),(0,[⟨[(26,.slx 0 0 0),(1,.ptr 0 0),(24,.slx 2 15 1),(2,.ptr 1 0),(25,79)],[(0,[64,65,72,67,74,.slx 3 12 2,.slx 2 15 1,71]),(1,[.bool false,J 0,.nsl,.bool false,.nsl,.nsl,.nsl,J 0])],4,3,[⟨2,15,1,24,none⟩,⟨2,15,1,0,(some 6)⟩,⟨3,12,2,0,(some 5)⟩],[],[]⟩])],0,true,[(122,sm_),(123,vm_)]⟩
def t89:VT:=
 (.call 121 [66] 72 [none]
 (.callF 122 sm_ [68] 73
 (.cons 1
 (.callF 122 sm_ [69] 75
 (.cons 1
 (.callF 123 vm_ [70] 77
 (.cons 1
 (K Qs [78] 79
 (.loop 80 0 [J 0,78,76]
 (.cons 3
 (K Q2 [80,79] 83
 (.ite 83
 (K .inb [81,80] 84
 (.lt Qy [81,84] 85 (some 15)
 (.call 124 [99] 100 [none]
 (K .inb [81,80] 101
 (K (.stx 98 15 14) [81,101,100] 102
 (K Q1 [80,J 1] 103
 (.chk (.same 81 102)
 (.chk (.same 81 102)
 (.again 0 0 [103,102,82])))))))))
 (.done (.tup [J 0,64,65,72,67,74,82,81,71]))))
 .nil)))
 .nil))
 .nil))
 .nil)))
def c48:VC:=⟨⟨[],[]⟩,[(90,[(some 15)])],[(0,[⟨[(14,.slx 0 0 0),(2,73),(1,72),(3,.ptr 0 0),(12,.slx 2 15 1),(6,.ptr 1 0),(13,90)],[(0,[82,83,84,85,86,.slx 3 12 2,.slx 2 15 1,89]),(1,[.bool false,J 0,.nsl,.bool false,.nsl,.nsl,.nsl,J 0])],4,3,[⟨2,15,1,12,none⟩,⟨2,15,1,0,(some 6)⟩,⟨3,12,2,0,(some 5)⟩],[],[]⟩])],0,true,[(89,vK_)]⟩
def t48:VT:=
 (.callF 89 vK_ [64,65,66,67,68,69,70,71] 74
 (.cons 8
 (K Qs [88] 90
 (.loop 91 0 [J 0,88,87]
 (.cons 3
 (K Q2 [91,90] 94
 (.ite 94
 (K .inb [92,91] 95
 (.lt Qy [92,95] 96 (some 15)
 (K Qt [97,J 0] 111
 (.ite 111
 (K Qf [72] 112
 (K Q2 [97,112] 113
 (.ite 113
 (K Qk [72,97] 114
 (.lt Qu [114] 115 (some 3)
 (.call 90 [.agg [96,97,98,99,100,101,102,103,104,105,106,107,108,109,110],.agg [115,116,117],73] 118 [(some 15)]
 (K .inb [92,91] 133
 (K (.stx 100 15 0) [92,133,.agg [118,119,120,121,122,123,124,125,126,127,128,129,130,131,132]] 134
 (K Q1 [91,J 1] 135
 (.chk (.same 92 134)
 (.chk (.same 92 134)
 (.again 0 0 [135,134,93])))))))))
 (K Q1 [91,J 1] 114
 (.again 0 0 [114,92,93])))))
 (K Q1 [91,J 1] 112
 (.again 0 0 [112,92,93]))))))
 (.done (.tup [J 0,82,83,84,85,86,93,92,89]))))
 .nil)))
 .nil))
def c25:VC:=⟨⟨[],[]⟩,[],[],0,true,[(48,v3_)]⟩
def t25:VT:=Cf 48 v3_ [64,65,66,67,68,69,70,71,.nsl,J 0] 72 8<|Dn [82,83,84,85,86,87,88,89]
def D_ (s:GS):GS:={ s with inn:=.of s.inn.l,out:=.of s.out.l }
def RS (s:GS):Nat->List AV->Prop:=λ_ ws=>ws=s_ (D_ s)
theorem vE_ (l:List GW) {i:Nat} (hi:i<l.length):l.set i l[i]=l:=List.set_getElem_self hi
theorem wp_ (s:SV d_ 15):(some s.x=some .nsl/\some s.x=some .nsl)\/∃n z cs ds,some s.x=some (.vsl n z cs)/\some s.x=some (.vsl n z ds):=by rcases s.h with h|⟨_,h⟩;rw [h];exact .inr ⟨_,_,_,_,rfl,rfl⟩;rw [h];exact .inl ⟨rfl,rfl⟩
theorem we_ {α:Type} {enc:α->List AV} {w:Nat} (s:SV enc w) {i:Nat} (hi:i<s.l.length):s.x=cs_ enc w s.l:=s.h.eq (λe=>by rw [e]at hi;cases hi)
theorem vL_ (s:SV d_ 15) {i:Nat} (hi:i<s.l.length):(XOp.inb).run Tryz.prog [s.x,.int .i64 (i:Int)]=some (.int .i64 (i:Int)):=by rw [we_ s hi];exact vP_ (enc:=d_) hi .i64
theorem wa_ (s:SV d_ 15) {i:Nat} (hi:i<s.l.length):(XOp.ldx 100 15 0).run Tryz.prog [s.x,.int .i64 (i:Int)]=some (.agg (d_ s.l[i])):=by rw [we_ s hi];exact vD_ (ti:=(Tryz.prog.info? 100).get!) Tryz.underlying100 rfl (by kernel_rfl) (by kernel_rfl) en_ hi .i64
theorem xA_ (s:SV d_ 15) {i:Nat} (hi:i<s.l.length):(XOp.stx 98 15 14).run Tryz.prog [s.x,.int .i64 (i:Int),s.l[i].queue.x]=some s.x:=by
 have hq:=s.l[i].queue.ok okT;have h:=vR_ (P:=Tryz.prog) (t:=98) (ti:=(Tryz.prog.info? 98).get!) en_ hi (off:=14) (v:=s.l[i].queue.x) (p:=(d_ s.l[i]).take 14) (q:=[s.l[i].queue.x]) (r:=[]) (xs:=[s.l[i].queue.x]) (y:=s.l[i])
  (by rcases s.l[i].queue.h with h|⟨_,h⟩<;>rw [h]<;>rfl) (λe=>by rw [e]at hq;cases hq) (by kernel_rfl) (by kernel_rfl) (F_ (by simp only [okL,hq])) rfl rfl rfl rfl .i64
 rw [vE_ _ hi,←we_ s hi]at h;exact h
theorem p89 (s:GS) (hs:s.Sm):CF Tryz.prog 89 vK_ (s_ s) (RS s):=by
 have okw:=s.subs.ok Q_;refine u4_ (c:=c89) (n:=300) (t:=t89) mo ov rfl (λY _=>vq_ _) (by kernel_rfl) λY hf hg=>?_;unfold t89;refine ur_ (xn_ s.b hs.b) rfl (by simp only [okL,s.b.ok O_]) ?_;refine a_ (wz_ s.inn hs.inn hs.inM) rfl (by simp only [okL,s.inn.ok x_]) ⟨?_,trivial⟩;rintro ws rfl;refine a_ (wz_ s.out hs.out hs.outM) rfl (by simp only [okL,s.out.ok x_]) ⟨?_,trivial⟩;rintro ws rfl;refine a_ (xo_ s.subs hs.subs) rfl (by simp only [okL,okw]) ⟨?_,trivial⟩;rintro ws rfl;have hl:=hs.subs;refine vj_ (s.subs.h.len Tryz.underlying43) rfl ?_;refine ut_ (ι:=Nat) (λi=>[.int .i64 (i:Int),s.subs.x,cs_ c_ 12 s.out.l]) (λi=>i<=s.subs.l.length) (λi=>s.subs.l.length-i) 0 (Nat.zero_le _) rfl (λ_ _=>by simp only [okL,okC,okw,t5_ x_]) (λi j _ _ h=>?_) (λi hi=>?_)
 .have h:=(List.cons.inj h).1;injection h with _ h
  omega
 refine vj_ (run_lss ..) rfl (u1_ rfl (λhc=>?_) (λhc=>?_));have hc:(i:Int)<(s.subs.l.length:Int):=dT hc;have hc:i<s.subs.l.length:=(by omega);have hq:=hs.subM _ (List.getElem_mem hc);refine vj_ (vL_ s.subs hc) rfl (u2_ (wa_ s.subs hc) rfl (Q_ _) (ur_ (xp_ s.subs.l[i].queue hq) rfl (by simp only [okL,s.subs.l[i].queue.ok okT]) ?_));exact vj_ (vL_ s.subs hc) rfl (vj_ (xA_ s.subs hc) okw (vj_ (e_ (by omega) (by omega)) rfl (u0_ (wp_ s.subs) (u0_ (wp_ s.subs) (uj_ rfl ⟨i+1,hc,rfl,by omega⟩)))));exact VOK_fin (okS (D_ s)) rfl
theorem p48 (s:GS) (hs:s.Sm) (now:Int):CF Tryz.prog 48 v3_ (s_ s++[.nsl,.int .i64 now]) (RS s):=by
 have okw:=s.subs.ok Q_;refine u4_ (c:=c48) (n:=300) (t:=t48) mo ov rfl (λY _=>vq_ _) (by kernel_rfl) λY hf hg=>?_;unfold t48;refine a_ (p89 s hs) rfl (okS s) ⟨?_,trivial⟩;rintro ws rfl;have hl:=hs.subs;refine vj_ (s.subs.h.len Tryz.underlying43) rfl ?_;refine ut_ (ι:=Nat) (λi=>[.int .i64 (i:Int),s.subs.x,cs_ c_ 12 s.out.l]) (λi=>i<=s.subs.l.length) (λi=>s.subs.l.length-i) 0 (Nat.zero_le _) rfl (λ_ _=>by simp only [okL,okC,okw,t5_ x_]) (λi j _ _ h=>?_) (λi hi=>?_)
 .have h:=(List.cons.inj h).1;injection h with _ h
  omega
 refine vj_ (run_lss ..) rfl (u1_ rfl (λhc=>?_) (λhc=>?_));have hc:(i:Int)<(s.subs.l.length:Int):=dT hc;have hc:i<s.subs.l.length:=(by omega);refine vj_ (vL_ s.subs hc) rfl (u2_ (wa_ s.subs hc) rfl (Q_ _) (vj_ (run_geq ..) rfl (u1_ rfl (λha=>?_) (λ_=>?_))));have ha:(0:Int)<=s.subs.l[i].addr:=dT ha;refine vj_ (r:=.int .i64 0) (by kernel_rfl) rfl (vj_ (run_lss ..) rfl (u1_ rfl (λhb=>?_) (λ_=>?_)));have hb:s.subs.l[i].addr<0:=dT hb;omega;exact vj_ (e_ (by omega) (by omega)) rfl (uj_ rfl ⟨i+1,hc,rfl,by omega⟩);exact vj_ (e_ (by omega) (by omega)) rfl (uj_ rfl ⟨i+1,hc,rfl,by omega⟩);exact VOK_fin (okS (D_ s)) rfl
theorem p25 (s:GS) (hs:s.Sm):CF Tryz.prog 25 v2_ (s_ s) (RS s):=by refine u4_ (c:=c25) (n:=300) (t:=t25) mo ov rfl (λY _=>vq_ _) (by kernel_rfl) λY hf hg=>?_;unfold t25;refine a_ (p48 s hs 0) rfl (kO_.okL_join (okS s) rfl) ⟨?_,trivial⟩;rintro ws rfl;exact VOK_fin (okS (D_ s)) rfl
end Go.Proofs.YtijpblconliffaaGreatDoor.vars
