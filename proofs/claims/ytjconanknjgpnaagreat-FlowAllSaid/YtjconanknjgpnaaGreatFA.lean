/-
  A symbol as a number, a number as a value: short names for trees.
-/
import Derived.Test.YtjconanknjgpnaaGreatSyK
import Derived.Test.YtjconanknjgpnaaGreatRows
import Derived.KernelRfl
import Derived.Test.YtjconanknjgpnaaGreatSyD
import Derived.WalkKit
import Derived.ProofKit
import Derived.Laws.Externs
import Derived.Lib.Hide
namespace Go.Proofs.YtjconanknjgpnaaGreat.vars
open Go Go.Sx
instance symN (n:Nat):OfNat AV n:=⟨.sym n⟩
abbrev J (n:Int):AV:=.int .i64 n
abbrev K (o:XOp) (a:List AV) (i:Nat) (t:VT):VT:=.lt o a i none t
abbrev Q0:XOp:=.bin .eql 3 false true
abbrev Li (o:XOp) (a:List AV) (n:Nat) (t:VT):VT:=.lt o a n none t
abbrev It (o:XOp) (a:List AV) (n:Nat) (A B:VT):VT:=.lt o a n none (.ite n A B)
abbrev Iq (i:Nat) (k:Int) (n:Nat) (A B:VT):VT:=.lt Q0 [.sym i,J k] n none (.ite n A B)
abbrev Dn (l:List AV):VT:=.done (.tup (J 0::l))
abbrev Cf (f:FuncId) (t:FT) (h:List AV) (n k:Nat) (b:VT):VT:=.callF f t h n (.cons k b .nil)
abbrev Q1:XOp:=.inb
abbrev Q2:XOp:=.bin .add 3 false true
abbrev Q3:XOp:=.un .not
abbrev Q4:XOp:=.bin .lss 3 false false
abbrev Q5:XOp:=.bin .neq 35 false true
abbrev Q6:XOp:=.bin .neq 3 false true
abbrev Q7:XOp:=.bin .neq 3 false false
abbrev Q8:XOp:=.bin .neq 2 false true
abbrev Q9:XOp:=.ldx 46 3 0
abbrev Qa:XOp:=.iaddr 47
abbrev Qb:XOp:=.iaddr 31
abbrev Qc:XOp:=.bin .gtr 3 false true
abbrev Qd:XOp:=.load 49
abbrev Qe:XOp:=.len 47
abbrev Qf:XOp:=.len 127
abbrev Qg:XOp:=.app 3 24
abbrev Qh:XOp:=.bin .sub 3 false true
abbrev Qi:XOp:=.ldx 3 10 1
abbrev Qj:XOp:=.app 10 112
abbrev Qk:XOp:=.bin .eql 3 false false
abbrev Ql:XOp:=.len 22
abbrev Qm:XOp:=.load 46
abbrev Qn:XOp:=.ldx 3 1 0
abbrev Qo:XOp:=.bin .geq 2 false false
abbrev Qp:XOp:=.len 31
abbrev Qq:XOp:=.bin .eql 2 false false
abbrev Qr:XOp:=.ldx 2 3 1
abbrev Qs:XOp:=.app 7 56
abbrev Qt:XOp:=.bin .eql 2 false true
abbrev Qu:XOp:=.load 3
abbrev Qv:XOp:=.bin .add 3 false false
abbrev Qw:XOp:=.bin .leq 3 false true
abbrev Qx:XOp:=.iaddr 26
abbrev Qy:XOp:=.conv 2 101
abbrev Qz:XOp:=.bin .eql 35 false true
abbrev Z0:XOp:=.conv 5 3
abbrev Z1:XOp:=.bin .geq 3 false true
abbrev Z2:XOp:=.bin .lss 2 false true
abbrev Z3:XOp:=.stx 46 3 0
abbrev Z4:XOp:=.opn 21 3
abbrev Z5:XOp:=.conv 23 2
abbrev Z6:XOp:=.bin .lss 3 false true
abbrev Z7:XOp:=.load 2
abbrev Z8:XOp:=.len 61
abbrev Z9:XOp:=.bin .add 3 true false
abbrev Za:XOp:=.len 26
abbrev Zb:XOp:=.un .neg
abbrev Zc:XOp:=.bin .eql 35 false false
abbrev Zd:XOp:=.faddr 46 1
abbrev Ze:XOp:=.faddr 49 1
abbrev Zf:XOp:=.bin .sub 2 false false
abbrev Zg:XOp:=.conv 2 44
abbrev Zh:XOp:=.ldx 3 3 0
abbrev Zi:XOp:=.iaddr 40
abbrev Zj:XOp:=.load 9
abbrev Zk:XOp:=.bin .rem 2 false false
abbrev Zl:XOp:=.faddr 46 0
abbrev Zm:XOp:=.app 27 336
abbrev Zn:XOp:=.mget 186 [(.str [111],J 2,0),(.str [120],J 2,1),(.str [113],J 1,2),(.str [121],J 3,3),(.str [122],J 5,4),(.str [119],J 4,5)]
abbrev Zo:XOp:=.ldx 49 10 0
abbrev Zp:XOp:=.stx 49 10 0
abbrev Zq:XOp:=.load 52
abbrev Zr:XOp:=.bin .leq 2 false false
abbrev Zs:XOp:=.bin .add 2 false false
abbrev Zt:XOp:=.bin .neq 44 false false
abbrev Zu:XOp:=.bin .sub 101 false false
abbrev Zv:XOp:=.mm false
abbrev Zw:XOp:=.conv 101 2
abbrev Zx:XOp:=.bin .eql 31 false true
abbrev Zy:XOp:=.load 26
abbrev Zz:XOp:=.stx 3 7 2
abbrev U0:XOp:=.bin .neq 2 false false
abbrev U1:XOp:=.bin .quo 2 false false
abbrev U2:XOp:=.bin .lss 44 false false
abbrev U3:XOp:=.bin .rem 5 false true
abbrev U4:XOp:=.bin .rem 3 false false
abbrev U7:XOp:=.bin .lss 2 false false
abbrev U8:XOp:=.bin .mul 2 false false
abbrev U9:XOp:=.bin .add 44 false false
abbrev Ua:XOp:=.bin .sub 44 false false
abbrev Ub:XOp:=.bin .mul 44 false false
abbrev Uc:XOp:=.bin .quo 44 false false
abbrev Ud:XOp:=.bin .eql 44 false false
abbrev Ue:XOp:=.bin .leq 44 false false
abbrev Uh:XOp:=.bin .gtr 2 false false
abbrev Ui:XOp:=.bin .add 2 false true
abbrev Uj:XOp:=.bin .eql 4 false false
abbrev Uk:XOp:=.bin .gtr 101 false false
abbrev Up:XOp:=.bin .sub 3 false false
end Go.Proofs.YtjconanknjgpnaaGreat.vars
set_option linter.unusedVariables false
namespace Go.Proofs.YtjconanknjgpnaaGreat.vars
open Go Go.Sx
def hs:Nat->Nat->List AV
 |_,0=>[]
 |j,n+1=>.slx j 0 0::hs (j+1) n
def pk (a b:AV):Nat×List AV:=(0,[a,b])
def ft39:FT:=⟨1,⟨[(0,.ptr 0 0),(1,.slx 2 0 0)],[pk (.slx 0 0 0) (.slx 1 0 0)],1,3,[],[],[]⟩,[(false,⟨[(0,.slx 0 0 0)],[pk (.sym 64) (.slx 1 0 0)],1,2,[],[],[]⟩)]⟩
def ftX:FT:=⟨1,⟨[(0,.ptr 0 0),(1,.slx 2 0 0),(2,.slx 3 0 0)],[pk (.slx 0 0 0) (.slx 1 0 0)],1,4,[],[],[]⟩,[(false,⟨[(0,.agg (hs 0 10))],[pk (.sym 64) (.slx 10 0 0)],1,11,[],[],[]⟩)]⟩
def o_:FT:=ftX
def wy_:FT:=ftX
def ft112:FT:=⟨1,⟨[(0,.ptr 0 0),(1,.slx 2 0 0)],[pk (.slx 0 0 0) (.slx 1 0 0)],1,3,[],[],[]⟩,[(false,⟨[(0,.agg (hs 0 27))],[pk (.sym 64) (.slx 27 0 0)],1,28,[],[],[]⟩)]⟩
def ft70:FT:=⟨1,⟨[(0,.ptr 0 0),(1,.slx 2 0 0),(2,.slx 3 0 0)],[pk (.slx 0 0 0) (.slx 1 0 0)],1,4,[],[],[]⟩,[(false,⟨[(0,.slx 1 27 0)],[pk (.sym 64) (.slx 1 0 0)],2,2,[⟨1,27,0,0,none⟩],[],[]⟩)]⟩
def ft38:FT:=⟨1,⟨[(0,.ptr 0 0)],[pk (.slx 0 0 0) (.slx 1 0 0)],1,2,[],[],[]⟩,[(false,⟨[(0,.agg (hs 0 2))],[pk (.sym 64) (.slx 2 0 0)],1,3,[],[],[]⟩)]⟩
def ft14:FT:=⟨0,⟨[(0,.slx 0 0 0)],[],0,1,[],[],[]⟩,[(false,⟨[(0,.ptr 0 0)],[pk (.sym 64) (.int .i64 0)],1,0,[],[],[]⟩)]⟩
def ft121:FT:=⟨0,⟨[(0,.slx 0 0 0),(1,.agg (hs 1 10))],[],0,11,[],[],[]⟩,[(false,⟨[(0,.tup [.agg (hs 0 10),.slx 10 0 0])],[],0,11,[],[],[]⟩)]⟩
def yt_:FT:=ft121
def ft156:FT:=⟨0,⟨[(0,.slx 0 0 0),(1,.agg (hs 1 10)),(2,.slx 11 0 0)],[],0,12,[],[],[]⟩,[(false,⟨[(0,.tup [.agg (hs 0 10),.slx 10 0 0])],[],0,11,[],[],[]⟩)]⟩
def ft78:FT:=⟨0,⟨[(0,.slx 0 0 0),(1,.agg (hs 1 27))],[],0,28,[],[],[]⟩,[(false,⟨[(0,.tup [.agg (hs 0 27),.slx 27 0 0])],[],0,28,[],[],[]⟩)]⟩
def yr_:FT:=ft78
def ys_:FT:=ft78
def ft46:FT:=⟨0,⟨[(0,.slx 0 0 0),(1,.slx 1 0 0)],[],0,2,[],[],[]⟩,[(false,⟨[(0,.tup [.slx 0 0 0,.slx 1 0 0])],[],0,2,[],[],[]⟩)]⟩
def ft19:FT:=⟨0,⟨[(0,.agg (hs 0 2))],[],0,2,[],[],[]⟩,[(false,⟨[(0,.tup [.agg (hs 0 2),.slx 2 0 0])],[],0,3,[],[],[]⟩)]⟩
def ft13:FT:=⟨0,⟨[(0,.slx 0 0 0)],[],0,1,[],[],[]⟩,[(false,⟨[(0,.tup [.agg (hs 0 2),.slx 2 0 0])],[],0,3,[],[],[]⟩)]⟩
def ft163:FT:=⟨0,⟨[(0,.slx 0 0 0)],[],0,1,[],[],[]⟩,[(true,⟨[(0,.iface 226 (.agg [.slx 0 0 0]))],[],0,1,[],[],[]⟩)]⟩
def ft165:FT:=⟨0,⟨[(0,.slx 0 0 0),(1,.slx 1 0 0),(2,.slx 2 0 0)],[],0,3,[],[],[]⟩,[(false,⟨[(0,.slx 0 0 0)],[],0,1,[],[],[]⟩),(true,⟨[(0,.iface 226 (.agg [.slx 0 0 0]))],[],0,1,[],[],[]⟩)]⟩
def xD_:FT:=ft165
def ft113:FT:=⟨0,⟨[(0,.slx 0 0 0)],[],0,1,[],[],[]⟩,[(false,⟨[(0,.tup [])],[],0,0,[],[],[]⟩),(true,⟨[(0,.iface 134 (.agg [.slx 0 0 0]))],[],0,1,[],[],[]⟩)]⟩
def ft82:FT:=⟨0,⟨[(0,.slx 0 0 0),(1,.agg (hs 1 3))],[],0,4,[],[],[]⟩,[(false,⟨[(0,.agg (hs 0 3))],[],0,3,[],[],[]⟩),(true,⟨[(0,.iface 134 (.agg [.slx 0 0 0]))],[],0,1,[],[],[]⟩)]⟩
def ft83:FT:=⟨0,⟨[(0,.slx 0 0 0),(1,.slx 1 0 0)],[],0,2,[],[],[]⟩,[(false,⟨[(0,.agg (hs 0 3))],[],0,3,[],[],[]⟩),(true,⟨[(0,.iface 134 (.agg [.slx 0 0 0]))],[],0,1,[],[],[]⟩)]⟩
def ftM (sl:List (Nat×AV)) (nv:Nat) (exs:List (Bool×Nat×AV)):FT:=⟨2,⟨(0,.ptr 0 0)::sl,[(0,[.slx 1 3 0,.slx 1 0 0,.slx 2 0 0])],2,nv+3,[⟨1,3,0,0,some 0⟩],[],[]⟩,
 exs.map λ(b,n,a)=>(b,⟨[(0,a)],[(0,[.ptx 1 64 3 0,.sym 65,.sym 66])],2,n,[],[],[(1,64)]⟩)⟩
def s6_:FT:=ftM [(1,.agg (hs 3 10))] 10 [(false,3,.agg (hs 0 3)),(true,1,.iface 134 (.agg [.slx 0 0 0]))]
def x3_:FT:=ftM [(1,.agg (hs 3 10))] 10 [(false,1,.slx 0 0 0),(true,1,.iface 134 (.agg [.slx 0 0 0]))]
def ft40:FT:=⟨1,⟨[(0,.ptr 0 0),(1,.slx 2 0 0)],[pk (.slx 0 0 0) (.slx 1 0 0)],1,3,[],[],[]⟩,[(false,⟨[(0,.agg (hs 0 3))],[pk (.sym 64) (.slx 3 0 0)],1,4,[],[],[]⟩)]⟩
def ft71:FT:=⟨1,⟨[(0,.ptr 0 0)],[pk (.slx 0 0 0) (.slx 1 0 0)],1,2,[],[],[]⟩,[(false,⟨[(0,.slx 0 0 0)],[pk (.sym 64) (.slx 1 0 0)],1,2,[],[],[]⟩)]⟩
def zX_:FT:=ft39
def ft15:FT:=⟨1,⟨[(0,.ptr 0 0)],[pk (.slx 0 0 0) (.slx 1 0 0)],1,2,[],[],[]⟩,[(false,⟨[(0,.slx 1 3 0)],[pk (.sym 64) (.slx 1 0 0)],2,2,[⟨1,3,0,0,none⟩],[],[]⟩)]⟩
def ft22:FT:=⟨1,⟨[(0,.agg (hs 1 10)),(1,.slx 0 3 0)],[],1,11,[⟨0,3,0,1,none⟩],[],[]⟩,[(false,⟨[(0,.tup [.agg (hs 0 3),.slx 3 0 0])],[],1,4,[],[],[(0,64)]⟩)]⟩
def wU_:FT:=ft22
def ftS (sl:List (Nat×AV)) (nv:Nat):FT:=⟨2,⟨(0,.ptr 0 0)::sl,[(0,[.slx 1 3 0,.slx 1 0 0,.slx 2 0 0])],2,nv+3,[⟨1,3,0,0,some 0⟩],[],[]⟩,
 [(false,⟨[(0,.tup [])],[(0,[.slx 1 3 0,.sym 65,.slx 1 0 0])],2,2,[⟨1,3,0,0,some 0⟩],[],[]⟩),(true,⟨[(0,.iface 134 (.agg [.slx 2 0 0]))],[(0,[.slx 1 3 0,.sym 65,.slx 1 0 0])],2,3,[⟨1,3,0,0,some 0⟩],[],[]⟩)]⟩
def wh_:FT:=ftS [(1,.slx 3 0 0)] 1
def yu_:FT:=ftS [(1,.agg (hs 3 27))] 27
def zY_:FT:=yu_
def w8_:FT:=yu_
def ft16:FT:=⟨0,⟨[(0,.agg (hs 0 2)),(1,.slx 2 0 0),(2,.slx 3 0 0),(3,.slx 4 0 0)],[],0,5,[],[],[]⟩,[(false,⟨[(0,.tup [.slx 0 3 0,.slx 1 0 0])],[],1,2,[⟨0,3,0,600,some 0⟩],[],[]⟩)]⟩
def zW_:FT:=ft16
def ftD (sl:List (Nat×AV)) (nv:Nat):FT:=⟨2,⟨(0,.ptr 0 0)::sl,[(0,[.slx 1 3 0,.slx 1 0 0,.slx 2 0 0,.slx 3 0 0])],2,nv+4,[⟨1,3,0,0,some 0⟩],[],[]⟩,
 [(false,⟨[(0,.slx 2 0 0)],[(0,[.slx 1 3 0,.sym 65,.slx 1 0 0,.sym 67])],2,3,[⟨1,3,0,0,some 0⟩],[],[]⟩)]⟩
def xq_:FT:=ftD [(1,.slx 4 0 0)] 1
def w9_:FT:=ftD [(1,.agg (hs 4 27))] 27
def ft61:FT:=⟨1,⟨[(0,.slx 0 3 0),(1,.slx 1 0 0),(2,.slx 2 0 0),(3,.slx 1 3 3),(4,.slx 4 0 0)],[],2,5,[⟨0,3,0,0,none⟩,⟨1,3,3,3,none⟩],[],[]⟩,[(false,⟨[(0,.tup [])],[],1,1,[],[],[(0,1503)]⟩)]⟩
def sy (n m:Nat):List AV:=ai_ n m
def wS_ (kd ad:Int):List AV:=[.ptr 0 0,.agg (sy 67 24++[.int .i64 kd,.int .i64 ad,.sym 93])]
def heap75:AHeap:=w8_.ent.heap 64
def wf_ (kd ad:Int):List AV:=[.slx 0 3 64,.int .i64 kd,.int .i64 ad,.slx 1 3 67,.sym 68]
def heap61:AHeap:=ft61.ent.heap 64
def ftB (kd off n w:Nat) (tm:Bool):FT:=⟨1,⟨[(0,.int .i64 (.ofNat kd)),(1,.sl 0 off n 3 none),(2,.slx 63 0 0),(3,.slx 64 0 0)]++(match tm with|true=>[(4,.slx 65 0 0)]|false=>[]),[(0,hs 0 63)],1,(match tm with|true=>66|false=>65),[],[],[]⟩,
 [(false,⟨[(0,.sl 1 0 n 3 none)],[(0,ai_ 64 63),(1,hs 0 w)],2,w,[],[],[]⟩)]⟩
def wX_:FT:=ftB 6 36 4 12 true
def zZ_:FT:=ftB 9 48 3 9 true
def z0_:FT:=ftB 11 57 2 6 true
def wV_:FT:=ftB 9 48 3 9 false
def wW_:FT:=ftB 11 57 2 6 false
end Go.Proofs.YtjconanknjgpnaaGreat.vars
set_option maxRecDepth 100000
set_option linter.unusedVariables false
set_option linter.unusedSimpArgs false
namespace Go.Proofs.YtjconanknjgpnaaGreat.vars
open Go Go.Sx
instance gI:Gl:=glT gl0 nr0 []
theorem mo:Tryz.prog.follows .mixedOrders=true:=by kernel_rfl
theorem ov:kQ_ Tryz.prog:=vH_ gl0 nr0 _
inductive GX where
 |mk (op kd:Int) (nm fd:List UInt8) (ad n vk vi:Int) (vf:Nat) (args:List GX)
mutual
def k_:GX->List AV
 | .mk op kd nm fd ad n vk vi vf args=>[.int .i64 op,.int .i64 kd,.str nm,.str fd,.int .i64 ad,.int .i64 n,.int .i64 vk,.int .i64 vi,.flt .f64 vf,L_ args]
def L_:List GX->AV
 |[]=>.nsl
 |a::r=>.vsl (r.length+1) 10 (k_ a++v4_ r)
def v4_:List GX->List AV
 |[]=>[]
 |a::r=>k_ a++v4_ r
end
theorem w6_:∀l:List GX,v4_ l=cf_ k_ l
 |[]=>rfl
 |a::r=>by simp only [v4_,cf_,w6_ r]
theorem uD_ (l:List GX):L_ l=c2_ k_ 10 l:=by
 cases l with
 |nil=>rfl
 |cons a r=>simp only [L_,c2_,cf_,w6_]
theorem nZ_ (x:GX):(k_ x).length=10:=by cases x;simp [k_]
mutual
theorem okX:∀x:GX,okL (k_ x)=true
 | .mk op kd nm fd ad n vk vi vf args=>by simp only [k_,okL,okC,okA args]
theorem okA:∀l:List GX,okC (L_ l)=true
 |[]=>rfl
 |a::r=>by simp only [L_,okC];exact oL_.okL_join (okX a) (zh_ r)
theorem zh_:∀l:List GX,okL (v4_ l)=true
 |[]=>rfl
 |a::r=>by simp only [v4_];exact oL_.okL_join (okX a) (zh_ r)
end
inductive GS where
 |mk (op:Int) (to e:GX) (thn els:List GS) (nm:List UInt8) (kd ad:Int) (args:List GX)
mutual
def v_:GS->List AV
 | .mk op to e thn els nm kd ad args=>.int .i64 op::(k_ to++(k_ e++[A_ thn,A_ els,.str nm,.int .i64 kd,.int .i64 ad,L_ args]))
def A_:List GS->AV
 |[]=>.nsl
 |a::r=>.vsl (r.length+1) 27 (v_ a++wE_ r)
def wE_:List GS->List AV
 |[]=>[]
 |a::r=>v_ a++wE_ r
end
theorem w5_:∀l:List GS,wE_ l=cf_ v_ l
 |[]=>rfl
 |a::r=>by simp only [wE_,cf_,w5_ r]
theorem uO_ (l:List GS):A_ l=c2_ v_ 27 l:=by
 cases l with
 |nil=>rfl
 |cons a r=>simp only [A_,c2_,cf_,w5_]
theorem zb_ (x:GS):(v_ x).length=27:=by cases x;simp [v_,nZ_]
mutual
theorem okS:∀x:GS,okL (v_ x)=true
 | .mk op to e thn els nm kd ad args=>by simp only [v_];refine oL_.okL_join (a:=[_]) rfl (oL_.okL_join (okX to) (oL_.okL_join (okX e) ?_));simp only [okL,okC,okA args,okB thn,okB els]
theorem okB:∀l:List GS,okC (A_ l)=true
 |[]=>rfl
 |a::r=>by simp only [A_,okC];exact oL_.okL_join (okS a) (AP_ r)
theorem AP_:∀l:List GS,okL (wE_ l)=true
 |[]=>rfl
 |a::r=>by simp only [wE_];exact oL_.okL_join (okS a) (AP_ r)
end
def Ari (op:Int) (n:Nat):Prop:=(op=1\/op=2)/\n=0\/(op=3\/op=15\/op=16\/op=17)/\n=1\/(4<=op/\op<=14)/\n=2
def yj_ (f:Nat):Prop:=f=0\/f=4609434218613702656\/f=4611686018427387904\/f=4598175219545276416
def GX.op:GX->Int| .mk op .. =>op
def GX.kd:GX->Int| .mk _ kd .. =>kd
def wi_:List (List UInt8×List UInt8):=[([98],[]),([113],[]),([116,109],[113]),([97],[]),([120],[]),([111],[]),([99],[99,118]),([121],[]),([116,109],[101,116]),([119],[]),([122],[])]
def hj_ (vk vi:Int) (vf:Nat):Prop:=(vk=1\/vk=3\/vk=4\/vk=5)/\0<=vi/\vi<50/\(vk=1->vi<=1)/\(vk=5->vi=0)/\(vk≠5->vf=0)
def Nod (op kd:Int) (nm fd:List UInt8) (vk vi:Int) (vf:Nat):Prop:=(op=1->hj_ vk vi vf)/\(op=2->(nm,fd)∈wi_)/\(op=3->nm=[107])/\(op=17->2<=kd/\kd<=5)
def WX:Nat->GX->Prop
 |0,_=>False
 |d+1,.mk op kd nm fd _ _ vk vi vf args=>Ari op args.length/\yj_ vf/\Nod op kd nm fd vk vi vf/\∀a∈args,WX d a
theorem e_:∀{d e:Nat} {x:GX},d<=e->WX d x->WX e x
 |0,_,_,_,h=>h.elim
 |d+1,0,_,h,_=>by omega
 |d+1,e+1,.mk ..,h,⟨h1,h2,h3,h4⟩=>⟨h1,h2,h3,λa ha=>e_ (by omega) (h4 a ha)⟩
def WS:Nat->GS->Prop
 |0,_=>False
 |d+1,.mk op to e thn els nm kd ad args=>
  (op=1/\WX 5 to/\(to.op=2\/to.op=3)/\WX 6 e/\thn=[]/\els=[])\/
  ((op=2\/op=3)/\WX 5 e/\thn.length<=5/\els.length<=5/\(∀s∈thn,WS d s)/\∀s∈els,WS d s)\/
  (op=4/\(nm=[116,109]\/nm=[99]\/nm=[101])/\args.length<=2/\(∀a∈args,WX 5 a)/\thn=[]/\els=[])
def vz_ (c:UInt8):List AV:=[.int .u8 (c.toNat:Int)]
theorem CB_ (c:UInt8):(vz_ c).length=1:=rfl
theorem v1_ (c:UInt8):okL (vz_ c)=true:=rfl
def Pk (l:List UInt8) (a:AV):Prop:=SlV vz_ 1 l a/\l.length<=9223372036854775807
section
variable {l:List UInt8} {a:AV}
theorem yz_ (h:Pk l a):(XOp.len 22).run Tryz.prog [a]=some (.int .i64 (l.length:Int)):=h.1.len Tryz.underlying22
theorem CA_ (h:Pk l a) {i:Nat} (hi:i<l.length) {k:IntKind}:(XOp.iaddr 22).run Tryz.prog [a,.int k (i:Int)]=some (.vptr (cf_ vz_ (l.drop i))):=h.1.ia (e:=5) Tryz.underlying22 (ti:=(Tryz.prog.info? 5).get!) (by kernel_rfl) (by kernel_rfl) CB_ hi k
theorem ld5 {i:Nat} (hi:i<l.length):(XOp.load 5).run Tryz.prog [.vptr (cf_ vz_ (l.drop i))]=some (.int .u8 (l[i].toNat:Int)):=by rw [List.drop_eq_getElem_cons hi];exact s1_ Tryz.underlying5 rfl _ _
end
theorem yo_ (n:Nat) (h:n<256):(XOp.conv 5 3).run Tryz.prog [.int .u8 (n:Int)]=some (.int .i64 (n:Int)):=by rw [tG_ Tryz.underlying5 Tryz.underlying3,vL_ (by omega) (by omega)]
theorem zo_ (x m:Nat) (h:0<m) (h2:m<9223372036854775808) (t:TypeId) (cx cy:Bool):(XOp.bin .rem t cx cy).run Tryz.prog [.int .i64 (x:Int),.int .i64 (m:Int)]=some (.int .i64 ((x%m:Nat):Int)):=by
 have:(x:Int).tmod (m:Int)=((x%m:Nat):Int):=by rw [Int.tmod_eq_emod_of_nonneg (by omega)];rfl
 show bI_ Tryz.prog .rem t cx cy (.int .i64 (x:Int)) (.int .i64 (m:Int))=_;exact s0_ (by omega) this t cx cy
theorem g_ {x y:Int} {t:TypeId} {cx cy:Bool} (h1: -9223372036854775807<=x+y) (h2:x+y<=9223372036854775807):(XOp.bin .add t cx cy).run Tryz.prog [.int .i64 x,.int .i64 y]=some (.int .i64 (x+y)):=by rw [run_add,vL_ (by omega) (by omega)]
theorem y_ {x y z:Int} {t:TypeId} {cx cy:Bool} (h:x-y=z) (h1: -9223372036854775807<=z) (h2:z<=9223372036854775807):(XOp.bin .sub t cx cy).run Tryz.prog [.int .i64 x,.int .i64 y]=some (.int .i64 z):=by rw [run_sub,h,vL_ (by omega) (by omega)]
def RN (l:List UInt8) (m:Nat):Nat->List AV->Prop:=λ_ ws=>∃v n:Nat,ws=[.int .i64 (v:Int),.int .i64 (n:Int)]/\v<m/\n<=l.length
def c39:VC:=⟨⟨[],[]⟩,[],[],1,true,[]⟩
def t39:VT:=Li Ql [64] 67<|It (.bin .geq 3 false false) [65,67] 68 (Dn [J 0,65])<|Li Q2 [65,J 1] 69<|Li Qh [69,J 1] 70<|Li (.iaddr 22) [64,70] 71<|Li (.load 5) [71] 72<|Li Z0 [72] 73<|Li U4 [73,66] 74<|Dn [74,69]
theorem p39 {l:List UInt8} {a:AV} {n m:Nat} (h:Pk l a) (hn:n<=l.length) (hm:0<m) (hm2:m<=1000):CF Tryz.prog 39 ft39 [a,.int .i64 (n:Int),.int .i64 (m:Int)] (RN l m):=by
 have hb:=h.2;refine vg_ (c:=c39) (n:=300) (t:=t39) mo ov rfl (λY _=>vD_ _) (by kernel_rfl) λY hf hg=>?_;unfold t39;refine vw_ (yz_ h) rfl (vw_ (run_geq ..) rfl (vd_ rfl (λh1=>VOK_fin rfl ⟨0,n,rfl,hm,hn⟩) (λh1=>?_)));have h1:n<l.length:=by simpa using h1
 refine vw_ (g_ (by omega) (by omega)) rfl (vw_ (y_ (z:=n) (by omega) (by omega) (by omega)) rfl (vw_ (CA_ h h1) (oL_ v1_ _) (vw_ (ld5 h1) rfl (vw_ (yo_ _ (UInt8.toNat_lt _)) rfl (vw_ (zo_ _ _ hm (by omega) ..) rfl (VOK_fin rfl ⟨l[n].toNat%m,n+1,rfl,Nat.mod_lt _ hm,h1⟩))))))
end Go.Proofs.YtjconanknjgpnaaGreat.vars
set_option maxRecDepth 100000
set_option linter.unusedVariables false
set_option linter.unusedSimpArgs false
namespace Go.Proofs.YtjconanknjgpnaaGreat.vars
open Go Go.Sx
def RI (l:List UInt8) (m:Int):Nat->List AV->Prop:=λ_ ws=>∃v n:Nat,ws=[.int .i64 (v:Int),.int .i64 (n:Int)]/\(v:Int)<m/\n<=l.length
theorem y5_ {f:FuncId} {ft:FT} {vs:List AV} {R R':Nat->List AV->Prop} (h:CF Tryz.prog f ft vs R) (hr:∀j ws,R j ws->R' j ws):CF Tryz.prog f ft vs R':=
 ⟨h.1,λY hf B pr E w us h1 h2 h3 h4=>(h.2 Y hf B pr E w us h1 h2 h3 h4).mono λe w' ⟨Y',r,⟨j,ws,b,tp,q1,q2,q3⟩,hp⟩=>⟨Y',r,⟨j,ws,b,tp,q1,hr _ _ q2,q3⟩,hp⟩⟩
theorem Y_ {l:List UInt8} {a:AV} {n:Nat} {m:Int} (h:Pk l a) (hn:n<=l.length) (hm:0<m) (hm2:m<=1000):CF Tryz.prog 39 ft39 [a,.int .i64 (n:Int),.int .i64 m] (RI l m):=by
 have e:m=((m.toNat:Nat):Int):=by omega
 have:=p39 h hn (m:=m.toNat) (by omega) (by omega);rw [←e]at this;exact y5_ this λj ws ⟨v,n,h1,h2,h3⟩=>⟨v,n,h1,by omega,h3⟩
def RX (l:List UInt8) (d:Nat):Nat->List AV->Prop:=λ_ ws=>∃(x:GX) (n:Nat),ws=k_ x++[.int .i64 (n:Int)]/\WX (d+1) x/\n<=l.length
def PX (l:List UInt8) (a:AV) (f:FuncId) (d:Nat):Prop:=∀(n:Nat) (k:Int),n<=l.length->1<=k/\k<=5->CF Tryz.prog f ftX [a,.int .i64 (n:Int),.int .i64 k,.int .i64 (d:Int)] (RX l d)
theorem P_ {d:Nat} {kd ad n vk vi:Int} {nm fd:List UInt8} {vf:Nat} (ho:hj_ vk vi vf) (hf:yj_ vf):WX (d+1) (.mk 1 kd nm fd ad n vk vi vf []):=⟨.inl ⟨.inl rfl,rfl⟩,hf,⟨λ_=>ho,λh=>by omega,λh=>by omega,λh=>by omega⟩,λa ha=>(List.not_mem_nil ha).elim⟩
theorem t_ {d:Nat} {kd ad n vk vi:Int} {nm fd:List UInt8} (ho:(nm,fd)∈wi_):WX (d+1) (.mk 2 kd nm fd ad n vk vi 0 []):=⟨.inl ⟨.inr rfl,rfl⟩,.inl rfl,⟨λh=>by omega,λ_=>ho,λh=>by omega,λh=>by omega⟩,λa ha=>(List.not_mem_nil ha).elim⟩
theorem wQ_ {d:Nat} {op kd ad n vk vi:Int} {nm fd:List UInt8} {x:GX} (ho:op=3/\nm=[107]\/op=15\/op=16\/op=17/\2<=kd/\kd<=5) (h:WX d x):WX (d+1) (.mk op kd nm fd ad n vk vi 0 [x]):=by refine ⟨.inr (.inl ⟨by omega,rfl⟩),.inl rfl,⟨λh=>by omega,λh=>by omega,λh=>?_,λh=>by omega⟩,λa ha=>by cases List.mem_singleton.1 ha;exact h⟩;rcases ho with ho|ho|ho|ho;exact ho.2;all_goals omega
theorem wR_ {d:Nat} {op kd ad n vk vi:Int} {nm fd:List UInt8} {x y:GX} (ho:4<=op/\op<=14) (h:WX d x) (h2:WX d y):WX (d+1) (.mk op kd nm fd ad n vk vi 0 [x,y]):=
 ⟨.inr (.inr ⟨ho,rfl⟩),.inl rfl,⟨λh=>by omega,λh=>by omega,λh=>by omega,λh=>by omega⟩,λa ha=>by rcases List.mem_cons.1 ha with rfl|ha;exact h;cases List.mem_singleton.1 ha;exact h2⟩
theorem b_ {P:Program} {Q:AV->Prop} {L:List (Nat->List AV->Prop)} {Y:Sy} {f:FuncId} {ft:FT} {hv vs:List AV} {n:Nat} {bs:VTs} {R:Nat->List AV->Prop} (h1:CF P f ft vs R) (h0:ab_ Y.v hv=vs) (h2:okL vs=true) (h3:sm_ P Q R L (Y.puts n vs) (Nat.add n ft.ent.nv) 0 bs):VOK P Q L Y (.callF f ft hv n bs):=by subst h0;exact uv_ h1 h2 h3
theorem okP {a:AV} (h:okC a=true) {n m:Int}:okL [a,.int .i64 n,.int .i64 m]=true:=by simp only [okL,okC,h]
theorem X_ {a:AV} (h:okC a=true) {n m k:Int}:okL [a,.int .i64 n,.int .i64 m,.int .i64 k]=true:=by simp only [okL,okC,h]
theorem us_ (x:GX) (n:Int):okL (k_ x++[.int .i64 n])=true:=oL_.okL_join (okX x) rfl
theorem B_ {l:List UInt8} {d n j:Nat} {x:GX} {hv:List AV} {Y:Sy} {L:List (Nat->List AV->Prop)} (h:ab_ Y.v hv=k_ x++[.int .i64 (n:Int)]) (hw:WX (d+1) x) (hn:n<=l.length):VOK Tryz.prog (QF (RX l d)) L Y (.done (.tup (.int .i64 (.ofNat j)::hv))):=
 VOK_fin (by rw [h];exact us_ x n) ⟨x,n,h,hw,hn⟩
section
variable {P:Program} {Q:AV->Prop} {L:List (Nat->List AV->Prop)} {Y:Sy} {t:TypeId} {cx cy:Bool} {args:List AV} {n:Nat} {A B:VT} {k:IntKind} {a b:Int}
def l_:BinOp->Int->Int->Bool
 | .eql,a,b=>decide (a=b)
 | .neq,a,b=> !decide (a=b)
 | .lss,a,b=>decide (a<b)
 | .gtr,a,b=>decide (b<a)
 | .leq,a,b=>decide (a<=b)
 |_,_,_=>false
theorem p_ {op:BinOp} (h0:ab_ Y.v args=[.int k a,.int k b]) (ho:(match op with| .eql=>true| .neq=>true| .lss=>true| .gtr=>true| .leq=>true|_=>false)=true)
  (h1:l_ op a b=true->VOK P Q L (Y.put n (.bool (l_ op a b))) A) (h2:l_ op a b=false->VOK P Q L (Y.put n (.bool (l_ op a b))) B):VOK P Q L Y (.lt (.bin op t cx cy) args n none (.ite n A B)):=by
 have hr:(XOp.bin op t cx cy).run P [.int k a,.int k b]=some (.bool (l_ op a b)):=by
  cases op<;>simp only at ho<;>first|(cases ho;done)|skip
  exact run_eql ..;exact run_neq ..;exact run_lss ..;exact run_leq ..;exact run_gtr ..
 exact vw_ (by rw [h0];exact hr) rfl (vd_ (t:=l_ op a b) (by rw [vR_,if_pos rfl]) h1 h2)
end
def c48:VC:=⟨⟨[],[]⟩,[],[],1,true,[(39,ft39),(21,o_)]⟩
def t48:VT:=Cf 39 ft39 [64,65,J 4] 68 2<|Iq 66 1 73 (Cf 39 ft39 [64,72,J 2] 74 2<|Li Qa [.vsl 4 10 [J 2,J 0,.str [98],.str [],J 0,J 0,J 0,J 0,.flt .f64 0,.nsl,J 2,J 0,.str [113],.str [],J 0,J 0,J 0,J 0,.flt .f64 0,.nsl,J 2,J 0,.str [116,109],.str [113],J 0,J 0,J 0,J 0,.flt .f64 0,.nsl,J 1,J 0,.str [],.str [],J 0,J 0,J 1,77,.flt .f64 0,.nsl],71] 79<|.lt Qd [79] 80 (some 10)<|Dn [80,81,82,83,84,85,86,87,88,89,78])<|Iq 66 2 74 (Iq 71 0 75 (It Qc [67,J 1] 76 (Li Qh [67,J 1] 77<|Cf 21 o_ [64,72,J 2,77] 78 11<|Dn [J 3,J 0,.str [107],.str [],J 0,J 0,J 0,J 0,.flt .f64 0,.vsl 1 10 [82,83,84,85,86,87,88,89,90,91],92])<|It Z6 [71,J 2] 77 (Cf 39 ft39 [64,72,J 7] 78 2<|Dn [J 17,J 2,.str [],.str [],J 0,J 0,J 0,J 0,.flt .f64 0,.vsl 1 10 [J 1,J 0,.str [],.str [],J 0,J 0,J 3,81,.flt .f64 0,.nsl],82])<|Cf 39 ft39 [64,72,J 4] 78 2<|Li Qa [.vsl 4 10 [J 2,J 0,.str [97],.str [],J 0,J 0,J 0,J 0,.flt .f64 0,.nsl,J 2,J 0,.str [120],.str [],J 0,J 0,J 0,J 0,.flt .f64 0,.nsl,J 2,J 0,.str [111],.str [],J 0,J 0,J 0,J 0,.flt .f64 0,.nsl,J 2,J 0,.str [99],.str [99,118],J 0,J 0,J 0,J 0,.flt .f64 0,.nsl],81] 83<|.lt Qd [83] 84 (some 10)<|Dn [84,85,86,87,88,89,90,91,92,93,82])<|It Z6 [71,J 2] 76 (Cf 39 ft39 [64,72,J 7] 77 2<|Dn [J 17,J 2,.str [],.str [],J 0,J 0,J 0,J 0,.flt .f64 0,.vsl 1 10 [J 1,J 0,.str [],.str [],J 0,J 0,J 3,80,.flt .f64 0,.nsl],81])<|Cf 39 ft39 [64,72,J 4] 77 2<|Li Qa [.vsl 4 10 [J 2,J 0,.str [97],.str [],J 0,J 0,J 0,J 0,.flt .f64 0,.nsl,J 2,J 0,.str [120],.str [],J 0,J 0,J 0,J 0,.flt .f64 0,.nsl,J 2,J 0,.str [111],.str [],J 0,J 0,J 0,J 0,.flt .f64 0,.nsl,J 2,J 0,.str [99],.str [99,118],J 0,J 0,J 0,J 0,.flt .f64 0,.nsl],80] 82<|.lt Qd [82] 83 (some 10)<|Dn [83,84,85,86,87,88,89,90,91,92,81])<|Iq 66 3 75 (It Z6 [71,J 2] 76 (Cf 39 ft39 [64,72,J 9] 77 2<|Dn [J 1,J 0,.str [],.str [],J 0,J 0,J 3,80,.flt .f64 0,.nsl,81])<|Dn [J 2,J 0,.str [121],.str [],J 0,J 0,J 0,J 0,.flt .f64 0,.nsl,72])<|Iq 66 4 76 (Iq 71 0 77 (Dn [J 2,J 0,.str [116,109],.str [101,116],J 0,J 0,J 0,J 0,.flt .f64 0,.nsl,72])<|Iq 71 1 78 (Cf 39 ft39 [64,72,J 50] 79 2<|Dn [J 1,J 0,.str [],.str [],J 0,J 0,J 4,82,.flt .f64 0,.nsl,83])<|Dn [J 2,J 0,.str [119],.str [],J 0,J 0,J 0,J 0,.flt .f64 0,.nsl,72])<|It Z6 [71,J 2] 77 (Cf 39 ft39 [64,72,J 4] 78 2<|Li (.iaddr 143) [.vsl 4 1 [.flt .f64 0,.flt .f64 4609434218613702656,.flt .f64 4611686018427387904,.flt .f64 4598175219545276416],81] 83<|Li (.load 44) [83] 84<|Dn [J 1,J 0,.str [],.str [],J 0,J 0,J 5,J 0,84,.nsl,82])<|Dn [J 2,J 0,.str [122],.str [],J 0,J 0,J 0,J 0,.flt .f64 0,.nsl,72]
def c21:VC:=⟨⟨[],[]⟩,[],[],1,true,[(39,ft39),(21,o_),(48,wy_)]⟩
def t21:VT:=It Qw [67,J 1] 68 (Cf 48 wy_ [64,65,66,67] 69 11<|Dn [73,74,75,76,77,78,79,80,81,82,83])<|Cf 39 ft39 [64,65,J 4] 69 2<|Iq 72 0 74 (Cf 48 wy_ [64,73,66,67] 75 11<|Dn [79,80,81,82,83,84,85,86,87,88,89])<|Iq 66 1 75 (Cf 39 ft39 [64,73,J 5] 76 2<|Iq 79 0 81 (Li Qh [67,J 1] 82<|Cf 21 o_ [64,80,J 1,82] 83 11<|Dn [J 15,J 0,.str [],.str [],J 0,J 0,J 0,J 0,.flt .f64 0,.vsl 1 10 [87,88,89,90,91,92,93,94,95,96],97])<|Iq 79 1 82 (Cf 39 ft39 [64,80,J 2] 83 2<|Li Z9 [J 13,86] 88<|Li Qh [67,J 1] 89<|Cf 21 o_ [64,87,J 1,89] 90 11<|Li Qh [67,J 1] 105<|Cf 21 o_ [64,104,J 1,105] 106 11<|Dn [88,J 0,.str [],.str [],J 0,J 0,J 0,J 0,.flt .f64 0,.vsl 2 10 [94,95,96,97,98,99,100,101,102,103,110,111,112,113,114,115,116,117,118,119],120])<|Cf 39 ft39 [64,80,J 4] 83 2<|Li Z9 [J 2,86] 88<|Cf 39 ft39 [64,87,J 4] 89 2<|Li Z9 [J 9,92] 94<|Li Qh [67,J 1] 95<|Cf 21 o_ [64,93,88,95] 96 11<|Li Qh [67,J 1] 111<|Cf 21 o_ [64,110,88,111] 112 11<|Dn [94,J 0,.str [],.str [],J 0,J 0,J 0,J 0,.flt .f64 0,.vsl 2 10 [100,101,102,103,104,105,106,107,108,109,116,117,118,119,120,121,122,123,124,125],126])<|Cf 39 ft39 [64,73,J 9] 76 2<|Iq 79 0 81 (Li Qh [67,J 1] 82<|Cf 21 o_ [64,80,66,82] 83 11<|Dn [J 16,J 0,.str [],.str [],J 0,J 0,J 0,J 0,.flt .f64 0,.vsl 1 10 [87,88,89,90,91,92,93,94,95,96],97])<|Iq 79 1 82 (Cf 39 ft39 [64,80,J 4] 83 2<|Li Z9 [J 2,86] 88<|Li Qh [67,J 1] 89<|Cf 21 o_ [64,87,88,89] 90 11<|Dn [J 17,66,.str [],.str [],J 0,J 0,J 0,J 0,.flt .f64 0,.vsl 1 10 [94,95,96,97,98,99,100,101,102,103],104])<|Iq 79 2 83 (It Q6 [66,J 5] 84 (Li Qh [67,J 1] 85<|Cf 21 o_ [64,80,66,85] 86 11<|Li Qh [67,J 1] 101<|Cf 21 o_ [64,100,66,101] 102 11<|Dn [J 8,J 0,.str [],.str [],J 0,J 0,J 0,J 0,.flt .f64 0,.vsl 2 10 [90,91,92,93,94,95,96,97,98,99,106,107,108,109,110,111,112,113,114,115],116])<|Cf 39 ft39 [64,80,J 4] 85 2<|Li Z9 [J 4,88] 90<|Li Qh [67,J 1] 91<|Cf 21 o_ [64,89,66,91] 92 11<|Li Qh [67,J 1] 107<|Cf 21 o_ [64,106,66,107] 108 11<|Dn [90,J 0,.str [],.str [],J 0,J 0,J 0,J 0,.flt .f64 0,.vsl 2 10 [96,97,98,99,100,101,102,103,104,105,112,113,114,115,116,117,118,119,120,121],122])<|Cf 39 ft39 [64,80,J 4] 84 2<|Li Z9 [J 4,87] 89<|Li Qh [67,J 1] 90<|Cf 21 o_ [64,88,66,90] 91 11<|Li Qh [67,J 1] 106<|Cf 21 o_ [64,105,66,106] 107 11<|Dn [89,J 0,.str [],.str [],J 0,J 0,J 0,J 0,.flt .f64 0,.vsl 2 10 [95,96,97,98,99,100,101,102,103,104,111,112,113,114,115,116,117,118,119,120],121]
theorem p48 {l:List UInt8} {a:AV} (hp:Pk l a) (d:Nat) (hd2:d<=100) (hX:1<=d->PX l a 21 d):PX l a 48 (d+1):=by
 intro n k hn hk;have hA:=hp.1.ok v1_;refine vg_ (c:=c48) (n:=300) (t:=t48) mo ov rfl (λY _=>vD_ _) (by kernel_rfl) λY hf hg=>?_;unfold t48;have f7:∀v:Nat,(v:Int)<7->WX (d+1+1) (.mk 17 2 [] [] 0 0 0 0 0 [.mk 1 0 [] [] 0 0 3 (v:Int) 0 []]):=λv hv=>wQ_ (by decide) (P_ (by unfold hj_;omega) (.inl rfl))
 (refine b_ (Y_ hp hn (by first|decide|omega) (by first|decide|omega)) rfl (okP hA) ⟨?_,trivial⟩;intro ws hw;rcases hw with ⟨v,n,rfl,hv,hn⟩)
 (refine p_ rfl rfl (λh=>?_) (λh=>?_)<;>rw [l_]at h)
 ·((have e4:v=0\/v=1\/v=2\/v=3:=by omega);rcases e4 with rfl|rfl|rfl|rfl)
  all_goals (refine b_ (Y_ hp hn (by first|decide|omega) (by first|decide|omega)) rfl (okP hA) ⟨?_,trivial⟩;intro ws hw;rcases hw with ⟨v,n,rfl,hv,hn⟩);refine vw_ rfl rfl (ve_ rfl rfl rfl ?_);(first
                                                                                                                                                                                                               |exact B_ (x:=.mk 2 _ _ _ _ _ _ _ _ []) rfl (t_ (by decide)) hn
                                                                                                                                                                                                               |exact B_ (x:=.mk 1 _ _ _ _ _ _ _ _ []) rfl (P_ (by unfold hj_;omega) (by first|exact .inl rfl|exact .inr (.inl rfl)|exact .inr (.inr (.inl rfl))|exact .inr (.inr (.inr rfl)))) hn)
 (refine p_ rfl rfl (λh=>?_) (λh=>?_)<;>rw [l_]at h)
 ·(refine p_ rfl rfl (λh=>?_) (λh=>?_)<;>rw [l_]at h)
  ·(refine p_ rfl rfl (λh=>?_) (λh=>?_)<;>rw [l_]at h)
   .have hd1:1<=d:=(by simp at h;omega);refine vw_ (y_ (z:=(d:Int)) (by omega) (by omega) (by omega)) rfl ?_
    (refine b_ ((hX hd1) _ _ hn (by first|decide|(simp only [decide_eq_true_eq,decide_eq_false_iff_not]at *; omega))) rfl (X_ hA) ⟨?_,trivial⟩;intro ws hw;obtain ⟨⟨op,kd,nm,fd,ad,nn,vk,vi,vf,args⟩,n,rfl,hx,hn⟩:=hw)
    (exact B_ (x:=.mk _ _ _ _ _ _ _ _ _ [.mk ..]) rfl (wQ_ (by first|decide|(refine .inr (.inr (.inr ⟨rfl,?_,?_⟩))<;>(simp only [decide_eq_true_eq,decide_eq_false_iff_not]at *; omega))) (by assumption)) hn)
   ·(refine p_ rfl rfl (λh=>?_) (λh=>?_)<;>rw [l_]at h)
    ·(refine b_ (Y_ hp hn (by first|decide|omega) (by first|decide|omega)) rfl (okP hA) ⟨?_,trivial⟩;intro ws hw;rcases hw with ⟨v,n,rfl,hv,hn⟩)
     exact B_ (x:=.mk _ _ _ _ _ _ _ _ _ [.mk _ _ _ _ _ _ _ _ _ []]) rfl (f7 _ hv) hn
    ·(refine b_ (Y_ hp hn (by first|decide|omega) (by first|decide|omega)) rfl (okP hA) ⟨?_,trivial⟩;intro ws hw;rcases hw with ⟨v,n,rfl,hv,hn⟩);((have e4:v=0\/v=1\/v=2\/v=3:=by omega);rcases e4 with rfl|rfl|rfl|rfl)
     all_goals refine vw_ rfl rfl (ve_ rfl rfl rfl ?_);(first
                                                                |exact B_ (x:=.mk 2 _ _ _ _ _ _ _ _ []) rfl (t_ (by decide)) hn
                                                                |exact B_ (x:=.mk 1 _ _ _ _ _ _ _ _ []) rfl (P_ (by unfold hj_;omega) (by first|exact .inl rfl|exact .inr (.inl rfl)|exact .inr (.inr (.inl rfl))|exact .inr (.inr (.inr rfl)))) hn)
  ·(refine p_ rfl rfl (λh=>?_) (λh=>?_)<;>rw [l_]at h)
   ·(refine b_ (Y_ hp hn (by first|decide|omega) (by first|decide|omega)) rfl (okP hA) ⟨?_,trivial⟩;intro ws hw;rcases hw with ⟨v,n,rfl,hv,hn⟩)
    exact B_ (x:=.mk _ _ _ _ _ _ _ _ _ [.mk _ _ _ _ _ _ _ _ _ []]) rfl (f7 _ hv) hn
   ·(refine b_ (Y_ hp hn (by first|decide|omega) (by first|decide|omega)) rfl (okP hA) ⟨?_,trivial⟩;intro ws hw;rcases hw with ⟨v,n,rfl,hv,hn⟩);((have e4:v=0\/v=1\/v=2\/v=3:=by omega);rcases e4 with rfl|rfl|rfl|rfl)
    all_goals refine vw_ rfl rfl (ve_ rfl rfl rfl ?_);(first
                                                               |exact B_ (x:=.mk 2 _ _ _ _ _ _ _ _ []) rfl (t_ (by decide)) hn
                                                               |exact B_ (x:=.mk 1 _ _ _ _ _ _ _ _ []) rfl (P_ (by unfold hj_;omega) (by first|exact .inl rfl|exact .inr (.inl rfl)|exact .inr (.inr (.inl rfl))|exact .inr (.inr (.inr rfl)))) hn)
 (refine p_ rfl rfl (λh=>?_) (λh=>?_)<;>rw [l_]at h)
 ·(refine p_ rfl rfl (λh=>?_) (λh=>?_)<;>rw [l_]at h)
  ·(refine b_ (Y_ hp hn (by first|decide|omega) (by first|decide|omega)) rfl (okP hA) ⟨?_,trivial⟩;intro ws hw;rcases hw with ⟨v,n,rfl,hv,hn⟩);(first
                                                                                                                                                       |exact B_ (x:=.mk 2 _ _ _ _ _ _ _ _ []) rfl (t_ (by decide)) hn
                                                                                                                                                       |exact B_ (x:=.mk 1 _ _ _ _ _ _ _ _ []) rfl (P_ (by unfold hj_;omega) (by first|exact .inl rfl|exact .inr (.inl rfl)|exact .inr (.inr (.inl rfl))|exact .inr (.inr (.inr rfl)))) hn)
  ·(first
     |exact B_ (x:=.mk 2 _ _ _ _ _ _ _ _ []) rfl (t_ (by decide)) hn
     |exact B_ (x:=.mk 1 _ _ _ _ _ _ _ _ []) rfl (P_ (by unfold hj_;omega) (by first|exact .inl rfl|exact .inr (.inl rfl)|exact .inr (.inr (.inl rfl))|exact .inr (.inr (.inr rfl)))) hn)
 (refine p_ rfl rfl (λh=>?_) (λh=>?_)<;>rw [l_]at h)
 ·(refine p_ rfl rfl (λh=>?_) (λh=>?_)<;>rw [l_]at h)
  ·(first
     |exact B_ (x:=.mk 2 _ _ _ _ _ _ _ _ []) rfl (t_ (by decide)) hn
     |exact B_ (x:=.mk 1 _ _ _ _ _ _ _ _ []) rfl (P_ (by unfold hj_;omega) (by first|exact .inl rfl|exact .inr (.inl rfl)|exact .inr (.inr (.inl rfl))|exact .inr (.inr (.inr rfl)))) hn)
  ·(refine p_ rfl rfl (λh=>?_) (λh=>?_)<;>rw [l_]at h)
   ·(refine b_ (Y_ hp hn (by first|decide|omega) (by first|decide|omega)) rfl (okP hA) ⟨?_,trivial⟩;intro ws hw;rcases hw with ⟨v,n,rfl,hv,hn⟩);(first
                                                                                                                                                        |exact B_ (x:=.mk 2 _ _ _ _ _ _ _ _ []) rfl (t_ (by decide)) hn
                                                                                                                                                        |exact B_ (x:=.mk 1 _ _ _ _ _ _ _ _ []) rfl (P_ (by unfold hj_;omega) (by first|exact .inl rfl|exact .inr (.inl rfl)|exact .inr (.inr (.inl rfl))|exact .inr (.inr (.inr rfl)))) hn)
   ·(first
      |exact B_ (x:=.mk 2 _ _ _ _ _ _ _ _ []) rfl (t_ (by decide)) hn
      |exact B_ (x:=.mk 1 _ _ _ _ _ _ _ _ []) rfl (P_ (by unfold hj_;omega) (by first|exact .inl rfl|exact .inr (.inl rfl)|exact .inr (.inr (.inl rfl))|exact .inr (.inr (.inr rfl)))) hn)
 (refine p_ rfl rfl (λh=>?_) (λh=>?_)<;>rw [l_]at h)
 ·(refine b_ (Y_ hp hn (by first|decide|omega) (by first|decide|omega)) rfl (okP hA) ⟨?_,trivial⟩;intro ws hw;rcases hw with ⟨v,n,rfl,hv,hn⟩);((have e4:v=0\/v=1\/v=2\/v=3:=by omega);rcases e4 with rfl|rfl|rfl|rfl)
  all_goals refine vw_ rfl rfl (vw_ rfl rfl ?_);(first
                                                        |exact B_ (x:=.mk 2 _ _ _ _ _ _ _ _ []) rfl (t_ (by decide)) hn
                                                        |exact B_ (x:=.mk 1 _ _ _ _ _ _ _ _ []) rfl (P_ (by unfold hj_;omega) (by first|exact .inl rfl|exact .inr (.inl rfl)|exact .inr (.inr (.inl rfl))|exact .inr (.inr (.inr rfl)))) hn)
 ·(first
    |exact B_ (x:=.mk 2 _ _ _ _ _ _ _ _ []) rfl (t_ (by decide)) hn
    |exact B_ (x:=.mk 1 _ _ _ _ _ _ _ _ []) rfl (P_ (by unfold hj_;omega) (by first|exact .inl rfl|exact .inr (.inl rfl)|exact .inr (.inr (.inl rfl))|exact .inr (.inr (.inr rfl)))) hn)
theorem p21 {l:List UInt8} {a:AV} (hp:Pk l a) (d:Nat) (hd2:d<=100) (h83:PX l a 48 (d+1)) (h81:1<=d->PX l a 21 d):PX l a 21 (d+1):=by
 intro n k hn hk;have hA:=hp.1.ok v1_;refine vg_ (c:=c21) (n:=300) (t:=t21) mo ov rfl (λY _=>vD_ _) (by kernel_rfl) λY hf hg=>?_;unfold t21
 (refine p_ rfl rfl (λh=>?_) (λh=>?_)<;>rw [l_]at h)
 ·(refine b_ (h83 _ _ hn (by first|decide|(simp only [decide_eq_true_eq,decide_eq_false_iff_not]at *; omega))) rfl (X_ hA) ⟨?_,trivial⟩;intro ws hw;obtain ⟨⟨op,kd,nm,fd,ad,nn,vk,vi,vf,args⟩,n,rfl,hx,hn⟩:=hw);exact B_ (x:=.mk ..) rfl hx hn
 have hX:=h81 (by simp at h;omega)
 (refine b_ (Y_ hp hn (by first|decide|omega) (by first|decide|omega)) rfl (okP hA) ⟨?_,trivial⟩;intro ws hw;rcases hw with ⟨v,n,rfl,hv,hn⟩);(refine p_ rfl rfl (λh=>?_) (λh=>?_)<;>rw [l_]at h)
 ·(refine b_ (h83 _ _ hn (by first|decide|(simp only [decide_eq_true_eq,decide_eq_false_iff_not]at *; omega))) rfl (X_ hA) ⟨?_,trivial⟩;intro ws hw;obtain ⟨⟨op,kd,nm,fd,ad,nn,vk,vi,vf,args⟩,n,rfl,hx,hn⟩:=hw);exact B_ (x:=.mk ..) rfl hx hn
 (refine p_ rfl rfl (λh=>?_) (λh=>?_)<;>rw [l_]at h)
 ·(refine b_ (Y_ hp hn (by first|decide|omega) (by first|decide|omega)) rfl (okP hA) ⟨?_,trivial⟩;intro ws hw;rcases hw with ⟨v,n,rfl,hv,hn⟩);(refine p_ rfl rfl (λh=>?_) (λh=>?_)<;>rw [l_]at h)
  ·(refine vw_ (y_ (z:=(d:Int)) (by omega) (by omega) (by omega)) rfl ?_);(refine b_ (hX _ _ hn (by first|decide|(simp only [decide_eq_true_eq,decide_eq_false_iff_not]at *; omega))) rfl (X_ hA) ⟨?_,trivial⟩;intro ws hw;obtain ⟨⟨op,kd,nm,fd,ad,nn,vk,vi,vf,args⟩,n,rfl,hx,hn⟩:=hw);(exact B_ (x:=.mk _ _ _ _ _ _ _ _ _ [.mk ..]) rfl (wQ_ (by first|decide|(refine .inr (.inr (.inr ⟨rfl,?_,?_⟩))<;>(simp only [decide_eq_true_eq,decide_eq_false_iff_not]at *; omega))) (by assumption)) hn)
  (refine p_ rfl rfl (λh=>?_) (λh=>?_)<;>rw [l_]at h)
  ·(refine b_ (Y_ hp hn (by first|decide|omega) (by first|decide|omega)) rfl (okP hA) ⟨?_,trivial⟩;intro ws hw;rcases hw with ⟨v,n,rfl,hv,hn⟩);(refine vw_ (g_ (by omega) (by omega)) rfl ?_);(refine vw_ (y_ (z:=(d:Int)) (by omega) (by omega) (by omega)) rfl ?_);(refine b_ (hX _ _ hn (by first|decide|(simp only [decide_eq_true_eq,decide_eq_false_iff_not]at *; omega))) rfl (X_ hA) ⟨?_,trivial⟩;intro ws hw;obtain ⟨⟨op,kd,nm,fd,ad,nn,vk,vi,vf,args⟩,n,rfl,hx,hn⟩:=hw);(refine vw_ (y_ (z:=(d:Int)) (by omega) (by omega) (by omega)) rfl ?_);(refine b_ (hX _ _ hn (by first|decide|(simp only [decide_eq_true_eq,decide_eq_false_iff_not]at *; omega))) rfl (X_ hA) ⟨?_,trivial⟩;intro ws hw;obtain ⟨⟨op,kd,nm,fd,ad,nn,vk,vi,vf,args⟩,n,rfl,hx,hn⟩:=hw);(exact B_ (x:=.mk _ _ _ _ _ _ _ _ _ [.mk ..,.mk ..]) rfl (wR_ (by omega) (by assumption) (by assumption)) hn)
  ·(refine b_ (Y_ hp hn (by first|decide|omega) (by first|decide|omega)) rfl (okP hA) ⟨?_,trivial⟩;intro ws hw;rcases hw with ⟨v,n,rfl,hv,hn⟩);(refine vw_ (g_ (by omega) (by omega)) rfl ?_);(refine b_ (Y_ hp hn (by first|decide|omega) (by first|decide|omega)) rfl (okP hA) ⟨?_,trivial⟩;intro ws hw;rcases hw with ⟨v,n,rfl,hv,hn⟩);(refine vw_ (g_ (by omega) (by omega)) rfl ?_);(refine vw_ (y_ (z:=(d:Int)) (by omega) (by omega) (by omega)) rfl ?_);(refine b_ (hX _ _ hn (by first|decide|(simp only [decide_eq_true_eq,decide_eq_false_iff_not]at *; omega))) rfl (X_ hA) ⟨?_,trivial⟩;intro ws hw;obtain ⟨⟨op,kd,nm,fd,ad,nn,vk,vi,vf,args⟩,n,rfl,hx,hn⟩:=hw);(refine vw_ (y_ (z:=(d:Int)) (by omega) (by omega) (by omega)) rfl ?_);(refine b_ (hX _ _ hn (by first|decide|(simp only [decide_eq_true_eq,decide_eq_false_iff_not]at *; omega))) rfl (X_ hA) ⟨?_,trivial⟩;intro ws hw;obtain ⟨⟨op,kd,nm,fd,ad,nn,vk,vi,vf,args⟩,n,rfl,hx,hn⟩:=hw);(exact B_ (x:=.mk _ _ _ _ _ _ _ _ _ [.mk ..,.mk ..]) rfl (wR_ (by omega) (by assumption) (by assumption)) hn)
 ·(refine b_ (Y_ hp hn (by first|decide|omega) (by first|decide|omega)) rfl (okP hA) ⟨?_,trivial⟩;intro ws hw;rcases hw with ⟨v,n,rfl,hv,hn⟩);(refine p_ rfl rfl (λh=>?_) (λh=>?_)<;>rw [l_]at h)
  ·(refine vw_ (y_ (z:=(d:Int)) (by omega) (by omega) (by omega)) rfl ?_);(refine b_ (hX _ _ hn (by first|decide|(simp only [decide_eq_true_eq,decide_eq_false_iff_not]at *; omega))) rfl (X_ hA) ⟨?_,trivial⟩;intro ws hw;obtain ⟨⟨op,kd,nm,fd,ad,nn,vk,vi,vf,args⟩,n,rfl,hx,hn⟩:=hw);(exact B_ (x:=.mk _ _ _ _ _ _ _ _ _ [.mk ..]) rfl (wQ_ (by first|decide|(refine .inr (.inr (.inr ⟨rfl,?_,?_⟩))<;>(simp only [decide_eq_true_eq,decide_eq_false_iff_not]at *; omega))) (by assumption)) hn)
  (refine p_ rfl rfl (λh=>?_) (λh=>?_)<;>rw [l_]at h)
  ·(refine b_ (Y_ hp hn (by first|decide|omega) (by first|decide|omega)) rfl (okP hA) ⟨?_,trivial⟩;intro ws hw;rcases hw with ⟨v,n,rfl,hv,hn⟩);(refine vw_ (g_ (by omega) (by omega)) rfl ?_);(refine vw_ (y_ (z:=(d:Int)) (by omega) (by omega) (by omega)) rfl ?_);(refine b_ (hX _ _ hn (by first|decide|(simp only [decide_eq_true_eq,decide_eq_false_iff_not]at *; omega))) rfl (X_ hA) ⟨?_,trivial⟩;intro ws hw;obtain ⟨⟨op,kd,nm,fd,ad,nn,vk,vi,vf,args⟩,n,rfl,hx,hn⟩:=hw);(exact B_ (x:=.mk _ _ _ _ _ _ _ _ _ [.mk ..]) rfl (wQ_ (by first|decide|(refine .inr (.inr (.inr ⟨rfl,?_,?_⟩))<;>(simp only [decide_eq_true_eq,decide_eq_false_iff_not]at *; omega))) (by assumption)) hn)
  (refine p_ rfl rfl (λh=>?_) (λh=>?_)<;>rw [l_]at h)
  ·(refine p_ rfl rfl (λh=>?_) (λh=>?_)<;>rw [l_]at h)
   ·(refine vw_ (y_ (z:=(d:Int)) (by omega) (by omega) (by omega)) rfl ?_);(refine b_ (hX _ _ hn (by first|decide|(simp only [decide_eq_true_eq,decide_eq_false_iff_not]at *; omega))) rfl (X_ hA) ⟨?_,trivial⟩;intro ws hw;obtain ⟨⟨op,kd,nm,fd,ad,nn,vk,vi,vf,args⟩,n,rfl,hx,hn⟩:=hw);(refine vw_ (y_ (z:=(d:Int)) (by omega) (by omega) (by omega)) rfl ?_);(refine b_ (hX _ _ hn (by first|decide|(simp only [decide_eq_true_eq,decide_eq_false_iff_not]at *; omega))) rfl (X_ hA) ⟨?_,trivial⟩;intro ws hw;obtain ⟨⟨op,kd,nm,fd,ad,nn,vk,vi,vf,args⟩,n,rfl,hx,hn⟩:=hw);(exact B_ (x:=.mk _ _ _ _ _ _ _ _ _ [.mk ..,.mk ..]) rfl (wR_ (by omega) (by assumption) (by assumption)) hn)
   ·(refine b_ (Y_ hp hn (by first|decide|omega) (by first|decide|omega)) rfl (okP hA) ⟨?_,trivial⟩;intro ws hw;rcases hw with ⟨v,n,rfl,hv,hn⟩);(refine vw_ (g_ (by omega) (by omega)) rfl ?_);(refine vw_ (y_ (z:=(d:Int)) (by omega) (by omega) (by omega)) rfl ?_);(refine b_ (hX _ _ hn (by first|decide|(simp only [decide_eq_true_eq,decide_eq_false_iff_not]at *; omega))) rfl (X_ hA) ⟨?_,trivial⟩;intro ws hw;obtain ⟨⟨op,kd,nm,fd,ad,nn,vk,vi,vf,args⟩,n,rfl,hx,hn⟩:=hw);(refine vw_ (y_ (z:=(d:Int)) (by omega) (by omega) (by omega)) rfl ?_);(refine b_ (hX _ _ hn (by first|decide|(simp only [decide_eq_true_eq,decide_eq_false_iff_not]at *; omega))) rfl (X_ hA) ⟨?_,trivial⟩;intro ws hw;obtain ⟨⟨op,kd,nm,fd,ad,nn,vk,vi,vf,args⟩,n,rfl,hx,hn⟩:=hw);(exact B_ (x:=.mk _ _ _ _ _ _ _ _ _ [.mk ..,.mk ..]) rfl (wR_ (by omega) (by assumption) (by assumption)) hn)
  ·(refine b_ (Y_ hp hn (by first|decide|omega) (by first|decide|omega)) rfl (okP hA) ⟨?_,trivial⟩;intro ws hw;rcases hw with ⟨v,n,rfl,hv,hn⟩);(refine vw_ (g_ (by omega) (by omega)) rfl ?_);(refine vw_ (y_ (z:=(d:Int)) (by omega) (by omega) (by omega)) rfl ?_);(refine b_ (hX _ _ hn (by first|decide|(simp only [decide_eq_true_eq,decide_eq_false_iff_not]at *; omega))) rfl (X_ hA) ⟨?_,trivial⟩;intro ws hw;obtain ⟨⟨op,kd,nm,fd,ad,nn,vk,vi,vf,args⟩,n,rfl,hx,hn⟩:=hw);(refine vw_ (y_ (z:=(d:Int)) (by omega) (by omega) (by omega)) rfl ?_);(refine b_ (hX _ _ hn (by first|decide|(simp only [decide_eq_true_eq,decide_eq_false_iff_not]at *; omega))) rfl (X_ hA) ⟨?_,trivial⟩;intro ws hw;obtain ⟨⟨op,kd,nm,fd,ad,nn,vk,vi,vf,args⟩,n,rfl,hx,hn⟩:=hw);(exact B_ (x:=.mk _ _ _ _ _ _ _ _ _ [.mk ..,.mk ..]) rfl (wR_ (by omega) (by assumption) (by assumption)) hn)
theorem pX {l:List UInt8} {a:AV} (hp:Pk l a):∀d:Nat,d<=100->PX l a 48 (d+1)/\PX l a 21 (d+1)
 |0,h=>by have h1:=p48 hp 0 h (λh=>by omega);exact ⟨h1,p21 hp 0 h h1 (λh=>by omega)⟩
 |d+1,h=>by have ih:=pX hp d (by omega);have h1:=p48 hp (d+1) h (λ_=>ih.2);exact ⟨h1,p21 hp (d+1) h h1 (λ_=>ih.2)⟩
end Go.Proofs.YtjconanknjgpnaaGreat.vars
set_option maxRecDepth 100000
set_option linter.unusedVariables false
set_option linter.unusedSimpArgs false
namespace Go.Proofs.YtjconanknjgpnaaGreat.vars
open Go Go.Sx
def RS (l:List UInt8) (d:Nat):Nat->List AV->Prop:=λ_ ws=>∃(x:GS) (n:Nat),ws=v_ x++[.int .i64 (n:Int)]/\WS d x/\n<=l.length
def RB (l:List UInt8) (d m:Nat):Nat->List AV->Prop:=λ_ ws=>∃(x:List GS) (n:Nat),ws=[A_ x,.int .i64 (n:Int)]/\(x.length<=m/\∀s∈x,WS d s)/\n<=l.length
def PS (l:List UInt8) (a:AV) (d:Nat):Prop:=∀n:Nat,n<=l.length->CF Tryz.prog 112 ft112 [a,.int .i64 (n:Int),.int .i64 (d:Int)] (RS l (d+1))
def PB (l:List UInt8) (a:AV) (d:Nat):Prop:=∀(n m:Nat),n<=l.length->1<=m->m<=10->CF Tryz.prog 70 ft70 [a,.int .i64 (n:Int),.int .i64 (m:Int),.int .i64 (d:Int)] (RB l (d+1) m)
theorem AO_ (x:GS) (n:Int):okL (v_ x++[.int .i64 n])=true:=oL_.okL_join (okS x) rfl
theorem aN_ {l:List UInt8} {d n j:Nat} {x:GS} {hv:List AV} {Y:Sy} {L:List (Nat->List AV->Prop)} (h:ab_ Y.v hv=v_ x++[.int .i64 (n:Int)]) (hw:WS d x) (hn:n<=l.length):VOK Tryz.prog (QF (RS l d)) L Y (.done (.tup (.int .i64 (.ofNat j)::hv))):=
 VOK_fin (by rw [h];exact AO_ x n) ⟨x,n,h,hw,hn⟩
theorem nv_ {d:Nat} {to e:GX} (h1:WX 5 to) (h2:to.op=2\/to.op=3) (h3:WX 5 e):WS (d+1) (.mk 1 to e [] [] [] 0 0 []):=.inl ⟨rfl,h1,h2,e_ (by omega) h3,rfl,rfl⟩
theorem E_ {d:Nat} {to e:GX} {nm:List UInt8} {kd ad:Int} {args:List GX} (h0:nm=[116,109]\/nm=[99]\/nm=[101]) (h1:args.length<=2) (h2:∀a∈args,WX 5 a):WS (d+1) (.mk 4 to e [] [] nm kd ad args):=.inr (.inr ⟨rfl,h0,h1,h2,rfl,rfl⟩)
theorem xC_ {d:Nat} {op:Int} {to e:GX} {thn els:List GS} {nm:List UInt8} {kd ad:Int} {args:List GX} (h1:op=2\/op=3) (h:WX 5 e) (h2:thn.length<=5) (h3:els.length<=5) (h4:∀s∈thn,WS d s) (h5:∀s∈els,WS d s):WS (d+1) (.mk op to e thn els nm kd ad args):=.inr (.inl ⟨h1,h,h2,h3,h4,h5⟩)
theorem yk_ {x:GX} (h:WX 5 x):∀a∈[x],WX 5 a:=λa ha=>by cases List.mem_singleton.1 ha;exact h
theorem w2_ {x y:GX} (h:WX 5 x) (h2:WX 5 y):∀a∈[x,y],WX 5 a:=λa ha=>by rcases List.mem_cons.1 ha with rfl|ha;exact h;exact yk_ h2 a ha
theorem uZ_ {s:List UInt8} (h:(s,[])∈wi_):WX 5 (.mk 2 0 s [] 0 0 0 0 0 []):=t_ h
def c79:VC:=⟨⟨[],[]⟩,[],[],0,true,[]⟩
def t79:VT:=.done (.agg [J 2,J 0,64,.str [],J 0,J 0,J 0,J 0,.flt .f64 0,.nsl])
def c80:VC:=⟨⟨[],[]⟩,[],[],0,true,[]⟩
def t80:VT:=.done (.agg [J 1,J 0,.str [],.str [],J 0,J 0,64,65,66,.nsl])
theorem p79 (s:List UInt8):jz_ Tryz.prog 79 [.str s] (.agg (k_ (.mk 2 0 s [] 0 0 0 0 0 []))):=by refine t7_ (sh:=[none]) (ls:=[.str s]) (c:=c79) (n:=300) (t:=t79) mo ov rfl rfl rfl (λY _=>vD_ _) rfl (by kernel_rfl) λY hf hg=>?_;unfold t79;exact uI_ rfl
theorem p80:jz_ Tryz.prog 80 [.agg [.int .i64 3,.int .i64 1,.flt .f64 0]] (.agg (k_ (.mk 1 0 [] [] 0 0 3 1 0 []))):=by refine t7_ (sh:=[some 3]) (ls:=[.int .i64 3,.int .i64 1,.flt .f64 0]) (c:=c80) (n:=300) (t:=t80) mo ov rfl rfl rfl (λY _=>vD_ _) rfl (by kernel_rfl) λY hf hg=>?_;unfold t80;exact uI_ rfl
def B0_:VC:=⟨⟨[],[]⟩,[(79,[(some 10)]),(80,[(some 10)])],[],1,true,[(39,ft39),(21,o_),(48,wy_),(70,ft70)]⟩
def A7_:VT:=Cf 39 ft39 [64,65,J 12] 67 2<|Iq 70 0 72 (It Qc [66,J 0] 73 (Cf 21 o_ [64,71,J 1,J 3] 74 11<|Li Qh [66,J 1] 89<|Cf 70 ft70 [64,88,J 2,89] 90 2<|Cf 39 ft39 [64,95,J 2] 96 2<|Iq 99 0 101 (Li Qh [66,J 1] 102<|Cf 70 ft70 [64,100,J 2,102] 103 2<|Dn [J 2,J 0,J 0,.str [],.str [],J 0,J 0,J 0,J 0,.flt .f64 0,.nsl,78,79,80,81,82,83,84,85,86,87,94,107,.str [],J 0,J 0,.nsl,108])<|Dn [J 2,J 0,J 0,.str [],.str [],J 0,J 0,J 0,J 0,.flt .f64 0,.nsl,78,79,80,81,82,83,84,85,86,87,94,.nsl,.str [],J 0,J 0,.nsl,100])<|Iq 70 1 74 (It Qc [66,J 0] 75 (.call 79 [.str [120]] 76 [(some 10)]<|Cf 48 wy_ [64,71,J 2,J 1] 86 11<|Li Qh [66,J 1] 101<|Cf 70 ft70 [64,100,J 1,101] 102 2<|.call 79 [.str [120]] 108 [(some 10)]<|.call 79 [.str [120]] 118 [(some 10)]<|.call 80 [.agg [J 3,J 1,.flt .f64 0]] 128 [(some 10)]<|Li Zm [106,.agg [J 1,108,109,110,111,112,113,114,115,116,117,J 4,J 0,.str [],.str [],J 0,J 0,J 0,J 0,.flt .f64 0,.vsl 2 10 [118,119,120,121,122,123,124,125,126,127,128,129,130,131,132,133,134,135,136,137],.nsl,.nsl,.str [],J 0,J 0,.nsl]] 138<|Dn [J 3,J 0,J 0,.str [],.str [],J 0,J 0,J 0,J 0,.flt .f64 0,.nsl,J 11,J 0,.str [],.str [],J 0,J 0,J 0,J 0,.flt .f64 0,.vsl 2 10 [76,77,78,79,80,81,82,83,84,85,90,91,92,93,94,95,96,97,98,99],138,.nsl,.str [],J 0,J 0,.nsl,107])<|Iq 70 2 76 (Cf 21 o_ [64,71,J 1,J 2] 77 11<|Cf 21 o_ [64,91,J 4,J 2] 92 11<|Dn [J 4,J 0,J 0,.str [],.str [],J 0,J 0,J 0,J 0,.flt .f64 0,.nsl,J 0,J 0,.str [],.str [],J 0,J 0,J 0,J 0,.flt .f64 0,.nsl,.nsl,.nsl,.str [116,109],J 0,J 0,.vsl 2 10 [81,82,83,84,85,86,87,88,89,90,96,97,98,99,100,101,102,103,104,105],106])<|Iq 70 3 77 (Cf 21 o_ [64,71,J 1,J 2] 78 11<|Cf 48 wy_ [64,92,J 2,J 1] 93 11<|Dn [J 4,J 0,J 0,.str [],.str [],J 0,J 0,J 0,J 0,.flt .f64 0,.nsl,J 0,J 0,.str [],.str [],J 0,J 0,J 0,J 0,.flt .f64 0,.nsl,.nsl,.nsl,.str [99],J 0,J 0,.vsl 2 10 [82,83,84,85,86,87,88,89,90,91,97,98,99,100,101,102,103,104,105,106],107])<|Iq 70 4 78 (Cf 21 o_ [64,71,J 1,J 2] 79 11<|Dn [J 4,J 0,J 0,.str [],.str [],J 0,J 0,J 0,J 0,.flt .f64 0,.nsl,J 0,J 0,.str [],.str [],J 0,J 0,J 0,J 0,.flt .f64 0,.nsl,.nsl,.nsl,.str [101],J 0,J 0,.vsl 1 10 [83,84,85,86,87,88,89,90,91,92],93])<|Iq 70 5 79 (Cf 21 o_ [64,71,J 2,J 2] 80 11<|Cf 21 o_ [64,94,J 2,J 3] 95 11<|Dn [J 1,J 3,J 0,.str [107],.str [],J 0,J 0,J 0,J 0,.flt .f64 0,.vsl 1 10 [84,85,86,87,88,89,90,91,92,93],99,100,101,102,103,104,105,106,107,108,.nsl,.nsl,.str [],J 0,J 0,.nsl,109])<|Cf 39 ft39 [64,71,J 6] 80 2<|Li Zi [.vsl 6 1 [.str [111],.str [120],.str [113],.str [121],.str [122],.str [119]],83] 85<|Li Zj [85] 86<|Li Zn [86] 87<|.call 79 [86] 88 [(some 10)]<|Cf 21 o_ [64,84,87,J 4] 98 11<|Dn [J 1,88,89,90,91,92,93,94,95,96,97,102,103,104,105,106,107,108,109,110,111,.nsl,.nsl,.str [],J 0,J 0,.nsl,112])<|Iq 70 2 75 (Cf 21 o_ [64,71,J 1,J 2] 76 11<|Cf 21 o_ [64,90,J 4,J 2] 91 11<|Dn [J 4,J 0,J 0,.str [],.str [],J 0,J 0,J 0,J 0,.flt .f64 0,.nsl,J 0,J 0,.str [],.str [],J 0,J 0,J 0,J 0,.flt .f64 0,.nsl,.nsl,.nsl,.str [116,109],J 0,J 0,.vsl 2 10 [80,81,82,83,84,85,86,87,88,89,95,96,97,98,99,100,101,102,103,104],105])<|Iq 70 3 76 (Cf 21 o_ [64,71,J 1,J 2] 77 11<|Cf 48 wy_ [64,91,J 2,J 1] 92 11<|Dn [J 4,J 0,J 0,.str [],.str [],J 0,J 0,J 0,J 0,.flt .f64 0,.nsl,J 0,J 0,.str [],.str [],J 0,J 0,J 0,J 0,.flt .f64 0,.nsl,.nsl,.nsl,.str [99],J 0,J 0,.vsl 2 10 [81,82,83,84,85,86,87,88,89,90,96,97,98,99,100,101,102,103,104,105],106])<|Iq 70 4 77 (Cf 21 o_ [64,71,J 1,J 2] 78 11<|Dn [J 4,J 0,J 0,.str [],.str [],J 0,J 0,J 0,J 0,.flt .f64 0,.nsl,J 0,J 0,.str [],.str [],J 0,J 0,J 0,J 0,.flt .f64 0,.nsl,.nsl,.nsl,.str [101],J 0,J 0,.vsl 1 10 [82,83,84,85,86,87,88,89,90,91],92])<|Iq 70 5 78 (Cf 21 o_ [64,71,J 2,J 2] 79 11<|Cf 21 o_ [64,93,J 2,J 3] 94 11<|Dn [J 1,J 3,J 0,.str [107],.str [],J 0,J 0,J 0,J 0,.flt .f64 0,.vsl 1 10 [83,84,85,86,87,88,89,90,91,92],98,99,100,101,102,103,104,105,106,107,.nsl,.nsl,.str [],J 0,J 0,.nsl,108])<|Cf 39 ft39 [64,71,J 6] 79 2<|Li Zi [.vsl 6 1 [.str [111],.str [120],.str [113],.str [121],.str [122],.str [119]],82] 84<|Li Zj [84] 85<|Li Zn [85] 86<|.call 79 [85] 87 [(some 10)]<|Cf 21 o_ [64,83,86,J 4] 97 11<|Dn [J 1,87,88,89,90,91,92,93,94,95,96,101,102,103,104,105,106,107,108,109,110,.nsl,.nsl,.str [],J 0,J 0,.nsl,111])<|Iq 70 1 73 (It Qc [66,J 0] 74 (.call 79 [.str [120]] 75 [(some 10)]<|Cf 48 wy_ [64,71,J 2,J 1] 85 11<|Li Qh [66,J 1] 100<|Cf 70 ft70 [64,99,J 1,100] 101 2<|.call 79 [.str [120]] 107 [(some 10)]<|.call 79 [.str [120]] 117 [(some 10)]<|.call 80 [.agg [J 3,J 1,.flt .f64 0]] 127 [(some 10)]<|Li Zm [105,.agg [J 1,107,108,109,110,111,112,113,114,115,116,J 4,J 0,.str [],.str [],J 0,J 0,J 0,J 0,.flt .f64 0,.vsl 2 10 [117,118,119,120,121,122,123,124,125,126,127,128,129,130,131,132,133,134,135,136],.nsl,.nsl,.str [],J 0,J 0,.nsl]] 137<|Dn [J 3,J 0,J 0,.str [],.str [],J 0,J 0,J 0,J 0,.flt .f64 0,.nsl,J 11,J 0,.str [],.str [],J 0,J 0,J 0,J 0,.flt .f64 0,.vsl 2 10 [75,76,77,78,79,80,81,82,83,84,89,90,91,92,93,94,95,96,97,98],137,.nsl,.str [],J 0,J 0,.nsl,106])<|Iq 70 2 75 (Cf 21 o_ [64,71,J 1,J 2] 76 11<|Cf 21 o_ [64,90,J 4,J 2] 91 11<|Dn [J 4,J 0,J 0,.str [],.str [],J 0,J 0,J 0,J 0,.flt .f64 0,.nsl,J 0,J 0,.str [],.str [],J 0,J 0,J 0,J 0,.flt .f64 0,.nsl,.nsl,.nsl,.str [116,109],J 0,J 0,.vsl 2 10 [80,81,82,83,84,85,86,87,88,89,95,96,97,98,99,100,101,102,103,104],105])<|Iq 70 3 76 (Cf 21 o_ [64,71,J 1,J 2] 77 11<|Cf 48 wy_ [64,91,J 2,J 1] 92 11<|Dn [J 4,J 0,J 0,.str [],.str [],J 0,J 0,J 0,J 0,.flt .f64 0,.nsl,J 0,J 0,.str [],.str [],J 0,J 0,J 0,J 0,.flt .f64 0,.nsl,.nsl,.nsl,.str [99],J 0,J 0,.vsl 2 10 [81,82,83,84,85,86,87,88,89,90,96,97,98,99,100,101,102,103,104,105],106])<|Iq 70 4 77 (Cf 21 o_ [64,71,J 1,J 2] 78 11<|Dn [J 4,J 0,J 0,.str [],.str [],J 0,J 0,J 0,J 0,.flt .f64 0,.nsl,J 0,J 0,.str [],.str [],J 0,J 0,J 0,J 0,.flt .f64 0,.nsl,.nsl,.nsl,.str [101],J 0,J 0,.vsl 1 10 [82,83,84,85,86,87,88,89,90,91],92])<|Iq 70 5 78 (Cf 21 o_ [64,71,J 2,J 2] 79 11<|Cf 21 o_ [64,93,J 2,J 3] 94 11<|Dn [J 1,J 3,J 0,.str [107],.str [],J 0,J 0,J 0,J 0,.flt .f64 0,.vsl 1 10 [83,84,85,86,87,88,89,90,91,92],98,99,100,101,102,103,104,105,106,107,.nsl,.nsl,.str [],J 0,J 0,.nsl,108])<|Cf 39 ft39 [64,71,J 6] 79 2<|Li Zi [.vsl 6 1 [.str [111],.str [120],.str [113],.str [121],.str [122],.str [119]],82] 84<|Li Zj [84] 85<|Li Zn [85] 86<|.call 79 [85] 87 [(some 10)]<|Cf 21 o_ [64,83,86,J 4] 97 11<|Dn [J 1,87,88,89,90,91,92,93,94,95,96,101,102,103,104,105,106,107,108,109,110,.nsl,.nsl,.str [],J 0,J 0,.nsl,111])<|Iq 70 2 74 (Cf 21 o_ [64,71,J 1,J 2] 75 11<|Cf 21 o_ [64,89,J 4,J 2] 90 11<|Dn [J 4,J 0,J 0,.str [],.str [],J 0,J 0,J 0,J 0,.flt .f64 0,.nsl,J 0,J 0,.str [],.str [],J 0,J 0,J 0,J 0,.flt .f64 0,.nsl,.nsl,.nsl,.str [116,109],J 0,J 0,.vsl 2 10 [79,80,81,82,83,84,85,86,87,88,94,95,96,97,98,99,100,101,102,103],104])<|Iq 70 3 75 (Cf 21 o_ [64,71,J 1,J 2] 76 11<|Cf 48 wy_ [64,90,J 2,J 1] 91 11<|Dn [J 4,J 0,J 0,.str [],.str [],J 0,J 0,J 0,J 0,.flt .f64 0,.nsl,J 0,J 0,.str [],.str [],J 0,J 0,J 0,J 0,.flt .f64 0,.nsl,.nsl,.nsl,.str [99],J 0,J 0,.vsl 2 10 [80,81,82,83,84,85,86,87,88,89,95,96,97,98,99,100,101,102,103,104],105])<|Iq 70 4 76 (Cf 21 o_ [64,71,J 1,J 2] 77 11<|Dn [J 4,J 0,J 0,.str [],.str [],J 0,J 0,J 0,J 0,.flt .f64 0,.nsl,J 0,J 0,.str [],.str [],J 0,J 0,J 0,J 0,.flt .f64 0,.nsl,.nsl,.nsl,.str [101],J 0,J 0,.vsl 1 10 [81,82,83,84,85,86,87,88,89,90],91])<|Iq 70 5 77 (Cf 21 o_ [64,71,J 2,J 2] 78 11<|Cf 21 o_ [64,92,J 2,J 3] 93 11<|Dn [J 1,J 3,J 0,.str [107],.str [],J 0,J 0,J 0,J 0,.flt .f64 0,.vsl 1 10 [82,83,84,85,86,87,88,89,90,91],97,98,99,100,101,102,103,104,105,106,.nsl,.nsl,.str [],J 0,J 0,.nsl,107])<|Cf 39 ft39 [64,71,J 6] 78 2<|Li Zi [.vsl 6 1 [.str [111],.str [120],.str [113],.str [121],.str [122],.str [119]],81] 83<|Li Zj [83] 84<|Li Zn [84] 85<|.call 79 [84] 86 [(some 10)]<|Cf 21 o_ [64,82,85,J 4] 96 11<|Dn [J 1,86,87,88,89,90,91,92,93,94,95,100,101,102,103,104,105,106,107,108,109,.nsl,.nsl,.str [],J 0,J 0,.nsl,110]
def c70:VC:=⟨⟨[],[]⟩,[],[(0,[⟨[(8,.slx 0 0 0),(2,67),(0,.ptr 0 0),(7,.slx 1 27 1)],[(0,[64,.slx 2 0 0])],2,3,[⟨1,27,1,7,none⟩],[],[]⟩])],1,true,[(39,ft39),(112,ft112)]⟩
def t70:VT:=Cf 39 ft39 [64,65,66] 68 2<|Li Q2 [71,J 1] 73<|.loop 74 0 [73,.nsl,72] (.cons 3 (It Qc [74,J 0] 77 (Cf 112 ft112 [64,76,67] 78 28<|Li Zm [75,.agg [81,82,83,84,85,86,87,88,89,90,91,92,93,94,95,96,97,98,99,100,101,102,103,104,105,106,107]] 109<|Li Qh [74,J 1] 110<|.again 0 0 [110,109,108])<|Dn [75,76]) .nil)
theorem u6_ (l:List GS) (s:GS) (hl:l.length<=1000):(XOp.app 27 336).run Tryz.prog [A_ l,.agg (v_ s)]=some (A_ (l++[s])):=by rw [uO_,uO_];exact ua_ zb_ (by decide) (by decide) l s (by omega)
theorem okR {a:AV} (h:okC a=true) {n m k:Int}:okL [a,.int .i64 n,.int .i64 m,.int .i64 k]=true:=by simp only [okL,okC,h]
theorem AT_ {l:List UInt8} {a:AV} (hp:Pk l a) (d:Nat) (hd2:d<=100) (hB:∀e,d=e+1->PB l a e):PS l a d:=by
 intro n hn;have hA:=hp.1.ok v1_;have h2:∀(n:Nat) (k:Int),n<=l.length->1<=k/\k<=5->CF Tryz.prog 21 ftX [a,.int .i64 (n:Int),.int .i64 k,.int .i64 2] (RX l 2):=(pX hp 1 (by decide)).2;have h3:∀(n:Nat) (k:Int),n<=l.length->1<=k/\k<=5->CF Tryz.prog 21 ftX [a,.int .i64 (n:Int),.int .i64 k,.int .i64 3] (RX l 3):=(pX hp 2 (by decide)).2;have h4:∀(n:Nat) (k:Int),n<=l.length->1<=k/\k<=5->CF Tryz.prog 21 ftX [a,.int .i64 (n:Int),.int .i64 k,.int .i64 4] (RX l 4):=(pX hp 3 (by decide)).2;have h31:∀(n:Nat) (k:Int),n<=l.length->1<=k/\k<=5->CF Tryz.prog 48 ftX [a,.int .i64 (n:Int),.int .i64 k,.int .i64 1] (RX l 1):=(pX hp 0 (by decide)).1;refine vg_ (c:=B0_) (n:=300) (t:=A7_) mo ov rfl (λY _=>vD_ _) (by kernel_rfl) λY hf hg=>?_;unfold A7_
 (refine b_ (Y_ hp hn (by first|decide|omega) (by first|decide|omega)) rfl (okP hA) ⟨?_,trivial⟩;intro ws hw;rcases hw with ⟨v,n,rfl,hv,hn⟩)
 (refine p_ rfl rfl (λh=>?_) (λh=>?_)<;>rw [l_]at h)
 ·(refine p_ rfl rfl (λh=>?_) (λh=>?_)<;>rw [l_]at h)
  .obtain ⟨e,rfl⟩:∃e,d=e+1:=⟨d-1,by simp at h;omega⟩;have hB:=hB e rfl
   (refine b_ (h3 _ _ hn (by decide)) rfl (X_ hA) ⟨?_,trivial⟩;intro ws hw;obtain ⟨⟨op,kd,nm,fd,ad,nn,vk,vi,vf,args⟩,n,rfl,hx,hn⟩:=hw;replace hx:=e_ (e:=5) (by decide) hx)
   refine vw_ (y_ (z:=(e:Int)) (by omega) (by omega) (by omega)) rfl ?_;refine b_ (hB _ 2 hn (by decide) (by decide)) rfl (okR hA) ⟨?_,trivial⟩;rintro ws ⟨thn,n,rfl,⟨ht,hts⟩,hn⟩
   (refine b_ (Y_ hp hn (by first|decide|omega) (by first|decide|omega)) rfl (okP hA) ⟨?_,trivial⟩;intro ws hw;rcases hw with ⟨v,n,rfl,hv,hn⟩)
   (refine p_ rfl rfl (λh=>?_) (λh=>?_)<;>rw [l_]at h)
   refine vw_ (y_ (z:=(e:Int)) (by omega) (by omega) (by omega)) rfl ?_;refine b_ (hB _ 2 hn (by decide) (by decide)) rfl (okR hA) ⟨?_,trivial⟩;rintro ws ⟨els,n,rfl,⟨he,hes⟩,hn⟩;exact aN_ (x:=.mk _ (.mk _ _ _ _ _ _ _ _ _ []) (.mk ..) thn els _ _ _ []) rfl (xC_ (.inl rfl) (by assumption) (by omega) (by omega) hts hes) hn;exact aN_ (x:=.mk _ (.mk _ _ _ _ _ _ _ _ _ []) (.mk ..) thn [] _ _ _ []) rfl (xC_ (.inl rfl) (by assumption) (by omega) (by decide) hts (λs hs=>(List.not_mem_nil hs).elim)) hn
  ·(
    (refine p_ rfl rfl (λh=>?_) (λh=>?_)<;>rw [l_]at h)
    ·(refine p_ rfl rfl (λh=>?_) (λh=>?_)<;>rw [l_]at h)
     .obtain ⟨e,rfl⟩:∃e,d=e+1:=⟨d-1,by simp at h;omega⟩;have hB:=hB e rfl;refine uH_ (p79 _) rfl rfl ?_
      (refine b_ (h31 _ _ hn (by first|decide|(simp only [decide_eq_true_eq,decide_eq_false_iff_not]at *; omega))) rfl (X_ hA) ⟨?_,trivial⟩;intro ws hw;obtain ⟨⟨op,kd,nm,fd,ad,nn,vk,vi,vf,args⟩,n,rfl,hx,hn⟩:=hw)
      refine vw_ (y_ (z:=(e:Int)) (by omega) (by omega) (by omega)) rfl ?_;refine b_ (hB _ 1 hn (by decide) (by decide)) rfl (okR hA) ⟨?_,trivial⟩;rintro ws ⟨thn,n,rfl,⟨ht,hts⟩,hn⟩;refine uH_ (p79 _) rfl rfl (uH_ (p79 _) rfl rfl (uH_ p80 rfl rfl ?_));refine vw_ (u6_ thn (.mk 1 (.mk _ _ _ _ _ _ _ _ _ []) (.mk _ _ _ _ _ _ _ _ _ [.mk _ _ _ _ _ _ _ _ _ [],.mk _ _ _ _ _ _ _ _ _ []]) [] [] _ _ _ []) (by omega)) (okB _) ?_;refine aN_ (x:=.mk _ (.mk _ _ _ _ _ _ _ _ _ []) (.mk _ _ _ _ _ _ _ _ _ [.mk _ _ _ _ _ _ _ _ _ [],.mk ..]) (thn++[_]) [] _ _ _ []) rfl (xC_ (.inr rfl) ?_ ?_ (by decide) ?_ (λs hs=>(List.not_mem_nil hs).elim)) hn;exact wR_ (by decide) (t_ (by decide)) (e_ (e:=4) (by decide) hx);rw [List.length_append];simp;omega;intro s hs;rcases List.mem_append.1 hs with hs|hs;exact hts s hs;cases List.mem_singleton.1 hs;exact nv_ (uZ_ (by decide)) (.inl rfl) (wR_ (by decide) (t_ (by decide)) (P_ (by unfold hj_;omega) (.inl rfl)))
     ·(
       (refine p_ rfl rfl (λh=>?_) (λh=>?_)<;>rw [l_]at h)
       ·(refine b_ (h2 _ _ hn (by decide)) rfl (X_ hA) ⟨?_,trivial⟩;intro ws hw;obtain ⟨⟨op,kd,nm,fd,ad,nn,vk,vi,vf,args⟩,n,rfl,hx,hn⟩:=hw;replace hx:=e_ (e:=5) (by decide) hx);(refine b_ (h2 _ _ hn (by decide)) rfl (X_ hA) ⟨?_,trivial⟩;intro ws hw;obtain ⟨⟨op,kd,nm,fd,ad,nn,vk,vi,vf,args⟩,n,rfl,hx,hn⟩:=hw;replace hx:=e_ (e:=5) (by decide) hx);exact aN_ (x:=.mk _ (.mk _ _ _ _ _ _ _ _ _ []) (.mk _ _ _ _ _ _ _ _ _ []) [] [] _ _ _ [.mk ..,.mk ..]) rfl (E_ (by decide) (by simp) (w2_ (by assumption) (by assumption))) hn
       (refine p_ rfl rfl (λh=>?_) (λh=>?_)<;>rw [l_]at h)
       ·(refine b_ (h2 _ _ hn (by decide)) rfl (X_ hA) ⟨?_,trivial⟩;intro ws hw;obtain ⟨⟨op,kd,nm,fd,ad,nn,vk,vi,vf,args⟩,n,rfl,hx,hn⟩:=hw;replace hx:=e_ (e:=5) (by decide) hx);(refine b_ (h31 _ _ hn (by decide)) rfl (X_ hA) ⟨?_,trivial⟩;intro ws hw;obtain ⟨⟨op,kd,nm,fd,ad,nn,vk,vi,vf,args⟩,n,rfl,hx,hn⟩:=hw;replace hx:=e_ (e:=5) (by decide) hx);exact aN_ (x:=.mk _ (.mk _ _ _ _ _ _ _ _ _ []) (.mk _ _ _ _ _ _ _ _ _ []) [] [] _ _ _ [.mk ..,.mk ..]) rfl (E_ (by decide) (by simp) (w2_ (by assumption) (by assumption))) hn
       (refine p_ rfl rfl (λh=>?_) (λh=>?_)<;>rw [l_]at h)
       ·(refine b_ (h2 _ _ hn (by decide)) rfl (X_ hA) ⟨?_,trivial⟩;intro ws hw;obtain ⟨⟨op,kd,nm,fd,ad,nn,vk,vi,vf,args⟩,n,rfl,hx,hn⟩:=hw;replace hx:=e_ (e:=5) (by decide) hx);exact aN_ (x:=.mk _ (.mk _ _ _ _ _ _ _ _ _ []) (.mk _ _ _ _ _ _ _ _ _ []) [] [] _ _ _ [.mk ..]) rfl (E_ (by decide) (by simp) (yk_ (by assumption))) hn
       (refine p_ rfl rfl (λh=>?_) (λh=>?_)<;>rw [l_]at h)
       ·(refine b_ (h2 _ _ hn (by first|decide|(simp only [decide_eq_true_eq,decide_eq_false_iff_not]at *; omega))) rfl (X_ hA) ⟨?_,trivial⟩;intro ws hw;obtain ⟨⟨op,kd,nm,fd,ad,nn,vk,vi,vf,args⟩,n,rfl,hx,hn⟩:=hw);rename WX _ _=>hx0;(refine b_ (h3 _ _ hn (by decide)) rfl (X_ hA) ⟨?_,trivial⟩;intro ws hw;obtain ⟨⟨op,kd,nm,fd,ad,nn,vk,vi,vf,args⟩,n,rfl,hx,hn⟩:=hw;replace hx:=e_ (e:=5) (by decide) hx)
        exact aN_ (x:=.mk _ (.mk _ _ _ _ _ _ _ _ _ [.mk ..]) (.mk ..) [] [] _ _ _ []) rfl (nv_ (e_ (d:=4) (by decide) (wQ_ (by decide) hx0)) (.inr rfl) (by assumption)) hn
       ·(refine b_ (Y_ hp hn (by first|decide|omega) (by first|decide|omega)) rfl (okP hA) ⟨?_,trivial⟩;intro ws hw;rcases hw with ⟨v,n,rfl,hv,hn⟩)
        have e6:v=0\/v=1\/v=2\/v=3\/v=4\/v=5:=(by omega);rcases e6 with rfl|rfl|rfl|rfl|rfl|rfl;all_goals
         refine vw_ rfl rfl (vw_ rfl rfl (vw_ rfl rfl (uH_ (p79 _) rfl rfl ?_)))
         (refine b_ (h4 _ _ hn (by decide)) rfl (X_ hA) ⟨?_,trivial⟩;intro ws hw;obtain ⟨⟨op,kd,nm,fd,ad,nn,vk,vi,vf,args⟩,n,rfl,hx,hn⟩:=hw;replace hx:=e_ (e:=5) (by decide) hx)
         exact aN_ (x:=.mk _ (.mk _ _ _ _ _ _ _ _ _ []) (.mk ..) [] [] _ _ _ []) rfl (nv_ (uZ_ (by decide)) (.inl rfl) (by assumption)) hn)
    ·(
              (refine p_ rfl rfl (λh=>?_) (λh=>?_)<;>rw [l_]at h)
              ·(refine b_ (h2 _ _ hn (by decide)) rfl (X_ hA) ⟨?_,trivial⟩;intro ws hw;obtain ⟨⟨op,kd,nm,fd,ad,nn,vk,vi,vf,args⟩,n,rfl,hx,hn⟩:=hw;replace hx:=e_ (e:=5) (by decide) hx);(refine b_ (h2 _ _ hn (by decide)) rfl (X_ hA) ⟨?_,trivial⟩;intro ws hw;obtain ⟨⟨op,kd,nm,fd,ad,nn,vk,vi,vf,args⟩,n,rfl,hx,hn⟩:=hw;replace hx:=e_ (e:=5) (by decide) hx);exact aN_ (x:=.mk _ (.mk _ _ _ _ _ _ _ _ _ []) (.mk _ _ _ _ _ _ _ _ _ []) [] [] _ _ _ [.mk ..,.mk ..]) rfl (E_ (by decide) (by simp) (w2_ (by assumption) (by assumption))) hn
              (refine p_ rfl rfl (λh=>?_) (λh=>?_)<;>rw [l_]at h)
              ·(refine b_ (h2 _ _ hn (by decide)) rfl (X_ hA) ⟨?_,trivial⟩;intro ws hw;obtain ⟨⟨op,kd,nm,fd,ad,nn,vk,vi,vf,args⟩,n,rfl,hx,hn⟩:=hw;replace hx:=e_ (e:=5) (by decide) hx);(refine b_ (h31 _ _ hn (by decide)) rfl (X_ hA) ⟨?_,trivial⟩;intro ws hw;obtain ⟨⟨op,kd,nm,fd,ad,nn,vk,vi,vf,args⟩,n,rfl,hx,hn⟩:=hw;replace hx:=e_ (e:=5) (by decide) hx);exact aN_ (x:=.mk _ (.mk _ _ _ _ _ _ _ _ _ []) (.mk _ _ _ _ _ _ _ _ _ []) [] [] _ _ _ [.mk ..,.mk ..]) rfl (E_ (by decide) (by simp) (w2_ (by assumption) (by assumption))) hn
              (refine p_ rfl rfl (λh=>?_) (λh=>?_)<;>rw [l_]at h)
              ·(refine b_ (h2 _ _ hn (by decide)) rfl (X_ hA) ⟨?_,trivial⟩;intro ws hw;obtain ⟨⟨op,kd,nm,fd,ad,nn,vk,vi,vf,args⟩,n,rfl,hx,hn⟩:=hw;replace hx:=e_ (e:=5) (by decide) hx);exact aN_ (x:=.mk _ (.mk _ _ _ _ _ _ _ _ _ []) (.mk _ _ _ _ _ _ _ _ _ []) [] [] _ _ _ [.mk ..]) rfl (E_ (by decide) (by simp) (yk_ (by assumption))) hn
              (refine p_ rfl rfl (λh=>?_) (λh=>?_)<;>rw [l_]at h)
              ·(refine b_ (h2 _ _ hn (by first|decide|(simp only [decide_eq_true_eq,decide_eq_false_iff_not]at *; omega))) rfl (X_ hA) ⟨?_,trivial⟩;intro ws hw;obtain ⟨⟨op,kd,nm,fd,ad,nn,vk,vi,vf,args⟩,n,rfl,hx,hn⟩:=hw);rename WX _ _=>hx0;(refine b_ (h3 _ _ hn (by decide)) rfl (X_ hA) ⟨?_,trivial⟩;intro ws hw;obtain ⟨⟨op,kd,nm,fd,ad,nn,vk,vi,vf,args⟩,n,rfl,hx,hn⟩:=hw;replace hx:=e_ (e:=5) (by decide) hx)
               exact aN_ (x:=.mk _ (.mk _ _ _ _ _ _ _ _ _ [.mk ..]) (.mk ..) [] [] _ _ _ []) rfl (nv_ (e_ (d:=4) (by decide) (wQ_ (by decide) hx0)) (.inr rfl) (by assumption)) hn
              ·(refine b_ (Y_ hp hn (by first|decide|omega) (by first|decide|omega)) rfl (okP hA) ⟨?_,trivial⟩;intro ws hw;rcases hw with ⟨v,n,rfl,hv,hn⟩)
               have e6:v=0\/v=1\/v=2\/v=3\/v=4\/v=5:=(by omega);rcases e6 with rfl|rfl|rfl|rfl|rfl|rfl;all_goals
                refine vw_ rfl rfl (vw_ rfl rfl (vw_ rfl rfl (uH_ (p79 _) rfl rfl ?_)))
                (refine b_ (h4 _ _ hn (by decide)) rfl (X_ hA) ⟨?_,trivial⟩;intro ws hw;obtain ⟨⟨op,kd,nm,fd,ad,nn,vk,vi,vf,args⟩,n,rfl,hx,hn⟩:=hw;replace hx:=e_ (e:=5) (by decide) hx)
                exact aN_ (x:=.mk _ (.mk _ _ _ _ _ _ _ _ _ []) (.mk ..) [] [] _ _ _ []) rfl (nv_ (uZ_ (by decide)) (.inl rfl) (by assumption)) hn))
 ·(
   (refine p_ rfl rfl (λh=>?_) (λh=>?_)<;>rw [l_]at h)
   ·(refine p_ rfl rfl (λh=>?_) (λh=>?_)<;>rw [l_]at h)
    .obtain ⟨e,rfl⟩:∃e,d=e+1:=⟨d-1,by simp at h;omega⟩;have hB:=hB e rfl;refine uH_ (p79 _) rfl rfl ?_
     (refine b_ (h31 _ _ hn (by first|decide|(simp only [decide_eq_true_eq,decide_eq_false_iff_not]at *; omega))) rfl (X_ hA) ⟨?_,trivial⟩;intro ws hw;obtain ⟨⟨op,kd,nm,fd,ad,nn,vk,vi,vf,args⟩,n,rfl,hx,hn⟩:=hw)
     refine vw_ (y_ (z:=(e:Int)) (by omega) (by omega) (by omega)) rfl ?_;refine b_ (hB _ 1 hn (by decide) (by decide)) rfl (okR hA) ⟨?_,trivial⟩;rintro ws ⟨thn,n,rfl,⟨ht,hts⟩,hn⟩;refine uH_ (p79 _) rfl rfl (uH_ (p79 _) rfl rfl (uH_ p80 rfl rfl ?_));refine vw_ (u6_ thn (.mk 1 (.mk _ _ _ _ _ _ _ _ _ []) (.mk _ _ _ _ _ _ _ _ _ [.mk _ _ _ _ _ _ _ _ _ [],.mk _ _ _ _ _ _ _ _ _ []]) [] [] _ _ _ []) (by omega)) (okB _) ?_;refine aN_ (x:=.mk _ (.mk _ _ _ _ _ _ _ _ _ []) (.mk _ _ _ _ _ _ _ _ _ [.mk _ _ _ _ _ _ _ _ _ [],.mk ..]) (thn++[_]) [] _ _ _ []) rfl (xC_ (.inr rfl) ?_ ?_ (by decide) ?_ (λs hs=>(List.not_mem_nil hs).elim)) hn;exact wR_ (by decide) (t_ (by decide)) (e_ (e:=4) (by decide) hx);rw [List.length_append];simp;omega;intro s hs;rcases List.mem_append.1 hs with hs|hs;exact hts s hs;cases List.mem_singleton.1 hs;exact nv_ (uZ_ (by decide)) (.inl rfl) (wR_ (by decide) (t_ (by decide)) (P_ (by unfold hj_;omega) (.inl rfl)))
    ·(
              (refine p_ rfl rfl (λh=>?_) (λh=>?_)<;>rw [l_]at h)
              ·(refine b_ (h2 _ _ hn (by decide)) rfl (X_ hA) ⟨?_,trivial⟩;intro ws hw;obtain ⟨⟨op,kd,nm,fd,ad,nn,vk,vi,vf,args⟩,n,rfl,hx,hn⟩:=hw;replace hx:=e_ (e:=5) (by decide) hx);(refine b_ (h2 _ _ hn (by decide)) rfl (X_ hA) ⟨?_,trivial⟩;intro ws hw;obtain ⟨⟨op,kd,nm,fd,ad,nn,vk,vi,vf,args⟩,n,rfl,hx,hn⟩:=hw;replace hx:=e_ (e:=5) (by decide) hx);exact aN_ (x:=.mk _ (.mk _ _ _ _ _ _ _ _ _ []) (.mk _ _ _ _ _ _ _ _ _ []) [] [] _ _ _ [.mk ..,.mk ..]) rfl (E_ (by decide) (by simp) (w2_ (by assumption) (by assumption))) hn
              (refine p_ rfl rfl (λh=>?_) (λh=>?_)<;>rw [l_]at h)
              ·(refine b_ (h2 _ _ hn (by decide)) rfl (X_ hA) ⟨?_,trivial⟩;intro ws hw;obtain ⟨⟨op,kd,nm,fd,ad,nn,vk,vi,vf,args⟩,n,rfl,hx,hn⟩:=hw;replace hx:=e_ (e:=5) (by decide) hx);(refine b_ (h31 _ _ hn (by decide)) rfl (X_ hA) ⟨?_,trivial⟩;intro ws hw;obtain ⟨⟨op,kd,nm,fd,ad,nn,vk,vi,vf,args⟩,n,rfl,hx,hn⟩:=hw;replace hx:=e_ (e:=5) (by decide) hx);exact aN_ (x:=.mk _ (.mk _ _ _ _ _ _ _ _ _ []) (.mk _ _ _ _ _ _ _ _ _ []) [] [] _ _ _ [.mk ..,.mk ..]) rfl (E_ (by decide) (by simp) (w2_ (by assumption) (by assumption))) hn
              (refine p_ rfl rfl (λh=>?_) (λh=>?_)<;>rw [l_]at h)
              ·(refine b_ (h2 _ _ hn (by decide)) rfl (X_ hA) ⟨?_,trivial⟩;intro ws hw;obtain ⟨⟨op,kd,nm,fd,ad,nn,vk,vi,vf,args⟩,n,rfl,hx,hn⟩:=hw;replace hx:=e_ (e:=5) (by decide) hx);exact aN_ (x:=.mk _ (.mk _ _ _ _ _ _ _ _ _ []) (.mk _ _ _ _ _ _ _ _ _ []) [] [] _ _ _ [.mk ..]) rfl (E_ (by decide) (by simp) (yk_ (by assumption))) hn
              (refine p_ rfl rfl (λh=>?_) (λh=>?_)<;>rw [l_]at h)
              ·(refine b_ (h2 _ _ hn (by first|decide|(simp only [decide_eq_true_eq,decide_eq_false_iff_not]at *; omega))) rfl (X_ hA) ⟨?_,trivial⟩;intro ws hw;obtain ⟨⟨op,kd,nm,fd,ad,nn,vk,vi,vf,args⟩,n,rfl,hx,hn⟩:=hw);rename WX _ _=>hx0;(refine b_ (h3 _ _ hn (by decide)) rfl (X_ hA) ⟨?_,trivial⟩;intro ws hw;obtain ⟨⟨op,kd,nm,fd,ad,nn,vk,vi,vf,args⟩,n,rfl,hx,hn⟩:=hw;replace hx:=e_ (e:=5) (by decide) hx)
               exact aN_ (x:=.mk _ (.mk _ _ _ _ _ _ _ _ _ [.mk ..]) (.mk ..) [] [] _ _ _ []) rfl (nv_ (e_ (d:=4) (by decide) (wQ_ (by decide) hx0)) (.inr rfl) (by assumption)) hn
              ·(refine b_ (Y_ hp hn (by first|decide|omega) (by first|decide|omega)) rfl (okP hA) ⟨?_,trivial⟩;intro ws hw;rcases hw with ⟨v,n,rfl,hv,hn⟩)
               have e6:v=0\/v=1\/v=2\/v=3\/v=4\/v=5:=(by omega);rcases e6 with rfl|rfl|rfl|rfl|rfl|rfl;all_goals
                refine vw_ rfl rfl (vw_ rfl rfl (vw_ rfl rfl (uH_ (p79 _) rfl rfl ?_)))
                (refine b_ (h4 _ _ hn (by decide)) rfl (X_ hA) ⟨?_,trivial⟩;intro ws hw;obtain ⟨⟨op,kd,nm,fd,ad,nn,vk,vi,vf,args⟩,n,rfl,hx,hn⟩:=hw;replace hx:=e_ (e:=5) (by decide) hx)
                exact aN_ (x:=.mk _ (.mk _ _ _ _ _ _ _ _ _ []) (.mk ..) [] [] _ _ _ []) rfl (nv_ (uZ_ (by decide)) (.inl rfl) (by assumption)) hn)
   ·(
     (refine p_ rfl rfl (λh=>?_) (λh=>?_)<;>rw [l_]at h)
     ·(refine b_ (h2 _ _ hn (by decide)) rfl (X_ hA) ⟨?_,trivial⟩;intro ws hw;obtain ⟨⟨op,kd,nm,fd,ad,nn,vk,vi,vf,args⟩,n,rfl,hx,hn⟩:=hw;replace hx:=e_ (e:=5) (by decide) hx);(refine b_ (h2 _ _ hn (by decide)) rfl (X_ hA) ⟨?_,trivial⟩;intro ws hw;obtain ⟨⟨op,kd,nm,fd,ad,nn,vk,vi,vf,args⟩,n,rfl,hx,hn⟩:=hw;replace hx:=e_ (e:=5) (by decide) hx);exact aN_ (x:=.mk _ (.mk _ _ _ _ _ _ _ _ _ []) (.mk _ _ _ _ _ _ _ _ _ []) [] [] _ _ _ [.mk ..,.mk ..]) rfl (E_ (by decide) (by simp) (w2_ (by assumption) (by assumption))) hn
     (refine p_ rfl rfl (λh=>?_) (λh=>?_)<;>rw [l_]at h)
     ·(refine b_ (h2 _ _ hn (by decide)) rfl (X_ hA) ⟨?_,trivial⟩;intro ws hw;obtain ⟨⟨op,kd,nm,fd,ad,nn,vk,vi,vf,args⟩,n,rfl,hx,hn⟩:=hw;replace hx:=e_ (e:=5) (by decide) hx);(refine b_ (h31 _ _ hn (by decide)) rfl (X_ hA) ⟨?_,trivial⟩;intro ws hw;obtain ⟨⟨op,kd,nm,fd,ad,nn,vk,vi,vf,args⟩,n,rfl,hx,hn⟩:=hw;replace hx:=e_ (e:=5) (by decide) hx);exact aN_ (x:=.mk _ (.mk _ _ _ _ _ _ _ _ _ []) (.mk _ _ _ _ _ _ _ _ _ []) [] [] _ _ _ [.mk ..,.mk ..]) rfl (E_ (by decide) (by simp) (w2_ (by assumption) (by assumption))) hn
     (refine p_ rfl rfl (λh=>?_) (λh=>?_)<;>rw [l_]at h)
     ·(refine b_ (h2 _ _ hn (by decide)) rfl (X_ hA) ⟨?_,trivial⟩;intro ws hw;obtain ⟨⟨op,kd,nm,fd,ad,nn,vk,vi,vf,args⟩,n,rfl,hx,hn⟩:=hw;replace hx:=e_ (e:=5) (by decide) hx);exact aN_ (x:=.mk _ (.mk _ _ _ _ _ _ _ _ _ []) (.mk _ _ _ _ _ _ _ _ _ []) [] [] _ _ _ [.mk ..]) rfl (E_ (by decide) (by simp) (yk_ (by assumption))) hn
     (refine p_ rfl rfl (λh=>?_) (λh=>?_)<;>rw [l_]at h)
     ·(refine b_ (h2 _ _ hn (by first|decide|(simp only [decide_eq_true_eq,decide_eq_false_iff_not]at *; omega))) rfl (X_ hA) ⟨?_,trivial⟩;intro ws hw;obtain ⟨⟨op,kd,nm,fd,ad,nn,vk,vi,vf,args⟩,n,rfl,hx,hn⟩:=hw);rename WX _ _=>hx0;(refine b_ (h3 _ _ hn (by decide)) rfl (X_ hA) ⟨?_,trivial⟩;intro ws hw;obtain ⟨⟨op,kd,nm,fd,ad,nn,vk,vi,vf,args⟩,n,rfl,hx,hn⟩:=hw;replace hx:=e_ (e:=5) (by decide) hx)
      exact aN_ (x:=.mk _ (.mk _ _ _ _ _ _ _ _ _ [.mk ..]) (.mk ..) [] [] _ _ _ []) rfl (nv_ (e_ (d:=4) (by decide) (wQ_ (by decide) hx0)) (.inr rfl) (by assumption)) hn
     ·(refine b_ (Y_ hp hn (by first|decide|omega) (by first|decide|omega)) rfl (okP hA) ⟨?_,trivial⟩;intro ws hw;rcases hw with ⟨v,n,rfl,hv,hn⟩)
      have e6:v=0\/v=1\/v=2\/v=3\/v=4\/v=5:=(by omega);rcases e6 with rfl|rfl|rfl|rfl|rfl|rfl;all_goals
       refine vw_ rfl rfl (vw_ rfl rfl (vw_ rfl rfl (uH_ (p79 _) rfl rfl ?_)))
       (refine b_ (h4 _ _ hn (by decide)) rfl (X_ hA) ⟨?_,trivial⟩;intro ws hw;obtain ⟨⟨op,kd,nm,fd,ad,nn,vk,vi,vf,args⟩,n,rfl,hx,hn⟩:=hw;replace hx:=e_ (e:=5) (by decide) hx)
       exact aN_ (x:=.mk _ (.mk _ _ _ _ _ _ _ _ _ []) (.mk ..) [] [] _ _ _ []) rfl (nv_ (uZ_ (by decide)) (.inl rfl) (by assumption)) hn))
theorem p70 {l:List UInt8} {a:AV} (hp:Pk l a) (d:Nat) (hd2:d<=100) (hS:PS l a d):PB l a d:=by
 intro n m hn hm1 hm2;have hA:=hp.1.ok v1_;refine vg_ (c:=c70) (n:=300) (t:=t70) mo ov rfl (λY _=>vD_ _) (by kernel_rfl) λY hf hg=>?_;unfold t70
 (refine b_ (Y_ hp hn (by first|decide|omega) (by first|decide|omega)) rfl (okP hA) ⟨?_,trivial⟩;intro ws hw;rcases hw with ⟨v,n,rfl,hv,hn⟩)
 refine vw_ (g_ (by omega) (by omega)) rfl ?_;refine uJ_ (ι:=Nat×List GS×Nat) (λx=>[.int .i64 (x.1:Int),A_ x.2.1,.int .i64 (x.2.2:Int)]) (λx=>x.1+x.2.1.length<=m/\(∀s∈x.2.1,WS (d+1) s)/\x.2.2<=l.length) (λx=>x.1) (v+1,[],n)
  ⟨by simp;omega,λs hs=>(List.not_mem_nil hs).elim,hn⟩ rfl (λx _=>by simp only [okL,okC,okB]) (λx y _ _ h=>by simp at h;omega) (λx hx=>?_)
 obtain ⟨i,ss,n⟩:=x;obtain ⟨h1,h2,hn⟩:=hx;simp only at h1 hn h2⊢
 (refine p_ rfl rfl (λh=>?_) (λh=>?_)<;>rw [l_]at h)
 refine b_ (hS _ hn) rfl (okP hA) ⟨?_,trivial⟩;rintro ws ⟨⟨op,⟨op1,kd1,nm1,fd1,ad1,nn1,vk1,vi1,vf1,args1⟩,⟨op2,kd2,nm2,fd2,ad2,nn2,vk2,vi2,vf2,w3_⟩,thn,els,nm,kd,ad,args⟩,n,rfl,hx,hn⟩;refine vw_ (u6_ ss (.mk op (.mk op1 kd1 nm1 fd1 ad1 nn1 vk1 vi1 vf1 args1) (.mk op2 kd2 nm2 fd2 ad2 nn2 vk2 vi2 vf2 w3_) thn els nm kd ad args) (by omega)) (okB _) ?_;obtain ⟨i,rfl⟩:∃e,i=e+1:=⟨i-1,by simp at h;omega⟩;refine vw_ (y_ (z:=(i:Int)) (by omega) (by omega) (by omega)) rfl ?_;refine uu_ rfl ⟨(i,ss++[_],n),⟨?_,?_,hn⟩,rfl,by simp⟩;simp;omega;intro s hs;rcases List.mem_append.1 hs with hs|hs;exact h2 s hs;cases List.mem_singleton.1 hs;exact hx;exact VOK_fin (by show okL [A_ ss,.int .i64 (n:Int)]=true;simp only [okL,okC,okB]) ⟨ss,n,rfl,⟨by omega,h2⟩,hn⟩
theorem pS {l:List UInt8} {a:AV} (hp:Pk l a):∀d:Nat,d<=100->PS l a d/\PB l a d
 |0,h=>by have h1:=AT_ hp 0 h (λe h=>by omega);exact ⟨h1,p70 hp 0 h h1⟩
 |d+1,h=>by have ih:=pS hp d (by omega);have h1:=AT_ hp (d+1) h (λe h=>by cases h;exact ih.2);exact ⟨h1,p70 hp (d+1) h h1⟩
end Go.Proofs.YtjconanknjgpnaaGreat.vars
set_option maxRecDepth 100000
set_option linter.unusedVariables false
set_option linter.unusedSimpArgs false
namespace Go.Proofs.YtjconanknjgpnaaGreat.vars
open Go Go.Sx
def VARS:AV:=.vsl 12 10 [.str [97],.int .i64 1,.int .i64 2,.int .i64 0,.int .i64 2,.int .i64 0,.flt .f64 0,.int .i64 0,.int .i64 0,.flt .f64 0,.str [98],.int .i64 1,.int .i64 1,.int .i64 0,.int .i64 1,.int .i64 0,.flt .f64 0,.int .i64 0,.int .i64 0,.flt .f64 0,.str [111],.int .i64 2,.int .i64 2,.int .i64 0,.int .i64 2,.int .i64 0,.flt .f64 0,.int .i64 2,.int .i64 7,.flt .f64 0,.str [113],.int .i64 2,.int .i64 1,.int .i64 0,.int .i64 1,.int .i64 0,.flt .f64 0,.int .i64 1,.int .i64 1,.flt .f64 0,.str [120],.int .i64 3,.int .i64 2,.int .i64 0,.int .i64 2,.int .i64 5,.flt .f64 0,.int .i64 0,.int .i64 0,.flt .f64 0,.str [121],.int .i64 3,.int .i64 3,.int .i64 0,.int .i64 3,.int .i64 0,.flt .f64 0,.int .i64 0,.int .i64 0,.flt .f64 0,.str [122],.int .i64 3,.int .i64 5,.int .i64 0,.int .i64 5,.int .i64 0,.flt .f64 0,.int .i64 0,.int .i64 0,.flt .f64 0,.str [119],.int .i64 3,.int .i64 4,.int .i64 0,.int .i64 4,.int .i64 0,.flt .f64 0,.int .i64 0,.int .i64 0,.flt .f64 0,.str [107],.int .i64 3,.int .i64 2,.int .i64 4,.int .i64 2,.int .i64 0,.flt .f64 0,.int .i64 0,.int .i64 0,.flt .f64 0,.str [116,109],.int .i64 3,.int .i64 6,.int .i64 0,.int .i64 0,.int .i64 0,.flt .f64 0,.int .i64 0,.int .i64 0,.flt .f64 0,.str [99],.int .i64 3,.int .i64 9,.int .i64 0,.int .i64 0,.int .i64 0,.flt .f64 0,.int .i64 0,.int .i64 0,.flt .f64 0,.str [101],.int .i64 3,.int .i64 11,.int .i64 0,.int .i64 0,.int .i64 0,.flt .f64 0,.int .i64 0,.int .i64 0,.flt .f64 0]
theorem yx_:jz_ Tryz.prog 153 [VARS,.str [97]] (.tup [.agg [.str [97],.int .i64 1,.int .i64 2,.int .i64 0,.int .i64 2,.int .i64 0,.flt .f64 0,.int .i64 0,.int .i64 0,.flt .f64 0],.int .i64 0,.bool true]):=vj_ mo ov (n:=3000) (by kernel_rfl)
theorem yy_:jz_ Tryz.prog 153 [VARS,.str [98]] (.tup [.agg [.str [98],.int .i64 1,.int .i64 1,.int .i64 0,.int .i64 1,.int .i64 0,.flt .f64 0,.int .i64 0,.int .i64 0,.flt .f64 0],.int .i64 1,.bool true]):=vj_ mo ov (n:=3000) (by kernel_rfl)
theorem xE_:jz_ Tryz.prog 153 [VARS,.str [111]] (.tup [.agg [.str [111],.int .i64 2,.int .i64 2,.int .i64 0,.int .i64 2,.int .i64 0,.flt .f64 0,.int .i64 2,.int .i64 7,.flt .f64 0],.int .i64 2,.bool true]):=vj_ mo ov (n:=3000) (by kernel_rfl)
theorem xF_:jz_ Tryz.prog 153 [VARS,.str [113]] (.tup [.agg [.str [113],.int .i64 2,.int .i64 1,.int .i64 0,.int .i64 1,.int .i64 0,.flt .f64 0,.int .i64 1,.int .i64 1,.flt .f64 0],.int .i64 3,.bool true]):=vj_ mo ov (n:=3000) (by kernel_rfl)
theorem xH_:jz_ Tryz.prog 153 [VARS,.str [120]] (.tup [.agg [.str [120],.int .i64 3,.int .i64 2,.int .i64 0,.int .i64 2,.int .i64 5,.flt .f64 0,.int .i64 0,.int .i64 0,.flt .f64 0],.int .i64 4,.bool true]):=vj_ mo ov (n:=3000) (by kernel_rfl)
theorem xI_:jz_ Tryz.prog 153 [VARS,.str [121]] (.tup [.agg [.str [121],.int .i64 3,.int .i64 3,.int .i64 0,.int .i64 3,.int .i64 0,.flt .f64 0,.int .i64 0,.int .i64 0,.flt .f64 0],.int .i64 5,.bool true]):=vj_ mo ov (n:=3000) (by kernel_rfl)
theorem xJ_:jz_ Tryz.prog 153 [VARS,.str [122]] (.tup [.agg [.str [122],.int .i64 3,.int .i64 5,.int .i64 0,.int .i64 5,.int .i64 0,.flt .f64 0,.int .i64 0,.int .i64 0,.flt .f64 0],.int .i64 6,.bool true]):=vj_ mo ov (n:=3000) (by kernel_rfl)
theorem xG_:jz_ Tryz.prog 153 [VARS,.str [119]] (.tup [.agg [.str [119],.int .i64 3,.int .i64 4,.int .i64 0,.int .i64 4,.int .i64 0,.flt .f64 0,.int .i64 0,.int .i64 0,.flt .f64 0],.int .i64 7,.bool true]):=vj_ mo ov (n:=3000) (by kernel_rfl)
theorem wY_:jz_ Tryz.prog 153 [VARS,.str [107]] (.tup [.agg [.str [107],.int .i64 3,.int .i64 2,.int .i64 4,.int .i64 2,.int .i64 0,.flt .f64 0,.int .i64 0,.int .i64 0,.flt .f64 0],.int .i64 8,.bool true]):=vj_ mo ov (n:=3000) (by kernel_rfl)
theorem S_:jz_ Tryz.prog 153 [VARS,.str [116,109]] (.tup [.agg [.str [116,109],.int .i64 3,.int .i64 6,.int .i64 0,.int .i64 0,.int .i64 0,.flt .f64 0,.int .i64 0,.int .i64 0,.flt .f64 0],.int .i64 12,.bool true]):=vj_ mo ov (n:=3000) (by kernel_rfl)
theorem xr_:jz_ Tryz.prog 153 [VARS,.str [99]] (.tup [.agg [.str [99],.int .i64 3,.int .i64 9,.int .i64 0,.int .i64 0,.int .i64 0,.flt .f64 0,.int .i64 0,.int .i64 0,.flt .f64 0],.int .i64 16,.bool true]):=vj_ mo ov (n:=3000) (by kernel_rfl)
theorem y9_:jz_ Tryz.prog 153 [VARS,.str [101]] (.tup [.agg [.str [101],.int .i64 3,.int .i64 11,.int .i64 0,.int .i64 0,.int .i64 0,.flt .f64 0,.int .i64 0,.int .i64 0,.flt .f64 0],.int .i64 19,.bool true]):=vj_ mo ov (n:=3000) (by kernel_rfl)
theorem vo_:jz_ Tryz.prog 178 [VARS,.str [116,109,46,113]] (.tup [.agg [.str [116,109,46,113],.int .i64 12,.int .i64 1,.int .i64 3],.bool true]):=vj_ mo ov (n:=3000) (by kernel_rfl)
theorem v0_:jz_ Tryz.prog 178 [VARS,.str [99,46,99,118]] (.tup [.agg [.str [99,46,99,118],.int .i64 17,.int .i64 2,.int .i64 3],.bool true]):=vj_ mo ov (n:=3000) (by kernel_rfl)
theorem sI_:jz_ Tryz.prog 178 [VARS,.str [116,109,46,101,116]] (.tup [.agg [.str [116,109,46,101,116],.int .i64 13,.int .i64 4,.int .i64 3],.bool true]):=vj_ mo ov (n:=3000) (by kernel_rfl)
theorem k35:jz_ Tryz.prog 45 [VARS] (.int .i64 0):=vj_ mo ov (n:=3000) (by kernel_rfl)
theorem k37:jz_ Tryz.prog 20 [] VARS:=vj_ mo ov (n:=3000) (by kernel_rfl)
theorem k67 (v:Nat) (h:v<50):jz_ Tryz.prog 55 [.int .i64 2,.int .i64 (v:Int)] (.int .i64 (v:Int)):=by
 have:∀v∈List.range 50,jz_ Tryz.prog 55 [.int .i64 2,.int .i64 (v:Int)] (.int .i64 (v:Int)):=by
  simp only [List.range,List.range.loop,List.forall_mem_cons];repeat' apply And.intro
  all_goals first|exact (λx hx=>(List.not_mem_nil hx).elim)|exact vj_ mo ov (n:=3000) (by kernel_rfl)
 exact this v (List.mem_range.2 h)
theorem zB_:jz_ Tryz.prog 53 [.int .i64 1] (.int .i64 1):=vj_ mo ov (n:=3000) (by kernel_rfl)
theorem yv_:jz_ Tryz.prog 53 [.int .i64 2] (.int .i64 1):=vj_ mo ov (n:=3000) (by kernel_rfl)
theorem AG_:jz_ Tryz.prog 53 [.int .i64 3] (.int .i64 1):=vj_ mo ov (n:=3000) (by kernel_rfl)
theorem AH_:jz_ Tryz.prog 53 [.int .i64 4] (.int .i64 1):=vj_ mo ov (n:=3000) (by kernel_rfl)
theorem AI_:jz_ Tryz.prog 53 [.int .i64 5] (.int .i64 1):=vj_ mo ov (n:=3000) (by kernel_rfl)
theorem yw_:jz_ Tryz.prog 53 [.int .i64 6] (.int .i64 4):=vj_ mo ov (n:=3000) (by kernel_rfl)
theorem zC_:jz_ Tryz.prog 53 [.int .i64 9] (.int .i64 3):=vj_ mo ov (n:=3000) (by kernel_rfl)
theorem z1_:jz_ Tryz.prog 53 [.int .i64 11] (.int .i64 2):=vj_ mo ov (n:=3000) (by kernel_rfl)
def Cb_:VC:=⟨⟨[],[]⟩,[],[],0,true,[]⟩
def Bi_:VT:=.ite 64 (.done (J 0))<|.done (J 4)
def Cc_:VC:=⟨⟨[],[]⟩,[],[],0,true,[]⟩
def Bj_:VT:=Iq 64 2 65 (.done (.bool true))<|Iq 64 3 66 (.done (.bool true))<|Li Q0 [64,J 4] 67<|.done (67)
def As_:VC:=⟨⟨[],[]⟩,[(55,[none])],[],0,true,[]⟩
def zp_:VT:=Iq 74 2 75 (Iq 64 1 76 (Iq 65 3 77 (.call 55 [J 2,71] 78 [none]<|.done (.agg [64,J 2,66,67,68,69,J 2,78,.flt .f64 0,73]))<|.done (.agg [64,65,66,67,68,69,70,71,72,73]))<|.done (.agg [64,65,66,67,68,69,70,71,72,73]))<|.done (.agg [64,65,66,67,68,69,70,71,72,73])
def B9_:VC:=⟨⟨[],[]⟩,[(153,[(some 10),none,none]),(178,[(some 4),none]),(53,[none]),(157,[none])],[],0,true,[]⟩
def Bg_:VT:=.call 153 [64,67] 75 [(some 10),none,none]<|It Q3 [86] 87 (Dn [65,66,67,68,69,70,71,72,73,74,J 3])<|It (.bin .eql 9 false true) [68,.str []] 88 (.call 53 [77] 89 [none]<|Iq 89 1 90 (Li Q0 [78,J 0] 91<|.call 157 [91] 92 [none]<|Dn [65,77,67,68,85,70,71,72,73,74,92])<|.call 157 [.bool false] 91 [none]<|Dn [65,77,67,68,85,70,71,72,73,74,91])<|.call 53 [77] 89 [none]<|It Z6 [89,J 2] 90 (Dn [65,66,67,68,69,70,71,72,73,74,J 4])<|Li (.bin .add 9 false true) [67,.str [46]] 91<|Li (.bin .add 9 false false) [91,68] 92<|.call 178 [64,92] 93 [(some 4),none]<|It Q3 [97] 98 (Dn [65,66,67,68,69,70,71,72,73,74,J 3])<|Dn [65,95,67,68,94,70,71,72,73,74,J 0]
def Ca_:VC:=⟨⟨[],[]⟩,[(153,[(some 10),none,none]),(157,[none])],[],0,true,[]⟩
def Bh_:VT:=.call 153 [64,67] 76 [(some 10),none,none]<|It Q3 [87] 88 (Dn [65,66,67,68,69,70,71,72,73,74,J 3])<|It Qc [79,J 0] 89 (Li Qa [75,J 0] 90<|Li Ze [90] 91<|Li Qu [91] 92<|Iq 92 2 93 (.call 157 [.bool true] 94 [none]<|Dn [65,78,67,68,86,79,71,72,73,75,94])<|Li Qa [75,J 0] 94<|Li Ze [94] 95<|Li Qu [95] 96<|Li Q0 [96,J 3] 97<|.call 157 [97] 98 [none]<|Dn [65,78,67,68,86,79,71,72,73,75,98])<|.call 157 [.bool false] 90 [none]<|Dn [65,78,67,68,86,79,71,72,73,75,90]
theorem wk_ (b:Bool):jz_ Tryz.prog 157 [.bool b] (.int .i64 (if b=true then 0 else 4)):=by refine t7_ (sh:=[none]) (ls:=[.bool b]) (c:=Cb_) (n:=300) (t:=Bi_) mo ov rfl rfl rfl (λY _=>vD_ _) rfl (by kernel_rfl) λY hf hg=>?_;unfold Bi_;refine vd_ rfl (λh=>uI_ ?_) (λh=>uI_ ?_);rw [h];rfl;rw [h];rfl
section
variable {P:Program} {Q:AV->Prop} {L:List (Nat->List AV->Prop)} {Y:Sy} {t:TypeId} {cx cy:Bool} {args:List AV} {n:Nat} {A B:VT} {k:IntKind} {a b:Int}
def Cmp:BinOp->Int->Int->Prop
 | .eql,a,b=>a=b
 | .neq,a,b=>¬a=b
 | .lss,a,b=>a<b
 | .gtr,a,b=>b<a
 | .leq,a,b=>a<=b
 | .geq,a,b=>b<=a
 |_,_,_=>False
open Classical in
theorem a_ {op:BinOp} (h0:ab_ Y.v args=[.int k a,.int k b]) (ho:(match op with| .eql=>true| .neq=>true| .lss=>true| .gtr=>true| .leq=>true| .geq=>true|_=>false)=true)
  (h1:Cmp op a b->VOK P Q L (Y.put n (.bool (decide (Cmp op a b)))) A) (h2:¬Cmp op a b->VOK P Q L (Y.put n (.bool (decide (Cmp op a b)))) B):VOK P Q L Y (.lt (.bin op t cx cy) args n none (.ite n A B)):=by
 have hr:(XOp.bin op t cx cy).run P [.int k a,.int k b]=some (.bool (decide (Cmp op a b))):=by
  cases op<;>simp only at ho<;>first|(cases ho;done)|skip
  .rw [run_eql];refine congrArg (λx=>some (AV.bool x)) ?_;by_cases h:a=b<;>simp [Cmp,h]
  .rw [run_neq];refine congrArg (λx=>some (AV.bool x)) ?_;by_cases h:a=b<;>simp [Cmp,h]
  .rw [run_lss];refine congrArg (λx=>some (AV.bool x)) ?_;by_cases h:a<b<;>simp [Cmp,h]
  .rw [run_leq];refine congrArg (λx=>some (AV.bool x)) ?_;by_cases h:a<=b<;>simp [Cmp,h]
  .rw [run_gtr];refine congrArg (λx=>some (AV.bool x)) ?_;by_cases h:b<a<;>simp [Cmp,h]
  .rw [run_geq];refine congrArg (λx=>some (AV.bool x)) ?_;by_cases h:b<=a<;>simp [Cmp,h]
 exact vw_ (by rw [h0];exact hr) rfl (vd_ (t:=decide (Cmp op a b)) (by rw [vR_,if_pos rfl]) (λh=>h1 (of_decide_eq_true h)) (λh=>h2 (of_decide_eq_false h)))
end
theorem nc:(∀a b,Cmp .eql a b=(a=b))/\(∀a b,Cmp .neq a b=¬a=b)/\(∀a b,Cmp .lss a b=(a<b))/\(∀a b,Cmp .gtr a b=(b<a))/\(∀a b,Cmp .leq a b=(a<=b))/\(∀a b,Cmp .geq a b=(b<=a))/\(∀p:Prop,(¬¬p)=p)/\(∀a b:Int,(¬a<b)=(b<=a))/\(∀a b:Int,(¬a<=b)=(b<a))/\(¬True)=False:=
 ⟨λ_ _=>rfl,λ_ _=>rfl,λ_ _=>rfl,λ_ _=>rfl,λ_ _=>rfl,λ_ _=>rfl,λp=>propext ⟨Classical.not_not.1,λh k=>k h⟩,λ_ _=>propext Int.not_lt,λ_ _=>propext Int.not_le,propext ⟨λh=>h trivial,False.elim⟩⟩
def vY_:List (Int×Int):=[(1,1),(3,1),(12,1),(0,2),(4,2),(2,2),(17,2),(5,3),(13,4),(7,4),(6,5)]
def zt_:List (List UInt8×List UInt8×Int×Int):=[([98],[],1,1),([113],[],3,1),([116,109],[113],12,1),([97],[],0,2),([120],[],4,2),([111],[],2,2),([99],[99,118],17,2),([121],[],5,3),([116,109],[101,116],13,4),([119],[],7,4),([122],[],6,5)]
def yM_:List (List UInt8×Int):=[([98],1),([113],2),([116,109],3),([97],1),([120],3),([111],2),([99],3),([121],3),([119],3),([122],3),([107],3)]
def wrL:List (Int×Int):=[(3,1),(4,2),(2,2),(5,3),(7,4),(6,5)]
theorem tie_cells:∀t∈zt_,(t.2.2.1,t.2.2.2)∈vY_:=by decide
theorem tie_wr:∀t∈zt_,∀q∈yM_,t.2.1=[]->t.1=q.1->q.2≠1->(t.2.2.1,t.2.2.2)∈wrL:=by decide
def GX.ad:GX->Int| .mk _ _ _ _ ad .. =>ad
def NT (x y:GX):Prop:=match x,y with
 | .mk op _ nm fd ..,.mk _ kd _ _ ad .. =>op=2->(nm,fd,ad,kd)∈zt_
def KX (op kd ad n vk vi:Int) (vf:Nat) (ks:List Int):Prop:=
 (op=1->kd=vk/\1<=vk/\vk<=5/\0<=vi/\vi<50/\(vk=1->vi<=1)/\(vk=5->vi=0)/\(vk≠5->vf=0))/\
 (op=2->(ad,kd)∈vY_)/\
 (op=3->ad=8/\n=4/\kd=2/\∃k,ks=[k]/\(k=2\/k=3))/\
 (4<=op/\op<=14->∃k,ks=[k,k]/\1<=k/\k<=5/\(op<=8->kd=k/\k≠1)/\(9<=op->kd=1)/\(op=8->k≠5)/\(op=11\/op=12->k≠1)/\(13<=op->k=1))/\
 (op=15->kd=1/\ks=[1])/\
 (op=16->ks=[kd]/\2<=kd/\kd<=5)/\
 (op=17->2<=kd/\kd<=5/\∃k,ks=[k]/\2<=k/\k<=5)
def TX:Nat->GX->Prop
 |0,_=>False
 |d+1,.mk op kd nm fd ad n vk vi vf args=>Ari op args.length/\yj_ vf/\1<=kd/\kd<=5/\KX op kd ad n vk vi vf (args.map GX.kd)/\∀a∈args,TX d a
theorem zz_:∀{d:Nat} {x:GX},TX d x->1<=x.kd/\x.kd<=5
 |0,_,h=>h.elim
 |d+1,.mk ..,h=>⟨h.2.2.1,h.2.2.2.1⟩
theorem vl_ {l:List AV} (h:okL l=true):aS_ (.agg l)=true:=by simp only [aS_];exact ca_ h
theorem yb_ {d:Nat} (x:GX) (k:Int) (hx:TX d x):∃y,jz_ Tryz.prog 154 [.agg (k_ x),.int .i64 k] (.agg (k_ y))/\TX d y:=by
 obtain ⟨op,kd,nm,fd,ad,n,vk,vi,vf,args⟩:=x;obtain ⟨d,rfl⟩:∃e,d=e+1:=by cases d with|zero=>exact hx.elim|succ d=>exact ⟨d,rfl⟩
 by_cases hc:k=2/\op=1/\kd=3
 .obtain ⟨rfl,rfl,rfl⟩:=hc;obtain ⟨h1,h2,h3,h4,h5,h6⟩:=hx;obtain ⟨q1,q2,q3,q4,q5,q6,q7,q8⟩:=h5.1 rfl;obtain ⟨v,rfl⟩:∃v:Nat,vi=(v:Int):=⟨vi.toNat,by omega⟩;refine ⟨.mk 1 2 nm fd ad n 2 v 0 args,?_,h1,.inl rfl,by decide,by decide,⟨λ_=>⟨rfl,by decide,by decide,q4,q5,λh=>by omega,λh=>by omega,λ_=>rfl⟩,λh=>by omega,λh=>by omega,λh=>by omega,λh=>by omega,λh=>by omega,λh=>by omega⟩,h6⟩;refine t7_ (sh:=[some 10,none]) (ls:=k_ (.mk 1 3 nm fd ad n vk v vf args)++[.int .i64 2]) (c:=As_) (n:=300) (t:=zp_) mo ov rfl (us_ _ _) (vl_ (okX _)) (λY _=>vD_ _) rfl (by kernel_rfl) λY hf hg=>?_;unfold zp_
  (refine a_ rfl rfl ?_ ?_<;>intro h<;>simp only [nc]at h<;>try omega);(refine a_ rfl rfl ?_ ?_<;>intro h<;>simp only [nc]at h<;>try omega);(refine a_ rfl rfl ?_ ?_<;>intro h<;>simp only [nc]at h<;>try omega)
  refine uH_ (k67 v (by omega)) rfl rfl (uI_ rfl)
 .refine ⟨_,?_,hx⟩;refine t7_ (sh:=[some 10,none]) (ls:=k_ (.mk op kd nm fd ad n vk vi vf args)++[.int .i64 k]) (c:=As_) (n:=300) (t:=zp_) mo ov rfl (us_ _ _) (vl_ (okX _)) (λY _=>vD_ _) rfl (by kernel_rfl) λY hf hg=>?_;unfold zp_
  (refine a_ rfl rfl ?_ ?_<;>intro h<;>simp only [nc]at h<;>try omega)
  ·(refine a_ rfl rfl ?_ ?_<;>intro h<;>simp only [nc]at h<;>try omega)
   ·(refine a_ rfl rfl ?_ ?_<;>intro h<;>simp only [nc]at h<;>try omega)
    exact uI_ rfl
   exact uI_ rfl
  exact uI_ rfl
def GX.nm:GX->List UInt8| .mk _ _ nm .. =>nm
def GX.fd:GX->List UInt8| .mk _ _ _ fd .. =>fd
def RL (x:GX):Nat->List AV->Prop:=λ_ ws=>∃ad kd:Int,ws=(match x with| .mk op _ nm fd _ n vk vi vf args=>k_ (.mk op kd nm fd ad n vk vi vf args))++[.int .i64 0]/\(x.nm,x.fd,ad,kd)∈zt_
theorem CK_ (op kd:Int) (nm fd:List UInt8) (ad n vk vi:Int) (vf:Nat) (args:List GX) (h:(nm,fd)∈wi_):CF Tryz.prog 155 yt_ (VARS::k_ (.mk op kd nm fd ad n vk vi vf args)) (RL (.mk op kd nm fd ad n vk vi vf args)):=by
 refine vg_ (c:=B9_) (n:=300) (t:=Bg_) mo ov rfl (λY _=>vD_ _) (by kernel_rfl) λY hf hg=>?_;unfold Bg_;simp only [wi_,List.mem_cons,Prod.mk.injEq,List.not_mem_nil,or_false]at h;rcases h with ⟨rfl,rfl⟩|⟨rfl,rfl⟩|⟨rfl,rfl⟩|⟨rfl,rfl⟩|⟨rfl,rfl⟩|⟨rfl,rfl⟩|⟨rfl,rfl⟩|⟨rfl,rfl⟩|⟨rfl,rfl⟩|⟨rfl,rfl⟩|⟨rfl,rfl⟩
 ·(
   refine uH_ yy_ rfl rfl (vw_ rfl rfl (vd_ rfl (λh=>by cases h) (λ_=>vw_ rfl rfl (vd_ rfl (λ_=>?_) (λh=>by cases h)))));refine uH_ zB_ rfl rfl (vw_ rfl rfl (vd_ rfl (λ_=>vw_ rfl rfl (uH_ (wk_ true) rfl rfl (VOK_fin ?_ ⟨1,1,rfl,by simp only [GX.nm,GX.fd];decide⟩))) (λh=>by cases h)));exact us_ (.mk _ _ _ _ _ _ _ _ _ args) _)
 ·(
   refine uH_ xF_ rfl rfl (vw_ rfl rfl (vd_ rfl (λh=>by cases h) (λ_=>vw_ rfl rfl (vd_ rfl (λ_=>?_) (λh=>by cases h)))));refine uH_ zB_ rfl rfl (vw_ rfl rfl (vd_ rfl (λ_=>vw_ rfl rfl (uH_ (wk_ true) rfl rfl (VOK_fin ?_ ⟨3,1,rfl,by simp only [GX.nm,GX.fd];decide⟩))) (λh=>by cases h)));exact us_ (.mk _ _ _ _ _ _ _ _ _ args) _)
 ·(
   refine uH_ S_ rfl rfl (vw_ rfl rfl (vd_ rfl (λh=>by cases h) (λ_=>vw_ rfl rfl (vd_ rfl (λh=>by cases h) (λ_=>?_)))));refine uH_ yw_ rfl rfl (vw_ rfl rfl (vd_ rfl (λh=>by cases h) (λ_=>vw_ rfl rfl (vw_ rfl rfl (uH_ vo_ rfl rfl (vw_ rfl rfl (vd_ rfl (λh=>by cases h) (λ_=>VOK_fin ?_ ⟨12,1,rfl,by simp only [GX.nm,GX.fd];decide⟩))))))));exact us_ (.mk _ _ _ _ _ _ _ _ _ args) _)
 ·(
   refine uH_ yx_ rfl rfl (vw_ rfl rfl (vd_ rfl (λh=>by cases h) (λ_=>vw_ rfl rfl (vd_ rfl (λ_=>?_) (λh=>by cases h)))));refine uH_ yv_ rfl rfl (vw_ rfl rfl (vd_ rfl (λ_=>vw_ rfl rfl (uH_ (wk_ true) rfl rfl (VOK_fin ?_ ⟨0,2,rfl,by simp only [GX.nm,GX.fd];decide⟩))) (λh=>by cases h)));exact us_ (.mk _ _ _ _ _ _ _ _ _ args) _)
 ·(
   refine uH_ xH_ rfl rfl (vw_ rfl rfl (vd_ rfl (λh=>by cases h) (λ_=>vw_ rfl rfl (vd_ rfl (λ_=>?_) (λh=>by cases h)))));refine uH_ yv_ rfl rfl (vw_ rfl rfl (vd_ rfl (λ_=>vw_ rfl rfl (uH_ (wk_ true) rfl rfl (VOK_fin ?_ ⟨4,2,rfl,by simp only [GX.nm,GX.fd];decide⟩))) (λh=>by cases h)));exact us_ (.mk _ _ _ _ _ _ _ _ _ args) _)
 ·(
   refine uH_ xE_ rfl rfl (vw_ rfl rfl (vd_ rfl (λh=>by cases h) (λ_=>vw_ rfl rfl (vd_ rfl (λ_=>?_) (λh=>by cases h)))));refine uH_ yv_ rfl rfl (vw_ rfl rfl (vd_ rfl (λ_=>vw_ rfl rfl (uH_ (wk_ true) rfl rfl (VOK_fin ?_ ⟨2,2,rfl,by simp only [GX.nm,GX.fd];decide⟩))) (λh=>by cases h)));exact us_ (.mk _ _ _ _ _ _ _ _ _ args) _)
 ·(
   refine uH_ xr_ rfl rfl (vw_ rfl rfl (vd_ rfl (λh=>by cases h) (λ_=>vw_ rfl rfl (vd_ rfl (λh=>by cases h) (λ_=>?_)))));refine uH_ zC_ rfl rfl (vw_ rfl rfl (vd_ rfl (λh=>by cases h) (λ_=>vw_ rfl rfl (vw_ rfl rfl (uH_ v0_ rfl rfl (vw_ rfl rfl (vd_ rfl (λh=>by cases h) (λ_=>VOK_fin ?_ ⟨17,2,rfl,by simp only [GX.nm,GX.fd];decide⟩))))))));exact us_ (.mk _ _ _ _ _ _ _ _ _ args) _)
 ·(
   refine uH_ xI_ rfl rfl (vw_ rfl rfl (vd_ rfl (λh=>by cases h) (λ_=>vw_ rfl rfl (vd_ rfl (λ_=>?_) (λh=>by cases h)))));refine uH_ AG_ rfl rfl (vw_ rfl rfl (vd_ rfl (λ_=>vw_ rfl rfl (uH_ (wk_ true) rfl rfl (VOK_fin ?_ ⟨5,3,rfl,by simp only [GX.nm,GX.fd];decide⟩))) (λh=>by cases h)));exact us_ (.mk _ _ _ _ _ _ _ _ _ args) _)
 ·(
   refine uH_ S_ rfl rfl (vw_ rfl rfl (vd_ rfl (λh=>by cases h) (λ_=>vw_ rfl rfl (vd_ rfl (λh=>by cases h) (λ_=>?_)))));refine uH_ yw_ rfl rfl (vw_ rfl rfl (vd_ rfl (λh=>by cases h) (λ_=>vw_ rfl rfl (vw_ rfl rfl (uH_ sI_ rfl rfl (vw_ rfl rfl (vd_ rfl (λh=>by cases h) (λ_=>VOK_fin ?_ ⟨13,4,rfl,by simp only [GX.nm,GX.fd];decide⟩))))))));exact us_ (.mk _ _ _ _ _ _ _ _ _ args) _)
 ·(
   refine uH_ xG_ rfl rfl (vw_ rfl rfl (vd_ rfl (λh=>by cases h) (λ_=>vw_ rfl rfl (vd_ rfl (λ_=>?_) (λh=>by cases h)))));refine uH_ AH_ rfl rfl (vw_ rfl rfl (vd_ rfl (λ_=>vw_ rfl rfl (uH_ (wk_ true) rfl rfl (VOK_fin ?_ ⟨7,4,rfl,by simp only [GX.nm,GX.fd];decide⟩))) (λh=>by cases h)));exact us_ (.mk _ _ _ _ _ _ _ _ _ args) _)
 ·(
   refine uH_ xJ_ rfl rfl (vw_ rfl rfl (vd_ rfl (λh=>by cases h) (λ_=>vw_ rfl rfl (vd_ rfl (λ_=>?_) (λh=>by cases h)))));refine uH_ AI_ rfl rfl (vw_ rfl rfl (vd_ rfl (λ_=>vw_ rfl rfl (uH_ (wk_ true) rfl rfl (VOK_fin ?_ ⟨6,5,rfl,by simp only [GX.nm,GX.fd];decide⟩))) (λh=>by cases h)));exact us_ (.mk _ _ _ _ _ _ _ _ _ args) _)
end Go.Proofs.YtjconanknjgpnaaGreat.vars
set_option linter.unusedVariables false
set_option linter.unusedSimpArgs false
namespace Go.Sx
section
variable {P:Program} {t:TypeId} {ti:TypeInfo} {α:Type} {enc:α->List AV} {w:Nat}
theorem v3_:∀(a xs b c:List AV),b.length=xs.length->cP_ a.length xs (a++(b++c))=some (a++(xs++c))
 |[],[],[],c,_=>by cases c<;>rfl
 |[],x::xs,y::b,c,h=>by have ih:=v3_ [] xs b c (by simpa using h);simp only [List.nil_append,List.length_nil,List.cons_append]at ih⊢;simp only [cP_,ih]
 |[],x::xs,[],c,h=>by simp at h
 |[],[],y::b,c,h=>by simp at h
 |x::a,xs,b,c,h=>by simp only [List.cons_append,List.length_cons,cP_,v3_ a xs b c h]
theorem xm_ (hw:∀a,(enc a).length=w) (l:List α) {i:Nat} (hi:i<l.length):∃a b,cf_ enc l=a++(enc l[i]++b)/\a.length=i*w/\∀x,cf_ enc (l.set i x)=a++(enc x++b):=by
 refine ⟨cf_ enc (l.take i),cf_ enc (l.drop (i+1)),?_,?_,λx=>?_⟩;have h1:l=l.take i++l[i]::l.drop (i+1):=(by rw [List.getElem_cons_drop,List.take_append_drop]);have h2:=congrArg (cf_ enc) h1;rw [ht_]at h2;exact h2
 .rw [ez_ hw,List.length_take];congr 1;omega
 rw [List.set_eq_take_append_cons_drop,if_pos hi,ht_];rfl
theorem run_stx (hw:∀a,(enc a).length=w) {l:List α} {i:Nat} (hi:i<l.length) {off:Nat} {v:AV} {xs p q r:List AV} {y:α} (hc:v.cells=xs) (ho:v=.agg xs\/(∃k n,v=.int k n)) (hinf:P.info? t=some ti) (hs:ti.size=xs.length) (h1:a8_ xs=true)
  (he:enc l[i]=p++(q++r)) (hp:p.length=off) (hq:q.length=xs.length) (hy:enc y=p++(xs++r)) (k:IntKind):(XOp.stx t w off).run P [c2_ enc w l,.int k (i:Int),v]=some (c2_ enc w (l.set i y)):=by
 obtain ⟨a,b,e1,e2,e3⟩:=xm_ hw l hi;obtain ⟨x0,l',rfl⟩:∃x l',l=x::l':=by cases l with|nil=>simp at hi|cons x l'=>exact ⟨x,l',rfl⟩
 have cD_:∃z l'',(x0::l').set i y=z::l''/\l''.length=l'.length:=by
  cases i with
  |zero=>exact ⟨y,l',rfl,rfl⟩
  |succ i=>exact ⟨x0,l'.set i y,rfl,by simp⟩
 obtain ⟨z,l'',e4,e5⟩:=cD_;have hst:ch_ P (qi_ (cf_ enc (x0::l'))) t (.ptr 0 (i*w+off)) v=some (.tup [],(qi_ (cf_ enc (x0::l'))).set 0 (.cells (cf_ enc ((x0::l').set i y)))):=by have hg:(qi_ (cf_ enc (x0::l'))).get 0=some (.cells (cf_ enc (x0::l'))):=rfl;have hsa:cP_ (i*w+off) xs (cf_ enc (x0::l'))=some (cf_ enc ((x0::l').set i y)):=(by have:=v3_ (a++p) xs q (r++b) hq;rw [List.length_append,e2,hp]at this;rw [e1,he,e3,hy];simpa [List.append_assoc]using this);have hb:Nat.beq xs.length ti.size=true:=(by rw [hs];exact Nat.beq_refl _);rcases ho with rfl|⟨k',n,rfl⟩;simp only [ch_,hinf];have hc':(AV.agg xs).cells=xs:=hc;simp only [hc',hb,h1,hg,hsa];simp only [ch_,hinf];simp only [hc,hb,h1,hg,hsa]
 show (match ch_ P (qi_ (cf_ enc (x0::l'))) t (.ptr 0 (Nat.add (Nat.mul i w) off)) v with
  |some r=>match r.2.get 0 with
   |some (.cells cs')=>some (AV.vsl (l'.length+1) w cs')
   |_=>none
  |none=>none)=_
 have e6:Nat.add (Nat.mul i w) off=i*w+off:=rfl;rw [e6,hst];have hg2:∀c:List AV,((qi_ (cf_ enc (x0::l'))).set 0 (.cells c)).get 0=some (.cells c):=λc=>rfl;simp only [hg2];rw [e4];show _=some (AV.vsl (l''.length+1) w (cf_ enc (z::l'')));rw [e5]
theorem zn_ {l:List α} {i:Nat} (hi:i<l.length) (k:IntKind):(XOp.inb).run P [c2_ enc w l,.int k (i:Int)]=some (.int .i64 (i:Int)):=by
 cases l with
 |nil=>simp at hi
 |cons x r=>
  show (match Sx.idx (i:Int) (r.length+1)with|some n=>some (AV.int .i64 (.ofNat n))|none=>none)=_;have hb:Nat.blt i (r.length+1)=true:=(by simpa [Nat.blt_eq]using hi);have:Sx.idx (i:Int) (r.length+1)=some i:=by show (match Nat.blt i (r.length+1)with|true=>some i|false=>none)=some i;rw [hb]
  rw [this];rfl
end
theorem vX_:∀{l:List AV},okL l=true->a8_ l=true
 |[],_=>rfl
 |a::r,h=>by rw [aX_]at h;obtain ⟨h1,h2⟩:=aa_ h;have:a.one=true:=(by cases a<;>first|rfl|(simp [okC]at h1));simp only [a8_,this,vX_ h2]
end Go.Sx
set_option maxRecDepth 100000
set_option linter.unusedVariables false
set_option linter.unusedSimpArgs false
namespace Go.Proofs.YtjconanknjgpnaaGreat.vars
open Go Go.Sx
def B4_:VC:=⟨⟨[],[]⟩,[(153,[(some 10),none,none]),(154,[(some 10)]),(157,[none]),(158,[none])],[(1,[⟨[(4,.ptr 1 0),(3,.ptr 0 0),(9,.slx 2 10 0),(10,.slx 1 0 0),(0,64)],[(1,[J 0,J 0,.str [],.str [],J 0,J 0,J 0,J 0,.flt .f64 0,.nsl]),(0,[65,66,67,68,69,70,71,72,73,74])],3,2,[⟨2,10,0,9,none⟩],[],[]⟩])],0,true,[(121,ft121),(155,yt_),(156,ft156)]⟩
def Bb_:VT:=Iq 65 1 75 (Dn [65,71,67,68,69,70,71,72,73,74,J 0])<|Iq 65 2 76 (Cf 155 yt_ [64,65,66,67,68,69,70,71,72,73,74] 77 11<|Dn [88,89,90,91,92,93,94,95,96,97,98])<|Iq 65 3 77 (.call 153 [64,67] 78 [(some 10),none,none]<|It Q3 [89] 90 (Dn [65,66,67,68,69,70,71,72,73,74,J 3])<|Iq 81 0 91 (Dn [65,66,67,68,69,70,71,72,73,74,J 4])<|.loop 92 0 [.nsl,J 0] (.cons 2 (Li Qe [74] 94<|It Q4 [93,94] 95 (Li Qa [74,93] 96<|.lt Qd [96] 97 (some 10)<|Cf 121 ft121 [64,97,98,99,100,101,102,103,104,105,106] 107 11<|It Q5 [128,J 0] 129 (Dn [65,66,67,68,69,70,71,72,73,74,128])<|Li Qj [92,.agg [118,119,120,121,122,123,124,125,126,127]] 130<|Li Q2 [93,J 1] 131<|.again 0 0 [130,131])<|Iq 65 3 96 (Cf 156 ft156 [64,65,66,67,68,69,70,71,72,73,74,92] 97 11<|Dn [109,110,111,112,113,114,115,116,117,118,119])<|Li Q1 [92,J 0] 97<|Li Qi [92,97] 98<|Iq 65 17 99 (Iq 98 1 100 (Dn [65,66,67,68,69,70,71,72,73,74,J 4])<|Iq 66 1 101 (Dn [65,66,67,68,69,70,71,72,73,74,J 4])<|Dn [65,66,67,68,69,70,71,72,73,92,J 0])<|Iq 65 15 100 (Li Q0 [98,J 1] 101<|.call 157 [101] 102 [none]<|Dn [65,J 1,67,68,69,70,71,72,73,92,102])<|Iq 65 16 101 (Li Q6 [98,J 1] 102<|.call 157 [102] 103 [none]<|Dn [65,98,67,68,69,70,71,72,73,92,103])<|It Z1 [65,J 4] 102 (It Qw [65,J 12] 103 (Li Q1 [92,J 0] 104<|.lt Zo [92,104] 105 (some 10)<|Li Q1 [92,J 1] 115<|Li Qi [92,115] 116<|.call 154 [.agg [105,106,107,108,109,110,111,112,113,114],116] 117 [(some 10)]<|Li Q1 [92,J 1] 127<|.lt Zo [92,127] 128 (some 10)<|Li Q1 [92,J 0] 138<|Li Qi [92,138] 139<|.call 154 [.agg [128,129,130,131,132,133,134,135,136,137],139] 140 [(some 10)]<|Li Q1 [92,J 0] 150<|Li Zp [92,150,.agg [117,118,119,120,121,122,123,124,125,126]] 151<|Li Q1 [92,J 1] 152<|Li Zp [151,152,.agg [140,141,142,143,144,145,146,147,148,149]] 153<|Li Q1 [92,J 0] 154<|Li Qi [153,154] 155<|Li Q1 [92,J 1] 156<|Li Qi [153,156] 157<|Li Qk [155,157] 158<|Iq 65 4 159 (.ite 158 (Li Q6 [155,J 1] 160<|.call 157 [160] 161 [none]<|.chk (.same 92 153)<|Dn [65,155,67,68,69,70,71,72,73,153,161])<|.call 157 [.bool false] 160 [none]<|.chk (.same 92 153)<|Dn [65,155,67,68,69,70,71,72,73,153,160])<|Iq 65 5 160 (.ite 158 (Li Q6 [155,J 1] 161<|.call 157 [161] 162 [none]<|.chk (.same 92 153)<|Dn [65,155,67,68,69,70,71,72,73,153,162])<|.call 157 [.bool false] 161 [none]<|.chk (.same 92 153)<|Dn [65,155,67,68,69,70,71,72,73,153,161])<|Iq 65 6 161 (.ite 158 (Li Q6 [155,J 1] 162<|.call 157 [162] 163 [none]<|.chk (.same 92 153)<|Dn [65,155,67,68,69,70,71,72,73,153,163])<|.call 157 [.bool false] 162 [none]<|.chk (.same 92 153)<|Dn [65,155,67,68,69,70,71,72,73,153,162])<|Iq 65 7 162 (.ite 158 (Li Q6 [155,J 1] 163<|.call 157 [163] 164 [none]<|.chk (.same 92 153)<|Dn [65,155,67,68,69,70,71,72,73,153,164])<|.call 157 [.bool false] 163 [none]<|.chk (.same 92 153)<|Dn [65,155,67,68,69,70,71,72,73,153,163])<|Iq 65 8 163 (.ite 158 (.call 158 [155] 164 [none]<|.call 157 [164] 165 [none]<|.chk (.same 92 153)<|Dn [65,155,67,68,69,70,71,72,73,153,165])<|.call 157 [.bool false] 164 [none]<|.chk (.same 92 153)<|Dn [65,155,67,68,69,70,71,72,73,153,164])<|Iq 65 9 164 (.call 157 [158] 165 [none]<|.chk (.same 92 153)<|Dn [65,J 1,67,68,69,70,71,72,73,153,165])<|Iq 65 10 165 (.call 157 [158] 166 [none]<|.chk (.same 92 153)<|Dn [65,J 1,67,68,69,70,71,72,73,153,166])<|Iq 65 11 166 (.ite 158 (Li Q6 [155,J 1] 167<|.call 157 [167] 168 [none]<|.chk (.same 92 153)<|Dn [65,J 1,67,68,69,70,71,72,73,153,168])<|.call 157 [.bool false] 167 [none]<|.chk (.same 92 153)<|Dn [65,J 1,67,68,69,70,71,72,73,153,167])<|Iq 65 12 167 (.ite 158 (Li Q6 [155,J 1] 168<|.call 157 [168] 169 [none]<|.chk (.same 92 153)<|Dn [65,J 1,67,68,69,70,71,72,73,153,169])<|.call 157 [.bool false] 168 [none]<|.chk (.same 92 153)<|Dn [65,J 1,67,68,69,70,71,72,73,153,168])<|.ite 158 (Li Q0 [155,J 1] 168<|.call 157 [168] 169 [none]<|.chk (.same 92 153)<|Dn [65,J 1,67,68,69,70,71,72,73,153,169])<|.call 157 [.bool false] 168 [none]<|.chk (.same 92 153)<|Dn [65,J 1,67,68,69,70,71,72,73,153,168])<|Li Q1 [92,J 1] 104<|Li Qi [92,104] 105<|Li Qk [98,105] 106<|Iq 65 4 107 (.ite 106 (Li Q6 [98,J 1] 108<|.call 157 [108] 109 [none]<|Dn [65,98,67,68,69,70,71,72,73,92,109])<|.call 157 [.bool false] 108 [none]<|Dn [65,98,67,68,69,70,71,72,73,92,108])<|Iq 65 5 108 (.ite 106 (Li Q6 [98,J 1] 109<|.call 157 [109] 110 [none]<|Dn [65,98,67,68,69,70,71,72,73,92,110])<|.call 157 [.bool false] 109 [none]<|Dn [65,98,67,68,69,70,71,72,73,92,109])<|Iq 65 6 109 (.ite 106 (Li Q6 [98,J 1] 110<|.call 157 [110] 111 [none]<|Dn [65,98,67,68,69,70,71,72,73,92,111])<|.call 157 [.bool false] 110 [none]<|Dn [65,98,67,68,69,70,71,72,73,92,110])<|Iq 65 7 110 (.ite 106 (Li Q6 [98,J 1] 111<|.call 157 [111] 112 [none]<|Dn [65,98,67,68,69,70,71,72,73,92,112])<|.call 157 [.bool false] 111 [none]<|Dn [65,98,67,68,69,70,71,72,73,92,111])<|Iq 65 8 111 (.ite 106 (.call 158 [98] 112 [none]<|.call 157 [112] 113 [none]<|Dn [65,98,67,68,69,70,71,72,73,92,113])<|.call 157 [.bool false] 112 [none]<|Dn [65,98,67,68,69,70,71,72,73,92,112])<|Iq 65 9 112 (.call 157 [106] 113 [none]<|Dn [65,J 1,67,68,69,70,71,72,73,92,113])<|Iq 65 10 113 (.call 157 [106] 114 [none]<|Dn [65,J 1,67,68,69,70,71,72,73,92,114])<|Iq 65 11 114 (.ite 106 (Li Q6 [98,J 1] 115<|.call 157 [115] 116 [none]<|Dn [65,J 1,67,68,69,70,71,72,73,92,116])<|.call 157 [.bool false] 115 [none]<|Dn [65,J 1,67,68,69,70,71,72,73,92,115])<|Iq 65 12 115 (.ite 106 (Li Q6 [98,J 1] 116<|.call 157 [116] 117 [none]<|Dn [65,J 1,67,68,69,70,71,72,73,92,117])<|.call 157 [.bool false] 116 [none]<|Dn [65,J 1,67,68,69,70,71,72,73,92,116])<|.ite 106 (Li Q0 [98,J 1] 116<|.call 157 [116] 117 [none]<|Dn [65,J 1,67,68,69,70,71,72,73,92,117])<|.call 157 [.bool false] 116 [none]<|Dn [65,J 1,67,68,69,70,71,72,73,92,116])<|Li Q1 [92,J 1] 103<|Li Qi [92,103] 104<|Li Qk [98,104] 105<|Iq 65 4 106 (.ite 105 (Li Q6 [98,J 1] 107<|.call 157 [107] 108 [none]<|Dn [65,98,67,68,69,70,71,72,73,92,108])<|.call 157 [.bool false] 107 [none]<|Dn [65,98,67,68,69,70,71,72,73,92,107])<|Iq 65 5 107 (.ite 105 (Li Q6 [98,J 1] 108<|.call 157 [108] 109 [none]<|Dn [65,98,67,68,69,70,71,72,73,92,109])<|.call 157 [.bool false] 108 [none]<|Dn [65,98,67,68,69,70,71,72,73,92,108])<|Iq 65 6 108 (.ite 105 (Li Q6 [98,J 1] 109<|.call 157 [109] 110 [none]<|Dn [65,98,67,68,69,70,71,72,73,92,110])<|.call 157 [.bool false] 109 [none]<|Dn [65,98,67,68,69,70,71,72,73,92,109])<|Iq 65 7 109 (.ite 105 (Li Q6 [98,J 1] 110<|.call 157 [110] 111 [none]<|Dn [65,98,67,68,69,70,71,72,73,92,111])<|.call 157 [.bool false] 110 [none]<|Dn [65,98,67,68,69,70,71,72,73,92,110])<|Iq 65 8 110 (.ite 105 (.call 158 [98] 111 [none]<|.call 157 [111] 112 [none]<|Dn [65,98,67,68,69,70,71,72,73,92,112])<|.call 157 [.bool false] 111 [none]<|Dn [65,98,67,68,69,70,71,72,73,92,111])<|Iq 65 9 111 (.call 157 [105] 112 [none]<|Dn [65,J 1,67,68,69,70,71,72,73,92,112])<|Iq 65 10 112 (.call 157 [105] 113 [none]<|Dn [65,J 1,67,68,69,70,71,72,73,92,113])<|Iq 65 11 113 (.ite 105 (Li Q6 [98,J 1] 114<|.call 157 [114] 115 [none]<|Dn [65,J 1,67,68,69,70,71,72,73,92,115])<|.call 157 [.bool false] 114 [none]<|Dn [65,J 1,67,68,69,70,71,72,73,92,114])<|Iq 65 12 114 (.ite 105 (Li Q6 [98,J 1] 115<|.call 157 [115] 116 [none]<|Dn [65,J 1,67,68,69,70,71,72,73,92,116])<|.call 157 [.bool false] 115 [none]<|Dn [65,J 1,67,68,69,70,71,72,73,92,115])<|.ite 105 (Li Q0 [98,J 1] 115<|.call 157 [115] 116 [none]<|Dn [65,J 1,67,68,69,70,71,72,73,92,116])<|.call 157 [.bool false] 115 [none]<|Dn [65,J 1,67,68,69,70,71,72,73,92,115]) .nil))<|.loop 78 0 [.nsl,J 0] (.cons 2 (Li Qe [74] 80<|It Q4 [79,80] 81 (Li Qa [74,79] 82<|.lt Qd [82] 83 (some 10)<|Cf 121 ft121 [64,83,84,85,86,87,88,89,90,91,92] 93 11<|It Q5 [114,J 0] 115 (Dn [65,66,67,68,69,70,71,72,73,74,114])<|Li Qj [78,.agg [104,105,106,107,108,109,110,111,112,113]] 116<|Li Q2 [79,J 1] 117<|.again 0 0 [116,117])<|Iq 65 3 82 (Cf 156 ft156 [64,65,66,67,68,69,70,71,72,73,74,78] 83 11<|Dn [95,96,97,98,99,100,101,102,103,104,105])<|Li Q1 [78,J 0] 83<|Li Qi [78,83] 84<|Iq 65 17 85 (Iq 84 1 86 (Dn [65,66,67,68,69,70,71,72,73,74,J 4])<|Iq 66 1 87 (Dn [65,66,67,68,69,70,71,72,73,74,J 4])<|Dn [65,66,67,68,69,70,71,72,73,78,J 0])<|Iq 65 15 86 (Li Q0 [84,J 1] 87<|.call 157 [87] 88 [none]<|Dn [65,J 1,67,68,69,70,71,72,73,78,88])<|Iq 65 16 87 (Li Q6 [84,J 1] 88<|.call 157 [88] 89 [none]<|Dn [65,84,67,68,69,70,71,72,73,78,89])<|It Z1 [65,J 4] 88 (It Qw [65,J 12] 89 (Li Q1 [78,J 0] 90<|.lt Zo [78,90] 91 (some 10)<|Li Q1 [78,J 1] 101<|Li Qi [78,101] 102<|.call 154 [.agg [91,92,93,94,95,96,97,98,99,100],102] 103 [(some 10)]<|Li Q1 [78,J 1] 113<|.lt Zo [78,113] 114 (some 10)<|Li Q1 [78,J 0] 124<|Li Qi [78,124] 125<|.call 154 [.agg [114,115,116,117,118,119,120,121,122,123],125] 126 [(some 10)]<|Li Q1 [78,J 0] 136<|Li Zp [78,136,.agg [103,104,105,106,107,108,109,110,111,112]] 137<|Li Q1 [78,J 1] 138<|Li Zp [137,138,.agg [126,127,128,129,130,131,132,133,134,135]] 139<|Li Q1 [78,J 0] 140<|Li Qi [139,140] 141<|Li Q1 [78,J 1] 142<|Li Qi [139,142] 143<|Li Qk [141,143] 144<|Iq 65 4 145 (.ite 144 (Li Q6 [141,J 1] 146<|.call 157 [146] 147 [none]<|.chk (.same 78 139)<|Dn [65,141,67,68,69,70,71,72,73,139,147])<|.call 157 [.bool false] 146 [none]<|.chk (.same 78 139)<|Dn [65,141,67,68,69,70,71,72,73,139,146])<|Iq 65 5 146 (.ite 144 (Li Q6 [141,J 1] 147<|.call 157 [147] 148 [none]<|.chk (.same 78 139)<|Dn [65,141,67,68,69,70,71,72,73,139,148])<|.call 157 [.bool false] 147 [none]<|.chk (.same 78 139)<|Dn [65,141,67,68,69,70,71,72,73,139,147])<|Iq 65 6 147 (.ite 144 (Li Q6 [141,J 1] 148<|.call 157 [148] 149 [none]<|.chk (.same 78 139)<|Dn [65,141,67,68,69,70,71,72,73,139,149])<|.call 157 [.bool false] 148 [none]<|.chk (.same 78 139)<|Dn [65,141,67,68,69,70,71,72,73,139,148])<|Iq 65 7 148 (.ite 144 (Li Q6 [141,J 1] 149<|.call 157 [149] 150 [none]<|.chk (.same 78 139)<|Dn [65,141,67,68,69,70,71,72,73,139,150])<|.call 157 [.bool false] 149 [none]<|.chk (.same 78 139)<|Dn [65,141,67,68,69,70,71,72,73,139,149])<|Iq 65 8 149 (.ite 144 (.call 158 [141] 150 [none]<|.call 157 [150] 151 [none]<|.chk (.same 78 139)<|Dn [65,141,67,68,69,70,71,72,73,139,151])<|.call 157 [.bool false] 150 [none]<|.chk (.same 78 139)<|Dn [65,141,67,68,69,70,71,72,73,139,150])<|Iq 65 9 150 (.call 157 [144] 151 [none]<|.chk (.same 78 139)<|Dn [65,J 1,67,68,69,70,71,72,73,139,151])<|Iq 65 10 151 (.call 157 [144] 152 [none]<|.chk (.same 78 139)<|Dn [65,J 1,67,68,69,70,71,72,73,139,152])<|Iq 65 11 152 (.ite 144 (Li Q6 [141,J 1] 153<|.call 157 [153] 154 [none]<|.chk (.same 78 139)<|Dn [65,J 1,67,68,69,70,71,72,73,139,154])<|.call 157 [.bool false] 153 [none]<|.chk (.same 78 139)<|Dn [65,J 1,67,68,69,70,71,72,73,139,153])<|Iq 65 12 153 (.ite 144 (Li Q6 [141,J 1] 154<|.call 157 [154] 155 [none]<|.chk (.same 78 139)<|Dn [65,J 1,67,68,69,70,71,72,73,139,155])<|.call 157 [.bool false] 154 [none]<|.chk (.same 78 139)<|Dn [65,J 1,67,68,69,70,71,72,73,139,154])<|.ite 144 (Li Q0 [141,J 1] 154<|.call 157 [154] 155 [none]<|.chk (.same 78 139)<|Dn [65,J 1,67,68,69,70,71,72,73,139,155])<|.call 157 [.bool false] 154 [none]<|.chk (.same 78 139)<|Dn [65,J 1,67,68,69,70,71,72,73,139,154])<|Li Q1 [78,J 1] 90<|Li Qi [78,90] 91<|Li Qk [84,91] 92<|Iq 65 4 93 (.ite 92 (Li Q6 [84,J 1] 94<|.call 157 [94] 95 [none]<|Dn [65,84,67,68,69,70,71,72,73,78,95])<|.call 157 [.bool false] 94 [none]<|Dn [65,84,67,68,69,70,71,72,73,78,94])<|Iq 65 5 94 (.ite 92 (Li Q6 [84,J 1] 95<|.call 157 [95] 96 [none]<|Dn [65,84,67,68,69,70,71,72,73,78,96])<|.call 157 [.bool false] 95 [none]<|Dn [65,84,67,68,69,70,71,72,73,78,95])<|Iq 65 6 95 (.ite 92 (Li Q6 [84,J 1] 96<|.call 157 [96] 97 [none]<|Dn [65,84,67,68,69,70,71,72,73,78,97])<|.call 157 [.bool false] 96 [none]<|Dn [65,84,67,68,69,70,71,72,73,78,96])<|Iq 65 7 96 (.ite 92 (Li Q6 [84,J 1] 97<|.call 157 [97] 98 [none]<|Dn [65,84,67,68,69,70,71,72,73,78,98])<|.call 157 [.bool false] 97 [none]<|Dn [65,84,67,68,69,70,71,72,73,78,97])<|Iq 65 8 97 (.ite 92 (.call 158 [84] 98 [none]<|.call 157 [98] 99 [none]<|Dn [65,84,67,68,69,70,71,72,73,78,99])<|.call 157 [.bool false] 98 [none]<|Dn [65,84,67,68,69,70,71,72,73,78,98])<|Iq 65 9 98 (.call 157 [92] 99 [none]<|Dn [65,J 1,67,68,69,70,71,72,73,78,99])<|Iq 65 10 99 (.call 157 [92] 100 [none]<|Dn [65,J 1,67,68,69,70,71,72,73,78,100])<|Iq 65 11 100 (.ite 92 (Li Q6 [84,J 1] 101<|.call 157 [101] 102 [none]<|Dn [65,J 1,67,68,69,70,71,72,73,78,102])<|.call 157 [.bool false] 101 [none]<|Dn [65,J 1,67,68,69,70,71,72,73,78,101])<|Iq 65 12 101 (.ite 92 (Li Q6 [84,J 1] 102<|.call 157 [102] 103 [none]<|Dn [65,J 1,67,68,69,70,71,72,73,78,103])<|.call 157 [.bool false] 102 [none]<|Dn [65,J 1,67,68,69,70,71,72,73,78,102])<|.ite 92 (Li Q0 [84,J 1] 102<|.call 157 [102] 103 [none]<|Dn [65,J 1,67,68,69,70,71,72,73,78,103])<|.call 157 [.bool false] 102 [none]<|Dn [65,J 1,67,68,69,70,71,72,73,78,102])<|Li Q1 [78,J 1] 89<|Li Qi [78,89] 90<|Li Qk [84,90] 91<|Iq 65 4 92 (.ite 91 (Li Q6 [84,J 1] 93<|.call 157 [93] 94 [none]<|Dn [65,84,67,68,69,70,71,72,73,78,94])<|.call 157 [.bool false] 93 [none]<|Dn [65,84,67,68,69,70,71,72,73,78,93])<|Iq 65 5 93 (.ite 91 (Li Q6 [84,J 1] 94<|.call 157 [94] 95 [none]<|Dn [65,84,67,68,69,70,71,72,73,78,95])<|.call 157 [.bool false] 94 [none]<|Dn [65,84,67,68,69,70,71,72,73,78,94])<|Iq 65 6 94 (.ite 91 (Li Q6 [84,J 1] 95<|.call 157 [95] 96 [none]<|Dn [65,84,67,68,69,70,71,72,73,78,96])<|.call 157 [.bool false] 95 [none]<|Dn [65,84,67,68,69,70,71,72,73,78,95])<|Iq 65 7 95 (.ite 91 (Li Q6 [84,J 1] 96<|.call 157 [96] 97 [none]<|Dn [65,84,67,68,69,70,71,72,73,78,97])<|.call 157 [.bool false] 96 [none]<|Dn [65,84,67,68,69,70,71,72,73,78,96])<|Iq 65 8 96 (.ite 91 (.call 158 [84] 97 [none]<|.call 157 [97] 98 [none]<|Dn [65,84,67,68,69,70,71,72,73,78,98])<|.call 157 [.bool false] 97 [none]<|Dn [65,84,67,68,69,70,71,72,73,78,97])<|Iq 65 9 97 (.call 157 [91] 98 [none]<|Dn [65,J 1,67,68,69,70,71,72,73,78,98])<|Iq 65 10 98 (.call 157 [91] 99 [none]<|Dn [65,J 1,67,68,69,70,71,72,73,78,99])<|Iq 65 11 99 (.ite 91 (Li Q6 [84,J 1] 100<|.call 157 [100] 101 [none]<|Dn [65,J 1,67,68,69,70,71,72,73,78,101])<|.call 157 [.bool false] 100 [none]<|Dn [65,J 1,67,68,69,70,71,72,73,78,100])<|Iq 65 12 100 (.ite 91 (Li Q6 [84,J 1] 101<|.call 157 [101] 102 [none]<|Dn [65,J 1,67,68,69,70,71,72,73,78,102])<|.call 157 [.bool false] 101 [none]<|Dn [65,J 1,67,68,69,70,71,72,73,78,101])<|.ite 91 (Li Q0 [84,J 1] 101<|.call 157 [101] 102 [none]<|Dn [65,J 1,67,68,69,70,71,72,73,78,102])<|.call 157 [.bool false] 101 [none]<|Dn [65,J 1,67,68,69,70,71,72,73,78,101]) .nil)
theorem yI_ (k:Int):jz_ Tryz.prog 158 [.int .i64 k] (.bool (decide (k=2\/k=3\/k=4))):=by
 refine t7_ (sh:=[none]) (ls:=[.int .i64 k]) (c:=Cc_) (n:=300) (t:=Bj_) mo ov rfl rfl rfl (λY _=>vD_ _) rfl (by kernel_rfl) λY hf hg=>?_;unfold Bj_
 (refine a_ rfl rfl ?_ ?_<;>intro h<;>simp only [nc]at h<;>try omega)
 .refine uI_ ?_;show AV.bool _=_
  congr 1;symm;simp only [decide_eq_true_eq];omega
 (refine a_ rfl rfl ?_ ?_<;>intro h<;>simp only [nc]at h<;>try omega)
 .refine uI_ ?_;show AV.bool _=_
  congr 1;symm;simp only [decide_eq_true_eq];omega
 refine vw_ (run_eql ..) rfl (uI_ ?_);show AV.bool _=_
 congr 1
 refine decide_eq_decide.2 ?_;omega
theorem y3_ {b:Bool} (h:(if b=true then (0:Int)else 4)=0):b=true:=by
 cases b with
 |true=>rfl
 |false=>simp at h
section
variable {P:Program} {Q:AV->Prop} {L:List (Nat->List AV->Prop)} {Y:Sy} {i:Nat} {A B:VT}
theorem wz_ {p:Prop} [Decidable p] (h0:Y.v i=some (.bool (decide p))) (h1:p->VOK P Q L Y A) (h2:¬p->VOK P Q L Y B):VOK P Q L Y (.ite i A B):=
 vd_ h0 (λh=>h1 (of_decide_eq_true h)) (λh=>h2 (of_decide_eq_false h))
end
def RE (d:Nat) (x:GX):Nat->List AV->Prop:=λ_ ws=>∃(y:GX) (e:Int),ws=k_ y++[.int .i64 e]/\(e=0->TX d y/\y.op=x.op/\NT x y)
theorem vb_ {d j:Nat} {x y:GX} {e:Int} {hv:List AV} {Y:Sy} {L:List (Nat->List AV->Prop)} (h:ab_ Y.v hv=k_ y++[.int .i64 e]) (hw:e=0->TX d y/\y.op=x.op/\NT x y):VOK Tryz.prog (QF (RE d x)) L Y (.done (.tup (.int .i64 (.ofNat j)::hv))):=
 VOK_fin (by rw [h];exact us_ y e) ⟨y,e,h,hw⟩
def RM (x:GX) (k:Int):Nat->List AV->Prop:=λ_ ws=>∃e:Int,ws=(match x with| .mk op _ nm fd _ _ vk vi vf args=>k_ (.mk op 2 nm fd 8 4 vk vi vf args))++[.int .i64 e]/\(e=0->k=2\/k=3)
theorem CL_ (op kd:Int) (nm fd:List UInt8) (ad n vk vi:Int) (vf:Nat) (args:List GX) (y:GX) (h:nm=[107]):CF Tryz.prog 156 ft156 (VARS::(k_ (.mk op kd nm fd ad n vk vi vf args)++[L_ [y]])) (RM (.mk op kd nm fd ad n vk vi vf [y]) y.kd):=by
 subst h;obtain ⟨yo,yk,ynm,yfd,yad,yn,yvk,yvi,yvf,ya⟩:=y;refine vg_ (c:=Ca_) (n:=300) (t:=Bh_) mo ov rfl (λY _=>vD_ _) (by kernel_rfl) λY hf hg=>?_;unfold Bh_;refine uH_ wY_ rfl rfl (vw_ rfl rfl (vd_ rfl (λh=>by cases h) (λ_=>vw_ rfl rfl (vd_ rfl (λ_=>?_) (λh=>by cases h)))));refine vw_ (r:=.vptr (k_ (.mk yo yk ynm yfd yad yn yvk yvi yvf ya)++v4_ [])) rfl (by show okL _=true;exact oL_.okL_join (okX _) (zh_ _)) ?_;refine vw_ (r:=.vptr [.int .i64 yk,.str ynm,.str yfd,.int .i64 yad,.int .i64 yn,.int .i64 yvk,.int .i64 yvi,.flt .f64 yvf,L_ ya]) rfl (by simp only [okC,okL,okA]) (vw_ (r:=.int .i64 yk) rfl rfl ?_)
 (refine a_ rfl rfl ?_ ?_<;>intro h<;>simp only [nc]at h<;>try omega)
 refine uH_ (wk_ true) rfl rfl (VOK_fin (by show okL (k_ (.mk op 2 [107] fd 8 4 vk vi vf [_])++[_])=true;exact us_ _ _) ⟨_,rfl,λ_=>.inl h⟩);refine vw_ (r:=.vptr (k_ (.mk yo yk ynm yfd yad yn yvk yvi yvf ya)++v4_ [])) rfl (by show okL _=true;exact oL_.okL_join (okX _) (zh_ _)) ?_;refine vw_ (r:=.vptr [.int .i64 yk,.str ynm,.str yfd,.int .i64 yad,.int .i64 yn,.int .i64 yvk,.int .i64 yvi,.flt .f64 yvf,L_ ya]) rfl (by simp only [okC,okL,okA]) (vw_ (r:=.int .i64 yk) rfl rfl ?_);refine vw_ (run_eql ..) rfl (uH_ (wk_ _) rfl rfl (VOK_fin (by show okL (k_ (.mk op 2 [107] fd 8 4 vk vi vf [_])++[_])=true;exact us_ _ _) ⟨_,rfl,λh=>.inr ?_⟩));exact of_decide_eq_true (y3_ h)
theorem r_ (l:List GX):(XOp.len 47).run Tryz.prog [L_ l]=some (.int .i64 (l.length:Int)):=by rw [uD_];exact ud_ Tryz.underlying47 l
theorem m_ (l:List GX) {i:Nat} (h:i<l.length):(XOp.iaddr 47).run Tryz.prog [L_ l,.int .i64 (i:Int)]=some (.vptr (cf_ k_ (l.drop i))):=by rw [uD_];exact run_iaddr_sl (e:=49) (ti:=(Tryz.prog.info? 49).get!) Tryz.underlying47 (by kernel_rfl) (by kernel_rfl) nZ_ h .i64
theorem q_ (l:List GX) {i:Nat} (h:i<l.length):(XOp.load 49).run Tryz.prog [.vptr (cf_ k_ (l.drop i))]=some (.agg (k_ l[i])):=
 run_load_agg (ti:=(Tryz.prog.info? 49).get!) Tryz.underlying49 rfl (by kernel_rfl) (by kernel_rfl) nZ_ h
theorem H_ (l:List GX) (s:GX) (hl:l.length<=100000):(XOp.app 10 112).run Tryz.prog [L_ l,.agg (k_ s)]=some (L_ (l++[s])):=by rw [uD_,uD_];exact ua_ nZ_ (by decide) (by decide) l s (by omega)
theorem wJ_ (l:List GX) {i:Nat} (hi:i<l.length) (y:GX) (k:IntKind):(XOp.stx 49 10 0).run Tryz.prog [L_ l,.int k (i:Int),.agg (k_ y)]=some (L_ (l.set i y)):=by rw [uD_,uD_];exact run_stx (ti:=(Tryz.prog.info? 49).get!) nZ_ hi (p:=[]) (q:=k_ l[i]) (r:=[]) (xs:=k_ y) rfl (.inl rfl) (by kernel_rfl) (by rw [nZ_];kernel_rfl) (vX_ (okX _)) (by simp) rfl (by rw [nZ_,nZ_]) (by simp) k
theorem x9_ (x:GX):okL (k_ x++[])=true:=by rw [List.append_nil];exact okX x
def typ (b:Bool):Int:=if b=true then 0 else 4
theorem y2_ {b:Bool} (h:typ b=0):b=true:=y3_ h
theorem yJ_ (b:Bool):jz_ Tryz.prog 157 [.bool b] (.int .i64 (typ b)):=wk_ b
attribute [irreducible] typ
theorem TX1 {d:Nat} {op kd ad n vk vi:Int} {nm fd:List UInt8} {vf:Nat} {y:GX} (hf:yj_ vf) (hy:TX d y) (ho:op=15/\kd=1/\y.kd=1\/op=16/\kd=y.kd/\y.kd≠1\/op=17/\2<=kd/\kd<=5/\y.kd≠1):TX (d+1) (.mk op kd nm fd ad n vk vi vf [y]):=by have hk:=zz_ hy;refine ⟨.inr (.inl ⟨by omega,rfl⟩),hf,by omega,by omega,⟨λh=>by omega,λh=>by omega,λh=>by omega,λh=>by omega,λh=>?_,λh=>?_,λh=>?_⟩,λa ha=>by cases List.mem_singleton.1 ha;exact hy⟩;exact ⟨by omega,by show [y.kd]=[1];congr 1;omega⟩;exact ⟨by show [y.kd]=[kd];congr 1;omega,by omega,by omega⟩;exact ⟨by omega,by omega,y.kd,rfl,by omega,by omega⟩
theorem TX2 {d:Nat} {op kd ad n vk vi:Int} {nm fd:List UInt8} {vf:Nat} {y z:GX} (hf:yj_ vf) (hy:TX d y) (hz:TX d z) (ho:4<=op/\op<=14) (hk:y.kd=z.kd) (h1:op<=8->kd=y.kd/\y.kd≠1) (h2:9<=op->kd=1) (h3:op=8->y.kd≠5) (h4:op=11\/op=12->y.kd≠1) (h5:13<=op->y.kd=1):TX (d+1) (.mk op kd nm fd ad n vk vi vf [y,z]):=by
 have hy1:=zz_ hy
 refine ⟨.inr (.inr ⟨ho,rfl⟩),hf,by omega,by omega,⟨λh=>by omega,λh=>by omega,λh=>by omega,λh=>?_,λh=>by omega,λh=>by omega,λh=>by omega⟩,λa ha=>by
  rcases List.mem_cons.1 ha with rfl|ha;exact hy
  .cases List.mem_singleton.1 ha;exact hz⟩
 exact ⟨y.kd,by show [y.kd,z.kd]=_;rw [←hk],hy1.1,hy1.2,h1,h2,h3,h4,h5⟩
theorem xv_:∀(d:Nat) (x:GX),WX d x->CF Tryz.prog 121 ft121 (VARS::k_ x) (RE d x)
 |0,_,h=>h.elim
 |d+1,.mk op kd nm fd ad n vk vi vf args,hx=>by
  obtain ⟨hA,hF,⟨n1,n2,n3,n4⟩,hW⟩:=hx;have ih:=λ(z:GX) (hz:z∈args)=>xv_ d z (hW z hz);have hal:args.length<=2:=(by unfold Ari at hA;omega);refine vg_ (c:=B4_) (n:=300) (t:=Bb_) mo ov rfl (λY _=>vD_ _) (by kernel_rfl) λY hf hg=>?_;unfold Bb_
  (refine a_ rfl rfl ?_ ?_<;>intro h<;>simp only [nc]at h<;>try omega)
  .subst h;have hl:args=[]:=(by unfold Ari at hA;exact List.length_eq_zero_iff.1 (by omega));subst hl;refine vb_ (y:=.mk 1 vk nm fd ad n vk vi vf []) rfl (λ_=>⟨⟨hA,hF,?_,?_,?_,λa ha=>(List.not_mem_nil ha).elim⟩,rfl,λh=>by omega⟩);all_goals obtain ⟨m1,m2,m3,m4,m5,m6⟩:=n1 rfl
   omega;omega;exact ⟨λ_=>⟨rfl,by omega,by omega,m2,m3,m4,m5,m6⟩,λh=>by omega,λh=>by omega,λh=>by omega,λh=>by omega,λh=>by omega,λh=>by omega⟩
  (refine a_ rfl rfl ?_ ?_<;>intro h<;>simp only [nc]at h<;>try omega)
  subst h;have hl:args=[]:=(by unfold Ari at hA;exact List.length_eq_zero_iff.1 (by omega));subst hl;refine b_ (CK_ 2 kd nm fd ad n vk vi vf [] (n2 rfl)) rfl (by show okL (VARS::k_ (.mk 2 kd nm fd ad n vk vi vf []))=true;rw [aX_];exact okX _) ⟨?_,trivial⟩;rintro ws ⟨ad1,kd1,rfl,hc⟩;have hc':(ad1,kd1)∈vY_:=tie_cells _ hc;refine vb_ (y:=.mk 2 kd1 nm fd ad1 n vk vi vf []) rfl (λ_=>⟨⟨hA,hF,?_,?_,⟨λh=>by omega,λ_=>hc',λh=>by omega,λh=>by omega,λh=>by omega,λh=>by omega,λh=>by omega⟩,λa ha=>(List.not_mem_nil ha).elim⟩,rfl,λ_=>hc⟩);simp [vY_]at hc';omega;simp [vY_]at hc';omega
  (refine a_ rfl rfl ?_ ?_<;>intro h<;>simp only [nc]at h<;>try omega)
  .subst h;cases n3 rfl;refine uH_ wY_ rfl rfl (vw_ rfl rfl (vd_ rfl (λh=>by cases h) (λ_=>vw_ rfl rfl (vd_ rfl (λh=>by cases h) (λ_=>?_)))));refine uJ_ (ι:=List GX×Nat) (λs=>[L_ s.1,.int .i64 (s.2:Int)]) (λs=>s.1.length=s.2/\s.2<=args.length/\∀a∈s.1,TX d a) (λs=>args.length-s.2) ([],0) ⟨rfl,Nat.zero_le _,λa ha=>(List.not_mem_nil ha).elim⟩ rfl (λs _=>by simp only [okL,okC,okA]) (λs s' _ _ h=>by simp at h;omega) (λs hs=>?_);obtain ⟨acc,i⟩:=s;obtain ⟨h1,h2,h3⟩:=hs;simp only at h1 h2 h3⊢;refine vw_ (r_ args) rfl ?_
   (refine a_ rfl rfl ?_ ?_<;>intro h<;>simp only [nc]at h<;>try omega)
   .have hi:i<args.length:=(by omega);have hld:=q_ args hi;have hz:=ih args[i] (List.getElem_mem hi);rcases hzz:args[i]with ⟨zo,zk,znm,zfd,zad,zn,zvk,zvi,zvf,za⟩;rw [hzz]at hld hz;refine vw_ (m_ args hi) (oL_ okX _) (ve_ hld rfl (okX _) ?_);refine b_ hz rfl (by show okL (VARS::k_ (.mk zo zk znm zfd zad zn zvk zvi zvf za))=true;rw [aX_];exact okX _) ⟨?_,trivial⟩;rintro ws ⟨⟨yo,yk,ynm,yfd,yad,yn,yvk,yvi,yvf,ya⟩,e,rfl,hy⟩
    (refine a_ rfl rfl ?_ ?_<;>intro h<;>simp only [nc]at h<;>try omega)
    exact vb_ (y:=.mk ..) rfl (λhe=>absurd he h);refine vw_ (H_ acc (.mk yo yk ynm yfd yad yn yvk yvi yvf ya) (by omega)) (okA _) (vw_ (g_ (by omega) (by omega)) rfl (uu_ rfl ⟨(acc++[_],i+1),⟨by simp;omega,hi,?_⟩,rfl,by simp only;omega⟩));intro a ha;rcases List.mem_append.1 ha with ha|ha;exact h3 a ha;cases List.mem_singleton.1 ha;exact (hy h).1
   have hi:i=args.length:=(by omega);subst hi;have ha1:acc.length=1:=(by unfold Ari at hA;omega);obtain ⟨y,rfl⟩:=List.length_eq_one_iff.1 ha1;have hy:=h3 y (List.mem_singleton.2 rfl);obtain ⟨yo,yk,ynm,yfd,yad,yn,yvk,yvi,yvf,ya⟩:=y
   (refine a_ rfl rfl ?_ ?_<;>intro h<;>simp only [nc]at h<;>try omega)
   refine b_ (CL_ 3 kd [107] fd ad n vk vi vf args _ rfl) rfl (by show okL (VARS::(k_ (.mk 3 kd [107] fd ad n vk vi vf args)++[L_ _]))=true;rw [aX_];exact oL_.okL_join (okX _) (by simp only [okL,okA])) ⟨?_,trivial⟩;rintro ws ⟨e,rfl,he⟩;refine vb_ (y:=.mk 3 2 [107] fd 8 4 vk vi vf [.mk ..]) rfl (λh=>⟨⟨.inr (.inl ⟨.inl rfl,rfl⟩),hF,by decide,by decide,⟨λh=>by omega,λh=>by omega,λ_=>⟨rfl,rfl,rfl,_,rfl,he h⟩,λh=>by omega,λh=>by omega,λh=>by omega,λh=>by omega⟩,λa ha=>by cases List.mem_singleton.1 ha;exact hy⟩,rfl,λh=>by omega⟩)
  .refine uJ_ (ι:=List GX×Nat) (λs=>[L_ s.1,.int .i64 (s.2:Int)]) (λs=>s.1.length=s.2/\s.2<=args.length/\∀a∈s.1,TX d a) (λs=>args.length-s.2) ([],0) ⟨rfl,Nat.zero_le _,λa ha=>(List.not_mem_nil ha).elim⟩ rfl (λs _=>by simp only [okL,okC,okA]) (λs s' _ _ h=>by simp at h;omega) (λs hs=>?_);obtain ⟨acc,i⟩:=s;obtain ⟨h1,h2,h3⟩:=hs;simp only at h1 h2 h3⊢;refine vw_ (r_ args) rfl ?_
   (refine a_ rfl rfl ?_ ?_<;>intro h<;>simp only [nc]at h<;>try omega)
   .have hi:i<args.length:=(by omega);have hld:=q_ args hi;have hz:=ih args[i] (List.getElem_mem hi);rcases hzz:args[i]with ⟨zo,zk,znm,zfd,zad,zn,zvk,zvi,zvf,za⟩;rw [hzz]at hld hz;refine vw_ (m_ args hi) (oL_ okX _) (ve_ hld rfl (okX _) ?_);refine b_ hz rfl (by show okL (VARS::k_ (.mk zo zk znm zfd zad zn zvk zvi zvf za))=true;rw [aX_];exact okX _) ⟨?_,trivial⟩;rintro ws ⟨⟨yo,yk,ynm,yfd,yad,yn,yvk,yvi,yvf,ya⟩,e,rfl,hy⟩
    (refine a_ rfl rfl ?_ ?_<;>intro h<;>simp only [nc]at h<;>try omega)
    exact vb_ (y:=.mk ..) rfl (λhe=>absurd he h);refine vw_ (H_ acc (.mk yo yk ynm yfd yad yn yvk yvi yvf ya) (by omega)) (okA _) (vw_ (g_ (by omega) (by omega)) rfl (uu_ rfl ⟨(acc++[_],i+1),⟨by simp;omega,hi,?_⟩,rfl,by simp only;omega⟩));intro a ha;rcases List.mem_append.1 ha with ha|ha;exact h3 a ha;cases List.mem_singleton.1 ha;exact (hy h).1
   have hi:i=args.length:=(by omega);subst hi;by_cases hop:15<=op
   .have hop2:op=15\/op=16\/op=17:=(by unfold Ari at hA;omega);have ha1:acc.length=1:=(by unfold Ari at hA;omega);obtain ⟨y,rfl⟩:=List.length_eq_one_iff.1 ha1;have hy:=h3 y (List.mem_singleton.2 rfl);obtain ⟨yo,yk,ynm,yfd,yad,yn,yvk,yvi,yvf,ya⟩:=y;have n4':op=17->2<=kd/\kd<=5:=n4;rcases hop2 with rfl|rfl|rfl
    ·(refine a_ rfl rfl ?_ ?_<;>intro h<;>simp only [nc]at h<;>try omega)
     refine vw_ (r:=.int .i64 0) rfl rfl (vw_ (r:=.int .i64 yk) rfl rfl ?_);repeat' (first
               |(refine a_ rfl rfl ?_ ?_<;>intro h<;>simp only [nc]at h<;>try omega)
               |refine uH_ (yJ_ _) rfl rfl ?_
               |refine uH_ (yI_ _) rfl rfl ?_
               |refine vc_ (.inr ⟨_,_,_,_,rfl,rfl⟩) ?_
               |refine wz_ rfl (λh=>?_) (λh=>?_)
               |refine vw_ (run_eql ..) rfl ?_
               |refine vw_ (run_neq ..) rfl ?_)
     all_goals (first
                 |exact vb_ (y:=.mk ..) rfl (λhe=>absurd he (by decide))
                 |(refine vb_ (y:=.mk _ _ _ _ _ _ _ _ _ [.mk ..]) rfl (λhe=>?_)
                   have he2:=y2_ he;simp only [decide_eq_true_eq,Bool.not_eq_true',decide_eq_false_iff_not]at he2;refine ⟨TX1 hF hy ?_,rfl,λh=>by omega⟩;dsimp only [GX.kd];omega)
                 |(refine vb_ (y:=.mk _ _ _ _ _ _ _ _ _ [.mk ..]) rfl (λhe=>?_)
                   refine ⟨TX1 hF hy ?_,rfl,λh=>by omega⟩;dsimp only [GX.kd];omega))
    ·(refine a_ rfl rfl ?_ ?_<;>intro h<;>simp only [nc]at h<;>try omega)
     refine vw_ (r:=.int .i64 0) rfl rfl (vw_ (r:=.int .i64 yk) rfl rfl ?_);repeat' (first
               |(refine a_ rfl rfl ?_ ?_<;>intro h<;>simp only [nc]at h<;>try omega)
               |refine uH_ (yJ_ _) rfl rfl ?_
               |refine uH_ (yI_ _) rfl rfl ?_
               |refine vc_ (.inr ⟨_,_,_,_,rfl,rfl⟩) ?_
               |refine wz_ rfl (λh=>?_) (λh=>?_)
               |refine vw_ (run_eql ..) rfl ?_
               |refine vw_ (run_neq ..) rfl ?_)
     all_goals (first
                 |exact vb_ (y:=.mk ..) rfl (λhe=>absurd he (by decide))
                 |(refine vb_ (y:=.mk _ _ _ _ _ _ _ _ _ [.mk ..]) rfl (λhe=>?_)
                   have he2:=y2_ he;simp only [decide_eq_true_eq,Bool.not_eq_true',decide_eq_false_iff_not]at he2;refine ⟨TX1 hF hy ?_,rfl,λh=>by omega⟩;dsimp only [GX.kd];omega)
                 |(refine vb_ (y:=.mk _ _ _ _ _ _ _ _ _ [.mk ..]) rfl (λhe=>?_)
                   refine ⟨TX1 hF hy ?_,rfl,λh=>by omega⟩;dsimp only [GX.kd];omega))
    ·(refine a_ rfl rfl ?_ ?_<;>intro h<;>simp only [nc]at h<;>try omega)
     have n5:=n4 rfl;refine vw_ (r:=.int .i64 0) rfl rfl (vw_ (r:=.int .i64 yk) rfl rfl ?_);repeat' (first
               |(refine a_ rfl rfl ?_ ?_<;>intro h<;>simp only [nc]at h<;>try omega)
               |refine uH_ (yJ_ _) rfl rfl ?_
               |refine uH_ (yI_ _) rfl rfl ?_
               |refine vc_ (.inr ⟨_,_,_,_,rfl,rfl⟩) ?_
               |refine wz_ rfl (λh=>?_) (λh=>?_)
               |refine vw_ (run_eql ..) rfl ?_
               |refine vw_ (run_neq ..) rfl ?_)
     all_goals (first
                 |exact vb_ (y:=.mk ..) rfl (λhe=>absurd he (by decide))
                 |(refine vb_ (y:=.mk _ _ _ _ _ _ _ _ _ [.mk ..]) rfl (λhe=>?_)
                   have he2:=y2_ he;simp only [decide_eq_true_eq,Bool.not_eq_true',decide_eq_false_iff_not]at he2;refine ⟨TX1 hF hy ?_,rfl,λh=>by omega⟩;dsimp only [GX.kd];omega)
                 |(refine vb_ (y:=.mk _ _ _ _ _ _ _ _ _ [.mk ..]) rfl (λhe=>?_)
                   refine ⟨TX1 hF hy ?_,rfl,λh=>by omega⟩;dsimp only [GX.kd];omega))
   .have hop2:4<=op/\op<=14:=(by unfold Ari at hA;omega);have ha1:acc.length=2:=(by unfold Ari at hA;omega);obtain ⟨y,z,rfl⟩:∃y z,acc=[y,z]:=by
     rcases acc with _|⟨y,_|⟨z,_|⟨w,t⟩⟩⟩<;>simp at ha1
     exact ⟨y,z,rfl⟩
    have hy:=h3 y (List.mem_cons_self ..);have hz:=h3 z (List.mem_cons_of_mem _ (List.mem_singleton.2 rfl));obtain ⟨yo,yk,ynm,yfd,yad,yn,yvk,yvi,yvf,ya⟩:=y;obtain ⟨zo,zk,znm,zfd,zad,zn,zvk,zvi,zvf,za⟩:=z
    (refine a_ rfl rfl ?_ ?_<;>intro h<;>simp only [nc]at h<;>try omega)
    refine vw_ (r:=.int .i64 0) rfl rfl (vw_ (r:=.int .i64 yk) rfl rfl ?_)
    (refine a_ rfl rfl ?_ ?_<;>intro h<;>simp only [nc]at h<;>try omega);(refine a_ rfl rfl ?_ ?_<;>intro h<;>simp only [nc]at h<;>try omega);(refine a_ rfl rfl ?_ ?_<;>intro h<;>simp only [nc]at h<;>try omega);(refine a_ rfl rfl ?_ ?_<;>intro h<;>simp only [nc]at h<;>try omega)
    (refine a_ rfl rfl ?_ ?_<;>intro h<;>simp only [nc]at h<;>try omega)
    .refine vw_ (r:=.int .i64 0) rfl rfl (ve_ (cs:=k_ (.mk yo yk ynm yfd yad yn yvk yvi yvf ya)) rfl rfl (okX _) (vw_ (r:=.int .i64 1) rfl rfl (vw_ (r:=.int .i64 zk) rfl rfl ?_)));obtain ⟨⟨yo1,yk1,ynm1,yfd1,yad1,yn1,yvk1,yvi1,yvf1,ya1⟩,hp1,hy1⟩:=yb_ _ zk hy;refine uH_ hp1 rfl (x9_ _) ?_;refine vw_ (r:=.int .i64 1) rfl rfl (ve_ (cs:=k_ (.mk zo zk znm zfd zad zn zvk zvi zvf za)) rfl rfl (okX _) (vw_ (r:=.int .i64 0) rfl rfl (vw_ (r:=.int .i64 yk) rfl rfl ?_)));obtain ⟨⟨zo1,zk1,znm1,zfd1,zad1,zn1,zvk1,zvi1,zvf1,za1⟩,hp2,hz1⟩:=yb_ _ yk hz;refine uH_ hp2 rfl (x9_ _) ?_;clear hy hz;have hy:=hy1;have hz:=hz1;refine vw_ (r:=.int .i64 0) rfl rfl (vw_ (r:=L_ [.mk yo1 yk1 ynm1 yfd1 yad1 yn1 yvk1 yvi1 yvf1 ya1,.mk zo zk znm zfd zad zn zvk zvi zvf za]) (wJ_ [(.mk yo yk ynm yfd yad yn yvk yvi yvf ya),(.mk zo zk znm zfd zad zn zvk zvi zvf za)] (i:=0) (by simp) (.mk yo1 yk1 ynm1 yfd1 yad1 yn1 yvk1 yvi1 yvf1 ya1) .i64) (okA _) (vw_ (r:=.int .i64 1) rfl rfl (vw_ (r:=L_ [.mk yo1 yk1 ynm1 yfd1 yad1 yn1 yvk1 yvi1 yvf1 ya1,.mk zo1 zk1 znm1 zfd1 zad1 zn1 zvk1 zvi1 zvf1 za1]) (wJ_ [(.mk yo1 yk1 ynm1 yfd1 yad1 yn1 yvk1 yvi1 yvf1 ya1),(.mk zo zk znm zfd zad zn zvk zvi zvf za)] (i:=1) (by simp) (.mk zo1 zk1 znm1 zfd1 zad1 zn1 zvk1 zvi1 zvf1 za1) .i64) (okA _) ?_)));refine vw_ (r:=.int .i64 0) rfl rfl (vw_ (r:=.int .i64 yk1) rfl rfl (vw_ (r:=.int .i64 1) rfl rfl (vw_ (r:=.int .i64 zk1) rfl rfl ?_)));repeat' (first
               |(refine a_ rfl rfl ?_ ?_<;>intro h<;>simp only [nc]at h<;>try omega)
               |refine uH_ (yJ_ _) rfl rfl ?_
               |refine uH_ (yI_ _) rfl rfl ?_
               |refine vc_ (.inr ⟨_,_,_,_,rfl,rfl⟩) ?_
               |refine wz_ rfl (λh=>?_) (λh=>?_)
               |refine vw_ (run_eql ..) rfl ?_
               |refine vw_ (run_neq ..) rfl ?_)
     all_goals (
                refine vb_ (y:=.mk _ _ _ _ _ _ _ _ _ [.mk ..,.mk ..]) rfl (λhe=>?_);have he2:=y2_ he;first
                 |(exact absurd he2 (by decide))
                 |(simp only [decide_eq_true_eq,Bool.not_eq_true',decide_eq_false_iff_not]at he2
                   exact ⟨TX2 hF hy hz (by omega) (by dsimp only [GX.kd];omega) (by dsimp only [GX.kd];omega) (by omega) (by dsimp only [GX.kd];omega) (by dsimp only [GX.kd];omega) (by dsimp only [GX.kd];omega),rfl,λh=>by omega⟩))
    .refine vw_ (r:=.int .i64 1) rfl rfl (vw_ (r:=.int .i64 zk) rfl rfl ?_);repeat' (first
               |(refine a_ rfl rfl ?_ ?_<;>intro h<;>simp only [nc]at h<;>try omega)
               |refine uH_ (yJ_ _) rfl rfl ?_
               |refine uH_ (yI_ _) rfl rfl ?_
               |refine vc_ (.inr ⟨_,_,_,_,rfl,rfl⟩) ?_
               |refine wz_ rfl (λh=>?_) (λh=>?_)
               |refine vw_ (run_eql ..) rfl ?_
               |refine vw_ (run_neq ..) rfl ?_)
     all_goals (
                refine vb_ (y:=.mk _ _ _ _ _ _ _ _ _ [.mk ..,.mk ..]) rfl (λhe=>?_);have he2:=y2_ he;first
                 |(exact absurd he2 (by decide))
                 |(simp only [decide_eq_true_eq,Bool.not_eq_true',decide_eq_false_iff_not]at he2
                   exact ⟨TX2 hF hy hz (by omega) (by dsimp only [GX.kd];omega) (by dsimp only [GX.kd];omega) (by omega) (by dsimp only [GX.kd];omega) (by dsimp only [GX.kd];omega) (by dsimp only [GX.kd];omega),rfl,λh=>by omega⟩))
end Go.Proofs.YtjconanknjgpnaaGreat.vars
set_option linter.unusedVariables false
set_option linter.unusedSimpArgs false
namespace Go.Proofs.YtjconanknjgpnaaGreat.vars
open Go Go.Sx
structure FV where
 k:Int
 i:Int
 f:Option Nat
def FV.z:FV:=⟨0,0,some 0⟩
def d_ (v:FV):List AV:=[.int .i64 v.k,.int .i64 v.i,fv v.f]
theorem wA_ (v:FV):(d_ v).length=3:=rfl
theorem okV (v:FV):okL (d_ v)=true:=by simp only [d_,okL,okC,vN_]
def InK (k i:Int):Prop:=(k=1/\0<=i/\i<=1)\/(k=2/\ -32768<=i/\i<=32767)\/(k=3/\ -2147483648<=i/\i<=2147483647)\/(k=4/\ -9223372036854775808<=i/\i<=9223372036854775807)\/(k=5/\i=0)
def TV (v:FV):Prop:=InK v.k v.i/\(v.k≠5->v.f=some 0)
theorem InK.kd {k i:Int} (h:InK k i):1<=k/\k<=5:=by rcases h with h|h|h|h|h<;>omega
theorem InK.i64 {k i:Int} (h:InK k i): -9223372036854775808<=i/\i<=9223372036854775807:=by rcases h with h|h|h|h|h<;>omega
def s_ (k i:Int):Int:=if k=1 then (if i=0 then 0 else 1)else if k=2 then IntKind.i16.wrap i else if k=3 then IntKind.i32.wrap i else if k=4 then i else 0
theorem wM_ (i:Int): -32768<=IntKind.i16.wrap i/\IntKind.i16.wrap i<=32767:=by simp [IntKind.wrap,IntKind.bits,IntKind.signed];omega
theorem wN_ (i:Int): -2147483648<=IntKind.i32.wrap i/\IntKind.i32.wrap i<=2147483647:=by simp [IntKind.wrap,IntKind.bits,IntKind.signed];omega
theorem wO_ (i:Int): -9223372036854775808<=IntKind.i64.wrap i/\IntKind.i64.wrap i<=9223372036854775807:=by simp [IntKind.wrap,IntKind.bits,IntKind.signed];omega
theorem yg_ {i:Int} (h1: -32768<=i) (h2:i<=32767):IntKind.i16.wrap i=i:=by simp [IntKind.wrap,IntKind.bits,IntKind.signed];omega
theorem yh_ {i:Int} (h1: -2147483648<=i) (h2:i<=2147483647):IntKind.i32.wrap i=i:=by simp [IntKind.wrap,IntKind.bits,IntKind.signed];omega
theorem ww_ {k i:Int} (h1:1<=k) (h2:k<=4) (h3: -9223372036854775808<=i) (h4:i<=9223372036854775807):InK k (s_ k i):=by have a:=wM_ i;have b:=wN_ i;unfold InK s_;rcases (by omega:k=1\/k=2\/k=3\/k=4)with rfl|rfl|rfl|rfl;simp only [if_true];split;exact .inl ⟨trivial,by decide,by decide⟩;exact .inl ⟨trivial,by decide,by decide⟩;exact .inr (.inl ⟨rfl,a⟩);exact .inr (.inr (.inl ⟨rfl,b⟩));exact .inr (.inr (.inr (.inl ⟨rfl,h3,h4⟩)))
theorem wv_ {k i:Int} (h:InK k i) (hk:k≠5):s_ k i=i:=by
 unfold s_;rcases h with ⟨rfl,h,h'⟩|⟨rfl,h,h'⟩|⟨rfl,h,h'⟩|⟨rfl,h,h'⟩|⟨rfl,h⟩
 .simp only [if_true];split<;>omega
 simp [yg_ h h'];simp [yh_ h h'];simp;exact absurd rfl hk
def tI (b:Bool):Int:=if b=true then 1 else 0
def w64 (i:Int):Int:=IntKind.i64.wrap i
def bb_ (op k a b:Int):Int:=
 if op=4 then s_ k (w64 (a+b))else if op=5 then s_ k (w64 (a-b))else if op=6 then s_ k (w64 (a*b))else if op=7 then s_ k (w64 (a.tdiv b))else if op=8 then s_ k (a.tmod b)
 else if op=9 then tI (decide (a=b))else if op=10 then tI (decide (¬a=b))else if op=11 then tI (decide (a<b))else if op=12 then tI (decide (a<=b))
 else if op=13 then tI (decide (¬a=0)&&decide (¬b=0))else if op=14 then tI (decide (¬a=0)||decide (¬b=0))else if op=15 then tI (decide (a=0))else s_ k (w64 (0-a))
def aY_ (op b:Int):Int:=if (op=7\/op=8)/\b=0 then 5 else 0
def OpK (op k:Int):Prop:=4<=op/\op<=16/\1<=k/\k<=5/\(op<=8\/op=16\/op=11\/op=12->k≠1)/\(op=8->k≠5)/\(13<=op/\op<=15->k=1)
theorem vW_ (b:Bool):InK 1 (tI b):=by cases b;exact .inl ⟨rfl,by decide,by decide⟩;exact .inl ⟨rfl,by decide,by decide⟩
theorem xZ_ {k a b:Int} (h:InK k a) (hk:k≠5) (hk1:k≠1):InK k (a.tmod b):=by
 have h1:(a.tmod b).natAbs<=a.natAbs:=by rw [Int.natAbs_tmod];exact Nat.mod_le _ _
 have h2:0<=a->0<=a.tmod b:=λh=>Int.tmod_nonneg _ h;have h3:¬(a<0/\0<a.tmod b):=λ⟨p,q⟩=>by have:=Int.tmod_nonneg (a:= -a) b (by omega);rw [Int.neg_tmod]at this;omega
 rcases h with h|h|h|h|h;omega;exact .inr (.inl (by omega));exact .inr (.inr (.inl (by omega)));exact .inr (.inr (.inr (.inl (by omega))));omega
theorem y8_ {op k a b:Int} (h:OpK op k) (hk:k≠5) (ha:InK k a):InK (if 9<=op/\op<=12 then 1 else k) (bb_ op k a b):=by obtain ⟨h1,h2,h3,h4,h5,h6,h7⟩:=h;have hw:∀i,InK k (s_ k (w64 i)):=λi=>ww_ h3 (by omega) (wO_ i).1 (wO_ i).2;unfold bb_;by_cases c4:op=4;subst c4;simp only [if_true,if_false,show ¬((9:Int)<=4/\(4:Int)<=12) by omega];exact hw _;rw [if_neg c4];by_cases c5:op=5;subst c5;simp only [if_true,if_false,show ¬((9:Int)<=5/\(5:Int)<=12) by omega];exact hw _;rw [if_neg c5];by_cases c6:op=6;subst c6;simp only [if_true,if_false,show ¬((9:Int)<=6/\(6:Int)<=12) by omega];exact hw _;rw [if_neg c6];by_cases c7:op=7;subst c7;simp only [if_true,if_false,show ¬((9:Int)<=7/\(7:Int)<=12) by omega];exact hw _;rw [if_neg c7];by_cases c8:op=8;subst c8;simp only [if_true,if_false,show ¬((9:Int)<=8/\(8:Int)<=12) by omega];have:=xZ_ (b:=b) ha hk (h5 (by omega));rw [wv_ this hk];exact this;rw [if_neg c8];by_cases c9:op=9;subst c9;simp only [if_true,show ((9:Int)<=9/\(9:Int)<=12) by omega];exact vW_ _;rw [if_neg c9];by_cases c10:op=10;subst c10;simp only [if_true,show ((9:Int)<=10/\(10:Int)<=12) by omega];exact vW_ _;rw [if_neg c10];by_cases c11:op=11;subst c11;simp only [if_true,show ((9:Int)<=11/\(11:Int)<=12) by omega];exact vW_ _;rw [if_neg c11];by_cases c12:op=12;subst c12;simp only [if_true,show ((9:Int)<=12/\(12:Int)<=12) by omega];exact vW_ _;rw [if_neg c12,if_neg (show ¬(9<=op/\op<=12) by omega)];by_cases c13:op=13;rw [if_pos c13,h7 (by omega)];exact vW_ _;rw [if_neg c13];by_cases c14:op=14;rw [if_pos c14,h7 (by omega)];exact vW_ _;rw [if_neg c14];by_cases c15:op=15;rw [if_pos c15,h7 (by omega)];exact vW_ _;rw [if_neg c15];exact hw _
theorem zs_ (a:Int):a.tdiv (-1)= -a:=by rw [Int.tdiv_neg,Int.tdiv_one]
theorem zu_ (a:Int):a.tmod (-1)=0:=by rw [Int.tmod_neg,Int.tmod_one]
theorem zr_ {k a b:Int} (h:InK k a) (hk:k≠5) (hk1:k≠1) (hb:b≠ -1):InK k (a.tdiv b):=by
 have h1:(a.tdiv b).natAbs<=a.natAbs:=by rw [Int.natAbs_tdiv];exact Nat.div_le_self _ _
 have key:a.tdiv b= -a->0<=a\/a.tdiv b=a:=λe=>by
  by_cases ha:0<=a;exact .inl ha
  .exfalso;have h2:(a.tdiv b).natAbs=a.natAbs:=(by rw [e,Int.natAbs_neg]);rw [Int.natAbs_tdiv]at h2;have h3:b.natAbs=1:=by have h4:0<a.natAbs:=(by omega);rcases Nat.lt_trichotomy b.natAbs 1 with h5|h5|h5;have:b.natAbs=0:=(by omega);rw [this]at h2;have:a.natAbs.div 0=0:=Nat.div_zero _;omega;exact h5;have:a.natAbs.div b.natAbs<a.natAbs:=Nat.div_lt_self h4 h5;omega
   have h6:b=1:=(by omega);rw [h6,Int.tdiv_one]at e;omega
 rcases h with h|h|h|h|h;omega;refine .inr (.inl ⟨h.1,?_⟩);have:a.tdiv b≠ -a\/0<=a\/a.tdiv b=a:=(by by_cases e:a.tdiv b= -a;exact .inr (key e);exact .inl e);omega;refine .inr (.inr (.inl ⟨h.1,?_⟩));have:a.tdiv b≠ -a\/0<=a\/a.tdiv b=a:=(by by_cases e:a.tdiv b= -a;exact .inr (key e);exact .inl e);omega;refine .inr (.inr (.inr (.inl ⟨h.1,?_⟩)));have:a.tdiv b≠ -a\/0<=a\/a.tdiv b=a:=(by by_cases e:a.tdiv b= -a;exact .inr (key e);exact .inl e);omega;omega
def AS_ (op:Int) (o:Option Ordering):Bool:=if op=9 then o==some .eq else if op=10 then o !=some .eq else if op=11 then o==some .lt else o==some .lt||o==some .eq
def wn_ (op:Int) (a b:Option Nat):FV:=
 if op=4 then ⟨5,0,gJ_ FloatKind.f64.format.add a b⟩else if op=5 then ⟨5,0,gJ_ FloatKind.f64.format.sub a b⟩else if op=6 then ⟨5,0,gJ_ FloatKind.f64.format.mul a b⟩else if op=7 then ⟨5,0,gJ_ FloatKind.f64.format.div a b⟩
 else if op=16 then ⟨5,0,a.map (Op.negFloat .f64)⟩else ⟨1,tI (AS_ op (ordF a b)),some 0⟩
def opV (op k:Int) (a b:FV):FV:=if k=5 then wn_ op a.f b.f else ⟨if 9<=op/\op<=12 then 1 else k,bb_ op k a.i b.i,some 0⟩
def opE (op k:Int) (b:FV):Int:=if k=5 then 0 else aY_ op b.i
theorem yL_ (op:Int) (a b:Option Nat):TV (wn_ op a b):=by
 have r:∀f,TV ⟨5,0,f⟩:=λf=>⟨.inr (.inr (.inr (.inr ⟨rfl,rfl⟩))),λh=>absurd rfl h⟩;unfold wn_;split;· exact r _
 split;· exact r _
 split;· exact r _
 split;· exact r _
 split;· exact r _
 exact ⟨vW_ _,λ_=>rfl⟩
theorem z6_ {op k:Int} {a b:FV} (h:OpK op k) (ha:TV a) (hk:a.k=k):TV (opV op k a b):=by unfold opV;split;exact yL_ ..;rename_i h5;exact ⟨y8_ h h5 (hk▸ha.1),λ_=>rfl⟩
theorem AQ_ {op k:Int} {a b:FV} (h:OpK op k):(opV op k a b).k=if (9<=op/\op<=12)then 1 else k:=by
 obtain ⟨h1,h2,h3,h4,h5,h6,h7⟩:=h;unfold opV;split
 .rename_i e;unfold wn_;split;· rw [if_neg (by omega),e]
  split;· rw [if_neg (by omega),e]
  split;· rw [if_neg (by omega),e]
  split;· rw [if_neg (by omega),e]
  split;· rw [if_neg (by omega),e]
  rw [if_pos (by omega)]
 rfl
def hiK (k:Int):Nat:=if k=2 then 4674736413210574848 else if k=3 then 4746794007248502784 else 4890909195324358656
def loK (k:Int):Nat:=if k=2 then 13898108450065350656 else if k=3 then 13970166044103278592 else 14114281232179134464
def u_ (k:Int) (f:Option Nat):Option Int:=
 if n7_ f=true then none else if ordF (ui_ f) (some (loK k))=some .lt then none else if ordF (ui_ f) (some (hiK k))=some .lt then si_ (ui_ f)else none
theorem wL_ {k:Int} {f:Option Nat} {n:Int} (hk:2<=k/\k<=4) (h:u_ k f=some n):InK k n:=by
 unfold u_ at h;split at h;· cases h
 split at h;· cases h
 rename_i h1;split at h;rename_i h2;rcases (by omega:k=2\/k=3\/k=4)with rfl|rfl|rfl;obtain ⟨m,e,a,b⟩:=tk_ (k:=15) (j:= -37) rfl (by kernel_rfl) (by kernel_rfl) h1 h2;rw [h]at e;cases e;exact .inr (.inl ⟨rfl,by omega,by omega⟩);obtain ⟨m,e,a,b⟩:=tk_ (k:=31) (j:= -21) rfl (by kernel_rfl) (by kernel_rfl) h1 h2;rw [h]at e;cases e;exact .inr (.inr (.inl ⟨rfl,by omega,by omega⟩));obtain ⟨m,e,a,b⟩:=tk_ (k:=63) (j:=11) rfl (by kernel_rfl) (by kernel_rfl) h1 h2;rw [h]at e;cases e;exact .inr (.inr (.inr (.inl ⟨rfl,by omega,by omega⟩)));cases h
def w_ (kd:Int) (v:FV):Except Int FV:=
 if kd=5 then (if v.k=5 then .ok v else .ok ⟨5,0,some (FloatKind.f64.nearest v.i)⟩)
 else if v.k=5 then (match u_ kd v.f with|some n=>.ok ⟨kd,n,some 0⟩|none=>.error 7)
 else .ok ⟨kd,s_ kd v.i,some 0⟩
theorem ym_ {kd:Int} {v w:FV} (hk:2<=kd/\kd<=5) (hv:TV v) (h:w_ kd v=.ok w):TV w/\w.k=kd:=by unfold w_ at h;split at h;rename_i e;split at h;rename_i e';cases h;exact ⟨hv,by omega⟩;cases h;exact ⟨⟨.inr (.inr (.inr (.inr ⟨rfl,rfl⟩))),λh=>absurd rfl h⟩,e.symm⟩;split at h;split at h;rename_i n hn;cases h;exact ⟨⟨wL_ (k:=kd) (by omega) hn,λ_=>rfl⟩,rfl⟩;cases h;cases h;have:=hv.1.i64;exact ⟨⟨ww_ (k:=kd) (by omega) (by omega) this.1 this.2,λ_=>rfl⟩,rfl⟩
end Go.Proofs.YtjconanknjgpnaaGreat.vars
set_option maxRecDepth 100000
set_option linter.unusedVariables false
set_option linter.unusedSimpArgs false
namespace Go.Proofs.YtjconanknjgpnaaGreat.vars
open Go Go.Sx
def Ce_:VC:=⟨⟨[],[]⟩,[],[],0,true,[]⟩
def Bl_:VT:=.ite 64 (.done (J 1))<|.done (J 0)
def Cf_:VC:=⟨⟨[],[]⟩,[],[],0,true,[]⟩
def Bm_:VT:=Iq 64 9 67 (Li Qq [65,66] 68<|.done (.tup [.bool true,68]))<|Iq 64 10 68 (Li U0 [65,66] 69<|.done (.tup [.bool true,69]))<|Iq 64 11 69 (Li U7 [65,66] 70<|.done (.tup [.bool true,70]))<|Iq 64 12 70 (Li Zr [65,66] 71<|.done (.tup [.bool true,71]))<|.done (.tup [.bool false,.bool false])
def Ch_:VC:=⟨⟨[],[]⟩,[(160,[none])],[],0,true,[]⟩
def Bo_:VT:=Iq 64 13 67 (It Q8 [65,J 0] 68 (Li Q8 [66,J 0] 69<|.call 160 [69] 70 [none]<|.done (70))<|.call 160 [.bool false] 69 [none]<|.done (69))<|Iq 64 14 68 (It Q8 [65,J 0] 69 (.call 160 [.bool true] 70 [none]<|.done (70))<|Li Q8 [66,J 0] 70<|.call 160 [70] 71 [none]<|.done (71))<|Iq 64 15 69 (Li Qt [65,J 0] 70<|.call 160 [70] 71 [none]<|.done (71))<|.done (J 0)
def B6_:VC:=⟨⟨[],[]⟩,[(160,[none])],[],0,true,[]⟩
def Bd_:VT:=Iq 64 1 66 (Li Q8 [65,J 0] 67<|.call 160 [67] 68 [none]<|.done (68))<|Iq 64 2 67 (Li (.conv 2 206) [65] 68<|Li (.conv 206 2) [68] 69<|.done (69))<|Iq 64 3 68 (Li (.conv 2 21) [65] 69<|Li (.conv 21 2) [69] 70<|.done (70))<|Iq 64 4 69 (.done (65))<|.done (J 0)
def Cg_:VC:=⟨⟨[],[]⟩,[],[],0,true,[]⟩
def Bn_:VT:=Dn [64]
def Cl_:VC:=⟨⟨[],[]⟩,[],[],0,true,[(163,ft163)]⟩
def Bs_:VT:=It Qt [66,J 0] 67 (Cf 163 ft163 [J 5] 68 1<|.done (.tup [J 1,69]))<|Iq 64 8 68 (Li Zk [65,66] 69<|Dn [69])<|Li U1 [65,66] 69<|Dn [69]
def Ci_:VC:=⟨⟨[],[]⟩,[],[],0,true,[(163,ft163),(179,xD_)]⟩
def Bp_:VT:=Iq 64 4 67 (Li Zs [65,66] 68<|Dn [68])<|Iq 64 5 68 (Li Zf [65,66] 69<|Dn [69])<|Iq 64 6 69 (Li U8 [65,66] 70<|Dn [70])<|Iq 64 16 70 (Li Zb [65] 71<|Dn [71])<|Iq 64 7 71 (.callF 179 xD_ [64,65,66] 72 (.cons 1 (Dn [75]) (.cons 1 (.done (.tup [J 1,75])) .nil)))<|Iq 64 8 72 (.callF 179 xD_ [64,65,66] 73 (.cons 1 (Dn [76]) (.cons 1 (.done (.tup [J 1,76])) .nil)))<|Cf 163 ft163 [J 4] 73 1<|.done (.tup [J 1,74])
def zQ_:VC:=⟨⟨[],[]⟩,[(162,[none,none]),(164,[none]),(160,[none]),(123,[none])],[],0,true,[(163,ft163),(165,ft165)]⟩
def yU_:VT:=.call 162 [64,65,66] 67 [none,none]<|Iq 64 13 69 (.call 164 [64,65,66] 70 [none]<|.done (.tup [70,J 0]))<|Iq 64 14 70 (.call 164 [64,65,66] 71 [none]<|.done (.tup [71,J 0]))<|Iq 64 15 71 (.call 164 [64,65,66] 72 [none]<|.done (.tup [72,J 0]))<|It Q6 [64,J 9] 72 (It Q6 [64,J 10] 73 (Cf 163 ft163 [J 4] 74 1<|Dn [75])<|.ite 67 (.call 160 [68] 74 [none]<|.done (.tup [74,J 0]))<|.callF 165 ft165 [64,65,66] 74 (.cons 1 (.call 123 [J 1,77] 78 [none]<|.done (.tup [78,J 0])) (.cons 1 (Dn [77]) .nil)))<|.ite 67 (.call 160 [68] 73 [none]<|.done (.tup [73,J 0]))<|.callF 165 ft165 [64,65,66] 73 (.cons 1 (.call 123 [J 1,76] 77 [none]<|.done (.tup [77,J 0])) (.cons 1 (Dn [76]) .nil))
def zR_:VC:=⟨⟨[],[]⟩,[(162,[none,none]),(164,[none]),(160,[none]),(123,[none])],[],0,true,[(163,ft163),(165,ft165)]⟩
def yV_:VT:=.call 162 [64,65,66] 67 [none,none]<|.ite 67 (.call 160 [68] 69 [none]<|.done (.tup [69,J 0]))<|.callF 165 ft165 [64,65,66] 69 (.cons 1 (.call 123 [J 2,72] 73 [none]<|.done (.tup [73,J 0])) (.cons 1 (Dn [72]) .nil))
def zS_:VC:=⟨⟨[],[]⟩,[(162,[none,none]),(164,[none]),(160,[none]),(123,[none])],[],0,true,[(163,ft163),(165,ft165)]⟩
def yW_:VT:=.call 162 [64,65,66] 67 [none,none]<|.ite 67 (.call 160 [68] 69 [none]<|.done (.tup [69,J 0]))<|.callF 165 ft165 [64,65,66] 69 (.cons 1 (.call 123 [J 3,72] 73 [none]<|.done (.tup [73,J 0])) (.cons 1 (Dn [72]) .nil))
def zT_:VC:=⟨⟨[],[]⟩,[(162,[none,none]),(164,[none]),(160,[none]),(123,[none])],[],0,true,[(163,ft163),(165,ft165)]⟩
def yX_:VT:=.call 162 [64,65,66] 67 [none,none]<|.ite 67 (.call 160 [68] 69 [none]<|.done (.tup [69,J 0]))<|.callF 165 ft165 [64,65,66] 69 (.cons 1 (.call 123 [J 4,72] 73 [none]<|.done (.tup [73,J 0])) (.cons 1 (Dn [72]) .nil))
theorem wl_ (b:Bool):jz_ Tryz.prog 160 [.bool b] (.int .i64 (tI b)):=by refine t7_ (sh:=[none]) (ls:=[.bool b]) (c:=Ce_) (n:=300) (t:=Bl_) mo ov rfl rfl rfl (λY _=>vD_ _) rfl (by kernel_rfl) λY hf hg=>?_;unfold Bl_;cases b;exact vd_ (t:=false) rfl (λh=>by cases h) (λh=>uI_ rfl);exact vd_ (t:=true) rfl (λh=>uI_ rfl) (λh=>by cases h)
def x1_ (op a b:Int):Bool:=if op=9 then decide (a=b)else if op=10 then decide (¬a=b)else if op=11 then decide (a<b)else if op=12 then decide (a<=b)else false
theorem zl_ (op a b:Int):jz_ Tryz.prog 162 [.int .i64 op,.int .i64 a,.int .i64 b] (.tup [.bool (decide (9<=op/\op<=12)),.bool (x1_ op a b)]):=by
 refine t7_ (sh:=[none,none,none]) (ls:=[.int .i64 op,.int .i64 a,.int .i64 b]) (c:=Cf_) (n:=300) (t:=Bm_) mo ov rfl rfl rfl (λY _=>vD_ _) rfl (by kernel_rfl) λY hf hg=>?_;unfold Bm_
 (refine a_ rfl rfl ?_ ?_<;>intro h<;>simp only [nc]at h<;>try omega)
 subst h;exact vw_ (run_eql ..) rfl (uI_ (by rfl))
 (refine a_ rfl rfl ?_ ?_<;>intro h<;>simp only [nc]at h<;>try omega)
 subst h;exact vw_ (run_neq ..) rfl (uI_ (by rw [show x1_ 10 a b=decide (¬a=b) from rfl];simp;rfl))
 (refine a_ rfl rfl ?_ ?_<;>intro h<;>simp only [nc]at h<;>try omega)
 subst h;exact vw_ (run_lss ..) rfl (uI_ (by rfl))
 (refine a_ rfl rfl ?_ ?_<;>intro h<;>simp only [nc]at h<;>try omega)
 subst h;exact vw_ (run_leq ..) rfl (uI_ (by rfl));refine uI_ ?_;have e1:decide (9<=op/\op<=12)=false:=decide_eq_false (by omega);have e2:x1_ op a b=false:=by unfold x1_;simp only [*,if_false]
 rw [e1,e2];rfl
theorem z8_ (op a b:Int) (ho:13<=op/\op<=15):jz_ Tryz.prog 164 [.int .i64 op,.int .i64 a,.int .i64 b] (.int .i64 (bb_ op 1 a b)):=by
 refine t7_ (sh:=[none,none,none]) (ls:=[.int .i64 op,.int .i64 a,.int .i64 b]) (c:=Ch_) (n:=300) (t:=Bo_) mo ov rfl rfl rfl (λY _=>vD_ _) rfl (by kernel_rfl) λY hf hg=>?_;unfold Bo_
 (refine a_ rfl rfl ?_ ?_<;>intro h<;>simp only [nc]at h<;>try omega)
 .subst h;have e:bb_ 13 1 a b=tI (decide (¬a=0)&&decide (¬b=0)):=rfl;rw [e]
  (refine a_ rfl rfl ?_ ?_<;>intro h<;>simp only [nc]at h<;>try omega)
  .refine vw_ (run_neq ..) rfl (uH_ (wl_ _) rfl rfl (uI_ ?_));rw [decide_eq_true h,Bool.true_and];by_cases hb:b=0<;>simp [hb]<;>rfl
  rw [decide_eq_false (by omega),Bool.false_and];exact uH_ (wl_ false) rfl rfl (uI_ rfl)
 (refine a_ rfl rfl ?_ ?_<;>intro h<;>simp only [nc]at h<;>try omega)
 .subst h;have e:bb_ 14 1 a b=tI (decide (¬a=0)||decide (¬b=0)):=rfl;rw [e]
  (refine a_ rfl rfl ?_ ?_<;>intro h<;>simp only [nc]at h<;>try omega)
  rw [decide_eq_true h,Bool.true_or];exact uH_ (wl_ true) rfl rfl (uI_ rfl)
  .refine vw_ (run_neq ..) rfl (uH_ (wl_ _) rfl rfl (uI_ ?_));rw [decide_eq_false (p:=¬a=0) (by omega),Bool.false_or];by_cases hb:b=0<;>simp [hb]<;>rfl
 (refine a_ rfl rfl ?_ ?_<;>intro h<;>simp only [nc]at h<;>try omega)
 subst h;exact vw_ (run_eql ..) rfl (uH_ (wl_ _) rfl rfl (uI_ rfl))
theorem Cw_ (i:Int):(XOp.conv 2 206).run Tryz.prog [.int .i64 i]=some (.int .i16 (IntKind.i16.wrap i)):=tG_ Tryz.underlying2 Tryz.underlying206 i
theorem Ay_ (i:Int):(XOp.conv 206 2).run Tryz.prog [.int .i16 (IntKind.i16.wrap i)]=some (.int .i64 (IntKind.i16.wrap i)):=by have:=wM_ i;rw [tG_ Tryz.underlying206 Tryz.underlying2,vL_ (by omega) (by omega)]
theorem Cx_ (i:Int):(XOp.conv 2 21).run Tryz.prog [.int .i64 i]=some (.int .i32 (IntKind.i32.wrap i)):=tG_ Tryz.underlying2 Tryz.underlying21 i
theorem AA_ (i:Int):(XOp.conv 21 2).run Tryz.prog [.int .i32 (IntKind.i32.wrap i)]=some (.int .i64 (IntKind.i32.wrap i)):=by have:=wN_ i;rw [tG_ Tryz.underlying21 Tryz.underlying2,vL_ (by omega) (by omega)]
theorem zk_ (k i:Int):jz_ Tryz.prog 123 [.int .i64 k,.int .i64 i] (.int .i64 (s_ k i)):=by
 refine t7_ (sh:=[none,none]) (ls:=[.int .i64 k,.int .i64 i]) (c:=B6_) (n:=300) (t:=Bd_) mo ov rfl rfl rfl (λY _=>vD_ _) rfl (by kernel_rfl) λY hf hg=>?_;unfold Bd_
 (refine a_ rfl rfl ?_ ?_<;>intro h<;>simp only [nc]at h<;>try omega)
 .subst h;refine vw_ (run_neq ..) rfl (uH_ (wl_ _) rfl rfl (uI_ ?_));by_cases hi:i=0<;>simp [hi,s_,tI]<;>rfl
 (refine a_ rfl rfl ?_ ?_<;>intro h<;>simp only [nc]at h<;>try omega)
 subst h;exact vw_ (Cw_ i) rfl (vw_ (Ay_ i) rfl (uI_ rfl))
 (refine a_ rfl rfl ?_ ?_<;>intro h<;>simp only [nc]at h<;>try omega)
 subst h;exact vw_ (Cx_ i) rfl (vw_ (AA_ i) rfl (uI_ rfl))
 (refine a_ rfl rfl ?_ ?_<;>intro h<;>simp only [nc]at h<;>try omega)
 subst h;exact uI_ rfl;refine uI_ ?_;have:s_ k i=0:=(by unfold s_;simp only [*,if_false]);rw [this];rfl
def RF (e:Int):Nat->List AV->Prop:=λj ws=>j=0/\ws=[.int .i64 e]
theorem CN_ (e:Int):CF Tryz.prog 163 ft163 [.int .i64 e] (RF e):=by refine vg_ (c:=Cg_) (n:=300) (t:=Bn_) mo ov rfl (λY _=>vD_ _) (by kernel_rfl) λY hf hg=>?_;unfold Bn_;exact VOK_fin rfl ⟨rfl,rfl⟩
def ofV (op a b:Int):Int:=if op=4 then w64 (a+b)else if op=5 then w64 (a-b)else if op=6 then w64 (a*b)else if op=16 then w64 (0-a)else if op=7 then w64 (a.tdiv b)else a.tmod b
theorem uW_ {op k a b:Int} (h:(4<=op/\op<=8)\/op=16):bb_ op k a b=s_ k (ofV op a b):=by rcases (by omega:op=4\/op=5\/op=6\/op=7\/op=8\/op=16)with rfl|rfl|rfl|rfl|rfl|rfl<;>rfl
def RO (op a b:Int):Nat->List AV->Prop:=λj ws=>(j=0/\aY_ op b=0/\ws=[.int .i64 (ofV op a b)])\/(j=1/\aY_ op b=5/\ws=[.int .i64 5])
theorem AZ_ (op a b:Int) (ho:op=7\/op=8):CF Tryz.prog 179 xD_ [.int .i64 op,.int .i64 a,.int .i64 b] (RO op a b):=by
 refine vg_ (c:=Cl_) (n:=300) (t:=Bs_) mo ov rfl (λY _=>vD_ _) (by kernel_rfl) λY hf hg=>?_;unfold Bs_
 (refine a_ rfl rfl ?_ ?_<;>intro h<;>simp only [nc]at h<;>try omega)
 subst h;refine uv_ (CN_ 5) rfl ⟨?_,trivial⟩;rintro ws ⟨_,rfl⟩;refine VOK_fin rfl (.inr ⟨rfl,?_,rfl⟩);unfold aY_;rw [if_pos ⟨ho,rfl⟩];have hb:aY_ op b=0:=by unfold aY_;rw [if_neg (by omega)]
 (refine a_ rfl rfl ?_ ?_<;>intro h<;>simp only [nc]at h<;>try omega)
 subst h;exact vw_ (u4_ (by omega) ..) rfl (VOK_fin rfl (.inl ⟨rfl,hb,rfl⟩));obtain rfl:op=7:=(by omega);exact vw_ (vs_ (by omega) ..) rfl (VOK_fin rfl (.inl ⟨rfl,hb,rfl⟩))
theorem z9_ (op a b:Int) (ho:(4<=op/\op<=8)\/op=16):CF Tryz.prog 165 ft165 [.int .i64 op,.int .i64 a,.int .i64 b] (RO op a b):=by
 refine vg_ (c:=Ci_) (n:=300) (t:=Bp_) mo ov rfl (λY _=>vD_ _) (by kernel_rfl) λY hf hg=>?_;unfold Bp_
 (refine a_ rfl rfl ?_ ?_<;>intro h<;>simp only [nc]at h<;>try omega)
 subst h;exact vw_ (run_add ..) rfl (VOK_fin rfl (.inl ⟨rfl,rfl,rfl⟩))
 (refine a_ rfl rfl ?_ ?_<;>intro h<;>simp only [nc]at h<;>try omega)
 subst h;exact vw_ (run_sub ..) rfl (VOK_fin rfl (.inl ⟨rfl,rfl,rfl⟩))
 (refine a_ rfl rfl ?_ ?_<;>intro h<;>simp only [nc]at h<;>try omega)
 subst h;exact vw_ (run_mul ..) rfl (VOK_fin rfl (.inl ⟨rfl,rfl,rfl⟩))
 (refine a_ rfl rfl ?_ ?_<;>intro h<;>simp only [nc]at h<;>try omega)
 subst h;exact vw_ (vp_ ..) rfl (VOK_fin rfl (.inl ⟨rfl,rfl,rfl⟩))
 (refine a_ rfl rfl ?_ ?_<;>intro h<;>simp only [nc]at h<;>try omega)
 subst h;refine uv_ (AZ_ 7 a b (.inl rfl)) rfl ⟨?_,?_,trivial⟩;rintro ws (⟨_,h1,rfl⟩|⟨h0,_⟩);exact VOK_fin rfl (.inl ⟨rfl,h1,rfl⟩);cases h0;rintro ws (⟨h0,_⟩|⟨_,h1,rfl⟩);cases h0;exact VOK_fin rfl (.inr ⟨rfl,h1,rfl⟩)
 (refine a_ rfl rfl ?_ ?_<;>intro h<;>simp only [nc]at h<;>try omega)
 subst h;refine uv_ (AZ_ 8 a b (.inr rfl)) rfl ⟨?_,?_,trivial⟩;rintro ws (⟨_,h1,rfl⟩|⟨h0,_⟩);exact VOK_fin rfl (.inl ⟨rfl,h1,rfl⟩);cases h0;rintro ws (⟨h0,_⟩|⟨_,h1,rfl⟩);cases h0;exact VOK_fin rfl (.inr ⟨rfl,h1,rfl⟩)
def x_ (op k a b:Int):Int:=if aY_ op b=0 then bb_ op k a b else 0
theorem by_ {op k a b:Int} (h:9<=op/\op<=12):bb_ op k a b=tI (x1_ op a b):=by rcases (by omega:op=9\/op=10\/op=11\/op=12)with rfl|rfl|rfl|rfl<;>rfl
theorem M_ {op b:Int} (h:op≠7/\op≠8):aY_ op b=0:=by unfold aY_;rw [if_neg (by omega)]
theorem CJ_ (op k a b:Int) (ho:OpK op k) (hk:k≠5):jz_ Tryz.prog 126 [.int .i64 op,.int .i64 k,.int .i64 a,.int .i64 b] (.tup [.int .i64 (x_ op k a b),.int .i64 (aY_ op b)]):=by
 obtain ⟨h1,h2,h3,h4,h5,h6,h7⟩:=ho;rcases (by omega:k=1\/k=2\/k=3\/k=4)with hk|hk|hk|hk
 ·(refine uY_ (args':=[.sym 64,.int .i64 k,.sym 65,.sym 66]) (ls:=[.int .i64 op,.int .i64 a,.int .i64 b]) (c:=zQ_) (n:=300) (t:=yU_) mo ov rfl rfl rfl rfl (λY _=>rfl) (λY _=>vD_ _) rfl (by subst hk;kernel_rfl) λY hf hg=>?_)
  unfold yU_;refine uH_ (zl_ op a b) rfl rfl ?_
  (refine a_ rfl rfl ?_ ?_<;>intro h<;>simp only [nc]at h<;>try omega)
  subst h;refine uH_ (z8_ 13 a b (by omega)) rfl rfl (uI_ ?_);rw [x_,if_pos (M_ (by omega)),M_ (by omega),hk];rfl
  (refine a_ rfl rfl ?_ ?_<;>intro h<;>simp only [nc]at h<;>try omega)
  subst h;refine uH_ (z8_ 14 a b (by omega)) rfl rfl (uI_ ?_);rw [x_,if_pos (M_ (by omega)),M_ (by omega),hk];rfl
  (refine a_ rfl rfl ?_ ?_<;>intro h<;>simp only [nc]at h<;>try omega)
  subst h;refine uH_ (z8_ 15 a b (by omega)) rfl rfl (uI_ ?_);rw [x_,if_pos (M_ (by omega)),M_ (by omega),hk];rfl
  (refine a_ rfl rfl ?_ ?_<;>intro h<;>simp only [nc]at h<;>try omega)
  ·(refine a_ rfl rfl ?_ ?_<;>intro h<;>simp only [nc]at h<;>try omega)
   refine wz_ rfl (λh=>?_) (λh=>?_)
   ·(
     refine uH_ (wl_ _) rfl rfl (uI_ ?_);rw [x_,if_pos (M_ (by omega)),M_ (by omega),by_ (by omega)];rfl)
   exfalso;omega
  .refine wz_ rfl (λh=>?_) (λh=>?_)
   ·(
     refine uH_ (wl_ _) rfl rfl (uI_ ?_);rw [x_,if_pos (M_ (by omega)),M_ (by omega),by_ (by omega)];rfl)
   exfalso;omega
 all_goals have hk1:k≠1:=by omega
 ·(refine uY_ (args':=[.sym 64,.int .i64 k,.sym 65,.sym 66]) (ls:=[.int .i64 op,.int .i64 a,.int .i64 b]) (c:=zR_) (n:=300) (t:=yV_) mo ov rfl rfl rfl rfl (λY _=>rfl) (λY _=>vD_ _) rfl (by subst hk;kernel_rfl) λY hf hg=>?_)
  unfold yV_;refine uH_ (zl_ op a b) rfl rfl (wz_ rfl (λh=>?_) (λh=>?_))
  ·(
    refine uH_ (wl_ _) rfl rfl (uI_ ?_);rw [x_,if_pos (M_ (by omega)),M_ (by omega),by_ (by omega)];rfl)
  ·(
    refine uv_ (z9_ op a b (by omega)) rfl ⟨?_,?_,trivial⟩;rintro ws (⟨_,h1,rfl⟩|⟨h0,_⟩);refine uH_ (zk_ _ _) rfl rfl (uI_ ?_);rw [x_,if_pos h1,h1,uW_ (by omega),hk];rfl;cases h0
    .rintro ws (⟨h0,_⟩|⟨_,h1,rfl⟩);cases h0
     .refine uI_ ?_;rw [x_,if_neg (by omega),h1];rfl)
 ·(refine uY_ (args':=[.sym 64,.int .i64 k,.sym 65,.sym 66]) (ls:=[.int .i64 op,.int .i64 a,.int .i64 b]) (c:=zS_) (n:=300) (t:=yW_) mo ov rfl rfl rfl rfl (λY _=>rfl) (λY _=>vD_ _) rfl (by subst hk;kernel_rfl) λY hf hg=>?_)
  unfold yW_;refine uH_ (zl_ op a b) rfl rfl (wz_ rfl (λh=>?_) (λh=>?_))
  ·(
    refine uH_ (wl_ _) rfl rfl (uI_ ?_);rw [x_,if_pos (M_ (by omega)),M_ (by omega),by_ (by omega)];rfl)
  ·(
    refine uv_ (z9_ op a b (by omega)) rfl ⟨?_,?_,trivial⟩;rintro ws (⟨_,h1,rfl⟩|⟨h0,_⟩);refine uH_ (zk_ _ _) rfl rfl (uI_ ?_);rw [x_,if_pos h1,h1,uW_ (by omega),hk];rfl;cases h0
    .rintro ws (⟨h0,_⟩|⟨_,h1,rfl⟩);cases h0
     .refine uI_ ?_;rw [x_,if_neg (by omega),h1];rfl)
 ·(refine uY_ (args':=[.sym 64,.int .i64 k,.sym 65,.sym 66]) (ls:=[.int .i64 op,.int .i64 a,.int .i64 b]) (c:=zT_) (n:=300) (t:=yX_) mo ov rfl rfl rfl rfl (λY _=>rfl) (λY _=>vD_ _) rfl (by subst hk;kernel_rfl) λY hf hg=>?_)
  unfold yX_;refine uH_ (zl_ op a b) rfl rfl (wz_ rfl (λh=>?_) (λh=>?_))
  ·(
    refine uH_ (wl_ _) rfl rfl (uI_ ?_);rw [x_,if_pos (M_ (by omega)),M_ (by omega),by_ (by omega)];rfl)
  ·(
    refine uv_ (z9_ op a b (by omega)) rfl ⟨?_,?_,trivial⟩;rintro ws (⟨_,h1,rfl⟩|⟨h0,_⟩);refine uH_ (zk_ _ _) rfl rfl (uI_ ?_);rw [x_,if_pos h1,h1,uW_ (by omega),hk];rfl;cases h0
    .rintro ws (⟨h0,_⟩|⟨_,h1,rfl⟩);cases h0
     .refine uI_ ?_;rw [x_,if_neg (by omega),h1];rfl)
end Go.Proofs.YtjconanknjgpnaaGreat.vars
set_option maxRecDepth 100000
set_option linter.unusedVariables false
set_option linter.unusedSimpArgs false
namespace Go.Proofs.YtjconanknjgpnaaGreat.vars
open Go Go.Sx
def c89:VC:=⟨⟨[],[]⟩,[],[],0,true,[]⟩
def t89:VT:=.ite 64 (.done (J 1))<|.done (J 0)
def c90:VC:=⟨⟨[],[]⟩,[],[],0,true,[]⟩
def t90:VT:=Iq 64 2 65 (.done (J 16))<|Iq 64 3 66 (.done (J 32))<|Iq 64 4 67 (.done (J 64))<|.done (J 0)
def At_:VC:=⟨⟨[],[]⟩,[(89,[none])],[],0,true,[]⟩
def zI_:VT:=Li Q8 [64,J 0] 65<|.call 89 [65] 66 [none]<|.done (66)
def Au_:VC:=⟨⟨[],[]⟩,[(89,[none])],[],0,true,[]⟩
def zJ_:VT:=Li Zk [64,J 65536] 65<|It Z2 [65,J 0] 66 (Li Zs [65,J 65536] 67<|It Qo [67,J 32768] 68 (Li Zf [67,J 65536] 69<|.done (69))<|.done (67))<|It Qo [65,J 32768] 67 (Li Zf [65,J 65536] 68<|.done (68))<|.done (65)
def Av_:VC:=⟨⟨[],[]⟩,[(89,[none])],[],0,true,[]⟩
def zK_:VT:=Li Zk [64,J 4294967296] 65<|It Z2 [65,J 0] 66 (Li Zs [65,J 4294967296] 67<|It Qo [67,J 2147483648] 68 (Li Zf [67,J 4294967296] 69<|.done (69))<|.done (67))<|It Qo [65,J 2147483648] 67 (Li Zf [65,J 4294967296] 68<|.done (68))<|.done (65)
def Aw_:VC:=⟨⟨[],[]⟩,[(89,[none])],[],0,true,[]⟩
def zL_:VT:=.done (64)
def Ax_:VC:=⟨⟨[],[]⟩,[(89,[none])],[],0,true,[]⟩
def zM_:VT:=.done (J 0)
def c87:VC:=⟨⟨[],[]⟩,[(55,[none]),(89,[none]),(90,[none])],[],0,true,[]⟩
def t87:VT:=Iq 65 1 68 (Iq 64 13 69 (It Q8 [66,J 0] 70 (Li Q8 [67,J 0] 71<|.call 89 [71] 72 [none]<|.done (.tup [72,J 0]))<|.call 89 [.bool false] 71 [none]<|.done (.tup [71,J 0]))<|Iq 64 14 70 (It Q8 [66,J 0] 71 (.call 89 [.bool true] 72 [none]<|.done (.tup [72,J 0]))<|Li Q8 [67,J 0] 72<|.call 89 [72] 73 [none]<|.done (.tup [73,J 0]))<|Iq 64 15 71 (Li Qt [66,J 0] 72<|.call 89 [72] 73 [none]<|.done (.tup [73,J 0]))<|Iq 64 9 72 (Li Qq [66,67] 73<|.call 89 [73] 74 [none]<|.done (.tup [74,J 0]))<|Iq 64 10 73 (Li U0 [66,67] 74<|.call 89 [74] 75 [none]<|.done (.tup [75,J 0]))<|Dn [J 4])<|.call 90 [65] 69 [none]<|Iq 69 0 70 (Dn [J 4])<|Iq 64 4 71 (Li Zs [66,67] 72<|.call 55 [65,72] 73 [none]<|.done (.tup [73,J 0]))<|Iq 64 5 72 (Li Zf [66,67] 73<|.call 55 [65,73] 74 [none]<|.done (.tup [74,J 0]))<|Iq 64 6 73 (Li U8 [66,67] 74<|.call 55 [65,74] 75 [none]<|.done (.tup [75,J 0]))<|Iq 64 16 74 (Li Zb [66] 75<|.call 55 [65,75] 76 [none]<|.done (.tup [76,J 0]))<|Iq 64 7 75 (It Qt [67,J 0] 76 (Dn [J 5])<|It Qt [67,.int .i64 (-1)] 77 (Iq 64 8 78 (Dn [J 0])<|Li Zb [66] 79<|.call 55 [65,79] 80 [none]<|.done (.tup [80,J 0]))<|Iq 64 8 78 (Li Zk [66,67] 79<|.done (.tup [79,J 0]))<|Li U1 [66,67] 79<|.done (.tup [79,J 0]))<|Iq 64 8 76 (It Qt [67,J 0] 77 (Dn [J 5])<|It Qt [67,.int .i64 (-1)] 78 (Iq 64 8 79 (Dn [J 0])<|Li Zb [66] 80<|.call 55 [65,80] 81 [none]<|.done (.tup [81,J 0]))<|Iq 64 8 79 (Li Zk [66,67] 80<|.done (.tup [80,J 0]))<|Li U1 [66,67] 80<|.done (.tup [80,J 0]))<|Iq 64 9 77 (Li Qq [66,67] 78<|.call 89 [78] 79 [none]<|.done (.tup [79,J 0]))<|Iq 64 10 78 (Li U0 [66,67] 79<|.call 89 [79] 80 [none]<|.done (.tup [80,J 0]))<|Iq 64 11 79 (Li U7 [66,67] 80<|.call 89 [80] 81 [none]<|.done (.tup [81,J 0]))<|Iq 64 12 80 (Li Zr [66,67] 81<|.call 89 [81] 82 [none]<|.done (.tup [82,J 0]))<|Dn [J 4]
theorem p89 (b:Bool):jz_ Tryz.prog 89 [.bool b] (.int .i64 (tI b)):=by refine t7_ (sh:=[none]) (ls:=[.bool b]) (c:=c89) (n:=300) (t:=t89) mo ov rfl rfl rfl (λY _=>vD_ _) rfl (by kernel_rfl) λY hf hg=>?_;unfold t89;cases b;exact vd_ (t:=false) rfl (λh=>by cases h) (λh=>uI_ rfl);exact vd_ (t:=true) rfl (λh=>uI_ rfl) (λh=>by cases h)
def w4_ (k:Int):Int:=if k=2 then 16 else if k=3 then 32 else if k=4 then 64 else 0
theorem p90 (k:Int):jz_ Tryz.prog 90 [.int .i64 k] (.int .i64 (w4_ k)):=by
 refine t7_ (sh:=[none]) (ls:=[.int .i64 k]) (c:=c90) (n:=300) (t:=t90) mo ov rfl rfl rfl (λY _=>vD_ _) rfl (by kernel_rfl) λY hf hg=>?_;unfold t90
 (refine a_ rfl rfl ?_ ?_<;>intro h<;>simp only [nc]at h<;>try omega)
 subst h;exact uI_ rfl
 (refine a_ rfl rfl ?_ ?_<;>intro h<;>simp only [nc]at h<;>try omega)
 subst h;exact uI_ rfl
 (refine a_ rfl rfl ?_ ?_<;>intro h<;>simp only [nc]at h<;>try omega)
 subst h;exact uI_ rfl;refine uI_ ?_;have:w4_ k=0:=by unfold w4_;simp only [*,if_false]
 rw [this];rfl
def v6_ (n x:Int):Int:=if x.tmod n<0 then (if n/2<=x.tmod n+n then x.tmod n+n-n else x.tmod n+n)else (if n/2<=x.tmod n then x.tmod n-n else x.tmod n)
theorem we_ (x n:Int) (hn:0<n): -n<x.tmod n/\x.tmod n<n:=by refine ⟨?_,Int.tmod_lt_of_pos x hn⟩;have:=Int.tmod_lt_of_pos (-x) hn;rw [Int.neg_tmod]at this;omega
theorem xY_ (x n:Int) (hn:0<n):x.tmod n=x%n\/(x.tmod n=x%n-n/\x%n≠0):=by rw [Int.tmod_eq_emod];split;left;omega;rename_i h;right;have h2:¬n ∣ x:=λhd=>h (.inr hd);have:x%n≠0:=λe=>h2 (Int.dvd_of_emod_eq_zero e);omega
theorem zw_ (x:Int):v6_ 65536 x=IntKind.i16.wrap x:=by have h:=xY_ x 65536 (by omega);have hb:=we_ x 65536 (by omega);simp only [IntKind.wrap,IntKind.bits,IntKind.signed,v6_];simp;generalize x.tmod 65536=r at*;omega
theorem zx_ (x:Int):v6_ 4294967296 x=IntKind.i32.wrap x:=by have h:=xY_ x 4294967296 (by omega);have hb:=we_ x 4294967296 (by omega);simp only [IntKind.wrap,IntKind.bits,IntKind.signed,v6_];simp;generalize x.tmod 4294967296=r at*;omega
theorem A1_ (x:Int):jz_ Tryz.prog 55 [.int .i64 1,.int .i64 x] (.int .i64 (s_ 1 x)):=by refine uY_ (args':=[.int .i64 1,.sym 64]) (ls:=[.int .i64 x]) (c:=At_) (n:=300) (t:=zI_) mo ov rfl rfl rfl rfl (λY _=>rfl) (λY _=>vD_ _) rfl (by kernel_rfl) λY hf hg=>?_;unfold zI_;refine vw_ (run_neq ..) rfl (uH_ (p89 _) rfl rfl (uI_ ?_));by_cases hi:x=0<;>simp [hi,s_,tI]<;>rfl
theorem A4_ (x:Int):jz_ Tryz.prog 55 [.int .i64 4,.int .i64 x] (.int .i64 x):=by refine uY_ (args':=[.int .i64 4,.sym 64]) (ls:=[.int .i64 x]) (c:=Aw_) (n:=300) (t:=zL_) mo ov rfl rfl rfl rfl (λY _=>rfl) (λY _=>vD_ _) rfl (by kernel_rfl) λY hf hg=>?_;unfold zL_;exact uI_ rfl
theorem A5_ (x:Int):jz_ Tryz.prog 55 [.int .i64 5,.int .i64 x] (.int .i64 0):=by refine uY_ (args':=[.int .i64 5,.sym 64]) (ls:=[.int .i64 x]) (c:=Ax_) (n:=300) (t:=zM_) mo ov rfl rfl rfl rfl (λY _=>rfl) (λY _=>vD_ _) rfl (by kernel_rfl) λY hf hg=>?_;unfold zM_;exact uI_ rfl
theorem A2_ (x:Int):jz_ Tryz.prog 55 [.int .i64 2,.int .i64 x] (.int .i64 (v6_ 65536 x)):=by
 have hb:=we_ x 65536 (by omega);refine uY_ (args':=[.int .i64 2,.sym 64]) (ls:=[.int .i64 x]) (c:=Au_) (n:=300) (t:=zJ_) mo ov rfl rfl rfl rfl (λY _=>rfl) (λY _=>vD_ _) rfl (by kernel_rfl) λY hf hg=>?_;unfold zJ_;have hr:=u4_ (P:=Tryz.prog) (k:=.i64) (x:=x) (c:=65536) (by omega) 2 false false;unfold v6_;generalize x.tmod 65536=r at*;refine vw_ hr rfl ?_;repeat' (first
  |refine vw_ (run_lss ..) rfl ?_
  |refine vw_ (run_geq ..) rfl ?_
  |refine vw_ (run_add ..) rfl ?_
  |refine vw_ (run_sub ..) rfl ?_
  |refine vd_ rfl (λh=>?_) (λh=>?_)
  |refine uI_ ?_)
 all_goals (simp only [decide_eq_true_eq,decide_eq_false_iff_not]at *)
 all_goals (try rw [vL_ (x:=r+65536) (by omega) (by omega)]at *)
 all_goals
  (show AV.int .i64 _=AV.int .i64 _
   congr 1
   repeat' split
   all_goals first
    |(exfalso;omega)
    |rfl
    |(rw [vL_ (x:=r+65536-65536) (by omega) (by omega)])
    |(rw [vL_ (x:=r-65536) (by omega) (by omega)])
    |omega)
theorem A3_ (x:Int):jz_ Tryz.prog 55 [.int .i64 3,.int .i64 x] (.int .i64 (v6_ 4294967296 x)):=by
 have hb:=we_ x 4294967296 (by omega);refine uY_ (args':=[.int .i64 3,.sym 64]) (ls:=[.int .i64 x]) (c:=Av_) (n:=300) (t:=zK_) mo ov rfl rfl rfl rfl (λY _=>rfl) (λY _=>vD_ _) rfl (by kernel_rfl) λY hf hg=>?_;unfold zK_;have hr:=u4_ (P:=Tryz.prog) (k:=.i64) (x:=x) (c:=4294967296) (by omega) 2 false false;unfold v6_;generalize x.tmod 4294967296=r at*;refine vw_ hr rfl ?_;repeat' (first
  |refine vw_ (run_lss ..) rfl ?_
  |refine vw_ (run_geq ..) rfl ?_
  |refine vw_ (run_add ..) rfl ?_
  |refine vw_ (run_sub ..) rfl ?_
  |refine vd_ rfl (λh=>?_) (λh=>?_)
  |refine uI_ ?_)
 all_goals (simp only [decide_eq_true_eq,decide_eq_false_iff_not]at *)
 all_goals (try rw [vL_ (x:=r+4294967296) (by omega) (by omega)]at *)
 all_goals
  (show AV.int .i64 _=AV.int .i64 _
   congr 1
   repeat' split
   all_goals first
    |(exfalso;omega)
    |rfl
    |(rw [vL_ (x:=r+4294967296-4294967296) (by omega) (by omega)])
    |(rw [vL_ (x:=r-4294967296) (by omega) (by omega)])
    |omega)
theorem p55 {k:Int} (h:1<=k/\k<=5) (x:Int):jz_ Tryz.prog 55 [.int .i64 k,.int .i64 x] (.int .i64 (s_ k x)):=by rcases (by omega:k=1\/k=2\/k=3\/k=4\/k=5)with rfl|rfl|rfl|rfl|rfl;exact A1_ x;have:=A2_ x;rw [zw_]at this;exact this;have:=A3_ x;rw [zx_]at this;exact this;exact A4_ x;exact A5_ x
theorem p87 (op k a b:Int) (ho:OpK op k) (hk:k≠5) (ha:InK k a):jz_ Tryz.prog 87 [.int .i64 op,.int .i64 k,.int .i64 a,.int .i64 b] (.tup [.int .i64 (x_ op k a b),.int .i64 (aY_ op b)]):=by
 obtain ⟨h1,h2,h3,h4,h5,h6,h7⟩:=ho;have hkk:1<=k/\k<=5:=⟨h3,h4⟩;refine t7_ (sh:=[none,none,none,none]) (ls:=[.int .i64 op,.int .i64 k,.int .i64 a,.int .i64 b]) (c:=c87) (n:=300) (t:=t87) mo ov rfl rfl rfl (λY _=>vD_ _) rfl (by kernel_rfl) λY hf hg=>?_;unfold t87;have fin0:∀{v:Int},(op≠7/\op≠8)->bb_ op k a b=v->AV.tup [.int .i64 v,.int .i64 0]=.tup [.int .i64 (x_ op k a b),.int .i64 (aY_ op b)]:=λh e=>by rw [x_,if_pos (M_ h),M_ h,e]
 have fin1:∀{v:Int},b≠0->bb_ op k a b=v->AV.tup [.int .i64 v,.int .i64 0]=.tup [.int .i64 (x_ op k a b),.int .i64 (aY_ op b)]:=λh e=>by have h0:aY_ op b=0:=(by unfold aY_;rw [if_neg (λhh=>h hh.2)]);rw [x_,if_pos h0,h0,e]
 have fin5:(op=7\/op=8)->b=0->AV.tup [.int .i64 0,.int .i64 5]=.tup [.int .i64 (x_ op k a b),.int .i64 (aY_ op b)]:=λh e=>by have h0:aY_ op b=5:=(by unfold aY_;rw [if_pos ⟨h,e⟩]);rw [x_,h0,if_neg (by omega)]
 have h8:k≠1->op=8->bb_ op k a b=a.tmod b:=λhk1 e=>by have:=xZ_ (b:=b) ha hk hk1;rw [uW_ (by omega),e];show s_ k (a.tmod b)=_;rw [wv_ this hk]
 have h7':k≠1->op=7->b≠ -1->bb_ op k a b=w64 (a.tdiv b):=λhk1 e hb=>by have h:=zr_ (b:=b) ha hk hk1 hb;have e64:w64 (a.tdiv b)=a.tdiv b:=vL_ h.i64.1 h.i64.2;rw [uW_ (by omega),e];show s_ k (w64 (a.tdiv b))=_;rw [e64,wv_ h hk]
 (refine a_ rfl rfl ?_ ?_<;>intro h<;>simp only [nc]at h<;>try omega)
 ·(refine a_ rfl rfl ?_ ?_<;>intro h<;>simp only [nc]at h<;>try omega)
  .have e:bb_ op k a b=tI (decide (¬a=0)&&decide (¬b=0)):=by subst op;rfl
   (refine a_ rfl rfl ?_ ?_<;>intro h<;>simp only [nc]at h<;>try omega)
   .refine vw_ (run_neq ..) rfl (uH_ (p89 _) rfl rfl (uI_ (fin0 (by omega) ?_)));rw [e,decide_eq_true (by omega),Bool.true_and];by_cases hb:b=0<;>simp [hb]
   refine uH_ (p89 false) rfl rfl (uI_ (fin0 (by omega) ?_));rw [e,decide_eq_false (by omega),Bool.false_and]
  (refine a_ rfl rfl ?_ ?_<;>intro h<;>simp only [nc]at h<;>try omega)
  .have e:bb_ op k a b=tI (decide (¬a=0)||decide (¬b=0)):=by subst op;rfl
   (refine a_ rfl rfl ?_ ?_<;>intro h<;>simp only [nc]at h<;>try omega)
   refine uH_ (p89 true) rfl rfl (uI_ (fin0 (by omega) ?_));rw [e,decide_eq_true (by omega),Bool.true_or]
   .refine vw_ (run_neq ..) rfl (uH_ (p89 _) rfl rfl (uI_ (fin0 (by omega) ?_)));rw [e,decide_eq_false (p:=¬a=0) (by omega),Bool.false_or];by_cases hb:b=0<;>simp [hb]
  (refine a_ rfl rfl ?_ ?_<;>intro h<;>simp only [nc]at h<;>try omega)
  have e:bb_ op k a b=tI (decide (a=0)):=(by subst op;rfl);exact vw_ (run_eql ..) rfl (uH_ (p89 _) rfl rfl (uI_ (fin0 (by omega) e)))
  (refine a_ rfl rfl ?_ ?_<;>intro h<;>simp only [nc]at h<;>try omega)
  have e:bb_ op k a b=tI (decide (a=b)):=(by subst op;rfl);exact vw_ (run_eql ..) rfl (uH_ (p89 _) rfl rfl (uI_ (fin0 (by omega) e)))
  (refine a_ rfl rfl ?_ ?_<;>intro h<;>simp only [nc]at h<;>try omega)
  have e:bb_ op k a b=tI (decide (¬a=b)):=(by subst op;rfl);refine vw_ (run_neq ..) rfl (uH_ (p89 _) rfl rfl (uI_ (fin0 (by omega) ?_)));rw [e];by_cases hb:a=b<;>simp [hb]
 have hk1:k≠1:=h;have hb:w4_ k≠0:=by unfold w4_;split<;>(try split)<;>(try split)<;>omega
 refine uH_ (p90 k) rfl rfl ?_
 (refine a_ rfl rfl ?_ ?_<;>intro h<;>simp only [nc]at h<;>try omega)
 (refine a_ rfl rfl ?_ ?_<;>intro h<;>simp only [nc]at h<;>try omega)
 exact vw_ (run_add ..) rfl (uH_ (p55 hkk _) rfl rfl (uI_ (fin0 (by omega) (by subst op;rfl))))
 (refine a_ rfl rfl ?_ ?_<;>intro h<;>simp only [nc]at h<;>try omega)
 exact vw_ (run_sub ..) rfl (uH_ (p55 hkk _) rfl rfl (uI_ (fin0 (by omega) (by subst op;rfl))))
 (refine a_ rfl rfl ?_ ?_<;>intro h<;>simp only [nc]at h<;>try omega)
 exact vw_ (run_mul ..) rfl (uH_ (p55 hkk _) rfl rfl (uI_ (fin0 (by omega) (by subst op;rfl))))
 (refine a_ rfl rfl ?_ ?_<;>intro h<;>simp only [nc]at h<;>try omega)
 exact vw_ (vp_ ..) rfl (uH_ (p55 hkk _) rfl rfl (uI_ (fin0 (by omega) (by subst op;rfl))))
 (refine a_ rfl rfl ?_ ?_<;>intro h<;>simp only [nc]at h<;>try omega)
 .have h7'':=h
  (refine a_ rfl rfl ?_ ?_<;>intro h<;>simp only [nc]at h<;>try omega)
  exact uI_ (fin5 (by omega) h);have hb0:=h
  (refine a_ rfl rfl ?_ ?_<;>intro h<;>simp only [nc]at h<;>try omega)
  .have hbm:=h
   (refine a_ rfl rfl ?_ ?_<;>intro h<;>simp only [nc]at h<;>try omega)
   refine vw_ (vp_ ..) rfl (uH_ (p55 hkk _) rfl rfl (uI_ (fin1 hb0 ?_)));rw [uW_ (by omega),h7'',hbm];show s_ k (w64 (a.tdiv (-1)))=s_ k (IntKind.i64.wrap (0-a));rw [zs_,Int.zero_sub];rfl
  have hbm:=h
  (refine a_ rfl rfl ?_ ?_<;>intro h<;>simp only [nc]at h<;>try omega)
  exact vw_ (vs_ hb0 ..) rfl (uI_ (fin1 hb0 (h7' hk1 h7'' hbm)))
 (refine a_ rfl rfl ?_ ?_<;>intro h<;>simp only [nc]at h<;>try omega)
 .have h8':=h
  (refine a_ rfl rfl ?_ ?_<;>intro h<;>simp only [nc]at h<;>try omega)
  exact uI_ (fin5 (by omega) h);have hb0:=h
  (refine a_ rfl rfl ?_ ?_<;>intro h<;>simp only [nc]at h<;>try omega)
  .have hbm:=h
   (refine a_ rfl rfl ?_ ?_<;>intro h<;>simp only [nc]at h<;>try omega)
   refine uI_ (fin1 hb0 ?_);rw [h8 hk1 h8',hbm,zu_]
  have hbm:=h
  (refine a_ rfl rfl ?_ ?_<;>intro h<;>simp only [nc]at h<;>try omega)
  exact vw_ (u4_ hb0 ..) rfl (uI_ (fin1 hb0 (h8 hk1 h8')))
 (refine a_ rfl rfl ?_ ?_<;>intro h<;>simp only [nc]at h<;>try omega)
 have e:bb_ op k a b=tI (decide (a=b)):=(by subst op;rfl);exact vw_ (run_eql ..) rfl (uH_ (p89 _) rfl rfl (uI_ (fin0 (by omega) e)))
 (refine a_ rfl rfl ?_ ?_<;>intro h<;>simp only [nc]at h<;>try omega)
 .have e:bb_ op k a b=tI (decide (¬a=b)):=(by subst op;rfl);refine vw_ (run_neq ..) rfl (uH_ (p89 _) rfl rfl (uI_ (fin0 (by omega) ?_)));rw [e];by_cases hb:a=b<;>simp [hb]
 (refine a_ rfl rfl ?_ ?_<;>intro h<;>simp only [nc]at h<;>try omega)
 have e:bb_ op k a b=tI (decide (a<b)):=(by subst op;rfl);exact vw_ (run_lss ..) rfl (uH_ (p89 _) rfl rfl (uI_ (fin0 (by omega) e)))
 (refine a_ rfl rfl ?_ ?_<;>intro h<;>simp only [nc]at h<;>try omega)
 have e:bb_ op k a b=tI (decide (a<=b)):=by subst op;rfl
 exact vw_ (run_leq ..) rfl (uH_ (p89 _) rfl rfl (uI_ (fin0 (by omega) e)))
end Go.Proofs.YtjconanknjgpnaaGreat.vars
set_option maxRecDepth 100000
set_option linter.unusedVariables false
set_option linter.unusedSimpArgs false
namespace Go.Proofs.YtjconanknjgpnaaGreat.vars
open Go.Sx Go
theorem wH_ (s:Bool) (t:Nat):((FloatKind.f64.format).read (FloatKind.f64.encode (.nan s (FloatKind.f64.format.quiet t)))).isNaN=true:=by
 refine jd_ ?_ (by decide +kernel);have h51:(Ieee.Format.quiet Ieee.double t%Ieee.double.binade).testBit 51=true:=by have hb:Ieee.double.binade=2^52:=(by decide +kernel);rw [hb,Nat.testBit_mod_two_pow];show (decide (51<52)&&(t|||2^(Ieee.double.fractionBits-1)).testBit 51)=true;have hf:Ieee.double.fractionBits-1=51:=(by decide +kernel);rw [hf,Nat.testBit_or,Nat.testBit_two_pow_self];simp
 have hpos:0<Ieee.Format.quiet Ieee.double t%Ieee.double.binade:=by rcases Nat.eq_zero_or_pos (Ieee.Format.quiet Ieee.double t%Ieee.double.binade)with h|h;rw [h]at h51;simp at h51;exact h
 have hlt:Ieee.Format.quiet Ieee.double t%Ieee.double.binade<Ieee.double.binade:=Nat.mod_lt _ (by decide +kernel);show Ieee.double.infRung<(Ieee.double.word s (Ieee.double.infRung+Ieee.Format.quiet Ieee.double t%Ieee.double.binade))%Ieee.double.signWeight;generalize Ieee.Format.quiet Ieee.double t%Ieee.double.binade=q at*;have e1:Ieee.double.infRung=9218868437227405312:=by decide +kernel
 have e2:Ieee.double.signWeight=9223372036854775808:=by decide +kernel
 have e3:Ieee.double.binade=4503599627370496:=by decide +kernel
 unfold Ieee.Format.word;rw [e1,e2];rw [e3]at hlt;cases s<;>simp<;>omega
theorem y1_ (b:Nat):∃q:Question,Extern.MathFloor.toIntegral "math.archTrunc" .zero #[.float .f64 b]=(match FloatKind.f64.format.read b with
 | .nan s t=>if FloatKind.f64.format.quiet t=t then pure (.float .f64 b)else do
    let kept←choose q
    pure (.float .f64 (if kept==1 then b else FloatKind.f64.encode (.nan s (FloatKind.f64.format.quiet t))))
 |d=>pure (.float .f64 (FloatKind.f64.encode (d.integral .zero)))):=⟨_,rfl⟩
def Am_ (b b':Nat):Prop:=(dk_ b=true->((FloatKind.f64.format).read b').isNaN=true)/\(dk_ b=false->b'=jr_ b)
theorem yf_ {P:Program} (b:Nat) (w:World):
  ∃b' n,(Extern.MathFloor.toIntegral "math.archTrunc" .zero #[.float .f64 b]).run P w=.ok (.float .f64 b') { w with drawn:=n }/\Am_ b b':=by
 obtain ⟨q,e⟩:=y1_ b;rw [e];have hn:(FloatKind.f64.format.read b).isNaN=dk_ b:=uz_;cases hd:FloatKind.f64.format.read b with
 |number s m i=>rw [hd]at hn;refine ⟨jr_ b,w.drawn,?_,λh=>(Bool.false_ne_true (hn.trans h)).elim,λ_=>rfl⟩;unfold jr_;rw [show Ieee.double.read b=_ from hd];rfl
 |infinity s=>rw [hd]at hn;refine ⟨jr_ b,w.drawn,?_,λh=>(Bool.false_ne_true (hn.trans h)).elim,λ_=>rfl⟩;unfold jr_;rw [show Ieee.double.read b=_ from hd];rfl
 |nan s t=>rw [hd]at hn;have hf:dk_ b≠false:=λh=>(by rw [←hn]at h;cases h);simp only;split;exact ⟨b,w.drawn,rfl,λ_=>by rw [hd];rfl,λh=>absurd h hf⟩;simp only [Sem.run_bind,choose,Sem.run,Result.andThen];by_cases hq:q.forced=true;rw [if_pos hq];exact ⟨_,w.drawn,rfl,λ_=>wH_ s t,λh=>absurd h hf⟩;rw [if_neg hq];refine ⟨_,_,rfl,λ_=>?_,λh=>absurd h hf⟩;split;rw [hd];rfl;exact wH_ s t
theorem xA_ (b:Nat) (w:World):
  Calls Tryz.prog 127 #[.float .f64 b] w λe w'=>∃b' n,e=.returned (.float .f64 b')/\w'={ w with drawn:=n }/\Am_ b b':=by
 obtain ⟨b',n,h1,h2⟩:=yf_ (P:=Tryz.prog) b w;have h3:(callFunc 166 #[.float .f64 b]).run Tryz.prog w=.ok (.value (.float .f64 b')) { w with drawn:=n }:=by rw [run_callFunc_extern (P:=Tryz.prog) (f:=166) (e:=Extern.MathFloor.toIntegral "math.archTrunc" .zero) Tryz.func166 (by kernel_rfl) (by kernel_rfl) (by kernel_rfl) (by kernel_rfl),h1];rfl
 have H2:=Lib.hid h2;clear h2 h1;generalize hw1:({ w with drawn:=n }:World)=w1 at*;have H3:=Lib.hid hw1;clear hw1
 go_enter Tryz.func127,Tryz.ntmps127
 go_wp2
 go_ret
 exact ⟨b',n,rfl,H3.out.symm,H2.out⟩
theorem AY_ (o:Option Nat):jz_ Tryz.prog 127 [fv o] (fv (ui_ o)):=by
 intro H B pr E w vs hg hr hc;have key:∃b,vs=[.float .f64 b]/\(dk_ b=n7_ o)/\(n7_ o=false->o=some b):=by
  cases o with
  |none=>simp only [fv,mkF,ConL,Con]at hc;obtain ⟨v,r,rfl,⟨b,rfl,hb⟩,rfl⟩:=hc;exact ⟨b,rfl,by rw [←uz_];exact hb,λh=>by cases h⟩
  |some b=>simp only [fv,mkF,ConL,Con]at hc;obtain ⟨v,r,rfl,rfl,rfl⟩:=hc;exact ⟨b,rfl,rfl,λ_=>rfl⟩
 obtain ⟨b,rfl,hn,ho⟩:=key;refine (xA_ b w).mono λe w' he=>?_;obtain ⟨b',n,rfl,rfl,h1,h2⟩:=he;refine ⟨E,Env.le_refl E,_,rfl,?_,hr.drawn n⟩;cases hb:n7_ o with
 |true=>
  have e:ui_ o=none:=by
   cases o with
   |none=>rfl
   |some x=>show (if dk_ x=true then none else some (jr_ x))=none;exact if_pos hb
  rw [e];simp only [fv,mkF,Con];exact ⟨b',rfl,h1 (hn.trans hb)⟩
 |false=>
  rw [ho hb];have hb':dk_ b=false:=hn.trans hb;have e:ui_ (some b)=some (jr_ b):=by show (if dk_ b=true then none else some (jr_ b))=_;rw [if_neg (by rw [hb'];exact Bool.false_ne_true)]
  rw [e,←h2 hb'];simp only [fv,mkF,Con]
end Go.Proofs.YtjconanknjgpnaaGreat.vars
set_option maxRecDepth 100000
set_option linter.unusedVariables false
set_option linter.unusedSimpArgs false
namespace Go.Proofs.YtjconanknjgpnaaGreat.vars
open Go Go.Sx
def B7_:VC:=⟨⟨[],[]⟩,[],[],0,true,[]⟩
def Be_:VT:=Iq 64 4 67 (Li U9 [65,66] 68<|.done (.tup [68,.bool false,.bool true]))<|Iq 64 5 68 (Li Ua [65,66] 69<|.done (.tup [69,.bool false,.bool true]))<|Iq 64 6 69 (Li Ub [65,66] 70<|.done (.tup [70,.bool false,.bool true]))<|Iq 64 7 70 (Li Uc [65,66] 71<|.done (.tup [71,.bool false,.bool true]))<|Iq 64 16 71 (Li Zb [65] 72<|.done (.tup [72,.bool false,.bool true]))<|Iq 64 9 72 (Li Ud [65,66] 73<|.done (.tup [.flt .f64 0,73,.bool true]))<|Iq 64 10 73 (Li Zt [65,66] 74<|.done (.tup [.flt .f64 0,74,.bool true]))<|Iq 64 11 74 (Li U2 [65,66] 75<|.done (.tup [.flt .f64 0,75,.bool true]))<|Iq 64 12 75 (Li Ue [65,66] 76<|.done (.tup [.flt .f64 0,76,.bool true]))<|.done (.tup [.flt .f64 0,.bool false,.bool false])
def c85:VC:=⟨⟨[],[]⟩,[],[],0,true,[]⟩
def t85:VT:=Iq 64 4 67 (Li U9 [65,66] 68<|.done (.tup [68,.bool false,.bool true]))<|Iq 64 5 68 (Li Ua [65,66] 69<|.done (.tup [69,.bool false,.bool true]))<|Iq 64 6 69 (Li Ub [65,66] 70<|.done (.tup [70,.bool false,.bool true]))<|Iq 64 7 70 (Li Uc [65,66] 71<|.done (.tup [71,.bool false,.bool true]))<|Iq 64 16 71 (Li Zb [65] 72<|.done (.tup [72,.bool false,.bool true]))<|Iq 64 9 72 (Li Ud [65,66] 73<|.done (.tup [.flt .f64 0,73,.bool true]))<|Iq 64 10 73 (Li Zt [65,66] 74<|.done (.tup [.flt .f64 0,74,.bool true]))<|Iq 64 11 74 (Li U2 [65,66] 75<|.done (.tup [.flt .f64 0,75,.bool true]))<|Iq 64 12 75 (Li Ue [65,66] 76<|.done (.tup [.flt .f64 0,76,.bool true]))<|.done (.tup [.flt .f64 0,.bool false,.bool false])
def c86:VC:=⟨⟨[],[]⟩,[],[],0,true,[]⟩
def t86:VT:=.ite 64 (.done (.agg [J 1,J 1,.flt .f64 0]))<|.done (.agg [J 1,J 0,.flt .f64 0])
def B8_:VC:=⟨⟨[],[]⟩,[],[],0,true,[]⟩
def Bf_:VT:=.ite 64 (.done (.agg [J 1,J 1,.flt .f64 0]))<|.done (.agg [J 1,J 0,.flt .f64 0])
def Cd_:VC:=⟨⟨[],[]⟩,[],[],0,true,[]⟩
def Bk_:VT:=Iq 64 2 65 (.done (.tup [.flt .f64 13898108450065350656,.bool true]))<|Iq 64 3 66 (.done (.tup [.flt .f64 13970166044103278592,.bool true]))<|Iq 64 4 67 (.done (.tup [.flt .f64 14114281232179134464,.bool true]))<|.done (.tup [.flt .f64 0,.bool false])
def B5_:VC:=⟨⟨[],[]⟩,[(159,[none,none]),(127,[none])],[],0,true,[]⟩
def Bc_:VT:=.call 159 [64] 66 [none,none]<|It Q3 [67] 68 (Dn [J 4])<|.call 127 [65] 69 [none]<|It (.bin .geq 44 false false) [69,66] 70 (Li Zb [66] 71<|It U2 [69,71] 72 (Li (.conv 44 2) [69] 73<|.done (.tup [73,J 0]))<|Dn [J 7])<|Dn [J 7]
def c84:VC:=⟨⟨[],[]⟩,[(127,[none])],[],0,true,[]⟩
def t84 (lo hi:Nat):VT:=
 (.call 127 [.sym 64] 65 [none]
 (.lt Zt [.sym 64,.sym 64] 66 none
 (.ite 66
  (.done (.tup [.int .i64 0,.int .i64 7]))
  (.lt (.bin .lss 44 false false) [.sym 65,.flt .f64 lo] 67 none
  (.ite 67
   (.done (.tup [.int .i64 0,.int .i64 7]))
   (.lt (.bin .geq 44 false false) [.sym 65,.flt .f64 hi] 68 none
   (.ite 68
    (.done (.tup [.int .i64 0,.int .i64 7]))
    (.lt (.conv 44 2) [.sym 65] 69 none
    (.done (.tup [.sym 69,.int .i64 0]))))))))))
def c50:VC:=⟨⟨[],[]⟩,[(55,[none]),(84,[none,none])],[],0,true,[]⟩
def t50:VT:=Iq 64 5 68 (Iq 65 5 69 (.done (.tup [.agg [65,66,67],J 0]))<|Iq 64 5 70 (Li Zg [66] 71<|.done (.tup [.agg [J 5,J 0,71],J 0]))<|Iq 65 5 71 (.call 84 [64,67] 72 [none,none]<|It Q5 [73,J 0] 74 (.done (.tup [.agg [J 0,J 0,.flt .f64 0],73]))<|.done (.tup [.agg [64,72,.flt .f64 0],J 0]))<|.call 55 [64,66] 72 [none]<|.done (.tup [.agg [64,72,.flt .f64 0],J 0]))<|Iq 64 5 69 (Li Zg [66] 70<|.done (.tup [.agg [J 5,J 0,70],J 0]))<|Iq 65 5 70 (.call 84 [64,67] 71 [none,none]<|It Q5 [72,J 0] 73 (.done (.tup [.agg [J 0,J 0,.flt .f64 0],72]))<|.done (.tup [.agg [64,71,.flt .f64 0],J 0]))<|.call 55 [64,66] 71 [none]<|.done (.tup [.agg [64,71,.flt .f64 0],J 0])
def c51:VC:=⟨⟨[],[]⟩,[(85,[none,none,none]),(87,[none,none]),(86,[(some 3)])],[],0,true,[]⟩
def t51:VT:=Iq 65 5 72 (.call 85 [64,68,71] 73 [none,none,none]<|It Q3 [75] 76 (.done (.tup [.agg [J 0,J 0,.flt .f64 0],J 4]))<|It Z1 [64,J 9] 77 (It Qw [64,J 12] 78 (.call 86 [74] 79 [(some 3)]<|.done (.tup [.agg [79,80,81],J 0]))<|.done (.tup [.agg [J 5,J 0,73],J 0]))<|.done (.tup [.agg [J 5,J 0,73],J 0]))<|.call 87 [64,65,67,70] 73 [none,none]<|It Q5 [74,J 0] 75 (.done (.tup [.agg [J 0,J 0,.flt .f64 0],74]))<|It Z1 [64,J 9] 76 (It Qw [64,J 12] 77 (.done (.tup [.agg [J 1,73,.flt .f64 0],J 0]))<|.done (.tup [.agg [65,73,.flt .f64 0],J 0]))<|.done (.tup [.agg [65,73,.flt .f64 0],J 0])
def B1_:VC:=⟨⟨[],[]⟩,[],[],0,true,[]⟩
def A8_:VT:=It Q5 [64,J 0] 65 (.done (.tup [J 1,64]))<|Dn []
def c82:VC:=⟨⟨[],[]⟩,[(122,[none,none]),(123,[none])],[],0,true,[(113,ft113)]⟩
def t82:VT:=Iq 64 5 68 (Iq 65 5 69 (Dn [65,66,67])<|Iq 64 5 70 (Li Zg [66] 71<|Dn [64,J 0,71])<|Iq 65 5 71 (.call 122 [64,67] 72 [none,none]<|.callF 113 ft113 [73] 74 (.cons 0 (Dn [64,72,.flt .f64 0]) (.cons 1 (.done (.tup [J 1,75])) .nil)))<|.call 123 [64,66] 72 [none]<|Dn [64,72,.flt .f64 0])<|Iq 64 5 69 (Li Zg [66] 70<|Dn [64,J 0,70])<|Iq 65 5 70 (.call 122 [64,67] 71 [none,none]<|.callF 113 ft113 [72] 73 (.cons 0 (Dn [64,71,.flt .f64 0]) (.cons 1 (.done (.tup [J 1,74])) .nil)))<|.call 123 [64,66] 71 [none]<|Dn [64,71,.flt .f64 0]
def c83:VC:=⟨⟨[],[]⟩,[(124,[none,none,none]),(126,[none,none]),(125,[(some 3)])],[],0,true,[(113,ft113)]⟩
def t83:VT:=Li Qb [65,J 0] 66<|.lt Qm [66] 67 (some 3)<|Li Qp [65] 70<|Li Qh [70,J 1] 71<|Li Qb [65,71] 72<|.lt Qm [72] 73 (some 3)<|Iq 67 5 76 (.call 124 [64,69,75] 77 [none,none,none]<|It Q3 [79] 80 (.callF 113 ft113 [J 4] 81 (.cons 0 (It Z1 [64,J 9] 82 (It Qw [64,J 12] 83 (.call 125 [78] 84 [(some 3)]<|Dn [84,85,86])<|Dn [J 5,J 0,77])<|Dn [J 5,J 0,77]) (.cons 1 (.done (.tup [J 1,82])) .nil)))<|It Z1 [64,J 9] 81 (It Qw [64,J 12] 82 (.call 125 [78] 83 [(some 3)]<|Dn [83,84,85])<|Dn [J 5,J 0,77])<|Dn [J 5,J 0,77])<|.call 126 [64,67,68,74] 77 [none,none]<|.callF 113 ft113 [78] 79 (.cons 0 (It Z1 [64,J 9] 80 (It Qw [64,J 12] 81 (Li Q8 [77,J 0] 82<|.call 125 [82] 83 [(some 3)]<|Dn [83,84,85])<|Dn [67,77,.flt .f64 0])<|Dn [67,77,.flt .f64 0]) (.cons 1 (.done (.tup [J 1,80])) .nil))
theorem ut_ (a:Option Nat):(XOp.un .neg).run Tryz.prog [fv a]=some (fv (a.map (Op.negFloat .f64))):=by cases a<;>rfl
theorem vJ_ (t:TypeId) (cx cy:Bool) (a b:Option Nat):(XOp.bin .add t cx cy).run Tryz.prog [fv a,fv b]=some (fv (gJ_ FloatKind.f64.format.add a b)):=by rw [u3_];rfl
theorem vS_ (t:TypeId) (cx cy:Bool) (a b:Option Nat):(XOp.bin .sub t cx cy).run Tryz.prog [fv a,fv b]=some (fv (gJ_ FloatKind.f64.format.sub a b)):=by rw [u3_];rfl
theorem vP_ (t:TypeId) (cx cy:Bool) (a b:Option Nat):(XOp.bin .mul t cx cy).run Tryz.prog [fv a,fv b]=some (fv (gJ_ FloatKind.f64.format.mul a b)):=by rw [u3_];rfl
theorem vQ_ (t:TypeId) (cx cy:Bool) (a b:Option Nat):(XOp.bin .quo t cx cy).run Tryz.prog [fv a,fv b]=some (fv (gJ_ FloatKind.f64.format.div a b)):=by rw [u3_];rfl
theorem vM_ (t:TypeId) (cx cy:Bool) (a b:Option Nat):(XOp.bin .eql t cx cy).run Tryz.prog [fv a,fv b]=some (.bool (ordF a b==some .eq)):=by rw [u3_];rfl
theorem qv_ (t:TypeId) (cx cy:Bool) (a b:Option Nat):(XOp.bin .neq t cx cy).run Tryz.prog [fv a,fv b]=some (.bool (ordF a b !=some .eq)):=by rw [u3_];rfl
theorem p6_ (t:TypeId) (cx cy:Bool) (a b:Option Nat):(XOp.bin .lss t cx cy).run Tryz.prog [fv a,fv b]=some (.bool (ordF a b==some .lt)):=by rw [u3_];rfl
theorem vO_ (t:TypeId) (cx cy:Bool) (a b:Option Nat):(XOp.bin .leq t cx cy).run Tryz.prog [fv a,fv b]=some (.bool (ordF a b==some .lt||ordF a b==some .eq)):=by rw [u3_];rfl
theorem xd_ (t:TypeId) (cx cy:Bool) (a b:Option Nat):(XOp.bin .geq t cx cy).run Tryz.prog [fv a,fv b]=some (.bool (ordF a b==some .gt||ordF a b==some .eq)):=by rw [u3_];rfl
def OpR (op:Int):Prop:=(4<=op/\op<=7)\/op=16\/(9<=op/\op<=12)
def xc_ (op:Int) (a b:Option Nat):Option Nat:=
 if op=4 then gJ_ FloatKind.f64.format.add a b else if op=5 then gJ_ FloatKind.f64.format.sub a b else if op=6 then gJ_ FloatKind.f64.format.mul a b else if op=7 then gJ_ FloatKind.f64.format.div a b
 else if op=16 then a.map (Op.negFloat .f64)else some 0
def yK_ (op:Int) (a b:Option Nat):Bool:=if 9<=op/\op<=12 then AS_ op (ordF a b)else false
theorem xO_ {op:Int} {a b:Option Nat} (h:OpR op):wn_ op a b=if 9<=op/\op<=12 then ⟨1,tI (yK_ op a b),some 0⟩else ⟨5,0,xc_ op a b⟩:=by rcases (by unfold OpR at h;omega:op=4\/op=5\/op=6\/op=7\/op=16\/op=9\/op=10\/op=11\/op=12)with rfl|rfl|rfl|rfl|rfl|rfl|rfl|rfl|rfl<;>rfl
theorem AN_ (f:Option Nat) (b c:Bool):aS_ (.tup [fv f,.bool b,.bool c])=true:=by cases f<;>rfl
theorem CC_ (k:Int) (f:Option Nat):okL [.int .i64 k,fv f]=true:=by cases f<;>rfl
theorem zD_ (op:Int) (a b:Option Nat):okL [.int .i64 op,fv a,fv b]=true:=by cases a<;>cases b<;>rfl
theorem CI_ (op:Int) (a b:Option Nat) (h:OpR op):jz_ Tryz.prog 124 [.int .i64 op,fv a,fv b] (.tup [fv (xc_ op a b),.bool (yK_ op a b),.bool true]):=by
 unfold OpR at h;refine t7_ (sh:=[none,none,none]) (ls:=[.int .i64 op,fv a,fv b]) (c:=B7_) (n:=300) (t:=Be_) mo ov rfl (zD_ ..) (AN_ ..) (λY _=>vD_ _) rfl (by kernel_rfl) λY hf hg=>?_;unfold Be_
 (refine a_ rfl rfl ?_ ?_<;>intro h<;>simp only [nc]at h<;>try omega)
 .subst op;(first
             |exact vw_ (vJ_ ..) (vN_ _) (uI_ (by rfl))
             |exact vw_ (vJ_ ..) rfl (uI_ (by rfl)))
 (refine a_ rfl rfl ?_ ?_<;>intro h<;>simp only [nc]at h<;>try omega)
 .subst op;(first
             |exact vw_ (vS_ ..) (vN_ _) (uI_ (by rfl))
             |exact vw_ (vS_ ..) rfl (uI_ (by rfl)))
 (refine a_ rfl rfl ?_ ?_<;>intro h<;>simp only [nc]at h<;>try omega)
 .subst op;(first
             |exact vw_ (vP_ ..) (vN_ _) (uI_ (by rfl))
             |exact vw_ (vP_ ..) rfl (uI_ (by rfl)))
 (refine a_ rfl rfl ?_ ?_<;>intro h<;>simp only [nc]at h<;>try omega)
 .subst op;(first
             |exact vw_ (vQ_ ..) (vN_ _) (uI_ (by rfl))
             |exact vw_ (vQ_ ..) rfl (uI_ (by rfl)))
 (refine a_ rfl rfl ?_ ?_<;>intro h<;>simp only [nc]at h<;>try omega)
 .subst op;(first
             |exact vw_ (ut_ ..) (vN_ _) (uI_ (by rfl))
             |exact vw_ (ut_ ..) rfl (uI_ (by rfl)))
 (refine a_ rfl rfl ?_ ?_<;>intro h<;>simp only [nc]at h<;>try omega)
 .subst op;(first
             |exact vw_ (vM_ ..) (vN_ _) (uI_ (by rfl))
             |exact vw_ (vM_ ..) rfl (uI_ (by rfl)))
 (refine a_ rfl rfl ?_ ?_<;>intro h<;>simp only [nc]at h<;>try omega)
 .subst op;(first
             |exact vw_ (qv_ ..) (vN_ _) (uI_ (by rfl))
             |exact vw_ (qv_ ..) rfl (uI_ (by rfl)))
 (refine a_ rfl rfl ?_ ?_<;>intro h<;>simp only [nc]at h<;>try omega)
 .subst op;(first
             |exact vw_ (p6_ ..) (vN_ _) (uI_ (by rfl))
             |exact vw_ (p6_ ..) rfl (uI_ (by rfl)))
 (refine a_ rfl rfl ?_ ?_<;>intro h<;>simp only [nc]at h<;>try omega)
 subst op;(first
            |exact vw_ (vO_ ..) (vN_ _) (uI_ (by rfl))
            |exact vw_ (vO_ ..) rfl (uI_ (by rfl)))
theorem p85 (op:Int) (a b:Option Nat) (h:OpR op):jz_ Tryz.prog 85 [.int .i64 op,fv a,fv b] (.tup [fv (xc_ op a b),.bool (yK_ op a b),.bool true]):=by
 unfold OpR at h;refine t7_ (sh:=[none,none,none]) (ls:=[.int .i64 op,fv a,fv b]) (c:=c85) (n:=300) (t:=t85) mo ov rfl (zD_ ..) (AN_ ..) (λY _=>vD_ _) rfl (by kernel_rfl) λY hf hg=>?_;unfold t85
 (refine a_ rfl rfl ?_ ?_<;>intro h<;>simp only [nc]at h<;>try omega)
 .subst op;(first
             |exact vw_ (vJ_ ..) (vN_ _) (uI_ (by rfl))
             |exact vw_ (vJ_ ..) rfl (uI_ (by rfl)))
 (refine a_ rfl rfl ?_ ?_<;>intro h<;>simp only [nc]at h<;>try omega)
 .subst op;(first
             |exact vw_ (vS_ ..) (vN_ _) (uI_ (by rfl))
             |exact vw_ (vS_ ..) rfl (uI_ (by rfl)))
 (refine a_ rfl rfl ?_ ?_<;>intro h<;>simp only [nc]at h<;>try omega)
 .subst op;(first
             |exact vw_ (vP_ ..) (vN_ _) (uI_ (by rfl))
             |exact vw_ (vP_ ..) rfl (uI_ (by rfl)))
 (refine a_ rfl rfl ?_ ?_<;>intro h<;>simp only [nc]at h<;>try omega)
 .subst op;(first
             |exact vw_ (vQ_ ..) (vN_ _) (uI_ (by rfl))
             |exact vw_ (vQ_ ..) rfl (uI_ (by rfl)))
 (refine a_ rfl rfl ?_ ?_<;>intro h<;>simp only [nc]at h<;>try omega)
 .subst op;(first
             |exact vw_ (ut_ ..) (vN_ _) (uI_ (by rfl))
             |exact vw_ (ut_ ..) rfl (uI_ (by rfl)))
 (refine a_ rfl rfl ?_ ?_<;>intro h<;>simp only [nc]at h<;>try omega)
 .subst op;(first
             |exact vw_ (vM_ ..) (vN_ _) (uI_ (by rfl))
             |exact vw_ (vM_ ..) rfl (uI_ (by rfl)))
 (refine a_ rfl rfl ?_ ?_<;>intro h<;>simp only [nc]at h<;>try omega)
 .subst op;(first
             |exact vw_ (qv_ ..) (vN_ _) (uI_ (by rfl))
             |exact vw_ (qv_ ..) rfl (uI_ (by rfl)))
 (refine a_ rfl rfl ?_ ?_<;>intro h<;>simp only [nc]at h<;>try omega)
 .subst op;(first
             |exact vw_ (p6_ ..) (vN_ _) (uI_ (by rfl))
             |exact vw_ (p6_ ..) rfl (uI_ (by rfl)))
 (refine a_ rfl rfl ?_ ?_<;>intro h<;>simp only [nc]at h<;>try omega)
 subst op;(first
            |exact vw_ (vO_ ..) (vN_ _) (uI_ (by rfl))
            |exact vw_ (vO_ ..) rfl (uI_ (by rfl)))
theorem p86 (b:Bool):jz_ Tryz.prog 86 [.bool b] (.agg (d_ ⟨1,tI b,some 0⟩)):=by refine t7_ (sh:=[none]) (ls:=[.bool b]) (c:=c86) (n:=300) (t:=t86) mo ov rfl rfl rfl (λY _=>vD_ _) rfl (by kernel_rfl) λY hf hg=>?_;unfold t86;cases b;exact vd_ (t:=false) rfl (λh=>by cases h) (λh=>uI_ rfl);exact vd_ (t:=true) rfl (λh=>uI_ rfl) (λh=>by cases h)
theorem AX_ (b:Bool):jz_ Tryz.prog 125 [.bool b] (.agg (d_ ⟨1,tI b,some 0⟩)):=by refine t7_ (sh:=[none]) (ls:=[.bool b]) (c:=B8_) (n:=300) (t:=Bf_) mo ov rfl rfl rfl (λY _=>vD_ _) rfl (by kernel_rfl) λY hf hg=>?_;unfold Bf_;cases b;exact vd_ (t:=false) rfl (λh=>by cases h) (λh=>uI_ rfl);exact vd_ (t:=true) rfl (λh=>uI_ rfl) (λh=>by cases h)
theorem CM_ {k:Int} (h:2<=k/\k<=4):jz_ Tryz.prog 159 [.int .i64 k] (.tup [fv (some (loK k)),.bool true]):=by
 refine t7_ (sh:=[none]) (ls:=[.int .i64 k]) (c:=Cd_) (n:=300) (t:=Bk_) mo ov rfl rfl rfl (λY _=>vD_ _) rfl (by kernel_rfl) λY hf hg=>?_;unfold Bk_
 (refine a_ rfl rfl ?_ ?_<;>intro h<;>simp only [nc]at h<;>try omega)
 subst k;exact uI_ rfl
 (refine a_ rfl rfl ?_ ?_<;>intro h<;>simp only [nc]at h<;>try omega)
 subst k;exact uI_ rfl
 (refine a_ rfl rfl ?_ ?_<;>intro h<;>simp only [nc]at h<;>try omega)
 subst k;exact uI_ rfl
theorem yC_ {k:Int} (h:2<=k/\k<=4):Op.negFloat .f64 (loK k)=hiK k:=by rcases (by omega:k=2\/k=3\/k=4)with rfl|rfl|rfl<;>kernel_rfl
def Z_ (k:Int) (f:Option Nat):Int:=(u_ k f).getD 0
def F_ (k:Int) (f:Option Nat):Int:=if (u_ k f).isSome then 0 else 7
theorem cvW {k:Int} {f:Option Nat} {n:Int} (h:2<=k/\k<=4) (hn:u_ k f=some n):(XOp.conv 44 2).run Tryz.prog [fv (ui_ f)]=some (.int .i64 n):=by
 have hi:=(wL_ h hn).i64;unfold u_ at hn;split at hn;· cases hn
 split at hn;· cases hn
 split at hn;exact ub_ Tryz.underlying44 Tryz.underlying2 hn hi.1 hi.2;cases hn
theorem wu_ {k:Int} {f:Option Nat} (h:2<=k/\k<=4) (h0:n7_ f=false) (h1:ordF (ui_ f) (some (loK k))≠some .lt) (h2:ordF (ui_ f) (some (hiK k))=some .lt):∃n,u_ k f=some n:=by unfold u_;rw [h0,if_neg (by decide),if_neg h1,if_pos h2];rcases (by omega:k=2\/k=3\/k=4)with rfl|rfl|rfl;obtain ⟨m,e,a,b⟩:=tk_ (k:=15) (j:= -37) rfl (by kernel_rfl) (by kernel_rfl) h1 h2;exact ⟨m,e⟩;obtain ⟨m,e,a,b⟩:=tk_ (k:=31) (j:= -21) rfl (by kernel_rfl) (by kernel_rfl) h1 h2;exact ⟨m,e⟩;obtain ⟨m,e,a,b⟩:=tk_ (k:=63) (j:=11) rfl (by kernel_rfl) (by kernel_rfl) h1 h2;exact ⟨m,e⟩
theorem yB_ {k:Int} (h:2<=k/\k<=4):n7_ (some (loK k))=false/\n7_ (some (hiK k))=false:=by rcases (by omega:k=2\/k=3\/k=4)with rfl|rfl|rfl<;>exact ⟨by kernel_rfl,by kernel_rfl⟩
theorem wt_ {k:Int} {f:Option Nat} {n:Int} (h:u_ k f=some n):AV.tup [.int .i64 n,.int .i64 0]=.tup [.int .i64 (Z_ k f),.int .i64 (F_ k f)]:=by unfold Z_ F_;rw [h];rfl
theorem nu_ {k:Int} {f:Option Nat} (h:u_ k f=none):AV.tup [.int .i64 0,.int .i64 7]=.tup [.int .i64 (Z_ k f),.int .i64 (F_ k f)]:=by unfold Z_ F_;rw [h];rfl
theorem yG_ {k:Int} (h:2<=k/\k<=4) {f:Option Nat} (hn:n7_ f=false):(ordF (ui_ f) (some (loK k))==some .gt||ordF (ui_ f) (some (loK k))==some .eq)= !(ordF (ui_ f) (some (loK k))==some .lt):=by obtain ⟨o,e⟩:=uC_ (a:=ui_ f) (b:=some (loK k)) (by rw [uj_];exact hn) (yB_ h).1;rw [e];cases o<;>rfl
theorem yF_ {k:Int} (h:2<=k/\k<=4) {f:Option Nat} (hn:n7_ f=false):(ordF (ui_ f) (some (hiK k))==some .gt||ordF (ui_ f) (some (hiK k))==some .eq)= !(ordF (ui_ f) (some (hiK k))==some .lt):=by obtain ⟨o,e⟩:=uC_ (a:=ui_ f) (b:=some (hiK k)) (by rw [uj_];exact hn) (yB_ h).2;rw [e];cases o<;>rfl
theorem CH_ {k:Int} (h:2<=k/\k<=4) (f:Option Nat):jz_ Tryz.prog 122 [.int .i64 k,fv f] (.tup [.int .i64 (Z_ k f),.int .i64 (F_ k f)]):=by
 refine t7_ (sh:=[none,none]) (ls:=[.int .i64 k,fv f]) (c:=B5_) (n:=300) (t:=Bc_) mo ov rfl (CC_ ..) rfl (λY _=>vD_ _) rfl (by kernel_rfl) λY hf hg=>?_;unfold Bc_;refine uH_ (CM_ h) rfl rfl (vw_ rfl rfl (vd_ (t:=false) rfl (λh=>by cases h) (λ_=>?_)));refine uH_ (AY_ f) rfl (by simp only [okL,vN_]) (vw_ (xd_ ..) rfl (vd_ rfl (λh1=>?_) (λh1=>?_)))
 .refine vw_ (ut_ ..) (vN_ _) (vw_ (p6_ ..) rfl (vd_ rfl (λh2=>?_) (λh2=>?_)))
  .have h2:(ordF (ui_ f) (some (Op.negFloat .f64 (loK k)))==some .lt)=true:=h2;rw [yC_ h]at h2;have hn:n7_ f=false:=by
    cases hc:n7_ f with
    |false=>rfl
    |true=>rw [uX_ (by rw [uj_];exact hc)]at h2;cases h2
   rw [yG_ h hn]at h1;obtain ⟨n,hw⟩:=wu_ h hn (λe=>by rw [e]at h1;cases h1) (by simpa using h2);exact vw_ (cvW h hw) rfl (uI_ (wt_ hw))
  .have h2:(ordF (ui_ f) (some (Op.negFloat .f64 (loK k)))==some .lt)=false:=h2;rw [yC_ h]at h2;refine uI_ (nu_ ?_);unfold u_;split;· rfl
   split;· rfl
   split;rename_i e;rw [e]at h2;cases h2;rfl
 .refine uI_ (nu_ ?_);unfold u_;split;· rfl
  rename_i hn;have hn:n7_ f=false:=(by simpa using hn);rw [yG_ h hn]at h1;rw [if_pos (by simpa using h1)]
theorem yD_ (f:Option Nat):okL [fv f]=true:=by cases f<;>rfl
theorem yE_ (k:Int) (f:Option Nat):mQ_ [.int .i64 k,fv f]=true:=by cases f<;>rfl
theorem wb_ (f:Option Nat):(ordF f f !=some .eq)=n7_ f:=by show (!(ordF f f==some .eq))=_;rw [uB_,Bool.not_not]
theorem v84 {k:Int} (h:2<=k/\k<=4) (f:Option Nat) {Y:Sy} {L:List (Nat->List AV->Prop)}:VOK Tryz.prog (· =.tup [.int .i64 (Z_ k f),.int .i64 (F_ k f)]) L (Y.puts 64 [fv f]) (t84 (loK k) (hiK k)):=by unfold t84;refine uH_ (AY_ f) rfl (yD_ _) (vw_ (qv_ ..) rfl (vd_ rfl (λh1=>?_) (λh1=>?_)));rw [wb_]at h1;refine uI_ (nu_ ?_);unfold u_;rw [if_pos h1];rw [wb_]at h1;refine vw_ (p6_ _ _ _ (ui_ f) (some (loK k))) rfl (vd_ rfl (λh2=>?_) (λh2=>?_));refine uI_ (nu_ ?_);unfold u_;rw [h1,if_neg (by decide),if_pos (by simpa using h2)];refine vw_ (xd_ _ _ _ (ui_ f) (some (hiK k))) rfl (vd_ rfl (λh3=>?_) (λh3=>?_));refine uI_ (nu_ ?_);rw [yF_ h h1]at h3;unfold u_;rw [h1,if_neg (by decide),if_neg (by simpa using h2),if_neg (by simpa using h3)];rw [yF_ h h1]at h3;obtain ⟨n,hw⟩:=wu_ h h1 (by simpa using h2) (by simpa using h3);exact vw_ (cvW h hw) rfl (uI_ (wt_ hw))
theorem p84 {k:Int} (h:2<=k/\k<=4) (f:Option Nat):jz_ Tryz.prog 84 [.int .i64 k,fv f] (.tup [.int .i64 (Z_ k f),.int .i64 (F_ k f)]):=by rcases (by omega:k=2\/k=3\/k=4)with rfl|rfl|rfl;exact uY_ (args':=[.int .i64 2,.sym 64]) (ls:=[fv f]) (c:=c84) (n:=300) (t:=t84 (loK 2) (hiK 2)) mo ov (yE_ ..) rfl (yD_ ..) rfl (λY _=>rfl) (λY _=>vD_ _) rfl (by kernel_rfl) λY hf hg=>v84 h f;exact uY_ (args':=[.int .i64 3,.sym 64]) (ls:=[fv f]) (c:=c84) (n:=300) (t:=t84 (loK 3) (hiK 3)) mo ov (yE_ ..) rfl (yD_ ..) rfl (λY _=>rfl) (λY _=>vD_ _) rfl (by kernel_rfl) λY hf hg=>v84 h f;exact uY_ (args':=[.int .i64 4,.sym 64]) (ls:=[fv f]) (c:=c84) (n:=300) (t:=t84 (loK 4) (hiK 4)) mo ov (yE_ ..) rfl (yD_ ..) rfl (λY _=>rfl) (λY _=>vD_ _) rfl (by kernel_rfl) λY hf hg=>v84 h f
theorem CD_ (k:Int) (v:FV):okL ([.int .i64 k]++d_ v)=true:=by show okL (.int .i64 k::d_ v)=true;rw [aX_];exact okV v
theorem xs_ (v:FV) (e:Int):okL (d_ v++[.int .i64 e])=true:=oL_.okL_join (okV v) rfl
theorem xK_ (v:FV) (e:Int):aS_ (.tup [.agg (d_ v),.int .i64 e])=true:=by rcases v with ⟨k,i,f⟩;cases f<;>rfl
def vk_ (k:Int) (v:FV):FV:=match w_ k v with
 | .ok w=>w
 | .error _=>FV.z
def vi_ (k:Int) (v:FV):Int:=match w_ k v with
 | .ok _=>0
 | .error e=>e
theorem wa_ {k:Int} {v w:FV} (h:w_ k v=.ok w):vk_ k v=w/\vi_ k v=0:=by unfold vk_ vi_;rw [h];exact ⟨rfl,rfl⟩
theorem y6_ {k e:Int} {v:FV} (h:w_ k v=.error e):vk_ k v=FV.z/\vi_ k v=e:=by unfold vk_ vi_;rw [h];exact ⟨rfl,rfl⟩
theorem xQ_ (i:Int):(XOp.conv 2 44).run Tryz.prog [.int .i64 i]=some (fv (some (FloatKind.f64.nearest i))):=rfl
theorem p50 {k:Int} (h:2<=k/\k<=5) (v:FV) (hv:1<=v.k/\v.k<=5):jz_ Tryz.prog 50 [.int .i64 k,.agg (d_ v)] (.tup [.agg (d_ (vk_ k v)),.int .i64 (vi_ k v)]):=by
 refine t7_ (sh:=[none,some 3]) (ls:=[.int .i64 k]++d_ v) (c:=c50) (n:=300) (t:=t50) mo ov rfl (CD_ ..) (xK_ ..) (λY _=>vD_ _) rfl (by kernel_rfl) λY hf hg=>?_;unfold t50;have fin:∀{w:FV} {e:Int},vk_ k v=w/\vi_ k v=e->AV.tup [.agg (d_ w),.int .i64 e]=.tup [.agg (d_ (vk_ k v)),.int .i64 (vi_ k v)]:=λ⟨h1,h2⟩=>by rw [h1,h2]
 (refine a_ rfl rfl ?_ ?_<;>intro h<;>simp only [nc]at h<;>try omega)
 .have e5:=h;subst e5
  (refine a_ rfl rfl ?_ ?_<;>intro h<;>simp only [nc]at h<;>try omega)
  exact uI_ (fin (wa_ (by unfold w_;rw [if_pos rfl,if_pos ‹v.k=5›])))
  ·(refine a_ rfl rfl ?_ ?_<;>intro h<;>simp only [nc]at h<;>try omega)
   refine vw_ (xQ_ _) rfl (uI_ (fin (w:=⟨5,0,some (FloatKind.f64.nearest v.i)⟩) (wa_ (by unfold w_;rw [if_pos rfl,if_neg ‹¬v.k=5›]))))
 have hk:2<=k/\k<=4:=by omega
 (refine a_ rfl rfl ?_ ?_<;>intro h<;>simp only [nc]at h<;>try omega)
 (refine a_ rfl rfl ?_ ?_<;>intro h<;>simp only [nc]at h<;>try omega)
 .have h5:=h;refine uH_ (p84 hk v.f) rfl rfl ?_;cases hw:u_ k v.f with
  |some n=>
   have e1:F_ k v.f=0:=(by unfold F_;rw [hw];rfl);have e2:Z_ k v.f=n:=(by unfold Z_;rw [hw];rfl);rw [e1,e2]
   (refine a_ rfl rfl ?_ ?_<;>intro h<;>simp only [nc]at h<;>try omega)
   exact uI_ (fin (w:=⟨k,n,some 0⟩) (wa_ (by unfold w_;rw [if_neg (by omega),if_pos h5,hw])))
  |none=>
   have e1:F_ k v.f=7:=(by unfold F_;rw [hw];rfl);rw [e1]
   (refine a_ rfl rfl ?_ ?_<;>intro h<;>simp only [nc]at h<;>try omega)
   exact uI_ (fin (w:=FV.z) (y6_ (by unfold w_;rw [if_neg (by omega),if_pos h5,hw])))
 have h5:=h;refine uH_ (p55 (by omega) _) rfl rfl (uI_ (fin (w:=⟨k,s_ k v.i,some 0⟩) (wa_ (by unfold w_;rw [if_neg (by omega),if_neg h5]))))
end Go.Proofs.YtjconanknjgpnaaGreat.vars
set_option linter.unusedVariables false
set_option linter.unusedSimpArgs false
namespace Go.Proofs.YtjconanknjgpnaaGreat.vars
open Go Go.Sx
def sZ_:List Int:=[2,1,2,1,2,3,5,4,2,2,2,2,1,4,1,4,1,2,1,1,1]
def MemOk (mem:List FV):Prop:=mem.map FV.k=sZ_/\∀v∈mem,TV v
def cell (mem:List FV) (n:Int):FV:=mem.getD n.toNat FV.z
def T_ (mem:List FV) (op kd ad n:Int) (a b:FV):Except Int FV:=
 if op=3 then (if a.i<0\/n<=a.i then .error 6 else .ok (cell mem (ad+a.i)))
 else if op=17 then w_ kd a
 else if opE op a.k b=0 then .ok (opV op a.k a b)else .error (opE op a.k b)
mutual
def f_ (mem:List FV):GX->Except Int FV
 | .mk op kd nm fd ad n vk vi vf args=>if op=1 then .ok ⟨vk,vi,some vf⟩else if op=2 then .ok (cell mem ad)else match i_ mem args with
   | .error e=>.error e
   | .ok l=>T_ mem op kd ad n (l.headD FV.z) (l.getLastD FV.z)
def i_ (mem:List FV):List GX->Except Int (List FV)
 |[]=>.ok []
 |a::r=>match f_ mem a with
  | .error e=>.error e
  | .ok v=>match i_ mem r with
    | .error e=>.error e
    | .ok l=>.ok (v::l)
end
section
variable {mem:List FV}
theorem MemOk.len (h:MemOk mem):mem.length=21:=by have:=congrArg List.length h.1;rw [List.length_map]at this;exact this
theorem vv_ {n:Nat} (h:n<mem.length):cell mem (n:Int)=mem[n]:=by unfold cell;rw [Int.toNat_natCast,List.getD_eq_getElem?_getD,List.getElem?_eq_getElem h];rfl
theorem MemOk.cell (h:MemOk mem) {n:Int} (h1:0<=n) (h2:n<21):TV (cell mem n)/\(cell mem n).k=sZ_.getD n.toNat 0:=by
 obtain ⟨m,rfl⟩:∃m:Nat,n=(m:Int):=⟨n.toNat,by omega⟩;have hl:=h.len;have hm:m<mem.length:=by omega
 rw [vv_ hm];refine ⟨h.2 _ (List.getElem_mem hm),?_⟩;have:sZ_=mem.map FV.k:=h.1.symm;rw [this,Int.toNat_natCast,List.getD_eq_getElem?_getD,List.getElem?_map,List.getElem?_eq_getElem hm];rfl
theorem cells_k:∀t∈vY_,0<=t.1/\t.1<21/\sZ_.getD t.1.toNat 0=t.2:=by decide
theorem zA_ {d:Nat} {op kd:Int} {nm fd:List UInt8} {ad n vk vi:Int} {vf:Nat} {args:List GX} (h:TX d (.mk op kd nm fd ad n vk vi vf args)):1<=op/\op<=17:=by
 cases d with
 |zero=>exact h.elim
 |succ d=>have:=h.1;unfold Ari at this;omega
theorem y7_ {op b:Int}:aY_ op b=0\/aY_ op b=5:=by unfold aY_;split;exact .inr rfl;exact .inl rfl
theorem z5_ {op k:Int} {b:FV}:opE op k b=0\/opE op k b=5:=by unfold opE;split;exact .inl rfl;exact y7_
def An_ (l:List GX) (vs:List FV):Prop:=vs.map FV.k=l.map GX.kd/\∀v∈vs,TV v
theorem tt_ {d:Nat} (hx:∀x,TX d x->∀v,f_ mem x=.ok v->TV v/\v.k=x.kd):∀(l:List GX),(∀a∈l,TX d a)->∀vs,i_ mem l=.ok vs->An_ l vs
 |[],_,vs,h=>by simp only [i_,Except.ok.injEq]at h;subst h;exact ⟨rfl,λv hv=>(List.not_mem_nil hv).elim⟩
 |a::r,hl,vs,h=>by simp only [i_]at h;split at h;cases h;rename_i v hv;split at h;cases h;rename_i ws hw;cases h;obtain ⟨h1,h2⟩:=tt_ hx r (λb hb=>hl b (List.mem_cons_of_mem _ hb)) ws hw;obtain ⟨h3,h4⟩:=hx a (hl a List.mem_cons_self) v hv;refine ⟨by simp only [List.map_cons,h4,h1],λu hu=>?_⟩;rcases List.mem_cons.1 hu with rfl|hu;exact h3;exact h2 u hu
theorem zP_ {op:Int} {n:Nat} (h:Ari op n) (h1:op≠1) (h2:op≠2):op=3\/op=17\/op=15\/op=16\/(4<=op/\op<=14):=by unfold Ari at h;omega
theorem wZ_ {vs:List FV} {k:Int} (h:vs.map FV.k=[k]):∃a,vs=[a]/\a.k=k:=by
 match vs,h with
 |[],h=>cases h
 |[a],h=>exact ⟨a,rfl,by simpa using h⟩
 |_::_::_,h=>simp at h
theorem Ac_ {vs:List FV} {k l:Int} (h:vs.map FV.k=[k,l]):∃a b,vs=[a,b]/\a.k=k/\b.k=l:=by
 match vs,h with
 |[],h=>cases h
 |[a],h=>simp at h
 |[a,b],h=>exact ⟨a,b,rfl,by simpa using h⟩
 |_::_::_::_,h=>simp at h
theorem wj_ {d:Nat} {op kd:Int} {nm fd:List UInt8} {ad n vk vi:Int} {vf:Nat} {args:List GX} (hm:MemOk mem) (h:TX (d+1) (.mk op kd nm fd ad n vk vi vf args)) (h1:op≠1) (h2:op≠2) {vs:List FV} (hv:An_ args vs):
  ∃a b:FV,vs.headD FV.z=a/\vs.getLastD FV.z=b/\TV a/\TV b/\(op=3->(a.k=2\/a.k=3)/\vs=[a])/\(op=17->2<=a.k/\a.k<=5/\vs=[a])/\(op≠3->op≠17->OpK op a.k/\b.k=a.k/\(if 9<=op/\op<=12 then 1 else a.k)=kd/\(vs=[a]/\(op=15\/op=16)\/vs=[a,b]/\op<=14))/\
   ∀v,T_ mem op kd ad n a b=.ok v->TV v/\v.k=kd:=by
 obtain ⟨a1,a2,a3,a4,⟨k1,k2,k3,k4,k5,k6,k7⟩,a6⟩:=h;have hop:=zP_ a1 h1 h2;have hks:=hv.1;have key:∀a b:FV,TV a->TV b->(op=3->ad=8/\n=4/\kd=2)->(op=17->2<=kd/\kd<=5)->(op≠3->op≠17->OpK op a.k/\b.k=a.k/\(if 9<=op/\op<=12 then 1 else a.k)=kd)->∀v,T_ mem op kd ad n a b=.ok v->TV v/\v.k=kd:=by
  intro a b ha hb e3 e17 eo v hf;unfold T_ at hf;split at hf
  .rename_i e;obtain ⟨rfl,rfl,rfl⟩:=e3 e;split at hf;cases hf
   .rename_i hr;cases hf;have hr1:0<=a.i/\a.i<4:=(by omega);obtain ⟨p,q⟩:=hm.cell (n:=8+a.i) (by omega) (by omega);refine ⟨p,?_⟩;rw [q];rcases (by omega:a.i=0\/a.i=1\/a.i=2\/a.i=3)with e|e|e|e<;>rw [e]<;>rfl
  rename_i n3;split at hf;rename_i e;exact ym_ (e17 e) ha hf;rename_i n17;obtain ⟨q1,q2,q3⟩:=eo n3 n17;split at hf;cases hf;exact ⟨z6_ q1 ha rfl,by rw [AQ_ q1,q3]⟩;cases hf
 rcases hop with e|e|e|e|e;obtain ⟨r1,r2,r3,k,r4,r5⟩:=k3 e;rw [r4]at hks;obtain ⟨a,rfl,hk⟩:=wZ_ hks;clear k1 k2 k3 k4 k5 k6 k7;have ha:=hv.2 a List.mem_cons_self;exact ⟨a,a,rfl,rfl,ha,ha,λ_=>⟨by omega,rfl⟩,λh=>by omega,λh=>absurd e h,key a a ha ha (λ_=>⟨r1,r2,r3⟩) (λh=>by omega) (λh=>absurd e h)⟩;obtain ⟨r1,r2,k,r4,r5⟩:=k7 e;rw [r4]at hks;obtain ⟨a,rfl,hk⟩:=wZ_ hks;clear k1 k2 k3 k4 k5 k6 k7;have ha:=hv.2 a List.mem_cons_self;exact ⟨a,a,rfl,rfl,ha,ha,λh=>by omega,λ_=>⟨by omega,by omega,rfl⟩,λ_ h=>absurd e h,key a a ha ha (λh=>by omega) (λ_=>⟨r1,r2⟩) (λ_ h=>absurd e h)⟩;obtain ⟨r1,r4⟩:=k5 e;rw [r4]at hks;obtain ⟨a,rfl,hk⟩:=wZ_ hks;clear k1 k2 k3 k4 k5 k6 k7;have ha:=hv.2 a List.mem_cons_self;have ho:OpK op a.k:=(by unfold OpK;omega);have hi:(if 9<=op/\op<=12 then 1 else a.k)=kd:=(by rw [if_neg (by omega)];omega);exact ⟨a,a,rfl,rfl,ha,ha,λh=>by omega,λh=>by omega,λ_ _=>⟨ho,rfl,hi,.inl ⟨rfl,.inl e⟩⟩,key a a ha ha (λh=>by omega) (λh=>by omega) (λ_ _=>⟨ho,rfl,hi⟩)⟩;obtain ⟨r4,r1,r2⟩:=k6 e;rw [r4]at hks;obtain ⟨a,rfl,hk⟩:=wZ_ hks;clear k1 k2 k3 k4 k5 k6 k7;have ha:=hv.2 a List.mem_cons_self;have ho:OpK op a.k:=(by unfold OpK;omega);have hi:(if 9<=op/\op<=12 then 1 else a.k)=kd:=(by rw [if_neg (by omega)];omega);exact ⟨a,a,rfl,rfl,ha,ha,λh=>by omega,λh=>by omega,λ_ _=>⟨ho,rfl,hi,.inl ⟨rfl,.inr e⟩⟩,key a a ha ha (λh=>by omega) (λh=>by omega) (λ_ _=>⟨ho,rfl,hi⟩)⟩
 .obtain ⟨k,r4,r1,r2,r5,r6,r7,r8,r9⟩:=k4 e;rw [r4]at hks;obtain ⟨a,b,rfl,hk⟩:=Ac_ hks
  .clear k1 k2 k3 k4 k5 k6 k7;have ha:=hv.2 a List.mem_cons_self;have hb:=hv.2 b (List.mem_cons_of_mem _ List.mem_cons_self);have ho:OpK op a.k:=(by unfold OpK;omega);have hi:(if 9<=op/\op<=12 then 1 else a.k)=kd:=by by_cases h9:9<=op/\op<=12;rw [if_pos h9];omega;rw [if_neg h9];omega
   exact ⟨a,b,rfl,rfl,ha,hb,λh=>by omega,λh=>by omega,λ_ _=>⟨ho,by omega,hi,.inr ⟨rfl,by omega⟩⟩,key a b ha hb (λh=>by omega) (λh=>by omega) (λ_ _=>⟨ho,by omega,hi⟩)⟩
theorem z2_ {d:Nat} {op kd:Int} {nm fd:List UInt8} {ad n vk vi:Int} {vf:Nat} {args:List GX} (h:TX (d+1) (.mk op kd nm fd ad n vk vi vf args)) (h1:op=1):TV ⟨vk,vi,some vf⟩/\vk=kd:=by obtain ⟨q1,q2,q3,q4,q5,q6,q7,q8⟩:=h.2.2.2.2.1.1 h1;refine ⟨⟨?_,λh=>by rw [q8 h]⟩,q1.symm⟩;show InK vk vi;unfold InK;omega
theorem wT_ {d:Nat} {op kd:Int} {nm fd:List UInt8} {ad n vk vi:Int} {vf:Nat} {args:List GX} (hm:MemOk mem) (h:TX (d+1) (.mk op kd nm fd ad n vk vi vf args)) (h2:op=2):TV (cell mem ad)/\(cell mem ad).k=kd/\0<=ad/\ad<21:=by have:=cells_k _ (h.2.2.2.2.1.2.1 h2);obtain ⟨p,q⟩:=hm.cell this.1 this.2.1;exact ⟨p,by rw [q];exact this.2.2,this.1,this.2.1⟩
theorem R_ (hm:MemOk mem):∀(d:Nat) (x:GX),TX d x->∀v,f_ mem x=.ok v->TV v/\v.k=x.kd
 |0,_,h,_,_=>h.elim
 |d+1,.mk op kd nm fd ad n vk vi vf args,h,v,hv=>by simp only [f_]at hv;split at hv;rename_i e;cases hv;exact z2_ h e;rename_i n1;split at hv;rename_i e;cases hv;obtain ⟨p,q,_⟩:=wT_ hm h e;exact ⟨p,q⟩;rename_i n2;split at hv;cases hv;rename_i vs hvs;have hV:=tt_ (R_ hm d) args h.2.2.2.2.2 vs hvs;obtain ⟨a,b,e1,e2,_,_,_,_,_,hf⟩:=wj_ hm h n1 n2 hV;rw [e1,e2]at hv;exact hf v hv
theorem x2_ {k e:Int} {v:FV} (h:w_ k v=.error e):e=7:=by
 unfold w_ at h;split at h
 .split at h<;>cases h
 split at h;split at h;cases h;cases h;rfl;cases h
theorem x6_ {op kd ad n:Int} {a b:FV} {e:Int} (h:T_ mem op kd ad n a b=.error e):e=5\/e=6\/e=7:=by unfold T_ at h;split at h;split at h;cases h;exact .inr (.inl rfl);cases h;split at h;exact .inr (.inr (x2_ h));split at h;cases h;rename_i hne;cases h;rcases z5_ (op:=op) (k:=a.k) (b:=b)with h0|h0;exact absurd h0 hne;exact .inl h0
mutual
theorem h_:∀(x:GX) (e:Int),f_ mem x=.error e->e=5\/e=6\/e=7
 | .mk op kd nm fd ad n vk vi vf args,e,h=>by simp only [f_]at h;split at h;cases h;split at h;cases h;split at h;rename_i e' he;cases h;exact o0_ args e he;exact x6_ h
theorem o0_:∀(l:List GX) (e:Int),i_ mem l=.error e->e=5\/e=6\/e=7
 |[],e,h=>by simp [i_]at h
 |a::r,e,h=>by simp only [i_]at h;split at h;rename_i e' he;cases h;exact h_ a e he;split at h;rename_i e' he;cases h;exact o0_ r e he;cases h
end
end
end Go.Proofs.YtjconanknjgpnaaGreat.vars
set_option maxRecDepth 100000
set_option linter.unusedVariables false
set_option linter.unusedSimpArgs false
namespace Go.Proofs.YtjconanknjgpnaaGreat.vars
open Go Go.Sx
def c_ (l:List FV):AV:=c2_ d_ 3 l
theorem C_ (l:List FV):okC (c_ l)=true:=by
 unfold c_;cases l with
 |nil=>rfl
 |cons a r=>simp only [c2_,okC];exact oL_ okV (a::r)
theorem qZ_ (l:List FV):(XOp.len 31).run Tryz.prog [c_ l]=some (.int .i64 (l.length:Int)):=ud_ Tryz.underlying31 l
theorem vT_ (l:List FV) {i:Nat} (h:i<l.length):(XOp.iaddr 31).run Tryz.prog [c_ l,.int .i64 (i:Int)]=some (.vptr (cf_ d_ (l.drop i))):=
 run_iaddr_sl (e:=46) (ti:=(Tryz.prog.info? 46).get!) Tryz.underlying31 (by kernel_rfl) (by kernel_rfl) wA_ h .i64
theorem vU_ (l:List FV) {i:Nat} (h:i<l.length):(XOp.load 46).run Tryz.prog [.vptr (cf_ d_ (l.drop i))]=some (.agg (d_ l[i])):=
 run_load_agg (ti:=(Tryz.prog.info? 46).get!) Tryz.underlying46 rfl (by kernel_rfl) (by kernel_rfl) wA_ h
def opW (op k:Int) (a b:FV):FV:=if opE op k b=0 then opV op k a b else FV.z
theorem xb_ {op:Int} (h:OpK op 5):OpR op:=by unfold OpK at h;unfold OpR;omega
theorem p51 {op k:Int} {a b:FV} (ho:OpK op k) (ha:TV a) (hk:a.k=k):jz_ Tryz.prog 51 [.int .i64 op,.int .i64 k,.agg (d_ a),.agg (d_ b)] (.tup [.agg (d_ (opW op k a b)),.int .i64 (opE op k b)]):=by
 have hok:okL ([.int .i64 op,.int .i64 k]++(d_ a++d_ b))=true:=oL_.okL_join (a:=[_,_]) rfl (oL_.okL_join (okV a) (okV b));refine t7_ (sh:=[none,none,some 3,some 3]) (ls:=[.int .i64 op,.int .i64 k]++(d_ a++d_ b)) (c:=c51) (n:=300) (t:=t51) mo ov rfl hok (xK_ ..) (λY _=>vD_ _) rfl (by kernel_rfl) λY hf hg=>?_;unfold t51;have fin:∀{w:FV} {e:Int},opW op k a b=w->opE op k b=e->AV.tup [.agg (d_ w),.int .i64 e]=.tup [.agg (d_ (opW op k a b)),.int .i64 (opE op k b)]:=λh1 h2=>by rw [h1,h2]
 (refine a_ rfl rfl ?_ ?_<;>intro h<;>simp only [nc]at h<;>try omega)
 .subst h;have hr:=xb_ ho;have he:opE op 5 b=0:=rfl;have hw:opW op 5 a b=wn_ op a.f b.f:=(by unfold opW opV;rw [if_pos he,if_pos rfl]);rw [xO_ hr]at hw;refine uH_ (p85 op a.f b.f hr) rfl (by simp only [okL,okC,vN_]) (vw_ rfl rfl (vd_ (t:=false) rfl (λh=>by cases h) (λ_=>?_)))
  (refine a_ rfl rfl ?_ ?_<;>intro h<;>simp only [nc]at h<;>try omega)
  ·(refine a_ rfl rfl ?_ ?_<;>intro h<;>simp only [nc]at h<;>try omega)
   rw [if_pos (by omega)]at hw;exact uH_ (p86 _) rfl rfl (uI_ (fin hw he));rw [if_neg (by omega)]at hw;exact uI_ (fin hw he)
  rw [if_neg (by omega)]at hw;exact uI_ (fin hw he)
 have h5:=h;refine uH_ (p87 op k a.i b.i ho h5 (hk▸ha.1)) rfl rfl ?_;have he:opE op k b=aY_ op b.i:=by unfold opE;rw [if_neg h5]
 (refine a_ rfl rfl ?_ ?_<;>intro h<;>simp only [nc]at h<;>try omega)
 have h0:=h;exact uI_ (fin (w:=FV.z) (by unfold opW;rw [he,if_neg h0]) he);have h0:=h;have hi:x_ op k a.i b.i=bb_ op k a.i b.i:=by unfold x_;rw [if_pos h0]
 have hw:opW op k a b=⟨if 9<=op/\op<=12 then 1 else k,x_ op k a.i b.i,some 0⟩:=by unfold opW opV;rw [he,if_pos h0,if_neg h5,hi]
 rw [h0]at he
 (refine a_ rfl rfl ?_ ?_<;>intro h<;>simp only [nc]at h<;>try omega)
 ·(refine a_ rfl rfl ?_ ?_<;>intro h<;>simp only [nc]at h<;>try omega)
  rw [if_pos (by omega)]at hw;exact uI_ (fin hw he);rw [if_neg (by omega)]at hw;exact uI_ (fin hw he)
 rw [if_neg (by omega)]at hw;exact uI_ (fin hw he)
def RE0 (e:Int):Nat->List AV->Prop:=λj ws=>(j=0/\e=0/\ws=[])\/(j=1/\e≠0/\ws=[.int .i64 e])
theorem yH_ (e:Int):CF Tryz.prog 113 ft113 [.int .i64 e] (RE0 e):=by
 refine vg_ (c:=B1_) (n:=300) (t:=A8_) mo ov rfl (λY _=>vD_ _) (by kernel_rfl) λY hf hg=>?_;unfold A8_
 (refine a_ rfl rfl ?_ ?_<;>intro h<;>simp only [nc]at h<;>try omega)
 exact VOK_fin rfl (.inr ⟨rfl,h,rfl⟩);exact VOK_fin rfl (.inl ⟨rfl,h,rfl⟩)
def RV (r:Except Int FV):Nat->List AV->Prop:=λj ws=>(∃v,r=.ok v/\j=0/\ws=d_ v)\/(∃e,r=.error e/\j=1/\ws=[.int .i64 e])
theorem vm_ {r:Except Int FV} {v:FV} {hv:List AV} {Y:Sy} {L:List (Nat->List AV->Prop)} (h:ab_ Y.v hv=d_ v) (hr:r=.ok v):VOK Tryz.prog (QF (RV r)) L Y (.done (.tup (.int .i64 0::hv))):=
 VOK_fin (j:=0) (by rw [h];exact okV v) (.inl ⟨v,hr,rfl,h⟩)
theorem xp_ {r:Except Int FV} {e:Int} {hv:List AV} {Y:Sy} {L:List (Nat->List AV->Prop)} (h:ab_ Y.v hv=[.int .i64 e]) (hr:r=.error e):VOK Tryz.prog (QF (RV r)) L Y (.done (.tup (.int .i64 1::hv))):=
 VOK_fin (j:=1) (by rw [h];rfl) (.inr ⟨e,hr,rfl,h⟩)
theorem p82 {k:Int} (h:2<=k/\k<=5) (v:FV) (hv:1<=v.k/\v.k<=5):CF Tryz.prog 82 ft82 (.int .i64 k::d_ v) (RV (w_ k v)):=by
 refine vg_ (c:=c82) (n:=300) (t:=t82) mo ov rfl (λY _=>vD_ _) (by kernel_rfl) λY hf hg=>?_;unfold t82
 (refine a_ rfl rfl ?_ ?_<;>intro h<;>simp only [nc]at h<;>try omega)
 .subst h
  (refine a_ rfl rfl ?_ ?_<;>intro h<;>simp only [nc]at h<;>try omega)
  exact vm_ (v:=v) rfl (by unfold w_;rw [if_pos rfl,if_pos h])
  .have h5:=h
   (refine a_ rfl rfl ?_ ?_<;>intro h<;>simp only [nc]at h<;>try omega)
   exact vw_ (xQ_ _) rfl (vm_ (v:=⟨5,0,some (FloatKind.f64.nearest v.i)⟩) rfl (by unfold w_;rw [if_pos rfl,if_neg h5]))
 have hk:2<=k/\k<=4:=by omega
 (refine a_ rfl rfl ?_ ?_<;>intro h<;>simp only [nc]at h<;>try omega)
 (refine a_ rfl rfl ?_ ?_<;>intro h<;>simp only [nc]at h<;>try omega)
 .have h5:=h;refine uH_ (CH_ hk v.f) rfl rfl ?_;refine uv_ (yH_ _) rfl ⟨?_,?_,trivial⟩
  .rintro ws (⟨_,h0,rfl⟩|⟨h0,_⟩)
   .cases hw:u_ k v.f with
    |some n=>have e2:Z_ k v.f=n:=(by unfold Z_;rw [hw];rfl);rw [←e2]at hw;exact vm_ (v:=⟨k,Z_ k v.f,some 0⟩) rfl (by unfold w_;rw [if_neg (by omega),if_pos h5,hw])
    |none=>unfold F_ at h0;rw [hw]at h0;cases h0
   cases h0
  .rintro ws (⟨h0,_⟩|⟨_,h0,rfl⟩);cases h0
   .cases hw:u_ k v.f with
    |some n=>unfold F_ at h0;rw [hw]at h0;exact absurd rfl h0
    |none=>have e1:F_ k v.f=7:=(by unfold F_;rw [hw];rfl);exact xp_ (e:=7) (by rw [←e1];rfl) (by unfold w_;rw [if_neg (by omega),if_pos h5,hw])
 have h5:=h;exact uH_ (zk_ _ _) rfl rfl (vm_ (v:=⟨k,s_ k v.i,some 0⟩) rfl (by unfold w_;rw [if_neg (by omega),if_neg h5]))
def opX (op:Int) (a b:FV):Except Int FV:=if opE op a.k b=0 then .ok (opV op a.k a b)else .error (opE op a.k b)
theorem p83 {op:Int} {a b:FV} {l:List FV} (ho:OpK op a.k) (ha:TV a) (h0:∃h:0<l.length,l[0]=a) (h1:∃h:l.length-1<l.length,l[l.length-1]=b) (hl:l.length<=2):CF Tryz.prog 83 ft83 [.int .i64 op,c_ l] (RV (opX op a b)):=by
 obtain ⟨q0,e0⟩:=h0;obtain ⟨q1,e1⟩:=h1;refine vg_ (c:=c83) (n:=300) (t:=t83) mo ov rfl (λY _=>vD_ _) (by kernel_rfl) λY hf hg=>?_;unfold t83;refine vw_ (vT_ l (i:=0) q0) (oL_ okV _) (ve_ (vU_ l q0) rfl (okV _) (vw_ (qZ_ l) rfl ?_));refine vw_ (y_ (z:=((l.length-1:Nat):Int)) (by omega) (by omega) (by omega)) rfl (vw_ (vT_ l q1) (oL_ okV _) (ve_ (vU_ l q1) rfl (okV _) ?_));rw [e0,e1]
 (refine a_ rfl rfl ?_ ?_<;>intro h<;>simp only [nc]at h<;>try omega)
 .have h5:=h;have hr:=xb_ (h5▸ho);have hw:opX op a b=.ok (wn_ op a.f b.f):=(by unfold opX opE opV;rw [if_pos h5,if_pos rfl,if_pos h5]);rw [xO_ hr]at hw;refine uH_ (CI_ op a.f b.f hr) rfl (by simp only [okL,okC,vN_]) (vw_ rfl rfl (vd_ (t:=false) rfl (λh=>by cases h) (λ_=>?_)))
  (refine a_ rfl rfl ?_ ?_<;>intro h<;>simp only [nc]at h<;>try omega)
  ·(refine a_ rfl rfl ?_ ?_<;>intro h<;>simp only [nc]at h<;>try omega)
   rw [if_pos (by omega)]at hw;exact uH_ (AX_ _) rfl rfl (vm_ rfl hw);rw [if_neg (by omega)]at hw;exact vm_ (v:=⟨5,0,xc_ op a.f b.f⟩) rfl hw
  rw [if_neg (by omega)]at hw;exact vm_ (v:=⟨5,0,xc_ op a.f b.f⟩) rfl hw
 have h5:=h;refine uH_ (CJ_ op a.k a.i b.i ho h5) rfl rfl ?_;have he:opE op a.k b=aY_ op b.i:=by unfold opE;rw [if_neg h5]
 refine uv_ (yH_ _) rfl ⟨?_,?_,trivial⟩
 .rintro ws (⟨_,h0,rfl⟩|⟨h0,_⟩)
  .have hi:x_ op a.k a.i b.i=bb_ op a.k a.i b.i:=(by unfold x_;rw [if_pos h0]);have hw:opX op a b=.ok ⟨if 9<=op/\op<=12 then 1 else a.k,x_ op a.k a.i b.i,some 0⟩:=by unfold opX opV;rw [he,if_pos h0,if_neg h5,hi]
   (refine a_ rfl rfl ?_ ?_<;>intro h<;>simp only [nc]at h<;>try omega)
   ·(refine a_ rfl rfl ?_ ?_<;>intro h<;>simp only [nc]at h<;>try omega)
    .rw [if_pos (by omega)]at hw;have ht:tI (decide (¬x_ op a.k a.i b.i=0))=x_ op a.k a.i b.i:=by rw [hi,by_ (by omega)];cases x1_ op a.i b.i<;>rfl
     refine vw_ (run_neq ..) rfl (uH_ (AX_ _) rfl rfl (vm_ (v:=⟨1,tI (decide (¬x_ op a.k a.i b.i=0)),some 0⟩) ?_ (by rw [ht];exact hw)));by_cases hb:x_ op a.k a.i b.i=0<;>simp [hb]<;>rfl
    rw [if_neg (by omega)]at hw;exact vm_ (v:=⟨a.k,x_ op a.k a.i b.i,some 0⟩) rfl hw
   rw [if_neg (by omega)]at hw;exact vm_ (v:=⟨a.k,x_ op a.k a.i b.i,some 0⟩) rfl hw
  cases h0
 rintro ws (⟨h0,_⟩|⟨_,h0,rfl⟩);cases h0;exact xp_ (e:=aY_ op b.i) rfl (by unfold opX;rw [he,if_neg h0])
end Go.Proofs.YtjconanknjgpnaaGreat.vars
set_option maxRecDepth 100000
set_option linter.unusedVariables false
set_option linter.unusedSimpArgs false
namespace Go.Proofs.YtjconanknjgpnaaGreat.vars
open Go Go.Sx
def zj_ (r:Except Int FV):FV:=match r with
 | .ok v=>v
 | .error _=>FV.z
def zi_ (r:Except Int FV):Int:=match r with
 | .ok _=>0
 | .error e=>e
def OUT (r:Except Int FV):AV:=.tup [.agg (d_ (zj_ r)),.int .i64 (zi_ r)]
theorem zU_ (k:Int) (v:FV):AV.tup [.agg (d_ (vk_ k v)),.int .i64 (vi_ k v)]=OUT (w_ k v):=by unfold vk_ vi_ OUT zj_ zi_;cases w_ k v<;>rfl
theorem AR_ (op:Int) (a b:FV):AV.tup [.agg (d_ (opW op a.k a b)),.int .i64 (opE op a.k b)]=OUT (opX op a b):=by unfold opW opX OUT zj_ zi_;split;rename_i h;rw [h];rfl
theorem W_ (l:List FV) (s:FV) (hl:l.length<=100000):(XOp.app 3 24).run Tryz.prog [c_ l,.agg (d_ s)]=some (c_ (l++[s])):=
 ua_ wA_ (by decide) (by decide) l s (by omega)
def v7_ (mem:List FV) (args:List GX) (acc:List FV) (i:Nat):Prop:=i_ mem args=(match i_ mem (args.drop i)with
 | .error e=>.error e
 | .ok l=>.ok (acc++l))
theorem w0_ (mem:List FV) (args:List GX):v7_ mem args [] 0:=by unfold v7_;rw [List.drop_zero];cases i_ mem args<;>rfl
theorem wc_ {mem:List FV} {args:List GX} {acc:List FV} {i:Nat} {e:Int} (h:v7_ mem args acc i) (hi:i<args.length) (he:f_ mem args[i]=.error e):i_ mem args=.error e:=by unfold v7_ at h;rw [h,List.drop_eq_getElem_cons hi,i_,he]
theorem wd_ {mem:List FV} {args:List GX} {acc:List FV} {i:Nat} {v:FV} (h:v7_ mem args acc i) (hi:i<args.length) (he:f_ mem args[i]=.ok v):v7_ mem args (acc++[v]) (i+1):=by
 unfold v7_ at*;rw [h,List.drop_eq_getElem_cons hi,i_,he];cases i_ mem (args.drop (i+1))with
 |error e=>rfl
 |ok l=>simp
theorem wo_ {mem:List FV} {args:List GX} {acc:List FV} (h:v7_ mem args acc args.length):i_ mem args=.ok acc:=by unfold v7_ at h;rw [List.drop_length,i_]at h;simpa using h
theorem hT_ {mem:List FV} {op kd:Int} {nm fd:List UInt8} {ad n vk vi:Int} {vf:Nat} {args:List GX} (h1:op≠1) (h2:op≠2) {l:List FV} (h:i_ mem args=.ok l):f_ mem (.mk op kd nm fd ad n vk vi vf args)=T_ mem op kd ad n (l.headD FV.z) (l.getLastD FV.z):=by rw [f_,if_neg h1,if_neg h2,h]
theorem sl_ {mem:List FV} {op kd:Int} {nm fd:List UInt8} {ad n vk vi:Int} {vf:Nat} {args:List GX} (h1:op≠1) (h2:op≠2) {e:Int} (h:i_ mem args=.error e):f_ mem (.mk op kd nm fd ad n vk vi vf args)=.error e:=by rw [f_,if_neg h1,if_neg h2,h]
theorem wF_ {mem:List FV} {op kd:Int} {nm fd:List UInt8} {ad n vk vi:Int} {vf:Nat} {args:List GX} (h1:op=1):f_ mem (.mk op kd nm fd ad n vk vi vf args)=.ok ⟨vk,vi,some vf⟩:=by rw [f_,if_pos h1]
theorem wg_ {mem:List FV} {op kd:Int} {nm fd:List UInt8} {ad n vk vi:Int} {vf:Nat} {args:List GX} (h1:op=2):f_ mem (.mk op kd nm fd ad n vk vi vf args)=.ok (cell mem ad):=by rw [f_,if_neg (by omega),if_pos h1]
theorem z7_ {op:Int} {a:FV} (b c:FV) (h:op=15\/op=16) (ho:OpK op a.k):opX op a b=opX op a c:=by
 have e:∀d:FV,opE op a.k d=0:=λd=>by unfold opE;split;rfl;exact M_ (by omega)
 have v:opV op a.k a b=opV op a.k a c:=by
  unfold opV;split;rename_i h5;have h16:op=16:=(by unfold OpK at ho;omega);subst h16;rfl
  .rcases h with rfl|rfl<;>rfl
 unfold opX;rw [if_pos (e b),if_pos (e c),v]
def xX_:GX->List AV
 | .mk op kd nm fd ad n vk vi vf args=>[.int .i64 kd,.str nm,.str fd,.int .i64 ad,.int .i64 n,.int .i64 vk,.int .i64 vi,.flt .f64 vf,L_ args]
theorem yp_ (y:GX) (r:List AV):(XOp.faddr 49 1).run Tryz.prog [.vptr (k_ y++r)]=some (.vptr (xX_ y++r)):=by obtain ⟨yo,yk',ynm,yfd,yad,yn,yvk,yvi,yvf,ya⟩:=y;rfl
theorem xM_ (y:GX):okL (xX_ y)=true:=by obtain ⟨yo,yk',ynm,yfd,yad,yn,yvk,yvi,yvf,ya⟩:=y;simp only [xX_,okL,okC,okA]
theorem xa_ (y:GX) (r:List AV):(XOp.load 3).run Tryz.prog [.vptr (xX_ y++r)]=some (.int .i64 y.kd):=by obtain ⟨yo,yk',ynm,yfd,yad,yn,yvk,yvi,yvf,ya⟩:=y;exact s1_ Tryz.underlying3 rfl _ _
theorem vE_ {l:List GX} {k:Int} (h:l.map GX.kd=[k]):∃y,l=[y]/\y.kd=k:=by
 match l,h with
 |[],h=>cases h
 |[a],h=>exact ⟨a,rfl,by simpa using h⟩
 |_::_::_,h=>simp at h
theorem yA_ {l:List GX} {k m:Int} (h:l.map GX.kd=[k,m]):∃y z,l=[y,z]/\y.kd=k/\z.kd=m:=by
 match l,h with
 |[],h=>cases h
 |[a],h=>simp at h
 |[a,b],h=>exact ⟨a,b,rfl,by simpa using h⟩
 |_::_::_::_,h=>simp at h
end Go.Proofs.YtjconanknjgpnaaGreat.vars
set_option linter.unusedVariables false
set_option linter.unusedSimpArgs false
namespace Go.Sx
section
variable {P:Program} {t:TypeId} {ti:TypeInfo} {α:Type} {enc:α->List AV} {w:Nat}
theorem run_ldx1 {d:TypeDesc} (ht:P.underlying t=some d) (ha:lR_ d=false) (hw:∀a,(enc a).length=w) {l:List α} {i:Nat} (hi:i<l.length) {off:Nat} {v:AV} {p r:List AV} (he:enc l[i]=p++(v::r)) (hp:p.length=off) (k:IntKind):(XOp.ldx t w off).run P [c2_ enc w l,.int k (i:Int)]=some v:=by
 obtain ⟨a,b,e1,e2,_⟩:=xm_ hw l hi;obtain ⟨x0,l',rfl⟩:∃x l',l=x::l':=by cases l with|nil=>simp at hi|cons x l'=>exact ⟨x,l',rfl⟩
 show bl_ P (qi_ (cf_ enc (x0::l'))) t (.ptr 0 (i*w+off))=_;unfold bl_;simp only [ht,ha];have hg:(qi_ (cf_ enc (x0::l'))).get 0=some (.cells (cf_ enc (x0::l'))):=rfl;unfold aU_;simp only [hg];have hd:af_ (i*w+off) (cf_ enc (x0::l'))=v::(r++b):=by rw [as_,e1,he,←e2,←hp];rw [show a++(p++v::r++b)=(a++p)++(v::(r++b)) by simp [List.append_assoc]];rw [←List.length_append,List.drop_left]
 rw [hd];rfl
theorem run_ldxN {d:TypeDesc} (ht:P.underlying t=some d) (ha:lR_ d=true) (hinf:P.info? t=some ti) (hs:ti.size=w) (hw:∀a,(enc a).length=w) {l:List α} {i:Nat} (hi:i<l.length) (k:IntKind):(XOp.ldx t w 0).run P [c2_ enc w l,.int k (i:Int)]=some (.agg (enc l[i])):=by
 obtain ⟨a,b,e1,e2,_⟩:=xm_ hw l hi;obtain ⟨x0,l',rfl⟩:∃x l',l=x::l':=by cases l with|nil=>simp at hi|cons x l'=>exact ⟨x,l',rfl⟩
 show bl_ P (qi_ (cf_ enc (x0::l'))) t (.ptr 0 (i*w+0))=_;unfold bl_;simp only [ht,ha,hinf];have hg:(qi_ (cf_ enc (x0::l'))).get 0=some (.cells (cf_ enc (x0::l'))):=rfl;unfold aU_;simp only [hg];have hd:af_ (i*w+0) (cf_ enc (x0::l'))=enc (x0::l')[i]++b:=by rw [as_,e1,Nat.add_zero,←e2,List.drop_left]
 have hl:ti.size=(enc (x0::l')[i]).length:=by rw [hs,hw]
 rw [hd,hl,hL_]
end
end Go.Sx
set_option maxRecDepth 100000
set_option linter.unusedVariables false
set_option linter.unusedSimpArgs false
namespace Go.Proofs.YtjconanknjgpnaaGreat.vars
open Go Go.Sx
def c81:VC:=⟨⟨[],[]⟩,[],[],2,true,[(49,s6_),(113,ft113)]⟩
def t81:VT:=Li Qa [76,J 0] 77<|.lt Qd [77] 78 (some 10)<|.callF 49 s6_ [64,65,66,78,79,80,81,82,83,84,85,86,87] 88 (.cons 3 (It Z2 [102,J 0] 104 (.callF 113 ft113 [J 6] 105 (.cons 0 (Li Qv [71,102] 106<|Dn [106]) (.cons 1 (.done (.tup [J 1,106])) .nil)))<|It Qo [102,72] 105 (.callF 113 ft113 [J 6] 106 (.cons 0 (Li Qv [71,102] 107<|Dn [107]) (.cons 1 (.done (.tup [J 1,107])) .nil)))<|Li Qv [71,102] 106<|Dn [106]) (.cons 1 (.done (.tup [J 1,101])) .nil))
def c49:VC:=⟨⟨[],[]⟩,[],[(1,[⟨[(49,.slx 0 0 0),(0,.ptr 0 0),(5,.slx 4 3 1),(47,76),(3,.ptr 2 0),(4,.ptr 3 0),(48,81)],[(0,[.ptx 1 64 3 0,65,66]),(2,[67,68,69,70,71,72,73,74,75,76]),(3,[J 0,J 0,.flt .f64 0])],5,2,[⟨4,3,1,5,none⟩],[],[(1,64)]⟩])],2,true,[(49,s6_),(81,x3_),(82,ft82),(83,ft83)]⟩
def t49:VT:=Iq 67 1 77 (Dn [73,74,75])<|Iq 67 2 78 (Li Q1 [64,71] 79<|.lt Q9 [64,79] 80 (some 3)<|Dn [80,81,82])<|Iq 67 3 79 (.callF 81 x3_ [64,65,66,67,68,69,70,71,72,73,74,75,76] 80 (.cons 1 (Li Q1 [64,93] 94<|.lt Q9 [64,94] 95 (some 3)<|Dn [95,96,97]) (.cons 1 (.done (.tup [J 1,93])) .nil)))<|Iq 67 17 80 (Li Qa [76,J 0] 81<|.lt Qd [81] 82 (some 10)<|.callF 49 s6_ [64,65,66,82,83,84,85,86,87,88,89,90,91] 92 (.cons 3 (.callF 82 ft82 [68,105,106,107] 108 (.cons 3 (Dn [112,113,114]) (.cons 1 (.done (.tup [J 1,112])) .nil))) (.cons 1 (.done (.tup [J 1,105])) .nil)))<|Li Qe [76] 81<|.loop 82 0 [J 0,.nsl] (.cons 2 (It Q4 [82,81] 84 (Li Qa [76,82] 85<|.lt Qd [85] 86 (some 10)<|.callF 49 s6_ [64,65,66,86,87,88,89,90,91,92,93,94,95] 96 (.cons 3 (Li Qg [83,.agg [109,110,111]] 112<|Li Q2 [82,J 1] 113<|.again 0 0 [113,112]) (.cons 1 (.done (.tup [J 1,109])) .nil)))<|.callF 83 ft83 [67,83] 85 (.cons 3 (Dn [87,88,89]) (.cons 1 (.done (.tup [J 1,87])) .nil))) .nil)
theorem D_ (l:List FV) {i:Nat} (hi:i<l.length):(XOp.inb).run Tryz.prog [c_ l,.int .i64 (i:Int)]=some (.int .i64 (i:Int)):=zn_ (enc:=d_) hi .i64
theorem vV_ (l:List FV) {i:Nat} (hi:i<l.length):(XOp.ldx 46 3 0).run Tryz.prog [c_ l,.int .i64 (i:Int)]=some (.agg (d_ l[i])):=
 run_ldxN (ti:=(Tryz.prog.info? 46).get!) Tryz.underlying46 rfl (by kernel_rfl) (by kernel_rfl) wA_ hi .i64
def MR (mem:List FV) (now left:Int):List AV:=[c_ mem,.int .i64 now,.int .i64 left]
theorem zf_ (mem:List FV) (now left:Int) {l:List AV} (h:okL l=true):okL (MR mem now left++l)=true:=oL_.okL_join (by simp only [MR,okL,okC,C_]) h
theorem wB_ (mem:List FV) (now left:Int) (x:GX):okL (MR mem now left++k_ x)=true:=zf_ _ _ _ (okX x)
def RP (mem:List FV) (x:GX):Nat->List AV->Prop:=λj ws=>(match x with| .mk op kd nm fd ad n vk vi vf args=>∃a,i_ mem args=.ok [a]/\0<=a.i/\a.i<n/\j=0/\ws=[.int .i64 (ad+a.i)])\/(∃e,f_ mem x=.error e/\j=1/\ws=[.int .i64 e])
def P49 (mem:List FV) (now left:Int) (d:Nat):Prop:=∀x,TX d x->CF Tryz.prog 49 s6_ (MR mem now left++k_ x) (RV (f_ mem x))
theorem b9_ {mem:List FV} {y:GX} {v:FV} (h:f_ mem y=.ok v):i_ mem [y]=.ok [v]:=by simp only [i_,h]
theorem rK_ {mem:List FV} {y:GX} {e:Int} (h:f_ mem y=.error e):i_ mem [y]=.error e:=by simp only [i_,h]
theorem p81 {mem:List FV} {now left:Int} {d:Nat} (hm:MemOk mem) (ih:P49 mem now left d) {op kd:Int} {nm fd:List UInt8} {ad n vk vi:Int} {vf:Nat} {args:List GX} (hx:TX (d+1) (.mk op kd nm fd ad n vk vi vf args)) (h3:op=3):
  CF Tryz.prog 81 x3_ (MR mem now left++k_ (.mk op kd nm fd ad n vk vi vf args)) (RP mem (.mk op kd nm fd ad n vk vi vf args)):=by
 have n1:op≠1:=by omega
 have n2:op≠2:=by omega
 obtain ⟨q1,q2,q3,k,q4,q5⟩:=hx.2.2.2.2.1.2.2.1 h3;obtain ⟨y,rfl,yk⟩:=vE_ q4;have hy:=hx.2.2.2.2.2 y (List.mem_singleton.2 rfl);have hz:=ih y hy;have hX:∀a,f_ mem y=.ok a->f_ mem (.mk op kd nm fd ad n vk vi vf [y])=(if a.i<0\/n<=a.i then .error 6 else .ok (cell mem (ad+a.i))):=λa ha=>by rw [hT_ n1 n2 (b9_ ha)];show T_ mem op kd ad n a a=_;rw [T_,if_pos h3]
 refine vg_ (c:=c81) (n:=300) (t:=t81) mo ov rfl (λY _=>vD_ _) (by kernel_rfl) λY hf hg=>?_;unfold t81;refine vw_ (m_ [y] (i:=0) (by simp)) (oL_ okX _) ?_;have hld:=q_ [y] (i:=0) (by simp);rcases hzz:y with ⟨zo,zk,znm,zfd,zad,zn,zvk,zvi,zvf,za⟩;rw [hzz]at hld hz hX;refine ve_ hld rfl (okX _) (uv_ hz (wB_ mem now left (.mk zo zk znm zfd zad zn zvk zvi zvf za)) ⟨?_,?_,trivial⟩)
 .rintro ws (⟨a,ha,_,rfl⟩|⟨_,_,h0,_⟩)
  ·(refine a_ rfl rfl ?_ ?_<;>intro h<;>simp only [nc]at h<;>try omega)
   refine uv_ (yH_ 6) rfl ⟨?_,?_,trivial⟩;rintro ws (⟨_,h0,_⟩|⟨h0,_⟩);cases h0;cases h0;rintro ws (⟨h0,_⟩|⟨_,_,rfl⟩);cases h0;exact VOK_fin rfl (.inr ⟨6,by rw [hX a ha,if_pos (.inl h)],rfl,rfl⟩)
   (refine a_ rfl rfl ?_ ?_<;>intro h<;>simp only [nc]at h<;>try omega)
   refine uv_ (yH_ 6) rfl ⟨?_,?_,trivial⟩;rintro ws (⟨_,h0,_⟩|⟨h0,_⟩);cases h0;cases h0;rintro ws (⟨h0,_⟩|⟨_,_,rfl⟩);cases h0;exact VOK_fin rfl (.inr ⟨6,by rw [hX a ha,if_pos (.inr h)],rfl,rfl⟩);exact vw_ (g_ (by omega) (by omega)) rfl (VOK_fin rfl (.inl ⟨a,by rw [b9_ ha],by omega,by omega,rfl,rfl⟩))
  cases h0
 rintro ws (⟨_,_,h0,_⟩|⟨e,he,_,rfl⟩);cases h0;exact VOK_fin rfl (.inr ⟨e,sl_ n1 n2 (rK_ he),rfl,rfl⟩)
theorem p49 {mem:List FV} (hm:MemOk mem) (now left:Int):∀d:Nat,P49 mem now left d
 |0,_,h=>h.elim
 |d+1,.mk op kd nm fd ad n vk vi vf args,hx=>by
  have hlen:=hm.len;have ih:=p49 hm now left d;have hA:=hx.1;have hal:args.length<=2:=(by unfold Ari at hA;omega);have hop:=zA_ hx;refine vg_ (c:=c49) (n:=300) (t:=t49) mo ov rfl (λY _=>vD_ _) (by kernel_rfl) λY hf hg=>?_;unfold t49
  (refine a_ rfl rfl ?_ ?_<;>intro h<;>simp only [nc]at h<;>try omega)
  exact vm_ (v:=⟨vk,vi,some vf⟩) rfl (wF_ h);have n1:=h
  (refine a_ rfl rfl ?_ ?_<;>intro h<;>simp only [nc]at h<;>try omega)
  obtain ⟨_,_,a0,a1⟩:=wT_ hm hx h;obtain ⟨m,rfl⟩:∃m:Nat,ad=(m:Int):=⟨ad.toNat,by omega⟩;have hml:m<mem.length:=(by omega);refine vw_ (D_ mem hml) rfl (ve_ (vV_ mem hml) rfl (okV _) ?_);exact vm_ (v:=mem[m]) rfl (by rw [wg_ h,vv_ hml]);have n2:=h
  (refine a_ rfl rfl ?_ ?_<;>intro h<;>simp only [nc]at h<;>try omega)
  have e3:=h;refine uv_ (p81 hm ih hx e3) (wB_ mem now left (.mk op kd nm fd ad n vk vi vf args)) ⟨?_,?_,trivial⟩;rintro ws (⟨a,ha,a0,a1,_,rfl⟩|⟨_,_,h0,_⟩);obtain ⟨q1,q2,_⟩:=hx.2.2.2.2.1.2.2.1 e3;obtain ⟨m,em⟩:∃m:Nat,ad+a.i=(m:Int):=⟨(ad+a.i).toNat,by omega⟩;have hml:m<mem.length:=(by omega);rw [em];refine vw_ (D_ mem hml) rfl (ve_ (vV_ mem hml) rfl (okV _) ?_);refine vm_ (v:=mem[m]) rfl ?_;rw [hT_ n1 n2 ha];show T_ mem op kd ad n a a=_;rw [T_,if_pos e3,if_neg (by omega),em,vv_ hml];cases h0;rintro ws (⟨_,_,_,_,h0,_⟩|⟨e,he,_,rfl⟩);cases h0;exact xp_ rfl he;have n3:=h
  (refine a_ rfl rfl ?_ ?_<;>intro h<;>simp only [nc]at h<;>try omega)
  have e17:=h;obtain ⟨q1,q2,k,q4,q5,q6⟩:=hx.2.2.2.2.1.2.2.2.2.2.2 e17;obtain ⟨y,rfl,yk⟩:=vE_ q4;have hy:=hx.2.2.2.2.2 y (List.mem_singleton.2 rfl);have hz:=ih y hy;have hT:=R_ hm d y hy;have hX:∀a,f_ mem y=.ok a->f_ mem (.mk op kd nm fd ad n vk vi vf [y])=w_ kd a:=λa ha=>(by rw [hT_ n1 n2 (b9_ ha)];show T_ mem op kd ad n a a=_;rw [T_,if_neg n3,if_pos e17]);have hE:∀e,f_ mem y=.error e->f_ mem (.mk op kd nm fd ad n vk vi vf [y])=.error e:=λe he=>sl_ n1 n2 (rK_ he);refine vw_ (m_ [y] (i:=0) (by simp)) (oL_ okX _) ?_;have hld:=q_ [y] (i:=0) (by simp);rcases hzz:y with ⟨zo,zk,znm,zfd,zad,zn,zvk,zvi,zvf,za⟩;rw [hzz]at hld hz hX hE hT;refine ve_ hld rfl (okX _) (uv_ hz (wB_ mem now left (.mk zo zk znm zfd zad zn zvk zvi zvf za)) ⟨?_,?_,trivial⟩);rintro ws (⟨a,ha,_,rfl⟩|⟨_,_,h0,_⟩);refine uv_ (p82 ⟨q1,q2⟩ a (hT a ha).1.1.kd) (by show okL (.int .i64 kd::d_ a)=true;rw [aX_];exact okV a) ⟨?_,?_,trivial⟩;rintro ws (⟨w,hw,_,rfl⟩|⟨_,_,h0,_⟩);exact vm_ (v:=w) rfl ((hX a ha).trans hw);cases h0;rintro ws (⟨_,_,h0,_⟩|⟨e,he,_,rfl⟩);cases h0;exact xp_ rfl ((hX a ha).trans he);cases h0;rintro ws (⟨_,_,h0,_⟩|⟨e,he,_,rfl⟩);cases h0;exact xp_ rfl (hE e he);have n17:=h;refine vw_ (r_ args) rfl ?_;refine uJ_ (ι:=List FV×Nat) (λs=>[.int .i64 (s.2:Int),c_ s.1]) (λs=>s.1.length=s.2/\s.2<=args.length/\v7_ mem args s.1 s.2) (λs=>args.length-s.2) ([],0) ⟨rfl,Nat.zero_le _,w0_ _ _⟩ rfl (λs _=>by simp only [okL,okC,C_]) (λs s' _ _ h=>by simp at h;omega) (λs hs=>?_);obtain ⟨acc,i⟩:=s;obtain ⟨h1,h2,h3⟩:=hs;simp only at h1 h2 h3⊢
  (refine a_ rfl rfl ?_ ?_<;>intro h<;>simp only [nc]at h<;>try omega)
  have hi:i<args.length:=(by omega);have hld:=q_ args hi;have hz:=ih args[i] (hx.2.2.2.2.2 _ (List.getElem_mem hi));have hrx:=λv=>wd_ (v:=v) h3 hi;have hre:=λe=>wc_ (e:=e) h3 hi;rcases hzz:args[i]with ⟨zo,zk,znm,zfd,zad,zn,zvk,zvi,zvf,za⟩;rw [hzz]at hld hz hrx hre;refine vw_ (m_ args hi) (oL_ okX _) (ve_ hld rfl (okX _) (uv_ hz (wB_ mem now left (.mk zo zk znm zfd zad zn zvk zvi zvf za)) ⟨?_,?_,trivial⟩));rintro ws (⟨a,ha,_,rfl⟩|⟨_,_,h0,_⟩);exact vw_ (W_ acc a (by omega)) (C_ _) (vw_ (g_ (by omega) (by omega)) rfl (uu_ rfl ⟨(acc++[a],i+1),⟨by simp;omega,hi,hrx a ha⟩,rfl,by simp only;omega⟩));cases h0;rintro ws (⟨_,_,h0,_⟩|⟨e,he,_,rfl⟩);cases h0;exact xp_ rfl (sl_ n1 n2 (hre e he));have hi:i=args.length:=(by omega);subst hi;have hL:=wo_ h3;have hV:=tt_ (R_ hm d) args hx.2.2.2.2.2 acc hL;have hX:=hT_ (mem:=mem) (kd:=kd) (nm:=nm) (fd:=fd) (ad:=ad) (n:=n) (vk:=vk) (vi:=vi) (vf:=vf) n1 n2 hL;obtain ⟨a,b,ea,eb,ta,tb,_,_,ko,_⟩:=wj_ hm hx n1 n2 hV;obtain ⟨oK,bk,ok,hvs⟩:=ko n3 n17;rw [ea,eb,T_,if_neg n3,if_neg n17]at hX;have hX:f_ mem (.mk op kd nm fd ad n vk vi vf args)=opX op a b:=hX;have hc:CF Tryz.prog 83 ft83 [.int .i64 op,c_ acc] (RV (opX op a b)):=(by rcases hvs with ⟨rfl,hu⟩|⟨rfl,hu⟩;cases eb;exact p83 oK ta ⟨by simp,rfl⟩ ⟨by simp,rfl⟩ (by simp);exact p83 oK ta ⟨by simp,rfl⟩ ⟨by simp,rfl⟩ (by simp));refine uv_ hc (by show okL [.int .i64 op,c_ acc]=true;simp only [okL,okC,C_]) ⟨?_,?_,trivial⟩;rintro ws (⟨w,hw,_,rfl⟩|⟨_,_,h0,_⟩);exact vm_ (v:=w) rfl (hX.trans hw);cases h0;rintro ws (⟨_,_,h0,_⟩|⟨e,he,_,rfl⟩);cases h0;exact xp_ rfl (hX.trans he)
end Go.Proofs.YtjconanknjgpnaaGreat.vars
set_option maxRecDepth 100000
set_option linter.unusedVariables false
set_option linter.unusedSimpArgs false
namespace Go.Proofs.YtjconanknjgpnaaGreat.vars
open Go Go.Sx
def c72:VC:=⟨⟨[],[]⟩,[(55,[none])],[],1,true,[(39,ft39)]⟩
def t72:VT:=Cf 39 ft39 [64,65,J 13] 67 2<|Li (.iaddr 172) [.vsl 13 1 [J 0,J 1,J 2,J 3,.int .i64 (-1),J 7,J 32767,.int .i64 (-32768),J 2147483647,.int .i64 (-2147483648),J 100,J 9223372036854775807,.int .i64 (-9223372036854775808)],70] 72<|Li Z7 [72] 73<|.call 55 [66,73] 74 [none]<|Dn [74,71]
def c71:VC:=⟨⟨[],[]⟩,[],[],1,true,[(39,ft39)]⟩
def t71:VT:=Cf 39 ft39 [64,65,J 15] 66 2<|Li (.iaddr 143) [.vsl 15 1 [.flt .f64 0,.flt .f64 9223372036854775808,.flt .f64 4607182418800017408,.flt .f64 13830554455654793216,.flt .f64 4602678819172646912,.flt .f64 4612811918334230528,.flt .f64 13838998704956112896,.flt .f64 9094988921128908188,.flt .f64 2024,.flt .f64 9218868437227405312,.flt .f64 18442240474082181120,.nan .f64,.flt .f64 4674736413210574848,.flt .f64 4891288408196988160,.flt .f64 4636737291354636288],69] 71<|Li (.load 44) [71] 72<|Dn [72,70]
def c40:VC:=⟨⟨[],[]⟩,[],[],1,true,[(39,ft39),(71,ft71),(72,zX_)]⟩
def t40:VT:=Iq 66 1 67 (Cf 39 ft39 [64,65,J 2] 68 2<|Dn [J 1,71,.flt .f64 0,72])<|Iq 66 5 68 (Cf 71 ft71 [64,65] 69 2<|Dn [J 5,J 0,71,72])<|Cf 72 zX_ [64,65,66] 69 2<|Dn [66,72,.flt .f64 0,73]
def c15:VC:=⟨⟨[],[]⟩,[],[(0,[⟨[(4,.slx 0 0 0),(3,.slx 134 3 2),(0,.ptr 0 0)],[(0,[64,.slx 1 0 0])],135,3,[⟨134,3,2,3,none⟩],[],[]⟩])],1,true,[(39,ft39),(40,ft40)]⟩
def t15:VT:=.loop 66 0 [J 0,65,.vsl 21 3 [J 2,J 0,.flt .f64 0,J 1,J 0,.flt .f64 0,J 2,J 0,.flt .f64 0,J 1,J 0,.flt .f64 0,J 2,J 5,.flt .f64 0,J 3,J 0,.flt .f64 0,J 5,J 0,.flt .f64 0,J 4,J 0,.flt .f64 0,J 2,J 0,.flt .f64 0,J 2,J 0,.flt .f64 0,J 2,J 0,.flt .f64 0,J 2,J 0,.flt .f64 0,J 1,J 0,.flt .f64 0,J 4,J 0,.flt .f64 0,J 1,J 0,.flt .f64 0,J 4,J 0,.flt .f64 0,J 1,J 0,.flt .f64 0,J 2,J 0,.flt .f64 0,J 1,J 0,.flt .f64 0,J 1,J 0,.flt .f64 0,J 1,J 0,.flt .f64 0]] (.cons 3 (Li Qp [68] 69<|It Q4 [66,69] 70 (Cf 39 ft39 [64,67,J 3] 71 2<|It Qc [74,J 0] 76 (Li Q1 [68,66] 77<|Li Zh [68,77] 78<|Cf 40 ft40 [64,75,78] 79 4<|Li Q1 [68,66] 86<|Li Z3 [68,86,.agg [82,83,84]] 87<|Li Q2 [66,J 1] 88<|.chk (.same 68 87)<|.again 0 0 [88,85,87])<|Li Q2 [66,J 1] 77<|.again 0 0 [77,75,68])<|Dn [68,67]) .nil)
def Cy_ (n:Int):List AV:=[.int .i64 n]
def AC_ (o:Option Nat):List AV:=[fv o]
def W13:List Int:=[0,1,2,3,-1,7,32767,-32768,2147483647,-2147483648,100,9223372036854775807,-9223372036854775808]
def R15:List (Option Nat):=[some 0,some 9223372036854775808,some 4607182418800017408,some 13830554455654793216,some 4602678819172646912,some 4612811918334230528,some 13838998704956112896,some 9094988921128908188,some 2024,some 9218868437227405312,some 18442240474082181120,none,some 4674736413210574848,some 4891288408196988160,some 4636737291354636288]
theorem zv_:∀x∈W13,-9223372036854775808<=x/\x<=9223372036854775807:=by decide
theorem p72 {l:List UInt8} {a:AV} {n:Nat} {k:Int} (hp:Pk l a) (hn:n<=l.length) (hk:2<=k/\k<=4):CF Tryz.prog 72 zX_ [a,.int .i64 (n:Int),.int .i64 k] (λ_ ws=>∃(r:Int) (n':Nat),ws=[.int .i64 r,.int .i64 (n':Int)]/\InK k r/\n'<=l.length):=by have hA:=hp.1.ok v1_;refine vg_ (c:=c72) (n:=300) (t:=t72) mo ov rfl (λY _=>vD_ _) (by kernel_rfl) λY hf hg=>?_;unfold t72;refine b_ (p39 (m:=13) hp hn (by decide) (by decide)) rfl (by simp only [okL,okC,hA]) ⟨?_,trivial⟩;rintro ws ⟨v,n',rfl,hv,hn'⟩;have hv':v<W13.length:=hv;have hi:=zv_ _ (List.getElem_mem hv');refine vw_ (run_iaddr_sl (enc:=Cy_) (w:=1) (e:=2) (ti:=(Tryz.prog.info? 2).get!) (l:=W13) Tryz.underlying172 (by kernel_rfl) (by kernel_rfl) (λ_=>rfl) hv' .i64) (oL_ (λ_=>rfl) _) ?_;rw [List.drop_eq_getElem_cons hv'];exact vw_ (s1_ Tryz.underlying2 rfl _ _) rfl (uH_ (p55 (by omega) _) rfl rfl (VOK_fin rfl ⟨_,n',rfl,ww_ (by omega) (by omega) hi.1 hi.2,hn'⟩))
theorem AJ_ (o:Option Nat) (n:Int):okL [fv o,.int .i64 n]=true:=by cases o<;>rfl
theorem p71 {l:List UInt8} {a:AV} {n:Nat} (hp:Pk l a) (hn:n<=l.length):CF Tryz.prog 71 ft71 [a,.int .i64 (n:Int)] (λ_ ws=>∃(o:Option Nat) (n':Nat),ws=[fv o,.int .i64 (n':Int)]/\n'<=l.length):=by have hA:=hp.1.ok v1_;refine vg_ (c:=c71) (n:=300) (t:=t71) mo ov rfl (λY _=>vD_ _) (by kernel_rfl) λY hf hg=>?_;unfold t71;refine b_ (p39 (m:=15) hp hn (by decide) (by decide)) rfl (by simp only [okL,okC,hA]) ⟨?_,trivial⟩;rintro ws ⟨v,n',rfl,hv,hn'⟩;have hv':v<R15.length:=hv;refine vw_ (run_iaddr_sl (enc:=AC_) (w:=1) (e:=44) (ti:=(Tryz.prog.info? 44).get!) (l:=R15) Tryz.underlying143 (by kernel_rfl) (by kernel_rfl) (λ_=>rfl) hv' .i64) (oL_ (λo=>by simp only [AC_,okL,vN_]) _) ?_;rw [List.drop_eq_getElem_cons hv'];exact vw_ (s1_ Tryz.underlying44 rfl _ _) (vN_ _) (VOK_fin (AJ_ _ _) ⟨_,n',rfl,hn'⟩)
def BR_ (l:List UInt8) (k:Int):Nat->List AV->Prop:=λ_ ws=>∃(v:FV) (n':Nat),ws=d_ v++[.int .i64 (n':Int)]/\TV v/\v.k=k/\n'<=l.length
theorem p40 {l:List UInt8} {a:AV} {n:Nat} {k:Int} (hp:Pk l a) (hn:n<=l.length) (hk:1<=k/\k<=5):CF Tryz.prog 40 ft40 [a,.int .i64 (n:Int),.int .i64 k] (BR_ l k):=by
 have hA:=hp.1.ok v1_;refine vg_ (c:=c40) (n:=300) (t:=t40) mo ov rfl (λY _=>vD_ _) (by kernel_rfl) λY hf hg=>?_;unfold t40
 (refine a_ rfl rfl ?_ ?_<;>intro h<;>simp only [nc]at h<;>try omega)
 subst h;refine b_ (p39 (m:=2) hp hn (by decide) (by decide)) rfl (by simp only [okL,okC,hA]) ⟨?_,trivial⟩;rintro ws ⟨v,n',rfl,hv,hn'⟩;exact VOK_fin rfl ⟨⟨1,v,some 0⟩,n',rfl,⟨.inl ⟨rfl,by show (0:Int)<=(v:Int);omega,by show (v:Int)<=1;omega⟩,λ_=>rfl⟩,rfl,hn'⟩
 (refine a_ rfl rfl ?_ ?_<;>intro h<;>simp only [nc]at h<;>try omega)
 subst h;refine b_ (p71 hp hn) rfl (by simp only [okL,okC,hA]) ⟨?_,trivial⟩;rintro ws ⟨o,n',rfl,hn'⟩;exact VOK_fin (xs_ ⟨5,0,o⟩ _) ⟨⟨5,0,o⟩,n',rfl,⟨.inr (.inr (.inr (.inr ⟨rfl,rfl⟩))),λh=>absurd rfl h⟩,rfl,hn'⟩;refine b_ (p72 hp hn (by omega)) rfl (by simp only [okL,okC,hA]) ⟨?_,trivial⟩;rintro ws ⟨r,n',rfl,hr,hn'⟩;exact VOK_fin rfl ⟨⟨k,r,some 0⟩,n',rfl,⟨hr,λ_=>rfl⟩,rfl,hn'⟩
def zc_:List FV:=[⟨2,0,some 0⟩,⟨1,0,some 0⟩,⟨2,0,some 0⟩,⟨1,0,some 0⟩,⟨2,5,some 0⟩,⟨3,0,some 0⟩,⟨5,0,some 0⟩,⟨4,0,some 0⟩,⟨2,0,some 0⟩,⟨2,0,some 0⟩,⟨2,0,some 0⟩,⟨2,0,some 0⟩,⟨1,0,some 0⟩,⟨4,0,some 0⟩,⟨1,0,some 0⟩,⟨4,0,some 0⟩,⟨1,0,some 0⟩,⟨2,0,some 0⟩,⟨1,0,some 0⟩,⟨1,0,some 0⟩,⟨1,0,some 0⟩]
theorem zd_:MemOk zc_:=by
 refine ⟨rfl,λv hv=>?_⟩;have:∀v∈zc_,(v.k=1\/v.k=2\/v.k=3\/v.k=4\/v.k=5)/\(v.i=0\/(v.i=5/\v.k=2))/\v.f=some 0:=by intro v hv;simp only [zc_,List.mem_cons,List.not_mem_nil,or_false]at hv;rcases hv with rfl|rfl|rfl|rfl|rfl|rfl|rfl|rfl|rfl|rfl|rfl|rfl|rfl|rfl|rfl|rfl|rfl|rfl|rfl|rfl|rfl<;>simp
 obtain ⟨h1,h2,h3⟩:=this v hv;refine ⟨?_,λ_=>h3⟩;unfold InK;omega
theorem MemOk.set {mem:List FV} (h:MemOk mem) {i:Nat} (hi:i<mem.length) {v:FV} (hv:TV v) (hk:v.k=mem[i].k):MemOk (mem.set i v):=by refine ⟨?_,λu hu=>?_⟩;rw [←h.1,List.map_set,hk];apply List.ext_getElem (by simp);intro j h1 h2;rw [List.getElem_set];split;rename_i e;subst e;simp;rfl;rcases List.mem_or_eq_of_mem_set hu with hu|rfl;exact h.2 u hu;exact hv
def BQ_ (l:List UInt8):Nat->List AV->Prop:=λ_ ws=>∃(mem:List FV) (n':Nat),ws=[c_ mem,.int .i64 (n':Int)]/\MemOk mem/\n'<=l.length
theorem yO_ (l:List FV) {i:Nat} (hi:i<l.length):(XOp.ldx 3 3 0).run Tryz.prog [c_ l,.int .i64 (i:Int)]=some (.int .i64 l[i].k):=
 run_ldx1 (enc:=d_) Tryz.underlying3 rfl wA_ hi (p:=[]) (r:=[.int .i64 l[i].i,fv l[i].f]) rfl rfl .i64
theorem ux_ (l:List FV) {i:Nat} (hi:i<l.length) (y:FV):(XOp.stx 46 3 0).run Tryz.prog [c_ l,.int .i64 (i:Int),.agg (d_ y)]=some (c_ (l.set i y)):=
 run_stx (ti:=(Tryz.prog.info? 46).get!) wA_ hi (p:=[]) (q:=d_ l[i]) (r:=[]) (xs:=d_ y) rfl (.inl rfl) (by kernel_rfl) (by rw [wA_];kernel_rfl) (vX_ (okV _)) (by simp) rfl (by rw [wA_,wA_]) (by simp) .i64
theorem uy_ (l:List FV) (i:Nat) (v:FV):(some (c_ l)=some .nsl/\some (c_ (l.set i v))=some .nsl)\/∃n z cs ds,some (c_ l)=some (.vsl n z cs)/\some (c_ (l.set i v))=some (.vsl n z ds):=by
 cases l with
 |nil=>exact .inl ⟨rfl,rfl⟩
 |cons x r=>
  cases i with
  |zero=>exact .inr ⟨_,_,_,_,rfl,rfl⟩
  |succ i=>refine .inr ⟨r.length+1,3,cf_ d_ (x::r),cf_ d_ (x::r.set i v),rfl,?_⟩;show some (AV.vsl ((r.set i v).length+1) 3 _)=_;rw [List.length_set]
theorem p15 {l:List UInt8} {a:AV} {n:Nat} (hp:Pk l a) (hn:n<=l.length):CF Tryz.prog 15 ft15 [a,.int .i64 (n:Int)] (BQ_ l):=by
 have hA:=hp.1.ok v1_;refine vg_ (c:=c15) (n:=300) (t:=t15) mo ov rfl (λY _=>vD_ _) (by kernel_rfl) λY hf hg=>?_;unfold t15;refine uJ_ (ι:=Nat×Nat×List FV) (λs=>[.int .i64 (s.1:Int),.int .i64 (s.2.1:Int),c_ s.2.2]) (λs=>s.1<=21/\s.2.1<=l.length/\MemOk s.2.2) (λs=>21-s.1) (0,n,zc_) ⟨Nat.zero_le _,hn,zd_⟩ rfl (λs _=>by simp only [okL,okC,C_]) (λs s' _ _ h=>by simp at h;omega) (λs hs=>?_);obtain ⟨i,m,mem⟩:=s;obtain ⟨h1,h2,h3⟩:=hs;simp only at h1 h2 h3⊢;have hlen:=h3.len;refine vw_ (qZ_ mem) rfl ?_
 (refine a_ rfl rfl ?_ ?_<;>intro h<;>simp only [nc]at h<;>try omega)
 .have hi:i<mem.length:=(by omega);refine b_ (p39 (n:=m) (m:=3) hp h2 (by decide) (by decide)) rfl (by simp only [okL,okC,hA]) ⟨?_,trivial⟩;rintro ws ⟨v,n',rfl,hv,hn'⟩
  (refine a_ rfl rfl ?_ ?_<;>intro h<;>simp only [nc]at h<;>try omega)
  have ⟨q1,q2⟩:=(h3.2 mem[i] (List.getElem_mem hi)).1.kd;refine vw_ (D_ mem hi) rfl (vw_ (yO_ mem hi) rfl ?_);refine b_ (p40 hp hn' ⟨q1,q2⟩) rfl (by simp only [okL,okC,hA]) ⟨?_,trivial⟩;rintro ws ⟨w,n2,rfl,tw,wk,hn2⟩;refine vw_ (D_ mem hi) rfl (vw_ (ux_ mem hi w) (C_ _) (vw_ (g_ (by omega) (by omega)) rfl ?_));refine vc_ (uy_ mem i w) (uu_ rfl ⟨(i+1,n2,mem.set i w),⟨by omega,hn2,h3.set hi tw wk⟩,rfl,by simp only;omega⟩);exact vw_ (g_ (by omega) (by omega)) rfl (uu_ rfl ⟨(i+1,n',mem),⟨by omega,hn',h3⟩,rfl,by simp only;omega⟩)
 exact VOK_fin (by show okL [c_ mem,.int .i64 (m:Int)]=true;simp only [okL,okC,C_]) ⟨mem,m,rfl,h3,h2⟩
def REv (r:Except Int FV):Nat->List AV->Prop:=λ_ ws=>ws=d_ (zj_ r)++[.int .i64 (zi_ r)]
end Go.Proofs.YtjconanknjgpnaaGreat.vars
set_option maxRecDepth 100000
set_option linter.unusedVariables false
set_option linter.unusedSimpArgs false
namespace Go.Proofs.YtjconanknjgpnaaGreat.vars
open Go Go.Sx
def B2_:VC:=⟨⟨[],[]⟩,[(153,[(some 10),none,none]),(154,[(some 10)])],[],0,true,[(121,ft121)]⟩
def A9_:VT:=Cf 121 ft121 [64,76,77,78,79,80,81,82,83,84,85] 92 11<|It Q5 [113,J 0] 114 (Dn [65,66,67,68,69,70,71,72,73,74,75,76,77,78,79,80,81,82,83,84,85,86,87,88,89,90,91,113])<|Cf 121 ft121 [64,66,67,68,69,70,71,72,73,74,75] 115 11<|It Q5 [136,J 0] 137 (Dn [65,66,67,68,69,70,71,72,73,74,75,76,77,78,79,80,81,82,83,84,85,86,87,88,89,90,91,136])<|.call 153 [64,68] 138 [(some 10),none,none]<|It (.bin .neq 9 false true) [69,.str []] 150 (Dn [65,66,67,68,69,70,71,72,73,74,75,76,77,78,79,80,81,82,83,84,85,86,87,88,89,90,91,J 4])<|Iq 139 1 151 (Dn [65,66,67,68,69,70,71,72,73,74,75,76,77,78,79,80,81,82,83,84,85,86,87,88,89,90,91,J 13])<|.call 154 [.agg [103,104,105,106,107,108,109,110,111,112],127] 152 [(some 10)]<|It Q7 [153,127] 162 (Dn [65,66,67,68,69,70,71,72,73,74,75,76,77,78,79,80,81,82,83,84,85,86,87,88,89,90,91,J 4])<|Dn [65,126,127,128,129,130,131,132,133,134,135,152,153,154,155,156,157,158,159,160,161,86,87,88,89,90,91,J 0]
def B3_:VC:=⟨⟨[],[]⟩,[(153,[(some 10),none,none]),(154,[(some 10)]),(53,[none])],[(0,[⟨[(4,.ptr 1 0),(3,.ptr 0 0),(9,.slx 3 1 0),(10,.slx 4 10 1),(11,.slx 2 0 0),(0,64),(7,102),(6,.ptr 2 0)],[(1,[J 0,J 0,J 0,.str [],.str [],J 0,J 0,J 0,J 0,.flt .f64 0,.nsl,J 0,J 0,.str [],.str [],J 0,J 0,J 0,J 0,.flt .f64 0,.nsl,.nsl,.nsl,.str [],J 0,J 0,.nsl]),(0,[65,66,67,68,69,70,71,72,73,74,75,76,77,78,79,80,81,82,83,84,85,86,87,88,89,90,91]),(2,[92,93,94,95,96,97,98,99,100,101])],5,3,[⟨3,1,0,9,none⟩,⟨4,10,1,10,none⟩],[],[]⟩]),(2,[⟨[(4,.ptr 1 0),(3,.ptr 0 0),(14,.slx 0 0 0),(9,.slx 3 1 1),(10,.slx 4 10 2),(6,.ptr 2 0),(7,102)],[(1,[J 0,J 0,J 0,.str [],.str [],J 0,J 0,J 0,J 0,.flt .f64 0,.nsl,J 0,J 0,.str [],.str [],J 0,J 0,J 0,J 0,.flt .f64 0,.nsl,.nsl,.nsl,.str [],J 0,J 0,.nsl]),(0,[65,66,67,68,69,70,71,72,73,74,75,76,77,78,79,80,81,82,83,84,85,86,87,88,89,90,91]),(2,[92,93,94,95,96,97,98,99,100,101])],5,3,[⟨3,1,1,9,none⟩,⟨4,10,2,10,none⟩],[],[]⟩])],0,true,[(121,ft121)]⟩
def Ba_:VT:=.call 153 [64,88] 92 [(some 10),none,none]<|It Q3 [103] 104 (Dn [65,66,67,68,69,70,71,72,73,74,75,76,77,78,79,80,81,82,83,84,85,86,87,88,89,90,91,J 3])<|.call 53 [94] 105 [none]<|It Z6 [105,J 2] 106 (Dn [65,66,67,68,69,70,71,72,73,74,75,76,77,78,79,80,81,82,83,84,85,86,87,88,89,90,91,J 4])<|Iq 94 9 107 (Iq 94 11 108 (.loop 109 0 [.vsl 1 1 [J 1],.nsl,J 0] (.cons 3 (Li Qe [91] 112<|It Q4 [111,112] 113 (Li Qa [91,111] 114<|.lt Qd [114] 115 (some 10)<|Cf 121 ft121 [64,115,116,117,118,119,120,121,122,123,124] 125 11<|It Q5 [146,J 0] 147 (Dn [65,66,67,68,69,70,71,72,73,74,75,76,77,78,79,80,81,82,83,84,85,86,87,88,89,90,91,146])<|Li Qf [109] 148<|It Q4 [111,148] 149 (Li Q1 [109,111] 150<|Li Qn [109,150] 151<|.call 154 [.agg [136,137,138,139,140,141,142,143,144,145],151] 152 [(some 10)]<|Li Qj [110,.agg [152,153,154,155,156,157,158,159,160,161]] 162<|Li Q2 [111,J 1] 163<|.again 0 0 [109,162,163])<|Li Qj [110,.agg [136,137,138,139,140,141,142,143,144,145]] 150<|Li Q2 [111,J 1] 151<|.again 0 0 [109,150,151])<|Li Qe [110] 114<|Li Qf [109] 115<|It Q7 [114,115] 116 (Dn [65,66,67,68,69,70,71,72,73,74,75,76,77,78,79,80,81,82,83,84,85,86,87,88,89,90,91,J 4])<|.loop 117 0 [J 0,109,110] (.cons 3 (Li Qf [118] 120<|It Q4 [117,120] 121 (Li Q1 [119,117] 122<|Li Qi [119,122] 123<|Li Q1 [118,117] 124<|Li Qn [118,124] 125<|It Q7 [123,125] 126 (Dn [65,66,67,68,69,70,71,72,73,74,75,76,77,78,79,80,81,82,83,84,85,86,87,88,89,90,91,J 4])<|Li Q2 [117,J 1] 127<|.again 1 0 [127,118,119])<|Dn [65,66,67,68,69,70,71,72,73,74,75,76,77,78,79,80,81,82,83,84,85,86,87,88,94,102,119,J 0]) .nil)) .nil))<|Iq 94 12 109 (.loop 110 0 [.vsl 1 1 [J 1],.nsl,J 0] (.cons 3 (Li Qe [91] 113<|It Q4 [112,113] 114 (Li Qa [91,112] 115<|.lt Qd [115] 116 (some 10)<|Cf 121 ft121 [64,116,117,118,119,120,121,122,123,124,125] 126 11<|It Q5 [147,J 0] 148 (Dn [65,66,67,68,69,70,71,72,73,74,75,76,77,78,79,80,81,82,83,84,85,86,87,88,89,90,91,147])<|Li Qf [110] 149<|It Q4 [112,149] 150 (Li Q1 [110,112] 151<|Li Qn [110,151] 152<|.call 154 [.agg [137,138,139,140,141,142,143,144,145,146],152] 153 [(some 10)]<|Li Qj [111,.agg [153,154,155,156,157,158,159,160,161,162]] 163<|Li Q2 [112,J 1] 164<|.again 0 0 [110,163,164])<|Li Qj [111,.agg [137,138,139,140,141,142,143,144,145,146]] 151<|Li Q2 [112,J 1] 152<|.again 0 0 [110,151,152])<|Li Qe [111] 115<|Li Qf [110] 116<|It Q7 [115,116] 117 (Dn [65,66,67,68,69,70,71,72,73,74,75,76,77,78,79,80,81,82,83,84,85,86,87,88,89,90,91,J 4])<|.loop 118 0 [J 0,110,111] (.cons 3 (Li Qf [119] 121<|It Q4 [118,121] 122 (Li Q1 [120,118] 123<|Li Qi [120,123] 124<|Li Q1 [119,118] 125<|Li Qn [119,125] 126<|It Q7 [124,126] 127 (Dn [65,66,67,68,69,70,71,72,73,74,75,76,77,78,79,80,81,82,83,84,85,86,87,88,89,90,91,J 4])<|Li Q2 [118,J 1] 128<|.again 1 0 [128,119,120])<|Dn [65,66,67,68,69,70,71,72,73,74,75,76,77,78,79,80,81,82,83,84,85,86,87,88,94,102,120,J 0]) .nil)) .nil))<|.loop 110 0 [.vsl 2 1 [J 1,J 2],.nsl,J 0] (.cons 3 (Li Qe [91] 113<|It Q4 [112,113] 114 (Li Qa [91,112] 115<|.lt Qd [115] 116 (some 10)<|Cf 121 ft121 [64,116,117,118,119,120,121,122,123,124,125] 126 11<|It Q5 [147,J 0] 148 (Dn [65,66,67,68,69,70,71,72,73,74,75,76,77,78,79,80,81,82,83,84,85,86,87,88,89,90,91,147])<|Li Qf [110] 149<|It Q4 [112,149] 150 (Li Q1 [110,112] 151<|Li Qn [110,151] 152<|.call 154 [.agg [137,138,139,140,141,142,143,144,145,146],152] 153 [(some 10)]<|Li Qj [111,.agg [153,154,155,156,157,158,159,160,161,162]] 163<|Li Q2 [112,J 1] 164<|.again 0 0 [110,163,164])<|Li Qj [111,.agg [137,138,139,140,141,142,143,144,145,146]] 151<|Li Q2 [112,J 1] 152<|.again 0 0 [110,151,152])<|Li Qe [111] 115<|Li Qf [110] 116<|It Q7 [115,116] 117 (Dn [65,66,67,68,69,70,71,72,73,74,75,76,77,78,79,80,81,82,83,84,85,86,87,88,89,90,91,J 4])<|.loop 118 0 [J 0,110,111] (.cons 3 (Li Qf [119] 121<|It Q4 [118,121] 122 (Li Q1 [120,118] 123<|Li Qi [120,123] 124<|Li Q1 [119,118] 125<|Li Qn [119,125] 126<|It Q7 [124,126] 127 (Dn [65,66,67,68,69,70,71,72,73,74,75,76,77,78,79,80,81,82,83,84,85,86,87,88,89,90,91,J 4])<|Li Q2 [118,J 1] 128<|.again 1 0 [128,119,120])<|Dn [65,66,67,68,69,70,71,72,73,74,75,76,77,78,79,80,81,82,83,84,85,86,87,88,94,102,120,J 0]) .nil)) .nil))<|Iq 94 10 108 (Iq 94 11 109 (.loop 110 0 [.vsl 1 1 [J 1],.nsl,J 0] (.cons 3 (Li Qe [91] 113<|It Q4 [112,113] 114 (Li Qa [91,112] 115<|.lt Qd [115] 116 (some 10)<|Cf 121 ft121 [64,116,117,118,119,120,121,122,123,124,125] 126 11<|It Q5 [147,J 0] 148 (Dn [65,66,67,68,69,70,71,72,73,74,75,76,77,78,79,80,81,82,83,84,85,86,87,88,89,90,91,147])<|Li Qf [110] 149<|It Q4 [112,149] 150 (Li Q1 [110,112] 151<|Li Qn [110,151] 152<|.call 154 [.agg [137,138,139,140,141,142,143,144,145,146],152] 153 [(some 10)]<|Li Qj [111,.agg [153,154,155,156,157,158,159,160,161,162]] 163<|Li Q2 [112,J 1] 164<|.again 0 0 [110,163,164])<|Li Qj [111,.agg [137,138,139,140,141,142,143,144,145,146]] 151<|Li Q2 [112,J 1] 152<|.again 0 0 [110,151,152])<|Li Qe [111] 115<|Li Qf [110] 116<|It Q7 [115,116] 117 (Dn [65,66,67,68,69,70,71,72,73,74,75,76,77,78,79,80,81,82,83,84,85,86,87,88,89,90,91,J 4])<|.loop 118 0 [J 0,110,111] (.cons 3 (Li Qf [119] 121<|It Q4 [118,121] 122 (Li Q1 [120,118] 123<|Li Qi [120,123] 124<|Li Q1 [119,118] 125<|Li Qn [119,125] 126<|It Q7 [124,126] 127 (Dn [65,66,67,68,69,70,71,72,73,74,75,76,77,78,79,80,81,82,83,84,85,86,87,88,89,90,91,J 4])<|Li Q2 [118,J 1] 128<|.again 1 0 [128,119,120])<|Dn [65,66,67,68,69,70,71,72,73,74,75,76,77,78,79,80,81,82,83,84,85,86,87,88,94,102,120,J 0]) .nil)) .nil))<|Iq 94 12 110 (.loop 111 0 [.vsl 1 1 [J 1],.nsl,J 0] (.cons 3 (Li Qe [91] 114<|It Q4 [113,114] 115 (Li Qa [91,113] 116<|.lt Qd [116] 117 (some 10)<|Cf 121 ft121 [64,117,118,119,120,121,122,123,124,125,126] 127 11<|It Q5 [148,J 0] 149 (Dn [65,66,67,68,69,70,71,72,73,74,75,76,77,78,79,80,81,82,83,84,85,86,87,88,89,90,91,148])<|Li Qf [111] 150<|It Q4 [113,150] 151 (Li Q1 [111,113] 152<|Li Qn [111,152] 153<|.call 154 [.agg [138,139,140,141,142,143,144,145,146,147],153] 154 [(some 10)]<|Li Qj [112,.agg [154,155,156,157,158,159,160,161,162,163]] 164<|Li Q2 [113,J 1] 165<|.again 0 0 [111,164,165])<|Li Qj [112,.agg [138,139,140,141,142,143,144,145,146,147]] 152<|Li Q2 [113,J 1] 153<|.again 0 0 [111,152,153])<|Li Qe [112] 116<|Li Qf [111] 117<|It Q7 [116,117] 118 (Dn [65,66,67,68,69,70,71,72,73,74,75,76,77,78,79,80,81,82,83,84,85,86,87,88,89,90,91,J 4])<|.loop 119 0 [J 0,111,112] (.cons 3 (Li Qf [120] 122<|It Q4 [119,122] 123 (Li Q1 [121,119] 124<|Li Qi [121,124] 125<|Li Q1 [120,119] 126<|Li Qn [120,126] 127<|It Q7 [125,127] 128 (Dn [65,66,67,68,69,70,71,72,73,74,75,76,77,78,79,80,81,82,83,84,85,86,87,88,89,90,91,J 4])<|Li Q2 [119,J 1] 129<|.again 1 0 [129,120,121])<|Dn [65,66,67,68,69,70,71,72,73,74,75,76,77,78,79,80,81,82,83,84,85,86,87,88,94,102,121,J 0]) .nil)) .nil))<|.loop 111 0 [.vsl 2 1 [J 1,J 2],.nsl,J 0] (.cons 3 (Li Qe [91] 114<|It Q4 [113,114] 115 (Li Qa [91,113] 116<|.lt Qd [116] 117 (some 10)<|Cf 121 ft121 [64,117,118,119,120,121,122,123,124,125,126] 127 11<|It Q5 [148,J 0] 149 (Dn [65,66,67,68,69,70,71,72,73,74,75,76,77,78,79,80,81,82,83,84,85,86,87,88,89,90,91,148])<|Li Qf [111] 150<|It Q4 [113,150] 151 (Li Q1 [111,113] 152<|Li Qn [111,152] 153<|.call 154 [.agg [138,139,140,141,142,143,144,145,146,147],153] 154 [(some 10)]<|Li Qj [112,.agg [154,155,156,157,158,159,160,161,162,163]] 164<|Li Q2 [113,J 1] 165<|.again 0 0 [111,164,165])<|Li Qj [112,.agg [138,139,140,141,142,143,144,145,146,147]] 152<|Li Q2 [113,J 1] 153<|.again 0 0 [111,152,153])<|Li Qe [112] 116<|Li Qf [111] 117<|It Q7 [116,117] 118 (Dn [65,66,67,68,69,70,71,72,73,74,75,76,77,78,79,80,81,82,83,84,85,86,87,88,89,90,91,J 4])<|.loop 119 0 [J 0,111,112] (.cons 3 (Li Qf [120] 122<|It Q4 [119,122] 123 (Li Q1 [121,119] 124<|Li Qi [121,124] 125<|Li Q1 [120,119] 126<|Li Qn [120,126] 127<|It Q7 [125,127] 128 (Dn [65,66,67,68,69,70,71,72,73,74,75,76,77,78,79,80,81,82,83,84,85,86,87,88,89,90,91,J 4])<|Li Q2 [119,J 1] 129<|.again 1 0 [129,120,121])<|Dn [65,66,67,68,69,70,71,72,73,74,75,76,77,78,79,80,81,82,83,84,85,86,87,88,94,102,121,J 0]) .nil)) .nil))<|Iq 94 11 109 (.loop 110 0 [.vsl 1 1 [J 1],.nsl,J 0] (.cons 3 (Li Qe [91] 113<|It Q4 [112,113] 114 (Li Qa [91,112] 115<|.lt Qd [115] 116 (some 10)<|Cf 121 ft121 [64,116,117,118,119,120,121,122,123,124,125] 126 11<|It Q5 [147,J 0] 148 (Dn [65,66,67,68,69,70,71,72,73,74,75,76,77,78,79,80,81,82,83,84,85,86,87,88,89,90,91,147])<|Li Qf [110] 149<|It Q4 [112,149] 150 (Li Q1 [110,112] 151<|Li Qn [110,151] 152<|.call 154 [.agg [137,138,139,140,141,142,143,144,145,146],152] 153 [(some 10)]<|Li Qj [111,.agg [153,154,155,156,157,158,159,160,161,162]] 163<|Li Q2 [112,J 1] 164<|.again 0 0 [110,163,164])<|Li Qj [111,.agg [137,138,139,140,141,142,143,144,145,146]] 151<|Li Q2 [112,J 1] 152<|.again 0 0 [110,151,152])<|Li Qe [111] 115<|Li Qf [110] 116<|It Q7 [115,116] 117 (Dn [65,66,67,68,69,70,71,72,73,74,75,76,77,78,79,80,81,82,83,84,85,86,87,88,89,90,91,J 4])<|.loop 118 0 [J 0,110,111] (.cons 3 (Li Qf [119] 121<|It Q4 [118,121] 122 (Li Q1 [120,118] 123<|Li Qi [120,123] 124<|Li Q1 [119,118] 125<|Li Qn [119,125] 126<|It Q7 [124,126] 127 (Dn [65,66,67,68,69,70,71,72,73,74,75,76,77,78,79,80,81,82,83,84,85,86,87,88,89,90,91,J 4])<|Li Q2 [118,J 1] 128<|.again 1 0 [128,119,120])<|Dn [65,66,67,68,69,70,71,72,73,74,75,76,77,78,79,80,81,82,83,84,85,86,87,88,94,102,120,J 0]) .nil)) .nil))<|Iq 94 12 110 (.loop 111 0 [.vsl 1 1 [J 1],.nsl,J 0] (.cons 3 (Li Qe [91] 114<|It Q4 [113,114] 115 (Li Qa [91,113] 116<|.lt Qd [116] 117 (some 10)<|Cf 121 ft121 [64,117,118,119,120,121,122,123,124,125,126] 127 11<|It Q5 [148,J 0] 149 (Dn [65,66,67,68,69,70,71,72,73,74,75,76,77,78,79,80,81,82,83,84,85,86,87,88,89,90,91,148])<|Li Qf [111] 150<|It Q4 [113,150] 151 (Li Q1 [111,113] 152<|Li Qn [111,152] 153<|.call 154 [.agg [138,139,140,141,142,143,144,145,146,147],153] 154 [(some 10)]<|Li Qj [112,.agg [154,155,156,157,158,159,160,161,162,163]] 164<|Li Q2 [113,J 1] 165<|.again 0 0 [111,164,165])<|Li Qj [112,.agg [138,139,140,141,142,143,144,145,146,147]] 152<|Li Q2 [113,J 1] 153<|.again 0 0 [111,152,153])<|Li Qe [112] 116<|Li Qf [111] 117<|It Q7 [116,117] 118 (Dn [65,66,67,68,69,70,71,72,73,74,75,76,77,78,79,80,81,82,83,84,85,86,87,88,89,90,91,J 4])<|.loop 119 0 [J 0,111,112] (.cons 3 (Li Qf [120] 122<|It Q4 [119,122] 123 (Li Q1 [121,119] 124<|Li Qi [121,124] 125<|Li Q1 [120,119] 126<|Li Qn [120,126] 127<|It Q7 [125,127] 128 (Dn [65,66,67,68,69,70,71,72,73,74,75,76,77,78,79,80,81,82,83,84,85,86,87,88,89,90,91,J 4])<|Li Q2 [119,J 1] 129<|.again 1 0 [129,120,121])<|Dn [65,66,67,68,69,70,71,72,73,74,75,76,77,78,79,80,81,82,83,84,85,86,87,88,94,102,121,J 0]) .nil)) .nil))<|.loop 111 0 [.vsl 2 1 [J 1,J 4],.nsl,J 0] (.cons 3 (Li Qe [91] 114<|It Q4 [113,114] 115 (Li Qa [91,113] 116<|.lt Qd [116] 117 (some 10)<|Cf 121 ft121 [64,117,118,119,120,121,122,123,124,125,126] 127 11<|It Q5 [148,J 0] 149 (Dn [65,66,67,68,69,70,71,72,73,74,75,76,77,78,79,80,81,82,83,84,85,86,87,88,89,90,91,148])<|Li Qf [111] 150<|It Q4 [113,150] 151 (Li Q1 [111,113] 152<|Li Qn [111,152] 153<|.call 154 [.agg [138,139,140,141,142,143,144,145,146,147],153] 154 [(some 10)]<|Li Qj [112,.agg [154,155,156,157,158,159,160,161,162,163]] 164<|Li Q2 [113,J 1] 165<|.again 0 0 [111,164,165])<|Li Qj [112,.agg [138,139,140,141,142,143,144,145,146,147]] 152<|Li Q2 [113,J 1] 153<|.again 0 0 [111,152,153])<|Li Qe [112] 116<|Li Qf [111] 117<|It Q7 [116,117] 118 (Dn [65,66,67,68,69,70,71,72,73,74,75,76,77,78,79,80,81,82,83,84,85,86,87,88,89,90,91,J 4])<|.loop 119 0 [J 0,111,112] (.cons 3 (Li Qf [120] 122<|It Q4 [119,122] 123 (Li Q1 [121,119] 124<|Li Qi [121,124] 125<|Li Q1 [120,119] 126<|Li Qn [120,126] 127<|It Q7 [125,127] 128 (Dn [65,66,67,68,69,70,71,72,73,74,75,76,77,78,79,80,81,82,83,84,85,86,87,88,89,90,91,J 4])<|Li Q2 [119,J 1] 129<|.again 1 0 [129,120,121])<|Dn [65,66,67,68,69,70,71,72,73,74,75,76,77,78,79,80,81,82,83,84,85,86,87,88,94,102,121,J 0]) .nil)) .nil)
def c78:VC:=⟨⟨[],[]⟩,[],[],0,true,[(121,ft121),(119,yr_),(120,ys_),(46,ft46)]⟩
def t78:VT:=Iq 65 1 92 (Cf 119 yr_ [64,65,66,67,68,69,70,71,72,73,74,75,76,77,78,79,80,81,82,83,84,85,86,87,88,89,90,91] 93 28<|Dn [121,122,123,124,125,126,127,128,129,130,131,132,133,134,135,136,137,138,139,140,141,142,143,144,145,146,147,148])<|Iq 65 4 93 (Cf 120 ys_ [64,65,66,67,68,69,70,71,72,73,74,75,76,77,78,79,80,81,82,83,84,85,86,87,88,89,90,91] 94 28<|Dn [122,123,124,125,126,127,128,129,130,131,132,133,134,135,136,137,138,139,140,141,142,143,144,145,146,147,148,149])<|Cf 121 ft121 [64,76,77,78,79,80,81,82,83,84,85] 94 11<|It Q5 [115,J 0] 116 (Dn [65,66,67,68,69,70,71,72,73,74,75,76,77,78,79,80,81,82,83,84,85,86,87,88,89,90,91,115])<|It Q6 [106,J 1] 117 (Dn [65,66,67,68,69,70,71,72,73,74,75,76,77,78,79,80,81,82,83,84,85,86,87,88,89,90,91,J 4])<|Cf 46 ft46 [64,86] 118 2<|It Q5 [121,J 0] 122 (Dn [65,66,67,68,69,70,71,72,73,74,75,105,106,107,108,109,110,111,112,113,114,120,87,88,89,90,91,121])<|Cf 46 ft46 [64,87] 123 2<|Dn [65,66,67,68,69,70,71,72,73,74,75,105,106,107,108,109,110,111,112,113,114,120,125,88,89,90,91,126]
def c46:VC:=⟨⟨[],[]⟩,[],[(0,[⟨[(6,.slx 0 27 0),(7,.slx 1 0 0),(1,65),(0,64)],[],1,2,[⟨0,27,0,6,none⟩],[],[]⟩])],0,true,[(78,ft78)]⟩
def t46:VT:=.loop 66 0 [.nsl,J 0] (.cons 2 (Li Za [65] 68<|It Q4 [67,68] 69 (Li Qx [65,67] 70<|.lt Zq [70] 71 (some 27)<|Cf 78 ft78 [64,71,72,73,74,75,76,77,78,79,80,81,82,83,84,85,86,87,88,89,90,91,92,93,94,95,96,97] 98 28<|It Q5 [153,J 0] 154 (Dn [.nsl,153])<|Li Zm [66,.agg [126,127,128,129,130,131,132,133,134,135,136,137,138,139,140,141,142,143,144,145,146,147,148,149,150,151,152]] 155<|Li Q2 [67,J 1] 156<|.again 0 0 [155,156])<|Dn [66,J 0]) .nil)
theorem za_ {nm fd:List UInt8} (h:(nm,fd)∈wi_\/nm=[107]):∃(s:List UInt8) (r k z a b:Int) (c:Nat) (d e:Int) (f:Nat) (g:Int),jz_ Tryz.prog 153 [VARS,.str nm] (.tup [.agg [.str s,.int .i64 r,.int .i64 k,.int .i64 z,.int .i64 a,.int .i64 b,.flt .f64 c,.int .i64 d,.int .i64 e,.flt .f64 f],.int .i64 g,.bool true])/\(nm,r)∈yM_:=by rcases h with h|rfl;simp only [wi_,List.mem_cons,Prod.mk.injEq,List.not_mem_nil,or_false]at h;rcases h with ⟨rfl,rfl⟩|⟨rfl,rfl⟩|⟨rfl,rfl⟩|⟨rfl,rfl⟩|⟨rfl,rfl⟩|⟨rfl,rfl⟩|⟨rfl,rfl⟩|⟨rfl,rfl⟩|⟨rfl,rfl⟩|⟨rfl,rfl⟩|⟨rfl,rfl⟩;exact ⟨_,_,_,_,_,_,_,_,_,_,_,yy_,by decide⟩;exact ⟨_,_,_,_,_,_,_,_,_,_,_,xF_,by decide⟩;exact ⟨_,_,_,_,_,_,_,_,_,_,_,S_,by decide⟩;exact ⟨_,_,_,_,_,_,_,_,_,_,_,yx_,by decide⟩;exact ⟨_,_,_,_,_,_,_,_,_,_,_,xH_,by decide⟩;exact ⟨_,_,_,_,_,_,_,_,_,_,_,xE_,by decide⟩;exact ⟨_,_,_,_,_,_,_,_,_,_,_,xr_,by decide⟩;exact ⟨_,_,_,_,_,_,_,_,_,_,_,xI_,by decide⟩;exact ⟨_,_,_,_,_,_,_,_,_,_,_,S_,by decide⟩;exact ⟨_,_,_,_,_,_,_,_,_,_,_,xG_,by decide⟩;exact ⟨_,_,_,_,_,_,_,_,_,_,_,xJ_,by decide⟩;exact ⟨_,_,_,_,_,_,_,_,_,_,_,wY_,by decide⟩
def Blk (kd ad:Int) (ks:List Int):Prop:=(kd=6/\ad=12/\ks=[1,4])\/(kd=9/\ad=16/\ks=[1,2])\/(kd=11/\ad=19/\ks=[1])
def TS:Nat->GS->Prop
 |0,_=>False
 |d+1,.mk op to e thn els nm kd ad args=>
  (op=1/\TX 5 to/\(to.op=2/\(to.ad,to.kd)∈wrL\/to.op=3)/\TX 6 e/\e.kd=to.kd/\thn=[]/\els=[])\/
  ((op=2\/op=3)/\TX 5 e/\e.kd=1/\thn.length<=5/\els.length<=5/\(∀s∈thn,TS d s)/\∀s∈els,TS d s)\/
  (op=4/\Blk kd ad (args.map GX.kd)/\(∀a∈args,TX 5 a)/\thn=[]/\els=[])
def LK (x y:GS):Prop:=match x,y with
 | .mk op to ..,.mk op' to' .. =>op=1->op'=1/\NT to to'
def RT (d:Nat) (x:GS):Nat->List AV->Prop:=λ_ ws=>∃(y:GS) (e:Int),ws=v_ y++[.int .i64 e]/\(e=0->TS d y/\LK x y)
def LKs (l y:List GS):Prop:=∀(j:Nat) (h1:j<l.length) (h2:j<y.length),LK l[j] y[j]
def RU (d:Nat) (l:List GS):Nat->List AV->Prop:=λ_ ws=>∃(y:List GS) (e:Int),ws=[A_ y,.int .i64 e]/\(e=0->y.length=l.length/\(∀s∈y,TS d s)/\LKs l y)
theorem Q_ {d j:Nat} {x y:GS} {e:Int} {hv:List AV} {Y:Sy} {L:List (Nat->List AV->Prop)} (h:ab_ Y.v hv=v_ y++[.int .i64 e]) (hw:e=0->TS d y/\LK x y):VOK Tryz.prog (QF (RT d x)) L Y (.done (.tup (.int .i64 (.ofNat j)::hv))):=
 VOK_fin (by rw [h];exact AO_ y e) ⟨y,e,h,hw⟩
theorem x8_ (x:GX):okL (VARS::k_ x)=true:=by rw [aX_];exact okX x
theorem z4_ (x:GS):okL (VARS::v_ x)=true:=by rw [aX_];exact okS x
theorem CF_ (d:Nat) (to e:GX) (thn els:List GS) (nm:List UInt8) (kd ad:Int) (args:List GX) (ht:WX 5 to) (ho:to.op=2\/to.op=3) (he:WX 6 e) (hnil:thn=[]/\els=[]):
  CF Tryz.prog 119 yr_ (VARS::v_ (.mk 1 to e thn els nm kd ad args)) (RT (d+1) (.mk 1 to e thn els nm kd ad args)):=by
 have h1:=xv_ 5 to ht;have h2:=xv_ 6 e he;obtain ⟨to1,to2,to3,to4,to5,to6,to7,to8,to9,to10⟩:=to;obtain ⟨e1,e2,e3,e4,e5,e6,e7,e8,e9,e10⟩:=e;refine vg_ (c:=B2_) (n:=300) (t:=A9_) mo ov rfl (λY _=>vD_ _) (by kernel_rfl) λY hf hg=>?_;unfold A9_;refine b_ h2 rfl (x8_ _) ⟨?_,trivial⟩;rintro ws ⟨⟨y1,y2,y3,y4,y5,y6,y7,y8,y9,y10⟩,er,rfl,hy⟩
 (refine a_ rfl rfl ?_ ?_<;>intro h<;>simp only [nc]at h<;>try omega)
 ·(exact Q_ (y:=.mk _ (.mk ..) (.mk ..) _ _ _ _ _ _) rfl (λhe=>absurd he (by first|assumption|decide)))
 have hy:=(hy h).1;refine b_ h1 rfl (x8_ _) ⟨?_,trivial⟩;rintro ws ⟨⟨z1,z2,z3,z4,z5,z6,z7,z8,z9,z10⟩,er2,rfl,hz⟩
 (refine a_ rfl rfl ?_ ?_<;>intro h<;>simp only [nc]at h<;>try omega)
 ·(exact Q_ (y:=.mk _ (.mk ..) (.mk ..) _ _ _ _ _ _) rfl (λhe=>absurd he (by first|assumption|decide)))
 have hz:=hz h;obtain ⟨s,r,k,z,a,b,c,d',e',f,g,hp,hro⟩:=za_ (nm:=to3) (fd:=to4) (by
  have ht':Nod to1 to2 to3 to4 to7 to8 to9:=ht.2.2.1;rcases ho with ho|ho;exact .inl (ht'.2.1 ho)
  .exact .inr (ht'.2.2.1 ho))
 refine uH_ hp rfl rfl ?_;refine vw_ (vq_ ..) rfl (vd_ rfl (λh=>?_) (λhfd=>?_))
 ·(exact Q_ (y:=.mk _ (.mk ..) (.mk ..) _ _ _ _ _ _) rfl (λhe=>absurd he (by first|assumption|decide)))
 (refine a_ rfl rfl ?_ ?_<;>intro h<;>simp only [nc]at h<;>try omega)
 ·(exact Q_ (y:=.mk _ (.mk ..) (.mk ..) _ _ _ _ _ _) rfl (λhe=>absurd he (by first|assumption|decide)))
 have hr1:=h;obtain ⟨⟨yo1,yk1,ynm1,yfd1,yad1,yn1,yvk1,yvi1,yvf1,ya1⟩,hp1,hy1⟩:=yb_ _ z2 hy;refine uH_ hp1 rfl (x9_ _) ?_
 (refine a_ rfl rfl ?_ ?_<;>intro h<;>simp only [nc]at h<;>try omega)
 ·(exact Q_ (y:=.mk _ (.mk ..) (.mk ..) _ _ _ _ _ _) rfl (λhe=>absurd he (by first|assumption|decide)))
 rcases ho with ho|ho;exact Q_ (y:=.mk 1 (.mk ..) (.mk ..) _ _ _ _ _ _) rfl (λ_=>⟨.inl ⟨rfl,hz.1,.inl ⟨hz.2.1.trans ho,tie_wr _ (hz.2.2 ho) _ hro (by simpa using hfd) rfl hr1⟩,hy1,h,hnil⟩,λ_=>⟨rfl,hz.2.2⟩⟩);exact Q_ (y:=.mk 1 (.mk ..) (.mk ..) _ _ _ _ _ _) rfl (λ_=>⟨.inl ⟨rfl,hz.1,.inr (hz.2.1.trans ho),hy1,h,hnil⟩,λ_=>⟨rfl,hz.2.2⟩⟩)
theorem x0_ {d:Nat} {acc:List GX} {y:GX} (h:∀a∈acc,TX d a) (hy:TX d y):∀a∈acc++[y],TX d a:=λa ha=>by rcases List.mem_append.1 ha with ha|ha;exact h a ha;cases List.mem_singleton.1 ha;exact hy
theorem CG_ (d:Nat) (to e:GX) (thn els:List GS) (nm:List UInt8) (kd ad:Int) (args:List GX) (hn:nm=[116,109]\/nm=[99]\/nm=[101]) (hl:args.length<=2) (hW:∀a∈args,WX 5 a) (hnil:thn=[]/\els=[]):
  CF Tryz.prog 120 ys_ (VARS::v_ (.mk 4 to e thn els nm kd ad args)) (RT (d+1) (.mk 4 to e thn els nm kd ad args)):=by
 obtain ⟨to1,to2,to3,to4,to5,to6,to7,to8,to9,to10⟩:=to;obtain ⟨e1,e2,e3,e4,e5,e6,e7,e8,e9,e10⟩:=e;refine vg_ (c:=B3_) (n:=300) (t:=Ba_) mo ov rfl (λY _=>vD_ _) (by kernel_rfl) λY hf hg=>?_;unfold Ba_;rcases hn with rfl|rfl|rfl
 .refine uH_ S_ rfl rfl (vw_ rfl rfl (vd_ rfl (λh=>by cases h) (λ_=>uH_ yw_ rfl rfl ?_)))
  (refine a_ rfl rfl ?_ ?_<;>intro h<;>simp only [nc]at h<;>try omega);(refine a_ rfl rfl ?_ ?_<;>intro h<;>simp only [nc]at h<;>try omega);(refine a_ rfl rfl ?_ ?_<;>intro h<;>simp only [nc]at h<;>try omega);(refine a_ rfl rfl ?_ ?_<;>intro h<;>simp only [nc]at h<;>try omega);(refine a_ rfl rfl ?_ ?_<;>intro h<;>simp only [nc]at h<;>try omega)
  (
   refine uJ_ (ι:=List GX×Nat) (λs=>[(.vsl 2 1 [.int .i64 1,.int .i64 4]),L_ s.1,.int .i64 (s.2:Int)]) (λs=>s.1.length=s.2/\s.2<=args.length/\∀a∈s.1,TX 5 a) (λs=>args.length-s.2) ([],0) ⟨rfl,Nat.zero_le _,λa ha=>(List.not_mem_nil ha).elim⟩ rfl (λs _=>by simp only [okL,okC,okA]) (λs s' _ _ h=>by simp at h;omega) (λs hs=>?_);obtain ⟨acc,i⟩:=s;obtain ⟨h1,h2,h3⟩:=hs;simp only at h1 h2 h3⊢;refine vw_ (r_ args) rfl ?_
   (refine a_ rfl rfl ?_ ?_<;>intro h<;>simp only [nc]at h<;>try omega)
   .have hi:i<args.length:=(by omega);have hld:=q_ args hi;have hz:=xv_ 5 args[i] (hW _ (List.getElem_mem hi));rcases hzz:args[i]with ⟨zo,zk,znm,zfd,zad,zn,zvk,zvi,zvf,za⟩;rw [hzz]at hld hz;refine vw_ (m_ args hi) (oL_ okX _) (ve_ hld rfl (okX _) ?_);refine b_ hz rfl (x8_ _) ⟨?_,trivial⟩;rintro ws ⟨⟨yo,yk,ynm,yfd,yad,yn,yvk,yvi,yvf,ya⟩,e,rfl,hy⟩
    (refine a_ rfl rfl ?_ ?_<;>intro h<;>simp only [nc]at h<;>try omega)
    ·(exact Q_ (y:=.mk _ (.mk ..) (.mk ..) _ _ _ _ _ _) rfl (λhe=>absurd he (by first|assumption|decide)))
    have hy:=(hy h).1;refine vw_ (r:=.int .i64 2) rfl rfl ?_
    (refine a_ rfl rfl ?_ ?_<;>intro h<;>simp only [nc]at h<;>try omega)
    all_goals first
     |(have hi2:i=0\/i=1:=by omega
       rcases hi2 with rfl|rfl;all_goals try (exfalso;omega)
       all_goals
        refine vw_ rfl rfl (vw_ rfl rfl ?_);obtain ⟨⟨yo1,yk1,ynm1,yfd1,yad1,yn1,yvk1,yvi1,yvf1,ya1⟩,hp1,hy1⟩:=yb_ _ _ hy;refine uH_ hp1 rfl (x9_ _) ?_;refine vw_ (H_ acc (.mk yo1 yk1 ynm1 yfd1 yad1 yn1 yvk1 yvi1 yvf1 ya1) (by omega)) (okA _) (vw_ (g_ (by omega) (by omega)) rfl (uu_ rfl ⟨(acc++[_],_),⟨by rw [List.length_append,h1];rfl,hi,x0_ h3 hy1⟩,rfl,by simp only;omega⟩)))
     |exact vw_ (H_ acc (.mk yo yk ynm yfd yad yn yvk yvi yvf ya) (by omega)) (okA _) (vw_ (g_ (by omega) (by omega)) rfl (uu_ rfl ⟨(acc++[_],i+1),⟨by rw [List.length_append,h1];rfl,hi,x0_ h3 hy⟩,rfl,by simp only;omega⟩))
   have hi:i=args.length:=(by omega);subst hi;refine vw_ (r_ acc) rfl (vw_ (r:=.int .i64 2) rfl rfl ?_))
  (refine a_ rfl rfl ?_ ?_<;>intro h<;>simp only [nc]at h<;>try omega)
  ·(exact Q_ (y:=.mk _ (.mk ..) (.mk ..) _ _ _ _ _ _) rfl (λhe=>absurd he (by first|assumption|decide)))
  have ha:acc.length=2:=(by have h':(acc.length:Int)=2:=h;omega);obtain ⟨y,z,rfl⟩:∃y z,acc=[y,z]:=by
   rcases acc with _|⟨y,_|⟨z,_|⟨w,t⟩⟩⟩<;>simp at ha
   exact ⟨y,z,rfl⟩
  obtain ⟨y1,y2,y3,y4,y5,y6,y7,y8,y9,y10⟩:=y;obtain ⟨z1,z2,z3,z4,z5,z6,z7,z8,z9,z10⟩:=z;refine uJ_ (ι:=Nat) (λi=>[.int .i64 (i:Int),.vsl 2 1 [.int .i64 1,.int .i64 4],L_ [.mk y1 y2 y3 y4 y5 y6 y7 y8 y9 y10,.mk z1 z2 z3 z4 z5 z6 z7 z8 z9 z10]]) (λi=>i<=2/\(1<=i->y2=1)/\(2<=i->z2=4)) (λi=>2-i) 0 ⟨by decide,λh=>by omega,λh=>by omega⟩ rfl (λs _=>by simp only [okL,okC,okA]) (λs s' _ _ h=>by simp at h;omega) (λi hi=>?_);obtain ⟨i1,i2,i3⟩:=hi;refine vw_ (r:=.int .i64 2) rfl rfl ?_
  (refine a_ rfl rfl ?_ ?_<;>intro h<;>simp only [nc]at h<;>try omega)
  .have hi2:i=0\/i=1:=(by omega);rcases hi2 with rfl|rfl
   .refine vw_ (r:=.int .i64 0) rfl rfl (vw_ (r:=.int .i64 y2) rfl rfl (vw_ (r:=.int .i64 0) rfl rfl (vw_ (r:=.int .i64 1) rfl rfl ?_)))
    (refine a_ rfl rfl ?_ ?_<;>intro h<;>simp only [nc]at h<;>try omega)
    ·(exact Q_ (y:=.mk _ (.mk ..) (.mk ..) _ _ _ _ _ _) rfl (λhe=>absurd he (by first|assumption|decide)))
    exact vw_ (g_ (by omega) (by omega)) rfl (uu_ rfl ⟨1,⟨by decide,λ_=>h,λh=>by omega⟩,rfl,by decide⟩)
   .refine vw_ (r:=.int .i64 1) rfl rfl (vw_ (r:=.int .i64 z2) rfl rfl (vw_ (r:=.int .i64 1) rfl rfl (vw_ (r:=.int .i64 4) rfl rfl ?_)))
    (refine a_ rfl rfl ?_ ?_<;>intro h<;>simp only [nc]at h<;>try omega)
    ·(exact Q_ (y:=.mk _ (.mk ..) (.mk ..) _ _ _ _ _ _) rfl (λhe=>absurd he (by first|assumption|decide)))
    exact vw_ (g_ (by omega) (by omega)) rfl (uu_ rfl ⟨2,⟨by decide,λ_=>i2 (by decide),λ_=>h⟩,rfl,by decide⟩)
  refine Q_ (y:=.mk 4 (.mk ..) (.mk ..) _ _ _ _ _ [.mk ..,.mk ..]) rfl (λ_=>⟨.inr (.inr ⟨rfl,?_,h3,hnil⟩),λh=>by omega⟩);cases i2 (by omega);cases i3 (by omega);exact .inl ⟨rfl,rfl,rfl⟩
 .refine uH_ xr_ rfl rfl (vw_ rfl rfl (vd_ rfl (λh=>by cases h) (λ_=>uH_ zC_ rfl rfl ?_)));repeat (refine a_ rfl rfl ?_ ?_<;>intro h<;>simp only [nc]at h<;>try omega)
  (
   refine uJ_ (ι:=List GX×Nat) (λs=>[(.vsl 2 1 [.int .i64 1,.int .i64 2]),L_ s.1,.int .i64 (s.2:Int)]) (λs=>s.1.length=s.2/\s.2<=args.length/\∀a∈s.1,TX 5 a) (λs=>args.length-s.2) ([],0) ⟨rfl,Nat.zero_le _,λa ha=>(List.not_mem_nil ha).elim⟩ rfl (λs _=>by simp only [okL,okC,okA]) (λs s' _ _ h=>by simp at h;omega) (λs hs=>?_);obtain ⟨acc,i⟩:=s;obtain ⟨h1,h2,h3⟩:=hs;simp only at h1 h2 h3⊢;refine vw_ (r_ args) rfl ?_
   (refine a_ rfl rfl ?_ ?_<;>intro h<;>simp only [nc]at h<;>try omega)
   .have hi:i<args.length:=(by omega);have hld:=q_ args hi;have hz:=xv_ 5 args[i] (hW _ (List.getElem_mem hi));rcases hzz:args[i]with ⟨zo,zk,znm,zfd,zad,zn,zvk,zvi,zvf,za⟩;rw [hzz]at hld hz;refine vw_ (m_ args hi) (oL_ okX _) (ve_ hld rfl (okX _) ?_);refine b_ hz rfl (x8_ _) ⟨?_,trivial⟩;rintro ws ⟨⟨yo,yk,ynm,yfd,yad,yn,yvk,yvi,yvf,ya⟩,e,rfl,hy⟩
    (refine a_ rfl rfl ?_ ?_<;>intro h<;>simp only [nc]at h<;>try omega)
    ·(exact Q_ (y:=.mk _ (.mk ..) (.mk ..) _ _ _ _ _ _) rfl (λhe=>absurd he (by first|assumption|decide)))
    have hy:=(hy h).1;refine vw_ (r:=.int .i64 2) rfl rfl ?_
    (refine a_ rfl rfl ?_ ?_<;>intro h<;>simp only [nc]at h<;>try omega)
    all_goals first
     |(have hi2:i=0\/i=1:=by omega
       rcases hi2 with rfl|rfl;all_goals try (exfalso;omega)
       all_goals
        refine vw_ rfl rfl (vw_ rfl rfl ?_);obtain ⟨⟨yo1,yk1,ynm1,yfd1,yad1,yn1,yvk1,yvi1,yvf1,ya1⟩,hp1,hy1⟩:=yb_ _ _ hy;refine uH_ hp1 rfl (x9_ _) ?_;refine vw_ (H_ acc (.mk yo1 yk1 ynm1 yfd1 yad1 yn1 yvk1 yvi1 yvf1 ya1) (by omega)) (okA _) (vw_ (g_ (by omega) (by omega)) rfl (uu_ rfl ⟨(acc++[_],_),⟨by rw [List.length_append,h1];rfl,hi,x0_ h3 hy1⟩,rfl,by simp only;omega⟩)))
     |exact vw_ (H_ acc (.mk yo yk ynm yfd yad yn yvk yvi yvf ya) (by omega)) (okA _) (vw_ (g_ (by omega) (by omega)) rfl (uu_ rfl ⟨(acc++[_],i+1),⟨by rw [List.length_append,h1];rfl,hi,x0_ h3 hy⟩,rfl,by simp only;omega⟩))
   have hi:i=args.length:=(by omega);subst hi;refine vw_ (r_ acc) rfl (vw_ (r:=.int .i64 2) rfl rfl ?_))
  (refine a_ rfl rfl ?_ ?_<;>intro h<;>simp only [nc]at h<;>try omega)
  ·(exact Q_ (y:=.mk _ (.mk ..) (.mk ..) _ _ _ _ _ _) rfl (λhe=>absurd he (by first|assumption|decide)))
  have ha:acc.length=2:=(by have h':(acc.length:Int)=2:=h;omega);obtain ⟨y,z,rfl⟩:∃y z,acc=[y,z]:=by
   rcases acc with _|⟨y,_|⟨z,_|⟨w,t⟩⟩⟩<;>simp at ha
   exact ⟨y,z,rfl⟩
  obtain ⟨y1,y2,y3,y4,y5,y6,y7,y8,y9,y10⟩:=y;obtain ⟨z1,z2,z3,z4,z5,z6,z7,z8,z9,z10⟩:=z;refine uJ_ (ι:=Nat) (λi=>[.int .i64 (i:Int),.vsl 2 1 [.int .i64 1,.int .i64 2],L_ [.mk y1 y2 y3 y4 y5 y6 y7 y8 y9 y10,.mk z1 z2 z3 z4 z5 z6 z7 z8 z9 z10]]) (λi=>i<=2/\(1<=i->y2=1)/\(2<=i->z2=2)) (λi=>2-i) 0 ⟨by decide,λh=>by omega,λh=>by omega⟩ rfl (λs _=>by simp only [okL,okC,okA]) (λs s' _ _ h=>by simp at h;omega) (λi hi=>?_);obtain ⟨i1,i2,i3⟩:=hi;refine vw_ (r:=.int .i64 2) rfl rfl ?_
  (refine a_ rfl rfl ?_ ?_<;>intro h<;>simp only [nc]at h<;>try omega)
  .have hi2:i=0\/i=1:=(by omega);rcases hi2 with rfl|rfl
   .refine vw_ (r:=.int .i64 0) rfl rfl (vw_ (r:=.int .i64 y2) rfl rfl (vw_ (r:=.int .i64 0) rfl rfl (vw_ (r:=.int .i64 1) rfl rfl ?_)))
    (refine a_ rfl rfl ?_ ?_<;>intro h<;>simp only [nc]at h<;>try omega)
    ·(exact Q_ (y:=.mk _ (.mk ..) (.mk ..) _ _ _ _ _ _) rfl (λhe=>absurd he (by first|assumption|decide)))
    exact vw_ (g_ (by omega) (by omega)) rfl (uu_ rfl ⟨1,⟨by decide,λ_=>h,λh=>by omega⟩,rfl,by decide⟩)
   .refine vw_ (r:=.int .i64 1) rfl rfl (vw_ (r:=.int .i64 z2) rfl rfl (vw_ (r:=.int .i64 1) rfl rfl (vw_ (r:=.int .i64 2) rfl rfl ?_)))
    (refine a_ rfl rfl ?_ ?_<;>intro h<;>simp only [nc]at h<;>try omega)
    ·(exact Q_ (y:=.mk _ (.mk ..) (.mk ..) _ _ _ _ _ _) rfl (λhe=>absurd he (by first|assumption|decide)))
    exact vw_ (g_ (by omega) (by omega)) rfl (uu_ rfl ⟨2,⟨by decide,λ_=>i2 (by decide),λ_=>h⟩,rfl,by decide⟩)
  refine Q_ (y:=.mk 4 (.mk ..) (.mk ..) _ _ _ _ _ [.mk ..,.mk ..]) rfl (λ_=>⟨.inr (.inr ⟨rfl,?_,h3,hnil⟩),λh=>by omega⟩);cases i2 (by omega);cases i3 (by omega);exact .inr (.inl ⟨rfl,rfl,rfl⟩)
 .refine uH_ y9_ rfl rfl (vw_ rfl rfl (vd_ rfl (λh=>by cases h) (λ_=>uH_ z1_ rfl rfl ?_)));repeat (refine a_ rfl rfl ?_ ?_<;>intro h<;>simp only [nc]at h<;>try omega)
  (
   refine uJ_ (ι:=List GX×Nat) (λs=>[(.vsl 1 1 [.int .i64 1]),L_ s.1,.int .i64 (s.2:Int)]) (λs=>s.1.length=s.2/\s.2<=args.length/\∀a∈s.1,TX 5 a) (λs=>args.length-s.2) ([],0) ⟨rfl,Nat.zero_le _,λa ha=>(List.not_mem_nil ha).elim⟩ rfl (λs _=>by simp only [okL,okC,okA]) (λs s' _ _ h=>by simp at h;omega) (λs hs=>?_);obtain ⟨acc,i⟩:=s;obtain ⟨h1,h2,h3⟩:=hs;simp only at h1 h2 h3⊢;refine vw_ (r_ args) rfl ?_
   (refine a_ rfl rfl ?_ ?_<;>intro h<;>simp only [nc]at h<;>try omega)
   .have hi:i<args.length:=(by omega);have hld:=q_ args hi;have hz:=xv_ 5 args[i] (hW _ (List.getElem_mem hi));rcases hzz:args[i]with ⟨zo,zk,znm,zfd,zad,zn,zvk,zvi,zvf,za⟩;rw [hzz]at hld hz;refine vw_ (m_ args hi) (oL_ okX _) (ve_ hld rfl (okX _) ?_);refine b_ hz rfl (x8_ _) ⟨?_,trivial⟩;rintro ws ⟨⟨yo,yk,ynm,yfd,yad,yn,yvk,yvi,yvf,ya⟩,e,rfl,hy⟩
    (refine a_ rfl rfl ?_ ?_<;>intro h<;>simp only [nc]at h<;>try omega)
    ·(exact Q_ (y:=.mk _ (.mk ..) (.mk ..) _ _ _ _ _ _) rfl (λhe=>absurd he (by first|assumption|decide)))
    have hy:=(hy h).1;refine vw_ (r:=.int .i64 1) rfl rfl ?_
    (refine a_ rfl rfl ?_ ?_<;>intro h<;>simp only [nc]at h<;>try omega)
    all_goals first
     |(have hi2:i=0\/i=1:=by omega
       rcases hi2 with rfl|rfl;all_goals try (exfalso;omega)
       all_goals
        refine vw_ rfl rfl (vw_ rfl rfl ?_);obtain ⟨⟨yo1,yk1,ynm1,yfd1,yad1,yn1,yvk1,yvi1,yvf1,ya1⟩,hp1,hy1⟩:=yb_ _ _ hy;refine uH_ hp1 rfl (x9_ _) ?_;refine vw_ (H_ acc (.mk yo1 yk1 ynm1 yfd1 yad1 yn1 yvk1 yvi1 yvf1 ya1) (by omega)) (okA _) (vw_ (g_ (by omega) (by omega)) rfl (uu_ rfl ⟨(acc++[_],_),⟨by rw [List.length_append,h1];rfl,hi,x0_ h3 hy1⟩,rfl,by simp only;omega⟩)))
     |exact vw_ (H_ acc (.mk yo yk ynm yfd yad yn yvk yvi yvf ya) (by omega)) (okA _) (vw_ (g_ (by omega) (by omega)) rfl (uu_ rfl ⟨(acc++[_],i+1),⟨by rw [List.length_append,h1];rfl,hi,x0_ h3 hy⟩,rfl,by simp only;omega⟩))
   have hi:i=args.length:=(by omega);subst hi;refine vw_ (r_ acc) rfl (vw_ (r:=.int .i64 1) rfl rfl ?_))
  (refine a_ rfl rfl ?_ ?_<;>intro h<;>simp only [nc]at h<;>try omega)
  ·(exact Q_ (y:=.mk _ (.mk ..) (.mk ..) _ _ _ _ _ _) rfl (λhe=>absurd he (by first|assumption|decide)))
  have ha:acc.length=1:=(by have h':(acc.length:Int)=1:=h;omega);obtain ⟨y,rfl⟩:=List.length_eq_one_iff.1 ha;obtain ⟨y1,y2,y3,y4,y5,y6,y7,y8,y9,y10⟩:=y;refine uJ_ (ι:=Nat) (λi=>[.int .i64 (i:Int),.vsl 1 1 [.int .i64 1],L_ [.mk y1 y2 y3 y4 y5 y6 y7 y8 y9 y10]]) (λi=>i<=1/\(1<=i->y2=1)) (λi=>1-i) 0 ⟨by decide,λh=>by omega⟩ rfl (λs _=>by simp only [okL,okC,okA]) (λs s' _ _ h=>by simp at h;omega) (λi hi=>?_);obtain ⟨i1,i2⟩:=hi;refine vw_ (r:=.int .i64 1) rfl rfl ?_
  (refine a_ rfl rfl ?_ ?_<;>intro h<;>simp only [nc]at h<;>try omega)
  .have hi2:i=0:=(by omega);subst hi2;refine vw_ (r:=.int .i64 0) rfl rfl (vw_ (r:=.int .i64 y2) rfl rfl (vw_ (r:=.int .i64 0) rfl rfl (vw_ (r:=.int .i64 1) rfl rfl ?_)))
   (refine a_ rfl rfl ?_ ?_<;>intro h<;>simp only [nc]at h<;>try omega)
   ·(exact Q_ (y:=.mk _ (.mk ..) (.mk ..) _ _ _ _ _ _) rfl (λhe=>absurd he (by first|assumption|decide)))
   exact vw_ (g_ (by omega) (by omega)) rfl (uu_ rfl ⟨1,⟨by decide,λ_=>h⟩,rfl,by decide⟩)
  refine Q_ (y:=.mk 4 (.mk ..) (.mk ..) _ _ _ _ _ [.mk ..]) rfl (λ_=>⟨.inr (.inr ⟨rfl,?_,h3,hnil⟩),λh=>by omega⟩);cases i2 (by omega);exact .inr (.inr ⟨rfl,rfl,rfl⟩)
theorem v2_ (l:List GS):(XOp.len 26).run Tryz.prog [A_ l]=some (.int .i64 (l.length:Int)):=by rw [uO_];exact ud_ Tryz.underlying26 l
theorem wr_ (l:List GS) {i:Nat} (h:i<l.length):(XOp.iaddr 26).run Tryz.prog [A_ l,.int .i64 (i:Int)]=some (.vptr (cf_ v_ (l.drop i))):=by rw [uO_];exact run_iaddr_sl (e:=52) (ti:=(Tryz.prog.info? 52).get!) Tryz.underlying26 (by kernel_rfl) (by kernel_rfl) zb_ h .i64
theorem ws_ (l:List GS) {i:Nat} (h:i<l.length):(XOp.load 52).run Tryz.prog [.vptr (cf_ v_ (l.drop i))]=some (.agg (v_ l[i])):=
 run_load_agg (ti:=(Tryz.prog.info? 52).get!) Tryz.underlying52 rfl (by kernel_rfl) (by kernel_rfl) zb_ h
def PT (d:Nat):Prop:=∀x:GS,WS d x->CF Tryz.prog 78 ft78 (VARS::v_ x) (RT d x)
theorem p46 (d:Nat) (hT:PT d) (l:List GS) (hl:l.length<=5) (hW:∀s∈l,WS d s):CF Tryz.prog 46 ft46 [VARS,A_ l] (RU d l):=by
 refine vg_ (c:=c46) (n:=300) (t:=t46) mo ov rfl (λY _=>vD_ _) (by kernel_rfl) λY hf hg=>?_;unfold t46;refine uJ_ (ι:=List GS×Nat) (λs=>[A_ s.1,.int .i64 (s.2:Int)]) (λs=>s.1.length=s.2/\s.2<=l.length/\(∀a∈s.1,TS d a)/\LKs l s.1) (λs=>l.length-s.2) ([],0) ⟨rfl,Nat.zero_le _,λa ha=>(List.not_mem_nil ha).elim,λj _ h=>absurd h (Nat.not_lt_zero j)⟩ rfl (λs _=>by simp only [okL,okC,okB]) (λs s' _ _ h=>by simp at h;omega) (λs hs=>?_);obtain ⟨acc,i⟩:=s;obtain ⟨h1,h2,h3,h5⟩:=hs;simp only at h1 h2 h3 h5⊢;refine vw_ (v2_ l) rfl ?_
 (refine a_ rfl rfl ?_ ?_<;>intro h<;>simp only [nc]at h<;>try omega)
 .have hi:i<l.length:=(by omega);have hld:=ws_ l hi;have hz:=hT l[i] (hW _ (List.getElem_mem hi));rcases hzz:l[i]with ⟨op,⟨to1,to2,to3,to4,to5,to6,to7,to8,to9,to10⟩,⟨e1,e2,e3,e4,e5,e6,e7,e8,e9,e10⟩,thn,els,nm,kd,ad,args⟩;rw [hzz]at hld hz;refine vw_ (wr_ l hi) (oL_ okS _) (ve_ hld rfl (okS _) ?_);refine b_ hz rfl (z4_ _) ⟨?_,trivial⟩;rintro ws ⟨⟨op',⟨so1,so2,so3,so4,so5,so6,so7,so8,so9,so10⟩,⟨f1,f2,f3,f4,f5,f6,f7,f8,f9,f10⟩,thn',els',nm',kd',ad',args'⟩,e,rfl,hy⟩
  (refine a_ rfl rfl ?_ ?_<;>intro h<;>simp only [nc]at h<;>try omega)
  exact VOK_fin rfl ⟨[],e,rfl,λhe=>absurd he h⟩;rename_i hh;refine vw_ (u6_ acc (.mk op' (.mk so1 so2 so3 so4 so5 so6 so7 so8 so9 so10) (.mk f1 f2 f3 f4 f5 f6 f7 f8 f9 f10) thn' els' nm' kd' ad' args') (by omega)) (okB _) (vw_ (g_ (by omega) (by omega)) rfl (uu_ rfl ⟨(acc++[_],i+1),⟨by rw [List.length_append,h1];rfl,hi,?_,?_⟩,rfl,by simp only;omega⟩));intro a ha;rcases List.mem_append.1 ha with ha|ha;exact h3 a ha;cases List.mem_singleton.1 ha;exact (hy (by assumption)).1;intro j g1 g2;by_cases e:j<acc.length;rw [List.getElem_append_left e];exact h5 j g1 e;have e:j=acc.length:=(by rw [List.length_append,List.length_singleton]at g2;omega);have e2:j=i:=(by omega);subst e2;rw [List.getElem_append_right (by omega)];simp only [hzz];have:∀(k:Nat) (h:k<1),k=0:=λk h=>(by omega);simp only [e,Nat.sub_self,List.getElem_singleton];exact (hy (by assumption)).2
 exact VOK_fin (by show okL [A_ acc,.int .i64 0]=true;simp only [okL,okC,okB]) ⟨acc,0,rfl,λ_=>⟨by omega,h3,h5⟩⟩
theorem zg_ (l:List GS):okL [VARS,A_ l]=true:=by rw [aX_];simp only [okL,okC,okB];rfl
theorem p78:∀d:Nat,PT d
 |0,_,h=>h.elim
 |d+1,.mk op to e thn els nm kd ad args,hx=>by
  have ih:=p46 d (p78 d);have h1:op=1->_:=λh=>CF_ d to e thn els nm kd ad args;have h4:=CG_ d to e thn els nm kd ad args;have h2:=xv_ 5 e;obtain ⟨to1,to2,to3,to4,to5,to6,to7,to8,to9,to10⟩:=to;obtain ⟨e1,e2,e3,e4,e5,e6,e7,e8,e9,e10⟩:=e;refine vg_ (c:=c78) (n:=300) (t:=t78) mo ov rfl (λY _=>vD_ _) (by kernel_rfl) λY hf hg=>?_;unfold t78;rcases hx with ⟨rfl,a1,a2,a3,a4⟩|⟨ho,b1,b2,b3,b4,b5⟩|⟨rfl,a1,a2,a3,a4⟩
  ·(refine a_ rfl rfl ?_ ?_<;>intro h<;>simp only [nc]at h<;>try omega)
   refine b_ (h1 rfl a1 a2 a3 a4) rfl (z4_ _) ⟨?_,trivial⟩;rintro ws ⟨⟨op',⟨so1,so2,so3,so4,so5,so6,so7,so8,so9,so10⟩,⟨f1,f2,f3,f4,f5,f6,f7,f8,f9,f10⟩,thn',els',nm',kd',ad',args'⟩,e,rfl,hy⟩;exact Q_ (y:=.mk _ (.mk ..) (.mk ..) _ _ _ _ _ _) rfl hy
  ·(refine a_ rfl rfl ?_ ?_<;>intro h<;>simp only [nc]at h<;>try omega);(refine a_ rfl rfl ?_ ?_<;>intro h<;>simp only [nc]at h<;>try omega)
   refine b_ (h2 b1) rfl (x8_ _) ⟨?_,trivial⟩;rintro ws ⟨⟨y1,y2,y3,y4,y5,y6,y7,y8,y9,y10⟩,er,rfl,hy⟩
   (refine a_ rfl rfl ?_ ?_<;>intro h<;>simp only [nc]at h<;>try omega)
   ·(exact Q_ (y:=.mk _ (.mk ..) (.mk ..) _ _ _ _ _ _) rfl (λhe=>absurd he (by first|assumption|decide)))
   have hy:=(hy h).1
   (refine a_ rfl rfl ?_ ?_<;>intro h<;>simp only [nc]at h<;>try omega)
   ·(exact Q_ (y:=.mk _ (.mk ..) (.mk ..) _ _ _ _ _ _) rfl (λhe=>absurd he (by first|assumption|decide)))
   have hk:=h;refine b_ (ih thn b2 b4) rfl (zg_ _) ⟨?_,trivial⟩;rintro ws ⟨thn',er1,rfl,ht⟩
   (refine a_ rfl rfl ?_ ?_<;>intro h<;>simp only [nc]at h<;>try omega)
   ·(exact Q_ (y:=.mk _ (.mk ..) (.mk ..) _ _ _ _ _ _) rfl (λhe=>absurd he (by first|assumption|decide)))
   have ht:=ht h;refine b_ (ih els b3 b5) rfl (zg_ _) ⟨?_,trivial⟩;rintro ws ⟨els',er2,rfl,hs⟩;refine Q_ (y:=.mk _ (.mk ..) (.mk ..) _ _ _ _ _ _) rfl (λh0=>⟨.inr (.inl ⟨ho,hy,hk,by rw [ht.1];exact b2,by rw [(hs h0).1];exact b3,ht.2.1,(hs h0).2.1⟩),λh=>by omega⟩)
  ·(refine a_ rfl rfl ?_ ?_<;>intro h<;>simp only [nc]at h<;>try omega);(refine a_ rfl rfl ?_ ?_<;>intro h<;>simp only [nc]at h<;>try omega)
   refine b_ (h4 a1 a2 a3 a4) rfl (z4_ _) ⟨?_,trivial⟩;rintro ws ⟨⟨op',⟨so1,so2,so3,so4,so5,so6,so7,so8,so9,so10⟩,⟨f1,f2,f3,f4,f5,f6,f7,f8,f9,f10⟩,thn',els',nm',kd',ad',args'⟩,e,rfl,hy⟩;exact Q_ (y:=.mk _ (.mk ..) (.mk ..) _ _ _ _ _ _) rfl hy
end Go.Proofs.YtjconanknjgpnaaGreat.vars
