/-
  A symbol as a number, a number as a value: short names for trees.
-/
import Derived.Test.YtjconanknjgpnaaGreatSyQ
import Derived.Test.YtjconanknjgpnaaGreatRows
import Derived.KernelRfl
import Derived.Test.YtjconanknjgpnaaGreatSyU
import Derived.Test.YtjconanknjgpnaaGreatSyG
import Derived.Test.YtjconanknjgpnaaGreatSzA
import Derived.WalkKit
import Derived.ProofKit
import Derived.Laws.Externs
import Derived.Lib.Hide
namespace Go.Proofs.YtjconanknjgpnaaGreat.vars
open Go Go.Sx
instance symN (n:Nat):OfNat AV n:=⟨.sym n⟩
abbrev J (n:Int):AV:=.int .i64 n
abbrev K (o:XOp) (a:List AV) (i:Nat) (t:VT):VT:=.lt o a i none t
abbrev Q0:XOp:=.bin .eql 3 false true
abbrev Q1:XOp:=.inb
abbrev Q2:XOp:=.bin .add 3 false true
abbrev Q3:XOp:=.bin .neq 3 false true
abbrev Q4:XOp:=.un .not
abbrev Q5:XOp:=.bin .lss 3 false false
abbrev Q6:XOp:=.bin .neq 35 false true
abbrev Q7:XOp:=.bin .neq 3 false false
abbrev Q8:XOp:=.bin .neq 2 false true
abbrev Q9:XOp:=.len 127
abbrev Qa:XOp:=.iaddr 47
abbrev Qb:XOp:=.ldx 46 3 0
abbrev Qc:XOp:=.bin .sub 3 false true
abbrev Qd:XOp:=.load 49
abbrev Qe:XOp:=.len 47
abbrev Qf:XOp:=.ldx 3 10 1
abbrev Qg:XOp:=.iaddr 31
abbrev Qh:XOp:=.app 10 112
abbrev Qi:XOp:=.ldx 3 1 0
abbrev Qj:XOp:=.bin .gtr 3 false true
abbrev Qk:XOp:=.bin .eql 3 false false
abbrev Ql:XOp:=.load 46
abbrev Qm:XOp:=.ldx 2 3 1
abbrev Qn:XOp:=.bin .eql 2 false false
abbrev Qo:XOp:=.bin .geq 2 false false
abbrev Qp:XOp:=.len 31
abbrev Qq:XOp:=.app 3 24
abbrev Qr:XOp:=.bin .leq 3 false true
abbrev Qs:XOp:=.bin .eql 2 false true
abbrev Qt:XOp:=.conv 2 101
abbrev Qu:XOp:=.len 22
abbrev Qv:XOp:=.load 3
abbrev Qw:XOp:=.iaddr 26
abbrev Qx:XOp:=.bin .geq 3 false true
abbrev Qy:XOp:=.bin .add 3 false false
abbrev Qz:XOp:=.bin .lss 3 false true
abbrev Z0:XOp:=.bin .add 3 true false
abbrev Z1:XOp:=.un .neg
abbrev Z2:XOp:=.bin .lss 2 false true
abbrev Z3:XOp:=.bin .sub 2 false false
abbrev Z4:XOp:=.conv 2 44
abbrev Z5:XOp:=.ldx 3 3 0
abbrev Z6:XOp:=.opn 21 3
abbrev Z7:XOp:=.conv 5 3
abbrev Z8:XOp:=.iaddr 40
abbrev Z9:XOp:=.load 9
abbrev Za:XOp:=.len 26
abbrev Zb:XOp:=.bin .rem 2 false false
abbrev Zc:XOp:=.stx 46 3 0
abbrev Zd:XOp:=.bin .eql 35 false false
abbrev Ze:XOp:=.conv 23 2
abbrev Zf:XOp:=.faddr 46 0
abbrev Zg:XOp:=.app 27 336
abbrev Zh:XOp:=.mget 186 [(.str [111],J 2,0),(.str [120],J 2,1),(.str [113],J 1,2),(.str [121],J 3,3),(.str [122],J 5,4),(.str [119],J 4,5)]
abbrev Zi:XOp:=.faddr 49 1
abbrev Zj:XOp:=.ldx 49 10 0
abbrev Zk:XOp:=.stx 49 10 0
abbrev Zl:XOp:=.bin .leq 2 false false
abbrev Zm:XOp:=.bin .add 2 false false
abbrev Zn:XOp:=.bin .neq 44 false false
abbrev Zo:XOp:=.bin .sub 101 false false
abbrev Zp:XOp:=.mm false
abbrev Zq:XOp:=.conv 101 2
abbrev Zr:XOp:=.load 26
abbrev Zt:XOp:=.bin .neq 2 false false
abbrev Zu:XOp:=.bin .quo 2 false false
abbrev Zv:XOp:=.bin .lss 44 false false
abbrev Zw:XOp:=.bin .rem 5 false true
abbrev Zx:XOp:=.bin .rem 3 false false
abbrev U0:XOp:=.bin .eql 35 false true
abbrev U1:XOp:=.bin .lss 2 false false
abbrev U2:XOp:=.bin .mul 2 false false
abbrev U3:XOp:=.bin .add 44 false false
abbrev U4:XOp:=.bin .sub 44 false false
abbrev U5:XOp:=.bin .mul 44 false false
abbrev U6:XOp:=.bin .quo 44 false false
abbrev U7:XOp:=.bin .eql 44 false false
abbrev U8:XOp:=.bin .leq 44 false false
abbrev Ub:XOp:=.bin .gtr 2 false false
abbrev Uc:XOp:=.bin .add 2 false true
abbrev Ud:XOp:=.bin .eql 31 false true
abbrev Ue:XOp:=.bin .gtr 101 false false
end Go.Proofs.YtjconanknjgpnaaGreat.vars
set_option linter.unusedVariables false
namespace Go.Proofs.YtjconanknjgpnaaGreat.vars
open Go Go.Sx
def hs:Nat->Nat->List AV
 |_,0=>[]
 |j,n+1=>.slx j 0 0::hs (j+1) n
def pk (a b:AV):Nat×List AV:=(0,[a,b])
def ft39:FT:=⟨1,⟨[(0,.ptr 0 0),(1,.slx 2 0 0)],[pk (.slx 0 0 0) (.slx 1 0 0)],1,3,[],[],[]⟩,[(false,⟨[(0,.slx 0 0 0)],[pk (.sym 64) (.slx 1 0 0)],1,2,[],[],[]⟩)]⟩
def ftX:FT:=⟨1,⟨[(0,.ptr 0 0),(1,.slx 2 0 0),(2,.slx 3 0 0)],[pk (.slx 0 0 0) (.slx 1 0 0)],1,4,[],[],[]⟩,[(false,⟨[(0,.agg (hs 0 10))],[pk (.sym 64) (.slx 10 0 0)],1,11,[],[],[]⟩)]⟩
def aP_:FT:=ftX
def lr_:FT:=ftX
def ft112:FT:=⟨1,⟨[(0,.ptr 0 0),(1,.slx 2 0 0)],[pk (.slx 0 0 0) (.slx 1 0 0)],1,3,[],[],[]⟩,[(false,⟨[(0,.agg (hs 0 27))],[pk (.sym 64) (.slx 27 0 0)],1,28,[],[],[]⟩)]⟩
def ft70:FT:=⟨1,⟨[(0,.ptr 0 0),(1,.slx 2 0 0),(2,.slx 3 0 0)],[pk (.slx 0 0 0) (.slx 1 0 0)],1,4,[],[],[]⟩,[(false,⟨[(0,.slx 1 27 0)],[pk (.sym 64) (.slx 1 0 0)],2,2,[⟨1,27,0,0,none⟩],[],[]⟩)]⟩
def ft38:FT:=⟨1,⟨[(0,.ptr 0 0)],[pk (.slx 0 0 0) (.slx 1 0 0)],1,2,[],[],[]⟩,[(false,⟨[(0,.agg (hs 0 2))],[pk (.sym 64) (.slx 2 0 0)],1,3,[],[],[]⟩)]⟩
def ft14:FT:=⟨0,⟨[(0,.slx 0 0 0)],[],0,1,[],[],[]⟩,[(false,⟨[(0,.ptr 0 0)],[pk (.sym 64) (.int .i64 0)],1,0,[],[],[]⟩)]⟩
def ft121:FT:=⟨0,⟨[(0,.slx 0 0 0),(1,.agg (hs 1 10))],[],0,11,[],[],[]⟩,[(false,⟨[(0,.tup [.agg (hs 0 10),.slx 10 0 0])],[],0,11,[],[],[]⟩)]⟩
def uE_:FT:=ft121
def ft156:FT:=⟨0,⟨[(0,.slx 0 0 0),(1,.agg (hs 1 10)),(2,.slx 11 0 0)],[],0,12,[],[],[]⟩,[(false,⟨[(0,.tup [.agg (hs 0 10),.slx 10 0 0])],[],0,11,[],[],[]⟩)]⟩
def ft78:FT:=⟨0,⟨[(0,.slx 0 0 0),(1,.agg (hs 1 27))],[],0,28,[],[],[]⟩,[(false,⟨[(0,.tup [.agg (hs 0 27),.slx 27 0 0])],[],0,28,[],[],[]⟩)]⟩
def vq_:FT:=ft78
def uQ_:FT:=ft78
def ft46:FT:=⟨0,⟨[(0,.slx 0 0 0),(1,.slx 1 0 0)],[],0,2,[],[],[]⟩,[(false,⟨[(0,.tup [.slx 0 0 0,.slx 1 0 0])],[],0,2,[],[],[]⟩)]⟩
def ft19:FT:=⟨0,⟨[(0,.agg (hs 0 2))],[],0,2,[],[],[]⟩,[(false,⟨[(0,.tup [.agg (hs 0 2),.slx 2 0 0])],[],0,3,[],[],[]⟩)]⟩
def ft13:FT:=⟨0,⟨[(0,.slx 0 0 0)],[],0,1,[],[],[]⟩,[(false,⟨[(0,.tup [.agg (hs 0 2),.slx 2 0 0])],[],0,3,[],[],[]⟩)]⟩
def ft163:FT:=⟨0,⟨[(0,.slx 0 0 0)],[],0,1,[],[],[]⟩,[(true,⟨[(0,.iface 226 (.agg [.slx 0 0 0]))],[],0,1,[],[],[]⟩)]⟩
def ft165:FT:=⟨0,⟨[(0,.slx 0 0 0),(1,.slx 1 0 0),(2,.slx 2 0 0)],[],0,3,[],[],[]⟩,[(false,⟨[(0,.slx 0 0 0)],[],0,1,[],[],[]⟩),(true,⟨[(0,.iface 226 (.agg [.slx 0 0 0]))],[],0,1,[],[],[]⟩)]⟩
def rW_:FT:=ft165
def ft113:FT:=⟨0,⟨[(0,.slx 0 0 0)],[],0,1,[],[],[]⟩,[(false,⟨[(0,.tup [])],[],0,0,[],[],[]⟩),(true,⟨[(0,.iface 134 (.agg [.slx 0 0 0]))],[],0,1,[],[],[]⟩)]⟩
def ft82:FT:=⟨0,⟨[(0,.slx 0 0 0),(1,.agg (hs 1 3))],[],0,4,[],[],[]⟩,[(false,⟨[(0,.agg (hs 0 3))],[],0,3,[],[],[]⟩),(true,⟨[(0,.iface 134 (.agg [.slx 0 0 0]))],[],0,1,[],[],[]⟩)]⟩
def ft83:FT:=⟨0,⟨[(0,.slx 0 0 0),(1,.slx 1 0 0)],[],0,2,[],[],[]⟩,[(false,⟨[(0,.agg (hs 0 3))],[],0,3,[],[],[]⟩),(true,⟨[(0,.iface 134 (.agg [.slx 0 0 0]))],[],0,1,[],[],[]⟩)]⟩
def ftM (sl:List (Nat×AV)) (nv:Nat) (exs:List (Bool×Nat×AV)):FT:=⟨2,⟨(0,.ptr 0 0)::sl,[(0,[.slx 1 3 0,.slx 1 0 0,.slx 2 0 0])],2,nv+3,[⟨1,3,0,0,some 0⟩],[],[]⟩,
 exs.map λ(b,n,a)=>(b,⟨[(0,a)],[(0,[.ptx 1 64 3 0,.sym 65,.sym 66])],2,n,[],[],[(1,64)]⟩)⟩
def e6_:FT:=ftM [(1,.agg (hs 3 10))] 10 [(false,3,.agg (hs 0 3)),(true,1,.iface 134 (.agg [.slx 0 0 0]))]
def tw_:FT:=ftM [(1,.agg (hs 3 10))] 10 [(false,1,.slx 0 0 0),(true,1,.iface 134 (.agg [.slx 0 0 0]))]
def ft40:FT:=⟨1,⟨[(0,.ptr 0 0),(1,.slx 2 0 0)],[pk (.slx 0 0 0) (.slx 1 0 0)],1,3,[],[],[]⟩,[(false,⟨[(0,.agg (hs 0 3))],[pk (.sym 64) (.slx 3 0 0)],1,4,[],[],[]⟩)]⟩
def ft71:FT:=⟨1,⟨[(0,.ptr 0 0)],[pk (.slx 0 0 0) (.slx 1 0 0)],1,2,[],[],[]⟩,[(false,⟨[(0,.slx 0 0 0)],[pk (.sym 64) (.slx 1 0 0)],1,2,[],[],[]⟩)]⟩
def za_:FT:=ft39
def ft15:FT:=⟨1,⟨[(0,.ptr 0 0)],[pk (.slx 0 0 0) (.slx 1 0 0)],1,2,[],[],[]⟩,[(false,⟨[(0,.slx 1 3 0)],[pk (.sym 64) (.slx 1 0 0)],2,2,[⟨1,3,0,0,none⟩],[],[]⟩)]⟩
def ftS (sl:List (Nat×AV)) (nv:Nat):FT:=⟨2,⟨(0,.ptr 0 0)::sl,[(0,[.slx 1 3 0,.slx 1 0 0,.slx 2 0 0])],2,nv+3,[⟨1,3,0,0,some 0⟩],[],[]⟩,
 [(false,⟨[(0,.tup [])],[(0,[.slx 1 3 0,.sym 65,.slx 1 0 0])],2,2,[⟨1,3,0,0,some 0⟩],[],[]⟩),(true,⟨[(0,.iface 134 (.agg [.slx 2 0 0]))],[(0,[.slx 1 3 0,.sym 65,.slx 1 0 0])],2,3,[⟨1,3,0,0,some 0⟩],[],[]⟩)]⟩
def kF_:FT:=ftS [(1,.slx 3 0 0)] 1
def uS_:FT:=ftS [(1,.agg (hs 3 27))] 27
def yQ_:FT:=uS_
def pg_:FT:=uS_
def ft16:FT:=⟨0,⟨[(0,.agg (hs 0 2)),(1,.slx 2 0 0),(2,.slx 3 0 0),(3,.slx 4 0 0)],[],0,5,[],[],[]⟩,[(false,⟨[(0,.tup [.slx 0 3 0,.slx 1 0 0])],[],1,2,[⟨0,3,0,600,some 0⟩],[],[]⟩)]⟩
def sy (n m:Nat):List AV:=m_ n m
def mV_ (kd ad:Int):List AV:=[.ptr 0 0,.agg (sy 67 24++[.int .i64 kd,.int .i64 ad,.sym 93])]
def heap75:AHeap:=pg_.ent.heap 64
def ftB (kd off n w:Nat) (tm:Bool):FT:=⟨1,⟨[(0,.int .i64 (.ofNat kd)),(1,.sl 0 off n 3 none),(2,.slx 63 0 0),(3,.slx 64 0 0)]++(match tm with|true=>[(4,.slx 65 0 0)]|false=>[]),[(0,hs 0 63)],1,(match tm with|true=>66|false=>65),[],[],[]⟩,
 [(false,⟨[(0,.sl 1 0 n 3 none)],[(0,m_ 64 63),(1,hs 0 w)],2,w,[],[],[]⟩)]⟩
def wa_:FT:=ftB 6 36 4 12 true
def uv_:FT:=ftB 9 48 3 9 false
def vs_:FT:=ftB 11 57 2 6 false
end Go.Proofs.YtjconanknjgpnaaGreat.vars
set_option maxRecDepth 100000
set_option linter.unusedVariables false
set_option linter.unusedSimpArgs false
namespace Go.Proofs.YtjconanknjgpnaaGreat.vars
open Go Go.Sx
instance gI:Gl:=glT gl0 nr0 []
theorem mo:Tryz.prog.follows .mixedOrders=true:=by kernel_rfl
theorem ov:cw_ Tryz.prog:=uO_ gl0 nr0 _
inductive GX where
 |mk (op kd:Int) (nm fd:List UInt8) (ad n vk vi:Int) (vf:Nat) (args:List GX)
mutual
def aH_:GX->List AV
 | .mk op kd nm fd ad n vk vi vf args=>[.int .i64 op,.int .i64 kd,.str nm,.str fd,.int .i64 ad,.int .i64 n,.int .i64 vk,.int .i64 vi,.flt .f64 vf,cy_ args]
def cy_:List GX->AV
 |[]=>.nsl
 |a::r=>.vsl (r.length+1) 10 (aH_ a++iL_ r)
def iL_:List GX->List AV
 |[]=>[]
 |a::r=>aH_ a++iL_ r
end
theorem pF_:∀l:List GX,iL_ l=x_ aH_ l
 |[]=>rfl
 |a::r=>by simp only [iL_,x_,pF_ r]
theorem fJ_ (l:List GX):cy_ l=aC_ aH_ 10 l:=by
 cases l with
 |nil=>rfl
 |cons a r=>simp only [cy_,aC_,x_,pF_]
theorem gg_ (x:GX):(aH_ x).length=10:=by cases x;simp [aH_]
mutual
theorem okX:∀x:GX,B_ (aH_ x)=true
 | .mk op kd nm fd ad n vk vi vf args=>by simp only [aH_,B_,I_,okA args]
theorem okA:∀l:List GX,I_ (cy_ l)=true
 |[]=>rfl
 |a::r=>by simp only [cy_,I_];exact i_.okL_join (okX a) (wR_ r)
theorem wR_:∀l:List GX,B_ (iL_ l)=true
 |[]=>rfl
 |a::r=>by simp only [iL_];exact i_.okL_join (okX a) (wR_ r)
end
inductive GS where
 |mk (op:Int) (to e:GX) (thn els:List GS) (nm:List UInt8) (kd ad:Int) (args:List GX)
mutual
def b5_:GS->List AV
 | .mk op to e thn els nm kd ad args=>.int .i64 op::(aH_ to++(aH_ e++[ck_ thn,ck_ els,.str nm,.int .i64 kd,.int .i64 ad,cy_ args]))
def ck_:List GS->AV
 |[]=>.nsl
 |a::r=>.vsl (r.length+1) 27 (b5_ a++lD_ r)
def lD_:List GS->List AV
 |[]=>[]
 |a::r=>b5_ a++lD_ r
end
theorem o0_:∀l:List GS,lD_ l=x_ b5_ l
 |[]=>rfl
 |a::r=>by simp only [lD_,x_,o0_ r]
theorem fY_ (l:List GS):ck_ l=aC_ b5_ 27 l:=by
 cases l with
 |nil=>rfl
 |cons a r=>simp only [ck_,aC_,x_,o0_]
theorem wE_ (x:GS):(b5_ x).length=27:=by cases x;simp [b5_,gg_]
mutual
theorem okS:∀x:GS,B_ (b5_ x)=true
 | .mk op to e thn els nm kd ad args=>by
   simp only [b5_]
   refine i_.okL_join (a:=[_]) rfl (i_.okL_join (okX to) (i_.okL_join (okX e) ?_))
   simp only [B_,I_,okA args,okB thn,okB els]
theorem okB:∀l:List GS,I_ (ck_ l)=true
 |[]=>rfl
 |a::r=>by simp only [ck_,I_];exact i_.okL_join (okS a) (zN_ r)
theorem zN_:∀l:List GS,B_ (lD_ l)=true
 |[]=>rfl
 |a::r=>by simp only [lD_];exact i_.okL_join (okS a) (zN_ r)
end
def Ari (op:Int) (n:Nat):Prop:=(op=1\/op=2)/\n=0\/(op=3\/op=15\/op=16\/op=17)/\n=1\/(4<=op/\op<=14)/\n=2
def v3_ (f:Nat):Prop:=f=0\/f=4609434218613702656\/f=4611686018427387904\/f=4598175219545276416
def GX.op:GX->Int| .mk op .. =>op
def GX.kd:GX->Int| .mk _ kd .. =>kd
def jW_:List (List UInt8×List UInt8):=[([98],[]),([113],[]),([116,109],[113]),([97],[]),([120],[]),([111],[]),([99],[99,118]),([121],[]),([116,109],[101,116]),([119],[]),([122],[])]
def dC_ (vk vi:Int) (vf:Nat):Prop:=(vk=1\/vk=3\/vk=4\/vk=5)/\0<=vi/\vi<50/\(vk=1->vi<=1)/\(vk=5->vi=0)/\(vk≠5->vf=0)
def Nod (op kd:Int) (nm fd:List UInt8) (vk vi:Int) (vf:Nat):Prop:=(op=1->dC_ vk vi vf)/\(op=2->(nm,fd)∈jW_)/\(op=3->nm=[107])/\(op=17->2<=kd/\kd<=5)
def WX:Nat->GX->Prop
 |0,_=>False
 |d+1,.mk op kd nm fd _ _ vk vi vf args=>Ari op args.length/\v3_ vf/\Nod op kd nm fd vk vi vf/\∀a∈args,WX d a
theorem y_:∀{d e:Nat} {x:GX},d<=e->WX d x->WX e x
 |0,_,_,_,h=>h.elim
 |d+1,0,_,h,_=>by omega
 |d+1,e+1,.mk ..,h,⟨h1,h2,h3,h4⟩=>⟨h1,h2,h3,λa ha=>y_ (by omega) (h4 a ha)⟩
def WS:Nat->GS->Prop
 |0,_=>False
 |d+1,.mk op to e thn els nm kd ad args=>
  (op=1/\WX 5 to/\(to.op=2\/to.op=3)/\WX 6 e/\thn=[]/\els=[])\/
  ((op=2\/op=3)/\WX 5 e/\thn.length<=5/\els.length<=5/\(∀s∈thn,WS d s)/\∀s∈els,WS d s)\/
  (op=4/\(nm=[116,109]\/nm=[99]\/nm=[101])/\args.length<=2/\(∀a∈args,WX 5 a)/\thn=[]/\els=[])
def hn_ (c:UInt8):List AV:=[.int .u8 (c.toNat:Int)]
theorem Cd_ (c:UInt8):(hn_ c).length=1:=rfl
theorem iz_ (c:UInt8):B_ (hn_ c)=true:=rfl
def Pk (l:List UInt8) (a:AV):Prop:=SlV hn_ 1 l a/\l.length<=9223372036854775807
section
variable {l:List UInt8} {a:AV}
theorem uG_ (h:Pk l a):(XOp.len 22).run Tryz.prog [a]=some (.int .i64 (l.length:Int)):=h.1.len Tryz.underlying22
theorem Cl_ (h:Pk l a) {i:Nat} (hi:i<l.length) {k:IntKind}:(XOp.iaddr 22).run Tryz.prog [a,.int k (i:Int)]=some (.vptr (x_ hn_ (l.drop i))):=h.1.ia (e:=5) Tryz.underlying22 (ti:=(Tryz.prog.info? 5).get!) (by kernel_rfl) (by kernel_rfl) Cd_ hi k
theorem ld5 {i:Nat} (hi:i<l.length):(XOp.load 5).run Tryz.prog [.vptr (x_ hn_ (l.drop i))]=some (.int .u8 (l[i].toNat:Int)):=by
 rw [List.drop_eq_getElem_cons hi]
 exact dh_ Tryz.underlying5 rfl _ _
end
theorem AA_ (n:Nat) (h:n<256):(XOp.conv 5 3).run Tryz.prog [.int .u8 (n:Int)]=some (.int .i64 (n:Int)):=by
 rw [bh_ Tryz.underlying5 Tryz.underlying3,cH_ (by omega) (by omega)]
theorem xH_ (x m:Nat) (h:0<m) (h2:m<9223372036854775808) (t:TypeId) (cx cy:Bool):(XOp.bin .rem t cx cy).run Tryz.prog [.int .i64 (x:Int),.int .i64 (m:Int)]=some (.int .i64 ((x%m:Nat):Int)):=by
 have:(x:Int).tmod (m:Int)=((x%m:Nat):Int):=by
  rw [Int.tmod_eq_emod_of_nonneg (by omega)];rfl
 show bl_ Tryz.prog .rem t cx cy (.int .i64 (x:Int)) (.int .i64 (m:Int))=_
 exact ro_ (by omega) this t cx cy
theorem ax_ {x y:Int} {t:TypeId} {cx cy:Bool} (h1: -9223372036854775807<=x+y) (h2:x+y<=9223372036854775807):(XOp.bin .add t cx cy).run Tryz.prog [.int .i64 x,.int .i64 y]=some (.int .i64 (x+y)):=by
 rw [run_add,cH_ (by omega) (by omega)]
theorem bN_ {x y z:Int} {t:TypeId} {cx cy:Bool} (h:x-y=z) (h1: -9223372036854775807<=z) (h2:z<=9223372036854775807):(XOp.bin .sub t cx cy).run Tryz.prog [.int .i64 x,.int .i64 y]=some (.int .i64 z):=by
 rw [run_sub,h,cH_ (by omega) (by omega)]
def RN (l:List UInt8) (m:Nat):Nat->List AV->Prop:=λ_ ws=>∃v n:Nat,ws=[.int .i64 (v:Int),.int .i64 (n:Int)]/\v<m/\n<=l.length
def c39:VC:=⟨⟨[],[]⟩,[],[],1,true,[]⟩
def t39:VT:=
 (.lt Qu [64] 67 none
 (.lt (.bin .geq 3 false false) [65,67] 68 none
 (.ite 68
 (.done (.tup [J 0,J 0,65]))
 (.lt Q2 [65,J 1] 69 none
 (.lt Qc [69,J 1] 70 none
 (.lt (.iaddr 22) [64,70] 71 none
 (.lt (.load 5) [71] 72 none
 (.lt Z7 [72] 73 none
 (.lt Zx [73,66] 74 none
 (.done (.tup [J 0,74,69])))))))))))
theorem p39 {l:List UInt8} {a:AV} {n m:Nat} (h:Pk l a) (hn:n<=l.length) (hm:0<m) (hm2:m<=1000):CF Tryz.prog 39 ft39 [a,.int .i64 (n:Int),.int .i64 (m:Int)] (RN l m):=by
 have hb:=h.2
 refine A_ (c:=c39) (n:=300) (t:=t39) mo ov rfl (λY _=>l_ _) (by kernel_rfl) λY hf hg=>?_
 unfold t39
 refine b_ (uG_ h) rfl (b_ (run_geq ..) rfl (f_ rfl (λh1=>VOK_fin rfl ⟨0,n,rfl,hm,hn⟩) (λh1=>?_)))
 have h1:n<l.length:=by simpa using h1
 refine b_ (ax_ (by omega) (by omega)) rfl (b_ (bN_ (z:=n) (by omega) (by omega) (by omega)) rfl (b_ (Cl_ h h1) (i_ iz_ _) (b_ (ld5 h1) rfl (b_ (AA_ _ (UInt8.toNat_lt _)) rfl (b_ (xH_ _ _ hm (by omega) ..) rfl (VOK_fin rfl ⟨l[n].toNat%m,n+1,rfl,Nat.mod_lt _ hm,h1⟩))))))
end Go.Proofs.YtjconanknjgpnaaGreat.vars
set_option maxRecDepth 100000
set_option linter.unusedVariables false
set_option linter.unusedSimpArgs false
namespace Go.Proofs.YtjconanknjgpnaaGreat.vars
open Go Go.Sx
def RI (l:List UInt8) (m:Int):Nat->List AV->Prop:=λ_ ws=>∃v n:Nat,ws=[.int .i64 (v:Int),.int .i64 (n:Int)]/\(v:Int)<m/\n<=l.length
theorem wv_ {f:FuncId} {ft:FT} {vs:List AV} {R R':Nat->List AV->Prop} (h:CF Tryz.prog f ft vs R) (hr:∀j ws,R j ws->R' j ws):CF Tryz.prog f ft vs R':=
 ⟨h.1,λY hf B pr E w us h1 h2 h3 h4=>(h.2 Y hf B pr E w us h1 h2 h3 h4).mono λe w' ⟨Y',r,⟨j,ws,b,tp,q1,q2,q3⟩,hp⟩=>⟨Y',r,⟨j,ws,b,tp,q1,hr _ _ q2,q3⟩,hp⟩⟩
theorem cY_ {l:List UInt8} {a:AV} {n:Nat} {m:Int} (h:Pk l a) (hn:n<=l.length) (hm:0<m) (hm2:m<=1000):CF Tryz.prog 39 ft39 [a,.int .i64 (n:Int),.int .i64 m] (RI l m):=by
 have e:m=((m.toNat:Nat):Int):=by omega
 have:=p39 h hn (m:=m.toNat) (by omega) (by omega)
 rw [←e]at this
 exact wv_ this λj ws ⟨v,n,h1,h2,h3⟩=>⟨v,n,h1,by omega,h3⟩
def RX (l:List UInt8) (d:Nat):Nat->List AV->Prop:=λ_ ws=>∃(x:GX) (n:Nat),ws=aH_ x++[.int .i64 (n:Int)]/\WX (d+1) x/\n<=l.length
def PX (l:List UInt8) (a:AV) (f:FuncId) (d:Nat):Prop:=∀(n:Nat) (k:Int),n<=l.length->1<=k/\k<=5->CF Tryz.prog f ftX [a,.int .i64 (n:Int),.int .i64 k,.int .i64 (d:Int)] (RX l d)
theorem cJ_ {d:Nat} {kd ad n vk vi:Int} {nm fd:List UInt8} {vf:Nat} (ho:dC_ vk vi vf) (hf:v3_ vf):WX (d+1) (.mk 1 kd nm fd ad n vk vi vf []):=⟨.inl ⟨.inl rfl,rfl⟩,hf,⟨λ_=>ho,λh=>by omega,λh=>by omega,λh=>by omega⟩,λa ha=>(List.not_mem_nil ha).elim⟩
theorem bi_ {d:Nat} {kd ad n vk vi:Int} {nm fd:List UInt8} (ho:(nm,fd)∈jW_):WX (d+1) (.mk 2 kd nm fd ad n vk vi 0 []):=⟨.inl ⟨.inr rfl,rfl⟩,.inl rfl,⟨λh=>by omega,λ_=>ho,λh=>by omega,λh=>by omega⟩,λa ha=>(List.not_mem_nil ha).elim⟩
theorem ne_ {d:Nat} {op kd ad n vk vi:Int} {nm fd:List UInt8} {x:GX} (ho:op=3/\nm=[107]\/op=15\/op=16\/op=17/\2<=kd/\kd<=5) (h:WX d x):WX (d+1) (.mk op kd nm fd ad n vk vi 0 [x]):=by
 refine ⟨.inr (.inl ⟨by omega,rfl⟩),.inl rfl,⟨λh=>by omega,λh=>by omega,λh=>?_,λh=>by omega⟩,λa ha=>by cases List.mem_singleton.1 ha;exact h⟩
 rcases ho with ho|ho|ho|ho
 .exact ho.2
 all_goals omega
theorem mO_ {d:Nat} {op kd ad n vk vi:Int} {nm fd:List UInt8} {x y:GX} (ho:4<=op/\op<=14) (h:WX d x) (h2:WX d y):WX (d+1) (.mk op kd nm fd ad n vk vi 0 [x,y]):=
 ⟨.inr (.inr ⟨ho,rfl⟩),.inl rfl,⟨λh=>by omega,λh=>by omega,λh=>by omega,λh=>by omega⟩,λa ha=>by rcases List.mem_cons.1 ha with rfl|ha;exact h;cases List.mem_singleton.1 ha;exact h2⟩
theorem g_ {P:Program} {Q:AV->Prop} {L:List (Nat->List AV->Prop)} {Y:Sy} {f:FuncId} {ft:FT} {hv vs:List AV} {n:Nat} {bs:VTs} {R:Nat->List AV->Prop} (h1:CF P f ft vs R) (h0:e_ Y.v hv=vs) (h2:B_ vs=true) (h3:vN_ P Q R L (Y.puts n vs) (Nat.add n ft.ent.nv) 0 bs):T_ P Q L Y (.callF f ft hv n bs):=by
 subst h0;exact o_ h1 h2 h3
theorem okP {a:AV} (h:I_ a=true) {n m:Int}:B_ [a,.int .i64 n,.int .i64 m]=true:=by simp only [B_,I_,h]
theorem okQ {a:AV} (h:I_ a=true) {n m k:Int}:B_ [a,.int .i64 n,.int .i64 m,.int .i64 k]=true:=by simp only [B_,I_,h]
theorem fg_ (x:GX) (n:Int):B_ (aH_ x++[.int .i64 n])=true:=i_.okL_join (okX x) rfl
theorem bP_ {l:List UInt8} {d n j:Nat} {x:GX} {hv:List AV} {Y:Sy} {L:List (Nat->List AV->Prop)} (h:e_ Y.v hv=aH_ x++[.int .i64 (n:Int)]) (hw:WX (d+1) x) (hn:n<=l.length):T_ Tryz.prog (QF (RX l d)) L Y (.done (.tup (.int .i64 (.ofNat j)::hv))):=
 VOK_fin (by rw [h];exact fg_ x n) ⟨x,n,h,hw,hn⟩
section
variable {P:Program} {Q:AV->Prop} {L:List (Nat->List AV->Prop)} {Y:Sy} {t:TypeId} {cx cy:Bool} {args:List AV} {n:Nat} {A B:VT} {k:IntKind} {a b:Int}
def aE_:BinOp->Int->Int->Bool
 | .eql,a,b=>decide (a=b)
 | .neq,a,b=> !decide (a=b)
 | .lss,a,b=>decide (a<b)
 | .gtr,a,b=>decide (b<a)
 | .leq,a,b=>decide (a<=b)
 |_,_,_=>false
theorem aS_ {op:BinOp} (h0:e_ Y.v args=[.int k a,.int k b]) (ho:(match op with| .eql=>true| .neq=>true| .lss=>true| .gtr=>true| .leq=>true|_=>false)=true)
  (h1:aE_ op a b=true->T_ P Q L (Y.put n (.bool (aE_ op a b))) A) (h2:aE_ op a b=false->T_ P Q L (Y.put n (.bool (aE_ op a b))) B):T_ P Q L Y (.lt (.bin op t cx cy) args n none (.ite n A B)):=by
 have hr:(XOp.bin op t cx cy).run P [.int k a,.int k b]=some (.bool (aE_ op a b)):=by
  cases op<;>simp only at ho<;>first|(cases ho;done)|skip
  .exact run_eql ..
  .exact run_neq ..
  .exact run_lss ..
  .exact run_leq ..
  .exact run_gtr ..
 exact b_ (by rw [h0];exact hr) rfl (f_ (t:=aE_ op a b) (by rw [x6_,if_pos rfl]) h1 h2)
end
def c48:VC:=⟨⟨[],[]⟩,[],[],1,true,[(39,ft39),(21,aP_)]⟩
def t48:VT:=
 (.callF 39 ft39 [64,65,J 4] 68
 (.cons 2
 (.lt Q0 [66,J 1] 73 none
 (.ite 73
 (.callF 39 ft39 [64,72,J 2] 74
 (.cons 2
 (.lt Qa [.vsl 4 10 [J 2,J 0,.str [98],.str [],J 0,J 0,J 0,J 0,.flt .f64 0,.nsl,J 2,J 0,.str [113],.str [],J 0,J 0,J 0,J 0,.flt .f64 0,.nsl,J 2,J 0,.str [116,109],.str [113],J 0,J 0,J 0,J 0,.flt .f64 0,.nsl,J 1,J 0,.str [],.str [],J 0,J 0,J 1,77,.flt .f64 0,.nsl],71] 79 none
 (.lt Qd [79] 80 (some 10)
 (.done (.tup [J 0,80,81,82,83,84,85,86,87,88,89,78]))))
 .nil))
 (.lt Q0 [66,J 2] 74 none
 (.ite 74
 (.lt Q0 [71,J 0] 75 none
 (.ite 75
 (.lt Qj [67,J 1] 76 none
 (.ite 76
 (.lt Qc [67,J 1] 77 none
 (.callF 21 aP_ [64,72,J 2,77] 78
 (.cons 11
 (.done (.tup [J 0,J 3,J 0,.str [107],.str [],J 0,J 0,J 0,J 0,.flt .f64 0,.vsl 1 10 [82,83,84,85,86,87,88,89,90,91],92]))
 .nil)))
 (.lt Qz [71,J 2] 77 none
 (.ite 77
 (.callF 39 ft39 [64,72,J 7] 78
 (.cons 2
 (.done (.tup [J 0,J 17,J 2,.str [],.str [],J 0,J 0,J 0,J 0,.flt .f64 0,.vsl 1 10 [J 1,J 0,.str [],.str [],J 0,J 0,J 3,81,.flt .f64 0,.nsl],82]))
 .nil))
 (.callF 39 ft39 [64,72,J 4] 78
 (.cons 2
 (.lt Qa [.vsl 4 10 [J 2,J 0,.str [97],.str [],J 0,J 0,J 0,J 0,.flt .f64 0,.nsl,J 2,J 0,.str [120],.str [],J 0,J 0,J 0,J 0,.flt .f64 0,.nsl,J 2,J 0,.str [111],.str [],J 0,J 0,J 0,J 0,.flt .f64 0,.nsl,J 2,J 0,.str [99],.str [99,118],J 0,J 0,J 0,J 0,.flt .f64 0,.nsl],81] 83 none
 (.lt Qd [83] 84 (some 10)
 (.done (.tup [J 0,84,85,86,87,88,89,90,91,92,93,82]))))
 .nil))))))
 (.lt Qz [71,J 2] 76 none
 (.ite 76
 (.callF 39 ft39 [64,72,J 7] 77
 (.cons 2
 (.done (.tup [J 0,J 17,J 2,.str [],.str [],J 0,J 0,J 0,J 0,.flt .f64 0,.vsl 1 10 [J 1,J 0,.str [],.str [],J 0,J 0,J 3,80,.flt .f64 0,.nsl],81]))
 .nil))
 (.callF 39 ft39 [64,72,J 4] 77
 (.cons 2
 (.lt Qa [.vsl 4 10 [J 2,J 0,.str [97],.str [],J 0,J 0,J 0,J 0,.flt .f64 0,.nsl,J 2,J 0,.str [120],.str [],J 0,J 0,J 0,J 0,.flt .f64 0,.nsl,J 2,J 0,.str [111],.str [],J 0,J 0,J 0,J 0,.flt .f64 0,.nsl,J 2,J 0,.str [99],.str [99,118],J 0,J 0,J 0,J 0,.flt .f64 0,.nsl],80] 82 none
 (.lt Qd [82] 83 (some 10)
 (.done (.tup [J 0,83,84,85,86,87,88,89,90,91,92,81]))))
 .nil))))))
 (.lt Q0 [66,J 3] 75 none
 (.ite 75
 (.lt Qz [71,J 2] 76 none
 (.ite 76
 (.callF 39 ft39 [64,72,J 9] 77
 (.cons 2
 (.done (.tup [J 0,J 1,J 0,.str [],.str [],J 0,J 0,J 3,80,.flt .f64 0,.nsl,81]))
 .nil))
 (.done (.tup [J 0,J 2,J 0,.str [121],.str [],J 0,J 0,J 0,J 0,.flt .f64 0,.nsl,72]))))
 (.lt Q0 [66,J 4] 76 none
 (.ite 76
 (.lt Q0 [71,J 0] 77 none
 (.ite 77
 (.done (.tup [J 0,J 2,J 0,.str [116,109],.str [101,116],J 0,J 0,J 0,J 0,.flt .f64 0,.nsl,72]))
 (.lt Q0 [71,J 1] 78 none
 (.ite 78
 (.callF 39 ft39 [64,72,J 50] 79
 (.cons 2
 (.done (.tup [J 0,J 1,J 0,.str [],.str [],J 0,J 0,J 4,82,.flt .f64 0,.nsl,83]))
 .nil))
 (.done (.tup [J 0,J 2,J 0,.str [119],.str [],J 0,J 0,J 0,J 0,.flt .f64 0,.nsl,72]))))))
 (.lt Qz [71,J 2] 77 none
 (.ite 77
 (.callF 39 ft39 [64,72,J 4] 78
 (.cons 2
 (.lt (.iaddr 143) [.vsl 4 1 [.flt .f64 0,.flt .f64 4609434218613702656,.flt .f64 4611686018427387904,.flt .f64 4598175219545276416],81] 83 none
 (.lt (.load 44) [83] 84 none
 (.done (.tup [J 0,J 1,J 0,.str [],.str [],J 0,J 0,J 5,J 0,84,.nsl,82]))))
 .nil))
 (.done (.tup [J 0,J 2,J 0,.str [122],.str [],J 0,J 0,J 0,J 0,.flt .f64 0,.nsl,72]))))))))))))
 .nil))
def c21:VC:=⟨⟨[],[]⟩,[],[],1,true,[(39,ft39),(21,aP_),(48,lr_)]⟩
def t21:VT:=
 (.lt Qr [67,J 1] 68 none
 (.ite 68
 (.callF 48 lr_ [64,65,66,67] 69
 (.cons 11
 (.done (.tup [J 0,73,74,75,76,77,78,79,80,81,82,83]))
 .nil))
 (.callF 39 ft39 [64,65,J 4] 69
 (.cons 2
 (.lt Q0 [72,J 0] 74 none
 (.ite 74
 (.callF 48 lr_ [64,73,66,67] 75
 (.cons 11
 (.done (.tup [J 0,79,80,81,82,83,84,85,86,87,88,89]))
 .nil))
 (.lt Q0 [66,J 1] 75 none
 (.ite 75
 (.callF 39 ft39 [64,73,J 5] 76
 (.cons 2
 (.lt Q0 [79,J 0] 81 none
 (.ite 81
 (.lt Qc [67,J 1] 82 none
 (.callF 21 aP_ [64,80,J 1,82] 83
 (.cons 11
 (.done (.tup [J 0,J 15,J 0,.str [],.str [],J 0,J 0,J 0,J 0,.flt .f64 0,.vsl 1 10 [87,88,89,90,91,92,93,94,95,96],97]))
 .nil)))
 (.lt Q0 [79,J 1] 82 none
 (.ite 82
 (.callF 39 ft39 [64,80,J 2] 83
 (.cons 2
 (.lt Z0 [J 13,86] 88 none
 (.lt Qc [67,J 1] 89 none
 (.callF 21 aP_ [64,87,J 1,89] 90
 (.cons 11
 (.lt Qc [67,J 1] 105 none
 (.callF 21 aP_ [64,104,J 1,105] 106
 (.cons 11
 (.done (.tup [J 0,88,J 0,.str [],.str [],J 0,J 0,J 0,J 0,.flt .f64 0,.vsl 2 10 [94,95,96,97,98,99,100,101,102,103,110,111,112,113,114,115,116,117,118,119],120]))
 .nil)))
 .nil))))
 .nil))
 (.callF 39 ft39 [64,80,J 4] 83
 (.cons 2
 (.lt Z0 [J 2,86] 88 none
 (.callF 39 ft39 [64,87,J 4] 89
 (.cons 2
 (.lt Z0 [J 9,92] 94 none
 (.lt Qc [67,J 1] 95 none
 (.callF 21 aP_ [64,93,88,95] 96
 (.cons 11
 (.lt Qc [67,J 1] 111 none
 (.callF 21 aP_ [64,110,88,111] 112
 (.cons 11
 (.done (.tup [J 0,94,J 0,.str [],.str [],J 0,J 0,J 0,J 0,.flt .f64 0,.vsl 2 10 [100,101,102,103,104,105,106,107,108,109,116,117,118,119,120,121,122,123,124,125],126]))
 .nil)))
 .nil))))
 .nil)))
 .nil))))))
 .nil))
 (.callF 39 ft39 [64,73,J 9] 76
 (.cons 2
 (.lt Q0 [79,J 0] 81 none
 (.ite 81
 (.lt Qc [67,J 1] 82 none
 (.callF 21 aP_ [64,80,66,82] 83
 (.cons 11
 (.done (.tup [J 0,J 16,J 0,.str [],.str [],J 0,J 0,J 0,J 0,.flt .f64 0,.vsl 1 10 [87,88,89,90,91,92,93,94,95,96],97]))
 .nil)))
 (.lt Q0 [79,J 1] 82 none
 (.ite 82
 (.callF 39 ft39 [64,80,J 4] 83
 (.cons 2
 (.lt Z0 [J 2,86] 88 none
 (.lt Qc [67,J 1] 89 none
 (.callF 21 aP_ [64,87,88,89] 90
 (.cons 11
 (.done (.tup [J 0,J 17,66,.str [],.str [],J 0,J 0,J 0,J 0,.flt .f64 0,.vsl 1 10 [94,95,96,97,98,99,100,101,102,103],104]))
 .nil))))
 .nil))
 (.lt Q0 [79,J 2] 83 none
 (.ite 83
 (.lt Q3 [66,J 5] 84 none
 (.ite 84
 (.lt Qc [67,J 1] 85 none
 (.callF 21 aP_ [64,80,66,85] 86
 (.cons 11
 (.lt Qc [67,J 1] 101 none
 (.callF 21 aP_ [64,100,66,101] 102
 (.cons 11
 (.done (.tup [J 0,J 8,J 0,.str [],.str [],J 0,J 0,J 0,J 0,.flt .f64 0,.vsl 2 10 [90,91,92,93,94,95,96,97,98,99,106,107,108,109,110,111,112,113,114,115],116]))
 .nil)))
 .nil)))
 (.callF 39 ft39 [64,80,J 4] 85
 (.cons 2
 (.lt Z0 [J 4,88] 90 none
 (.lt Qc [67,J 1] 91 none
 (.callF 21 aP_ [64,89,66,91] 92
 (.cons 11
 (.lt Qc [67,J 1] 107 none
 (.callF 21 aP_ [64,106,66,107] 108
 (.cons 11
 (.done (.tup [J 0,90,J 0,.str [],.str [],J 0,J 0,J 0,J 0,.flt .f64 0,.vsl 2 10 [96,97,98,99,100,101,102,103,104,105,112,113,114,115,116,117,118,119,120,121],122]))
 .nil)))
 .nil))))
 .nil))))
 (.callF 39 ft39 [64,80,J 4] 84
 (.cons 2
 (.lt Z0 [J 4,87] 89 none
 (.lt Qc [67,J 1] 90 none
 (.callF 21 aP_ [64,88,66,90] 91
 (.cons 11
 (.lt Qc [67,J 1] 106 none
 (.callF 21 aP_ [64,105,66,106] 107
 (.cons 11
 (.done (.tup [J 0,89,J 0,.str [],.str [],J 0,J 0,J 0,J 0,.flt .f64 0,.vsl 2 10 [95,96,97,98,99,100,101,102,103,104,111,112,113,114,115,116,117,118,119,120],121]))
 .nil)))
 .nil))))
 .nil))))))))
 .nil))))))
 .nil))))
theorem p48 {l:List UInt8} {a:AV} (hp:Pk l a) (d:Nat) (hd2:d<=100) (hX:1<=d->PX l a 21 d):PX l a 48 (d+1):=by
 intro n k hn hk
 have hA:=hp.1.ok iz_
 refine A_ (c:=c48) (n:=300) (t:=t48) mo ov rfl (λY _=>l_ _) (by kernel_rfl) λY hf hg=>?_
 unfold t48
 have f7:∀v:Nat,(v:Int)<7->WX (d+1+1) (.mk 17 2 [] [] 0 0 0 0 0 [.mk 1 0 [] [] 0 0 3 (v:Int) 0 []]):=λv hv=>ne_ (by decide) (cJ_ (by unfold dC_;omega) (.inl rfl))
 (refine g_ (cY_ hp hn (by first|decide|omega) (by first|decide|omega)) rfl (okP hA) ⟨?_,trivial⟩;intro ws hw;rcases hw with ⟨v,n,rfl,hv,hn⟩)
 (refine aS_ rfl rfl (λh=>?_) (λh=>?_)<;>rw [aE_]at h)
 ·((have e4:v=0\/v=1\/v=2\/v=3:=by omega);rcases e4 with rfl|rfl|rfl|rfl)
  all_goals (refine g_ (cY_ hp hn (by first|decide|omega) (by first|decide|omega)) rfl (okP hA) ⟨?_,trivial⟩;intro ws hw;rcases hw with ⟨v,n,rfl,hv,hn⟩);refine b_ rfl rfl (n_ rfl rfl rfl ?_);(first
                                                                                                                                                                                                               |exact bP_ (x:=.mk 2 _ _ _ _ _ _ _ _ []) rfl (bi_ (by decide)) hn
                                                                                                                                                                                                               |exact bP_ (x:=.mk 1 _ _ _ _ _ _ _ _ []) rfl (cJ_ (by unfold dC_;omega) (by first|exact .inl rfl|exact .inr (.inl rfl)|exact .inr (.inr (.inl rfl))|exact .inr (.inr (.inr rfl)))) hn)
 (refine aS_ rfl rfl (λh=>?_) (λh=>?_)<;>rw [aE_]at h)
 ·(refine aS_ rfl rfl (λh=>?_) (λh=>?_)<;>rw [aE_]at h)
  ·(refine aS_ rfl rfl (λh=>?_) (λh=>?_)<;>rw [aE_]at h)
   .have hd1:1<=d:=by simp at h;omega
    refine b_ (bN_ (z:=(d:Int)) (by omega) (by omega) (by omega)) rfl ?_
    (refine g_ ((hX hd1) _ _ hn (by first|decide|(simp only [decide_eq_true_eq,decide_eq_false_iff_not]at *; omega))) rfl (okQ hA) ⟨?_,trivial⟩;intro ws hw;obtain ⟨⟨op,kd,nm,fd,ad,nn,vk,vi,vf,args⟩,n,rfl,hx,hn⟩:=hw)
    (exact bP_ (x:=.mk _ _ _ _ _ _ _ _ _ [.mk _ _ _ _ _ _ _ _ _ _]) rfl (ne_ (by first|decide|(refine .inr (.inr (.inr ⟨rfl,?_,?_⟩))<;>(simp only [decide_eq_true_eq,decide_eq_false_iff_not]at *; omega))) (by assumption)) hn)
   ·(refine aS_ rfl rfl (λh=>?_) (λh=>?_)<;>rw [aE_]at h)
    ·(refine g_ (cY_ hp hn (by first|decide|omega) (by first|decide|omega)) rfl (okP hA) ⟨?_,trivial⟩;intro ws hw;rcases hw with ⟨v,n,rfl,hv,hn⟩)
     exact bP_ (x:=.mk _ _ _ _ _ _ _ _ _ [.mk _ _ _ _ _ _ _ _ _ []]) rfl (f7 _ hv) hn
    ·(refine g_ (cY_ hp hn (by first|decide|omega) (by first|decide|omega)) rfl (okP hA) ⟨?_,trivial⟩;intro ws hw;rcases hw with ⟨v,n,rfl,hv,hn⟩);((have e4:v=0\/v=1\/v=2\/v=3:=by omega);rcases e4 with rfl|rfl|rfl|rfl)
     all_goals refine b_ rfl rfl (n_ rfl rfl rfl ?_);(first
                                                                |exact bP_ (x:=.mk 2 _ _ _ _ _ _ _ _ []) rfl (bi_ (by decide)) hn
                                                                |exact bP_ (x:=.mk 1 _ _ _ _ _ _ _ _ []) rfl (cJ_ (by unfold dC_;omega) (by first|exact .inl rfl|exact .inr (.inl rfl)|exact .inr (.inr (.inl rfl))|exact .inr (.inr (.inr rfl)))) hn)
  ·(refine aS_ rfl rfl (λh=>?_) (λh=>?_)<;>rw [aE_]at h)
   ·(refine g_ (cY_ hp hn (by first|decide|omega) (by first|decide|omega)) rfl (okP hA) ⟨?_,trivial⟩;intro ws hw;rcases hw with ⟨v,n,rfl,hv,hn⟩)
    exact bP_ (x:=.mk _ _ _ _ _ _ _ _ _ [.mk _ _ _ _ _ _ _ _ _ []]) rfl (f7 _ hv) hn
   ·(refine g_ (cY_ hp hn (by first|decide|omega) (by first|decide|omega)) rfl (okP hA) ⟨?_,trivial⟩;intro ws hw;rcases hw with ⟨v,n,rfl,hv,hn⟩);((have e4:v=0\/v=1\/v=2\/v=3:=by omega);rcases e4 with rfl|rfl|rfl|rfl)
    all_goals refine b_ rfl rfl (n_ rfl rfl rfl ?_);(first
                                                               |exact bP_ (x:=.mk 2 _ _ _ _ _ _ _ _ []) rfl (bi_ (by decide)) hn
                                                               |exact bP_ (x:=.mk 1 _ _ _ _ _ _ _ _ []) rfl (cJ_ (by unfold dC_;omega) (by first|exact .inl rfl|exact .inr (.inl rfl)|exact .inr (.inr (.inl rfl))|exact .inr (.inr (.inr rfl)))) hn)
 (refine aS_ rfl rfl (λh=>?_) (λh=>?_)<;>rw [aE_]at h)
 ·(refine aS_ rfl rfl (λh=>?_) (λh=>?_)<;>rw [aE_]at h)
  ·(refine g_ (cY_ hp hn (by first|decide|omega) (by first|decide|omega)) rfl (okP hA) ⟨?_,trivial⟩;intro ws hw;rcases hw with ⟨v,n,rfl,hv,hn⟩);(first
                                                                                                                                                       |exact bP_ (x:=.mk 2 _ _ _ _ _ _ _ _ []) rfl (bi_ (by decide)) hn
                                                                                                                                                       |exact bP_ (x:=.mk 1 _ _ _ _ _ _ _ _ []) rfl (cJ_ (by unfold dC_;omega) (by first|exact .inl rfl|exact .inr (.inl rfl)|exact .inr (.inr (.inl rfl))|exact .inr (.inr (.inr rfl)))) hn)
  ·(first
     |exact bP_ (x:=.mk 2 _ _ _ _ _ _ _ _ []) rfl (bi_ (by decide)) hn
     |exact bP_ (x:=.mk 1 _ _ _ _ _ _ _ _ []) rfl (cJ_ (by unfold dC_;omega) (by first|exact .inl rfl|exact .inr (.inl rfl)|exact .inr (.inr (.inl rfl))|exact .inr (.inr (.inr rfl)))) hn)
 (refine aS_ rfl rfl (λh=>?_) (λh=>?_)<;>rw [aE_]at h)
 ·(refine aS_ rfl rfl (λh=>?_) (λh=>?_)<;>rw [aE_]at h)
  ·(first
     |exact bP_ (x:=.mk 2 _ _ _ _ _ _ _ _ []) rfl (bi_ (by decide)) hn
     |exact bP_ (x:=.mk 1 _ _ _ _ _ _ _ _ []) rfl (cJ_ (by unfold dC_;omega) (by first|exact .inl rfl|exact .inr (.inl rfl)|exact .inr (.inr (.inl rfl))|exact .inr (.inr (.inr rfl)))) hn)
  ·(refine aS_ rfl rfl (λh=>?_) (λh=>?_)<;>rw [aE_]at h)
   ·(refine g_ (cY_ hp hn (by first|decide|omega) (by first|decide|omega)) rfl (okP hA) ⟨?_,trivial⟩;intro ws hw;rcases hw with ⟨v,n,rfl,hv,hn⟩);(first
                                                                                                                                                        |exact bP_ (x:=.mk 2 _ _ _ _ _ _ _ _ []) rfl (bi_ (by decide)) hn
                                                                                                                                                        |exact bP_ (x:=.mk 1 _ _ _ _ _ _ _ _ []) rfl (cJ_ (by unfold dC_;omega) (by first|exact .inl rfl|exact .inr (.inl rfl)|exact .inr (.inr (.inl rfl))|exact .inr (.inr (.inr rfl)))) hn)
   ·(first
      |exact bP_ (x:=.mk 2 _ _ _ _ _ _ _ _ []) rfl (bi_ (by decide)) hn
      |exact bP_ (x:=.mk 1 _ _ _ _ _ _ _ _ []) rfl (cJ_ (by unfold dC_;omega) (by first|exact .inl rfl|exact .inr (.inl rfl)|exact .inr (.inr (.inl rfl))|exact .inr (.inr (.inr rfl)))) hn)
 (refine aS_ rfl rfl (λh=>?_) (λh=>?_)<;>rw [aE_]at h)
 ·(refine g_ (cY_ hp hn (by first|decide|omega) (by first|decide|omega)) rfl (okP hA) ⟨?_,trivial⟩;intro ws hw;rcases hw with ⟨v,n,rfl,hv,hn⟩);((have e4:v=0\/v=1\/v=2\/v=3:=by omega);rcases e4 with rfl|rfl|rfl|rfl)
  all_goals refine b_ rfl rfl (b_ rfl rfl ?_);(first
                                                        |exact bP_ (x:=.mk 2 _ _ _ _ _ _ _ _ []) rfl (bi_ (by decide)) hn
                                                        |exact bP_ (x:=.mk 1 _ _ _ _ _ _ _ _ []) rfl (cJ_ (by unfold dC_;omega) (by first|exact .inl rfl|exact .inr (.inl rfl)|exact .inr (.inr (.inl rfl))|exact .inr (.inr (.inr rfl)))) hn)
 ·(first
    |exact bP_ (x:=.mk 2 _ _ _ _ _ _ _ _ []) rfl (bi_ (by decide)) hn
    |exact bP_ (x:=.mk 1 _ _ _ _ _ _ _ _ []) rfl (cJ_ (by unfold dC_;omega) (by first|exact .inl rfl|exact .inr (.inl rfl)|exact .inr (.inr (.inl rfl))|exact .inr (.inr (.inr rfl)))) hn)
theorem p21 {l:List UInt8} {a:AV} (hp:Pk l a) (d:Nat) (hd2:d<=100) (h83:PX l a 48 (d+1)) (h81:1<=d->PX l a 21 d):PX l a 21 (d+1):=by
 intro n k hn hk
 have hA:=hp.1.ok iz_
 refine A_ (c:=c21) (n:=300) (t:=t21) mo ov rfl (λY _=>l_ _) (by kernel_rfl) λY hf hg=>?_
 unfold t21
 (refine aS_ rfl rfl (λh=>?_) (λh=>?_)<;>rw [aE_]at h)
 ·(refine g_ (h83 _ _ hn (by first|decide|(simp only [decide_eq_true_eq,decide_eq_false_iff_not]at *; omega))) rfl (okQ hA) ⟨?_,trivial⟩;intro ws hw;obtain ⟨⟨op,kd,nm,fd,ad,nn,vk,vi,vf,args⟩,n,rfl,hx,hn⟩:=hw);exact bP_ (x:=.mk _ _ _ _ _ _ _ _ _ _) rfl hx hn
 have hX:=h81 (by simp at h;omega)
 (refine g_ (cY_ hp hn (by first|decide|omega) (by first|decide|omega)) rfl (okP hA) ⟨?_,trivial⟩;intro ws hw;rcases hw with ⟨v,n,rfl,hv,hn⟩);(refine aS_ rfl rfl (λh=>?_) (λh=>?_)<;>rw [aE_]at h)
 ·(refine g_ (h83 _ _ hn (by first|decide|(simp only [decide_eq_true_eq,decide_eq_false_iff_not]at *; omega))) rfl (okQ hA) ⟨?_,trivial⟩;intro ws hw;obtain ⟨⟨op,kd,nm,fd,ad,nn,vk,vi,vf,args⟩,n,rfl,hx,hn⟩:=hw);exact bP_ (x:=.mk _ _ _ _ _ _ _ _ _ _) rfl hx hn
 (refine aS_ rfl rfl (λh=>?_) (λh=>?_)<;>rw [aE_]at h)
 ·(refine g_ (cY_ hp hn (by first|decide|omega) (by first|decide|omega)) rfl (okP hA) ⟨?_,trivial⟩;intro ws hw;rcases hw with ⟨v,n,rfl,hv,hn⟩);(refine aS_ rfl rfl (λh=>?_) (λh=>?_)<;>rw [aE_]at h)
  ·(refine b_ (bN_ (z:=(d:Int)) (by omega) (by omega) (by omega)) rfl ?_);(refine g_ (hX _ _ hn (by first|decide|(simp only [decide_eq_true_eq,decide_eq_false_iff_not]at *; omega))) rfl (okQ hA) ⟨?_,trivial⟩;intro ws hw;obtain ⟨⟨op,kd,nm,fd,ad,nn,vk,vi,vf,args⟩,n,rfl,hx,hn⟩:=hw);(exact bP_ (x:=.mk _ _ _ _ _ _ _ _ _ [.mk _ _ _ _ _ _ _ _ _ _]) rfl (ne_ (by first|decide|(refine .inr (.inr (.inr ⟨rfl,?_,?_⟩))<;>(simp only [decide_eq_true_eq,decide_eq_false_iff_not]at *; omega))) (by assumption)) hn)
  (refine aS_ rfl rfl (λh=>?_) (λh=>?_)<;>rw [aE_]at h)
  ·(refine g_ (cY_ hp hn (by first|decide|omega) (by first|decide|omega)) rfl (okP hA) ⟨?_,trivial⟩;intro ws hw;rcases hw with ⟨v,n,rfl,hv,hn⟩);(refine b_ (ax_ (by omega) (by omega)) rfl ?_);(refine b_ (bN_ (z:=(d:Int)) (by omega) (by omega) (by omega)) rfl ?_);(refine g_ (hX _ _ hn (by first|decide|(simp only [decide_eq_true_eq,decide_eq_false_iff_not]at *; omega))) rfl (okQ hA) ⟨?_,trivial⟩;intro ws hw;obtain ⟨⟨op,kd,nm,fd,ad,nn,vk,vi,vf,args⟩,n,rfl,hx,hn⟩:=hw);(refine b_ (bN_ (z:=(d:Int)) (by omega) (by omega) (by omega)) rfl ?_);(refine g_ (hX _ _ hn (by first|decide|(simp only [decide_eq_true_eq,decide_eq_false_iff_not]at *; omega))) rfl (okQ hA) ⟨?_,trivial⟩;intro ws hw;obtain ⟨⟨op,kd,nm,fd,ad,nn,vk,vi,vf,args⟩,n,rfl,hx,hn⟩:=hw);(exact bP_ (x:=.mk _ _ _ _ _ _ _ _ _ [.mk _ _ _ _ _ _ _ _ _ _,.mk _ _ _ _ _ _ _ _ _ _]) rfl (mO_ (by omega) (by assumption) (by assumption)) hn)
  ·(refine g_ (cY_ hp hn (by first|decide|omega) (by first|decide|omega)) rfl (okP hA) ⟨?_,trivial⟩;intro ws hw;rcases hw with ⟨v,n,rfl,hv,hn⟩);(refine b_ (ax_ (by omega) (by omega)) rfl ?_);(refine g_ (cY_ hp hn (by first|decide|omega) (by first|decide|omega)) rfl (okP hA) ⟨?_,trivial⟩;intro ws hw;rcases hw with ⟨v,n,rfl,hv,hn⟩);(refine b_ (ax_ (by omega) (by omega)) rfl ?_);(refine b_ (bN_ (z:=(d:Int)) (by omega) (by omega) (by omega)) rfl ?_);(refine g_ (hX _ _ hn (by first|decide|(simp only [decide_eq_true_eq,decide_eq_false_iff_not]at *; omega))) rfl (okQ hA) ⟨?_,trivial⟩;intro ws hw;obtain ⟨⟨op,kd,nm,fd,ad,nn,vk,vi,vf,args⟩,n,rfl,hx,hn⟩:=hw);(refine b_ (bN_ (z:=(d:Int)) (by omega) (by omega) (by omega)) rfl ?_);(refine g_ (hX _ _ hn (by first|decide|(simp only [decide_eq_true_eq,decide_eq_false_iff_not]at *; omega))) rfl (okQ hA) ⟨?_,trivial⟩;intro ws hw;obtain ⟨⟨op,kd,nm,fd,ad,nn,vk,vi,vf,args⟩,n,rfl,hx,hn⟩:=hw);(exact bP_ (x:=.mk _ _ _ _ _ _ _ _ _ [.mk _ _ _ _ _ _ _ _ _ _,.mk _ _ _ _ _ _ _ _ _ _]) rfl (mO_ (by omega) (by assumption) (by assumption)) hn)
 ·(refine g_ (cY_ hp hn (by first|decide|omega) (by first|decide|omega)) rfl (okP hA) ⟨?_,trivial⟩;intro ws hw;rcases hw with ⟨v,n,rfl,hv,hn⟩);(refine aS_ rfl rfl (λh=>?_) (λh=>?_)<;>rw [aE_]at h)
  ·(refine b_ (bN_ (z:=(d:Int)) (by omega) (by omega) (by omega)) rfl ?_);(refine g_ (hX _ _ hn (by first|decide|(simp only [decide_eq_true_eq,decide_eq_false_iff_not]at *; omega))) rfl (okQ hA) ⟨?_,trivial⟩;intro ws hw;obtain ⟨⟨op,kd,nm,fd,ad,nn,vk,vi,vf,args⟩,n,rfl,hx,hn⟩:=hw);(exact bP_ (x:=.mk _ _ _ _ _ _ _ _ _ [.mk _ _ _ _ _ _ _ _ _ _]) rfl (ne_ (by first|decide|(refine .inr (.inr (.inr ⟨rfl,?_,?_⟩))<;>(simp only [decide_eq_true_eq,decide_eq_false_iff_not]at *; omega))) (by assumption)) hn)
  (refine aS_ rfl rfl (λh=>?_) (λh=>?_)<;>rw [aE_]at h)
  ·(refine g_ (cY_ hp hn (by first|decide|omega) (by first|decide|omega)) rfl (okP hA) ⟨?_,trivial⟩;intro ws hw;rcases hw with ⟨v,n,rfl,hv,hn⟩);(refine b_ (ax_ (by omega) (by omega)) rfl ?_);(refine b_ (bN_ (z:=(d:Int)) (by omega) (by omega) (by omega)) rfl ?_);(refine g_ (hX _ _ hn (by first|decide|(simp only [decide_eq_true_eq,decide_eq_false_iff_not]at *; omega))) rfl (okQ hA) ⟨?_,trivial⟩;intro ws hw;obtain ⟨⟨op,kd,nm,fd,ad,nn,vk,vi,vf,args⟩,n,rfl,hx,hn⟩:=hw);(exact bP_ (x:=.mk _ _ _ _ _ _ _ _ _ [.mk _ _ _ _ _ _ _ _ _ _]) rfl (ne_ (by first|decide|(refine .inr (.inr (.inr ⟨rfl,?_,?_⟩))<;>(simp only [decide_eq_true_eq,decide_eq_false_iff_not]at *; omega))) (by assumption)) hn)
  (refine aS_ rfl rfl (λh=>?_) (λh=>?_)<;>rw [aE_]at h)
  ·(refine aS_ rfl rfl (λh=>?_) (λh=>?_)<;>rw [aE_]at h)
   ·(refine b_ (bN_ (z:=(d:Int)) (by omega) (by omega) (by omega)) rfl ?_);(refine g_ (hX _ _ hn (by first|decide|(simp only [decide_eq_true_eq,decide_eq_false_iff_not]at *; omega))) rfl (okQ hA) ⟨?_,trivial⟩;intro ws hw;obtain ⟨⟨op,kd,nm,fd,ad,nn,vk,vi,vf,args⟩,n,rfl,hx,hn⟩:=hw);(refine b_ (bN_ (z:=(d:Int)) (by omega) (by omega) (by omega)) rfl ?_);(refine g_ (hX _ _ hn (by first|decide|(simp only [decide_eq_true_eq,decide_eq_false_iff_not]at *; omega))) rfl (okQ hA) ⟨?_,trivial⟩;intro ws hw;obtain ⟨⟨op,kd,nm,fd,ad,nn,vk,vi,vf,args⟩,n,rfl,hx,hn⟩:=hw);(exact bP_ (x:=.mk _ _ _ _ _ _ _ _ _ [.mk _ _ _ _ _ _ _ _ _ _,.mk _ _ _ _ _ _ _ _ _ _]) rfl (mO_ (by omega) (by assumption) (by assumption)) hn)
   ·(refine g_ (cY_ hp hn (by first|decide|omega) (by first|decide|omega)) rfl (okP hA) ⟨?_,trivial⟩;intro ws hw;rcases hw with ⟨v,n,rfl,hv,hn⟩);(refine b_ (ax_ (by omega) (by omega)) rfl ?_);(refine b_ (bN_ (z:=(d:Int)) (by omega) (by omega) (by omega)) rfl ?_);(refine g_ (hX _ _ hn (by first|decide|(simp only [decide_eq_true_eq,decide_eq_false_iff_not]at *; omega))) rfl (okQ hA) ⟨?_,trivial⟩;intro ws hw;obtain ⟨⟨op,kd,nm,fd,ad,nn,vk,vi,vf,args⟩,n,rfl,hx,hn⟩:=hw);(refine b_ (bN_ (z:=(d:Int)) (by omega) (by omega) (by omega)) rfl ?_);(refine g_ (hX _ _ hn (by first|decide|(simp only [decide_eq_true_eq,decide_eq_false_iff_not]at *; omega))) rfl (okQ hA) ⟨?_,trivial⟩;intro ws hw;obtain ⟨⟨op,kd,nm,fd,ad,nn,vk,vi,vf,args⟩,n,rfl,hx,hn⟩:=hw);(exact bP_ (x:=.mk _ _ _ _ _ _ _ _ _ [.mk _ _ _ _ _ _ _ _ _ _,.mk _ _ _ _ _ _ _ _ _ _]) rfl (mO_ (by omega) (by assumption) (by assumption)) hn)
  ·(refine g_ (cY_ hp hn (by first|decide|omega) (by first|decide|omega)) rfl (okP hA) ⟨?_,trivial⟩;intro ws hw;rcases hw with ⟨v,n,rfl,hv,hn⟩);(refine b_ (ax_ (by omega) (by omega)) rfl ?_);(refine b_ (bN_ (z:=(d:Int)) (by omega) (by omega) (by omega)) rfl ?_);(refine g_ (hX _ _ hn (by first|decide|(simp only [decide_eq_true_eq,decide_eq_false_iff_not]at *; omega))) rfl (okQ hA) ⟨?_,trivial⟩;intro ws hw;obtain ⟨⟨op,kd,nm,fd,ad,nn,vk,vi,vf,args⟩,n,rfl,hx,hn⟩:=hw);(refine b_ (bN_ (z:=(d:Int)) (by omega) (by omega) (by omega)) rfl ?_);(refine g_ (hX _ _ hn (by first|decide|(simp only [decide_eq_true_eq,decide_eq_false_iff_not]at *; omega))) rfl (okQ hA) ⟨?_,trivial⟩;intro ws hw;obtain ⟨⟨op,kd,nm,fd,ad,nn,vk,vi,vf,args⟩,n,rfl,hx,hn⟩:=hw);(exact bP_ (x:=.mk _ _ _ _ _ _ _ _ _ [.mk _ _ _ _ _ _ _ _ _ _,.mk _ _ _ _ _ _ _ _ _ _]) rfl (mO_ (by omega) (by assumption) (by assumption)) hn)
theorem pX {l:List UInt8} {a:AV} (hp:Pk l a):∀d:Nat,d<=100->PX l a 48 (d+1)/\PX l a 21 (d+1)
 |0,h=>by
  have h1:=p48 hp 0 h (λh=>by omega)
  exact ⟨h1,p21 hp 0 h h1 (λh=>by omega)⟩
 |d+1,h=>by
  have ih:=pX hp d (by omega)
  have h1:=p48 hp (d+1) h (λ_=>ih.2)
  exact ⟨h1,p21 hp (d+1) h h1 (λ_=>ih.2)⟩
end Go.Proofs.YtjconanknjgpnaaGreat.vars
set_option maxRecDepth 100000
set_option linter.unusedVariables false
set_option linter.unusedSimpArgs false
namespace Go.Proofs.YtjconanknjgpnaaGreat.vars
open Go Go.Sx
def RS (l:List UInt8) (d:Nat):Nat->List AV->Prop:=λ_ ws=>∃(x:GS) (n:Nat),ws=b5_ x++[.int .i64 (n:Int)]/\WS d x/\n<=l.length
def RB (l:List UInt8) (d m:Nat):Nat->List AV->Prop:=λ_ ws=>∃(x:List GS) (n:Nat),ws=[ck_ x,.int .i64 (n:Int)]/\(x.length<=m/\∀s∈x,WS d s)/\n<=l.length
def PS (l:List UInt8) (a:AV) (d:Nat):Prop:=∀n:Nat,n<=l.length->CF Tryz.prog 112 ft112 [a,.int .i64 (n:Int),.int .i64 (d:Int)] (RS l (d+1))
def PB (l:List UInt8) (a:AV) (d:Nat):Prop:=∀(n m:Nat),n<=l.length->1<=m->m<=10->CF Tryz.prog 70 ft70 [a,.int .i64 (n:Int),.int .i64 (m:Int),.int .i64 (d:Int)] (RB l (d+1) m)
theorem AI_ (x:GS) (n:Int):B_ (b5_ x++[.int .i64 n])=true:=i_.okL_join (okS x) rfl
theorem do_ {l:List UInt8} {d n j:Nat} {x:GS} {hv:List AV} {Y:Sy} {L:List (Nat->List AV->Prop)} (h:e_ Y.v hv=b5_ x++[.int .i64 (n:Int)]) (hw:WS d x) (hn:n<=l.length):T_ Tryz.prog (QF (RS l d)) L Y (.done (.tup (.int .i64 (.ofNat j)::hv))):=
 VOK_fin (by rw [h];exact AI_ x n) ⟨x,n,h,hw,hn⟩
theorem ea_ {d:Nat} {to e:GX} (h1:WX 5 to) (h2:to.op=2\/to.op=3) (h3:WX 5 e):WS (d+1) (.mk 1 to e [] [] [] 0 0 []):=.inl ⟨rfl,h1,h2,y_ (by omega) h3,rfl,rfl⟩
theorem b1_ {d:Nat} {to e:GX} {nm:List UInt8} {kd ad:Int} {args:List GX} (h0:nm=[116,109]\/nm=[99]\/nm=[101]) (h1:args.length<=2) (h2:∀a∈args,WX 5 a):WS (d+1) (.mk 4 to e [] [] nm kd ad args):=.inr (.inr ⟨rfl,h0,h1,h2,rfl,rfl⟩)
theorem re_ {d:Nat} {op:Int} {to e:GX} {thn els:List GS} {nm:List UInt8} {kd ad:Int} {args:List GX} (h1:op=2\/op=3) (h:WX 5 e) (h2:thn.length<=5) (h3:els.length<=5) (h4:∀s∈thn,WS d s) (h5:∀s∈els,WS d s):WS (d+1) (.mk op to e thn els nm kd ad args):=.inr (.inl ⟨h1,h,h2,h3,h4,h5⟩)
theorem vj_ {x:GX} (h:WX 5 x):∀a∈[x],WX 5 a:=λa ha=>by cases List.mem_singleton.1 ha;exact h
theorem pu_ {x y:GX} (h:WX 5 x) (h2:WX 5 y):∀a∈[x,y],WX 5 a:=λa ha=>by rcases List.mem_cons.1 ha with rfl|ha;exact h;exact vj_ h2 a ha
theorem fZ_ {s:List UInt8} (h:(s,[])∈jW_):WX 5 (.mk 2 0 s [] 0 0 0 0 0 []):=bi_ h
def c79:VC:=⟨⟨[],[]⟩,[],[],0,true,[]⟩
def t79:VT:=
 (.done (.agg [J 2,J 0,64,.str [],J 0,J 0,J 0,J 0,.flt .f64 0,.nsl]))
def c80:VC:=⟨⟨[],[]⟩,[],[],0,true,[]⟩
def t80:VT:=
 (.done (.agg [J 1,J 0,.str [],.str [],J 0,J 0,64,65,66,.nsl]))
theorem p79 (s:List UInt8):V_ Tryz.prog 79 [.str s] (.agg (aH_ (.mk 2 0 s [] 0 0 0 0 0 []))):=by
 refine D_ (sh:=[none]) (ls:=[.str s]) (c:=c79) (n:=300) (t:=t79) mo ov rfl rfl rfl (λY _=>l_ _) rfl (by kernel_rfl) λY hf hg=>?_
 unfold t79
 exact d_ rfl
theorem p80:V_ Tryz.prog 80 [.agg [.int .i64 3,.int .i64 1,.flt .f64 0]] (.agg (aH_ (.mk 1 0 [] [] 0 0 3 1 0 []))):=by
 refine D_ (sh:=[some 3]) (ls:=[.int .i64 3,.int .i64 1,.flt .f64 0]) (c:=c80) (n:=300) (t:=t80) mo ov rfl rfl rfl (λY _=>l_ _) rfl (by kernel_rfl) λY hf hg=>?_
 unfold t80
 exact d_ rfl
def BS_:VC:=⟨⟨[],[]⟩,[(79,[(some 10)]),(80,[(some 10)])],[],1,true,[(39,ft39),(21,aP_),(48,lr_),(70,ft70)]⟩
def As_:VT:=
 (.callF 39 ft39 [64,65,J 12] 67
 (.cons 2
 (.lt Q0 [70,J 0] 72 none
 (.ite 72
 (.lt Qj [66,J 0] 73 none
 (.ite 73
 (.callF 21 aP_ [64,71,J 1,J 3] 74
 (.cons 11
 (.lt Qc [66,J 1] 89 none
 (.callF 70 ft70 [64,88,J 2,89] 90
 (.cons 2
 (.callF 39 ft39 [64,95,J 2] 96
 (.cons 2
 (.lt Q0 [99,J 0] 101 none
 (.ite 101
 (.lt Qc [66,J 1] 102 none
 (.callF 70 ft70 [64,100,J 2,102] 103
 (.cons 2
 (.done (.tup [J 0,J 2,J 0,J 0,.str [],.str [],J 0,J 0,J 0,J 0,.flt .f64 0,.nsl,78,79,80,81,82,83,84,85,86,87,94,107,.str [],J 0,J 0,.nsl,108]))
 .nil)))
 (.done (.tup [J 0,J 2,J 0,J 0,.str [],.str [],J 0,J 0,J 0,J 0,.flt .f64 0,.nsl,78,79,80,81,82,83,84,85,86,87,94,.nsl,.str [],J 0,J 0,.nsl,100]))))
 .nil))
 .nil)))
 .nil))
 (.lt Q0 [70,J 1] 74 none
 (.ite 74
 (.lt Qj [66,J 0] 75 none
 (.ite 75
 (.call 79 [.str [120]] 76 [(some 10)]
 (.callF 48 lr_ [64,71,J 2,J 1] 86
 (.cons 11
 (.lt Qc [66,J 1] 101 none
 (.callF 70 ft70 [64,100,J 1,101] 102
 (.cons 2
 (.call 79 [.str [120]] 108 [(some 10)]
 (.call 79 [.str [120]] 118 [(some 10)]
 (.call 80 [.agg [J 3,J 1,.flt .f64 0]] 128 [(some 10)]
 (.lt Zg [106,.agg [J 1,108,109,110,111,112,113,114,115,116,117,J 4,J 0,.str [],.str [],J 0,J 0,J 0,J 0,.flt .f64 0,.vsl 2 10 [118,119,120,121,122,123,124,125,126,127,128,129,130,131,132,133,134,135,136,137],.nsl,.nsl,.str [],J 0,J 0,.nsl]] 138 none
 (.done (.tup [J 0,J 3,J 0,J 0,.str [],.str [],J 0,J 0,J 0,J 0,.flt .f64 0,.nsl,J 11,J 0,.str [],.str [],J 0,J 0,J 0,J 0,.flt .f64 0,.vsl 2 10 [76,77,78,79,80,81,82,83,84,85,90,91,92,93,94,95,96,97,98,99],138,.nsl,.str [],J 0,J 0,.nsl,107]))))))
 .nil)))
 .nil)))
 (.lt Q0 [70,J 2] 76 none
 (.ite 76
 (.callF 21 aP_ [64,71,J 1,J 2] 77
 (.cons 11
 (.callF 21 aP_ [64,91,J 4,J 2] 92
 (.cons 11
 (.done (.tup [J 0,J 4,J 0,J 0,.str [],.str [],J 0,J 0,J 0,J 0,.flt .f64 0,.nsl,J 0,J 0,.str [],.str [],J 0,J 0,J 0,J 0,.flt .f64 0,.nsl,.nsl,.nsl,.str [116,109],J 0,J 0,.vsl 2 10 [81,82,83,84,85,86,87,88,89,90,96,97,98,99,100,101,102,103,104,105],106]))
 .nil))
 .nil))
 (.lt Q0 [70,J 3] 77 none
 (.ite 77
 (.callF 21 aP_ [64,71,J 1,J 2] 78
 (.cons 11
 (.callF 48 lr_ [64,92,J 2,J 1] 93
 (.cons 11
 (.done (.tup [J 0,J 4,J 0,J 0,.str [],.str [],J 0,J 0,J 0,J 0,.flt .f64 0,.nsl,J 0,J 0,.str [],.str [],J 0,J 0,J 0,J 0,.flt .f64 0,.nsl,.nsl,.nsl,.str [99],J 0,J 0,.vsl 2 10 [82,83,84,85,86,87,88,89,90,91,97,98,99,100,101,102,103,104,105,106],107]))
 .nil))
 .nil))
 (.lt Q0 [70,J 4] 78 none
 (.ite 78
 (.callF 21 aP_ [64,71,J 1,J 2] 79
 (.cons 11
 (.done (.tup [J 0,J 4,J 0,J 0,.str [],.str [],J 0,J 0,J 0,J 0,.flt .f64 0,.nsl,J 0,J 0,.str [],.str [],J 0,J 0,J 0,J 0,.flt .f64 0,.nsl,.nsl,.nsl,.str [101],J 0,J 0,.vsl 1 10 [83,84,85,86,87,88,89,90,91,92],93]))
 .nil))
 (.lt Q0 [70,J 5] 79 none
 (.ite 79
 (.callF 21 aP_ [64,71,J 2,J 2] 80
 (.cons 11
 (.callF 21 aP_ [64,94,J 2,J 3] 95
 (.cons 11
 (.done (.tup [J 0,J 1,J 3,J 0,.str [107],.str [],J 0,J 0,J 0,J 0,.flt .f64 0,.vsl 1 10 [84,85,86,87,88,89,90,91,92,93],99,100,101,102,103,104,105,106,107,108,.nsl,.nsl,.str [],J 0,J 0,.nsl,109]))
 .nil))
 .nil))
 (.callF 39 ft39 [64,71,J 6] 80
 (.cons 2
 (.lt Z8 [.vsl 6 1 [.str [111],.str [120],.str [113],.str [121],.str [122],.str [119]],83] 85 none
 (.lt Z9 [85] 86 none
 (.lt Zh [86] 87 none
 (.call 79 [86] 88 [(some 10)]
 (.callF 21 aP_ [64,84,87,J 4] 98
 (.cons 11
 (.done (.tup [J 0,J 1,88,89,90,91,92,93,94,95,96,97,102,103,104,105,106,107,108,109,110,111,.nsl,.nsl,.str [],J 0,J 0,.nsl,112]))
 .nil))))))
 .nil))))))))))))
 (.lt Q0 [70,J 2] 75 none
 (.ite 75
 (.callF 21 aP_ [64,71,J 1,J 2] 76
 (.cons 11
 (.callF 21 aP_ [64,90,J 4,J 2] 91
 (.cons 11
 (.done (.tup [J 0,J 4,J 0,J 0,.str [],.str [],J 0,J 0,J 0,J 0,.flt .f64 0,.nsl,J 0,J 0,.str [],.str [],J 0,J 0,J 0,J 0,.flt .f64 0,.nsl,.nsl,.nsl,.str [116,109],J 0,J 0,.vsl 2 10 [80,81,82,83,84,85,86,87,88,89,95,96,97,98,99,100,101,102,103,104],105]))
 .nil))
 .nil))
 (.lt Q0 [70,J 3] 76 none
 (.ite 76
 (.callF 21 aP_ [64,71,J 1,J 2] 77
 (.cons 11
 (.callF 48 lr_ [64,91,J 2,J 1] 92
 (.cons 11
 (.done (.tup [J 0,J 4,J 0,J 0,.str [],.str [],J 0,J 0,J 0,J 0,.flt .f64 0,.nsl,J 0,J 0,.str [],.str [],J 0,J 0,J 0,J 0,.flt .f64 0,.nsl,.nsl,.nsl,.str [99],J 0,J 0,.vsl 2 10 [81,82,83,84,85,86,87,88,89,90,96,97,98,99,100,101,102,103,104,105],106]))
 .nil))
 .nil))
 (.lt Q0 [70,J 4] 77 none
 (.ite 77
 (.callF 21 aP_ [64,71,J 1,J 2] 78
 (.cons 11
 (.done (.tup [J 0,J 4,J 0,J 0,.str [],.str [],J 0,J 0,J 0,J 0,.flt .f64 0,.nsl,J 0,J 0,.str [],.str [],J 0,J 0,J 0,J 0,.flt .f64 0,.nsl,.nsl,.nsl,.str [101],J 0,J 0,.vsl 1 10 [82,83,84,85,86,87,88,89,90,91],92]))
 .nil))
 (.lt Q0 [70,J 5] 78 none
 (.ite 78
 (.callF 21 aP_ [64,71,J 2,J 2] 79
 (.cons 11
 (.callF 21 aP_ [64,93,J 2,J 3] 94
 (.cons 11
 (.done (.tup [J 0,J 1,J 3,J 0,.str [107],.str [],J 0,J 0,J 0,J 0,.flt .f64 0,.vsl 1 10 [83,84,85,86,87,88,89,90,91,92],98,99,100,101,102,103,104,105,106,107,.nsl,.nsl,.str [],J 0,J 0,.nsl,108]))
 .nil))
 .nil))
 (.callF 39 ft39 [64,71,J 6] 79
 (.cons 2
 (.lt Z8 [.vsl 6 1 [.str [111],.str [120],.str [113],.str [121],.str [122],.str [119]],82] 84 none
 (.lt Z9 [84] 85 none
 (.lt Zh [85] 86 none
 (.call 79 [85] 87 [(some 10)]
 (.callF 21 aP_ [64,83,86,J 4] 97
 (.cons 11
 (.done (.tup [J 0,J 1,87,88,89,90,91,92,93,94,95,96,101,102,103,104,105,106,107,108,109,110,.nsl,.nsl,.str [],J 0,J 0,.nsl,111]))
 .nil))))))
 .nil))))))))))))))
 (.lt Q0 [70,J 1] 73 none
 (.ite 73
 (.lt Qj [66,J 0] 74 none
 (.ite 74
 (.call 79 [.str [120]] 75 [(some 10)]
 (.callF 48 lr_ [64,71,J 2,J 1] 85
 (.cons 11
 (.lt Qc [66,J 1] 100 none
 (.callF 70 ft70 [64,99,J 1,100] 101
 (.cons 2
 (.call 79 [.str [120]] 107 [(some 10)]
 (.call 79 [.str [120]] 117 [(some 10)]
 (.call 80 [.agg [J 3,J 1,.flt .f64 0]] 127 [(some 10)]
 (.lt Zg [105,.agg [J 1,107,108,109,110,111,112,113,114,115,116,J 4,J 0,.str [],.str [],J 0,J 0,J 0,J 0,.flt .f64 0,.vsl 2 10 [117,118,119,120,121,122,123,124,125,126,127,128,129,130,131,132,133,134,135,136],.nsl,.nsl,.str [],J 0,J 0,.nsl]] 137 none
 (.done (.tup [J 0,J 3,J 0,J 0,.str [],.str [],J 0,J 0,J 0,J 0,.flt .f64 0,.nsl,J 11,J 0,.str [],.str [],J 0,J 0,J 0,J 0,.flt .f64 0,.vsl 2 10 [75,76,77,78,79,80,81,82,83,84,89,90,91,92,93,94,95,96,97,98],137,.nsl,.str [],J 0,J 0,.nsl,106]))))))
 .nil)))
 .nil)))
 (.lt Q0 [70,J 2] 75 none
 (.ite 75
 (.callF 21 aP_ [64,71,J 1,J 2] 76
 (.cons 11
 (.callF 21 aP_ [64,90,J 4,J 2] 91
 (.cons 11
 (.done (.tup [J 0,J 4,J 0,J 0,.str [],.str [],J 0,J 0,J 0,J 0,.flt .f64 0,.nsl,J 0,J 0,.str [],.str [],J 0,J 0,J 0,J 0,.flt .f64 0,.nsl,.nsl,.nsl,.str [116,109],J 0,J 0,.vsl 2 10 [80,81,82,83,84,85,86,87,88,89,95,96,97,98,99,100,101,102,103,104],105]))
 .nil))
 .nil))
 (.lt Q0 [70,J 3] 76 none
 (.ite 76
 (.callF 21 aP_ [64,71,J 1,J 2] 77
 (.cons 11
 (.callF 48 lr_ [64,91,J 2,J 1] 92
 (.cons 11
 (.done (.tup [J 0,J 4,J 0,J 0,.str [],.str [],J 0,J 0,J 0,J 0,.flt .f64 0,.nsl,J 0,J 0,.str [],.str [],J 0,J 0,J 0,J 0,.flt .f64 0,.nsl,.nsl,.nsl,.str [99],J 0,J 0,.vsl 2 10 [81,82,83,84,85,86,87,88,89,90,96,97,98,99,100,101,102,103,104,105],106]))
 .nil))
 .nil))
 (.lt Q0 [70,J 4] 77 none
 (.ite 77
 (.callF 21 aP_ [64,71,J 1,J 2] 78
 (.cons 11
 (.done (.tup [J 0,J 4,J 0,J 0,.str [],.str [],J 0,J 0,J 0,J 0,.flt .f64 0,.nsl,J 0,J 0,.str [],.str [],J 0,J 0,J 0,J 0,.flt .f64 0,.nsl,.nsl,.nsl,.str [101],J 0,J 0,.vsl 1 10 [82,83,84,85,86,87,88,89,90,91],92]))
 .nil))
 (.lt Q0 [70,J 5] 78 none
 (.ite 78
 (.callF 21 aP_ [64,71,J 2,J 2] 79
 (.cons 11
 (.callF 21 aP_ [64,93,J 2,J 3] 94
 (.cons 11
 (.done (.tup [J 0,J 1,J 3,J 0,.str [107],.str [],J 0,J 0,J 0,J 0,.flt .f64 0,.vsl 1 10 [83,84,85,86,87,88,89,90,91,92],98,99,100,101,102,103,104,105,106,107,.nsl,.nsl,.str [],J 0,J 0,.nsl,108]))
 .nil))
 .nil))
 (.callF 39 ft39 [64,71,J 6] 79
 (.cons 2
 (.lt Z8 [.vsl 6 1 [.str [111],.str [120],.str [113],.str [121],.str [122],.str [119]],82] 84 none
 (.lt Z9 [84] 85 none
 (.lt Zh [85] 86 none
 (.call 79 [85] 87 [(some 10)]
 (.callF 21 aP_ [64,83,86,J 4] 97
 (.cons 11
 (.done (.tup [J 0,J 1,87,88,89,90,91,92,93,94,95,96,101,102,103,104,105,106,107,108,109,110,.nsl,.nsl,.str [],J 0,J 0,.nsl,111]))
 .nil))))))
 .nil))))))))))))
 (.lt Q0 [70,J 2] 74 none
 (.ite 74
 (.callF 21 aP_ [64,71,J 1,J 2] 75
 (.cons 11
 (.callF 21 aP_ [64,89,J 4,J 2] 90
 (.cons 11
 (.done (.tup [J 0,J 4,J 0,J 0,.str [],.str [],J 0,J 0,J 0,J 0,.flt .f64 0,.nsl,J 0,J 0,.str [],.str [],J 0,J 0,J 0,J 0,.flt .f64 0,.nsl,.nsl,.nsl,.str [116,109],J 0,J 0,.vsl 2 10 [79,80,81,82,83,84,85,86,87,88,94,95,96,97,98,99,100,101,102,103],104]))
 .nil))
 .nil))
 (.lt Q0 [70,J 3] 75 none
 (.ite 75
 (.callF 21 aP_ [64,71,J 1,J 2] 76
 (.cons 11
 (.callF 48 lr_ [64,90,J 2,J 1] 91
 (.cons 11
 (.done (.tup [J 0,J 4,J 0,J 0,.str [],.str [],J 0,J 0,J 0,J 0,.flt .f64 0,.nsl,J 0,J 0,.str [],.str [],J 0,J 0,J 0,J 0,.flt .f64 0,.nsl,.nsl,.nsl,.str [99],J 0,J 0,.vsl 2 10 [80,81,82,83,84,85,86,87,88,89,95,96,97,98,99,100,101,102,103,104],105]))
 .nil))
 .nil))
 (.lt Q0 [70,J 4] 76 none
 (.ite 76
 (.callF 21 aP_ [64,71,J 1,J 2] 77
 (.cons 11
 (.done (.tup [J 0,J 4,J 0,J 0,.str [],.str [],J 0,J 0,J 0,J 0,.flt .f64 0,.nsl,J 0,J 0,.str [],.str [],J 0,J 0,J 0,J 0,.flt .f64 0,.nsl,.nsl,.nsl,.str [101],J 0,J 0,.vsl 1 10 [81,82,83,84,85,86,87,88,89,90],91]))
 .nil))
 (.lt Q0 [70,J 5] 77 none
 (.ite 77
 (.callF 21 aP_ [64,71,J 2,J 2] 78
 (.cons 11
 (.callF 21 aP_ [64,92,J 2,J 3] 93
 (.cons 11
 (.done (.tup [J 0,J 1,J 3,J 0,.str [107],.str [],J 0,J 0,J 0,J 0,.flt .f64 0,.vsl 1 10 [82,83,84,85,86,87,88,89,90,91],97,98,99,100,101,102,103,104,105,106,.nsl,.nsl,.str [],J 0,J 0,.nsl,107]))
 .nil))
 .nil))
 (.callF 39 ft39 [64,71,J 6] 78
 (.cons 2
 (.lt Z8 [.vsl 6 1 [.str [111],.str [120],.str [113],.str [121],.str [122],.str [119]],81] 83 none
 (.lt Z9 [83] 84 none
 (.lt Zh [84] 85 none
 (.call 79 [84] 86 [(some 10)]
 (.callF 21 aP_ [64,82,85,J 4] 96
 (.cons 11
 (.done (.tup [J 0,J 1,86,87,88,89,90,91,92,93,94,95,100,101,102,103,104,105,106,107,108,109,.nsl,.nsl,.str [],J 0,J 0,.nsl,110]))
 .nil))))))
 .nil))))))))))))))
 .nil))
def c70:VC:=⟨⟨[],[]⟩,[],[(0,[⟨[(8,.slx 0 0 0),(2,67),(0,.ptr 0 0),(7,.slx 1 27 1)],[(0,[64,.slx 2 0 0])],2,3,[⟨1,27,1,7,none⟩],[],[]⟩])],1,true,[(39,ft39),(112,ft112)]⟩
def t70:VT:=
 (.callF 39 ft39 [64,65,66] 68
 (.cons 2
 (.lt Q2 [71,J 1] 73 none
 (.loop 74 0 [73,.nsl,72]
 (.cons 3
 (.lt Qj [74,J 0] 77 none
 (.ite 77
 (.callF 112 ft112 [64,76,67] 78
 (.cons 28
 (.lt Zg [75,.agg [81,82,83,84,85,86,87,88,89,90,91,92,93,94,95,96,97,98,99,100,101,102,103,104,105,106,107]] 109 none
 (.lt Qc [74,J 1] 110 none
 (.again 0 0 [110,109,108])))
 .nil))
 (.done (.tup [J 0,75,76]))))
 .nil)))
 .nil))
theorem fW_ (l:List GS) (s:GS) (hl:l.length<=1000):(XOp.app 27 336).run Tryz.prog [ck_ l,.agg (b5_ s)]=some (ck_ (l++[s])):=by
 rw [fY_,fY_]
 exact gH_ wE_ (by decide) (by decide) l s (by omega)
theorem okR {a:AV} (h:I_ a=true) {n m k:Int}:B_ [a,.int .i64 n,.int .i64 m,.int .i64 k]=true:=by simp only [B_,I_,h]
theorem AW_ {l:List UInt8} {a:AV} (hp:Pk l a) (d:Nat) (hd2:d<=100) (hB:∀e,d=e+1->PB l a e):PS l a d:=by
 intro n hn
 have hA:=hp.1.ok iz_
 have h2:∀(n:Nat) (k:Int),n<=l.length->1<=k/\k<=5->CF Tryz.prog 21 ftX [a,.int .i64 (n:Int),.int .i64 k,.int .i64 2] (RX l 2):=(pX hp 1 (by decide)).2
 have h3:∀(n:Nat) (k:Int),n<=l.length->1<=k/\k<=5->CF Tryz.prog 21 ftX [a,.int .i64 (n:Int),.int .i64 k,.int .i64 3] (RX l 3):=(pX hp 2 (by decide)).2
 have h4:∀(n:Nat) (k:Int),n<=l.length->1<=k/\k<=5->CF Tryz.prog 21 ftX [a,.int .i64 (n:Int),.int .i64 k,.int .i64 4] (RX l 4):=(pX hp 3 (by decide)).2
 have h31:∀(n:Nat) (k:Int),n<=l.length->1<=k/\k<=5->CF Tryz.prog 48 ftX [a,.int .i64 (n:Int),.int .i64 k,.int .i64 1] (RX l 1):=(pX hp 0 (by decide)).1
 refine A_ (c:=BS_) (n:=300) (t:=As_) mo ov rfl (λY _=>l_ _) (by kernel_rfl) λY hf hg=>?_
 unfold As_
 (refine g_ (cY_ hp hn (by first|decide|omega) (by first|decide|omega)) rfl (okP hA) ⟨?_,trivial⟩;intro ws hw;rcases hw with ⟨v,n,rfl,hv,hn⟩)
 (refine aS_ rfl rfl (λh=>?_) (λh=>?_)<;>rw [aE_]at h)
 ·(refine aS_ rfl rfl (λh=>?_) (λh=>?_)<;>rw [aE_]at h)
  .obtain ⟨e,rfl⟩:∃e,d=e+1:=⟨d-1,by simp at h;omega⟩
   have hB:=hB e rfl
   (refine g_ (h3 _ _ hn (by decide)) rfl (okQ hA) ⟨?_,trivial⟩;intro ws hw;obtain ⟨⟨op,kd,nm,fd,ad,nn,vk,vi,vf,args⟩,n,rfl,hx,hn⟩:=hw;replace hx:=y_ (e:=5) (by decide) hx)
   refine b_ (bN_ (z:=(e:Int)) (by omega) (by omega) (by omega)) rfl ?_
   refine g_ (hB _ 2 hn (by decide) (by decide)) rfl (okR hA) ⟨?_,trivial⟩
   rintro ws ⟨thn,n,rfl,⟨ht,hts⟩,hn⟩
   (refine g_ (cY_ hp hn (by first|decide|omega) (by first|decide|omega)) rfl (okP hA) ⟨?_,trivial⟩;intro ws hw;rcases hw with ⟨v,n,rfl,hv,hn⟩)
   (refine aS_ rfl rfl (λh=>?_) (λh=>?_)<;>rw [aE_]at h)
   .refine b_ (bN_ (z:=(e:Int)) (by omega) (by omega) (by omega)) rfl ?_
    refine g_ (hB _ 2 hn (by decide) (by decide)) rfl (okR hA) ⟨?_,trivial⟩
    rintro ws ⟨els,n,rfl,⟨he,hes⟩,hn⟩
    exact do_ (x:=.mk _ (.mk _ _ _ _ _ _ _ _ _ []) (.mk _ _ _ _ _ _ _ _ _ _) thn els _ _ _ []) rfl (re_ (.inl rfl) (by assumption) (by omega) (by omega) hts hes) hn
   .exact do_ (x:=.mk _ (.mk _ _ _ _ _ _ _ _ _ []) (.mk _ _ _ _ _ _ _ _ _ _) thn [] _ _ _ []) rfl (re_ (.inl rfl) (by assumption) (by omega) (by decide) hts (λs hs=>(List.not_mem_nil hs).elim)) hn
  ·(
    (refine aS_ rfl rfl (λh=>?_) (λh=>?_)<;>rw [aE_]at h)
    ·(refine aS_ rfl rfl (λh=>?_) (λh=>?_)<;>rw [aE_]at h)
     .obtain ⟨e,rfl⟩:∃e,d=e+1:=⟨d-1,by simp at h;omega⟩
      have hB:=hB e rfl
      refine c_ (p79 _) rfl rfl ?_
      (refine g_ (h31 _ _ hn (by first|decide|(simp only [decide_eq_true_eq,decide_eq_false_iff_not]at *; omega))) rfl (okQ hA) ⟨?_,trivial⟩;intro ws hw;obtain ⟨⟨op,kd,nm,fd,ad,nn,vk,vi,vf,args⟩,n,rfl,hx,hn⟩:=hw)
      refine b_ (bN_ (z:=(e:Int)) (by omega) (by omega) (by omega)) rfl ?_
      refine g_ (hB _ 1 hn (by decide) (by decide)) rfl (okR hA) ⟨?_,trivial⟩
      rintro ws ⟨thn,n,rfl,⟨ht,hts⟩,hn⟩
      refine c_ (p79 _) rfl rfl (c_ (p79 _) rfl rfl (c_ p80 rfl rfl ?_))
      refine b_ (fW_ thn (.mk 1 (.mk _ _ _ _ _ _ _ _ _ []) (.mk _ _ _ _ _ _ _ _ _ [.mk _ _ _ _ _ _ _ _ _ [],.mk _ _ _ _ _ _ _ _ _ []]) [] [] _ _ _ []) (by omega)) (okB _) ?_
      refine do_ (x:=.mk _ (.mk _ _ _ _ _ _ _ _ _ []) (.mk _ _ _ _ _ _ _ _ _ [.mk _ _ _ _ _ _ _ _ _ [],.mk _ _ _ _ _ _ _ _ _ _]) (thn++[_]) [] _ _ _ []) rfl (re_ (.inr rfl) ?_ ?_ (by decide) ?_ (λs hs=>(List.not_mem_nil hs).elim)) hn
      .exact mO_ (by decide) (bi_ (by decide)) (y_ (e:=4) (by decide) hx)
      .rw [List.length_append];simp;omega
      .intro s hs
       rcases List.mem_append.1 hs with hs|hs
       .exact hts s hs
       .cases List.mem_singleton.1 hs
        exact ea_ (fZ_ (by decide)) (.inl rfl) (mO_ (by decide) (bi_ (by decide)) (cJ_ (by unfold dC_;omega) (.inl rfl)))
     ·(
       (refine aS_ rfl rfl (λh=>?_) (λh=>?_)<;>rw [aE_]at h)
       ·(refine g_ (h2 _ _ hn (by decide)) rfl (okQ hA) ⟨?_,trivial⟩;intro ws hw;obtain ⟨⟨op,kd,nm,fd,ad,nn,vk,vi,vf,args⟩,n,rfl,hx,hn⟩:=hw;replace hx:=y_ (e:=5) (by decide) hx);(refine g_ (h2 _ _ hn (by decide)) rfl (okQ hA) ⟨?_,trivial⟩;intro ws hw;obtain ⟨⟨op,kd,nm,fd,ad,nn,vk,vi,vf,args⟩,n,rfl,hx,hn⟩:=hw;replace hx:=y_ (e:=5) (by decide) hx);exact do_ (x:=.mk _ (.mk _ _ _ _ _ _ _ _ _ []) (.mk _ _ _ _ _ _ _ _ _ []) [] [] _ _ _ [.mk _ _ _ _ _ _ _ _ _ _,.mk _ _ _ _ _ _ _ _ _ _]) rfl (b1_ (by decide) (by simp) (pu_ (by assumption) (by assumption))) hn
       (refine aS_ rfl rfl (λh=>?_) (λh=>?_)<;>rw [aE_]at h)
       ·(refine g_ (h2 _ _ hn (by decide)) rfl (okQ hA) ⟨?_,trivial⟩;intro ws hw;obtain ⟨⟨op,kd,nm,fd,ad,nn,vk,vi,vf,args⟩,n,rfl,hx,hn⟩:=hw;replace hx:=y_ (e:=5) (by decide) hx);(refine g_ (h31 _ _ hn (by decide)) rfl (okQ hA) ⟨?_,trivial⟩;intro ws hw;obtain ⟨⟨op,kd,nm,fd,ad,nn,vk,vi,vf,args⟩,n,rfl,hx,hn⟩:=hw;replace hx:=y_ (e:=5) (by decide) hx);exact do_ (x:=.mk _ (.mk _ _ _ _ _ _ _ _ _ []) (.mk _ _ _ _ _ _ _ _ _ []) [] [] _ _ _ [.mk _ _ _ _ _ _ _ _ _ _,.mk _ _ _ _ _ _ _ _ _ _]) rfl (b1_ (by decide) (by simp) (pu_ (by assumption) (by assumption))) hn
       (refine aS_ rfl rfl (λh=>?_) (λh=>?_)<;>rw [aE_]at h)
       ·(refine g_ (h2 _ _ hn (by decide)) rfl (okQ hA) ⟨?_,trivial⟩;intro ws hw;obtain ⟨⟨op,kd,nm,fd,ad,nn,vk,vi,vf,args⟩,n,rfl,hx,hn⟩:=hw;replace hx:=y_ (e:=5) (by decide) hx);exact do_ (x:=.mk _ (.mk _ _ _ _ _ _ _ _ _ []) (.mk _ _ _ _ _ _ _ _ _ []) [] [] _ _ _ [.mk _ _ _ _ _ _ _ _ _ _]) rfl (b1_ (by decide) (by simp) (vj_ (by assumption))) hn
       (refine aS_ rfl rfl (λh=>?_) (λh=>?_)<;>rw [aE_]at h)
       ·(refine g_ (h2 _ _ hn (by first|decide|(simp only [decide_eq_true_eq,decide_eq_false_iff_not]at *; omega))) rfl (okQ hA) ⟨?_,trivial⟩;intro ws hw;obtain ⟨⟨op,kd,nm,fd,ad,nn,vk,vi,vf,args⟩,n,rfl,hx,hn⟩:=hw);rename WX _ _=>hx0;(refine g_ (h3 _ _ hn (by decide)) rfl (okQ hA) ⟨?_,trivial⟩;intro ws hw;obtain ⟨⟨op,kd,nm,fd,ad,nn,vk,vi,vf,args⟩,n,rfl,hx,hn⟩:=hw;replace hx:=y_ (e:=5) (by decide) hx)
        exact do_ (x:=.mk _ (.mk _ _ _ _ _ _ _ _ _ [.mk _ _ _ _ _ _ _ _ _ _]) (.mk _ _ _ _ _ _ _ _ _ _) [] [] _ _ _ []) rfl (ea_ (y_ (d:=4) (by decide) (ne_ (by decide) hx0)) (.inr rfl) (by assumption)) hn
       ·(refine g_ (cY_ hp hn (by first|decide|omega) (by first|decide|omega)) rfl (okP hA) ⟨?_,trivial⟩;intro ws hw;rcases hw with ⟨v,n,rfl,hv,hn⟩)
        have e6:v=0\/v=1\/v=2\/v=3\/v=4\/v=5:=by omega
        rcases e6 with rfl|rfl|rfl|rfl|rfl|rfl
        all_goals
         refine b_ rfl rfl (b_ rfl rfl (b_ rfl rfl (c_ (p79 _) rfl rfl ?_)))
         (refine g_ (h4 _ _ hn (by decide)) rfl (okQ hA) ⟨?_,trivial⟩;intro ws hw;obtain ⟨⟨op,kd,nm,fd,ad,nn,vk,vi,vf,args⟩,n,rfl,hx,hn⟩:=hw;replace hx:=y_ (e:=5) (by decide) hx)
         exact do_ (x:=.mk _ (.mk _ _ _ _ _ _ _ _ _ []) (.mk _ _ _ _ _ _ _ _ _ _) [] [] _ _ _ []) rfl (ea_ (fZ_ (by decide)) (.inl rfl) (by assumption)) hn)
    ·(
              (refine aS_ rfl rfl (λh=>?_) (λh=>?_)<;>rw [aE_]at h)
              ·(refine g_ (h2 _ _ hn (by decide)) rfl (okQ hA) ⟨?_,trivial⟩;intro ws hw;obtain ⟨⟨op,kd,nm,fd,ad,nn,vk,vi,vf,args⟩,n,rfl,hx,hn⟩:=hw;replace hx:=y_ (e:=5) (by decide) hx);(refine g_ (h2 _ _ hn (by decide)) rfl (okQ hA) ⟨?_,trivial⟩;intro ws hw;obtain ⟨⟨op,kd,nm,fd,ad,nn,vk,vi,vf,args⟩,n,rfl,hx,hn⟩:=hw;replace hx:=y_ (e:=5) (by decide) hx);exact do_ (x:=.mk _ (.mk _ _ _ _ _ _ _ _ _ []) (.mk _ _ _ _ _ _ _ _ _ []) [] [] _ _ _ [.mk _ _ _ _ _ _ _ _ _ _,.mk _ _ _ _ _ _ _ _ _ _]) rfl (b1_ (by decide) (by simp) (pu_ (by assumption) (by assumption))) hn
              (refine aS_ rfl rfl (λh=>?_) (λh=>?_)<;>rw [aE_]at h)
              ·(refine g_ (h2 _ _ hn (by decide)) rfl (okQ hA) ⟨?_,trivial⟩;intro ws hw;obtain ⟨⟨op,kd,nm,fd,ad,nn,vk,vi,vf,args⟩,n,rfl,hx,hn⟩:=hw;replace hx:=y_ (e:=5) (by decide) hx);(refine g_ (h31 _ _ hn (by decide)) rfl (okQ hA) ⟨?_,trivial⟩;intro ws hw;obtain ⟨⟨op,kd,nm,fd,ad,nn,vk,vi,vf,args⟩,n,rfl,hx,hn⟩:=hw;replace hx:=y_ (e:=5) (by decide) hx);exact do_ (x:=.mk _ (.mk _ _ _ _ _ _ _ _ _ []) (.mk _ _ _ _ _ _ _ _ _ []) [] [] _ _ _ [.mk _ _ _ _ _ _ _ _ _ _,.mk _ _ _ _ _ _ _ _ _ _]) rfl (b1_ (by decide) (by simp) (pu_ (by assumption) (by assumption))) hn
              (refine aS_ rfl rfl (λh=>?_) (λh=>?_)<;>rw [aE_]at h)
              ·(refine g_ (h2 _ _ hn (by decide)) rfl (okQ hA) ⟨?_,trivial⟩;intro ws hw;obtain ⟨⟨op,kd,nm,fd,ad,nn,vk,vi,vf,args⟩,n,rfl,hx,hn⟩:=hw;replace hx:=y_ (e:=5) (by decide) hx);exact do_ (x:=.mk _ (.mk _ _ _ _ _ _ _ _ _ []) (.mk _ _ _ _ _ _ _ _ _ []) [] [] _ _ _ [.mk _ _ _ _ _ _ _ _ _ _]) rfl (b1_ (by decide) (by simp) (vj_ (by assumption))) hn
              (refine aS_ rfl rfl (λh=>?_) (λh=>?_)<;>rw [aE_]at h)
              ·(refine g_ (h2 _ _ hn (by first|decide|(simp only [decide_eq_true_eq,decide_eq_false_iff_not]at *; omega))) rfl (okQ hA) ⟨?_,trivial⟩;intro ws hw;obtain ⟨⟨op,kd,nm,fd,ad,nn,vk,vi,vf,args⟩,n,rfl,hx,hn⟩:=hw);rename WX _ _=>hx0;(refine g_ (h3 _ _ hn (by decide)) rfl (okQ hA) ⟨?_,trivial⟩;intro ws hw;obtain ⟨⟨op,kd,nm,fd,ad,nn,vk,vi,vf,args⟩,n,rfl,hx,hn⟩:=hw;replace hx:=y_ (e:=5) (by decide) hx)
               exact do_ (x:=.mk _ (.mk _ _ _ _ _ _ _ _ _ [.mk _ _ _ _ _ _ _ _ _ _]) (.mk _ _ _ _ _ _ _ _ _ _) [] [] _ _ _ []) rfl (ea_ (y_ (d:=4) (by decide) (ne_ (by decide) hx0)) (.inr rfl) (by assumption)) hn
              ·(refine g_ (cY_ hp hn (by first|decide|omega) (by first|decide|omega)) rfl (okP hA) ⟨?_,trivial⟩;intro ws hw;rcases hw with ⟨v,n,rfl,hv,hn⟩)
               have e6:v=0\/v=1\/v=2\/v=3\/v=4\/v=5:=by omega
               rcases e6 with rfl|rfl|rfl|rfl|rfl|rfl
               all_goals
                refine b_ rfl rfl (b_ rfl rfl (b_ rfl rfl (c_ (p79 _) rfl rfl ?_)))
                (refine g_ (h4 _ _ hn (by decide)) rfl (okQ hA) ⟨?_,trivial⟩;intro ws hw;obtain ⟨⟨op,kd,nm,fd,ad,nn,vk,vi,vf,args⟩,n,rfl,hx,hn⟩:=hw;replace hx:=y_ (e:=5) (by decide) hx)
                exact do_ (x:=.mk _ (.mk _ _ _ _ _ _ _ _ _ []) (.mk _ _ _ _ _ _ _ _ _ _) [] [] _ _ _ []) rfl (ea_ (fZ_ (by decide)) (.inl rfl) (by assumption)) hn))
 ·(
   (refine aS_ rfl rfl (λh=>?_) (λh=>?_)<;>rw [aE_]at h)
   ·(refine aS_ rfl rfl (λh=>?_) (λh=>?_)<;>rw [aE_]at h)
    .obtain ⟨e,rfl⟩:∃e,d=e+1:=⟨d-1,by simp at h;omega⟩
     have hB:=hB e rfl
     refine c_ (p79 _) rfl rfl ?_
     (refine g_ (h31 _ _ hn (by first|decide|(simp only [decide_eq_true_eq,decide_eq_false_iff_not]at *; omega))) rfl (okQ hA) ⟨?_,trivial⟩;intro ws hw;obtain ⟨⟨op,kd,nm,fd,ad,nn,vk,vi,vf,args⟩,n,rfl,hx,hn⟩:=hw)
     refine b_ (bN_ (z:=(e:Int)) (by omega) (by omega) (by omega)) rfl ?_
     refine g_ (hB _ 1 hn (by decide) (by decide)) rfl (okR hA) ⟨?_,trivial⟩
     rintro ws ⟨thn,n,rfl,⟨ht,hts⟩,hn⟩
     refine c_ (p79 _) rfl rfl (c_ (p79 _) rfl rfl (c_ p80 rfl rfl ?_))
     refine b_ (fW_ thn (.mk 1 (.mk _ _ _ _ _ _ _ _ _ []) (.mk _ _ _ _ _ _ _ _ _ [.mk _ _ _ _ _ _ _ _ _ [],.mk _ _ _ _ _ _ _ _ _ []]) [] [] _ _ _ []) (by omega)) (okB _) ?_
     refine do_ (x:=.mk _ (.mk _ _ _ _ _ _ _ _ _ []) (.mk _ _ _ _ _ _ _ _ _ [.mk _ _ _ _ _ _ _ _ _ [],.mk _ _ _ _ _ _ _ _ _ _]) (thn++[_]) [] _ _ _ []) rfl (re_ (.inr rfl) ?_ ?_ (by decide) ?_ (λs hs=>(List.not_mem_nil hs).elim)) hn
     .exact mO_ (by decide) (bi_ (by decide)) (y_ (e:=4) (by decide) hx)
     .rw [List.length_append];simp;omega
     .intro s hs
      rcases List.mem_append.1 hs with hs|hs
      .exact hts s hs
      .cases List.mem_singleton.1 hs
       exact ea_ (fZ_ (by decide)) (.inl rfl) (mO_ (by decide) (bi_ (by decide)) (cJ_ (by unfold dC_;omega) (.inl rfl)))
    ·(
              (refine aS_ rfl rfl (λh=>?_) (λh=>?_)<;>rw [aE_]at h)
              ·(refine g_ (h2 _ _ hn (by decide)) rfl (okQ hA) ⟨?_,trivial⟩;intro ws hw;obtain ⟨⟨op,kd,nm,fd,ad,nn,vk,vi,vf,args⟩,n,rfl,hx,hn⟩:=hw;replace hx:=y_ (e:=5) (by decide) hx);(refine g_ (h2 _ _ hn (by decide)) rfl (okQ hA) ⟨?_,trivial⟩;intro ws hw;obtain ⟨⟨op,kd,nm,fd,ad,nn,vk,vi,vf,args⟩,n,rfl,hx,hn⟩:=hw;replace hx:=y_ (e:=5) (by decide) hx);exact do_ (x:=.mk _ (.mk _ _ _ _ _ _ _ _ _ []) (.mk _ _ _ _ _ _ _ _ _ []) [] [] _ _ _ [.mk _ _ _ _ _ _ _ _ _ _,.mk _ _ _ _ _ _ _ _ _ _]) rfl (b1_ (by decide) (by simp) (pu_ (by assumption) (by assumption))) hn
              (refine aS_ rfl rfl (λh=>?_) (λh=>?_)<;>rw [aE_]at h)
              ·(refine g_ (h2 _ _ hn (by decide)) rfl (okQ hA) ⟨?_,trivial⟩;intro ws hw;obtain ⟨⟨op,kd,nm,fd,ad,nn,vk,vi,vf,args⟩,n,rfl,hx,hn⟩:=hw;replace hx:=y_ (e:=5) (by decide) hx);(refine g_ (h31 _ _ hn (by decide)) rfl (okQ hA) ⟨?_,trivial⟩;intro ws hw;obtain ⟨⟨op,kd,nm,fd,ad,nn,vk,vi,vf,args⟩,n,rfl,hx,hn⟩:=hw;replace hx:=y_ (e:=5) (by decide) hx);exact do_ (x:=.mk _ (.mk _ _ _ _ _ _ _ _ _ []) (.mk _ _ _ _ _ _ _ _ _ []) [] [] _ _ _ [.mk _ _ _ _ _ _ _ _ _ _,.mk _ _ _ _ _ _ _ _ _ _]) rfl (b1_ (by decide) (by simp) (pu_ (by assumption) (by assumption))) hn
              (refine aS_ rfl rfl (λh=>?_) (λh=>?_)<;>rw [aE_]at h)
              ·(refine g_ (h2 _ _ hn (by decide)) rfl (okQ hA) ⟨?_,trivial⟩;intro ws hw;obtain ⟨⟨op,kd,nm,fd,ad,nn,vk,vi,vf,args⟩,n,rfl,hx,hn⟩:=hw;replace hx:=y_ (e:=5) (by decide) hx);exact do_ (x:=.mk _ (.mk _ _ _ _ _ _ _ _ _ []) (.mk _ _ _ _ _ _ _ _ _ []) [] [] _ _ _ [.mk _ _ _ _ _ _ _ _ _ _]) rfl (b1_ (by decide) (by simp) (vj_ (by assumption))) hn
              (refine aS_ rfl rfl (λh=>?_) (λh=>?_)<;>rw [aE_]at h)
              ·(refine g_ (h2 _ _ hn (by first|decide|(simp only [decide_eq_true_eq,decide_eq_false_iff_not]at *; omega))) rfl (okQ hA) ⟨?_,trivial⟩;intro ws hw;obtain ⟨⟨op,kd,nm,fd,ad,nn,vk,vi,vf,args⟩,n,rfl,hx,hn⟩:=hw);rename WX _ _=>hx0;(refine g_ (h3 _ _ hn (by decide)) rfl (okQ hA) ⟨?_,trivial⟩;intro ws hw;obtain ⟨⟨op,kd,nm,fd,ad,nn,vk,vi,vf,args⟩,n,rfl,hx,hn⟩:=hw;replace hx:=y_ (e:=5) (by decide) hx)
               exact do_ (x:=.mk _ (.mk _ _ _ _ _ _ _ _ _ [.mk _ _ _ _ _ _ _ _ _ _]) (.mk _ _ _ _ _ _ _ _ _ _) [] [] _ _ _ []) rfl (ea_ (y_ (d:=4) (by decide) (ne_ (by decide) hx0)) (.inr rfl) (by assumption)) hn
              ·(refine g_ (cY_ hp hn (by first|decide|omega) (by first|decide|omega)) rfl (okP hA) ⟨?_,trivial⟩;intro ws hw;rcases hw with ⟨v,n,rfl,hv,hn⟩)
               have e6:v=0\/v=1\/v=2\/v=3\/v=4\/v=5:=by omega
               rcases e6 with rfl|rfl|rfl|rfl|rfl|rfl
               all_goals
                refine b_ rfl rfl (b_ rfl rfl (b_ rfl rfl (c_ (p79 _) rfl rfl ?_)))
                (refine g_ (h4 _ _ hn (by decide)) rfl (okQ hA) ⟨?_,trivial⟩;intro ws hw;obtain ⟨⟨op,kd,nm,fd,ad,nn,vk,vi,vf,args⟩,n,rfl,hx,hn⟩:=hw;replace hx:=y_ (e:=5) (by decide) hx)
                exact do_ (x:=.mk _ (.mk _ _ _ _ _ _ _ _ _ []) (.mk _ _ _ _ _ _ _ _ _ _) [] [] _ _ _ []) rfl (ea_ (fZ_ (by decide)) (.inl rfl) (by assumption)) hn)
   ·(
     (refine aS_ rfl rfl (λh=>?_) (λh=>?_)<;>rw [aE_]at h)
     ·(refine g_ (h2 _ _ hn (by decide)) rfl (okQ hA) ⟨?_,trivial⟩;intro ws hw;obtain ⟨⟨op,kd,nm,fd,ad,nn,vk,vi,vf,args⟩,n,rfl,hx,hn⟩:=hw;replace hx:=y_ (e:=5) (by decide) hx);(refine g_ (h2 _ _ hn (by decide)) rfl (okQ hA) ⟨?_,trivial⟩;intro ws hw;obtain ⟨⟨op,kd,nm,fd,ad,nn,vk,vi,vf,args⟩,n,rfl,hx,hn⟩:=hw;replace hx:=y_ (e:=5) (by decide) hx);exact do_ (x:=.mk _ (.mk _ _ _ _ _ _ _ _ _ []) (.mk _ _ _ _ _ _ _ _ _ []) [] [] _ _ _ [.mk _ _ _ _ _ _ _ _ _ _,.mk _ _ _ _ _ _ _ _ _ _]) rfl (b1_ (by decide) (by simp) (pu_ (by assumption) (by assumption))) hn
     (refine aS_ rfl rfl (λh=>?_) (λh=>?_)<;>rw [aE_]at h)
     ·(refine g_ (h2 _ _ hn (by decide)) rfl (okQ hA) ⟨?_,trivial⟩;intro ws hw;obtain ⟨⟨op,kd,nm,fd,ad,nn,vk,vi,vf,args⟩,n,rfl,hx,hn⟩:=hw;replace hx:=y_ (e:=5) (by decide) hx);(refine g_ (h31 _ _ hn (by decide)) rfl (okQ hA) ⟨?_,trivial⟩;intro ws hw;obtain ⟨⟨op,kd,nm,fd,ad,nn,vk,vi,vf,args⟩,n,rfl,hx,hn⟩:=hw;replace hx:=y_ (e:=5) (by decide) hx);exact do_ (x:=.mk _ (.mk _ _ _ _ _ _ _ _ _ []) (.mk _ _ _ _ _ _ _ _ _ []) [] [] _ _ _ [.mk _ _ _ _ _ _ _ _ _ _,.mk _ _ _ _ _ _ _ _ _ _]) rfl (b1_ (by decide) (by simp) (pu_ (by assumption) (by assumption))) hn
     (refine aS_ rfl rfl (λh=>?_) (λh=>?_)<;>rw [aE_]at h)
     ·(refine g_ (h2 _ _ hn (by decide)) rfl (okQ hA) ⟨?_,trivial⟩;intro ws hw;obtain ⟨⟨op,kd,nm,fd,ad,nn,vk,vi,vf,args⟩,n,rfl,hx,hn⟩:=hw;replace hx:=y_ (e:=5) (by decide) hx);exact do_ (x:=.mk _ (.mk _ _ _ _ _ _ _ _ _ []) (.mk _ _ _ _ _ _ _ _ _ []) [] [] _ _ _ [.mk _ _ _ _ _ _ _ _ _ _]) rfl (b1_ (by decide) (by simp) (vj_ (by assumption))) hn
     (refine aS_ rfl rfl (λh=>?_) (λh=>?_)<;>rw [aE_]at h)
     ·(refine g_ (h2 _ _ hn (by first|decide|(simp only [decide_eq_true_eq,decide_eq_false_iff_not]at *; omega))) rfl (okQ hA) ⟨?_,trivial⟩;intro ws hw;obtain ⟨⟨op,kd,nm,fd,ad,nn,vk,vi,vf,args⟩,n,rfl,hx,hn⟩:=hw);rename WX _ _=>hx0;(refine g_ (h3 _ _ hn (by decide)) rfl (okQ hA) ⟨?_,trivial⟩;intro ws hw;obtain ⟨⟨op,kd,nm,fd,ad,nn,vk,vi,vf,args⟩,n,rfl,hx,hn⟩:=hw;replace hx:=y_ (e:=5) (by decide) hx)
      exact do_ (x:=.mk _ (.mk _ _ _ _ _ _ _ _ _ [.mk _ _ _ _ _ _ _ _ _ _]) (.mk _ _ _ _ _ _ _ _ _ _) [] [] _ _ _ []) rfl (ea_ (y_ (d:=4) (by decide) (ne_ (by decide) hx0)) (.inr rfl) (by assumption)) hn
     ·(refine g_ (cY_ hp hn (by first|decide|omega) (by first|decide|omega)) rfl (okP hA) ⟨?_,trivial⟩;intro ws hw;rcases hw with ⟨v,n,rfl,hv,hn⟩)
      have e6:v=0\/v=1\/v=2\/v=3\/v=4\/v=5:=by omega
      rcases e6 with rfl|rfl|rfl|rfl|rfl|rfl
      all_goals
       refine b_ rfl rfl (b_ rfl rfl (b_ rfl rfl (c_ (p79 _) rfl rfl ?_)))
       (refine g_ (h4 _ _ hn (by decide)) rfl (okQ hA) ⟨?_,trivial⟩;intro ws hw;obtain ⟨⟨op,kd,nm,fd,ad,nn,vk,vi,vf,args⟩,n,rfl,hx,hn⟩:=hw;replace hx:=y_ (e:=5) (by decide) hx)
       exact do_ (x:=.mk _ (.mk _ _ _ _ _ _ _ _ _ []) (.mk _ _ _ _ _ _ _ _ _ _) [] [] _ _ _ []) rfl (ea_ (fZ_ (by decide)) (.inl rfl) (by assumption)) hn))
theorem p70 {l:List UInt8} {a:AV} (hp:Pk l a) (d:Nat) (hd2:d<=100) (hS:PS l a d):PB l a d:=by
 intro n m hn hm1 hm2
 have hA:=hp.1.ok iz_
 refine A_ (c:=c70) (n:=300) (t:=t70) mo ov rfl (λY _=>l_ _) (by kernel_rfl) λY hf hg=>?_
 unfold t70
 (refine g_ (cY_ hp hn (by first|decide|omega) (by first|decide|omega)) rfl (okP hA) ⟨?_,trivial⟩;intro ws hw;rcases hw with ⟨v,n,rfl,hv,hn⟩)
 refine b_ (ax_ (by omega) (by omega)) rfl ?_
 refine Y_ (ι:=Nat×List GS×Nat) (λx=>[.int .i64 (x.1:Int),ck_ x.2.1,.int .i64 (x.2.2:Int)]) (λx=>x.1+x.2.1.length<=m/\(∀s∈x.2.1,WS (d+1) s)/\x.2.2<=l.length) (λx=>x.1) (v+1,[],n)
  ⟨by simp;omega,λs hs=>(List.not_mem_nil hs).elim,hn⟩ rfl (λx _=>by simp only [B_,I_,okB]) (λx y _ _ h=>by simp at h;omega) (λx hx=>?_)
 obtain ⟨i,ss,n⟩:=x
 obtain ⟨h1,h2,hn⟩:=hx
 simp only at h1 hn h2⊢
 (refine aS_ rfl rfl (λh=>?_) (λh=>?_)<;>rw [aE_]at h)
 .refine g_ (hS _ hn) rfl (okP hA) ⟨?_,trivial⟩
  rintro ws ⟨⟨op,⟨op1,kd1,nm1,fd1,ad1,nn1,vk1,vi1,vf1,args1⟩,⟨op2,kd2,nm2,fd2,ad2,nn2,vk2,vi2,vf2,args2⟩,thn,els,nm,kd,ad,args⟩,n,rfl,hx,hn⟩
  refine b_ (fW_ ss (.mk op (.mk op1 kd1 nm1 fd1 ad1 nn1 vk1 vi1 vf1 args1) (.mk op2 kd2 nm2 fd2 ad2 nn2 vk2 vi2 vf2 args2) thn els nm kd ad args) (by omega)) (okB _) ?_
  obtain ⟨i,rfl⟩:∃e,i=e+1:=⟨i-1,by simp at h;omega⟩
  refine b_ (bN_ (z:=(i:Int)) (by omega) (by omega) (by omega)) rfl ?_
  refine s_ rfl ⟨(i,ss++[_],n),⟨?_,?_,hn⟩,rfl,by simp⟩
  .simp;omega
  .intro s hs
   rcases List.mem_append.1 hs with hs|hs
   .exact h2 s hs
   .cases List.mem_singleton.1 hs;exact hx
 .exact VOK_fin (by show B_ [ck_ ss,.int .i64 (n:Int)]=true;simp only [B_,I_,okB]) ⟨ss,n,rfl,⟨by omega,h2⟩,hn⟩
theorem pS {l:List UInt8} {a:AV} (hp:Pk l a):∀d:Nat,d<=100->PS l a d/\PB l a d
 |0,h=>by
  have h1:=AW_ hp 0 h (λe h=>by omega)
  exact ⟨h1,p70 hp 0 h h1⟩
 |d+1,h=>by
  have ih:=pS hp d (by omega)
  have h1:=AW_ hp (d+1) h (λe h=>by cases h;exact ih.2)
  exact ⟨h1,p70 hp (d+1) h h1⟩
end Go.Proofs.YtjconanknjgpnaaGreat.vars
set_option maxRecDepth 100000
set_option linter.unusedVariables false
set_option linter.unusedSimpArgs false
namespace Go.Proofs.YtjconanknjgpnaaGreat.vars
open Go Go.Sx
def VARS:AV:=.vsl 12 10 [.str [97],.int .i64 1,.int .i64 2,.int .i64 0,.int .i64 2,.int .i64 0,.flt .f64 0,.int .i64 0,.int .i64 0,.flt .f64 0,.str [98],.int .i64 1,.int .i64 1,.int .i64 0,.int .i64 1,.int .i64 0,.flt .f64 0,.int .i64 0,.int .i64 0,.flt .f64 0,.str [111],.int .i64 2,.int .i64 2,.int .i64 0,.int .i64 2,.int .i64 0,.flt .f64 0,.int .i64 2,.int .i64 7,.flt .f64 0,.str [113],.int .i64 2,.int .i64 1,.int .i64 0,.int .i64 1,.int .i64 0,.flt .f64 0,.int .i64 1,.int .i64 1,.flt .f64 0,.str [120],.int .i64 3,.int .i64 2,.int .i64 0,.int .i64 2,.int .i64 5,.flt .f64 0,.int .i64 0,.int .i64 0,.flt .f64 0,.str [121],.int .i64 3,.int .i64 3,.int .i64 0,.int .i64 3,.int .i64 0,.flt .f64 0,.int .i64 0,.int .i64 0,.flt .f64 0,.str [122],.int .i64 3,.int .i64 5,.int .i64 0,.int .i64 5,.int .i64 0,.flt .f64 0,.int .i64 0,.int .i64 0,.flt .f64 0,.str [119],.int .i64 3,.int .i64 4,.int .i64 0,.int .i64 4,.int .i64 0,.flt .f64 0,.int .i64 0,.int .i64 0,.flt .f64 0,.str [107],.int .i64 3,.int .i64 2,.int .i64 4,.int .i64 2,.int .i64 0,.flt .f64 0,.int .i64 0,.int .i64 0,.flt .f64 0,.str [116,109],.int .i64 3,.int .i64 6,.int .i64 0,.int .i64 0,.int .i64 0,.flt .f64 0,.int .i64 0,.int .i64 0,.flt .f64 0,.str [99],.int .i64 3,.int .i64 9,.int .i64 0,.int .i64 0,.int .i64 0,.flt .f64 0,.int .i64 0,.int .i64 0,.flt .f64 0,.str [101],.int .i64 3,.int .i64 11,.int .i64 0,.int .i64 0,.int .i64 0,.flt .f64 0,.int .i64 0,.int .i64 0,.flt .f64 0]
theorem vm_:V_ Tryz.prog 153 [VARS,.str [97]] (.tup [.agg [.str [97],.int .i64 1,.int .i64 2,.int .i64 0,.int .i64 2,.int .i64 0,.flt .f64 0,.int .i64 0,.int .i64 0,.flt .f64 0],.int .i64 0,.bool true]):=p_ mo ov (n:=3000) (by kernel_rfl)
theorem uX_:V_ Tryz.prog 153 [VARS,.str [98]] (.tup [.agg [.str [98],.int .i64 1,.int .i64 1,.int .i64 0,.int .i64 1,.int .i64 0,.flt .f64 0,.int .i64 0,.int .i64 0,.flt .f64 0],.int .i64 1,.bool true]):=p_ mo ov (n:=3000) (by kernel_rfl)
theorem rt_:V_ Tryz.prog 153 [VARS,.str [111]] (.tup [.agg [.str [111],.int .i64 2,.int .i64 2,.int .i64 0,.int .i64 2,.int .i64 0,.flt .f64 0,.int .i64 2,.int .i64 7,.flt .f64 0],.int .i64 2,.bool true]):=p_ mo ov (n:=3000) (by kernel_rfl)
theorem so_:V_ Tryz.prog 153 [VARS,.str [113]] (.tup [.agg [.str [113],.int .i64 2,.int .i64 1,.int .i64 0,.int .i64 1,.int .i64 0,.flt .f64 0,.int .i64 1,.int .i64 1,.flt .f64 0],.int .i64 3,.bool true]):=p_ mo ov (n:=3000) (by kernel_rfl)
theorem sn_:V_ Tryz.prog 153 [VARS,.str [120]] (.tup [.agg [.str [120],.int .i64 3,.int .i64 2,.int .i64 0,.int .i64 2,.int .i64 5,.flt .f64 0,.int .i64 0,.int .i64 0,.flt .f64 0],.int .i64 4,.bool true]):=p_ mo ov (n:=3000) (by kernel_rfl)
theorem se_:V_ Tryz.prog 153 [VARS,.str [121]] (.tup [.agg [.str [121],.int .i64 3,.int .i64 3,.int .i64 0,.int .i64 3,.int .i64 0,.flt .f64 0,.int .i64 0,.int .i64 0,.flt .f64 0],.int .i64 5,.bool true]):=p_ mo ov (n:=3000) (by kernel_rfl)
theorem sq_:V_ Tryz.prog 153 [VARS,.str [122]] (.tup [.agg [.str [122],.int .i64 3,.int .i64 5,.int .i64 0,.int .i64 5,.int .i64 0,.flt .f64 0,.int .i64 0,.int .i64 0,.flt .f64 0],.int .i64 6,.bool true]):=p_ mo ov (n:=3000) (by kernel_rfl)
theorem rs_:V_ Tryz.prog 153 [VARS,.str [119]] (.tup [.agg [.str [119],.int .i64 3,.int .i64 4,.int .i64 0,.int .i64 4,.int .i64 0,.flt .f64 0,.int .i64 0,.int .i64 0,.flt .f64 0],.int .i64 7,.bool true]):=p_ mo ov (n:=3000) (by kernel_rfl)
theorem nK_:V_ Tryz.prog 153 [VARS,.str [107]] (.tup [.agg [.str [107],.int .i64 3,.int .i64 2,.int .i64 4,.int .i64 2,.int .i64 0,.flt .f64 0,.int .i64 0,.int .i64 0,.flt .f64 0],.int .i64 8,.bool true]):=p_ mo ov (n:=3000) (by kernel_rfl)
theorem cN_:V_ Tryz.prog 153 [VARS,.str [116,109]] (.tup [.agg [.str [116,109],.int .i64 3,.int .i64 6,.int .i64 0,.int .i64 0,.int .i64 0,.flt .f64 0,.int .i64 0,.int .i64 0,.flt .f64 0],.int .i64 12,.bool true]):=p_ mo ov (n:=3000) (by kernel_rfl)
theorem qA_:V_ Tryz.prog 153 [VARS,.str [99]] (.tup [.agg [.str [99],.int .i64 3,.int .i64 9,.int .i64 0,.int .i64 0,.int .i64 0,.flt .f64 0,.int .i64 0,.int .i64 0,.flt .f64 0],.int .i64 16,.bool true]):=p_ mo ov (n:=3000) (by kernel_rfl)
theorem wX_:V_ Tryz.prog 153 [VARS,.str [101]] (.tup [.agg [.str [101],.int .i64 3,.int .i64 11,.int .i64 0,.int .i64 0,.int .i64 0,.flt .f64 0,.int .i64 0,.int .i64 0,.flt .f64 0],.int .i64 19,.bool true]):=p_ mo ov (n:=3000) (by kernel_rfl)
theorem gI_:V_ Tryz.prog 178 [VARS,.str [116,109,46,113]] (.tup [.agg [.str [116,109,46,113],.int .i64 12,.int .i64 1,.int .i64 3],.bool true]):=p_ mo ov (n:=3000) (by kernel_rfl)
theorem hN_:V_ Tryz.prog 178 [VARS,.str [99,46,99,118]] (.tup [.agg [.str [99,46,99,118],.int .i64 17,.int .i64 2,.int .i64 3],.bool true]):=p_ mo ov (n:=3000) (by kernel_rfl)
theorem eL_:V_ Tryz.prog 178 [VARS,.str [116,109,46,101,116]] (.tup [.agg [.str [116,109,46,101,116],.int .i64 13,.int .i64 4,.int .i64 3],.bool true]):=p_ mo ov (n:=3000) (by kernel_rfl)
theorem k35:V_ Tryz.prog 45 [VARS] (.int .i64 0):=p_ mo ov (n:=3000) (by kernel_rfl)
theorem k37:V_ Tryz.prog 20 [] VARS:=p_ mo ov (n:=3000) (by kernel_rfl)
theorem k67 (v:Nat) (h:v<50):V_ Tryz.prog 55 [.int .i64 2,.int .i64 (v:Int)] (.int .i64 (v:Int)):=by
 have:∀v∈List.range 50,V_ Tryz.prog 55 [.int .i64 2,.int .i64 (v:Int)] (.int .i64 (v:Int)):=by
  simp only [List.range,List.range.loop,List.forall_mem_cons]
  repeat' apply And.intro
  all_goals first|exact (λx hx=>(List.not_mem_nil hx).elim)|exact p_ mo ov (n:=3000) (by kernel_rfl)
 exact this v (List.mem_range.2 h)
theorem v7_:V_ Tryz.prog 53 [.int .i64 1] (.int .i64 1):=p_ mo ov (n:=3000) (by kernel_rfl)
theorem rY_:V_ Tryz.prog 53 [.int .i64 2] (.int .i64 1):=p_ mo ov (n:=3000) (by kernel_rfl)
theorem xW_:V_ Tryz.prog 53 [.int .i64 3] (.int .i64 1):=p_ mo ov (n:=3000) (by kernel_rfl)
theorem xN_:V_ Tryz.prog 53 [.int .i64 4] (.int .i64 1):=p_ mo ov (n:=3000) (by kernel_rfl)
theorem yc_:V_ Tryz.prog 53 [.int .i64 5] (.int .i64 1):=p_ mo ov (n:=3000) (by kernel_rfl)
theorem vw_:V_ Tryz.prog 53 [.int .i64 6] (.int .i64 4):=p_ mo ov (n:=3000) (by kernel_rfl)
theorem yo_:V_ Tryz.prog 53 [.int .i64 9] (.int .i64 3):=p_ mo ov (n:=3000) (by kernel_rfl)
theorem yU_:V_ Tryz.prog 53 [.int .i64 11] (.int .i64 2):=p_ mo ov (n:=3000) (by kernel_rfl)
def Br_:VC:=⟨⟨[],[]⟩,[],[],0,true,[]⟩
def Aa_:VT:=
 (.ite 64
 (.done (J 0))
 (.done (J 4)))
def Cq_:VC:=⟨⟨[],[]⟩,[],[],0,true,[]⟩
def Am_:VT:=
 (.lt Q0 [64,J 2] 65 none
 (.ite 65
 (.done (.bool true))
 (.lt Q0 [64,J 3] 66 none
 (.ite 66
 (.done (.bool true))
 (.lt Q0 [64,J 4] 67 none
 (.done (67)))))))
def Ah_:VC:=⟨⟨[],[]⟩,[(55,[none])],[],0,true,[]⟩
def wz_:VT:=
 (.lt Q0 [74,J 2] 75 none
 (.ite 75
 (.lt Q0 [64,J 1] 76 none
 (.ite 76
 (.lt Q0 [65,J 3] 77 none
 (.ite 77
 (.call 55 [J 2,71] 78 [none]
 (.done (.agg [64,J 2,66,67,68,69,J 2,78,.flt .f64 0,73])))
 (.done (.agg [64,65,66,67,68,69,70,71,72,73]))))
 (.done (.agg [64,65,66,67,68,69,70,71,72,73]))))
 (.done (.agg [64,65,66,67,68,69,70,71,72,73]))))
def CA_:VC:=⟨⟨[],[]⟩,[(153,[(some 10),none,none]),(178,[(some 4),none]),(53,[none]),(157,[none])],[],0,true,[]⟩
def zG_:VT:=
 (.call 153 [64,67] 75 [(some 10),none,none]
 (.lt Q4 [86] 87 none
 (.ite 87
 (.done (.tup [J 0,65,66,67,68,69,70,71,72,73,74,J 3]))
 (.lt (.bin .eql 9 false true) [68,.str []] 88 none
 (.ite 88
 (.call 53 [77] 89 [none]
 (.lt Q0 [89,J 1] 90 none
 (.ite 90
 (.lt Q0 [78,J 0] 91 none
 (.call 157 [91] 92 [none]
 (.done (.tup [J 0,65,77,67,68,85,70,71,72,73,74,92]))))
 (.call 157 [.bool false] 91 [none]
 (.done (.tup [J 0,65,77,67,68,85,70,71,72,73,74,91]))))))
 (.call 53 [77] 89 [none]
 (.lt Qz [89,J 2] 90 none
 (.ite 90
 (.done (.tup [J 0,65,66,67,68,69,70,71,72,73,74,J 4]))
 (.lt (.bin .add 9 false true) [67,.str [46]] 91 none
 (.lt (.bin .add 9 false false) [91,68] 92 none
 (.call 178 [64,92] 93 [(some 4),none]
 (.lt Q4 [97] 98 none
 (.ite 98
 (.done (.tup [J 0,65,66,67,68,69,70,71,72,73,74,J 3]))
 (.done (.tup [J 0,65,95,67,68,94,70,71,72,73,74,J 0])))))))))))))))
def BL_:VC:=⟨⟨[],[]⟩,[(153,[(some 10),none,none]),(157,[none])],[],0,true,[]⟩
def Ab_:VT:=
 (.call 153 [64,67] 76 [(some 10),none,none]
 (.lt Q4 [87] 88 none
 (.ite 88
 (.done (.tup [J 0,65,66,67,68,69,70,71,72,73,74,J 3]))
 (.lt Qj [79,J 0] 89 none
 (.ite 89
 (.lt Qa [75,J 0] 90 none
 (.lt Zi [90] 91 none
 (.lt Qv [91] 92 none
 (.lt Q0 [92,J 2] 93 none
 (.ite 93
 (.call 157 [.bool true] 94 [none]
 (.done (.tup [J 0,65,78,67,68,86,79,71,72,73,75,94])))
 (.lt Qa [75,J 0] 94 none
 (.lt Zi [94] 95 none
 (.lt Qv [95] 96 none
 (.lt Q0 [96,J 3] 97 none
 (.call 157 [97] 98 [none]
 (.done (.tup [J 0,65,78,67,68,86,79,71,72,73,75,98]))))))))))))
 (.call 157 [.bool false] 90 [none]
 (.done (.tup [J 0,65,78,67,68,86,79,71,72,73,75,90]))))))))
theorem k2_ (b:Bool):V_ Tryz.prog 157 [.bool b] (.int .i64 (if b=true then 0 else 4)):=by
 refine D_ (sh:=[none]) (ls:=[.bool b]) (c:=Br_) (n:=300) (t:=Aa_) mo ov rfl rfl rfl (λY _=>l_ _) rfl (by kernel_rfl) λY hf hg=>?_
 unfold Aa_
 refine f_ rfl (λh=>d_ ?_) (λh=>d_ ?_)
 .rw [h];rfl
 .rw [h];rfl
section
variable {P:Program} {Q:AV->Prop} {L:List (Nat->List AV->Prop)} {Y:Sy} {t:TypeId} {cx cy:Bool} {args:List AV} {n:Nat} {A B:VT} {k:IntKind} {a b:Int}
def Cmp:BinOp->Int->Int->Prop
 | .eql,a,b=>a=b
 | .neq,a,b=>¬a=b
 | .lss,a,b=>a<b
 | .gtr,a,b=>b<a
 | .leq,a,b=>a<=b
 | .geq,a,b=>b<=a
 |_,_,_=>False
open Classical in
theorem h_ {op:BinOp} (h0:e_ Y.v args=[.int k a,.int k b]) (ho:(match op with| .eql=>true| .neq=>true| .lss=>true| .gtr=>true| .leq=>true| .geq=>true|_=>false)=true)
  (h1:Cmp op a b->T_ P Q L (Y.put n (.bool (decide (Cmp op a b)))) A) (h2:¬Cmp op a b->T_ P Q L (Y.put n (.bool (decide (Cmp op a b)))) B):T_ P Q L Y (.lt (.bin op t cx cy) args n none (.ite n A B)):=by
 have hr:(XOp.bin op t cx cy).run P [.int k a,.int k b]=some (.bool (decide (Cmp op a b))):=by
  cases op<;>simp only at ho<;>first|(cases ho;done)|skip
  .rw [run_eql];refine congrArg (λx=>some (AV.bool x)) ?_;by_cases h:a=b<;>simp [Cmp,h]
  .rw [run_neq];refine congrArg (λx=>some (AV.bool x)) ?_;by_cases h:a=b<;>simp [Cmp,h]
  .rw [run_lss];refine congrArg (λx=>some (AV.bool x)) ?_;by_cases h:a<b<;>simp [Cmp,h]
  .rw [run_leq];refine congrArg (λx=>some (AV.bool x)) ?_;by_cases h:a<=b<;>simp [Cmp,h]
  .rw [run_gtr];refine congrArg (λx=>some (AV.bool x)) ?_;by_cases h:b<a<;>simp [Cmp,h]
  .rw [run_geq];refine congrArg (λx=>some (AV.bool x)) ?_;by_cases h:b<=a<;>simp [Cmp,h]
 exact b_ (by rw [h0];exact hr) rfl (f_ (t:=decide (Cmp op a b)) (by rw [x6_,if_pos rfl]) (λh=>h1 (of_decide_eq_true h)) (λh=>h2 (of_decide_eq_false h)))
end
theorem nc:(∀a b,Cmp .eql a b=(a=b))/\(∀a b,Cmp .neq a b=¬a=b)/\(∀a b,Cmp .lss a b=(a<b))/\(∀a b,Cmp .gtr a b=(b<a))/\(∀a b,Cmp .leq a b=(a<=b))/\(∀a b,Cmp .geq a b=(b<=a))/\(∀p:Prop,(¬¬p)=p)/\(∀a b:Int,(¬a<b)=(b<=a))/\(∀a b:Int,(¬a<=b)=(b<a))/\(¬True)=False:=
 ⟨λ_ _=>rfl,λ_ _=>rfl,λ_ _=>rfl,λ_ _=>rfl,λ_ _=>rfl,λ_ _=>rfl,λp=>propext ⟨Classical.not_not.1,λh k=>k h⟩,λ_ _=>propext Int.not_lt,λ_ _=>propext Int.not_le,propext ⟨λh=>h trivial,False.elim⟩⟩
def h8_:List (Int×Int):=[(1,1),(3,1),(12,1),(0,2),(4,2),(2,2),(17,2),(5,3),(13,4),(7,4),(6,5)]
def wx_:List (List UInt8×List UInt8×Int×Int):=[([98],[],1,1),([113],[],3,1),([116,109],[113],12,1),([97],[],0,2),([120],[],4,2),([111],[],2,2),([99],[99,118],17,2),([121],[],5,3),([116,109],[101,116],13,4),([119],[],7,4),([122],[],6,5)]
def uJ_:List (List UInt8×Int):=[([98],1),([113],2),([116,109],3),([97],1),([120],3),([111],2),([99],3),([121],3),([119],3),([122],3),([107],3)]
def wrL:List (Int×Int):=[(3,1),(4,2),(2,2),(5,3),(7,4),(6,5)]
theorem tie_cells:∀t∈wx_,(t.2.2.1,t.2.2.2)∈h8_:=by decide
theorem tie_wr:∀t∈wx_,∀q∈uJ_,t.2.1=[]->t.1=q.1->q.2≠1->(t.2.2.1,t.2.2.2)∈wrL:=by decide
def GX.ad:GX->Int| .mk _ _ _ _ ad .. =>ad
def NT (x y:GX):Prop:=match x,y with
 | .mk op _ nm fd ..,.mk _ kd _ _ ad .. =>op=2->(nm,fd,ad,kd)∈wx_
def KX (op kd ad n vk vi:Int) (vf:Nat) (ks:List Int):Prop:=
 (op=1->kd=vk/\1<=vk/\vk<=5/\0<=vi/\vi<50/\(vk=1->vi<=1)/\(vk=5->vi=0)/\(vk≠5->vf=0))/\
 (op=2->(ad,kd)∈h8_)/\
 (op=3->ad=8/\n=4/\kd=2/\∃k,ks=[k]/\(k=2\/k=3))/\
 (4<=op/\op<=14->∃k,ks=[k,k]/\1<=k/\k<=5/\(op<=8->kd=k/\k≠1)/\(9<=op->kd=1)/\(op=8->k≠5)/\(op=11\/op=12->k≠1)/\(13<=op->k=1))/\
 (op=15->kd=1/\ks=[1])/\
 (op=16->ks=[kd]/\2<=kd/\kd<=5)/\
 (op=17->2<=kd/\kd<=5/\∃k,ks=[k]/\2<=k/\k<=5)
def TX:Nat->GX->Prop
 |0,_=>False
 |d+1,.mk op kd nm fd ad n vk vi vf args=>Ari op args.length/\v3_ vf/\1<=kd/\kd<=5/\KX op kd ad n vk vi vf (args.map GX.kd)/\∀a∈args,TX d a
theorem xV_:∀{d:Nat} {x:GX},TX d x->1<=x.kd/\x.kd<=5
 |0,_,h=>h.elim
 |d+1,.mk ..,h=>⟨h.2.2.1,h.2.2.2.1⟩
theorem gr_ {l:List AV} (h:B_ l=true):al_ (.agg l)=true:=by simp only [al_];exact bF_ h
theorem tq_ {d:Nat} (x:GX) (k:Int) (hx:TX d x):∃y,V_ Tryz.prog 154 [.agg (aH_ x),.int .i64 k] (.agg (aH_ y))/\TX d y:=by
 obtain ⟨op,kd,nm,fd,ad,n,vk,vi,vf,args⟩:=x
 obtain ⟨d,rfl⟩:∃e,d=e+1:=by cases d with|zero=>exact hx.elim|succ d=>exact ⟨d,rfl⟩
 by_cases hc:k=2/\op=1/\kd=3
 .obtain ⟨rfl,rfl,rfl⟩:=hc
  obtain ⟨h1,h2,h3,h4,h5,h6⟩:=hx
  obtain ⟨q1,q2,q3,q4,q5,q6,q7,q8⟩:=h5.1 rfl
  obtain ⟨v,rfl⟩:∃v:Nat,vi=(v:Int):=⟨vi.toNat,by omega⟩
  refine ⟨.mk 1 2 nm fd ad n 2 v 0 args,?_,h1,.inl rfl,by decide,by decide,⟨λ_=>⟨rfl,by decide,by decide,q4,q5,λh=>by omega,λh=>by omega,λ_=>rfl⟩,λh=>by omega,λh=>by omega,λh=>by omega,λh=>by omega,λh=>by omega,λh=>by omega⟩,h6⟩
  refine D_ (sh:=[some 10,none]) (ls:=aH_ (.mk 1 3 nm fd ad n vk v vf args)++[.int .i64 2]) (c:=Ah_) (n:=300) (t:=wz_) mo ov rfl (fg_ _ _) (gr_ (okX _)) (λY _=>l_ _) rfl (by kernel_rfl) λY hf hg=>?_
  unfold wz_
  (refine h_ rfl rfl ?_ ?_<;>intro h<;>simp only [nc]at h<;>try (exfalso;omega));(refine h_ rfl rfl ?_ ?_<;>intro h<;>simp only [nc]at h<;>try (exfalso;omega));(refine h_ rfl rfl ?_ ?_<;>intro h<;>simp only [nc]at h<;>try (exfalso;omega))
  refine c_ (k67 v (by omega)) rfl rfl (d_ rfl)
 .refine ⟨_,?_,hx⟩
  refine D_ (sh:=[some 10,none]) (ls:=aH_ (.mk op kd nm fd ad n vk vi vf args)++[.int .i64 k]) (c:=Ah_) (n:=300) (t:=wz_) mo ov rfl (fg_ _ _) (gr_ (okX _)) (λY _=>l_ _) rfl (by kernel_rfl) λY hf hg=>?_
  unfold wz_
  (refine h_ rfl rfl ?_ ?_<;>intro h<;>simp only [nc]at h<;>try (exfalso;omega))
  ·(refine h_ rfl rfl ?_ ?_<;>intro h<;>simp only [nc]at h<;>try (exfalso;omega))
   ·(refine h_ rfl rfl ?_ ?_<;>intro h<;>simp only [nc]at h<;>try (exfalso;omega))
    exact d_ rfl
   .exact d_ rfl
  .exact d_ rfl
def GX.nm:GX->List UInt8| .mk _ _ nm .. =>nm
def GX.fd:GX->List UInt8| .mk _ _ _ fd .. =>fd
def RL (x:GX):Nat->List AV->Prop:=λ_ ws=>∃ad kd:Int,ws=(match x with| .mk op _ nm fd _ n vk vi vf args=>aH_ (.mk op kd nm fd ad n vk vi vf args))++[.int .i64 0]/\(x.nm,x.fd,ad,kd)∈wx_
theorem B2_ (op kd:Int) (nm fd:List UInt8) (ad n vk vi:Int) (vf:Nat) (args:List GX) (h:(nm,fd)∈jW_):CF Tryz.prog 155 uE_ (VARS::aH_ (.mk op kd nm fd ad n vk vi vf args)) (RL (.mk op kd nm fd ad n vk vi vf args)):=by
 refine A_ (c:=CA_) (n:=300) (t:=zG_) mo ov rfl (λY _=>l_ _) (by kernel_rfl) λY hf hg=>?_
 unfold zG_
 simp only [jW_,List.mem_cons,Prod.mk.injEq,List.not_mem_nil,or_false]at h
 rcases h with ⟨rfl,rfl⟩|⟨rfl,rfl⟩|⟨rfl,rfl⟩|⟨rfl,rfl⟩|⟨rfl,rfl⟩|⟨rfl,rfl⟩|⟨rfl,rfl⟩|⟨rfl,rfl⟩|⟨rfl,rfl⟩|⟨rfl,rfl⟩|⟨rfl,rfl⟩
 ·(
   refine c_ uX_ rfl rfl (b_ rfl rfl (f_ rfl (λh=>by cases h) (λ_=>b_ rfl rfl (f_ rfl (λ_=>?_) (λh=>by cases h)))))
   refine c_ v7_ rfl rfl (b_ rfl rfl (f_ rfl (λ_=>b_ rfl rfl (c_ (k2_ true) rfl rfl (VOK_fin ?_ ⟨1,1,rfl,by simp only [GX.nm,GX.fd];decide⟩))) (λh=>by cases h)))
   exact fg_ (.mk _ _ _ _ _ _ _ _ _ args) _)
 ·(
   refine c_ so_ rfl rfl (b_ rfl rfl (f_ rfl (λh=>by cases h) (λ_=>b_ rfl rfl (f_ rfl (λ_=>?_) (λh=>by cases h)))))
   refine c_ v7_ rfl rfl (b_ rfl rfl (f_ rfl (λ_=>b_ rfl rfl (c_ (k2_ true) rfl rfl (VOK_fin ?_ ⟨3,1,rfl,by simp only [GX.nm,GX.fd];decide⟩))) (λh=>by cases h)))
   exact fg_ (.mk _ _ _ _ _ _ _ _ _ args) _)
 ·(
   refine c_ cN_ rfl rfl (b_ rfl rfl (f_ rfl (λh=>by cases h) (λ_=>b_ rfl rfl (f_ rfl (λh=>by cases h) (λ_=>?_)))))
   refine c_ vw_ rfl rfl (b_ rfl rfl (f_ rfl (λh=>by cases h) (λ_=>b_ rfl rfl (b_ rfl rfl (c_ gI_ rfl rfl (b_ rfl rfl (f_ rfl (λh=>by cases h) (λ_=>VOK_fin ?_ ⟨12,1,rfl,by simp only [GX.nm,GX.fd];decide⟩))))))))
   exact fg_ (.mk _ _ _ _ _ _ _ _ _ args) _)
 ·(
   refine c_ vm_ rfl rfl (b_ rfl rfl (f_ rfl (λh=>by cases h) (λ_=>b_ rfl rfl (f_ rfl (λ_=>?_) (λh=>by cases h)))))
   refine c_ rY_ rfl rfl (b_ rfl rfl (f_ rfl (λ_=>b_ rfl rfl (c_ (k2_ true) rfl rfl (VOK_fin ?_ ⟨0,2,rfl,by simp only [GX.nm,GX.fd];decide⟩))) (λh=>by cases h)))
   exact fg_ (.mk _ _ _ _ _ _ _ _ _ args) _)
 ·(
   refine c_ sn_ rfl rfl (b_ rfl rfl (f_ rfl (λh=>by cases h) (λ_=>b_ rfl rfl (f_ rfl (λ_=>?_) (λh=>by cases h)))))
   refine c_ rY_ rfl rfl (b_ rfl rfl (f_ rfl (λ_=>b_ rfl rfl (c_ (k2_ true) rfl rfl (VOK_fin ?_ ⟨4,2,rfl,by simp only [GX.nm,GX.fd];decide⟩))) (λh=>by cases h)))
   exact fg_ (.mk _ _ _ _ _ _ _ _ _ args) _)
 ·(
   refine c_ rt_ rfl rfl (b_ rfl rfl (f_ rfl (λh=>by cases h) (λ_=>b_ rfl rfl (f_ rfl (λ_=>?_) (λh=>by cases h)))))
   refine c_ rY_ rfl rfl (b_ rfl rfl (f_ rfl (λ_=>b_ rfl rfl (c_ (k2_ true) rfl rfl (VOK_fin ?_ ⟨2,2,rfl,by simp only [GX.nm,GX.fd];decide⟩))) (λh=>by cases h)))
   exact fg_ (.mk _ _ _ _ _ _ _ _ _ args) _)
 ·(
   refine c_ qA_ rfl rfl (b_ rfl rfl (f_ rfl (λh=>by cases h) (λ_=>b_ rfl rfl (f_ rfl (λh=>by cases h) (λ_=>?_)))))
   refine c_ yo_ rfl rfl (b_ rfl rfl (f_ rfl (λh=>by cases h) (λ_=>b_ rfl rfl (b_ rfl rfl (c_ hN_ rfl rfl (b_ rfl rfl (f_ rfl (λh=>by cases h) (λ_=>VOK_fin ?_ ⟨17,2,rfl,by simp only [GX.nm,GX.fd];decide⟩))))))))
   exact fg_ (.mk _ _ _ _ _ _ _ _ _ args) _)
 ·(
   refine c_ se_ rfl rfl (b_ rfl rfl (f_ rfl (λh=>by cases h) (λ_=>b_ rfl rfl (f_ rfl (λ_=>?_) (λh=>by cases h)))))
   refine c_ xW_ rfl rfl (b_ rfl rfl (f_ rfl (λ_=>b_ rfl rfl (c_ (k2_ true) rfl rfl (VOK_fin ?_ ⟨5,3,rfl,by simp only [GX.nm,GX.fd];decide⟩))) (λh=>by cases h)))
   exact fg_ (.mk _ _ _ _ _ _ _ _ _ args) _)
 ·(
   refine c_ cN_ rfl rfl (b_ rfl rfl (f_ rfl (λh=>by cases h) (λ_=>b_ rfl rfl (f_ rfl (λh=>by cases h) (λ_=>?_)))))
   refine c_ vw_ rfl rfl (b_ rfl rfl (f_ rfl (λh=>by cases h) (λ_=>b_ rfl rfl (b_ rfl rfl (c_ eL_ rfl rfl (b_ rfl rfl (f_ rfl (λh=>by cases h) (λ_=>VOK_fin ?_ ⟨13,4,rfl,by simp only [GX.nm,GX.fd];decide⟩))))))))
   exact fg_ (.mk _ _ _ _ _ _ _ _ _ args) _)
 ·(
   refine c_ rs_ rfl rfl (b_ rfl rfl (f_ rfl (λh=>by cases h) (λ_=>b_ rfl rfl (f_ rfl (λ_=>?_) (λh=>by cases h)))))
   refine c_ xN_ rfl rfl (b_ rfl rfl (f_ rfl (λ_=>b_ rfl rfl (c_ (k2_ true) rfl rfl (VOK_fin ?_ ⟨7,4,rfl,by simp only [GX.nm,GX.fd];decide⟩))) (λh=>by cases h)))
   exact fg_ (.mk _ _ _ _ _ _ _ _ _ args) _)
 ·(
   refine c_ sq_ rfl rfl (b_ rfl rfl (f_ rfl (λh=>by cases h) (λ_=>b_ rfl rfl (f_ rfl (λ_=>?_) (λh=>by cases h)))))
   refine c_ yc_ rfl rfl (b_ rfl rfl (f_ rfl (λ_=>b_ rfl rfl (c_ (k2_ true) rfl rfl (VOK_fin ?_ ⟨6,5,rfl,by simp only [GX.nm,GX.fd];decide⟩))) (λh=>by cases h)))
   exact fg_ (.mk _ _ _ _ _ _ _ _ _ args) _)
end Go.Proofs.YtjconanknjgpnaaGreat.vars
set_option linter.unusedVariables false
set_option linter.unusedSimpArgs false
namespace Go.Sx
section
variable {P:Program} {t:TypeId} {ti:TypeInfo} {α:Type} {enc:α->List AV} {w:Nat}
theorem hI_:∀(a xs b c:List AV),b.length=xs.length->cd_ a.length xs (a++(b++c))=some (a++(xs++c))
 |[],[],[],c,_=>by cases c<;>rfl
 |[],x::xs,y::b,c,h=>by
  have ih:=hI_ [] xs b c (by simpa using h)
  simp only [List.nil_append,List.length_nil,List.cons_append]at ih⊢
  simp only [cd_,ih]
 |[],x::xs,[],c,h=>by simp at h
 |[],[],y::b,c,h=>by simp at h
 |x::a,xs,b,c,h=>by
  simp only [List.cons_append,List.length_cons,cd_,hI_ a xs b c h]
theorem q5_ (hw:∀a,(enc a).length=w) (l:List α) {i:Nat} (hi:i<l.length):∃a b,x_ enc l=a++(enc l[i]++b)/\a.length=i*w/\∀x,x_ enc (l.set i x)=a++(enc x++b):=by
 refine ⟨x_ enc (l.take i),x_ enc (l.drop (i+1)),?_,?_,λx=>?_⟩
 .have h1:l=l.take i++l[i]::l.drop (i+1):=by rw [List.getElem_cons_drop,List.take_append_drop]
  have h2:=congrArg (x_ enc) h1
  rw [dT_]at h2
  exact h2
 .rw [dY_ hw,List.length_take];congr 1;omega
 .rw [List.set_eq_take_append_cons_drop,if_pos hi,dT_];rfl
theorem run_stx (hw:∀a,(enc a).length=w) {l:List α} {i:Nat} (hi:i<l.length) {off:Nat} {v:AV} {xs p q r:List AV} {y:α} (hc:v.cells=xs) (ho:v=.agg xs\/(∃k n,v=.int k n)) (hinf:P.info? t=some ti) (hs:ti.size=xs.length) (h1:aF_ xs=true)
  (he:enc l[i]=p++(q++r)) (hp:p.length=off) (hq:q.length=xs.length) (hy:enc y=p++(xs++r)) (k:IntKind):(XOp.stx t w off).run P [aC_ enc w l,.int k (i:Int),v]=some (aC_ enc w (l.set i y)):=by
 obtain ⟨a,b,e1,e2,e3⟩:=q5_ hw l hi
 obtain ⟨x0,l',rfl⟩:∃x l',l=x::l':=by cases l with|nil=>simp at hi|cons x l'=>exact ⟨x,l',rfl⟩
 have cz_:∃z l'',(x0::l').set i y=z::l''/\l''.length=l'.length:=by
  cases i with
  |zero=>exact ⟨y,l',rfl,rfl⟩
  |succ i=>exact ⟨x0,l'.set i y,rfl,by simp⟩
 obtain ⟨z,l'',e4,e5⟩:=cz_
 have hst:bj_ P (gy_ (x_ enc (x0::l'))) t (.ptr 0 (i*w+off)) v=some (.tup [],(gy_ (x_ enc (x0::l'))).set 0 (.cells (x_ enc ((x0::l').set i y)))):=by
  have hg:(gy_ (x_ enc (x0::l'))).get 0=some (.cells (x_ enc (x0::l'))):=rfl
  have hsa:cd_ (i*w+off) xs (x_ enc (x0::l'))=some (x_ enc ((x0::l').set i y)):=by
   have:=hI_ (a++p) xs q (r++b) hq
   rw [List.length_append,e2,hp]at this
   rw [e1,he,e3,hy]
   simpa [List.append_assoc]using this
  have hb:Nat.beq xs.length ti.size=true:=by rw [hs];exact Nat.beq_refl _
  rcases ho with rfl|⟨k',n,rfl⟩
  .simp only [bj_,hinf]
   have hc':(AV.agg xs).cells=xs:=hc
   simp only [hc',hb,h1,hg,hsa]
  .simp only [bj_,hinf]
   simp only [hc,hb,h1,hg,hsa]
 show (match bj_ P (gy_ (x_ enc (x0::l'))) t (.ptr 0 (Nat.add (Nat.mul i w) off)) v with
  |some r=>match r.2.get 0 with
   |some (.cells cs')=>some (AV.vsl (l'.length+1) w cs')
   |_=>none
  |none=>none)=_
 have e6:Nat.add (Nat.mul i w) off=i*w+off:=rfl
 rw [e6,hst]
 have hg2:∀c:List AV,((gy_ (x_ enc (x0::l'))).set 0 (.cells c)).get 0=some (.cells c):=λc=>rfl
 simp only [hg2]
 rw [e4]
 show _=some (AV.vsl (l''.length+1) w (x_ enc (z::l'')))
 rw [e5]
theorem wT_ {l:List α} {i:Nat} (hi:i<l.length) (k:IntKind):(XOp.inb).run P [aC_ enc w l,.int k (i:Int)]=some (.int .i64 (i:Int)):=by
 cases l with
 |nil=>simp at hi
 |cons x r=>
  show (match Sx.idx (i:Int) (r.length+1)with|some n=>some (AV.int .i64 (.ofNat n))|none=>none)=_
  have hb:Nat.blt i (r.length+1)=true:=by simpa [Nat.blt_eq]using hi
  have:Sx.idx (i:Int) (r.length+1)=some i:=by
   show (match Nat.blt i (r.length+1)with|true=>some i|false=>none)=some i
   rw [hb]
  rw [this];rfl
end
theorem hF_:∀{l:List AV},B_ l=true->aF_ l=true
 |[],_=>rfl
 |a::r,h=>by
  rw [H_]at h
  obtain ⟨h1,h2⟩:=a_ h
  have:a.one=true:=by cases a<;>first|rfl|(simp [I_]at h1)
  simp only [aF_,this,hF_ h2]
end Go.Sx
set_option maxRecDepth 100000
set_option linter.unusedVariables false
set_option linter.unusedSimpArgs false
namespace Go.Proofs.YtjconanknjgpnaaGreat.vars
open Go Go.Sx
def Bz_:VC:=⟨⟨[],[]⟩,[(153,[(some 10),none,none]),(154,[(some 10)]),(157,[none]),(158,[none])],[(1,[⟨[(4,.ptr 1 0),(3,.ptr 0 0),(9,.slx 2 10 0),(10,.slx 1 0 0),(0,64)],[(1,[J 0,J 0,.str [],.str [],J 0,J 0,J 0,J 0,.flt .f64 0,.nsl]),(0,[65,66,67,68,69,70,71,72,73,74])],3,2,[⟨2,10,0,9,none⟩],[],[]⟩])],0,true,[(121,ft121),(155,uE_),(156,ft156)]⟩
def AC_:VT:=
 (.lt Q0 [65,J 1] 75 none
 (.ite 75
 (.done (.tup [J 0,65,71,67,68,69,70,71,72,73,74,J 0]))
 (.lt Q0 [65,J 2] 76 none
 (.ite 76
 (.callF 155 uE_ [64,65,66,67,68,69,70,71,72,73,74] 77
 (.cons 11
 (.done (.tup [J 0,88,89,90,91,92,93,94,95,96,97,98]))
 .nil))
 (.lt Q0 [65,J 3] 77 none
 (.ite 77
 (.call 153 [64,67] 78 [(some 10),none,none]
 (.lt Q4 [89] 90 none
 (.ite 90
 (.done (.tup [J 0,65,66,67,68,69,70,71,72,73,74,J 3]))
 (.lt Q0 [81,J 0] 91 none
 (.ite 91
 (.done (.tup [J 0,65,66,67,68,69,70,71,72,73,74,J 4]))
 (.loop 92 0 [.nsl,J 0]
 (.cons 2
 (.lt Qe [74] 94 none
 (.lt Q5 [93,94] 95 none
 (.ite 95
 (.lt Qa [74,93] 96 none
 (.lt Qd [96] 97 (some 10)
 (.callF 121 ft121 [64,97,98,99,100,101,102,103,104,105,106] 107
 (.cons 11
 (.lt Q6 [128,J 0] 129 none
 (.ite 129
 (.done (.tup [J 0,65,66,67,68,69,70,71,72,73,74,128]))
 (.lt Qh [92,.agg [118,119,120,121,122,123,124,125,126,127]] 130 none
 (.lt Q2 [93,J 1] 131 none
 (.again 0 0 [130,131])))))
 .nil))))
 (.lt Q0 [65,J 3] 96 none
 (.ite 96
 (.callF 156 ft156 [64,65,66,67,68,69,70,71,72,73,74,92] 97
 (.cons 11
 (.done (.tup [J 0,109,110,111,112,113,114,115,116,117,118,119]))
 .nil))
 (.lt Q1 [92,J 0] 97 none
 (.lt Qf [92,97] 98 none
 (.lt Q0 [65,J 17] 99 none
 (.ite 99
 (.lt Q0 [98,J 1] 100 none
 (.ite 100
 (.done (.tup [J 0,65,66,67,68,69,70,71,72,73,74,J 4]))
 (.lt Q0 [66,J 1] 101 none
 (.ite 101
 (.done (.tup [J 0,65,66,67,68,69,70,71,72,73,74,J 4]))
 (.done (.tup [J 0,65,66,67,68,69,70,71,72,73,92,J 0]))))))
 (.lt Q0 [65,J 15] 100 none
 (.ite 100
 (.lt Q0 [98,J 1] 101 none
 (.call 157 [101] 102 [none]
 (.done (.tup [J 0,65,J 1,67,68,69,70,71,72,73,92,102]))))
 (.lt Q0 [65,J 16] 101 none
 (.ite 101
 (.lt Q3 [98,J 1] 102 none
 (.call 157 [102] 103 [none]
 (.done (.tup [J 0,65,98,67,68,69,70,71,72,73,92,103]))))
 (.lt Qx [65,J 4] 102 none
 (.ite 102
 (.lt Qr [65,J 12] 103 none
 (.ite 103
 (.lt Q1 [92,J 0] 104 none
 (.lt Zj [92,104] 105 (some 10)
 (.lt Q1 [92,J 1] 115 none
 (.lt Qf [92,115] 116 none
 (.call 154 [.agg [105,106,107,108,109,110,111,112,113,114],116] 117 [(some 10)]
 (.lt Q1 [92,J 1] 127 none
 (.lt Zj [92,127] 128 (some 10)
 (.lt Q1 [92,J 0] 138 none
 (.lt Qf [92,138] 139 none
 (.call 154 [.agg [128,129,130,131,132,133,134,135,136,137],139] 140 [(some 10)]
 (.lt Q1 [92,J 0] 150 none
 (.lt Zk [92,150,.agg [117,118,119,120,121,122,123,124,125,126]] 151 none
 (.lt Q1 [92,J 1] 152 none
 (.lt Zk [151,152,.agg [140,141,142,143,144,145,146,147,148,149]] 153 none
 (.lt Q1 [92,J 0] 154 none
 (.lt Qf [153,154] 155 none
 (.lt Q1 [92,J 1] 156 none
 (.lt Qf [153,156] 157 none
 (.lt Qk [155,157] 158 none
 (.lt Q0 [65,J 4] 159 none
 (.ite 159
 (.ite 158
 (.lt Q3 [155,J 1] 160 none
 (.call 157 [160] 161 [none]
 (.chk (.same 92 153)
 (.done (.tup [J 0,65,155,67,68,69,70,71,72,73,153,161])))))
 (.call 157 [.bool false] 160 [none]
 (.chk (.same 92 153)
 (.done (.tup [J 0,65,155,67,68,69,70,71,72,73,153,160])))))
 (.lt Q0 [65,J 5] 160 none
 (.ite 160
 (.ite 158
 (.lt Q3 [155,J 1] 161 none
 (.call 157 [161] 162 [none]
 (.chk (.same 92 153)
 (.done (.tup [J 0,65,155,67,68,69,70,71,72,73,153,162])))))
 (.call 157 [.bool false] 161 [none]
 (.chk (.same 92 153)
 (.done (.tup [J 0,65,155,67,68,69,70,71,72,73,153,161])))))
 (.lt Q0 [65,J 6] 161 none
 (.ite 161
 (.ite 158
 (.lt Q3 [155,J 1] 162 none
 (.call 157 [162] 163 [none]
 (.chk (.same 92 153)
 (.done (.tup [J 0,65,155,67,68,69,70,71,72,73,153,163])))))
 (.call 157 [.bool false] 162 [none]
 (.chk (.same 92 153)
 (.done (.tup [J 0,65,155,67,68,69,70,71,72,73,153,162])))))
 (.lt Q0 [65,J 7] 162 none
 (.ite 162
 (.ite 158
 (.lt Q3 [155,J 1] 163 none
 (.call 157 [163] 164 [none]
 (.chk (.same 92 153)
 (.done (.tup [J 0,65,155,67,68,69,70,71,72,73,153,164])))))
 (.call 157 [.bool false] 163 [none]
 (.chk (.same 92 153)
 (.done (.tup [J 0,65,155,67,68,69,70,71,72,73,153,163])))))
 (.lt Q0 [65,J 8] 163 none
 (.ite 163
 (.ite 158
 (.call 158 [155] 164 [none]
 (.call 157 [164] 165 [none]
 (.chk (.same 92 153)
 (.done (.tup [J 0,65,155,67,68,69,70,71,72,73,153,165])))))
 (.call 157 [.bool false] 164 [none]
 (.chk (.same 92 153)
 (.done (.tup [J 0,65,155,67,68,69,70,71,72,73,153,164])))))
 (.lt Q0 [65,J 9] 164 none
 (.ite 164
 (.call 157 [158] 165 [none]
 (.chk (.same 92 153)
 (.done (.tup [J 0,65,J 1,67,68,69,70,71,72,73,153,165]))))
 (.lt Q0 [65,J 10] 165 none
 (.ite 165
 (.call 157 [158] 166 [none]
 (.chk (.same 92 153)
 (.done (.tup [J 0,65,J 1,67,68,69,70,71,72,73,153,166]))))
 (.lt Q0 [65,J 11] 166 none
 (.ite 166
 (.ite 158
 (.lt Q3 [155,J 1] 167 none
 (.call 157 [167] 168 [none]
 (.chk (.same 92 153)
 (.done (.tup [J 0,65,J 1,67,68,69,70,71,72,73,153,168])))))
 (.call 157 [.bool false] 167 [none]
 (.chk (.same 92 153)
 (.done (.tup [J 0,65,J 1,67,68,69,70,71,72,73,153,167])))))
 (.lt Q0 [65,J 12] 167 none
 (.ite 167
 (.ite 158
 (.lt Q3 [155,J 1] 168 none
 (.call 157 [168] 169 [none]
 (.chk (.same 92 153)
 (.done (.tup [J 0,65,J 1,67,68,69,70,71,72,73,153,169])))))
 (.call 157 [.bool false] 168 [none]
 (.chk (.same 92 153)
 (.done (.tup [J 0,65,J 1,67,68,69,70,71,72,73,153,168])))))
 (.ite 158
 (.lt Q0 [155,J 1] 168 none
 (.call 157 [168] 169 [none]
 (.chk (.same 92 153)
 (.done (.tup [J 0,65,J 1,67,68,69,70,71,72,73,153,169])))))
 (.call 157 [.bool false] 168 [none]
 (.chk (.same 92 153)
 (.done (.tup [J 0,65,J 1,67,68,69,70,71,72,73,153,168]))))))))))))))))))))))))))))))))))))))))))
 (.lt Q1 [92,J 1] 104 none
 (.lt Qf [92,104] 105 none
 (.lt Qk [98,105] 106 none
 (.lt Q0 [65,J 4] 107 none
 (.ite 107
 (.ite 106
 (.lt Q3 [98,J 1] 108 none
 (.call 157 [108] 109 [none]
 (.done (.tup [J 0,65,98,67,68,69,70,71,72,73,92,109]))))
 (.call 157 [.bool false] 108 [none]
 (.done (.tup [J 0,65,98,67,68,69,70,71,72,73,92,108]))))
 (.lt Q0 [65,J 5] 108 none
 (.ite 108
 (.ite 106
 (.lt Q3 [98,J 1] 109 none
 (.call 157 [109] 110 [none]
 (.done (.tup [J 0,65,98,67,68,69,70,71,72,73,92,110]))))
 (.call 157 [.bool false] 109 [none]
 (.done (.tup [J 0,65,98,67,68,69,70,71,72,73,92,109]))))
 (.lt Q0 [65,J 6] 109 none
 (.ite 109
 (.ite 106
 (.lt Q3 [98,J 1] 110 none
 (.call 157 [110] 111 [none]
 (.done (.tup [J 0,65,98,67,68,69,70,71,72,73,92,111]))))
 (.call 157 [.bool false] 110 [none]
 (.done (.tup [J 0,65,98,67,68,69,70,71,72,73,92,110]))))
 (.lt Q0 [65,J 7] 110 none
 (.ite 110
 (.ite 106
 (.lt Q3 [98,J 1] 111 none
 (.call 157 [111] 112 [none]
 (.done (.tup [J 0,65,98,67,68,69,70,71,72,73,92,112]))))
 (.call 157 [.bool false] 111 [none]
 (.done (.tup [J 0,65,98,67,68,69,70,71,72,73,92,111]))))
 (.lt Q0 [65,J 8] 111 none
 (.ite 111
 (.ite 106
 (.call 158 [98] 112 [none]
 (.call 157 [112] 113 [none]
 (.done (.tup [J 0,65,98,67,68,69,70,71,72,73,92,113]))))
 (.call 157 [.bool false] 112 [none]
 (.done (.tup [J 0,65,98,67,68,69,70,71,72,73,92,112]))))
 (.lt Q0 [65,J 9] 112 none
 (.ite 112
 (.call 157 [106] 113 [none]
 (.done (.tup [J 0,65,J 1,67,68,69,70,71,72,73,92,113])))
 (.lt Q0 [65,J 10] 113 none
 (.ite 113
 (.call 157 [106] 114 [none]
 (.done (.tup [J 0,65,J 1,67,68,69,70,71,72,73,92,114])))
 (.lt Q0 [65,J 11] 114 none
 (.ite 114
 (.ite 106
 (.lt Q3 [98,J 1] 115 none
 (.call 157 [115] 116 [none]
 (.done (.tup [J 0,65,J 1,67,68,69,70,71,72,73,92,116]))))
 (.call 157 [.bool false] 115 [none]
 (.done (.tup [J 0,65,J 1,67,68,69,70,71,72,73,92,115]))))
 (.lt Q0 [65,J 12] 115 none
 (.ite 115
 (.ite 106
 (.lt Q3 [98,J 1] 116 none
 (.call 157 [116] 117 [none]
 (.done (.tup [J 0,65,J 1,67,68,69,70,71,72,73,92,117]))))
 (.call 157 [.bool false] 116 [none]
 (.done (.tup [J 0,65,J 1,67,68,69,70,71,72,73,92,116]))))
 (.ite 106
 (.lt Q0 [98,J 1] 116 none
 (.call 157 [116] 117 [none]
 (.done (.tup [J 0,65,J 1,67,68,69,70,71,72,73,92,117]))))
 (.call 157 [.bool false] 116 [none]
 (.done (.tup [J 0,65,J 1,67,68,69,70,71,72,73,92,116])))))))))))))))))))))))))))
 (.lt Q1 [92,J 1] 103 none
 (.lt Qf [92,103] 104 none
 (.lt Qk [98,104] 105 none
 (.lt Q0 [65,J 4] 106 none
 (.ite 106
 (.ite 105
 (.lt Q3 [98,J 1] 107 none
 (.call 157 [107] 108 [none]
 (.done (.tup [J 0,65,98,67,68,69,70,71,72,73,92,108]))))
 (.call 157 [.bool false] 107 [none]
 (.done (.tup [J 0,65,98,67,68,69,70,71,72,73,92,107]))))
 (.lt Q0 [65,J 5] 107 none
 (.ite 107
 (.ite 105
 (.lt Q3 [98,J 1] 108 none
 (.call 157 [108] 109 [none]
 (.done (.tup [J 0,65,98,67,68,69,70,71,72,73,92,109]))))
 (.call 157 [.bool false] 108 [none]
 (.done (.tup [J 0,65,98,67,68,69,70,71,72,73,92,108]))))
 (.lt Q0 [65,J 6] 108 none
 (.ite 108
 (.ite 105
 (.lt Q3 [98,J 1] 109 none
 (.call 157 [109] 110 [none]
 (.done (.tup [J 0,65,98,67,68,69,70,71,72,73,92,110]))))
 (.call 157 [.bool false] 109 [none]
 (.done (.tup [J 0,65,98,67,68,69,70,71,72,73,92,109]))))
 (.lt Q0 [65,J 7] 109 none
 (.ite 109
 (.ite 105
 (.lt Q3 [98,J 1] 110 none
 (.call 157 [110] 111 [none]
 (.done (.tup [J 0,65,98,67,68,69,70,71,72,73,92,111]))))
 (.call 157 [.bool false] 110 [none]
 (.done (.tup [J 0,65,98,67,68,69,70,71,72,73,92,110]))))
 (.lt Q0 [65,J 8] 110 none
 (.ite 110
 (.ite 105
 (.call 158 [98] 111 [none]
 (.call 157 [111] 112 [none]
 (.done (.tup [J 0,65,98,67,68,69,70,71,72,73,92,112]))))
 (.call 157 [.bool false] 111 [none]
 (.done (.tup [J 0,65,98,67,68,69,70,71,72,73,92,111]))))
 (.lt Q0 [65,J 9] 111 none
 (.ite 111
 (.call 157 [105] 112 [none]
 (.done (.tup [J 0,65,J 1,67,68,69,70,71,72,73,92,112])))
 (.lt Q0 [65,J 10] 112 none
 (.ite 112
 (.call 157 [105] 113 [none]
 (.done (.tup [J 0,65,J 1,67,68,69,70,71,72,73,92,113])))
 (.lt Q0 [65,J 11] 113 none
 (.ite 113
 (.ite 105
 (.lt Q3 [98,J 1] 114 none
 (.call 157 [114] 115 [none]
 (.done (.tup [J 0,65,J 1,67,68,69,70,71,72,73,92,115]))))
 (.call 157 [.bool false] 114 [none]
 (.done (.tup [J 0,65,J 1,67,68,69,70,71,72,73,92,114]))))
 (.lt Q0 [65,J 12] 114 none
 (.ite 114
 (.ite 105
 (.lt Q3 [98,J 1] 115 none
 (.call 157 [115] 116 [none]
 (.done (.tup [J 0,65,J 1,67,68,69,70,71,72,73,92,116]))))
 (.call 157 [.bool false] 115 [none]
 (.done (.tup [J 0,65,J 1,67,68,69,70,71,72,73,92,115]))))
 (.ite 105
 (.lt Q0 [98,J 1] 115 none
 (.call 157 [115] 116 [none]
 (.done (.tup [J 0,65,J 1,67,68,69,70,71,72,73,92,116]))))
 (.call 157 [.bool false] 115 [none]
 (.done (.tup [J 0,65,J 1,67,68,69,70,71,72,73,92,115]))))))))))))))))))))))))))))))))))))))))
 .nil)))))))
 (.loop 78 0 [.nsl,J 0]
 (.cons 2
 (.lt Qe [74] 80 none
 (.lt Q5 [79,80] 81 none
 (.ite 81
 (.lt Qa [74,79] 82 none
 (.lt Qd [82] 83 (some 10)
 (.callF 121 ft121 [64,83,84,85,86,87,88,89,90,91,92] 93
 (.cons 11
 (.lt Q6 [114,J 0] 115 none
 (.ite 115
 (.done (.tup [J 0,65,66,67,68,69,70,71,72,73,74,114]))
 (.lt Qh [78,.agg [104,105,106,107,108,109,110,111,112,113]] 116 none
 (.lt Q2 [79,J 1] 117 none
 (.again 0 0 [116,117])))))
 .nil))))
 (.lt Q0 [65,J 3] 82 none
 (.ite 82
 (.callF 156 ft156 [64,65,66,67,68,69,70,71,72,73,74,78] 83
 (.cons 11
 (.done (.tup [J 0,95,96,97,98,99,100,101,102,103,104,105]))
 .nil))
 (.lt Q1 [78,J 0] 83 none
 (.lt Qf [78,83] 84 none
 (.lt Q0 [65,J 17] 85 none
 (.ite 85
 (.lt Q0 [84,J 1] 86 none
 (.ite 86
 (.done (.tup [J 0,65,66,67,68,69,70,71,72,73,74,J 4]))
 (.lt Q0 [66,J 1] 87 none
 (.ite 87
 (.done (.tup [J 0,65,66,67,68,69,70,71,72,73,74,J 4]))
 (.done (.tup [J 0,65,66,67,68,69,70,71,72,73,78,J 0]))))))
 (.lt Q0 [65,J 15] 86 none
 (.ite 86
 (.lt Q0 [84,J 1] 87 none
 (.call 157 [87] 88 [none]
 (.done (.tup [J 0,65,J 1,67,68,69,70,71,72,73,78,88]))))
 (.lt Q0 [65,J 16] 87 none
 (.ite 87
 (.lt Q3 [84,J 1] 88 none
 (.call 157 [88] 89 [none]
 (.done (.tup [J 0,65,84,67,68,69,70,71,72,73,78,89]))))
 (.lt Qx [65,J 4] 88 none
 (.ite 88
 (.lt Qr [65,J 12] 89 none
 (.ite 89
 (.lt Q1 [78,J 0] 90 none
 (.lt Zj [78,90] 91 (some 10)
 (.lt Q1 [78,J 1] 101 none
 (.lt Qf [78,101] 102 none
 (.call 154 [.agg [91,92,93,94,95,96,97,98,99,100],102] 103 [(some 10)]
 (.lt Q1 [78,J 1] 113 none
 (.lt Zj [78,113] 114 (some 10)
 (.lt Q1 [78,J 0] 124 none
 (.lt Qf [78,124] 125 none
 (.call 154 [.agg [114,115,116,117,118,119,120,121,122,123],125] 126 [(some 10)]
 (.lt Q1 [78,J 0] 136 none
 (.lt Zk [78,136,.agg [103,104,105,106,107,108,109,110,111,112]] 137 none
 (.lt Q1 [78,J 1] 138 none
 (.lt Zk [137,138,.agg [126,127,128,129,130,131,132,133,134,135]] 139 none
 (.lt Q1 [78,J 0] 140 none
 (.lt Qf [139,140] 141 none
 (.lt Q1 [78,J 1] 142 none
 (.lt Qf [139,142] 143 none
 (.lt Qk [141,143] 144 none
 (.lt Q0 [65,J 4] 145 none
 (.ite 145
 (.ite 144
 (.lt Q3 [141,J 1] 146 none
 (.call 157 [146] 147 [none]
 (.chk (.same 78 139)
 (.done (.tup [J 0,65,141,67,68,69,70,71,72,73,139,147])))))
 (.call 157 [.bool false] 146 [none]
 (.chk (.same 78 139)
 (.done (.tup [J 0,65,141,67,68,69,70,71,72,73,139,146])))))
 (.lt Q0 [65,J 5] 146 none
 (.ite 146
 (.ite 144
 (.lt Q3 [141,J 1] 147 none
 (.call 157 [147] 148 [none]
 (.chk (.same 78 139)
 (.done (.tup [J 0,65,141,67,68,69,70,71,72,73,139,148])))))
 (.call 157 [.bool false] 147 [none]
 (.chk (.same 78 139)
 (.done (.tup [J 0,65,141,67,68,69,70,71,72,73,139,147])))))
 (.lt Q0 [65,J 6] 147 none
 (.ite 147
 (.ite 144
 (.lt Q3 [141,J 1] 148 none
 (.call 157 [148] 149 [none]
 (.chk (.same 78 139)
 (.done (.tup [J 0,65,141,67,68,69,70,71,72,73,139,149])))))
 (.call 157 [.bool false] 148 [none]
 (.chk (.same 78 139)
 (.done (.tup [J 0,65,141,67,68,69,70,71,72,73,139,148])))))
 (.lt Q0 [65,J 7] 148 none
 (.ite 148
 (.ite 144
 (.lt Q3 [141,J 1] 149 none
 (.call 157 [149] 150 [none]
 (.chk (.same 78 139)
 (.done (.tup [J 0,65,141,67,68,69,70,71,72,73,139,150])))))
 (.call 157 [.bool false] 149 [none]
 (.chk (.same 78 139)
 (.done (.tup [J 0,65,141,67,68,69,70,71,72,73,139,149])))))
 (.lt Q0 [65,J 8] 149 none
 (.ite 149
 (.ite 144
 (.call 158 [141] 150 [none]
 (.call 157 [150] 151 [none]
 (.chk (.same 78 139)
 (.done (.tup [J 0,65,141,67,68,69,70,71,72,73,139,151])))))
 (.call 157 [.bool false] 150 [none]
 (.chk (.same 78 139)
 (.done (.tup [J 0,65,141,67,68,69,70,71,72,73,139,150])))))
 (.lt Q0 [65,J 9] 150 none
 (.ite 150
 (.call 157 [144] 151 [none]
 (.chk (.same 78 139)
 (.done (.tup [J 0,65,J 1,67,68,69,70,71,72,73,139,151]))))
 (.lt Q0 [65,J 10] 151 none
 (.ite 151
 (.call 157 [144] 152 [none]
 (.chk (.same 78 139)
 (.done (.tup [J 0,65,J 1,67,68,69,70,71,72,73,139,152]))))
 (.lt Q0 [65,J 11] 152 none
 (.ite 152
 (.ite 144
 (.lt Q3 [141,J 1] 153 none
 (.call 157 [153] 154 [none]
 (.chk (.same 78 139)
 (.done (.tup [J 0,65,J 1,67,68,69,70,71,72,73,139,154])))))
 (.call 157 [.bool false] 153 [none]
 (.chk (.same 78 139)
 (.done (.tup [J 0,65,J 1,67,68,69,70,71,72,73,139,153])))))
 (.lt Q0 [65,J 12] 153 none
 (.ite 153
 (.ite 144
 (.lt Q3 [141,J 1] 154 none
 (.call 157 [154] 155 [none]
 (.chk (.same 78 139)
 (.done (.tup [J 0,65,J 1,67,68,69,70,71,72,73,139,155])))))
 (.call 157 [.bool false] 154 [none]
 (.chk (.same 78 139)
 (.done (.tup [J 0,65,J 1,67,68,69,70,71,72,73,139,154])))))
 (.ite 144
 (.lt Q0 [141,J 1] 154 none
 (.call 157 [154] 155 [none]
 (.chk (.same 78 139)
 (.done (.tup [J 0,65,J 1,67,68,69,70,71,72,73,139,155])))))
 (.call 157 [.bool false] 154 [none]
 (.chk (.same 78 139)
 (.done (.tup [J 0,65,J 1,67,68,69,70,71,72,73,139,154]))))))))))))))))))))))))))))))))))))))))))
 (.lt Q1 [78,J 1] 90 none
 (.lt Qf [78,90] 91 none
 (.lt Qk [84,91] 92 none
 (.lt Q0 [65,J 4] 93 none
 (.ite 93
 (.ite 92
 (.lt Q3 [84,J 1] 94 none
 (.call 157 [94] 95 [none]
 (.done (.tup [J 0,65,84,67,68,69,70,71,72,73,78,95]))))
 (.call 157 [.bool false] 94 [none]
 (.done (.tup [J 0,65,84,67,68,69,70,71,72,73,78,94]))))
 (.lt Q0 [65,J 5] 94 none
 (.ite 94
 (.ite 92
 (.lt Q3 [84,J 1] 95 none
 (.call 157 [95] 96 [none]
 (.done (.tup [J 0,65,84,67,68,69,70,71,72,73,78,96]))))
 (.call 157 [.bool false] 95 [none]
 (.done (.tup [J 0,65,84,67,68,69,70,71,72,73,78,95]))))
 (.lt Q0 [65,J 6] 95 none
 (.ite 95
 (.ite 92
 (.lt Q3 [84,J 1] 96 none
 (.call 157 [96] 97 [none]
 (.done (.tup [J 0,65,84,67,68,69,70,71,72,73,78,97]))))
 (.call 157 [.bool false] 96 [none]
 (.done (.tup [J 0,65,84,67,68,69,70,71,72,73,78,96]))))
 (.lt Q0 [65,J 7] 96 none
 (.ite 96
 (.ite 92
 (.lt Q3 [84,J 1] 97 none
 (.call 157 [97] 98 [none]
 (.done (.tup [J 0,65,84,67,68,69,70,71,72,73,78,98]))))
 (.call 157 [.bool false] 97 [none]
 (.done (.tup [J 0,65,84,67,68,69,70,71,72,73,78,97]))))
 (.lt Q0 [65,J 8] 97 none
 (.ite 97
 (.ite 92
 (.call 158 [84] 98 [none]
 (.call 157 [98] 99 [none]
 (.done (.tup [J 0,65,84,67,68,69,70,71,72,73,78,99]))))
 (.call 157 [.bool false] 98 [none]
 (.done (.tup [J 0,65,84,67,68,69,70,71,72,73,78,98]))))
 (.lt Q0 [65,J 9] 98 none
 (.ite 98
 (.call 157 [92] 99 [none]
 (.done (.tup [J 0,65,J 1,67,68,69,70,71,72,73,78,99])))
 (.lt Q0 [65,J 10] 99 none
 (.ite 99
 (.call 157 [92] 100 [none]
 (.done (.tup [J 0,65,J 1,67,68,69,70,71,72,73,78,100])))
 (.lt Q0 [65,J 11] 100 none
 (.ite 100
 (.ite 92
 (.lt Q3 [84,J 1] 101 none
 (.call 157 [101] 102 [none]
 (.done (.tup [J 0,65,J 1,67,68,69,70,71,72,73,78,102]))))
 (.call 157 [.bool false] 101 [none]
 (.done (.tup [J 0,65,J 1,67,68,69,70,71,72,73,78,101]))))
 (.lt Q0 [65,J 12] 101 none
 (.ite 101
 (.ite 92
 (.lt Q3 [84,J 1] 102 none
 (.call 157 [102] 103 [none]
 (.done (.tup [J 0,65,J 1,67,68,69,70,71,72,73,78,103]))))
 (.call 157 [.bool false] 102 [none]
 (.done (.tup [J 0,65,J 1,67,68,69,70,71,72,73,78,102]))))
 (.ite 92
 (.lt Q0 [84,J 1] 102 none
 (.call 157 [102] 103 [none]
 (.done (.tup [J 0,65,J 1,67,68,69,70,71,72,73,78,103]))))
 (.call 157 [.bool false] 102 [none]
 (.done (.tup [J 0,65,J 1,67,68,69,70,71,72,73,78,102])))))))))))))))))))))))))))
 (.lt Q1 [78,J 1] 89 none
 (.lt Qf [78,89] 90 none
 (.lt Qk [84,90] 91 none
 (.lt Q0 [65,J 4] 92 none
 (.ite 92
 (.ite 91
 (.lt Q3 [84,J 1] 93 none
 (.call 157 [93] 94 [none]
 (.done (.tup [J 0,65,84,67,68,69,70,71,72,73,78,94]))))
 (.call 157 [.bool false] 93 [none]
 (.done (.tup [J 0,65,84,67,68,69,70,71,72,73,78,93]))))
 (.lt Q0 [65,J 5] 93 none
 (.ite 93
 (.ite 91
 (.lt Q3 [84,J 1] 94 none
 (.call 157 [94] 95 [none]
 (.done (.tup [J 0,65,84,67,68,69,70,71,72,73,78,95]))))
 (.call 157 [.bool false] 94 [none]
 (.done (.tup [J 0,65,84,67,68,69,70,71,72,73,78,94]))))
 (.lt Q0 [65,J 6] 94 none
 (.ite 94
 (.ite 91
 (.lt Q3 [84,J 1] 95 none
 (.call 157 [95] 96 [none]
 (.done (.tup [J 0,65,84,67,68,69,70,71,72,73,78,96]))))
 (.call 157 [.bool false] 95 [none]
 (.done (.tup [J 0,65,84,67,68,69,70,71,72,73,78,95]))))
 (.lt Q0 [65,J 7] 95 none
 (.ite 95
 (.ite 91
 (.lt Q3 [84,J 1] 96 none
 (.call 157 [96] 97 [none]
 (.done (.tup [J 0,65,84,67,68,69,70,71,72,73,78,97]))))
 (.call 157 [.bool false] 96 [none]
 (.done (.tup [J 0,65,84,67,68,69,70,71,72,73,78,96]))))
 (.lt Q0 [65,J 8] 96 none
 (.ite 96
 (.ite 91
 (.call 158 [84] 97 [none]
 (.call 157 [97] 98 [none]
 (.done (.tup [J 0,65,84,67,68,69,70,71,72,73,78,98]))))
 (.call 157 [.bool false] 97 [none]
 (.done (.tup [J 0,65,84,67,68,69,70,71,72,73,78,97]))))
 (.lt Q0 [65,J 9] 97 none
 (.ite 97
 (.call 157 [91] 98 [none]
 (.done (.tup [J 0,65,J 1,67,68,69,70,71,72,73,78,98])))
 (.lt Q0 [65,J 10] 98 none
 (.ite 98
 (.call 157 [91] 99 [none]
 (.done (.tup [J 0,65,J 1,67,68,69,70,71,72,73,78,99])))
 (.lt Q0 [65,J 11] 99 none
 (.ite 99
 (.ite 91
 (.lt Q3 [84,J 1] 100 none
 (.call 157 [100] 101 [none]
 (.done (.tup [J 0,65,J 1,67,68,69,70,71,72,73,78,101]))))
 (.call 157 [.bool false] 100 [none]
 (.done (.tup [J 0,65,J 1,67,68,69,70,71,72,73,78,100]))))
 (.lt Q0 [65,J 12] 100 none
 (.ite 100
 (.ite 91
 (.lt Q3 [84,J 1] 101 none
 (.call 157 [101] 102 [none]
 (.done (.tup [J 0,65,J 1,67,68,69,70,71,72,73,78,102]))))
 (.call 157 [.bool false] 101 [none]
 (.done (.tup [J 0,65,J 1,67,68,69,70,71,72,73,78,101]))))
 (.ite 91
 (.lt Q0 [84,J 1] 101 none
 (.call 157 [101] 102 [none]
 (.done (.tup [J 0,65,J 1,67,68,69,70,71,72,73,78,102]))))
 (.call 157 [.bool false] 101 [none]
 (.done (.tup [J 0,65,J 1,67,68,69,70,71,72,73,78,101]))))))))))))))))))))))))))))))))))))))))
 .nil))))))))
theorem tR_ (k:Int):V_ Tryz.prog 158 [.int .i64 k] (.bool (decide (k=2\/k=3\/k=4))):=by
 refine D_ (sh:=[none]) (ls:=[.int .i64 k]) (c:=Cq_) (n:=300) (t:=Am_) mo ov rfl rfl rfl (λY _=>l_ _) rfl (by kernel_rfl) λY hf hg=>?_
 unfold Am_
 (refine h_ rfl rfl ?_ ?_<;>intro h<;>simp only [nc]at h<;>try (exfalso;omega))
 .refine d_ ?_
  show AV.bool _=_
  congr 1;symm;simp only [decide_eq_true_eq];omega
 (refine h_ rfl rfl ?_ ?_<;>intro h<;>simp only [nc]at h<;>try (exfalso;omega))
 .refine d_ ?_
  show AV.bool _=_
  congr 1;symm;simp only [decide_eq_true_eq];omega
 refine b_ (run_eql ..) rfl (d_ ?_)
 show AV.bool _=_
 congr 1
 refine decide_eq_decide.2 ?_
 omega
theorem vt_ {b:Bool} (h:(if b=true then (0:Int)else 4)=0):b=true:=by
 cases b with
 |true=>rfl
 |false=>simp at h
section
variable {P:Program} {Q:AV->Prop} {L:List (Nat->List AV->Prop)} {Y:Sy} {i:Nat} {A B:VT}
theorem lg_ {p:Prop} [Decidable p] (h0:Y.v i=some (.bool (decide p))) (h1:p->T_ P Q L Y A) (h2:¬p->T_ P Q L Y B):T_ P Q L Y (.ite i A B):=
 f_ h0 (λh=>h1 (of_decide_eq_true h)) (λh=>h2 (of_decide_eq_false h))
end
def RE (d:Nat) (x:GX):Nat->List AV->Prop:=λ_ ws=>∃(y:GX) (e:Int),ws=aH_ y++[.int .i64 e]/\(e=0->TX d y/\y.op=x.op/\NT x y)
theorem gh_ {d j:Nat} {x y:GX} {e:Int} {hv:List AV} {Y:Sy} {L:List (Nat->List AV->Prop)} (h:e_ Y.v hv=aH_ y++[.int .i64 e]) (hw:e=0->TX d y/\y.op=x.op/\NT x y):T_ Tryz.prog (QF (RE d x)) L Y (.done (.tup (.int .i64 (.ofNat j)::hv))):=
 VOK_fin (by rw [h];exact fg_ y e) ⟨y,e,h,hw⟩
def RM (x:GX) (k:Int):Nat->List AV->Prop:=λ_ ws=>∃e:Int,ws=(match x with| .mk op _ nm fd _ _ vk vi vf args=>aH_ (.mk op 2 nm fd 8 4 vk vi vf args))++[.int .i64 e]/\(e=0->k=2\/k=3)
theorem BK_ (op kd:Int) (nm fd:List UInt8) (ad n vk vi:Int) (vf:Nat) (args:List GX) (y:GX) (h:nm=[107]):CF Tryz.prog 156 ft156 (VARS::(aH_ (.mk op kd nm fd ad n vk vi vf args)++[cy_ [y]])) (RM (.mk op kd nm fd ad n vk vi vf [y]) y.kd):=by
 subst h
 obtain ⟨yo,yk,ynm,yfd,yad,yn,yvk,yvi,yvf,ya⟩:=y
 refine A_ (c:=BL_) (n:=300) (t:=Ab_) mo ov rfl (λY _=>l_ _) (by kernel_rfl) λY hf hg=>?_
 unfold Ab_
 refine c_ nK_ rfl rfl (b_ rfl rfl (f_ rfl (λh=>by cases h) (λ_=>b_ rfl rfl (f_ rfl (λ_=>?_) (λh=>by cases h)))))
 refine b_ (r:=.vptr (aH_ (.mk yo yk ynm yfd yad yn yvk yvi yvf ya)++iL_ [])) rfl (by show B_ _=true;exact i_.okL_join (okX _) (wR_ _)) ?_
 refine b_ (r:=.vptr [.int .i64 yk,.str ynm,.str yfd,.int .i64 yad,.int .i64 yn,.int .i64 yvk,.int .i64 yvi,.flt .f64 yvf,cy_ ya]) rfl (by simp only [I_,B_,okA]) (b_ (r:=.int .i64 yk) rfl rfl ?_)
 (refine h_ rfl rfl ?_ ?_<;>intro h<;>simp only [nc]at h<;>try (exfalso;omega))
 .refine c_ (k2_ true) rfl rfl (VOK_fin (by show B_ (aH_ (.mk op 2 [107] fd 8 4 vk vi vf [_])++[_])=true;exact fg_ _ _) ⟨_,rfl,λ_=>.inl h⟩)
 .refine b_ (r:=.vptr (aH_ (.mk yo yk ynm yfd yad yn yvk yvi yvf ya)++iL_ [])) rfl (by show B_ _=true;exact i_.okL_join (okX _) (wR_ _)) ?_
  refine b_ (r:=.vptr [.int .i64 yk,.str ynm,.str yfd,.int .i64 yad,.int .i64 yn,.int .i64 yvk,.int .i64 yvi,.flt .f64 yvf,cy_ ya]) rfl (by simp only [I_,B_,okA]) (b_ (r:=.int .i64 yk) rfl rfl ?_)
  refine b_ (run_eql ..) rfl (c_ (k2_ _) rfl rfl (VOK_fin (by show B_ (aH_ (.mk op 2 [107] fd 8 4 vk vi vf [_])++[_])=true;exact fg_ _ _) ⟨_,rfl,λh=>.inr ?_⟩))
  exact of_decide_eq_true (vt_ h)
theorem bL_ (l:List GX):(XOp.len 47).run Tryz.prog [cy_ l]=some (.int .i64 (l.length:Int)):=by rw [fJ_];exact gD_ Tryz.underlying47 l
theorem bS_ (l:List GX) {i:Nat} (h:i<l.length):(XOp.iaddr 47).run Tryz.prog [cy_ l,.int .i64 (i:Int)]=some (.vptr (x_ aH_ (l.drop i))):=by
 rw [fJ_];exact run_iaddr_sl (e:=49) (ti:=(Tryz.prog.info? 49).get!) Tryz.underlying47 (by kernel_rfl) (by kernel_rfl) gg_ h .i64
theorem bW_ (l:List GX) {i:Nat} (h:i<l.length):(XOp.load 49).run Tryz.prog [.vptr (x_ aH_ (l.drop i))]=some (.agg (aH_ l[i])):=
 run_load_agg (ti:=(Tryz.prog.info? 49).get!) Tryz.underlying49 rfl (by kernel_rfl) (by kernel_rfl) gg_ h
theorem cg_ (l:List GX) (s:GX) (hl:l.length<=100000):(XOp.app 10 112).run Tryz.prog [cy_ l,.agg (aH_ s)]=some (cy_ (l++[s])):=by
 rw [fJ_,fJ_]
 exact gH_ gg_ (by decide) (by decide) l s (by omega)
theorem lS_ (l:List GX) {i:Nat} (hi:i<l.length) (y:GX) (k:IntKind):(XOp.stx 49 10 0).run Tryz.prog [cy_ l,.int k (i:Int),.agg (aH_ y)]=some (cy_ (l.set i y)):=by
 rw [fJ_,fJ_]
 exact run_stx (ti:=(Tryz.prog.info? 49).get!) gg_ hi (p:=[]) (q:=aH_ l[i]) (r:=[]) (xs:=aH_ y) rfl (.inl rfl) (by kernel_rfl) (by rw [gg_];kernel_rfl) (hF_ (okX _)) (by simp) rfl (by rw [gg_,gg_]) (by simp) k
theorem tl_ (x:GX):B_ (aH_ x++[])=true:=by rw [List.append_nil];exact okX x
def typ (b:Bool):Int:=if b=true then 0 else 4
theorem u3_ {b:Bool} (h:typ b=0):b=true:=vt_ h
theorem wc_ (b:Bool):V_ Tryz.prog 157 [.bool b] (.int .i64 (typ b)):=k2_ b
attribute [irreducible] typ
theorem TX1 {d:Nat} {op kd ad n vk vi:Int} {nm fd:List UInt8} {vf:Nat} {y:GX} (hf:v3_ vf) (hy:TX d y) (ho:op=15/\kd=1/\y.kd=1\/op=16/\kd=y.kd/\y.kd≠1\/op=17/\2<=kd/\kd<=5/\y.kd≠1):TX (d+1) (.mk op kd nm fd ad n vk vi vf [y]):=by
 have hk:=xV_ hy
 refine ⟨.inr (.inl ⟨by omega,rfl⟩),hf,by omega,by omega,⟨λh=>by omega,λh=>by omega,λh=>by omega,λh=>by omega,λh=>?_,λh=>?_,λh=>?_⟩,λa ha=>by cases List.mem_singleton.1 ha;exact hy⟩
 .exact ⟨by omega,by show [y.kd]=[1];congr 1;omega⟩
 .exact ⟨by show [y.kd]=[kd];congr 1;omega,by omega,by omega⟩
 .exact ⟨by omega,by omega,y.kd,rfl,by omega,by omega⟩
theorem TX2 {d:Nat} {op kd ad n vk vi:Int} {nm fd:List UInt8} {vf:Nat} {y z:GX} (hf:v3_ vf) (hy:TX d y) (hz:TX d z) (ho:4<=op/\op<=14) (hk:y.kd=z.kd) (h1:op<=8->kd=y.kd/\y.kd≠1) (h2:9<=op->kd=1) (h3:op=8->y.kd≠5) (h4:op=11\/op=12->y.kd≠1) (h5:13<=op->y.kd=1):TX (d+1) (.mk op kd nm fd ad n vk vi vf [y,z]):=by
 have hy1:=xV_ hy
 refine ⟨.inr (.inr ⟨ho,rfl⟩),hf,by omega,by omega,⟨λh=>by omega,λh=>by omega,λh=>by omega,λh=>?_,λh=>by omega,λh=>by omega,λh=>by omega⟩,λa ha=>by
  rcases List.mem_cons.1 ha with rfl|ha
  .exact hy
  .cases List.mem_singleton.1 ha;exact hz⟩
 exact ⟨y.kd,by show [y.kd,z.kd]=_;rw [←hk],hy1.1,hy1.2,h1,h2,h3,h4,h5⟩
theorem qh_:∀(d:Nat) (x:GX),WX d x->CF Tryz.prog 121 ft121 (VARS::aH_ x) (RE d x)
 |0,_,h=>h.elim
 |d+1,.mk op kd nm fd ad n vk vi vf args,hx=>by
  obtain ⟨hA,hF,⟨n1,n2,n3,n4⟩,hW⟩:=hx
  have ih:=λ(z:GX) (hz:z∈args)=>qh_ d z (hW z hz)
  have hal:args.length<=2:=by unfold Ari at hA;omega
  refine A_ (c:=Bz_) (n:=300) (t:=AC_) mo ov rfl (λY _=>l_ _) (by kernel_rfl) λY hf hg=>?_
  unfold AC_
  (refine h_ rfl rfl ?_ ?_<;>intro h<;>simp only [nc]at h<;>try (exfalso;omega))
  .subst h
   have hl:args=[]:=by unfold Ari at hA;exact List.length_eq_zero_iff.1 (by omega)
   subst hl
   refine gh_ (y:=.mk 1 vk nm fd ad n vk vi vf []) rfl (λ_=>⟨⟨hA,hF,?_,?_,?_,λa ha=>(List.not_mem_nil ha).elim⟩,rfl,λh=>by omega⟩)
   all_goals obtain ⟨m1,m2,m3,m4,m5,m6⟩:=n1 rfl
   .omega
   .omega
   .exact ⟨λ_=>⟨rfl,by omega,by omega,m2,m3,m4,m5,m6⟩,λh=>by omega,λh=>by omega,λh=>by omega,λh=>by omega,λh=>by omega,λh=>by omega⟩
  (refine h_ rfl rfl ?_ ?_<;>intro h<;>simp only [nc]at h<;>try (exfalso;omega))
  .subst h
   have hl:args=[]:=by unfold Ari at hA;exact List.length_eq_zero_iff.1 (by omega)
   subst hl
   refine g_ (B2_ 2 kd nm fd ad n vk vi vf [] (n2 rfl)) rfl (by show B_ (VARS::aH_ (.mk 2 kd nm fd ad n vk vi vf []))=true;rw [H_];exact okX _) ⟨?_,trivial⟩
   rintro ws ⟨ad1,kd1,rfl,hc⟩
   have hc':(ad1,kd1)∈h8_:=tie_cells _ hc
   refine gh_ (y:=.mk 2 kd1 nm fd ad1 n vk vi vf []) rfl (λ_=>⟨⟨hA,hF,?_,?_,⟨λh=>by omega,λ_=>hc',λh=>by omega,λh=>by omega,λh=>by omega,λh=>by omega,λh=>by omega⟩,λa ha=>(List.not_mem_nil ha).elim⟩,rfl,λ_=>hc⟩)
   .simp [h8_]at hc';omega
   .simp [h8_]at hc';omega
  (refine h_ rfl rfl ?_ ?_<;>intro h<;>simp only [nc]at h<;>try (exfalso;omega))
  .subst h
   cases n3 rfl
   refine c_ nK_ rfl rfl (b_ rfl rfl (f_ rfl (λh=>by cases h) (λ_=>b_ rfl rfl (f_ rfl (λh=>by cases h) (λ_=>?_)))))
   refine Y_ (ι:=List GX×Nat) (λs=>[cy_ s.1,.int .i64 (s.2:Int)]) (λs=>s.1.length=s.2/\s.2<=args.length/\∀a∈s.1,TX d a) (λs=>args.length-s.2) ([],0) ⟨rfl,Nat.zero_le _,λa ha=>(List.not_mem_nil ha).elim⟩ rfl (λs _=>by simp only [B_,I_,okA]) (λs s' _ _ h=>by simp at h;omega) (λs hs=>?_)
   obtain ⟨acc,i⟩:=s
   obtain ⟨h1,h2,h3⟩:=hs
   simp only at h1 h2 h3⊢
   refine b_ (bL_ args) rfl ?_
   (refine h_ rfl rfl ?_ ?_<;>intro h<;>simp only [nc]at h<;>try (exfalso;omega))
   .have hi:i<args.length:=by omega
    have hld:=bW_ args hi
    have hz:=ih args[i] (List.getElem_mem hi)
    rcases hzz:args[i]with ⟨zo,zk,znm,zfd,zad,zn,zvk,zvi,zvf,za⟩
    rw [hzz]at hld hz
    refine b_ (bS_ args hi) (i_ okX _) (n_ hld rfl (okX _) ?_)
    refine g_ hz rfl (by show B_ (VARS::aH_ (.mk zo zk znm zfd zad zn zvk zvi zvf za))=true;rw [H_];exact okX _) ⟨?_,trivial⟩
    rintro ws ⟨⟨yo,yk,ynm,yfd,yad,yn,yvk,yvi,yvf,ya⟩,e,rfl,hy⟩
    (refine h_ rfl rfl ?_ ?_<;>intro h<;>simp only [nc]at h<;>try (exfalso;omega))
    .exact gh_ (y:=.mk _ _ _ _ _ _ _ _ _ _) rfl (λhe=>absurd he h)
    .refine b_ (cg_ acc (.mk yo yk ynm yfd yad yn yvk yvi yvf ya) (by omega)) (okA _) (b_ (ax_ (by omega) (by omega)) rfl (s_ rfl ⟨(acc++[_],i+1),⟨by simp;omega,hi,?_⟩,rfl,by simp only;omega⟩))
     intro a ha
     rcases List.mem_append.1 ha with ha|ha
     .exact h3 a ha
     .cases List.mem_singleton.1 ha;exact (hy h).1
   have hi:i=args.length:=by omega
   subst hi
   have ha1:acc.length=1:=by unfold Ari at hA;omega
   obtain ⟨y,rfl⟩:=List.length_eq_one_iff.1 ha1
   have hy:=h3 y (List.mem_singleton.2 rfl)
   obtain ⟨yo,yk,ynm,yfd,yad,yn,yvk,yvi,yvf,ya⟩:=y
   (refine h_ rfl rfl ?_ ?_<;>intro h<;>simp only [nc]at h<;>try (exfalso;omega))
   refine g_ (BK_ 3 kd [107] fd ad n vk vi vf args _ rfl) rfl (by show B_ (VARS::(aH_ (.mk 3 kd [107] fd ad n vk vi vf args)++[cy_ _]))=true;rw [H_];exact i_.okL_join (okX _) (by simp only [B_,okA])) ⟨?_,trivial⟩
   rintro ws ⟨e,rfl,he⟩
   refine gh_ (y:=.mk 3 2 [107] fd 8 4 vk vi vf [.mk _ _ _ _ _ _ _ _ _ _]) rfl (λh=>⟨⟨.inr (.inl ⟨.inl rfl,rfl⟩),hF,by decide,by decide,⟨λh=>by omega,λh=>by omega,λ_=>⟨rfl,rfl,rfl,_,rfl,he h⟩,λh=>by omega,λh=>by omega,λh=>by omega,λh=>by omega⟩,λa ha=>by cases List.mem_singleton.1 ha;exact hy⟩,rfl,λh=>by omega⟩)
  .refine Y_ (ι:=List GX×Nat) (λs=>[cy_ s.1,.int .i64 (s.2:Int)]) (λs=>s.1.length=s.2/\s.2<=args.length/\∀a∈s.1,TX d a) (λs=>args.length-s.2) ([],0) ⟨rfl,Nat.zero_le _,λa ha=>(List.not_mem_nil ha).elim⟩ rfl (λs _=>by simp only [B_,I_,okA]) (λs s' _ _ h=>by simp at h;omega) (λs hs=>?_)
   obtain ⟨acc,i⟩:=s
   obtain ⟨h1,h2,h3⟩:=hs
   simp only at h1 h2 h3⊢
   refine b_ (bL_ args) rfl ?_
   (refine h_ rfl rfl ?_ ?_<;>intro h<;>simp only [nc]at h<;>try (exfalso;omega))
   .have hi:i<args.length:=by omega
    have hld:=bW_ args hi
    have hz:=ih args[i] (List.getElem_mem hi)
    rcases hzz:args[i]with ⟨zo,zk,znm,zfd,zad,zn,zvk,zvi,zvf,za⟩
    rw [hzz]at hld hz
    refine b_ (bS_ args hi) (i_ okX _) (n_ hld rfl (okX _) ?_)
    refine g_ hz rfl (by show B_ (VARS::aH_ (.mk zo zk znm zfd zad zn zvk zvi zvf za))=true;rw [H_];exact okX _) ⟨?_,trivial⟩
    rintro ws ⟨⟨yo,yk,ynm,yfd,yad,yn,yvk,yvi,yvf,ya⟩,e,rfl,hy⟩
    (refine h_ rfl rfl ?_ ?_<;>intro h<;>simp only [nc]at h<;>try (exfalso;omega))
    .exact gh_ (y:=.mk _ _ _ _ _ _ _ _ _ _) rfl (λhe=>absurd he h)
    .refine b_ (cg_ acc (.mk yo yk ynm yfd yad yn yvk yvi yvf ya) (by omega)) (okA _) (b_ (ax_ (by omega) (by omega)) rfl (s_ rfl ⟨(acc++[_],i+1),⟨by simp;omega,hi,?_⟩,rfl,by simp only;omega⟩))
     intro a ha
     rcases List.mem_append.1 ha with ha|ha
     .exact h3 a ha
     .cases List.mem_singleton.1 ha;exact (hy h).1
   have hi:i=args.length:=by omega
   subst hi
   by_cases hop:15<=op
   .have hop2:op=15\/op=16\/op=17:=by unfold Ari at hA;omega
    have ha1:acc.length=1:=by unfold Ari at hA;omega
    obtain ⟨y,rfl⟩:=List.length_eq_one_iff.1 ha1
    have hy:=h3 y (List.mem_singleton.2 rfl)
    obtain ⟨yo,yk,ynm,yfd,yad,yn,yvk,yvi,yvf,ya⟩:=y
    have n4':op=17->2<=kd/\kd<=5:=n4
    rcases hop2 with rfl|rfl|rfl
    ·(refine h_ rfl rfl ?_ ?_<;>intro h<;>simp only [nc]at h<;>try (exfalso;omega))
     refine b_ (r:=.int .i64 0) rfl rfl (b_ (r:=.int .i64 yk) rfl rfl ?_)
     repeat' (first
               |(refine h_ rfl rfl ?_ ?_<;>intro h<;>simp only [nc]at h<;>try (exfalso;omega))
               |refine c_ (wc_ _) rfl rfl ?_
               |refine c_ (tR_ _) rfl rfl ?_
               |refine z_ (.inr ⟨_,_,_,_,rfl,rfl⟩) ?_
               |refine lg_ rfl (λh=>?_) (λh=>?_)
               |refine b_ (run_eql ..) rfl ?_
               |refine b_ (run_neq ..) rfl ?_)
     all_goals (first
                 |exact gh_ (y:=.mk _ _ _ _ _ _ _ _ _ _) rfl (λhe=>absurd he (by decide))
                 |(refine gh_ (y:=.mk _ _ _ _ _ _ _ _ _ [.mk _ _ _ _ _ _ _ _ _ _]) rfl (λhe=>?_)
                   have he2:=u3_ he
                   simp only [decide_eq_true_eq,Bool.not_eq_true',decide_eq_false_iff_not]at he2
                   refine ⟨TX1 hF hy ?_,rfl,λh=>by omega⟩
                   dsimp only [GX.kd]
                   omega)
                 |(refine gh_ (y:=.mk _ _ _ _ _ _ _ _ _ [.mk _ _ _ _ _ _ _ _ _ _]) rfl (λhe=>?_)
                   refine ⟨TX1 hF hy ?_,rfl,λh=>by omega⟩
                   dsimp only [GX.kd]
                   omega))
    ·(refine h_ rfl rfl ?_ ?_<;>intro h<;>simp only [nc]at h<;>try (exfalso;omega))
     refine b_ (r:=.int .i64 0) rfl rfl (b_ (r:=.int .i64 yk) rfl rfl ?_)
     repeat' (first
               |(refine h_ rfl rfl ?_ ?_<;>intro h<;>simp only [nc]at h<;>try (exfalso;omega))
               |refine c_ (wc_ _) rfl rfl ?_
               |refine c_ (tR_ _) rfl rfl ?_
               |refine z_ (.inr ⟨_,_,_,_,rfl,rfl⟩) ?_
               |refine lg_ rfl (λh=>?_) (λh=>?_)
               |refine b_ (run_eql ..) rfl ?_
               |refine b_ (run_neq ..) rfl ?_)
     all_goals (first
                 |exact gh_ (y:=.mk _ _ _ _ _ _ _ _ _ _) rfl (λhe=>absurd he (by decide))
                 |(refine gh_ (y:=.mk _ _ _ _ _ _ _ _ _ [.mk _ _ _ _ _ _ _ _ _ _]) rfl (λhe=>?_)
                   have he2:=u3_ he
                   simp only [decide_eq_true_eq,Bool.not_eq_true',decide_eq_false_iff_not]at he2
                   refine ⟨TX1 hF hy ?_,rfl,λh=>by omega⟩
                   dsimp only [GX.kd]
                   omega)
                 |(refine gh_ (y:=.mk _ _ _ _ _ _ _ _ _ [.mk _ _ _ _ _ _ _ _ _ _]) rfl (λhe=>?_)
                   refine ⟨TX1 hF hy ?_,rfl,λh=>by omega⟩
                   dsimp only [GX.kd]
                   omega))
    ·(refine h_ rfl rfl ?_ ?_<;>intro h<;>simp only [nc]at h<;>try (exfalso;omega))
     have n5:=n4 rfl
     refine b_ (r:=.int .i64 0) rfl rfl (b_ (r:=.int .i64 yk) rfl rfl ?_)
     repeat' (first
               |(refine h_ rfl rfl ?_ ?_<;>intro h<;>simp only [nc]at h<;>try (exfalso;omega))
               |refine c_ (wc_ _) rfl rfl ?_
               |refine c_ (tR_ _) rfl rfl ?_
               |refine z_ (.inr ⟨_,_,_,_,rfl,rfl⟩) ?_
               |refine lg_ rfl (λh=>?_) (λh=>?_)
               |refine b_ (run_eql ..) rfl ?_
               |refine b_ (run_neq ..) rfl ?_)
     all_goals (first
                 |exact gh_ (y:=.mk _ _ _ _ _ _ _ _ _ _) rfl (λhe=>absurd he (by decide))
                 |(refine gh_ (y:=.mk _ _ _ _ _ _ _ _ _ [.mk _ _ _ _ _ _ _ _ _ _]) rfl (λhe=>?_)
                   have he2:=u3_ he
                   simp only [decide_eq_true_eq,Bool.not_eq_true',decide_eq_false_iff_not]at he2
                   refine ⟨TX1 hF hy ?_,rfl,λh=>by omega⟩
                   dsimp only [GX.kd]
                   omega)
                 |(refine gh_ (y:=.mk _ _ _ _ _ _ _ _ _ [.mk _ _ _ _ _ _ _ _ _ _]) rfl (λhe=>?_)
                   refine ⟨TX1 hF hy ?_,rfl,λh=>by omega⟩
                   dsimp only [GX.kd]
                   omega))
   .have hop2:4<=op/\op<=14:=by unfold Ari at hA;omega
    have ha1:acc.length=2:=by unfold Ari at hA;omega
    obtain ⟨y,z,rfl⟩:∃y z,acc=[y,z]:=by
     rcases acc with _|⟨y,_|⟨z,_|⟨w,t⟩⟩⟩<;>simp at ha1
     exact ⟨y,z,rfl⟩
    have hy:=h3 y (List.mem_cons_self ..)
    have hz:=h3 z (List.mem_cons_of_mem _ (List.mem_singleton.2 rfl))
    obtain ⟨yo,yk,ynm,yfd,yad,yn,yvk,yvi,yvf,ya⟩:=y
    obtain ⟨zo,zk,znm,zfd,zad,zn,zvk,zvi,zvf,za⟩:=z
    (refine h_ rfl rfl ?_ ?_<;>intro h<;>simp only [nc]at h<;>try (exfalso;omega))
    refine b_ (r:=.int .i64 0) rfl rfl (b_ (r:=.int .i64 yk) rfl rfl ?_)
    (refine h_ rfl rfl ?_ ?_<;>intro h<;>simp only [nc]at h<;>try (exfalso;omega));(refine h_ rfl rfl ?_ ?_<;>intro h<;>simp only [nc]at h<;>try (exfalso;omega));(refine h_ rfl rfl ?_ ?_<;>intro h<;>simp only [nc]at h<;>try (exfalso;omega));(refine h_ rfl rfl ?_ ?_<;>intro h<;>simp only [nc]at h<;>try (exfalso;omega))
    (refine h_ rfl rfl ?_ ?_<;>intro h<;>simp only [nc]at h<;>try (exfalso;omega))
    .refine b_ (r:=.int .i64 0) rfl rfl (n_ (cs:=aH_ (.mk yo yk ynm yfd yad yn yvk yvi yvf ya)) rfl rfl (okX _) (b_ (r:=.int .i64 1) rfl rfl (b_ (r:=.int .i64 zk) rfl rfl ?_)))
     obtain ⟨⟨yo1,yk1,ynm1,yfd1,yad1,yn1,yvk1,yvi1,yvf1,ya1⟩,hp1,hy1⟩:=tq_ _ zk hy
     refine c_ hp1 rfl (tl_ _) ?_
     refine b_ (r:=.int .i64 1) rfl rfl (n_ (cs:=aH_ (.mk zo zk znm zfd zad zn zvk zvi zvf za)) rfl rfl (okX _) (b_ (r:=.int .i64 0) rfl rfl (b_ (r:=.int .i64 yk) rfl rfl ?_)))
     obtain ⟨⟨zo1,zk1,znm1,zfd1,zad1,zn1,zvk1,zvi1,zvf1,za1⟩,hp2,hz1⟩:=tq_ _ yk hz
     refine c_ hp2 rfl (tl_ _) ?_
     clear hy hz
     have hy:=hy1
     have hz:=hz1
     refine b_ (r:=.int .i64 0) rfl rfl (b_ (r:=cy_ [.mk yo1 yk1 ynm1 yfd1 yad1 yn1 yvk1 yvi1 yvf1 ya1,.mk zo zk znm zfd zad zn zvk zvi zvf za]) (lS_ [(.mk yo yk ynm yfd yad yn yvk yvi yvf ya),(.mk zo zk znm zfd zad zn zvk zvi zvf za)] (i:=0) (by simp) (.mk yo1 yk1 ynm1 yfd1 yad1 yn1 yvk1 yvi1 yvf1 ya1) .i64) (okA _) (b_ (r:=.int .i64 1) rfl rfl (b_ (r:=cy_ [.mk yo1 yk1 ynm1 yfd1 yad1 yn1 yvk1 yvi1 yvf1 ya1,.mk zo1 zk1 znm1 zfd1 zad1 zn1 zvk1 zvi1 zvf1 za1]) (lS_ [(.mk yo1 yk1 ynm1 yfd1 yad1 yn1 yvk1 yvi1 yvf1 ya1),(.mk zo zk znm zfd zad zn zvk zvi zvf za)] (i:=1) (by simp) (.mk zo1 zk1 znm1 zfd1 zad1 zn1 zvk1 zvi1 zvf1 za1) .i64) (okA _) ?_)))
     refine b_ (r:=.int .i64 0) rfl rfl (b_ (r:=.int .i64 yk1) rfl rfl (b_ (r:=.int .i64 1) rfl rfl (b_ (r:=.int .i64 zk1) rfl rfl ?_)))
     repeat' (first
               |(refine h_ rfl rfl ?_ ?_<;>intro h<;>simp only [nc]at h<;>try (exfalso;omega))
               |refine c_ (wc_ _) rfl rfl ?_
               |refine c_ (tR_ _) rfl rfl ?_
               |refine z_ (.inr ⟨_,_,_,_,rfl,rfl⟩) ?_
               |refine lg_ rfl (λh=>?_) (λh=>?_)
               |refine b_ (run_eql ..) rfl ?_
               |refine b_ (run_neq ..) rfl ?_)
     all_goals (
                refine gh_ (y:=.mk _ _ _ _ _ _ _ _ _ [.mk _ _ _ _ _ _ _ _ _ _,.mk _ _ _ _ _ _ _ _ _ _]) rfl (λhe=>?_)
                have he2:=u3_ he
                first
                 |(exact absurd he2 (by decide))
                 |(simp only [decide_eq_true_eq,Bool.not_eq_true',decide_eq_false_iff_not]at he2
                   exact ⟨TX2 hF hy hz (by omega) (by dsimp only [GX.kd];omega) (by dsimp only [GX.kd];omega) (by omega) (by dsimp only [GX.kd];omega) (by dsimp only [GX.kd];omega) (by dsimp only [GX.kd];omega),rfl,λh=>by omega⟩))
    .refine b_ (r:=.int .i64 1) rfl rfl (b_ (r:=.int .i64 zk) rfl rfl ?_)
     repeat' (first
               |(refine h_ rfl rfl ?_ ?_<;>intro h<;>simp only [nc]at h<;>try (exfalso;omega))
               |refine c_ (wc_ _) rfl rfl ?_
               |refine c_ (tR_ _) rfl rfl ?_
               |refine z_ (.inr ⟨_,_,_,_,rfl,rfl⟩) ?_
               |refine lg_ rfl (λh=>?_) (λh=>?_)
               |refine b_ (run_eql ..) rfl ?_
               |refine b_ (run_neq ..) rfl ?_)
     all_goals (
                refine gh_ (y:=.mk _ _ _ _ _ _ _ _ _ [.mk _ _ _ _ _ _ _ _ _ _,.mk _ _ _ _ _ _ _ _ _ _]) rfl (λhe=>?_)
                have he2:=u3_ he
                first
                 |(exact absurd he2 (by decide))
                 |(simp only [decide_eq_true_eq,Bool.not_eq_true',decide_eq_false_iff_not]at he2
                   exact ⟨TX2 hF hy hz (by omega) (by dsimp only [GX.kd];omega) (by dsimp only [GX.kd];omega) (by omega) (by dsimp only [GX.kd];omega) (by dsimp only [GX.kd];omega) (by dsimp only [GX.kd];omega),rfl,λh=>by omega⟩))
end Go.Proofs.YtjconanknjgpnaaGreat.vars
set_option linter.unusedVariables false
set_option linter.unusedSimpArgs false
namespace Go.Proofs.YtjconanknjgpnaaGreat.vars
open Go Go.Sx
structure FV where
 k:Int
 i:Int
 f:Option Nat
def FV.z:FV:=⟨0,0,some 0⟩
def aj_ (v:FV):List AV:=[.int .i64 v.k,.int .i64 v.i,fv v.f]
theorem ld_ (v:FV):(aj_ v).length=3:=rfl
theorem okV (v:FV):B_ (aj_ v)=true:=by
 simp only [aj_,B_,I_,c7_]
def InK (k i:Int):Prop:=(k=1/\0<=i/\i<=1)\/(k=2/\ -32768<=i/\i<=32767)\/(k=3/\ -2147483648<=i/\i<=2147483647)\/(k=4/\ -9223372036854775808<=i/\i<=9223372036854775807)\/(k=5/\i=0)
def TV (v:FV):Prop:=InK v.k v.i/\(v.k≠5->v.f=some 0)
theorem InK.kd {k i:Int} (h:InK k i):1<=k/\k<=5:=by
 rcases h with h|h|h|h|h<;>omega
theorem InK.i64 {k i:Int} (h:InK k i): -9223372036854775808<=i/\i<=9223372036854775807:=by
 rcases h with h|h|h|h|h<;>omega
def bV_ (k i:Int):Int:=if k=1 then (if i=0 then 0 else 1)else if k=2 then IntKind.i16.wrap i else if k=3 then IntKind.i32.wrap i else if k=4 then i else 0
theorem lZ_ (i:Int): -32768<=IntKind.i16.wrap i/\IntKind.i16.wrap i<=32767:=by
 simp [IntKind.wrap,IntKind.bits,IntKind.signed];omega
theorem lB_ (i:Int): -2147483648<=IntKind.i32.wrap i/\IntKind.i32.wrap i<=2147483647:=by
 simp [IntKind.wrap,IntKind.bits,IntKind.signed];omega
theorem lJ_ (i:Int): -9223372036854775808<=IntKind.i64.wrap i/\IntKind.i64.wrap i<=9223372036854775807:=by
 simp [IntKind.wrap,IntKind.bits,IntKind.signed];omega
theorem sD_ {i:Int} (h1: -32768<=i) (h2:i<=32767):IntKind.i16.wrap i=i:=by
 simp [IntKind.wrap,IntKind.bits,IntKind.signed];omega
theorem s6_ {i:Int} (h1: -2147483648<=i) (h2:i<=2147483647):IntKind.i32.wrap i=i:=by
 simp [IntKind.wrap,IntKind.bits,IntKind.signed];omega
theorem k4_ {k i:Int} (h1:1<=k) (h2:k<=4) (h3: -9223372036854775808<=i) (h4:i<=9223372036854775807):InK k (bV_ k i):=by
 have a:=lZ_ i
 have b:=lB_ i
 unfold InK bV_
 rcases (by omega:k=1\/k=2\/k=3\/k=4)with rfl|rfl|rfl|rfl
 .simp only [if_true]
  split
  .exact .inl ⟨trivial,by decide,by decide⟩
  .exact .inl ⟨trivial,by decide,by decide⟩
 .exact .inr (.inl ⟨rfl,a⟩)
 .exact .inr (.inr (.inl ⟨rfl,b⟩))
 .exact .inr (.inr (.inr (.inl ⟨rfl,h3,h4⟩)))
theorem n8_ {k i:Int} (h:InK k i) (hk:k≠5):bV_ k i=i:=by
 unfold bV_
 rcases h with ⟨rfl,h,h'⟩|⟨rfl,h,h'⟩|⟨rfl,h,h'⟩|⟨rfl,h,h'⟩|⟨rfl,h⟩
 .simp only [if_true]
  split<;>omega
 .simp [sD_ h h']
 .simp [s6_ h h']
 .simp
 .exact absurd rfl hk
def tI (b:Bool):Int:=if b=true then 1 else 0
def w64 (i:Int):Int:=IntKind.i64.wrap i
def lh_ (op k a b:Int):Int:=
 if op=4 then bV_ k (w64 (a+b))else if op=5 then bV_ k (w64 (a-b))else if op=6 then bV_ k (w64 (a*b))else if op=7 then bV_ k (w64 (a.tdiv b))else if op=8 then bV_ k (a.tmod b)
 else if op=9 then tI (decide (a=b))else if op=10 then tI (decide (¬a=b))else if op=11 then tI (decide (a<b))else if op=12 then tI (decide (a<=b))
 else if op=13 then tI (decide (¬a=0)&&decide (¬b=0))else if op=14 then tI (decide (¬a=0)||decide (¬b=0))else if op=15 then tI (decide (a=0))else bV_ k (w64 (0-a))
def gN_ (op b:Int):Int:=if (op=7\/op=8)/\b=0 then 5 else 0
def OpK (op k:Int):Prop:=4<=op/\op<=16/\1<=k/\k<=5/\(op<=8\/op=16\/op=11\/op=12->k≠1)/\(op=8->k≠5)/\(13<=op/\op<=15->k=1)
theorem ht_ (b:Bool):InK 1 (tI b):=by
 cases b
 .exact .inl ⟨rfl,by decide,by decide⟩
 .exact .inl ⟨rfl,by decide,by decide⟩
theorem xB_ {k a b:Int} (h:InK k a) (hk:k≠5) (hk1:k≠1):InK k (a.tmod b):=by
 have h1:(a.tmod b).natAbs<=a.natAbs:=by
  rw [Int.natAbs_tmod]
  exact Nat.mod_le _ _
 have h2:0<=a->0<=a.tmod b:=λh=>Int.tmod_nonneg _ h
 have h3:¬(a<0/\0<a.tmod b):=λ⟨p,q⟩=>by
  have:=Int.tmod_nonneg (a:= -a) b (by omega)
  rw [Int.neg_tmod]at this
  omega
 rcases h with h|h|h|h|h
 .omega
 .exact .inr (.inl (by omega))
 .exact .inr (.inr (.inl (by omega)))
 .exact .inr (.inr (.inr (.inl (by omega))))
 .omega
theorem w4_ {op k a b:Int} (h:OpK op k) (hk:k≠5) (ha:InK k a):InK (if 9<=op/\op<=12 then 1 else k) (lh_ op k a b):=by
 obtain ⟨h1,h2,h3,h4,h5,h6,h7⟩:=h
 have hw:∀i,InK k (bV_ k (w64 i)):=λi=>k4_ h3 (by omega) (lJ_ i).1 (lJ_ i).2
 unfold lh_
 by_cases c4:op=4
 .subst c4;simp only [if_true,if_false,show ¬((9:Int)<=4/\(4:Int)<=12) by omega];exact hw _
 rw [if_neg c4]
 by_cases c5:op=5
 .subst c5;simp only [if_true,if_false,show ¬((9:Int)<=5/\(5:Int)<=12) by omega];exact hw _
 rw [if_neg c5]
 by_cases c6:op=6
 .subst c6;simp only [if_true,if_false,show ¬((9:Int)<=6/\(6:Int)<=12) by omega];exact hw _
 rw [if_neg c6]
 by_cases c7:op=7
 .subst c7;simp only [if_true,if_false,show ¬((9:Int)<=7/\(7:Int)<=12) by omega];exact hw _
 rw [if_neg c7]
 by_cases c8:op=8
 .subst c8
  simp only [if_true,if_false,show ¬((9:Int)<=8/\(8:Int)<=12) by omega]
  have:=xB_ (b:=b) ha hk (h5 (by omega))
  rw [n8_ this hk]
  exact this
 rw [if_neg c8]
 by_cases c9:op=9
 .subst c9;simp only [if_true,show ((9:Int)<=9/\(9:Int)<=12) by omega];exact ht_ _
 rw [if_neg c9]
 by_cases c10:op=10
 .subst c10;simp only [if_true,show ((9:Int)<=10/\(10:Int)<=12) by omega];exact ht_ _
 rw [if_neg c10]
 by_cases c11:op=11
 .subst c11;simp only [if_true,show ((9:Int)<=11/\(11:Int)<=12) by omega];exact ht_ _
 rw [if_neg c11]
 by_cases c12:op=12
 .subst c12;simp only [if_true,show ((9:Int)<=12/\(12:Int)<=12) by omega];exact ht_ _
 rw [if_neg c12,if_neg (show ¬(9<=op/\op<=12) by omega)]
 by_cases c13:op=13
 .rw [if_pos c13,h7 (by omega)];exact ht_ _
 rw [if_neg c13]
 by_cases c14:op=14
 .rw [if_pos c14,h7 (by omega)];exact ht_ _
 rw [if_neg c14]
 by_cases c15:op=15
 .rw [if_pos c15,h7 (by omega)];exact ht_ _
 rw [if_neg c15]
 exact hw _
def Ax_ (op:Int) (o:Option Ordering):Bool:=if op=9 then o==some .eq else if op=10 then o !=some .eq else if op=11 then o==some .lt else o==some .lt||o==some .eq
def l1_ (op:Int) (a b:Option Nat):FV:=
 if op=4 then ⟨5,0,bt_ FloatKind.f64.format.add a b⟩else if op=5 then ⟨5,0,bt_ FloatKind.f64.format.sub a b⟩else if op=6 then ⟨5,0,bt_ FloatKind.f64.format.mul a b⟩else if op=7 then ⟨5,0,bt_ FloatKind.f64.format.div a b⟩
 else if op=16 then ⟨5,0,a.map (Op.negFloat .f64)⟩else ⟨1,tI (Ax_ op (ordF a b)),some 0⟩
def opV (op k:Int) (a b:FV):FV:=if k=5 then l1_ op a.f b.f else ⟨if 9<=op/\op<=12 then 1 else k,lh_ op k a.i b.i,some 0⟩
def opE (op k:Int) (b:FV):Int:=if k=5 then 0 else gN_ op b.i
theorem t6_ (op:Int) (a b:Option Nat):TV (l1_ op a b):=by
 have r:∀f,TV ⟨5,0,f⟩:=λf=>⟨.inr (.inr (.inr (.inr ⟨rfl,rfl⟩))),λh=>absurd rfl h⟩
 unfold l1_
 split;· exact r _
 split;· exact r _
 split;· exact r _
 split;· exact r _
 split;· exact r _
 exact ⟨ht_ _,λ_=>rfl⟩
theorem yR_ {op k:Int} {a b:FV} (h:OpK op k) (ha:TV a) (hk:a.k=k):TV (opV op k a b):=by
 unfold opV
 split
 .exact t6_ ..
 .rename_i h5
  exact ⟨w4_ h h5 (hk▸ha.1),λ_=>rfl⟩
theorem zY_ {op k:Int} {a b:FV} (h:OpK op k):(opV op k a b).k=if (9<=op/\op<=12)then 1 else k:=by
 obtain ⟨h1,h2,h3,h4,h5,h6,h7⟩:=h
 unfold opV
 split
 .rename_i e
  unfold l1_
  split;· rw [if_neg (by omega),e]
  split;· rw [if_neg (by omega),e]
  split;· rw [if_neg (by omega),e]
  split;· rw [if_neg (by omega),e]
  split;· rw [if_neg (by omega),e]
  rw [if_pos (by omega)]
 .rfl
def hiK (k:Int):Nat:=if k=2 then 4674736413210574848 else if k=3 then 4746794007248502784 else 4890909195324358656
def loK (k:Int):Nat:=if k=2 then 13898108450065350656 else if k=3 then 13970166044103278592 else 14114281232179134464
def b8_ (k:Int) (f:Option Nat):Option Int:=
 if eH_ f=true then none else if ordF (bQ_ f) (some (loK k))=some .lt then none else if ordF (bQ_ f) (some (hiK k))=some .lt then qD_ (bQ_ f)else none
theorem lW_ {k:Int} {f:Option Nat} {n:Int} (hk:2<=k/\k<=4) (h:b8_ k f=some n):InK k n:=by
 unfold b8_ at h
 split at h;· cases h
 split at h;· cases h
 rename_i h1
 split at h
 .rename_i h2
  rcases (by omega:k=2\/k=3\/k=4)with rfl|rfl|rfl
  .obtain ⟨m,e,a,b⟩:=bI_ (k:=15) (j:= -37) rfl (by kernel_rfl) (by kernel_rfl) h1 h2
   rw [h]at e;cases e
   exact .inr (.inl ⟨rfl,by omega,by omega⟩)
  .obtain ⟨m,e,a,b⟩:=bI_ (k:=31) (j:= -21) rfl (by kernel_rfl) (by kernel_rfl) h1 h2
   rw [h]at e;cases e
   exact .inr (.inr (.inl ⟨rfl,by omega,by omega⟩))
  .obtain ⟨m,e,a,b⟩:=bI_ (k:=63) (j:=11) rfl (by kernel_rfl) (by kernel_rfl) h1 h2
   rw [h]at e;cases e
   exact .inr (.inr (.inr (.inl ⟨rfl,by omega,by omega⟩)))
 .cases h
def e2_ (kd:Int) (v:FV):Except Int FV:=
 if kd=5 then (if v.k=5 then .ok v else .ok ⟨5,0,some (FloatKind.f64.nearest v.i)⟩)
 else if v.k=5 then (match b8_ kd v.f with|some n=>.ok ⟨kd,n,some 0⟩|none=>.error 7)
 else .ok ⟨kd,bV_ kd v.i,some 0⟩
theorem vv_ {kd:Int} {v w:FV} (hk:2<=kd/\kd<=5) (hv:TV v) (h:e2_ kd v=.ok w):TV w/\w.k=kd:=by
 unfold e2_ at h
 split at h
 .rename_i e
  split at h
  .rename_i e'
   cases h
   exact ⟨hv,by omega⟩
  .cases h
   exact ⟨⟨.inr (.inr (.inr (.inr ⟨rfl,rfl⟩))),λh=>absurd rfl h⟩,e.symm⟩
 .split at h
  .split at h
   .rename_i n hn
    cases h
    exact ⟨⟨lW_ (k:=kd) (by omega) hn,λ_=>rfl⟩,rfl⟩
   .cases h
  .cases h
   have:=hv.1.i64
   exact ⟨⟨k4_ (k:=kd) (by omega) (by omega) this.1 this.2,λ_=>rfl⟩,rfl⟩
end Go.Proofs.YtjconanknjgpnaaGreat.vars
set_option maxRecDepth 100000
set_option linter.unusedVariables false
set_option linter.unusedSimpArgs false
namespace Go.Proofs.YtjconanknjgpnaaGreat.vars
open Go Go.Sx
def BR_:VC:=⟨⟨[],[]⟩,[],[],0,true,[]⟩
def zX_:VT:=
 (.ite 64
 (.done (J 1))
 (.done (J 0)))
def CI_:VC:=⟨⟨[],[]⟩,[],[],0,true,[]⟩
def z1_:VT:=
 (.lt Q0 [64,J 9] 67 none
 (.ite 67
 (.lt Qn [65,66] 68 none
 (.done (.tup [.bool true,68])))
 (.lt Q0 [64,J 10] 68 none
 (.ite 68
 (.lt Zt [65,66] 69 none
 (.done (.tup [.bool true,69])))
 (.lt Q0 [64,J 11] 69 none
 (.ite 69
 (.lt U1 [65,66] 70 none
 (.done (.tup [.bool true,70])))
 (.lt Q0 [64,J 12] 70 none
 (.ite 70
 (.lt Zl [65,66] 71 none
 (.done (.tup [.bool true,71])))
 (.done (.tup [.bool false,.bool false]))))))))))
def Cv_:VC:=⟨⟨[],[]⟩,[(160,[none])],[],0,true,[]⟩
def zD_:VT:=
 (.lt Q0 [64,J 13] 67 none
 (.ite 67
 (.lt Q8 [65,J 0] 68 none
 (.ite 68
 (.lt Q8 [66,J 0] 69 none
 (.call 160 [69] 70 [none]
 (.done (70))))
 (.call 160 [.bool false] 69 [none]
 (.done (69)))))
 (.lt Q0 [64,J 14] 68 none
 (.ite 68
 (.lt Q8 [65,J 0] 69 none
 (.ite 69
 (.call 160 [.bool true] 70 [none]
 (.done (70)))
 (.lt Q8 [66,J 0] 70 none
 (.call 160 [70] 71 [none]
 (.done (71))))))
 (.lt Q0 [64,J 15] 69 none
 (.ite 69
 (.lt Qs [65,J 0] 70 none
 (.call 160 [70] 71 [none]
 (.done (71))))
 (.done (J 0))))))))
def BE_:VC:=⟨⟨[],[]⟩,[(160,[none])],[],0,true,[]⟩
def zL_:VT:=
 (.lt Q0 [64,J 1] 66 none
 (.ite 66
 (.lt Q8 [65,J 0] 67 none
 (.call 160 [67] 68 [none]
 (.done (68))))
 (.lt Q0 [64,J 2] 67 none
 (.ite 67
 (.lt (.conv 2 206) [65] 68 none
 (.lt (.conv 206 2) [68] 69 none
 (.done (69))))
 (.lt Q0 [64,J 3] 68 none
 (.ite 68
 (.lt (.conv 2 21) [65] 69 none
 (.lt (.conv 21 2) [69] 70 none
 (.done (70))))
 (.lt Q0 [64,J 4] 69 none
 (.ite 69
 (.done (65))
 (.done (J 0))))))))))
def Co_:VC:=⟨⟨[],[]⟩,[],[],0,true,[]⟩
def AO_:VT:=
 (.done (.tup [J 0,64]))
def BM_:VC:=⟨⟨[],[]⟩,[],[],0,true,[(163,ft163)]⟩
def zU_:VT:=
 (.lt Qs [66,J 0] 67 none
 (.ite 67
 (.callF 163 ft163 [J 5] 68
 (.cons 1
 (.done (.tup [J 1,69]))
 .nil))
 (.lt Q0 [64,J 8] 68 none
 (.ite 68
 (.lt Zb [65,66] 69 none
 (.done (.tup [J 0,69])))
 (.lt Zu [65,66] 69 none
 (.done (.tup [J 0,69])))))))
def CF_:VC:=⟨⟨[],[]⟩,[],[],0,true,[(163,ft163),(179,rW_)]⟩
def AV_:VT:=
 (.lt Q0 [64,J 4] 67 none
 (.ite 67
 (.lt Zm [65,66] 68 none
 (.done (.tup [J 0,68])))
 (.lt Q0 [64,J 5] 68 none
 (.ite 68
 (.lt Z3 [65,66] 69 none
 (.done (.tup [J 0,69])))
 (.lt Q0 [64,J 6] 69 none
 (.ite 69
 (.lt U2 [65,66] 70 none
 (.done (.tup [J 0,70])))
 (.lt Q0 [64,J 16] 70 none
 (.ite 70
 (.lt Z1 [65] 71 none
 (.done (.tup [J 0,71])))
 (.lt Q0 [64,J 7] 71 none
 (.ite 71
 (.callF 179 rW_ [64,65,66] 72
 (.cons 1
 (.done (.tup [J 0,75]))
 (.cons 1
 (.done (.tup [J 1,75]))
 .nil)))
 (.lt Q0 [64,J 8] 72 none
 (.ite 72
 (.callF 179 rW_ [64,65,66] 73
 (.cons 1
 (.done (.tup [J 0,76]))
 (.cons 1
 (.done (.tup [J 1,76]))
 .nil)))
 (.callF 163 ft163 [J 4] 73
 (.cons 1
 (.done (.tup [J 1,74]))
 .nil))))))))))))))
def yx_:VC:=⟨⟨[],[]⟩,[(162,[none,none]),(164,[none]),(160,[none]),(123,[none])],[],0,true,[(163,ft163),(165,ft165)]⟩
def u7_:VT:=
 (.call 162 [64,65,66] 67 [none,none]
 (.lt Q0 [64,J 13] 69 none
 (.ite 69
 (.call 164 [64,65,66] 70 [none]
 (.done (.tup [70,J 0])))
 (.lt Q0 [64,J 14] 70 none
 (.ite 70
 (.call 164 [64,65,66] 71 [none]
 (.done (.tup [71,J 0])))
 (.lt Q0 [64,J 15] 71 none
 (.ite 71
 (.call 164 [64,65,66] 72 [none]
 (.done (.tup [72,J 0])))
 (.lt Q3 [64,J 9] 72 none
 (.ite 72
 (.lt Q3 [64,J 10] 73 none
 (.ite 73
 (.callF 163 ft163 [J 4] 74
 (.cons 1
 (.done (.tup [J 0,75]))
 .nil))
 (.ite 67
 (.call 160 [68] 74 [none]
 (.done (.tup [74,J 0])))
 (.callF 165 ft165 [64,65,66] 74
 (.cons 1
 (.call 123 [J 1,77] 78 [none]
 (.done (.tup [78,J 0])))
 (.cons 1
 (.done (.tup [J 0,77]))
 .nil))))))
 (.ite 67
 (.call 160 [68] 73 [none]
 (.done (.tup [73,J 0])))
 (.callF 165 ft165 [64,65,66] 73
 (.cons 1
 (.call 123 [J 1,76] 77 [none]
 (.done (.tup [77,J 0])))
 (.cons 1
 (.done (.tup [J 0,76]))
 .nil)))))))))))))
def y0_:VC:=⟨⟨[],[]⟩,[(162,[none,none]),(164,[none]),(160,[none]),(123,[none])],[],0,true,[(163,ft163),(165,ft165)]⟩
def vP_:VT:=
 (.call 162 [64,65,66] 67 [none,none]
 (.ite 67
 (.call 160 [68] 69 [none]
 (.done (.tup [69,J 0])))
 (.callF 165 ft165 [64,65,66] 69
 (.cons 1
 (.call 123 [J 2,72] 73 [none]
 (.done (.tup [73,J 0])))
 (.cons 1
 (.done (.tup [J 0,72]))
 .nil)))))
def yq_:VC:=⟨⟨[],[]⟩,[(162,[none,none]),(164,[none]),(160,[none]),(123,[none])],[],0,true,[(163,ft163),(165,ft165)]⟩
def vQ_:VT:=
 (.call 162 [64,65,66] 67 [none,none]
 (.ite 67
 (.call 160 [68] 69 [none]
 (.done (.tup [69,J 0])))
 (.callF 165 ft165 [64,65,66] 69
 (.cons 1
 (.call 123 [J 3,72] 73 [none]
 (.done (.tup [73,J 0])))
 (.cons 1
 (.done (.tup [J 0,72]))
 .nil)))))
def yT_:VC:=⟨⟨[],[]⟩,[(162,[none,none]),(164,[none]),(160,[none]),(123,[none])],[],0,true,[(163,ft163),(165,ft165)]⟩
def v2_:VT:=
 (.call 162 [64,65,66] 67 [none,none]
 (.ite 67
 (.call 160 [68] 69 [none]
 (.done (.tup [69,J 0])))
 (.callF 165 ft165 [64,65,66] 69
 (.cons 1
 (.call 123 [J 4,72] 73 [none]
 (.done (.tup [73,J 0])))
 (.cons 1
 (.done (.tup [J 0,72]))
 .nil)))))
theorem kx_ (b:Bool):V_ Tryz.prog 160 [.bool b] (.int .i64 (tI b)):=by
 refine D_ (sh:=[none]) (ls:=[.bool b]) (c:=BR_) (n:=300) (t:=zX_) mo ov rfl rfl rfl (λY _=>l_ _) rfl (by kernel_rfl) λY hf hg=>?_
 unfold zX_
 cases b
 .exact f_ (t:=false) rfl (λh=>by cases h) (λh=>d_ rfl)
 .exact f_ (t:=true) rfl (λh=>d_ rfl) (λh=>by cases h)
def sz_ (op a b:Int):Bool:=if op=9 then decide (a=b)else if op=10 then decide (¬a=b)else if op=11 then decide (a<b)else if op=12 then decide (a<=b)else false
theorem xi_ (op a b:Int):V_ Tryz.prog 162 [.int .i64 op,.int .i64 a,.int .i64 b] (.tup [.bool (decide (9<=op/\op<=12)),.bool (sz_ op a b)]):=by
 refine D_ (sh:=[none,none,none]) (ls:=[.int .i64 op,.int .i64 a,.int .i64 b]) (c:=CI_) (n:=300) (t:=z1_) mo ov rfl rfl rfl (λY _=>l_ _) rfl (by kernel_rfl) λY hf hg=>?_
 unfold z1_
 (refine h_ rfl rfl ?_ ?_<;>intro h<;>simp only [nc]at h<;>try (exfalso;omega))
 .subst h;exact b_ (run_eql ..) rfl (d_ (by rfl))
 (refine h_ rfl rfl ?_ ?_<;>intro h<;>simp only [nc]at h<;>try (exfalso;omega))
 .subst h;exact b_ (run_neq ..) rfl (d_ (by rw [show sz_ 10 a b=decide (¬a=b) from rfl];simp;rfl))
 (refine h_ rfl rfl ?_ ?_<;>intro h<;>simp only [nc]at h<;>try (exfalso;omega))
 .subst h;exact b_ (run_lss ..) rfl (d_ (by rfl))
 (refine h_ rfl rfl ?_ ?_<;>intro h<;>simp only [nc]at h<;>try (exfalso;omega))
 .subst h;exact b_ (run_leq ..) rfl (d_ (by rfl))
 refine d_ ?_
 have e1:decide (9<=op/\op<=12)=false:=decide_eq_false (by omega)
 have e2:sz_ op a b=false:=by unfold sz_;simp only [*,if_false]
 rw [e1,e2]
 rfl
theorem yW_ (op a b:Int) (ho:13<=op/\op<=15):V_ Tryz.prog 164 [.int .i64 op,.int .i64 a,.int .i64 b] (.int .i64 (lh_ op 1 a b)):=by
 refine D_ (sh:=[none,none,none]) (ls:=[.int .i64 op,.int .i64 a,.int .i64 b]) (c:=Cv_) (n:=300) (t:=zD_) mo ov rfl rfl rfl (λY _=>l_ _) rfl (by kernel_rfl) λY hf hg=>?_
 unfold zD_
 (refine h_ rfl rfl ?_ ?_<;>intro h<;>simp only [nc]at h<;>try (exfalso;omega))
 .subst h
  have e:lh_ 13 1 a b=tI (decide (¬a=0)&&decide (¬b=0)):=rfl
  rw [e]
  (refine h_ rfl rfl ?_ ?_<;>intro h<;>simp only [nc]at h<;>try (exfalso;omega))
  .refine b_ (run_neq ..) rfl (c_ (kx_ _) rfl rfl (d_ ?_))
   rw [decide_eq_true h,Bool.true_and]
   by_cases hb:b=0<;>simp [hb]<;>rfl
  .rw [decide_eq_false (by omega),Bool.false_and]
   exact c_ (kx_ false) rfl rfl (d_ rfl)
 (refine h_ rfl rfl ?_ ?_<;>intro h<;>simp only [nc]at h<;>try (exfalso;omega))
 .subst h
  have e:lh_ 14 1 a b=tI (decide (¬a=0)||decide (¬b=0)):=rfl
  rw [e]
  (refine h_ rfl rfl ?_ ?_<;>intro h<;>simp only [nc]at h<;>try (exfalso;omega))
  .rw [decide_eq_true h,Bool.true_or]
   exact c_ (kx_ true) rfl rfl (d_ rfl)
  .refine b_ (run_neq ..) rfl (c_ (kx_ _) rfl rfl (d_ ?_))
   rw [decide_eq_false (p:=¬a=0) (by omega),Bool.false_or]
   by_cases hb:b=0<;>simp [hb]<;>rfl
 (refine h_ rfl rfl ?_ ?_<;>intro h<;>simp only [nc]at h<;>try (exfalso;omega))
 subst h
 exact b_ (run_eql ..) rfl (c_ (kx_ _) rfl rfl (d_ rfl))
theorem Cj_ (i:Int):(XOp.conv 2 206).run Tryz.prog [.int .i64 i]=some (.int .i16 (IntKind.i16.wrap i)):=bh_ Tryz.underlying2 Tryz.underlying206 i
theorem AU_ (i:Int):(XOp.conv 206 2).run Tryz.prog [.int .i16 (IntKind.i16.wrap i)]=some (.int .i64 (IntKind.i16.wrap i)):=by
 have:=lZ_ i
 rw [bh_ Tryz.underlying206 Tryz.underlying2,cH_ (by omega) (by omega)]
theorem BF_ (i:Int):(XOp.conv 2 21).run Tryz.prog [.int .i64 i]=some (.int .i32 (IntKind.i32.wrap i)):=bh_ Tryz.underlying2 Tryz.underlying21 i
theorem An_ (i:Int):(XOp.conv 21 2).run Tryz.prog [.int .i32 (IntKind.i32.wrap i)]=some (.int .i64 (IntKind.i32.wrap i)):=by
 have:=lB_ i
 rw [bh_ Tryz.underlying21 Tryz.underlying2,cH_ (by omega) (by omega)]
theorem wr_ (k i:Int):V_ Tryz.prog 123 [.int .i64 k,.int .i64 i] (.int .i64 (bV_ k i)):=by
 refine D_ (sh:=[none,none]) (ls:=[.int .i64 k,.int .i64 i]) (c:=BE_) (n:=300) (t:=zL_) mo ov rfl rfl rfl (λY _=>l_ _) rfl (by kernel_rfl) λY hf hg=>?_
 unfold zL_
 (refine h_ rfl rfl ?_ ?_<;>intro h<;>simp only [nc]at h<;>try (exfalso;omega))
 .subst h
  refine b_ (run_neq ..) rfl (c_ (kx_ _) rfl rfl (d_ ?_))
  by_cases hi:i=0<;>simp [hi,bV_,tI]<;>rfl
 (refine h_ rfl rfl ?_ ?_<;>intro h<;>simp only [nc]at h<;>try (exfalso;omega))
 .subst h
  exact b_ (Cj_ i) rfl (b_ (AU_ i) rfl (d_ rfl))
 (refine h_ rfl rfl ?_ ?_<;>intro h<;>simp only [nc]at h<;>try (exfalso;omega))
 .subst h
  exact b_ (BF_ i) rfl (b_ (An_ i) rfl (d_ rfl))
 (refine h_ rfl rfl ?_ ?_<;>intro h<;>simp only [nc]at h<;>try (exfalso;omega))
 .subst h
  exact d_ rfl
 .refine d_ ?_
  have:bV_ k i=0:=by unfold bV_;simp only [*,if_false]
  rw [this]
  rfl
def RF (e:Int):Nat->List AV->Prop:=λj ws=>j=0/\ws=[.int .i64 e]
theorem BU_ (e:Int):CF Tryz.prog 163 ft163 [.int .i64 e] (RF e):=by
 refine A_ (c:=Co_) (n:=300) (t:=AO_) mo ov rfl (λY _=>l_ _) (by kernel_rfl) λY hf hg=>?_
 unfold AO_
 exact VOK_fin rfl ⟨rfl,rfl⟩
def ofV (op a b:Int):Int:=if op=4 then w64 (a+b)else if op=5 then w64 (a-b)else if op=6 then w64 (a*b)else if op=16 then w64 (0-a)else if op=7 then w64 (a.tdiv b)else a.tmod b
theorem mW_ {op k a b:Int} (h:(4<=op/\op<=8)\/op=16):lh_ op k a b=bV_ k (ofV op a b):=by
 rcases (by omega:op=4\/op=5\/op=6\/op=7\/op=8\/op=16)with rfl|rfl|rfl|rfl|rfl|rfl<;>rfl
def RO (op a b:Int):Nat->List AV->Prop:=λj ws=>(j=0/\gN_ op b=0/\ws=[.int .i64 (ofV op a b)])\/(j=1/\gN_ op b=5/\ws=[.int .i64 5])
theorem zJ_ (op a b:Int) (ho:op=7\/op=8):CF Tryz.prog 179 rW_ [.int .i64 op,.int .i64 a,.int .i64 b] (RO op a b):=by
 refine A_ (c:=BM_) (n:=300) (t:=zU_) mo ov rfl (λY _=>l_ _) (by kernel_rfl) λY hf hg=>?_
 unfold zU_
 (refine h_ rfl rfl ?_ ?_<;>intro h<;>simp only [nc]at h<;>try (exfalso;omega))
 .subst h
  refine o_ (BU_ 5) rfl ⟨?_,trivial⟩
  rintro ws ⟨_,rfl⟩
  refine VOK_fin rfl (.inr ⟨rfl,?_,rfl⟩)
  unfold gN_
  rw [if_pos ⟨ho,rfl⟩]
 have hb:gN_ op b=0:=by unfold gN_;rw [if_neg (by omega)]
 (refine h_ rfl rfl ?_ ?_<;>intro h<;>simp only [nc]at h<;>try (exfalso;omega))
 .subst h
  exact b_ (jL_ (by omega) ..) rfl (VOK_fin rfl (.inl ⟨rfl,hb,rfl⟩))
 .obtain rfl:op=7:=by omega
  exact b_ (wK_ (by omega) ..) rfl (VOK_fin rfl (.inl ⟨rfl,hb,rfl⟩))
theorem yL_ (op a b:Int) (ho:(4<=op/\op<=8)\/op=16):CF Tryz.prog 165 ft165 [.int .i64 op,.int .i64 a,.int .i64 b] (RO op a b):=by
 refine A_ (c:=CF_) (n:=300) (t:=AV_) mo ov rfl (λY _=>l_ _) (by kernel_rfl) λY hf hg=>?_
 unfold AV_
 (refine h_ rfl rfl ?_ ?_<;>intro h<;>simp only [nc]at h<;>try (exfalso;omega))
 .subst h;exact b_ (run_add ..) rfl (VOK_fin rfl (.inl ⟨rfl,rfl,rfl⟩))
 (refine h_ rfl rfl ?_ ?_<;>intro h<;>simp only [nc]at h<;>try (exfalso;omega))
 .subst h;exact b_ (run_sub ..) rfl (VOK_fin rfl (.inl ⟨rfl,rfl,rfl⟩))
 (refine h_ rfl rfl ?_ ?_<;>intro h<;>simp only [nc]at h<;>try (exfalso;omega))
 .subst h;exact b_ (run_mul ..) rfl (VOK_fin rfl (.inl ⟨rfl,rfl,rfl⟩))
 (refine h_ rfl rfl ?_ ?_<;>intro h<;>simp only [nc]at h<;>try (exfalso;omega))
 .subst h;exact b_ (wZ_ ..) rfl (VOK_fin rfl (.inl ⟨rfl,rfl,rfl⟩))
 (refine h_ rfl rfl ?_ ?_<;>intro h<;>simp only [nc]at h<;>try (exfalso;omega))
 .subst h
  refine o_ (zJ_ 7 a b (.inl rfl)) rfl ⟨?_,?_,trivial⟩
  .rintro ws (⟨_,h1,rfl⟩|⟨h0,_⟩)
   .exact VOK_fin rfl (.inl ⟨rfl,h1,rfl⟩)
   .cases h0
  .rintro ws (⟨h0,_⟩|⟨_,h1,rfl⟩)
   .cases h0
   .exact VOK_fin rfl (.inr ⟨rfl,h1,rfl⟩)
 (refine h_ rfl rfl ?_ ?_<;>intro h<;>simp only [nc]at h<;>try (exfalso;omega))
 .subst h
  refine o_ (zJ_ 8 a b (.inr rfl)) rfl ⟨?_,?_,trivial⟩
  .rintro ws (⟨_,h1,rfl⟩|⟨h0,_⟩)
   .exact VOK_fin rfl (.inl ⟨rfl,h1,rfl⟩)
   .cases h0
  .rintro ws (⟨h0,_⟩|⟨_,h1,rfl⟩)
   .cases h0
   .exact VOK_fin rfl (.inr ⟨rfl,h1,rfl⟩)
def dk_ (op k a b:Int):Int:=if gN_ op b=0 then lh_ op k a b else 0
theorem du_ {op k a b:Int} (h:9<=op/\op<=12):lh_ op k a b=tI (sz_ op a b):=by
 rcases (by omega:op=9\/op=10\/op=11\/op=12)with rfl|rfl|rfl|rfl<;>rfl
theorem c6_ {op b:Int} (h:op≠7/\op≠8):gN_ op b=0:=by unfold gN_;rw [if_neg (by omega)]
theorem CE_ (op k a b:Int) (ho:OpK op k) (hk:k≠5):V_ Tryz.prog 126 [.int .i64 op,.int .i64 k,.int .i64 a,.int .i64 b] (.tup [.int .i64 (dk_ op k a b),.int .i64 (gN_ op b)]):=by
 obtain ⟨h1,h2,h3,h4,h5,h6,h7⟩:=ho
 rcases (by omega:k=1\/k=2\/k=3\/k=4)with hk|hk|hk|hk
 ·(refine cn_ (args':=[.sym 64,.int .i64 k,.sym 65,.sym 66]) (ls:=[.int .i64 op,.int .i64 a,.int .i64 b]) (c:=yx_) (n:=300) (t:=u7_) mo ov rfl rfl rfl rfl (λY _=>rfl) (λY _=>l_ _) rfl (by subst hk;kernel_rfl) λY hf hg=>?_)
  unfold u7_
  refine c_ (xi_ op a b) rfl rfl ?_
  (refine h_ rfl rfl ?_ ?_<;>intro h<;>simp only [nc]at h<;>try (exfalso;omega))
  .subst h
   refine c_ (yW_ 13 a b (by omega)) rfl rfl (d_ ?_)
   rw [dk_,if_pos (c6_ (by omega)),c6_ (by omega),hk]
   rfl
  (refine h_ rfl rfl ?_ ?_<;>intro h<;>simp only [nc]at h<;>try (exfalso;omega))
  .subst h
   refine c_ (yW_ 14 a b (by omega)) rfl rfl (d_ ?_)
   rw [dk_,if_pos (c6_ (by omega)),c6_ (by omega),hk]
   rfl
  (refine h_ rfl rfl ?_ ?_<;>intro h<;>simp only [nc]at h<;>try (exfalso;omega))
  .subst h
   refine c_ (yW_ 15 a b (by omega)) rfl rfl (d_ ?_)
   rw [dk_,if_pos (c6_ (by omega)),c6_ (by omega),hk]
   rfl
  (refine h_ rfl rfl ?_ ?_<;>intro h<;>simp only [nc]at h<;>try (exfalso;omega))
  ·(refine h_ rfl rfl ?_ ?_<;>intro h<;>simp only [nc]at h<;>try (exfalso;omega))
   refine lg_ rfl (λh=>?_) (λh=>?_)
   ·(
     refine c_ (kx_ _) rfl rfl (d_ ?_)
     rw [dk_,if_pos (c6_ (by omega)),c6_ (by omega),du_ (by omega)]
     rfl)
   .exfalso;omega
  .refine lg_ rfl (λh=>?_) (λh=>?_)
   ·(
     refine c_ (kx_ _) rfl rfl (d_ ?_)
     rw [dk_,if_pos (c6_ (by omega)),c6_ (by omega),du_ (by omega)]
     rfl)
   .exfalso;omega
 all_goals have hk1:k≠1:=by omega
 ·(refine cn_ (args':=[.sym 64,.int .i64 k,.sym 65,.sym 66]) (ls:=[.int .i64 op,.int .i64 a,.int .i64 b]) (c:=y0_) (n:=300) (t:=vP_) mo ov rfl rfl rfl rfl (λY _=>rfl) (λY _=>l_ _) rfl (by subst hk;kernel_rfl) λY hf hg=>?_)
  unfold vP_
  refine c_ (xi_ op a b) rfl rfl (lg_ rfl (λh=>?_) (λh=>?_))
  ·(
    refine c_ (kx_ _) rfl rfl (d_ ?_)
    rw [dk_,if_pos (c6_ (by omega)),c6_ (by omega),du_ (by omega)]
    rfl)
  ·(
    refine o_ (yL_ op a b (by omega)) rfl ⟨?_,?_,trivial⟩
    .rintro ws (⟨_,h1,rfl⟩|⟨h0,_⟩)
     .refine c_ (wr_ _ _) rfl rfl (d_ ?_)
      rw [dk_,if_pos h1,h1,mW_ (by omega),hk]
      rfl
     .cases h0
    .rintro ws (⟨h0,_⟩|⟨_,h1,rfl⟩)
     .cases h0
     .refine d_ ?_
      rw [dk_,if_neg (by omega),h1]
      rfl)
 ·(refine cn_ (args':=[.sym 64,.int .i64 k,.sym 65,.sym 66]) (ls:=[.int .i64 op,.int .i64 a,.int .i64 b]) (c:=yq_) (n:=300) (t:=vQ_) mo ov rfl rfl rfl rfl (λY _=>rfl) (λY _=>l_ _) rfl (by subst hk;kernel_rfl) λY hf hg=>?_)
  unfold vQ_
  refine c_ (xi_ op a b) rfl rfl (lg_ rfl (λh=>?_) (λh=>?_))
  ·(
    refine c_ (kx_ _) rfl rfl (d_ ?_)
    rw [dk_,if_pos (c6_ (by omega)),c6_ (by omega),du_ (by omega)]
    rfl)
  ·(
    refine o_ (yL_ op a b (by omega)) rfl ⟨?_,?_,trivial⟩
    .rintro ws (⟨_,h1,rfl⟩|⟨h0,_⟩)
     .refine c_ (wr_ _ _) rfl rfl (d_ ?_)
      rw [dk_,if_pos h1,h1,mW_ (by omega),hk]
      rfl
     .cases h0
    .rintro ws (⟨h0,_⟩|⟨_,h1,rfl⟩)
     .cases h0
     .refine d_ ?_
      rw [dk_,if_neg (by omega),h1]
      rfl)
 ·(refine cn_ (args':=[.sym 64,.int .i64 k,.sym 65,.sym 66]) (ls:=[.int .i64 op,.int .i64 a,.int .i64 b]) (c:=yT_) (n:=300) (t:=v2_) mo ov rfl rfl rfl rfl (λY _=>rfl) (λY _=>l_ _) rfl (by subst hk;kernel_rfl) λY hf hg=>?_)
  unfold v2_
  refine c_ (xi_ op a b) rfl rfl (lg_ rfl (λh=>?_) (λh=>?_))
  ·(
    refine c_ (kx_ _) rfl rfl (d_ ?_)
    rw [dk_,if_pos (c6_ (by omega)),c6_ (by omega),du_ (by omega)]
    rfl)
  ·(
    refine o_ (yL_ op a b (by omega)) rfl ⟨?_,?_,trivial⟩
    .rintro ws (⟨_,h1,rfl⟩|⟨h0,_⟩)
     .refine c_ (wr_ _ _) rfl rfl (d_ ?_)
      rw [dk_,if_pos h1,h1,mW_ (by omega),hk]
      rfl
     .cases h0
    .rintro ws (⟨h0,_⟩|⟨_,h1,rfl⟩)
     .cases h0
     .refine d_ ?_
      rw [dk_,if_neg (by omega),h1]
      rfl)
end Go.Proofs.YtjconanknjgpnaaGreat.vars
set_option maxRecDepth 100000
set_option linter.unusedVariables false
set_option linter.unusedSimpArgs false
namespace Go.Proofs.YtjconanknjgpnaaGreat.vars
open Go Go.Sx
def c89:VC:=⟨⟨[],[]⟩,[],[],0,true,[]⟩
def t89:VT:=
 (.ite 64
 (.done (J 1))
 (.done (J 0)))
def zF_:VC:=⟨⟨[],[]⟩,[(89,[none])],[],0,true,[]⟩
def xU_:VT:=
 (.lt Q8 [64,J 0] 65 none
 (.call 89 [65] 66 [none]
 (.done (66))))
def AE_:VC:=⟨⟨[],[]⟩,[(89,[none])],[],0,true,[]⟩
def x3_:VT:=
 (.lt Zb [64,J 65536] 65 none
 (.lt Z2 [65,J 0] 66 none
 (.ite 66
 (.lt Zm [65,J 65536] 67 none
 (.lt Qo [67,J 32768] 68 none
 (.ite 68
 (.lt Z3 [67,J 65536] 69 none
 (.done (69)))
 (.done (67)))))
 (.lt Qo [65,J 32768] 67 none
 (.ite 67
 (.lt Z3 [65,J 65536] 68 none
 (.done (68)))
 (.done (65)))))))
def A0_:VC:=⟨⟨[],[]⟩,[(89,[none])],[],0,true,[]⟩
def ym_:VT:=
 (.lt Zb [64,J 4294967296] 65 none
 (.lt Z2 [65,J 0] 66 none
 (.ite 66
 (.lt Zm [65,J 4294967296] 67 none
 (.lt Qo [67,J 2147483648] 68 none
 (.ite 68
 (.lt Z3 [67,J 4294967296] 69 none
 (.done (69)))
 (.done (67)))))
 (.lt Qo [65,J 2147483648] 67 none
 (.ite 67
 (.lt Z3 [65,J 4294967296] 68 none
 (.done (68)))
 (.done (65)))))))
def AS_:VC:=⟨⟨[],[]⟩,[(89,[none])],[],0,true,[]⟩
def x8_:VT:=
 (.done (64))
def zK_:VC:=⟨⟨[],[]⟩,[(89,[none])],[],0,true,[]⟩
def ya_:VT:=
 (.done (J 0))
theorem p89 (b:Bool):V_ Tryz.prog 89 [.bool b] (.int .i64 (tI b)):=by
 refine D_ (sh:=[none]) (ls:=[.bool b]) (c:=c89) (n:=300) (t:=t89) mo ov rfl rfl rfl (λY _=>l_ _) rfl (by kernel_rfl) λY hf hg=>?_
 unfold t89
 cases b
 .exact f_ (t:=false) rfl (λh=>by cases h) (λh=>d_ rfl)
 .exact f_ (t:=true) rfl (λh=>d_ rfl) (λh=>by cases h)
def i2_ (n x:Int):Int:=if x.tmod n<0 then (if n/2<=x.tmod n+n then x.tmod n+n-n else x.tmod n+n)else (if n/2<=x.tmod n then x.tmod n-n else x.tmod n)
theorem jy_ (x n:Int) (hn:0<n): -n<x.tmod n/\x.tmod n<n:=by
 refine ⟨?_,Int.tmod_lt_of_pos x hn⟩
 have:=Int.tmod_lt_of_pos (-x) hn
 rw [Int.neg_tmod]at this
 omega
theorem sw_ (x n:Int) (hn:0<n):x.tmod n=x%n\/(x.tmod n=x%n-n/\x%n≠0):=by
 rw [Int.tmod_eq_emod]
 split
 .left;omega
 .rename_i h
  right
  have h2:¬n ∣ x:=λhd=>h (.inr hd)
  have:x%n≠0:=λe=>h2 (Int.dvd_of_emod_eq_zero e)
  omega
theorem ww_ (x:Int):i2_ 65536 x=IntKind.i16.wrap x:=by
 have h:=sw_ x 65536 (by omega)
 have hb:=jy_ x 65536 (by omega)
 simp only [IntKind.wrap,IntKind.bits,IntKind.signed,i2_]
 simp
 generalize x.tmod 65536=r at*
 omega
theorem wu_ (x:Int):i2_ 4294967296 x=IntKind.i32.wrap x:=by
 have h:=sw_ x 4294967296 (by omega)
 have hb:=jy_ x 4294967296 (by omega)
 simp only [IntKind.wrap,IntKind.bits,IntKind.signed,i2_]
 simp
 generalize x.tmod 4294967296=r at*
 omega
theorem AP_ (x:Int):V_ Tryz.prog 55 [.int .i64 1,.int .i64 x] (.int .i64 (bV_ 1 x)):=by
 refine cn_ (args':=[.int .i64 1,.sym 64]) (ls:=[.int .i64 x]) (c:=zF_) (n:=300) (t:=xU_) mo ov rfl rfl rfl rfl (λY _=>rfl) (λY _=>l_ _) rfl (by kernel_rfl) λY hf hg=>?_
 unfold xU_
 refine b_ (run_neq ..) rfl (c_ (p89 _) rfl rfl (d_ ?_))
 by_cases hi:x=0<;>simp [hi,bV_,tI]<;>rfl
theorem Ac_ (x:Int):V_ Tryz.prog 55 [.int .i64 4,.int .i64 x] (.int .i64 x):=by
 refine cn_ (args':=[.int .i64 4,.sym 64]) (ls:=[.int .i64 x]) (c:=AS_) (n:=300) (t:=x8_) mo ov rfl rfl rfl rfl (λY _=>rfl) (λY _=>l_ _) rfl (by kernel_rfl) λY hf hg=>?_
 unfold x8_
 exact d_ rfl
theorem A1_ (x:Int):V_ Tryz.prog 55 [.int .i64 5,.int .i64 x] (.int .i64 0):=by
 refine cn_ (args':=[.int .i64 5,.sym 64]) (ls:=[.int .i64 x]) (c:=zK_) (n:=300) (t:=ya_) mo ov rfl rfl rfl rfl (λY _=>rfl) (λY _=>l_ _) rfl (by kernel_rfl) λY hf hg=>?_
 unfold ya_
 exact d_ rfl
theorem Av_ (x:Int):V_ Tryz.prog 55 [.int .i64 2,.int .i64 x] (.int .i64 (i2_ 65536 x)):=by
 have hb:=jy_ x 65536 (by omega)
 refine cn_ (args':=[.int .i64 2,.sym 64]) (ls:=[.int .i64 x]) (c:=AE_) (n:=300) (t:=x3_) mo ov rfl rfl rfl rfl (λY _=>rfl) (λY _=>l_ _) rfl (by kernel_rfl) λY hf hg=>?_
 unfold x3_
 have hr:=jL_ (P:=Tryz.prog) (k:=.i64) (x:=x) (c:=65536) (by omega) 2 false false
 unfold i2_
 generalize x.tmod 65536=r at*
 refine b_ hr rfl ?_
 repeat' (first
  |refine b_ (run_lss ..) rfl ?_
  |refine b_ (run_geq ..) rfl ?_
  |refine b_ (run_add ..) rfl ?_
  |refine b_ (run_sub ..) rfl ?_
  |refine f_ rfl (λh=>?_) (λh=>?_)
  |refine d_ ?_)
 all_goals (simp only [decide_eq_true_eq,decide_eq_false_iff_not]at *)
 all_goals (try rw [cH_ (x:=r+65536) (by omega) (by omega)]at *)
 all_goals
  (show AV.int .i64 _=AV.int .i64 _
   congr 1
   repeat' split
   all_goals first
    |(exfalso;omega)
    |rfl
    |(rw [cH_ (x:=r+65536-65536) (by omega) (by omega)])
    |(rw [cH_ (x:=r-65536) (by omega) (by omega)])
    |omega)
theorem zZ_ (x:Int):V_ Tryz.prog 55 [.int .i64 3,.int .i64 x] (.int .i64 (i2_ 4294967296 x)):=by
 have hb:=jy_ x 4294967296 (by omega)
 refine cn_ (args':=[.int .i64 3,.sym 64]) (ls:=[.int .i64 x]) (c:=A0_) (n:=300) (t:=ym_) mo ov rfl rfl rfl rfl (λY _=>rfl) (λY _=>l_ _) rfl (by kernel_rfl) λY hf hg=>?_
 unfold ym_
 have hr:=jL_ (P:=Tryz.prog) (k:=.i64) (x:=x) (c:=4294967296) (by omega) 2 false false
 unfold i2_
 generalize x.tmod 4294967296=r at*
 refine b_ hr rfl ?_
 repeat' (first
  |refine b_ (run_lss ..) rfl ?_
  |refine b_ (run_geq ..) rfl ?_
  |refine b_ (run_add ..) rfl ?_
  |refine b_ (run_sub ..) rfl ?_
  |refine f_ rfl (λh=>?_) (λh=>?_)
  |refine d_ ?_)
 all_goals (simp only [decide_eq_true_eq,decide_eq_false_iff_not]at *)
 all_goals (try rw [cH_ (x:=r+4294967296) (by omega) (by omega)]at *)
 all_goals
  (show AV.int .i64 _=AV.int .i64 _
   congr 1
   repeat' split
   all_goals first
    |(exfalso;omega)
    |rfl
    |(rw [cH_ (x:=r+4294967296-4294967296) (by omega) (by omega)])
    |(rw [cH_ (x:=r-4294967296) (by omega) (by omega)])
    |omega)
theorem p55 {k:Int} (h:1<=k/\k<=5) (x:Int):V_ Tryz.prog 55 [.int .i64 k,.int .i64 x] (.int .i64 (bV_ k x)):=by
 rcases (by omega:k=1\/k=2\/k=3\/k=4\/k=5)with rfl|rfl|rfl|rfl|rfl
 .exact AP_ x
 .have:=Av_ x;rw [ww_]at this;exact this
 .have:=zZ_ x;rw [wu_]at this;exact this
 .exact Ac_ x
 .exact A1_ x
end Go.Proofs.YtjconanknjgpnaaGreat.vars
set_option maxRecDepth 100000
set_option linter.unusedVariables false
set_option linter.unusedSimpArgs false
namespace Go.Proofs.YtjconanknjgpnaaGreat.vars
open Go.Sx Go
theorem lC_ (s:Bool) (t:Nat):((FloatKind.f64.format).read (FloatKind.f64.encode (.nan s (FloatKind.f64.format.quiet t)))).isNaN=true:=by
 refine hp_ ?_ (by decide +kernel)
 have h51:(Ieee.Format.quiet Ieee.double t%Ieee.double.binade).testBit 51=true:=by
  have hb:Ieee.double.binade=2^52:=by decide +kernel
  rw [hb,Nat.testBit_mod_two_pow]
  show (decide (51<52)&&(t|||2^(Ieee.double.fractionBits-1)).testBit 51)=true
  have hf:Ieee.double.fractionBits-1=51:=by decide +kernel
  rw [hf,Nat.testBit_or,Nat.testBit_two_pow_self]
  simp
 have hpos:0<Ieee.Format.quiet Ieee.double t%Ieee.double.binade:=by
  rcases Nat.eq_zero_or_pos (Ieee.Format.quiet Ieee.double t%Ieee.double.binade)with h|h
  .rw [h]at h51;simp at h51
  .exact h
 have hlt:Ieee.Format.quiet Ieee.double t%Ieee.double.binade<Ieee.double.binade:=Nat.mod_lt _ (by decide +kernel)
 show Ieee.double.infRung<(Ieee.double.word s (Ieee.double.infRung+Ieee.Format.quiet Ieee.double t%Ieee.double.binade))%Ieee.double.signWeight
 generalize Ieee.Format.quiet Ieee.double t%Ieee.double.binade=q at*
 have e1:Ieee.double.infRung=9218868437227405312:=by decide +kernel
 have e2:Ieee.double.signWeight=9223372036854775808:=by decide +kernel
 have e3:Ieee.double.binade=4503599627370496:=by decide +kernel
 unfold Ieee.Format.word
 rw [e1,e2]
 rw [e3]at hlt
 cases s<;>simp<;>omega
theorem uN_ (b:Nat):∃q:Question,Extern.MathFloor.toIntegral "math.archTrunc" .zero #[.float .f64 b]=(match FloatKind.f64.format.read b with
 | .nan s t=>if FloatKind.f64.format.quiet t=t then pure (.float .f64 b)else do
    let kept←choose q
    pure (.float .f64 (if kept==1 then b else FloatKind.f64.encode (.nan s (FloatKind.f64.format.quiet t))))
 |d=>pure (.float .f64 (FloatKind.f64.encode (d.integral .zero)))):=⟨_,rfl⟩
def Az_ (b b':Nat):Prop:=(bC_ b=true->((FloatKind.f64.format).read b').isNaN=true)/\(bC_ b=false->b'=cA_ b)
theorem tn_ {P:Program} (b:Nat) (w:World):
  ∃b' n,(Extern.MathFloor.toIntegral "math.archTrunc" .zero #[.float .f64 b]).run P w=.ok (.float .f64 b') { w with drawn:=n }/\Az_ b b':=by
 obtain ⟨q,e⟩:=uN_ b
 rw [e]
 have hn:(FloatKind.f64.format.read b).isNaN=bC_ b:=mx_
 cases hd:FloatKind.f64.format.read b with
 |number s m i=>
  rw [hd]at hn
  refine ⟨cA_ b,w.drawn,?_,λh=>(Bool.false_ne_true (hn.trans h)).elim,λ_=>rfl⟩
  unfold cA_
  rw [show Ieee.double.read b=_ from hd]
  rfl
 |infinity s=>
  rw [hd]at hn
  refine ⟨cA_ b,w.drawn,?_,λh=>(Bool.false_ne_true (hn.trans h)).elim,λ_=>rfl⟩
  unfold cA_
  rw [show Ieee.double.read b=_ from hd]
  rfl
 |nan s t=>
  rw [hd]at hn
  have hf:bC_ b≠false:=λh=>by rw [←hn]at h;cases h
  simp only
  split
  .exact ⟨b,w.drawn,rfl,λ_=>by rw [hd];rfl,λh=>absurd h hf⟩
  .simp only [Sem.run_bind,choose,Sem.run,Result.andThen]
   by_cases hq:q.forced=true
   .rw [if_pos hq]
    exact ⟨_,w.drawn,rfl,λ_=>lC_ s t,λh=>absurd h hf⟩
   .rw [if_neg hq]
    refine ⟨_,_,rfl,λ_=>?_,λh=>absurd h hf⟩
    split
    .rw [hd];rfl
    .exact lC_ s t
theorem q6_ (b:Nat) (w:World):
  Calls Tryz.prog 127 #[.float .f64 b] w λe w'=>∃b' n,e=.returned (.float .f64 b')/\w'={ w with drawn:=n }/\Az_ b b':=by
 obtain ⟨b',n,h1,h2⟩:=tn_ (P:=Tryz.prog) b w
 have h3:(callFunc 166 #[.float .f64 b]).run Tryz.prog w=.ok (.value (.float .f64 b')) { w with drawn:=n }:=by
  rw [run_callFunc_extern (P:=Tryz.prog) (f:=166) (e:=Extern.MathFloor.toIntegral "math.archTrunc" .zero) Tryz.func166 (by kernel_rfl) (by kernel_rfl) (by kernel_rfl) (by kernel_rfl),h1]
  rfl
 have H2:=Lib.hid h2
 clear h2 h1
 generalize hw1:({ w with drawn:=n }:World)=w1 at*
 have H3:=Lib.hid hw1
 clear hw1
 go_enter Tryz.func127,Tryz.ntmps127
 go_wp2
 go_ret
 exact ⟨b',n,rfl,H3.out.symm,H2.out⟩
theorem BW_ (o:Option Nat):V_ Tryz.prog 127 [fv o] (fv (bQ_ o)):=by
 intro H B pr E w vs hg hr hc
 have key:∃b,vs=[.float .f64 b]/\(bC_ b=eH_ o)/\(eH_ o=false->o=some b):=by
  cases o with
  |none=>
   simp only [fv,mkF,ConL,Con]at hc
   obtain ⟨v,r,rfl,⟨b,rfl,hb⟩,rfl⟩:=hc
   exact ⟨b,rfl,by rw [←mx_];exact hb,λh=>by cases h⟩
  |some b=>
   simp only [fv,mkF,ConL,Con]at hc
   obtain ⟨v,r,rfl,rfl,rfl⟩:=hc
   exact ⟨b,rfl,rfl,λ_=>rfl⟩
 obtain ⟨b,rfl,hn,ho⟩:=key
 refine (q6_ b w).mono λe w' he=>?_
 obtain ⟨b',n,rfl,rfl,h1,h2⟩:=he
 refine ⟨E,Env.le_refl E,_,rfl,?_,hr.drawn n⟩
 cases hb:eH_ o with
 |true=>
  have e:bQ_ o=none:=by
   cases o with
   |none=>rfl
   |some x=>show (if bC_ x=true then none else some (cA_ x))=none;exact if_pos hb
  rw [e]
  simp only [fv,mkF,Con]
  exact ⟨b',rfl,h1 (hn.trans hb)⟩
 |false=>
  rw [ho hb]
  have hb':bC_ b=false:=hn.trans hb
  have e:bQ_ (some b)=some (cA_ b):=by
   show (if bC_ b=true then none else some (cA_ b))=_
   rw [if_neg (by rw [hb'];exact Bool.false_ne_true)]
  rw [e,←h2 hb']
  simp only [fv,mkF,Con]
end Go.Proofs.YtjconanknjgpnaaGreat.vars
set_option maxRecDepth 100000
set_option linter.unusedVariables false
set_option linter.unusedSimpArgs false
namespace Go.Proofs.YtjconanknjgpnaaGreat.vars
open Go Go.Sx
def Cg_:VC:=⟨⟨[],[]⟩,[],[],0,true,[]⟩
def At_:VT:=
 (.lt Q0 [64,J 4] 67 none
 (.ite 67
 (.lt U3 [65,66] 68 none
 (.done (.tup [68,.bool false,.bool true])))
 (.lt Q0 [64,J 5] 68 none
 (.ite 68
 (.lt U4 [65,66] 69 none
 (.done (.tup [69,.bool false,.bool true])))
 (.lt Q0 [64,J 6] 69 none
 (.ite 69
 (.lt U5 [65,66] 70 none
 (.done (.tup [70,.bool false,.bool true])))
 (.lt Q0 [64,J 7] 70 none
 (.ite 70
 (.lt U6 [65,66] 71 none
 (.done (.tup [71,.bool false,.bool true])))
 (.lt Q0 [64,J 16] 71 none
 (.ite 71
 (.lt Z1 [65] 72 none
 (.done (.tup [72,.bool false,.bool true])))
 (.lt Q0 [64,J 9] 72 none
 (.ite 72
 (.lt U7 [65,66] 73 none
 (.done (.tup [.flt .f64 0,73,.bool true])))
 (.lt Q0 [64,J 10] 73 none
 (.ite 73
 (.lt Zn [65,66] 74 none
 (.done (.tup [.flt .f64 0,74,.bool true])))
 (.lt Q0 [64,J 11] 74 none
 (.ite 74
 (.lt Zv [65,66] 75 none
 (.done (.tup [.flt .f64 0,75,.bool true])))
 (.lt Q0 [64,J 12] 75 none
 (.ite 75
 (.lt U8 [65,66] 76 none
 (.done (.tup [.flt .f64 0,76,.bool true])))
 (.done (.tup [.flt .f64 0,.bool false,.bool false]))))))))))))))))))))
def B6_:VC:=⟨⟨[],[]⟩,[],[],0,true,[]⟩
def A3_:VT:=
 (.ite 64
 (.done (.agg [J 1,J 1,.flt .f64 0]))
 (.done (.agg [J 1,J 0,.flt .f64 0])))
def Cr_:VC:=⟨⟨[],[]⟩,[],[],0,true,[]⟩
def Au_:VT:=
 (.lt Q0 [64,J 2] 65 none
 (.ite 65
 (.done (.tup [.flt .f64 13898108450065350656,.bool true]))
 (.lt Q0 [64,J 3] 66 none
 (.ite 66
 (.done (.tup [.flt .f64 13970166044103278592,.bool true]))
 (.lt Q0 [64,J 4] 67 none
 (.ite 67
 (.done (.tup [.flt .f64 14114281232179134464,.bool true]))
 (.done (.tup [.flt .f64 0,.bool false]))))))))
def Bs_:VC:=⟨⟨[],[]⟩,[(159,[none,none]),(127,[none])],[],0,true,[]⟩
def Ak_:VT:=
 (.call 159 [64] 66 [none,none]
 (.lt Q4 [67] 68 none
 (.ite 68
 (.done (.tup [J 0,J 4]))
 (.call 127 [65] 69 [none]
 (.lt (.bin .geq 44 false false) [69,66] 70 none
 (.ite 70
 (.lt Z1 [66] 71 none
 (.lt Zv [69,71] 72 none
 (.ite 72
 (.lt (.conv 44 2) [69] 73 none
 (.done (.tup [73,J 0])))
 (.done (.tup [J 0,J 7])))))
 (.done (.tup [J 0,J 7]))))))))
def B8_:VC:=⟨⟨[],[]⟩,[],[],0,true,[]⟩
def Af_:VT:=
 (.lt Q6 [64,J 0] 65 none
 (.ite 65
 (.done (.tup [J 1,64]))
 (.done (.tup [J 0]))))
def c82:VC:=⟨⟨[],[]⟩,[(122,[none,none]),(123,[none])],[],0,true,[(113,ft113)]⟩
def t82:VT:=
 (.lt Q0 [64,J 5] 68 none
 (.ite 68
 (.lt Q0 [65,J 5] 69 none
 (.ite 69
 (.done (.tup [J 0,65,66,67]))
 (.lt Q0 [64,J 5] 70 none
 (.ite 70
 (.lt Z4 [66] 71 none
 (.done (.tup [J 0,64,J 0,71])))
 (.lt Q0 [65,J 5] 71 none
 (.ite 71
 (.call 122 [64,67] 72 [none,none]
 (.callF 113 ft113 [73] 74
 (.cons 0
 (.done (.tup [J 0,64,72,.flt .f64 0]))
 (.cons 1
 (.done (.tup [J 1,75]))
 .nil))))
 (.call 123 [64,66] 72 [none]
 (.done (.tup [J 0,64,72,.flt .f64 0])))))))))
 (.lt Q0 [64,J 5] 69 none
 (.ite 69
 (.lt Z4 [66] 70 none
 (.done (.tup [J 0,64,J 0,70])))
 (.lt Q0 [65,J 5] 70 none
 (.ite 70
 (.call 122 [64,67] 71 [none,none]
 (.callF 113 ft113 [72] 73
 (.cons 0
 (.done (.tup [J 0,64,71,.flt .f64 0]))
 (.cons 1
 (.done (.tup [J 1,74]))
 .nil))))
 (.call 123 [64,66] 71 [none]
 (.done (.tup [J 0,64,71,.flt .f64 0])))))))))
def c83:VC:=⟨⟨[],[]⟩,[(124,[none,none,none]),(126,[none,none]),(125,[(some 3)])],[],0,true,[(113,ft113)]⟩
def t83:VT:=
 (.lt Qg [65,J 0] 66 none
 (.lt Ql [66] 67 (some 3)
 (.lt Qp [65] 70 none
 (.lt Qc [70,J 1] 71 none
 (.lt Qg [65,71] 72 none
 (.lt Ql [72] 73 (some 3)
 (.lt Q0 [67,J 5] 76 none
 (.ite 76
 (.call 124 [64,69,75] 77 [none,none,none]
 (.lt Q4 [79] 80 none
 (.ite 80
 (.callF 113 ft113 [J 4] 81
 (.cons 0
 (.lt Qx [64,J 9] 82 none
 (.ite 82
 (.lt Qr [64,J 12] 83 none
 (.ite 83
 (.call 125 [78] 84 [(some 3)]
 (.done (.tup [J 0,84,85,86])))
 (.done (.tup [J 0,J 5,J 0,77]))))
 (.done (.tup [J 0,J 5,J 0,77]))))
 (.cons 1
 (.done (.tup [J 1,82]))
 .nil)))
 (.lt Qx [64,J 9] 81 none
 (.ite 81
 (.lt Qr [64,J 12] 82 none
 (.ite 82
 (.call 125 [78] 83 [(some 3)]
 (.done (.tup [J 0,83,84,85])))
 (.done (.tup [J 0,J 5,J 0,77]))))
 (.done (.tup [J 0,J 5,J 0,77])))))))
 (.call 126 [64,67,68,74] 77 [none,none]
 (.callF 113 ft113 [78] 79
 (.cons 0
 (.lt Qx [64,J 9] 80 none
 (.ite 80
 (.lt Qr [64,J 12] 81 none
 (.ite 81
 (.lt Q8 [77,J 0] 82 none
 (.call 125 [82] 83 [(some 3)]
 (.done (.tup [J 0,83,84,85]))))
 (.done (.tup [J 0,67,77,.flt .f64 0]))))
 (.done (.tup [J 0,67,77,.flt .f64 0]))))
 (.cons 1
 (.done (.tup [J 1,80]))
 .nil))))))))))))
theorem km_ (a:Option Nat):(XOp.un .neg).run Tryz.prog [fv a]=some (fv (a.map (Op.negFloat .f64))):=by cases a<;>rfl
theorem os_ (t:TypeId) (cx cy:Bool) (a b:Option Nat):(XOp.bin .add t cx cy).run Tryz.prog [fv a,fv b]=some (fv (bt_ FloatKind.f64.format.add a b)):=by rw [cr_];rfl
theorem po_ (t:TypeId) (cx cy:Bool) (a b:Option Nat):(XOp.bin .sub t cx cy).run Tryz.prog [fv a,fv b]=some (fv (bt_ FloatKind.f64.format.sub a b)):=by rw [cr_];rfl
theorem pq_ (t:TypeId) (cx cy:Bool) (a b:Option Nat):(XOp.bin .mul t cx cy).run Tryz.prog [fv a,fv b]=some (fv (bt_ FloatKind.f64.format.mul a b)):=by rw [cr_];rfl
theorem o1_ (t:TypeId) (cx cy:Bool) (a b:Option Nat):(XOp.bin .quo t cx cy).run Tryz.prog [fv a,fv b]=some (fv (bt_ FloatKind.f64.format.div a b)):=by rw [cr_];rfl
theorem og_ (t:TypeId) (cx cy:Bool) (a b:Option Nat):(XOp.bin .eql t cx cy).run Tryz.prog [fv a,fv b]=some (.bool (ordF a b==some .eq)):=by rw [cr_];rfl
theorem kY_ (t:TypeId) (cx cy:Bool) (a b:Option Nat):(XOp.bin .neq t cx cy).run Tryz.prog [fv a,fv b]=some (.bool (ordF a b !=some .eq)):=by rw [cr_];rfl
theorem kH_ (t:TypeId) (cx cy:Bool) (a b:Option Nat):(XOp.bin .lss t cx cy).run Tryz.prog [fv a,fv b]=some (.bool (ordF a b==some .lt)):=by rw [cr_];rfl
theorem or_ (t:TypeId) (cx cy:Bool) (a b:Option Nat):(XOp.bin .leq t cx cy).run Tryz.prog [fv a,fv b]=some (.bool (ordF a b==some .lt||ordF a b==some .eq)):=by rw [cr_];rfl
theorem v9_ (t:TypeId) (cx cy:Bool) (a b:Option Nat):(XOp.bin .geq t cx cy).run Tryz.prog [fv a,fv b]=some (.bool (ordF a b==some .gt||ordF a b==some .eq)):=by rw [cr_];rfl
def OpR (op:Int):Prop:=(4<=op/\op<=7)\/op=16\/(9<=op/\op<=12)
def rV_ (op:Int) (a b:Option Nat):Option Nat:=
 if op=4 then bt_ FloatKind.f64.format.add a b else if op=5 then bt_ FloatKind.f64.format.sub a b else if op=6 then bt_ FloatKind.f64.format.mul a b else if op=7 then bt_ FloatKind.f64.format.div a b
 else if op=16 then a.map (Op.negFloat .f64)else some 0
def xO_ (op:Int) (a b:Option Nat):Bool:=if 9<=op/\op<=12 then Ax_ op (ordF a b)else false
theorem xg_ {op:Int} {a b:Option Nat} (h:OpR op):l1_ op a b=if 9<=op/\op<=12 then ⟨1,tI (xO_ op a b),some 0⟩else ⟨5,0,rV_ op a b⟩:=by
 rcases (by unfold OpR at h;omega:op=4\/op=5\/op=6\/op=7\/op=16\/op=9\/op=10\/op=11\/op=12)with rfl|rfl|rfl|rfl|rfl|rfl|rfl|rfl|rfl<;>rfl
theorem Bq_ (f:Option Nat) (b c:Bool):al_ (.tup [fv f,.bool b,.bool c])=true:=by
 cases f<;>rfl
theorem Ci_ (k:Int) (f:Option Nat):B_ [.int .i64 k,fv f]=true:=by cases f<;>rfl
theorem zI_ (op:Int) (a b:Option Nat):B_ [.int .i64 op,fv a,fv b]=true:=by cases a<;>cases b<;>rfl
theorem B1_ (op:Int) (a b:Option Nat) (h:OpR op):V_ Tryz.prog 124 [.int .i64 op,fv a,fv b] (.tup [fv (rV_ op a b),.bool (xO_ op a b),.bool true]):=by
 unfold OpR at h
 refine D_ (sh:=[none,none,none]) (ls:=[.int .i64 op,fv a,fv b]) (c:=Cg_) (n:=300) (t:=At_) mo ov rfl (zI_ ..) (Bq_ ..) (λY _=>l_ _) rfl (by kernel_rfl) λY hf hg=>?_
 unfold At_
 (refine h_ rfl rfl ?_ ?_<;>intro h<;>simp only [nc]at h<;>try (exfalso;omega))
 .subst op;(first
             |exact b_ (os_ ..) (c7_ _) (d_ (by rfl))
             |exact b_ (os_ ..) rfl (d_ (by rfl)))
 (refine h_ rfl rfl ?_ ?_<;>intro h<;>simp only [nc]at h<;>try (exfalso;omega))
 .subst op;(first
             |exact b_ (po_ ..) (c7_ _) (d_ (by rfl))
             |exact b_ (po_ ..) rfl (d_ (by rfl)))
 (refine h_ rfl rfl ?_ ?_<;>intro h<;>simp only [nc]at h<;>try (exfalso;omega))
 .subst op;(first
             |exact b_ (pq_ ..) (c7_ _) (d_ (by rfl))
             |exact b_ (pq_ ..) rfl (d_ (by rfl)))
 (refine h_ rfl rfl ?_ ?_<;>intro h<;>simp only [nc]at h<;>try (exfalso;omega))
 .subst op;(first
             |exact b_ (o1_ ..) (c7_ _) (d_ (by rfl))
             |exact b_ (o1_ ..) rfl (d_ (by rfl)))
 (refine h_ rfl rfl ?_ ?_<;>intro h<;>simp only [nc]at h<;>try (exfalso;omega))
 .subst op;(first
             |exact b_ (km_ ..) (c7_ _) (d_ (by rfl))
             |exact b_ (km_ ..) rfl (d_ (by rfl)))
 (refine h_ rfl rfl ?_ ?_<;>intro h<;>simp only [nc]at h<;>try (exfalso;omega))
 .subst op;(first
             |exact b_ (og_ ..) (c7_ _) (d_ (by rfl))
             |exact b_ (og_ ..) rfl (d_ (by rfl)))
 (refine h_ rfl rfl ?_ ?_<;>intro h<;>simp only [nc]at h<;>try (exfalso;omega))
 .subst op;(first
             |exact b_ (kY_ ..) (c7_ _) (d_ (by rfl))
             |exact b_ (kY_ ..) rfl (d_ (by rfl)))
 (refine h_ rfl rfl ?_ ?_<;>intro h<;>simp only [nc]at h<;>try (exfalso;omega))
 .subst op;(first
             |exact b_ (kH_ ..) (c7_ _) (d_ (by rfl))
             |exact b_ (kH_ ..) rfl (d_ (by rfl)))
 (refine h_ rfl rfl ?_ ?_<;>intro h<;>simp only [nc]at h<;>try (exfalso;omega))
 subst op;(first
            |exact b_ (or_ ..) (c7_ _) (d_ (by rfl))
            |exact b_ (or_ ..) rfl (d_ (by rfl)))
theorem zQ_ (b:Bool):V_ Tryz.prog 125 [.bool b] (.agg (aj_ ⟨1,tI b,some 0⟩)):=by
 refine D_ (sh:=[none]) (ls:=[.bool b]) (c:=B6_) (n:=300) (t:=A3_) mo ov rfl rfl rfl (λY _=>l_ _) rfl (by kernel_rfl) λY hf hg=>?_
 unfold A3_
 cases b
 .exact f_ (t:=false) rfl (λh=>by cases h) (λh=>d_ rfl)
 .exact f_ (t:=true) rfl (λh=>d_ rfl) (λh=>by cases h)
theorem Cu_ {k:Int} (h:2<=k/\k<=4):V_ Tryz.prog 159 [.int .i64 k] (.tup [fv (some (loK k)),.bool true]):=by
 refine D_ (sh:=[none]) (ls:=[.int .i64 k]) (c:=Cr_) (n:=300) (t:=Au_) mo ov rfl rfl rfl (λY _=>l_ _) rfl (by kernel_rfl) λY hf hg=>?_
 unfold Au_
 (refine h_ rfl rfl ?_ ?_<;>intro h<;>simp only [nc]at h<;>try (exfalso;omega))
 .subst k;exact d_ rfl
 (refine h_ rfl rfl ?_ ?_<;>intro h<;>simp only [nc]at h<;>try (exfalso;omega))
 .subst k;exact d_ rfl
 (refine h_ rfl rfl ?_ ?_<;>intro h<;>simp only [nc]at h<;>try (exfalso;omega))
 subst k;exact d_ rfl
theorem um_ {k:Int} (h:2<=k/\k<=4):Op.negFloat .f64 (loK k)=hiK k:=by
 rcases (by omega:k=2\/k=3\/k=4)with rfl|rfl|rfl<;>kernel_rfl
def fr_ (k:Int) (f:Option Nat):Int:=(b8_ k f).getD 0
def eQ_ (k:Int) (f:Option Nat):Int:=if (b8_ k f).isSome then 0 else 7
theorem cvW {k:Int} {f:Option Nat} {n:Int} (h:2<=k/\k<=4) (hn:b8_ k f=some n):(XOp.conv 44 2).run Tryz.prog [fv (bQ_ f)]=some (.int .i64 n):=by
 have hi:=(lW_ h hn).i64
 unfold b8_ at hn
 split at hn;· cases hn
 split at hn;· cases hn
 split at hn
 .exact qP_ Tryz.underlying44 Tryz.underlying2 hn hi.1 hi.2
 .cases hn
theorem qg_ {k:Int} {f:Option Nat} (h:2<=k/\k<=4) (h0:eH_ f=false) (h1:ordF (bQ_ f) (some (loK k))≠some .lt) (h2:ordF (bQ_ f) (some (hiK k))=some .lt):∃n,b8_ k f=some n:=by
 unfold b8_
 rw [h0,if_neg (by decide),if_neg h1,if_pos h2]
 rcases (by omega:k=2\/k=3\/k=4)with rfl|rfl|rfl
 .obtain ⟨m,e,a,b⟩:=bI_ (k:=15) (j:= -37) rfl (by kernel_rfl) (by kernel_rfl) h1 h2
  exact ⟨m,e⟩
 .obtain ⟨m,e,a,b⟩:=bI_ (k:=31) (j:= -21) rfl (by kernel_rfl) (by kernel_rfl) h1 h2
  exact ⟨m,e⟩
 .obtain ⟨m,e,a,b⟩:=bI_ (k:=63) (j:=11) rfl (by kernel_rfl) (by kernel_rfl) h1 h2
  exact ⟨m,e⟩
theorem y4_ {k:Int} (h:2<=k/\k<=4):eH_ (some (loK k))=false/\eH_ (some (hiK k))=false:=by
 rcases (by omega:k=2\/k=3\/k=4)with rfl|rfl|rfl<;>exact ⟨by kernel_rfl,by kernel_rfl⟩
theorem qT_ {k:Int} {f:Option Nat} {n:Int} (h:b8_ k f=some n):AV.tup [.int .i64 n,.int .i64 0]=.tup [.int .i64 (fr_ k f),.int .i64 (eQ_ k f)]:=by
 unfold fr_ eQ_
 rw [h];rfl
theorem jN_ {k:Int} {f:Option Nat} (h:b8_ k f=none):AV.tup [.int .i64 0,.int .i64 7]=.tup [.int .i64 (fr_ k f),.int .i64 (eQ_ k f)]:=by
 unfold fr_ eQ_
 rw [h];rfl
theorem uU_ {k:Int} (h:2<=k/\k<=4) {f:Option Nat} (hn:eH_ f=false):(ordF (bQ_ f) (some (loK k))==some .gt||ordF (bQ_ f) (some (loK k))==some .eq)= !(ordF (bQ_ f) (some (loK k))==some .lt):=by
 obtain ⟨o,e⟩:=s4_ (a:=bQ_ f) (b:=some (loK k)) (by rw [jU_];exact hn) (y4_ h).1
 rw [e]
 cases o<;>rfl
theorem Cc_ {k:Int} (h:2<=k/\k<=4) (f:Option Nat):V_ Tryz.prog 122 [.int .i64 k,fv f] (.tup [.int .i64 (fr_ k f),.int .i64 (eQ_ k f)]):=by
 refine D_ (sh:=[none,none]) (ls:=[.int .i64 k,fv f]) (c:=Bs_) (n:=300) (t:=Ak_) mo ov rfl (Ci_ ..) rfl (λY _=>l_ _) rfl (by kernel_rfl) λY hf hg=>?_
 unfold Ak_
 refine c_ (Cu_ h) rfl rfl (b_ rfl rfl (f_ (t:=false) rfl (λh=>by cases h) (λ_=>?_)))
 refine c_ (BW_ f) rfl (by simp only [B_,c7_]) (b_ (v9_ ..) rfl (f_ rfl (λh1=>?_) (λh1=>?_)))
 .refine b_ (km_ ..) (c7_ _) (b_ (kH_ ..) rfl (f_ rfl (λh2=>?_) (λh2=>?_)))
  .have h2:(ordF (bQ_ f) (some (Op.negFloat .f64 (loK k)))==some .lt)=true:=h2
   rw [um_ h]at h2
   have hn:eH_ f=false:=by
    cases hc:eH_ f with
    |false=>rfl
    |true=>
     rw [uy_ (by rw [jU_];exact hc)]at h2
     cases h2
   rw [uU_ h hn]at h1
   obtain ⟨n,hw⟩:=qg_ h hn (λe=>by rw [e]at h1;cases h1) (by simpa using h2)
   exact b_ (cvW h hw) rfl (d_ (qT_ hw))
  .have h2:(ordF (bQ_ f) (some (Op.negFloat .f64 (loK k)))==some .lt)=false:=h2
   rw [um_ h]at h2
   refine d_ (jN_ ?_)
   unfold b8_
   split;· rfl
   split;· rfl
   split
   .rename_i e;rw [e]at h2;cases h2
   .rfl
 .refine d_ (jN_ ?_)
  unfold b8_
  split;· rfl
  rename_i hn
  have hn:eH_ f=false:=by simpa using hn
  rw [uU_ h hn]at h1
  rw [if_pos (by simpa using h1)]
theorem Cw_ (f:Option Nat):B_ [fv f]=true:=by cases f<;>rfl
theorem rq_ (f:Option Nat):(ordF f f !=some .eq)=eH_ f:=by
 show (!(ordF f f==some .eq))=_
 rw [sV_,Bool.not_not]
theorem BZ_ (v:FV) (e:Int):B_ (aj_ v++[.int .i64 e])=true:=i_.okL_join (okV v) rfl
theorem w0_ (i:Int):(XOp.conv 2 44).run Tryz.prog [.int .i64 i]=some (fv (some (FloatKind.f64.nearest i))):=rfl
end Go.Proofs.YtjconanknjgpnaaGreat.vars
set_option linter.unusedVariables false
set_option linter.unusedSimpArgs false
namespace Go.Proofs.YtjconanknjgpnaaGreat.vars
open Go Go.Sx
def fd_:List Int:=[2,1,2,1,2,3,5,4,2,2,2,2,1,4,1,4,1,2,1,1,1]
def MemOk (mem:List FV):Prop:=mem.map FV.k=fd_/\∀v∈mem,TV v
def cell (mem:List FV) (n:Int):FV:=mem.getD n.toNat FV.z
def dx_ (mem:List FV) (op kd ad n:Int) (a b:FV):Except Int FV:=
 if op=3 then (if a.i<0\/n<=a.i then .error 6 else .ok (cell mem (ad+a.i)))
 else if op=17 then e2_ kd a
 else if opE op a.k b=0 then .ok (opV op a.k a b)else .error (opE op a.k b)
mutual
def ae_ (mem:List FV):GX->Except Int FV
 | .mk op kd nm fd ad n vk vi vf args=>if op=1 then .ok ⟨vk,vi,some vf⟩else if op=2 then .ok (cell mem ad)else match ay_ mem args with
   | .error e=>.error e
   | .ok l=>dx_ mem op kd ad n (l.headD FV.z) (l.getLastD FV.z)
def ay_ (mem:List FV):List GX->Except Int (List FV)
 |[]=>.ok []
 |a::r=>match ae_ mem a with
  | .error e=>.error e
  | .ok v=>match ay_ mem r with
    | .error e=>.error e
    | .ok l=>.ok (v::l)
end
section
variable {mem:List FV}
theorem MemOk.len (h:MemOk mem):mem.length=21:=by
 have:=congrArg List.length h.1
 rw [List.length_map]at this
 exact this
theorem m3_ {n:Nat} (h:n<mem.length):cell mem (n:Int)=mem[n]:=by
 unfold cell
 rw [Int.toNat_natCast,List.getD_eq_getElem?_getD,List.getElem?_eq_getElem h]
 rfl
theorem MemOk.cell (h:MemOk mem) {n:Int} (h1:0<=n) (h2:n<21):TV (cell mem n)/\(cell mem n).k=fd_.getD n.toNat 0:=by
 obtain ⟨m,rfl⟩:∃m:Nat,n=(m:Int):=⟨n.toNat,by omega⟩
 have hl:=h.len
 have hm:m<mem.length:=by omega
 rw [m3_ hm]
 refine ⟨h.2 _ (List.getElem_mem hm),?_⟩
 have:fd_=mem.map FV.k:=h.1.symm
 rw [this,Int.toNat_natCast,List.getD_eq_getElem?_getD,List.getElem?_map,List.getElem?_eq_getElem hm]
 rfl
theorem cells_k:∀t∈h8_,0<=t.1/\t.1<21/\fd_.getD t.1.toNat 0=t.2:=by decide
theorem zT_ {d:Nat} {op kd:Int} {nm fd:List UInt8} {ad n vk vi:Int} {vf:Nat} {args:List GX} (h:TX d (.mk op kd nm fd ad n vk vi vf args)):1<=op/\op<=17:=by
 cases d with
 |zero=>exact h.elim
 |succ d=>
  have:=h.1
  unfold Ari at this
  omega
theorem xm_ {op b:Int}:gN_ op b=0\/gN_ op b=5:=by
 unfold gN_
 split
 .exact .inr rfl
 .exact .inl rfl
theorem zo_ {op k:Int} {b:FV}:opE op k b=0\/opE op k b=5:=by
 unfold opE
 split
 .exact .inl rfl
 .exact xm_
def zP_ (l:List GX) (vs:List FV):Prop:=vs.map FV.k=l.map GX.kd/\∀v∈vs,TV v
theorem g6_ {d:Nat} (hx:∀x,TX d x->∀v,ae_ mem x=.ok v->TV v/\v.k=x.kd):∀(l:List GX),(∀a∈l,TX d a)->∀vs,ay_ mem l=.ok vs->zP_ l vs
 |[],_,vs,h=>by
  simp only [ay_,Except.ok.injEq]at h
  subst h
  exact ⟨rfl,λv hv=>(List.not_mem_nil hv).elim⟩
 |a::r,hl,vs,h=>by
  simp only [ay_]at h
  split at h
  .cases h
  .rename_i v hv
   split at h
   .cases h
   .rename_i ws hw
    cases h
    obtain ⟨h1,h2⟩:=g6_ hx r (λb hb=>hl b (List.mem_cons_of_mem _ hb)) ws hw
    obtain ⟨h3,h4⟩:=hx a (hl a List.mem_cons_self) v hv
    refine ⟨by simp only [List.map_cons,h4,h1],λu hu=>?_⟩
    rcases List.mem_cons.1 hu with rfl|hu
    .exact h3
    .exact h2 u hu
theorem zc_ {op:Int} {n:Nat} (h:Ari op n) (h1:op≠1) (h2:op≠2):op=3\/op=17\/op=15\/op=16\/(4<=op/\op<=14):=by
 unfold Ari at h
 omega
theorem nt_ {vs:List FV} {k:Int} (h:vs.map FV.k=[k]):∃a,vs=[a]/\a.k=k:=by
 match vs,h with
 |[],h=>cases h
 |[a],h=>exact ⟨a,rfl,by simpa using h⟩
 |_::_::_,h=>simp at h
theorem zl_ {vs:List FV} {k l:Int} (h:vs.map FV.k=[k,l]):∃a b,vs=[a,b]/\a.k=k/\b.k=l:=by
 match vs,h with
 |[],h=>cases h
 |[a],h=>simp at h
 |[a,b],h=>exact ⟨a,b,rfl,by simpa using h⟩
 |_::_::_::_,h=>simp at h
theorem pl_ {d:Nat} {op kd:Int} {nm fd:List UInt8} {ad n vk vi:Int} {vf:Nat} {args:List GX} (hm:MemOk mem) (h:TX (d+1) (.mk op kd nm fd ad n vk vi vf args)) (h1:op≠1) (h2:op≠2) {vs:List FV} (hv:zP_ args vs):
  ∃a b:FV,vs.headD FV.z=a/\vs.getLastD FV.z=b/\TV a/\TV b/\(op=3->(a.k=2\/a.k=3)/\vs=[a])/\(op=17->2<=a.k/\a.k<=5/\vs=[a])/\(op≠3->op≠17->OpK op a.k/\b.k=a.k/\(if 9<=op/\op<=12 then 1 else a.k)=kd/\(vs=[a]/\(op=15\/op=16)\/vs=[a,b]/\op<=14))/\
   ∀v,dx_ mem op kd ad n a b=.ok v->TV v/\v.k=kd:=by
 obtain ⟨a1,a2,a3,a4,⟨k1,k2,k3,k4,k5,k6,k7⟩,a6⟩:=h
 have hop:=zc_ a1 h1 h2
 have hks:=hv.1
 have key:∀a b:FV,TV a->TV b->(op=3->ad=8/\n=4/\kd=2)->(op=17->2<=kd/\kd<=5)->(op≠3->op≠17->OpK op a.k/\b.k=a.k/\(if 9<=op/\op<=12 then 1 else a.k)=kd)->∀v,dx_ mem op kd ad n a b=.ok v->TV v/\v.k=kd:=by
  intro a b ha hb e3 e17 eo v hf
  unfold dx_ at hf
  split at hf
  .rename_i e
   obtain ⟨rfl,rfl,rfl⟩:=e3 e
   split at hf
   .cases hf
   .rename_i hr
    cases hf
    have hr1:0<=a.i/\a.i<4:=by omega
    obtain ⟨p,q⟩:=hm.cell (n:=8+a.i) (by omega) (by omega)
    refine ⟨p,?_⟩
    rw [q]
    rcases (by omega:a.i=0\/a.i=1\/a.i=2\/a.i=3)with e|e|e|e<;>rw [e]<;>rfl
  .rename_i n3
   split at hf
   .rename_i e
    exact vv_ (e17 e) ha hf
   .rename_i n17
    obtain ⟨q1,q2,q3⟩:=eo n3 n17
    split at hf
    .cases hf
     exact ⟨yR_ q1 ha rfl,by rw [zY_ q1,q3]⟩
    .cases hf
 rcases hop with e|e|e|e|e
 .obtain ⟨r1,r2,r3,k,r4,r5⟩:=k3 e
  rw [r4]at hks
  obtain ⟨a,rfl,hk⟩:=nt_ hks
  .clear k1 k2 k3 k4 k5 k6 k7
   have ha:=hv.2 a List.mem_cons_self
   exact ⟨a,a,rfl,rfl,ha,ha,λ_=>⟨by omega,rfl⟩,λh=>by omega,λh=>absurd e h,key a a ha ha (λ_=>⟨r1,r2,r3⟩) (λh=>by omega) (λh=>absurd e h)⟩
 .obtain ⟨r1,r2,k,r4,r5⟩:=k7 e
  rw [r4]at hks
  obtain ⟨a,rfl,hk⟩:=nt_ hks
  .clear k1 k2 k3 k4 k5 k6 k7
   have ha:=hv.2 a List.mem_cons_self
   exact ⟨a,a,rfl,rfl,ha,ha,λh=>by omega,λ_=>⟨by omega,by omega,rfl⟩,λ_ h=>absurd e h,key a a ha ha (λh=>by omega) (λ_=>⟨r1,r2⟩) (λ_ h=>absurd e h)⟩
 .obtain ⟨r1,r4⟩:=k5 e
  rw [r4]at hks
  obtain ⟨a,rfl,hk⟩:=nt_ hks
  .clear k1 k2 k3 k4 k5 k6 k7
   have ha:=hv.2 a List.mem_cons_self
   have ho:OpK op a.k:=by unfold OpK;omega
   have hi:(if 9<=op/\op<=12 then 1 else a.k)=kd:=by rw [if_neg (by omega)];omega
   exact ⟨a,a,rfl,rfl,ha,ha,λh=>by omega,λh=>by omega,λ_ _=>⟨ho,rfl,hi,.inl ⟨rfl,.inl e⟩⟩,key a a ha ha (λh=>by omega) (λh=>by omega) (λ_ _=>⟨ho,rfl,hi⟩)⟩
 .obtain ⟨r4,r1,r2⟩:=k6 e
  rw [r4]at hks
  obtain ⟨a,rfl,hk⟩:=nt_ hks
  .clear k1 k2 k3 k4 k5 k6 k7
   have ha:=hv.2 a List.mem_cons_self
   have ho:OpK op a.k:=by unfold OpK;omega
   have hi:(if 9<=op/\op<=12 then 1 else a.k)=kd:=by rw [if_neg (by omega)];omega
   exact ⟨a,a,rfl,rfl,ha,ha,λh=>by omega,λh=>by omega,λ_ _=>⟨ho,rfl,hi,.inl ⟨rfl,.inr e⟩⟩,key a a ha ha (λh=>by omega) (λh=>by omega) (λ_ _=>⟨ho,rfl,hi⟩)⟩
 .obtain ⟨k,r4,r1,r2,r5,r6,r7,r8,r9⟩:=k4 e
  rw [r4]at hks
  obtain ⟨a,b,rfl,hk⟩:=zl_ hks
  .clear k1 k2 k3 k4 k5 k6 k7
   have ha:=hv.2 a List.mem_cons_self
   have hb:=hv.2 b (List.mem_cons_of_mem _ List.mem_cons_self)
   have ho:OpK op a.k:=by unfold OpK;omega
   have hi:(if 9<=op/\op<=12 then 1 else a.k)=kd:=by
    by_cases h9:9<=op/\op<=12
    .rw [if_pos h9];omega
    .rw [if_neg h9];omega
   exact ⟨a,b,rfl,rfl,ha,hb,λh=>by omega,λh=>by omega,λ_ _=>⟨ho,by omega,hi,.inr ⟨rfl,by omega⟩⟩,key a b ha hb (λh=>by omega) (λh=>by omega) (λ_ _=>⟨ho,by omega,hi⟩)⟩
theorem y2_ {d:Nat} {op kd:Int} {nm fd:List UInt8} {ad n vk vi:Int} {vf:Nat} {args:List GX} (h:TX (d+1) (.mk op kd nm fd ad n vk vi vf args)) (h1:op=1):TV ⟨vk,vi,some vf⟩/\vk=kd:=by
 obtain ⟨q1,q2,q3,q4,q5,q6,q7,q8⟩:=h.2.2.2.2.1.1 h1
 refine ⟨⟨?_,λh=>by rw [q8 h]⟩,q1.symm⟩
 show InK vk vi
 unfold InK
 omega
theorem rc_ {d:Nat} {op kd:Int} {nm fd:List UInt8} {ad n vk vi:Int} {vf:Nat} {args:List GX} (hm:MemOk mem) (h:TX (d+1) (.mk op kd nm fd ad n vk vi vf args)) (h2:op=2):TV (cell mem ad)/\(cell mem ad).k=kd/\0<=ad/\ad<21:=by
 have:=cells_k _ (h.2.2.2.2.1.2.1 h2)
 obtain ⟨p,q⟩:=hm.cell this.1 this.2.1
 exact ⟨p,by rw [q];exact this.2.2,this.1,this.2.1⟩
theorem es_ (hm:MemOk mem):∀(d:Nat) (x:GX),TX d x->∀v,ae_ mem x=.ok v->TV v/\v.k=x.kd
 |0,_,h,_,_=>h.elim
 |d+1,.mk op kd nm fd ad n vk vi vf args,h,v,hv=>by
  simp only [ae_]at hv
  split at hv
  .rename_i e
   cases hv
   exact y2_ h e
  .rename_i n1
   split at hv
   .rename_i e
    cases hv
    obtain ⟨p,q,_⟩:=rc_ hm h e
    exact ⟨p,q⟩
   .rename_i n2
    split at hv
    .cases hv
    .rename_i vs hvs
     have hV:=g6_ (es_ hm d) args h.2.2.2.2.2 vs hvs
     obtain ⟨a,b,e1,e2,_,_,_,_,_,hf⟩:=pl_ hm h n1 n2 hV
     rw [e1,e2]at hv
     exact hf v hv
theorem sY_ {k e:Int} {v:FV} (h:e2_ k v=.error e):e=7:=by
 unfold e2_ at h
 split at h
 .split at h<;>cases h
 .split at h
  .split at h
   .cases h
   .cases h;rfl
  .cases h
theorem sU_ {op kd ad n:Int} {a b:FV} {e:Int} (h:dx_ mem op kd ad n a b=.error e):e=5\/e=6\/e=7:=by
 unfold dx_ at h
 split at h
 .split at h
  .cases h;exact .inr (.inl rfl)
  .cases h
 .split at h
  .exact .inr (.inr (sY_ h))
  .split at h
   .cases h
   .rename_i hne
    cases h
    rcases zo_ (op:=op) (k:=a.k) (b:=b)with h0|h0
    .exact absurd h0 hne
    .exact .inl h0
mutual
theorem bp_:∀(x:GX) (e:Int),ae_ mem x=.error e->e=5\/e=6\/e=7
 | .mk op kd nm fd ad n vk vi vf args,e,h=>by
   simp only [ae_]at h
   split at h
   .cases h
   .split at h
    .cases h
    .split at h
     .rename_i e' he
      cases h
      exact eo_ args e he
     .exact sU_ h
theorem eo_:∀(l:List GX) (e:Int),ay_ mem l=.error e->e=5\/e=6\/e=7
 |[],e,h=>by simp [ay_]at h
 |a::r,e,h=>by
  simp only [ay_]at h
  split at h
  .rename_i e' he
   cases h
   exact bp_ a e he
  .split at h
   .rename_i e' he
    cases h
    exact eo_ r e he
   .cases h
end
end
end Go.Proofs.YtjconanknjgpnaaGreat.vars
set_option maxRecDepth 100000
set_option linter.unusedVariables false
set_option linter.unusedSimpArgs false
namespace Go.Proofs.YtjconanknjgpnaaGreat.vars
open Go Go.Sx
def L_ (l:List FV):AV:=aC_ aj_ 3 l
theorem gP_ (l:List FV):I_ (L_ l)=true:=by
 unfold L_
 cases l with
 |nil=>rfl
 |cons a r=>
  simp only [aC_,I_]
  exact i_ okV (a::r)
theorem bJ_ (l:List FV):(XOp.len 31).run Tryz.prog [L_ l]=some (.int .i64 (l.length:Int)):=gD_ Tryz.underlying31 l
theorem aA_ (l:List FV) {i:Nat} (h:i<l.length):(XOp.iaddr 31).run Tryz.prog [L_ l,.int .i64 (i:Int)]=some (.vptr (x_ aj_ (l.drop i))):=
 run_iaddr_sl (e:=46) (ti:=(Tryz.prog.info? 46).get!) Tryz.underlying31 (by kernel_rfl) (by kernel_rfl) ld_ h .i64
theorem bm_ (l:List FV) {i:Nat} (h:i<l.length):(XOp.load 46).run Tryz.prog [.vptr (x_ aj_ (l.drop i))]=some (.agg (aj_ l[i])):=
 run_load_agg (ti:=(Tryz.prog.info? 46).get!) Tryz.underlying46 rfl (by kernel_rfl) (by kernel_rfl) ld_ h
theorem uk_ {op:Int} (h:OpK op 5):OpR op:=by
 unfold OpK at h
 unfold OpR
 omega
def RE0 (e:Int):Nat->List AV->Prop:=λj ws=>(j=0/\e=0/\ws=[])\/(j=1/\e≠0/\ws=[.int .i64 e])
theorem vL_ (e:Int):CF Tryz.prog 113 ft113 [.int .i64 e] (RE0 e):=by
 refine A_ (c:=B8_) (n:=300) (t:=Af_) mo ov rfl (λY _=>l_ _) (by kernel_rfl) λY hf hg=>?_
 unfold Af_
 (refine h_ rfl rfl ?_ ?_<;>intro h<;>simp only [nc]at h<;>try (exfalso;omega))
 .exact VOK_fin rfl (.inr ⟨rfl,h,rfl⟩)
 .exact VOK_fin rfl (.inl ⟨rfl,h,rfl⟩)
def RV (r:Except Int FV):Nat->List AV->Prop:=λj ws=>(∃v,r=.ok v/\j=0/\ws=aj_ v)\/(∃e,r=.error e/\j=1/\ws=[.int .i64 e])
theorem gF_ {r:Except Int FV} {v:FV} {hv:List AV} {Y:Sy} {L:List (Nat->List AV->Prop)} (h:e_ Y.v hv=aj_ v) (hr:r=.ok v):T_ Tryz.prog (QF (RV r)) L Y (.done (.tup (.int .i64 0::hv))):=
 VOK_fin (j:=0) (by rw [h];exact okV v) (.inl ⟨v,hr,rfl,h⟩)
theorem q8_ {r:Except Int FV} {e:Int} {hv:List AV} {Y:Sy} {L:List (Nat->List AV->Prop)} (h:e_ Y.v hv=[.int .i64 e]) (hr:r=.error e):T_ Tryz.prog (QF (RV r)) L Y (.done (.tup (.int .i64 1::hv))):=
 VOK_fin (j:=1) (by rw [h];rfl) (.inr ⟨e,hr,rfl,h⟩)
theorem p82 {k:Int} (h:2<=k/\k<=5) (v:FV) (hv:1<=v.k/\v.k<=5):CF Tryz.prog 82 ft82 (.int .i64 k::aj_ v) (RV (e2_ k v)):=by
 refine A_ (c:=c82) (n:=300) (t:=t82) mo ov rfl (λY _=>l_ _) (by kernel_rfl) λY hf hg=>?_
 unfold t82
 (refine h_ rfl rfl ?_ ?_<;>intro h<;>simp only [nc]at h<;>try (exfalso;omega))
 .subst h
  (refine h_ rfl rfl ?_ ?_<;>intro h<;>simp only [nc]at h<;>try (exfalso;omega))
  .exact gF_ (v:=v) rfl (by unfold e2_;rw [if_pos rfl,if_pos h])
  .have h5:=h
   (refine h_ rfl rfl ?_ ?_<;>intro h<;>simp only [nc]at h<;>try (exfalso;omega))
   exact b_ (w0_ _) rfl (gF_ (v:=⟨5,0,some (FloatKind.f64.nearest v.i)⟩) rfl (by unfold e2_;rw [if_pos rfl,if_neg h5]))
 have hk:2<=k/\k<=4:=by omega
 (refine h_ rfl rfl ?_ ?_<;>intro h<;>simp only [nc]at h<;>try (exfalso;omega))
 (refine h_ rfl rfl ?_ ?_<;>intro h<;>simp only [nc]at h<;>try (exfalso;omega))
 .have h5:=h
  refine c_ (Cc_ hk v.f) rfl rfl ?_
  refine o_ (vL_ _) rfl ⟨?_,?_,trivial⟩
  .rintro ws (⟨_,h0,rfl⟩|⟨h0,_⟩)
   .cases hw:b8_ k v.f with
    |some n=>
     have e2:fr_ k v.f=n:=by unfold fr_;rw [hw];rfl
     rw [←e2]at hw
     exact gF_ (v:=⟨k,fr_ k v.f,some 0⟩) rfl (by unfold e2_;rw [if_neg (by omega),if_pos h5,hw])
    |none=>
     unfold eQ_ at h0
     rw [hw]at h0
     cases h0
   .cases h0
  .rintro ws (⟨h0,_⟩|⟨_,h0,rfl⟩)
   .cases h0
   .cases hw:b8_ k v.f with
    |some n=>
     unfold eQ_ at h0
     rw [hw]at h0
     exact absurd rfl h0
    |none=>
     have e1:eQ_ k v.f=7:=by unfold eQ_;rw [hw];rfl
     exact q8_ (e:=7) (by rw [←e1];rfl) (by unfold e2_;rw [if_neg (by omega),if_pos h5,hw])
 .have h5:=h
  exact c_ (wr_ _ _) rfl rfl (gF_ (v:=⟨k,bV_ k v.i,some 0⟩) rfl (by unfold e2_;rw [if_neg (by omega),if_neg h5]))
def opX (op:Int) (a b:FV):Except Int FV:=if opE op a.k b=0 then .ok (opV op a.k a b)else .error (opE op a.k b)
theorem p83 {op:Int} {a b:FV} {l:List FV} (ho:OpK op a.k) (ha:TV a) (h0:∃h:0<l.length,l[0]=a) (h1:∃h:l.length-1<l.length,l[l.length-1]=b) (hl:l.length<=2):CF Tryz.prog 83 ft83 [.int .i64 op,L_ l] (RV (opX op a b)):=by
 obtain ⟨q0,e0⟩:=h0
 obtain ⟨q1,e1⟩:=h1
 refine A_ (c:=c83) (n:=300) (t:=t83) mo ov rfl (λY _=>l_ _) (by kernel_rfl) λY hf hg=>?_
 unfold t83
 refine b_ (aA_ l (i:=0) q0) (i_ okV _) (n_ (bm_ l q0) rfl (okV _) (b_ (bJ_ l) rfl ?_))
 refine b_ (bN_ (z:=((l.length-1:Nat):Int)) (by omega) (by omega) (by omega)) rfl (b_ (aA_ l q1) (i_ okV _) (n_ (bm_ l q1) rfl (okV _) ?_))
 rw [e0,e1]
 (refine h_ rfl rfl ?_ ?_<;>intro h<;>simp only [nc]at h<;>try (exfalso;omega))
 .have h5:=h
  have hr:=uk_ (h5▸ho)
  have hw:opX op a b=.ok (l1_ op a.f b.f):=by unfold opX opE opV;rw [if_pos h5,if_pos rfl,if_pos h5]
  rw [xg_ hr]at hw
  refine c_ (B1_ op a.f b.f hr) rfl (by simp only [B_,I_,c7_]) (b_ rfl rfl (f_ (t:=false) rfl (λh=>by cases h) (λ_=>?_)))
  (refine h_ rfl rfl ?_ ?_<;>intro h<;>simp only [nc]at h<;>try (exfalso;omega))
  ·(refine h_ rfl rfl ?_ ?_<;>intro h<;>simp only [nc]at h<;>try (exfalso;omega))
   .rw [if_pos (by omega)]at hw
    exact c_ (zQ_ _) rfl rfl (gF_ rfl hw)
   .rw [if_neg (by omega)]at hw
    exact gF_ (v:=⟨5,0,rV_ op a.f b.f⟩) rfl hw
  .rw [if_neg (by omega)]at hw
   exact gF_ (v:=⟨5,0,rV_ op a.f b.f⟩) rfl hw
 have h5:=h
 refine c_ (CE_ op a.k a.i b.i ho h5) rfl rfl ?_
 have he:opE op a.k b=gN_ op b.i:=by unfold opE;rw [if_neg h5]
 refine o_ (vL_ _) rfl ⟨?_,?_,trivial⟩
 .rintro ws (⟨_,h0,rfl⟩|⟨h0,_⟩)
  .have hi:dk_ op a.k a.i b.i=lh_ op a.k a.i b.i:=by unfold dk_;rw [if_pos h0]
   have hw:opX op a b=.ok ⟨if 9<=op/\op<=12 then 1 else a.k,dk_ op a.k a.i b.i,some 0⟩:=by
    unfold opX opV;rw [he,if_pos h0,if_neg h5,hi]
   (refine h_ rfl rfl ?_ ?_<;>intro h<;>simp only [nc]at h<;>try (exfalso;omega))
   ·(refine h_ rfl rfl ?_ ?_<;>intro h<;>simp only [nc]at h<;>try (exfalso;omega))
    .rw [if_pos (by omega)]at hw
     have ht:tI (decide (¬dk_ op a.k a.i b.i=0))=dk_ op a.k a.i b.i:=by
      rw [hi,du_ (by omega)]
      cases sz_ op a.i b.i<;>rfl
     refine b_ (run_neq ..) rfl (c_ (zQ_ _) rfl rfl (gF_ (v:=⟨1,tI (decide (¬dk_ op a.k a.i b.i=0)),some 0⟩) ?_ (by rw [ht];exact hw)))
     by_cases hb:dk_ op a.k a.i b.i=0<;>simp [hb]<;>rfl
    .rw [if_neg (by omega)]at hw
     exact gF_ (v:=⟨a.k,dk_ op a.k a.i b.i,some 0⟩) rfl hw
   .rw [if_neg (by omega)]at hw
    exact gF_ (v:=⟨a.k,dk_ op a.k a.i b.i,some 0⟩) rfl hw
  .cases h0
 .rintro ws (⟨h0,_⟩|⟨_,h0,rfl⟩)
  .cases h0
  .exact q8_ (e:=gN_ op b.i) rfl (by unfold opX;rw [he,if_neg h0])
end Go.Proofs.YtjconanknjgpnaaGreat.vars
set_option maxRecDepth 100000
set_option linter.unusedVariables false
set_option linter.unusedSimpArgs false
namespace Go.Proofs.YtjconanknjgpnaaGreat.vars
open Go Go.Sx
theorem tO_ (l:List FV) (s:FV) (hl:l.length<=100000):(XOp.app 3 24).run Tryz.prog [L_ l,.agg (aj_ s)]=some (L_ (l++[s])):=
 gH_ ld_ (by decide) (by decide) l s (by omega)
def ln_ (mem:List FV) (args:List GX) (acc:List FV) (i:Nat):Prop:=ay_ mem args=(match ay_ mem (args.drop i)with
 | .error e=>.error e
 | .ok l=>.ok (acc++l))
theorem va_ (mem:List FV) (args:List GX):ln_ mem args [] 0:=by
 unfold ln_
 rw [List.drop_zero]
 cases ay_ mem args<;>rfl
theorem rB_ {mem:List FV} {args:List GX} {acc:List FV} {i:Nat} {e:Int} (h:ln_ mem args acc i) (hi:i<args.length) (he:ae_ mem args[i]=.error e):ay_ mem args=.error e:=by
 unfold ln_ at h
 rw [h,List.drop_eq_getElem_cons hi,ay_,he]
theorem rv_ {mem:List FV} {args:List GX} {acc:List FV} {i:Nat} {v:FV} (h:ln_ mem args acc i) (hi:i<args.length) (he:ae_ mem args[i]=.ok v):ln_ mem args (acc++[v]) (i+1):=by
 unfold ln_ at*
 rw [h,List.drop_eq_getElem_cons hi,ay_,he]
 cases ay_ mem (args.drop (i+1))with
 |error e=>rfl
 |ok l=>simp
theorem u5_ {mem:List FV} {args:List GX} {acc:List FV} (h:ln_ mem args acc args.length):ay_ mem args=.ok acc:=by
 unfold ln_ at h
 rw [List.drop_length,ay_]at h
 simpa using h
theorem eT_ {mem:List FV} {op kd:Int} {nm fd:List UInt8} {ad n vk vi:Int} {vf:Nat} {args:List GX} (h1:op≠1) (h2:op≠2) {l:List FV} (h:ay_ mem args=.ok l):ae_ mem (.mk op kd nm fd ad n vk vi vf args)=dx_ mem op kd ad n (l.headD FV.z) (l.getLastD FV.z):=by
 rw [ae_,if_neg h1,if_neg h2,h]
theorem gQ_ {mem:List FV} {op kd:Int} {nm fd:List UInt8} {ad n vk vi:Int} {vf:Nat} {args:List GX} (h1:op≠1) (h2:op≠2) {e:Int} (h:ay_ mem args=.error e):ae_ mem (.mk op kd nm fd ad n vk vi vf args)=.error e:=by
 rw [ae_,if_neg h1,if_neg h2,h]
theorem sN_ {mem:List FV} {op kd:Int} {nm fd:List UInt8} {ad n vk vi:Int} {vf:Nat} {args:List GX} (h1:op=1):ae_ mem (.mk op kd nm fd ad n vk vi vf args)=.ok ⟨vk,vi,some vf⟩:=by
 rw [ae_,if_pos h1]
theorem qY_ {mem:List FV} {op kd:Int} {nm fd:List UInt8} {ad n vk vi:Int} {vf:Nat} {args:List GX} (h1:op=2):ae_ mem (.mk op kd nm fd ad n vk vi vf args)=.ok (cell mem ad):=by
 rw [ae_,if_neg (by omega),if_pos h1]
theorem pd_ {l:List GX} {k:Int} (h:l.map GX.kd=[k]):∃y,l=[y]/\y.kd=k:=by
 match l,h with
 |[],h=>cases h
 |[a],h=>exact ⟨a,rfl,by simpa using h⟩
 |_::_::_,h=>simp at h
end Go.Proofs.YtjconanknjgpnaaGreat.vars
set_option linter.unusedVariables false
set_option linter.unusedSimpArgs false
namespace Go.Sx
section
variable {P:Program} {t:TypeId} {ti:TypeInfo} {α:Type} {enc:α->List AV} {w:Nat}
theorem run_ldx1 {d:TypeDesc} (ht:P.underlying t=some d) (ha:lk_ d=false) (hw:∀a,(enc a).length=w) {l:List α} {i:Nat} (hi:i<l.length) {off:Nat} {v:AV} {p r:List AV} (he:enc l[i]=p++(v::r)) (hp:p.length=off) (k:IntKind):(XOp.ldx t w off).run P [aC_ enc w l,.int k (i:Int)]=some v:=by
 obtain ⟨a,b,e1,e2,_⟩:=q5_ hw l hi
 obtain ⟨x0,l',rfl⟩:∃x l',l=x::l':=by cases l with|nil=>simp at hi|cons x l'=>exact ⟨x,l',rfl⟩
 show aD_ P (gy_ (x_ enc (x0::l'))) t (.ptr 0 (i*w+off))=_
 unfold aD_
 simp only [ht,ha]
 have hg:(gy_ (x_ enc (x0::l'))).get 0=some (.cells (x_ enc (x0::l'))):=rfl
 unfold am_
 simp only [hg]
 have hd:q_ (i*w+off) (x_ enc (x0::l'))=v::(r++b):=by
  rw [J_,e1,he,←e2,←hp]
  rw [show a++(p++v::r++b)=(a++p)++(v::(r++b)) by simp [List.append_assoc]]
  rw [←List.length_append,List.drop_left]
 rw [hd]
 rfl
theorem run_ldxN {d:TypeDesc} (ht:P.underlying t=some d) (ha:lk_ d=true) (hinf:P.info? t=some ti) (hs:ti.size=w) (hw:∀a,(enc a).length=w) {l:List α} {i:Nat} (hi:i<l.length) (k:IntKind):(XOp.ldx t w 0).run P [aC_ enc w l,.int k (i:Int)]=some (.agg (enc l[i])):=by
 obtain ⟨a,b,e1,e2,_⟩:=q5_ hw l hi
 obtain ⟨x0,l',rfl⟩:∃x l',l=x::l':=by cases l with|nil=>simp at hi|cons x l'=>exact ⟨x,l',rfl⟩
 show aD_ P (gy_ (x_ enc (x0::l'))) t (.ptr 0 (i*w+0))=_
 unfold aD_
 simp only [ht,ha,hinf]
 have hg:(gy_ (x_ enc (x0::l'))).get 0=some (.cells (x_ enc (x0::l'))):=rfl
 unfold am_
 simp only [hg]
 have hd:q_ (i*w+0) (x_ enc (x0::l'))=enc (x0::l')[i]++b:=by
  rw [J_,e1,Nat.add_zero,←e2,List.drop_left]
 have hl:ti.size=(enc (x0::l')[i]).length:=by rw [hs,hw]
 rw [hd,hl,fj_]
end
end Go.Sx
set_option maxRecDepth 100000
set_option linter.unusedVariables false
set_option linter.unusedSimpArgs false
namespace Go.Proofs.YtjconanknjgpnaaGreat.vars
open Go Go.Sx
def c81:VC:=⟨⟨[],[]⟩,[],[],2,true,[(49,e6_),(113,ft113)]⟩
def t81:VT:=
 (.lt Qa [76,J 0] 77 none
 (.lt Qd [77] 78 (some 10)
 (.callF 49 e6_ [64,65,66,78,79,80,81,82,83,84,85,86,87] 88
 (.cons 3
 (.lt Z2 [102,J 0] 104 none
 (.ite 104
 (.callF 113 ft113 [J 6] 105
 (.cons 0
 (.lt Qy [71,102] 106 none
 (.done (.tup [J 0,106])))
 (.cons 1
 (.done (.tup [J 1,106]))
 .nil)))
 (.lt Qo [102,72] 105 none
 (.ite 105
 (.callF 113 ft113 [J 6] 106
 (.cons 0
 (.lt Qy [71,102] 107 none
 (.done (.tup [J 0,107])))
 (.cons 1
 (.done (.tup [J 1,107]))
 .nil)))
 (.lt Qy [71,102] 106 none
 (.done (.tup [J 0,106])))))))
 (.cons 1
 (.done (.tup [J 1,101]))
 .nil)))))
def c49:VC:=⟨⟨[],[]⟩,[],[(1,[⟨[(49,.slx 0 0 0),(0,.ptr 0 0),(5,.slx 4 3 1),(47,76),(3,.ptr 2 0),(4,.ptr 3 0),(48,81)],[(0,[.ptx 1 64 3 0,65,66]),(2,[67,68,69,70,71,72,73,74,75,76]),(3,[J 0,J 0,.flt .f64 0])],5,2,[⟨4,3,1,5,none⟩],[],[(1,64)]⟩])],2,true,[(49,e6_),(81,tw_),(82,ft82),(83,ft83)]⟩
def t49:VT:=
 (.lt Q0 [67,J 1] 77 none
 (.ite 77
 (.done (.tup [J 0,73,74,75]))
 (.lt Q0 [67,J 2] 78 none
 (.ite 78
 (.lt Q1 [64,71] 79 none
 (.lt Qb [64,79] 80 (some 3)
 (.done (.tup [J 0,80,81,82]))))
 (.lt Q0 [67,J 3] 79 none
 (.ite 79
 (.callF 81 tw_ [64,65,66,67,68,69,70,71,72,73,74,75,76] 80
 (.cons 1
 (.lt Q1 [64,93] 94 none
 (.lt Qb [64,94] 95 (some 3)
 (.done (.tup [J 0,95,96,97]))))
 (.cons 1
 (.done (.tup [J 1,93]))
 .nil)))
 (.lt Q0 [67,J 17] 80 none
 (.ite 80
 (.lt Qa [76,J 0] 81 none
 (.lt Qd [81] 82 (some 10)
 (.callF 49 e6_ [64,65,66,82,83,84,85,86,87,88,89,90,91] 92
 (.cons 3
 (.callF 82 ft82 [68,105,106,107] 108
 (.cons 3
 (.done (.tup [J 0,112,113,114]))
 (.cons 1
 (.done (.tup [J 1,112]))
 .nil)))
 (.cons 1
 (.done (.tup [J 1,105]))
 .nil)))))
 (.lt Qe [76] 81 none
 (.loop 82 0 [J 0,.nsl]
 (.cons 2
 (.lt Q5 [82,81] 84 none
 (.ite 84
 (.lt Qa [76,82] 85 none
 (.lt Qd [85] 86 (some 10)
 (.callF 49 e6_ [64,65,66,86,87,88,89,90,91,92,93,94,95] 96
 (.cons 3
 (.lt Qq [83,.agg [109,110,111]] 112 none
 (.lt Q2 [82,J 1] 113 none
 (.again 0 0 [113,112])))
 (.cons 1
 (.done (.tup [J 1,109]))
 .nil)))))
 (.callF 83 ft83 [67,83] 85
 (.cons 3
 (.done (.tup [J 0,87,88,89]))
 (.cons 1
 (.done (.tup [J 1,87]))
 .nil)))))
 .nil)))))))))))
theorem M_ (l:List FV) {i:Nat} (hi:i<l.length):(XOp.inb).run Tryz.prog [L_ l,.int .i64 (i:Int)]=some (.int .i64 (i:Int)):=wT_ (enc:=aj_) hi .i64
theorem az_ (l:List FV) {i:Nat} (hi:i<l.length):(XOp.ldx 46 3 0).run Tryz.prog [L_ l,.int .i64 (i:Int)]=some (.agg (aj_ l[i])):=
 run_ldxN (ti:=(Tryz.prog.info? 46).get!) Tryz.underlying46 rfl (by kernel_rfl) (by kernel_rfl) ld_ hi .i64
def MR (mem:List FV) (now left:Int):List AV:=[L_ mem,.int .i64 now,.int .i64 left]
theorem wy_ (mem:List FV) (now left:Int) {l:List AV} (h:B_ l=true):B_ (MR mem now left++l)=true:=i_.okL_join (by simp only [MR,B_,I_,gP_]) h
theorem ls_ (mem:List FV) (now left:Int) (x:GX):B_ (MR mem now left++aH_ x)=true:=wy_ _ _ _ (okX x)
def RP (mem:List FV) (x:GX):Nat->List AV->Prop:=λj ws=>(match x with| .mk op kd nm fd ad n vk vi vf args=>∃a,ay_ mem args=.ok [a]/\0<=a.i/\a.i<n/\j=0/\ws=[.int .i64 (ad+a.i)])\/(∃e,ae_ mem x=.error e/\j=1/\ws=[.int .i64 e])
def P49 (mem:List FV) (now left:Int) (d:Nat):Prop:=∀x,TX d x->CF Tryz.prog 49 e6_ (MR mem now left++aH_ x) (RV (ae_ mem x))
theorem eu_ {mem:List FV} {y:GX} {v:FV} (h:ae_ mem y=.ok v):ay_ mem [y]=.ok [v]:=by simp only [ay_,h]
theorem gT_ {mem:List FV} {y:GX} {e:Int} (h:ae_ mem y=.error e):ay_ mem [y]=.error e:=by simp only [ay_,h]
theorem p81 {mem:List FV} {now left:Int} {d:Nat} (hm:MemOk mem) (ih:P49 mem now left d) {op kd:Int} {nm fd:List UInt8} {ad n vk vi:Int} {vf:Nat} {args:List GX} (hx:TX (d+1) (.mk op kd nm fd ad n vk vi vf args)) (h3:op=3):
  CF Tryz.prog 81 tw_ (MR mem now left++aH_ (.mk op kd nm fd ad n vk vi vf args)) (RP mem (.mk op kd nm fd ad n vk vi vf args)):=by
 have n1:op≠1:=by omega
 have n2:op≠2:=by omega
 obtain ⟨q1,q2,q3,k,q4,q5⟩:=hx.2.2.2.2.1.2.2.1 h3
 obtain ⟨y,rfl,yk⟩:=pd_ q4
 have hy:=hx.2.2.2.2.2 y (List.mem_singleton.2 rfl)
 have hz:=ih y hy
 have hX:∀a,ae_ mem y=.ok a->ae_ mem (.mk op kd nm fd ad n vk vi vf [y])=(if a.i<0\/n<=a.i then .error 6 else .ok (cell mem (ad+a.i))):=λa ha=>by
  rw [eT_ n1 n2 (eu_ ha)]
  show dx_ mem op kd ad n a a=_
  rw [dx_,if_pos h3]
 refine A_ (c:=c81) (n:=300) (t:=t81) mo ov rfl (λY _=>l_ _) (by kernel_rfl) λY hf hg=>?_
 unfold t81
 refine b_ (bS_ [y] (i:=0) (by simp)) (i_ okX _) ?_
 have hld:=bW_ [y] (i:=0) (by simp)
 rcases hzz:y with ⟨zo,zk,znm,zfd,zad,zn,zvk,zvi,zvf,za⟩
 rw [hzz]at hld hz hX
 refine n_ hld rfl (okX _) (o_ hz (ls_ mem now left (.mk zo zk znm zfd zad zn zvk zvi zvf za)) ⟨?_,?_,trivial⟩)
 .rintro ws (⟨a,ha,_,rfl⟩|⟨_,_,h0,_⟩)
  ·(refine h_ rfl rfl ?_ ?_<;>intro h<;>simp only [nc]at h<;>try (exfalso;omega))
   .refine o_ (vL_ 6) rfl ⟨?_,?_,trivial⟩
    .rintro ws (⟨_,h0,_⟩|⟨h0,_⟩)
     .cases h0
     .cases h0
    .rintro ws (⟨h0,_⟩|⟨_,_,rfl⟩)
     .cases h0
     .exact VOK_fin rfl (.inr ⟨6,by rw [hX a ha,if_pos (.inl h)],rfl,rfl⟩)
   (refine h_ rfl rfl ?_ ?_<;>intro h<;>simp only [nc]at h<;>try (exfalso;omega))
   .refine o_ (vL_ 6) rfl ⟨?_,?_,trivial⟩
    .rintro ws (⟨_,h0,_⟩|⟨h0,_⟩)
     .cases h0
     .cases h0
    .rintro ws (⟨h0,_⟩|⟨_,_,rfl⟩)
     .cases h0
     .exact VOK_fin rfl (.inr ⟨6,by rw [hX a ha,if_pos (.inr h)],rfl,rfl⟩)
   .exact b_ (ax_ (by omega) (by omega)) rfl (VOK_fin rfl (.inl ⟨a,by rw [eu_ ha],by omega,by omega,rfl,rfl⟩))
  .cases h0
 .rintro ws (⟨_,_,h0,_⟩|⟨e,he,_,rfl⟩)
  .cases h0
  .exact VOK_fin rfl (.inr ⟨e,gQ_ n1 n2 (gT_ he),rfl,rfl⟩)
theorem p49 {mem:List FV} (hm:MemOk mem) (now left:Int):∀d:Nat,P49 mem now left d
 |0,_,h=>h.elim
 |d+1,.mk op kd nm fd ad n vk vi vf args,hx=>by
  have hlen:=hm.len
  have ih:=p49 hm now left d
  have hA:=hx.1
  have hal:args.length<=2:=by unfold Ari at hA;omega
  have hop:=zT_ hx
  refine A_ (c:=c49) (n:=300) (t:=t49) mo ov rfl (λY _=>l_ _) (by kernel_rfl) λY hf hg=>?_
  unfold t49
  (refine h_ rfl rfl ?_ ?_<;>intro h<;>simp only [nc]at h<;>try (exfalso;omega))
  .exact gF_ (v:=⟨vk,vi,some vf⟩) rfl (sN_ h)
  have n1:=h
  (refine h_ rfl rfl ?_ ?_<;>intro h<;>simp only [nc]at h<;>try (exfalso;omega))
  .obtain ⟨_,_,a0,a1⟩:=rc_ hm hx h
   obtain ⟨m,rfl⟩:∃m:Nat,ad=(m:Int):=⟨ad.toNat,by omega⟩
   have hml:m<mem.length:=by omega
   refine b_ (M_ mem hml) rfl (n_ (az_ mem hml) rfl (okV _) ?_)
   exact gF_ (v:=mem[m]) rfl (by rw [qY_ h,m3_ hml])
  have n2:=h
  (refine h_ rfl rfl ?_ ?_<;>intro h<;>simp only [nc]at h<;>try (exfalso;omega))
  .have e3:=h
   refine o_ (p81 hm ih hx e3) (ls_ mem now left (.mk op kd nm fd ad n vk vi vf args)) ⟨?_,?_,trivial⟩
   .rintro ws (⟨a,ha,a0,a1,_,rfl⟩|⟨_,_,h0,_⟩)
    .obtain ⟨q1,q2,_⟩:=hx.2.2.2.2.1.2.2.1 e3
     obtain ⟨m,em⟩:∃m:Nat,ad+a.i=(m:Int):=⟨(ad+a.i).toNat,by omega⟩
     have hml:m<mem.length:=by omega
     rw [em]
     refine b_ (M_ mem hml) rfl (n_ (az_ mem hml) rfl (okV _) ?_)
     refine gF_ (v:=mem[m]) rfl ?_
     rw [eT_ n1 n2 ha]
     show dx_ mem op kd ad n a a=_
     rw [dx_,if_pos e3,if_neg (by omega),em,m3_ hml]
    .cases h0
   .rintro ws (⟨_,_,_,_,h0,_⟩|⟨e,he,_,rfl⟩)
    .cases h0
    .exact q8_ rfl he
  have n3:=h
  (refine h_ rfl rfl ?_ ?_<;>intro h<;>simp only [nc]at h<;>try (exfalso;omega))
  .have e17:=h
   obtain ⟨q1,q2,k,q4,q5,q6⟩:=hx.2.2.2.2.1.2.2.2.2.2.2 e17
   obtain ⟨y,rfl,yk⟩:=pd_ q4
   have hy:=hx.2.2.2.2.2 y (List.mem_singleton.2 rfl)
   have hz:=ih y hy
   have hT:=es_ hm d y hy
   have hX:∀a,ae_ mem y=.ok a->ae_ mem (.mk op kd nm fd ad n vk vi vf [y])=e2_ kd a:=λa ha=>by
    rw [eT_ n1 n2 (eu_ ha)]
    show dx_ mem op kd ad n a a=_
    rw [dx_,if_neg n3,if_pos e17]
   have hE:∀e,ae_ mem y=.error e->ae_ mem (.mk op kd nm fd ad n vk vi vf [y])=.error e:=λe he=>gQ_ n1 n2 (gT_ he)
   refine b_ (bS_ [y] (i:=0) (by simp)) (i_ okX _) ?_
   have hld:=bW_ [y] (i:=0) (by simp)
   rcases hzz:y with ⟨zo,zk,znm,zfd,zad,zn,zvk,zvi,zvf,za⟩
   rw [hzz]at hld hz hX hE hT
   refine n_ hld rfl (okX _) (o_ hz (ls_ mem now left (.mk zo zk znm zfd zad zn zvk zvi zvf za)) ⟨?_,?_,trivial⟩)
   .rintro ws (⟨a,ha,_,rfl⟩|⟨_,_,h0,_⟩)
    .refine o_ (p82 ⟨q1,q2⟩ a (hT a ha).1.1.kd) (by show B_ (.int .i64 kd::aj_ a)=true;rw [H_];exact okV a) ⟨?_,?_,trivial⟩
     .rintro ws (⟨w,hw,_,rfl⟩|⟨_,_,h0,_⟩)
      .exact gF_ (v:=w) rfl ((hX a ha).trans hw)
      .cases h0
     .rintro ws (⟨_,_,h0,_⟩|⟨e,he,_,rfl⟩)
      .cases h0
      .exact q8_ rfl ((hX a ha).trans he)
    .cases h0
   .rintro ws (⟨_,_,h0,_⟩|⟨e,he,_,rfl⟩)
    .cases h0
    .exact q8_ rfl (hE e he)
  have n17:=h
  refine b_ (bL_ args) rfl ?_
  refine Y_ (ι:=List FV×Nat) (λs=>[.int .i64 (s.2:Int),L_ s.1]) (λs=>s.1.length=s.2/\s.2<=args.length/\ln_ mem args s.1 s.2) (λs=>args.length-s.2) ([],0) ⟨rfl,Nat.zero_le _,va_ _ _⟩ rfl (λs _=>by simp only [B_,I_,gP_]) (λs s' _ _ h=>by simp at h;omega) (λs hs=>?_)
  obtain ⟨acc,i⟩:=s
  obtain ⟨h1,h2,h3⟩:=hs
  simp only at h1 h2 h3⊢
  (refine h_ rfl rfl ?_ ?_<;>intro h<;>simp only [nc]at h<;>try (exfalso;omega))
  .have hi:i<args.length:=by omega
   have hld:=bW_ args hi
   have hz:=ih args[i] (hx.2.2.2.2.2 _ (List.getElem_mem hi))
   have hrx:=λv=>rv_ (v:=v) h3 hi
   have hre:=λe=>rB_ (e:=e) h3 hi
   rcases hzz:args[i]with ⟨zo,zk,znm,zfd,zad,zn,zvk,zvi,zvf,za⟩
   rw [hzz]at hld hz hrx hre
   refine b_ (bS_ args hi) (i_ okX _) (n_ hld rfl (okX _) (o_ hz (ls_ mem now left (.mk zo zk znm zfd zad zn zvk zvi zvf za)) ⟨?_,?_,trivial⟩))
   .rintro ws (⟨a,ha,_,rfl⟩|⟨_,_,h0,_⟩)
    .exact b_ (tO_ acc a (by omega)) (gP_ _) (b_ (ax_ (by omega) (by omega)) rfl (s_ rfl ⟨(acc++[a],i+1),⟨by simp;omega,hi,hrx a ha⟩,rfl,by simp only;omega⟩))
    .cases h0
   .rintro ws (⟨_,_,h0,_⟩|⟨e,he,_,rfl⟩)
    .cases h0
    .exact q8_ rfl (gQ_ n1 n2 (hre e he))
  have hi:i=args.length:=by omega
  subst hi
  have hL:=u5_ h3
  have hV:=g6_ (es_ hm d) args hx.2.2.2.2.2 acc hL
  have hX:=eT_ (mem:=mem) (kd:=kd) (nm:=nm) (fd:=fd) (ad:=ad) (n:=n) (vk:=vk) (vi:=vi) (vf:=vf) n1 n2 hL
  obtain ⟨a,b,ea,eb,ta,tb,_,_,ko,_⟩:=pl_ hm hx n1 n2 hV
  obtain ⟨oK,bk,ok,hvs⟩:=ko n3 n17
  rw [ea,eb,dx_,if_neg n3,if_neg n17]at hX
  have hX:ae_ mem (.mk op kd nm fd ad n vk vi vf args)=opX op a b:=hX
  have hc:CF Tryz.prog 83 ft83 [.int .i64 op,L_ acc] (RV (opX op a b)):=by
   rcases hvs with ⟨rfl,hu⟩|⟨rfl,hu⟩
   .cases eb
    exact p83 oK ta ⟨by simp,rfl⟩ ⟨by simp,rfl⟩ (by simp)
   .exact p83 oK ta ⟨by simp,rfl⟩ ⟨by simp,rfl⟩ (by simp)
  refine o_ hc (by show B_ [.int .i64 op,L_ acc]=true;simp only [B_,I_,gP_]) ⟨?_,?_,trivial⟩
  .rintro ws (⟨w,hw,_,rfl⟩|⟨_,_,h0,_⟩)
   .exact gF_ (v:=w) rfl (hX.trans hw)
   .cases h0
  .rintro ws (⟨_,_,h0,_⟩|⟨e,he,_,rfl⟩)
   .cases h0
   .exact q8_ rfl (hX.trans he)
end Go.Proofs.YtjconanknjgpnaaGreat.vars
set_option maxRecDepth 100000
set_option linter.unusedVariables false
set_option linter.unusedSimpArgs false
namespace Go.Proofs.YtjconanknjgpnaaGreat.vars
open Go Go.Sx
def c72:VC:=⟨⟨[],[]⟩,[(55,[none])],[],1,true,[(39,ft39)]⟩
def t72:VT:=
 (.callF 39 ft39 [64,65,J 13] 67
 (.cons 2
 (.lt (.iaddr 172) [.vsl 13 1 [J 0,J 1,J 2,J 3,.int .i64 (-1),J 7,J 32767,.int .i64 (-32768),J 2147483647,.int .i64 (-2147483648),J 100,J 9223372036854775807,.int .i64 (-9223372036854775808)],70] 72 none
 (.lt (.load 2) [72] 73 none
 (.call 55 [66,73] 74 [none]
 (.done (.tup [J 0,74,71])))))
 .nil))
def c71:VC:=⟨⟨[],[]⟩,[],[],1,true,[(39,ft39)]⟩
def t71:VT:=
 (.callF 39 ft39 [64,65,J 15] 66
 (.cons 2
 (.lt (.iaddr 143) [.vsl 15 1 [.flt .f64 0,.flt .f64 9223372036854775808,.flt .f64 4607182418800017408,.flt .f64 13830554455654793216,.flt .f64 4602678819172646912,.flt .f64 4612811918334230528,.flt .f64 13838998704956112896,.flt .f64 9094988921128908188,.flt .f64 2024,.flt .f64 9218868437227405312,.flt .f64 18442240474082181120,.nan .f64,.flt .f64 4674736413210574848,.flt .f64 4891288408196988160,.flt .f64 4636737291354636288],69] 71 none
 (.lt (.load 44) [71] 72 none
 (.done (.tup [J 0,72,70]))))
 .nil))
def c40:VC:=⟨⟨[],[]⟩,[],[],1,true,[(39,ft39),(71,ft71),(72,za_)]⟩
def t40:VT:=
 (.lt Q0 [66,J 1] 67 none
 (.ite 67
 (.callF 39 ft39 [64,65,J 2] 68
 (.cons 2
 (.done (.tup [J 0,J 1,71,.flt .f64 0,72]))
 .nil))
 (.lt Q0 [66,J 5] 68 none
 (.ite 68
 (.callF 71 ft71 [64,65] 69
 (.cons 2
 (.done (.tup [J 0,J 5,J 0,71,72]))
 .nil))
 (.callF 72 za_ [64,65,66] 69
 (.cons 2
 (.done (.tup [J 0,66,72,.flt .f64 0,73]))
 .nil))))))
def c15:VC:=⟨⟨[],[]⟩,[],[(0,[⟨[(4,.slx 0 0 0),(3,.slx 134 3 2),(0,.ptr 0 0)],[(0,[64,.slx 1 0 0])],135,3,[⟨134,3,2,3,none⟩],[],[]⟩])],1,true,[(39,ft39),(40,ft40)]⟩
def t15:VT:=
 (.loop 66 0 [J 0,65,.vsl 21 3 [J 2,J 0,.flt .f64 0,J 1,J 0,.flt .f64 0,J 2,J 0,.flt .f64 0,J 1,J 0,.flt .f64 0,J 2,J 5,.flt .f64 0,J 3,J 0,.flt .f64 0,J 5,J 0,.flt .f64 0,J 4,J 0,.flt .f64 0,J 2,J 0,.flt .f64 0,J 2,J 0,.flt .f64 0,J 2,J 0,.flt .f64 0,J 2,J 0,.flt .f64 0,J 1,J 0,.flt .f64 0,J 4,J 0,.flt .f64 0,J 1,J 0,.flt .f64 0,J 4,J 0,.flt .f64 0,J 1,J 0,.flt .f64 0,J 2,J 0,.flt .f64 0,J 1,J 0,.flt .f64 0,J 1,J 0,.flt .f64 0,J 1,J 0,.flt .f64 0]]
 (.cons 3
 (.lt Qp [68] 69 none
 (.lt Q5 [66,69] 70 none
 (.ite 70
 (.callF 39 ft39 [64,67,J 3] 71
 (.cons 2
 (.lt Qj [74,J 0] 76 none
 (.ite 76
 (.lt Q1 [68,66] 77 none
 (.lt Z5 [68,77] 78 none
 (.callF 40 ft40 [64,75,78] 79
 (.cons 4
 (.lt Q1 [68,66] 86 none
 (.lt Zc [68,86,.agg [82,83,84]] 87 none
 (.lt Q2 [66,J 1] 88 none
 (.chk (.same 68 87)
 (.again 0 0 [88,85,87])))))
 .nil))))
 (.lt Q2 [66,J 1] 77 none
 (.again 0 0 [77,75,68]))))
 .nil))
 (.done (.tup [J 0,68,67])))))
 .nil))
def Cs_ (n:Int):List AV:=[.int .i64 n]
def zE_ (o:Option Nat):List AV:=[fv o]
def W13:List Int:=[0,1,2,3,-1,7,32767,-32768,2147483647,-2147483648,100,9223372036854775807,-9223372036854775808]
def R15:List (Option Nat):=[some 0,some 9223372036854775808,some 4607182418800017408,some 13830554455654793216,some 4602678819172646912,some 4612811918334230528,some 13838998704956112896,some 9094988921128908188,some 2024,some 9218868437227405312,some 18442240474082181120,none,some 4674736413210574848,some 4891288408196988160,some 4636737291354636288]
theorem wO_:∀x∈W13,-9223372036854775808<=x/\x<=9223372036854775807:=by decide
theorem p72 {l:List UInt8} {a:AV} {n:Nat} {k:Int} (hp:Pk l a) (hn:n<=l.length) (hk:2<=k/\k<=4):CF Tryz.prog 72 za_ [a,.int .i64 (n:Int),.int .i64 k] (λ_ ws=>∃(r:Int) (n':Nat),ws=[.int .i64 r,.int .i64 (n':Int)]/\InK k r/\n'<=l.length):=by
 have hA:=hp.1.ok iz_
 refine A_ (c:=c72) (n:=300) (t:=t72) mo ov rfl (λY _=>l_ _) (by kernel_rfl) λY hf hg=>?_
 unfold t72
 refine g_ (p39 (m:=13) hp hn (by decide) (by decide)) rfl (by simp only [B_,I_,hA]) ⟨?_,trivial⟩
 rintro ws ⟨v,n',rfl,hv,hn'⟩
 have hv':v<W13.length:=hv
 have hi:=wO_ _ (List.getElem_mem hv')
 refine b_ (run_iaddr_sl (enc:=Cs_) (w:=1) (e:=2) (ti:=(Tryz.prog.info? 2).get!) (l:=W13) Tryz.underlying172 (by kernel_rfl) (by kernel_rfl) (λ_=>rfl) hv' .i64) (i_ (λ_=>rfl) _) ?_
 rw [List.drop_eq_getElem_cons hv']
 exact b_ (dh_ Tryz.underlying2 rfl _ _) rfl (c_ (p55 (by omega) _) rfl rfl (VOK_fin rfl ⟨_,n',rfl,k4_ (by omega) (by omega) hi.1 hi.2,hn'⟩))
theorem Al_ (o:Option Nat) (n:Int):B_ [fv o,.int .i64 n]=true:=by cases o<;>rfl
theorem p71 {l:List UInt8} {a:AV} {n:Nat} (hp:Pk l a) (hn:n<=l.length):CF Tryz.prog 71 ft71 [a,.int .i64 (n:Int)] (λ_ ws=>∃(o:Option Nat) (n':Nat),ws=[fv o,.int .i64 (n':Int)]/\n'<=l.length):=by
 have hA:=hp.1.ok iz_
 refine A_ (c:=c71) (n:=300) (t:=t71) mo ov rfl (λY _=>l_ _) (by kernel_rfl) λY hf hg=>?_
 unfold t71
 refine g_ (p39 (m:=15) hp hn (by decide) (by decide)) rfl (by simp only [B_,I_,hA]) ⟨?_,trivial⟩
 rintro ws ⟨v,n',rfl,hv,hn'⟩
 have hv':v<R15.length:=hv
 refine b_ (run_iaddr_sl (enc:=zE_) (w:=1) (e:=44) (ti:=(Tryz.prog.info? 44).get!) (l:=R15) Tryz.underlying143 (by kernel_rfl) (by kernel_rfl) (λ_=>rfl) hv' .i64) (i_ (λo=>by simp only [zE_,B_,c7_]) _) ?_
 rw [List.drop_eq_getElem_cons hv']
 exact b_ (dh_ Tryz.underlying44 rfl _ _) (c7_ _) (VOK_fin (Al_ _ _) ⟨_,n',rfl,hn'⟩)
def Ce_ (l:List UInt8) (k:Int):Nat->List AV->Prop:=λ_ ws=>∃(v:FV) (n':Nat),ws=aj_ v++[.int .i64 (n':Int)]/\TV v/\v.k=k/\n'<=l.length
theorem p40 {l:List UInt8} {a:AV} {n:Nat} {k:Int} (hp:Pk l a) (hn:n<=l.length) (hk:1<=k/\k<=5):CF Tryz.prog 40 ft40 [a,.int .i64 (n:Int),.int .i64 k] (Ce_ l k):=by
 have hA:=hp.1.ok iz_
 refine A_ (c:=c40) (n:=300) (t:=t40) mo ov rfl (λY _=>l_ _) (by kernel_rfl) λY hf hg=>?_
 unfold t40
 (refine h_ rfl rfl ?_ ?_<;>intro h<;>simp only [nc]at h<;>try (exfalso;omega))
 .subst h
  refine g_ (p39 (m:=2) hp hn (by decide) (by decide)) rfl (by simp only [B_,I_,hA]) ⟨?_,trivial⟩
  rintro ws ⟨v,n',rfl,hv,hn'⟩
  exact VOK_fin rfl ⟨⟨1,v,some 0⟩,n',rfl,⟨.inl ⟨rfl,by show (0:Int)<=(v:Int);omega,by show (v:Int)<=1;omega⟩,λ_=>rfl⟩,rfl,hn'⟩
 (refine h_ rfl rfl ?_ ?_<;>intro h<;>simp only [nc]at h<;>try (exfalso;omega))
 .subst h
  refine g_ (p71 hp hn) rfl (by simp only [B_,I_,hA]) ⟨?_,trivial⟩
  rintro ws ⟨o,n',rfl,hn'⟩
  exact VOK_fin (BZ_ ⟨5,0,o⟩ _) ⟨⟨5,0,o⟩,n',rfl,⟨.inr (.inr (.inr (.inr ⟨rfl,rfl⟩))),λh=>absurd rfl h⟩,rfl,hn'⟩
 refine g_ (p72 hp hn (by omega)) rfl (by simp only [B_,I_,hA]) ⟨?_,trivial⟩
 rintro ws ⟨r,n',rfl,hr,hn'⟩
 exact VOK_fin rfl ⟨⟨k,r,some 0⟩,n',rfl,⟨hr,λ_=>rfl⟩,rfl,hn'⟩
def xp_:List FV:=[⟨2,0,some 0⟩,⟨1,0,some 0⟩,⟨2,0,some 0⟩,⟨1,0,some 0⟩,⟨2,5,some 0⟩,⟨3,0,some 0⟩,⟨5,0,some 0⟩,⟨4,0,some 0⟩,⟨2,0,some 0⟩,⟨2,0,some 0⟩,⟨2,0,some 0⟩,⟨2,0,some 0⟩,⟨1,0,some 0⟩,⟨4,0,some 0⟩,⟨1,0,some 0⟩,⟨4,0,some 0⟩,⟨1,0,some 0⟩,⟨2,0,some 0⟩,⟨1,0,some 0⟩,⟨1,0,some 0⟩,⟨1,0,some 0⟩]
theorem w9_:MemOk xp_:=by
 refine ⟨rfl,λv hv=>?_⟩
 have:∀v∈xp_,(v.k=1\/v.k=2\/v.k=3\/v.k=4\/v.k=5)/\(v.i=0\/(v.i=5/\v.k=2))/\v.f=some 0:=by
  intro v hv
  simp only [xp_,List.mem_cons,List.not_mem_nil,or_false]at hv
  rcases hv with rfl|rfl|rfl|rfl|rfl|rfl|rfl|rfl|rfl|rfl|rfl|rfl|rfl|rfl|rfl|rfl|rfl|rfl|rfl|rfl|rfl<;>simp
 obtain ⟨h1,h2,h3⟩:=this v hv
 refine ⟨?_,λ_=>h3⟩
 unfold InK
 omega
theorem MemOk.set {mem:List FV} (h:MemOk mem) {i:Nat} (hi:i<mem.length) {v:FV} (hv:TV v) (hk:v.k=mem[i].k):MemOk (mem.set i v):=by
 refine ⟨?_,λu hu=>?_⟩
 .rw [←h.1,List.map_set,hk]
  apply List.ext_getElem (by simp)
  intro j h1 h2
  rw [List.getElem_set]
  split
  .rename_i e;subst e;simp
  .rfl
 .rcases List.mem_or_eq_of_mem_set hu with hu|rfl
  .exact h.2 u hu
  .exact hv
def Cp_ (l:List UInt8):Nat->List AV->Prop:=λ_ ws=>∃(mem:List FV) (n':Nat),ws=[L_ mem,.int .i64 (n':Int)]/\MemOk mem/\n'<=l.length
theorem ei_ (l:List FV) {i:Nat} (hi:i<l.length):(XOp.ldx 3 3 0).run Tryz.prog [L_ l,.int .i64 (i:Int)]=some (.int .i64 l[i].k):=
 run_ldx1 (enc:=aj_) Tryz.underlying3 rfl ld_ hi (p:=[]) (r:=[.int .i64 l[i].i,fv l[i].f]) rfl rfl .i64
theorem kr_ (l:List FV) {i:Nat} (hi:i<l.length) (y:FV):(XOp.stx 46 3 0).run Tryz.prog [L_ l,.int .i64 (i:Int),.agg (aj_ y)]=some (L_ (l.set i y)):=
 run_stx (ti:=(Tryz.prog.info? 46).get!) ld_ hi (p:=[]) (q:=aj_ l[i]) (r:=[]) (xs:=aj_ y) rfl (.inl rfl) (by kernel_rfl) (by rw [ld_];kernel_rfl) (hF_ (okV _)) (by simp) rfl (by rw [ld_,ld_]) (by simp) .i64
theorem lb_ (l:List FV) (i:Nat) (v:FV):(some (L_ l)=some .nsl/\some (L_ (l.set i v))=some .nsl)\/∃n z cs ds,some (L_ l)=some (.vsl n z cs)/\some (L_ (l.set i v))=some (.vsl n z ds):=by
 cases l with
 |nil=>exact .inl ⟨rfl,rfl⟩
 |cons x r=>
  cases i with
  |zero=>exact .inr ⟨_,_,_,_,rfl,rfl⟩
  |succ i=>
   refine .inr ⟨r.length+1,3,x_ aj_ (x::r),x_ aj_ (x::r.set i v),rfl,?_⟩
   show some (AV.vsl ((r.set i v).length+1) 3 _)=_
   rw [List.length_set]
theorem p15 {l:List UInt8} {a:AV} {n:Nat} (hp:Pk l a) (hn:n<=l.length):CF Tryz.prog 15 ft15 [a,.int .i64 (n:Int)] (Cp_ l):=by
 have hA:=hp.1.ok iz_
 refine A_ (c:=c15) (n:=300) (t:=t15) mo ov rfl (λY _=>l_ _) (by kernel_rfl) λY hf hg=>?_
 unfold t15
 refine Y_ (ι:=Nat×Nat×List FV) (λs=>[.int .i64 (s.1:Int),.int .i64 (s.2.1:Int),L_ s.2.2]) (λs=>s.1<=21/\s.2.1<=l.length/\MemOk s.2.2) (λs=>21-s.1) (0,n,xp_) ⟨Nat.zero_le _,hn,w9_⟩ rfl (λs _=>by simp only [B_,I_,gP_]) (λs s' _ _ h=>by simp at h;omega) (λs hs=>?_)
 obtain ⟨i,m,mem⟩:=s
 obtain ⟨h1,h2,h3⟩:=hs
 simp only at h1 h2 h3⊢
 have hlen:=h3.len
 refine b_ (bJ_ mem) rfl ?_
 (refine h_ rfl rfl ?_ ?_<;>intro h<;>simp only [nc]at h<;>try (exfalso;omega))
 .have hi:i<mem.length:=by omega
  refine g_ (p39 (n:=m) (m:=3) hp h2 (by decide) (by decide)) rfl (by simp only [B_,I_,hA]) ⟨?_,trivial⟩
  rintro ws ⟨v,n',rfl,hv,hn'⟩
  (refine h_ rfl rfl ?_ ?_<;>intro h<;>simp only [nc]at h<;>try (exfalso;omega))
  .have ⟨q1,q2⟩:=(h3.2 mem[i] (List.getElem_mem hi)).1.kd
   refine b_ (M_ mem hi) rfl (b_ (ei_ mem hi) rfl ?_)
   refine g_ (p40 hp hn' ⟨q1,q2⟩) rfl (by simp only [B_,I_,hA]) ⟨?_,trivial⟩
   rintro ws ⟨w,n2,rfl,tw,wk,hn2⟩
   refine b_ (M_ mem hi) rfl (b_ (kr_ mem hi w) (gP_ _) (b_ (ax_ (by omega) (by omega)) rfl ?_))
   refine z_ (lb_ mem i w) (s_ rfl ⟨(i+1,n2,mem.set i w),⟨by omega,hn2,h3.set hi tw wk⟩,rfl,by simp only;omega⟩)
  .exact b_ (ax_ (by omega) (by omega)) rfl (s_ rfl ⟨(i+1,n',mem),⟨by omega,hn',h3⟩,rfl,by simp only;omega⟩)
 .exact VOK_fin (by show B_ [L_ mem,.int .i64 (m:Int)]=true;simp only [B_,I_,gP_]) ⟨mem,m,rfl,h3,h2⟩
end Go.Proofs.YtjconanknjgpnaaGreat.vars
set_option maxRecDepth 100000
set_option linter.unusedVariables false
set_option linter.unusedSimpArgs false
namespace Go.Proofs.YtjconanknjgpnaaGreat.vars
open Go Go.Sx
def BG_:VC:=⟨⟨[],[]⟩,[(153,[(some 10),none,none]),(154,[(some 10)])],[],0,true,[(121,ft121)]⟩
def AL_:VT:=
 (.callF 121 ft121 [64,76,77,78,79,80,81,82,83,84,85] 92
 (.cons 11
 (.lt Q6 [113,J 0] 114 none
 (.ite 114
 (.done (.tup [J 0,65,66,67,68,69,70,71,72,73,74,75,76,77,78,79,80,81,82,83,84,85,86,87,88,89,90,91,113]))
 (.callF 121 ft121 [64,66,67,68,69,70,71,72,73,74,75] 115
 (.cons 11
 (.lt Q6 [136,J 0] 137 none
 (.ite 137
 (.done (.tup [J 0,65,66,67,68,69,70,71,72,73,74,75,76,77,78,79,80,81,82,83,84,85,86,87,88,89,90,91,136]))
 (.call 153 [64,68] 138 [(some 10),none,none]
 (.lt (.bin .neq 9 false true) [69,.str []] 150 none
 (.ite 150
 (.done (.tup [J 0,65,66,67,68,69,70,71,72,73,74,75,76,77,78,79,80,81,82,83,84,85,86,87,88,89,90,91,J 4]))
 (.lt Q0 [139,J 1] 151 none
 (.ite 151
 (.done (.tup [J 0,65,66,67,68,69,70,71,72,73,74,75,76,77,78,79,80,81,82,83,84,85,86,87,88,89,90,91,J 13]))
 (.call 154 [.agg [103,104,105,106,107,108,109,110,111,112],127] 152 [(some 10)]
 (.lt Q7 [153,127] 162 none
 (.ite 162
 (.done (.tup [J 0,65,66,67,68,69,70,71,72,73,74,75,76,77,78,79,80,81,82,83,84,85,86,87,88,89,90,91,J 4]))
 (.done (.tup [J 0,65,126,127,128,129,130,131,132,133,134,135,152,153,154,155,156,157,158,159,160,161,86,87,88,89,90,91,J 0]))))))))))))
 .nil))))
 .nil))
def BQ_:VC:=⟨⟨[],[]⟩,[(153,[(some 10),none,none]),(154,[(some 10)]),(53,[none])],[(0,[⟨[(4,.ptr 1 0),(3,.ptr 0 0),(9,.slx 3 1 0),(10,.slx 4 10 1),(11,.slx 2 0 0),(0,64),(7,102),(6,.ptr 2 0)],[(1,[J 0,J 0,J 0,.str [],.str [],J 0,J 0,J 0,J 0,.flt .f64 0,.nsl,J 0,J 0,.str [],.str [],J 0,J 0,J 0,J 0,.flt .f64 0,.nsl,.nsl,.nsl,.str [],J 0,J 0,.nsl]),(0,[65,66,67,68,69,70,71,72,73,74,75,76,77,78,79,80,81,82,83,84,85,86,87,88,89,90,91]),(2,[92,93,94,95,96,97,98,99,100,101])],5,3,[⟨3,1,0,9,none⟩,⟨4,10,1,10,none⟩],[],[]⟩]),(2,[⟨[(4,.ptr 1 0),(3,.ptr 0 0),(14,.slx 0 0 0),(9,.slx 3 1 1),(10,.slx 4 10 2),(6,.ptr 2 0),(7,102)],[(1,[J 0,J 0,J 0,.str [],.str [],J 0,J 0,J 0,J 0,.flt .f64 0,.nsl,J 0,J 0,.str [],.str [],J 0,J 0,J 0,J 0,.flt .f64 0,.nsl,.nsl,.nsl,.str [],J 0,J 0,.nsl]),(0,[65,66,67,68,69,70,71,72,73,74,75,76,77,78,79,80,81,82,83,84,85,86,87,88,89,90,91]),(2,[92,93,94,95,96,97,98,99,100,101])],5,3,[⟨3,1,1,9,none⟩,⟨4,10,2,10,none⟩],[],[]⟩])],0,true,[(121,ft121)]⟩
def z6_:VT:=
 (.call 153 [64,88] 92 [(some 10),none,none]
 (.lt Q4 [103] 104 none
 (.ite 104
 (.done (.tup [J 0,65,66,67,68,69,70,71,72,73,74,75,76,77,78,79,80,81,82,83,84,85,86,87,88,89,90,91,J 3]))
 (.call 53 [94] 105 [none]
 (.lt Qz [105,J 2] 106 none
 (.ite 106
 (.done (.tup [J 0,65,66,67,68,69,70,71,72,73,74,75,76,77,78,79,80,81,82,83,84,85,86,87,88,89,90,91,J 4]))
 (.lt Q0 [94,J 9] 107 none
 (.ite 107
 (.lt Q0 [94,J 11] 108 none
 (.ite 108
 (.loop 109 0 [.vsl 1 1 [J 1],.nsl,J 0]
 (.cons 3
 (.lt Qe [91] 112 none
 (.lt Q5 [111,112] 113 none
 (.ite 113
 (.lt Qa [91,111] 114 none
 (.lt Qd [114] 115 (some 10)
 (.callF 121 ft121 [64,115,116,117,118,119,120,121,122,123,124] 125
 (.cons 11
 (.lt Q6 [146,J 0] 147 none
 (.ite 147
 (.done (.tup [J 0,65,66,67,68,69,70,71,72,73,74,75,76,77,78,79,80,81,82,83,84,85,86,87,88,89,90,91,146]))
 (.lt Q9 [109] 148 none
 (.lt Q5 [111,148] 149 none
 (.ite 149
 (.lt Q1 [109,111] 150 none
 (.lt Qi [109,150] 151 none
 (.call 154 [.agg [136,137,138,139,140,141,142,143,144,145],151] 152 [(some 10)]
 (.lt Qh [110,.agg [152,153,154,155,156,157,158,159,160,161]] 162 none
 (.lt Q2 [111,J 1] 163 none
 (.again 0 0 [109,162,163]))))))
 (.lt Qh [110,.agg [136,137,138,139,140,141,142,143,144,145]] 150 none
 (.lt Q2 [111,J 1] 151 none
 (.again 0 0 [109,150,151]))))))))
 .nil))))
 (.lt Qe [110] 114 none
 (.lt Q9 [109] 115 none
 (.lt Q7 [114,115] 116 none
 (.ite 116
 (.done (.tup [J 0,65,66,67,68,69,70,71,72,73,74,75,76,77,78,79,80,81,82,83,84,85,86,87,88,89,90,91,J 4]))
 (.loop 117 0 [J 0,109,110]
 (.cons 3
 (.lt Q9 [118] 120 none
 (.lt Q5 [117,120] 121 none
 (.ite 121
 (.lt Q1 [119,117] 122 none
 (.lt Qf [119,122] 123 none
 (.lt Q1 [118,117] 124 none
 (.lt Qi [118,124] 125 none
 (.lt Q7 [123,125] 126 none
 (.ite 126
 (.done (.tup [J 0,65,66,67,68,69,70,71,72,73,74,75,76,77,78,79,80,81,82,83,84,85,86,87,88,89,90,91,J 4]))
 (.lt Q2 [117,J 1] 127 none
 (.again 1 0 [127,118,119]))))))))
 (.done (.tup [J 0,65,66,67,68,69,70,71,72,73,74,75,76,77,78,79,80,81,82,83,84,85,86,87,88,94,102,119,J 0])))))
 .nil)))))))))
 .nil))
 (.lt Q0 [94,J 12] 109 none
 (.ite 109
 (.loop 110 0 [.vsl 1 1 [J 1],.nsl,J 0]
 (.cons 3
 (.lt Qe [91] 113 none
 (.lt Q5 [112,113] 114 none
 (.ite 114
 (.lt Qa [91,112] 115 none
 (.lt Qd [115] 116 (some 10)
 (.callF 121 ft121 [64,116,117,118,119,120,121,122,123,124,125] 126
 (.cons 11
 (.lt Q6 [147,J 0] 148 none
 (.ite 148
 (.done (.tup [J 0,65,66,67,68,69,70,71,72,73,74,75,76,77,78,79,80,81,82,83,84,85,86,87,88,89,90,91,147]))
 (.lt Q9 [110] 149 none
 (.lt Q5 [112,149] 150 none
 (.ite 150
 (.lt Q1 [110,112] 151 none
 (.lt Qi [110,151] 152 none
 (.call 154 [.agg [137,138,139,140,141,142,143,144,145,146],152] 153 [(some 10)]
 (.lt Qh [111,.agg [153,154,155,156,157,158,159,160,161,162]] 163 none
 (.lt Q2 [112,J 1] 164 none
 (.again 0 0 [110,163,164]))))))
 (.lt Qh [111,.agg [137,138,139,140,141,142,143,144,145,146]] 151 none
 (.lt Q2 [112,J 1] 152 none
 (.again 0 0 [110,151,152]))))))))
 .nil))))
 (.lt Qe [111] 115 none
 (.lt Q9 [110] 116 none
 (.lt Q7 [115,116] 117 none
 (.ite 117
 (.done (.tup [J 0,65,66,67,68,69,70,71,72,73,74,75,76,77,78,79,80,81,82,83,84,85,86,87,88,89,90,91,J 4]))
 (.loop 118 0 [J 0,110,111]
 (.cons 3
 (.lt Q9 [119] 121 none
 (.lt Q5 [118,121] 122 none
 (.ite 122
 (.lt Q1 [120,118] 123 none
 (.lt Qf [120,123] 124 none
 (.lt Q1 [119,118] 125 none
 (.lt Qi [119,125] 126 none
 (.lt Q7 [124,126] 127 none
 (.ite 127
 (.done (.tup [J 0,65,66,67,68,69,70,71,72,73,74,75,76,77,78,79,80,81,82,83,84,85,86,87,88,89,90,91,J 4]))
 (.lt Q2 [118,J 1] 128 none
 (.again 1 0 [128,119,120]))))))))
 (.done (.tup [J 0,65,66,67,68,69,70,71,72,73,74,75,76,77,78,79,80,81,82,83,84,85,86,87,88,94,102,120,J 0])))))
 .nil)))))))))
 .nil))
 (.loop 110 0 [.vsl 2 1 [J 1,J 2],.nsl,J 0]
 (.cons 3
 (.lt Qe [91] 113 none
 (.lt Q5 [112,113] 114 none
 (.ite 114
 (.lt Qa [91,112] 115 none
 (.lt Qd [115] 116 (some 10)
 (.callF 121 ft121 [64,116,117,118,119,120,121,122,123,124,125] 126
 (.cons 11
 (.lt Q6 [147,J 0] 148 none
 (.ite 148
 (.done (.tup [J 0,65,66,67,68,69,70,71,72,73,74,75,76,77,78,79,80,81,82,83,84,85,86,87,88,89,90,91,147]))
 (.lt Q9 [110] 149 none
 (.lt Q5 [112,149] 150 none
 (.ite 150
 (.lt Q1 [110,112] 151 none
 (.lt Qi [110,151] 152 none
 (.call 154 [.agg [137,138,139,140,141,142,143,144,145,146],152] 153 [(some 10)]
 (.lt Qh [111,.agg [153,154,155,156,157,158,159,160,161,162]] 163 none
 (.lt Q2 [112,J 1] 164 none
 (.again 0 0 [110,163,164]))))))
 (.lt Qh [111,.agg [137,138,139,140,141,142,143,144,145,146]] 151 none
 (.lt Q2 [112,J 1] 152 none
 (.again 0 0 [110,151,152]))))))))
 .nil))))
 (.lt Qe [111] 115 none
 (.lt Q9 [110] 116 none
 (.lt Q7 [115,116] 117 none
 (.ite 117
 (.done (.tup [J 0,65,66,67,68,69,70,71,72,73,74,75,76,77,78,79,80,81,82,83,84,85,86,87,88,89,90,91,J 4]))
 (.loop 118 0 [J 0,110,111]
 (.cons 3
 (.lt Q9 [119] 121 none
 (.lt Q5 [118,121] 122 none
 (.ite 122
 (.lt Q1 [120,118] 123 none
 (.lt Qf [120,123] 124 none
 (.lt Q1 [119,118] 125 none
 (.lt Qi [119,125] 126 none
 (.lt Q7 [124,126] 127 none
 (.ite 127
 (.done (.tup [J 0,65,66,67,68,69,70,71,72,73,74,75,76,77,78,79,80,81,82,83,84,85,86,87,88,89,90,91,J 4]))
 (.lt Q2 [118,J 1] 128 none
 (.again 1 0 [128,119,120]))))))))
 (.done (.tup [J 0,65,66,67,68,69,70,71,72,73,74,75,76,77,78,79,80,81,82,83,84,85,86,87,88,94,102,120,J 0])))))
 .nil)))))))))
 .nil))))))
 (.lt Q0 [94,J 10] 108 none
 (.ite 108
 (.lt Q0 [94,J 11] 109 none
 (.ite 109
 (.loop 110 0 [.vsl 1 1 [J 1],.nsl,J 0]
 (.cons 3
 (.lt Qe [91] 113 none
 (.lt Q5 [112,113] 114 none
 (.ite 114
 (.lt Qa [91,112] 115 none
 (.lt Qd [115] 116 (some 10)
 (.callF 121 ft121 [64,116,117,118,119,120,121,122,123,124,125] 126
 (.cons 11
 (.lt Q6 [147,J 0] 148 none
 (.ite 148
 (.done (.tup [J 0,65,66,67,68,69,70,71,72,73,74,75,76,77,78,79,80,81,82,83,84,85,86,87,88,89,90,91,147]))
 (.lt Q9 [110] 149 none
 (.lt Q5 [112,149] 150 none
 (.ite 150
 (.lt Q1 [110,112] 151 none
 (.lt Qi [110,151] 152 none
 (.call 154 [.agg [137,138,139,140,141,142,143,144,145,146],152] 153 [(some 10)]
 (.lt Qh [111,.agg [153,154,155,156,157,158,159,160,161,162]] 163 none
 (.lt Q2 [112,J 1] 164 none
 (.again 0 0 [110,163,164]))))))
 (.lt Qh [111,.agg [137,138,139,140,141,142,143,144,145,146]] 151 none
 (.lt Q2 [112,J 1] 152 none
 (.again 0 0 [110,151,152]))))))))
 .nil))))
 (.lt Qe [111] 115 none
 (.lt Q9 [110] 116 none
 (.lt Q7 [115,116] 117 none
 (.ite 117
 (.done (.tup [J 0,65,66,67,68,69,70,71,72,73,74,75,76,77,78,79,80,81,82,83,84,85,86,87,88,89,90,91,J 4]))
 (.loop 118 0 [J 0,110,111]
 (.cons 3
 (.lt Q9 [119] 121 none
 (.lt Q5 [118,121] 122 none
 (.ite 122
 (.lt Q1 [120,118] 123 none
 (.lt Qf [120,123] 124 none
 (.lt Q1 [119,118] 125 none
 (.lt Qi [119,125] 126 none
 (.lt Q7 [124,126] 127 none
 (.ite 127
 (.done (.tup [J 0,65,66,67,68,69,70,71,72,73,74,75,76,77,78,79,80,81,82,83,84,85,86,87,88,89,90,91,J 4]))
 (.lt Q2 [118,J 1] 128 none
 (.again 1 0 [128,119,120]))))))))
 (.done (.tup [J 0,65,66,67,68,69,70,71,72,73,74,75,76,77,78,79,80,81,82,83,84,85,86,87,88,94,102,120,J 0])))))
 .nil)))))))))
 .nil))
 (.lt Q0 [94,J 12] 110 none
 (.ite 110
 (.loop 111 0 [.vsl 1 1 [J 1],.nsl,J 0]
 (.cons 3
 (.lt Qe [91] 114 none
 (.lt Q5 [113,114] 115 none
 (.ite 115
 (.lt Qa [91,113] 116 none
 (.lt Qd [116] 117 (some 10)
 (.callF 121 ft121 [64,117,118,119,120,121,122,123,124,125,126] 127
 (.cons 11
 (.lt Q6 [148,J 0] 149 none
 (.ite 149
 (.done (.tup [J 0,65,66,67,68,69,70,71,72,73,74,75,76,77,78,79,80,81,82,83,84,85,86,87,88,89,90,91,148]))
 (.lt Q9 [111] 150 none
 (.lt Q5 [113,150] 151 none
 (.ite 151
 (.lt Q1 [111,113] 152 none
 (.lt Qi [111,152] 153 none
 (.call 154 [.agg [138,139,140,141,142,143,144,145,146,147],153] 154 [(some 10)]
 (.lt Qh [112,.agg [154,155,156,157,158,159,160,161,162,163]] 164 none
 (.lt Q2 [113,J 1] 165 none
 (.again 0 0 [111,164,165]))))))
 (.lt Qh [112,.agg [138,139,140,141,142,143,144,145,146,147]] 152 none
 (.lt Q2 [113,J 1] 153 none
 (.again 0 0 [111,152,153]))))))))
 .nil))))
 (.lt Qe [112] 116 none
 (.lt Q9 [111] 117 none
 (.lt Q7 [116,117] 118 none
 (.ite 118
 (.done (.tup [J 0,65,66,67,68,69,70,71,72,73,74,75,76,77,78,79,80,81,82,83,84,85,86,87,88,89,90,91,J 4]))
 (.loop 119 0 [J 0,111,112]
 (.cons 3
 (.lt Q9 [120] 122 none
 (.lt Q5 [119,122] 123 none
 (.ite 123
 (.lt Q1 [121,119] 124 none
 (.lt Qf [121,124] 125 none
 (.lt Q1 [120,119] 126 none
 (.lt Qi [120,126] 127 none
 (.lt Q7 [125,127] 128 none
 (.ite 128
 (.done (.tup [J 0,65,66,67,68,69,70,71,72,73,74,75,76,77,78,79,80,81,82,83,84,85,86,87,88,89,90,91,J 4]))
 (.lt Q2 [119,J 1] 129 none
 (.again 1 0 [129,120,121]))))))))
 (.done (.tup [J 0,65,66,67,68,69,70,71,72,73,74,75,76,77,78,79,80,81,82,83,84,85,86,87,88,94,102,121,J 0])))))
 .nil)))))))))
 .nil))
 (.loop 111 0 [.vsl 2 1 [J 1,J 2],.nsl,J 0]
 (.cons 3
 (.lt Qe [91] 114 none
 (.lt Q5 [113,114] 115 none
 (.ite 115
 (.lt Qa [91,113] 116 none
 (.lt Qd [116] 117 (some 10)
 (.callF 121 ft121 [64,117,118,119,120,121,122,123,124,125,126] 127
 (.cons 11
 (.lt Q6 [148,J 0] 149 none
 (.ite 149
 (.done (.tup [J 0,65,66,67,68,69,70,71,72,73,74,75,76,77,78,79,80,81,82,83,84,85,86,87,88,89,90,91,148]))
 (.lt Q9 [111] 150 none
 (.lt Q5 [113,150] 151 none
 (.ite 151
 (.lt Q1 [111,113] 152 none
 (.lt Qi [111,152] 153 none
 (.call 154 [.agg [138,139,140,141,142,143,144,145,146,147],153] 154 [(some 10)]
 (.lt Qh [112,.agg [154,155,156,157,158,159,160,161,162,163]] 164 none
 (.lt Q2 [113,J 1] 165 none
 (.again 0 0 [111,164,165]))))))
 (.lt Qh [112,.agg [138,139,140,141,142,143,144,145,146,147]] 152 none
 (.lt Q2 [113,J 1] 153 none
 (.again 0 0 [111,152,153]))))))))
 .nil))))
 (.lt Qe [112] 116 none
 (.lt Q9 [111] 117 none
 (.lt Q7 [116,117] 118 none
 (.ite 118
 (.done (.tup [J 0,65,66,67,68,69,70,71,72,73,74,75,76,77,78,79,80,81,82,83,84,85,86,87,88,89,90,91,J 4]))
 (.loop 119 0 [J 0,111,112]
 (.cons 3
 (.lt Q9 [120] 122 none
 (.lt Q5 [119,122] 123 none
 (.ite 123
 (.lt Q1 [121,119] 124 none
 (.lt Qf [121,124] 125 none
 (.lt Q1 [120,119] 126 none
 (.lt Qi [120,126] 127 none
 (.lt Q7 [125,127] 128 none
 (.ite 128
 (.done (.tup [J 0,65,66,67,68,69,70,71,72,73,74,75,76,77,78,79,80,81,82,83,84,85,86,87,88,89,90,91,J 4]))
 (.lt Q2 [119,J 1] 129 none
 (.again 1 0 [129,120,121]))))))))
 (.done (.tup [J 0,65,66,67,68,69,70,71,72,73,74,75,76,77,78,79,80,81,82,83,84,85,86,87,88,94,102,121,J 0])))))
 .nil)))))))))
 .nil))))))
 (.lt Q0 [94,J 11] 109 none
 (.ite 109
 (.loop 110 0 [.vsl 1 1 [J 1],.nsl,J 0]
 (.cons 3
 (.lt Qe [91] 113 none
 (.lt Q5 [112,113] 114 none
 (.ite 114
 (.lt Qa [91,112] 115 none
 (.lt Qd [115] 116 (some 10)
 (.callF 121 ft121 [64,116,117,118,119,120,121,122,123,124,125] 126
 (.cons 11
 (.lt Q6 [147,J 0] 148 none
 (.ite 148
 (.done (.tup [J 0,65,66,67,68,69,70,71,72,73,74,75,76,77,78,79,80,81,82,83,84,85,86,87,88,89,90,91,147]))
 (.lt Q9 [110] 149 none
 (.lt Q5 [112,149] 150 none
 (.ite 150
 (.lt Q1 [110,112] 151 none
 (.lt Qi [110,151] 152 none
 (.call 154 [.agg [137,138,139,140,141,142,143,144,145,146],152] 153 [(some 10)]
 (.lt Qh [111,.agg [153,154,155,156,157,158,159,160,161,162]] 163 none
 (.lt Q2 [112,J 1] 164 none
 (.again 0 0 [110,163,164]))))))
 (.lt Qh [111,.agg [137,138,139,140,141,142,143,144,145,146]] 151 none
 (.lt Q2 [112,J 1] 152 none
 (.again 0 0 [110,151,152]))))))))
 .nil))))
 (.lt Qe [111] 115 none
 (.lt Q9 [110] 116 none
 (.lt Q7 [115,116] 117 none
 (.ite 117
 (.done (.tup [J 0,65,66,67,68,69,70,71,72,73,74,75,76,77,78,79,80,81,82,83,84,85,86,87,88,89,90,91,J 4]))
 (.loop 118 0 [J 0,110,111]
 (.cons 3
 (.lt Q9 [119] 121 none
 (.lt Q5 [118,121] 122 none
 (.ite 122
 (.lt Q1 [120,118] 123 none
 (.lt Qf [120,123] 124 none
 (.lt Q1 [119,118] 125 none
 (.lt Qi [119,125] 126 none
 (.lt Q7 [124,126] 127 none
 (.ite 127
 (.done (.tup [J 0,65,66,67,68,69,70,71,72,73,74,75,76,77,78,79,80,81,82,83,84,85,86,87,88,89,90,91,J 4]))
 (.lt Q2 [118,J 1] 128 none
 (.again 1 0 [128,119,120]))))))))
 (.done (.tup [J 0,65,66,67,68,69,70,71,72,73,74,75,76,77,78,79,80,81,82,83,84,85,86,87,88,94,102,120,J 0])))))
 .nil)))))))))
 .nil))
 (.lt Q0 [94,J 12] 110 none
 (.ite 110
 (.loop 111 0 [.vsl 1 1 [J 1],.nsl,J 0]
 (.cons 3
 (.lt Qe [91] 114 none
 (.lt Q5 [113,114] 115 none
 (.ite 115
 (.lt Qa [91,113] 116 none
 (.lt Qd [116] 117 (some 10)
 (.callF 121 ft121 [64,117,118,119,120,121,122,123,124,125,126] 127
 (.cons 11
 (.lt Q6 [148,J 0] 149 none
 (.ite 149
 (.done (.tup [J 0,65,66,67,68,69,70,71,72,73,74,75,76,77,78,79,80,81,82,83,84,85,86,87,88,89,90,91,148]))
 (.lt Q9 [111] 150 none
 (.lt Q5 [113,150] 151 none
 (.ite 151
 (.lt Q1 [111,113] 152 none
 (.lt Qi [111,152] 153 none
 (.call 154 [.agg [138,139,140,141,142,143,144,145,146,147],153] 154 [(some 10)]
 (.lt Qh [112,.agg [154,155,156,157,158,159,160,161,162,163]] 164 none
 (.lt Q2 [113,J 1] 165 none
 (.again 0 0 [111,164,165]))))))
 (.lt Qh [112,.agg [138,139,140,141,142,143,144,145,146,147]] 152 none
 (.lt Q2 [113,J 1] 153 none
 (.again 0 0 [111,152,153]))))))))
 .nil))))
 (.lt Qe [112] 116 none
 (.lt Q9 [111] 117 none
 (.lt Q7 [116,117] 118 none
 (.ite 118
 (.done (.tup [J 0,65,66,67,68,69,70,71,72,73,74,75,76,77,78,79,80,81,82,83,84,85,86,87,88,89,90,91,J 4]))
 (.loop 119 0 [J 0,111,112]
 (.cons 3
 (.lt Q9 [120] 122 none
 (.lt Q5 [119,122] 123 none
 (.ite 123
 (.lt Q1 [121,119] 124 none
 (.lt Qf [121,124] 125 none
 (.lt Q1 [120,119] 126 none
 (.lt Qi [120,126] 127 none
 (.lt Q7 [125,127] 128 none
 (.ite 128
 (.done (.tup [J 0,65,66,67,68,69,70,71,72,73,74,75,76,77,78,79,80,81,82,83,84,85,86,87,88,89,90,91,J 4]))
 (.lt Q2 [119,J 1] 129 none
 (.again 1 0 [129,120,121]))))))))
 (.done (.tup [J 0,65,66,67,68,69,70,71,72,73,74,75,76,77,78,79,80,81,82,83,84,85,86,87,88,94,102,121,J 0])))))
 .nil)))))))))
 .nil))
 (.loop 111 0 [.vsl 2 1 [J 1,J 4],.nsl,J 0]
 (.cons 3
 (.lt Qe [91] 114 none
 (.lt Q5 [113,114] 115 none
 (.ite 115
 (.lt Qa [91,113] 116 none
 (.lt Qd [116] 117 (some 10)
 (.callF 121 ft121 [64,117,118,119,120,121,122,123,124,125,126] 127
 (.cons 11
 (.lt Q6 [148,J 0] 149 none
 (.ite 149
 (.done (.tup [J 0,65,66,67,68,69,70,71,72,73,74,75,76,77,78,79,80,81,82,83,84,85,86,87,88,89,90,91,148]))
 (.lt Q9 [111] 150 none
 (.lt Q5 [113,150] 151 none
 (.ite 151
 (.lt Q1 [111,113] 152 none
 (.lt Qi [111,152] 153 none
 (.call 154 [.agg [138,139,140,141,142,143,144,145,146,147],153] 154 [(some 10)]
 (.lt Qh [112,.agg [154,155,156,157,158,159,160,161,162,163]] 164 none
 (.lt Q2 [113,J 1] 165 none
 (.again 0 0 [111,164,165]))))))
 (.lt Qh [112,.agg [138,139,140,141,142,143,144,145,146,147]] 152 none
 (.lt Q2 [113,J 1] 153 none
 (.again 0 0 [111,152,153]))))))))
 .nil))))
 (.lt Qe [112] 116 none
 (.lt Q9 [111] 117 none
 (.lt Q7 [116,117] 118 none
 (.ite 118
 (.done (.tup [J 0,65,66,67,68,69,70,71,72,73,74,75,76,77,78,79,80,81,82,83,84,85,86,87,88,89,90,91,J 4]))
 (.loop 119 0 [J 0,111,112]
 (.cons 3
 (.lt Q9 [120] 122 none
 (.lt Q5 [119,122] 123 none
 (.ite 123
 (.lt Q1 [121,119] 124 none
 (.lt Qf [121,124] 125 none
 (.lt Q1 [120,119] 126 none
 (.lt Qi [120,126] 127 none
 (.lt Q7 [125,127] 128 none
 (.ite 128
 (.done (.tup [J 0,65,66,67,68,69,70,71,72,73,74,75,76,77,78,79,80,81,82,83,84,85,86,87,88,89,90,91,J 4]))
 (.lt Q2 [119,J 1] 129 none
 (.again 1 0 [129,120,121]))))))))
 (.done (.tup [J 0,65,66,67,68,69,70,71,72,73,74,75,76,77,78,79,80,81,82,83,84,85,86,87,88,94,102,121,J 0])))))
 .nil)))))))))
 .nil))))))))))))))))
def c78:VC:=⟨⟨[],[]⟩,[],[],0,true,[(121,ft121),(119,vq_),(120,uQ_),(46,ft46)]⟩
def t78:VT:=
 (.lt Q0 [65,J 1] 92 none
 (.ite 92
 (.callF 119 vq_ [64,65,66,67,68,69,70,71,72,73,74,75,76,77,78,79,80,81,82,83,84,85,86,87,88,89,90,91] 93
 (.cons 28
 (.done (.tup [J 0,121,122,123,124,125,126,127,128,129,130,131,132,133,134,135,136,137,138,139,140,141,142,143,144,145,146,147,148]))
 .nil))
 (.lt Q0 [65,J 4] 93 none
 (.ite 93
 (.callF 120 uQ_ [64,65,66,67,68,69,70,71,72,73,74,75,76,77,78,79,80,81,82,83,84,85,86,87,88,89,90,91] 94
 (.cons 28
 (.done (.tup [J 0,122,123,124,125,126,127,128,129,130,131,132,133,134,135,136,137,138,139,140,141,142,143,144,145,146,147,148,149]))
 .nil))
 (.callF 121 ft121 [64,76,77,78,79,80,81,82,83,84,85] 94
 (.cons 11
 (.lt Q6 [115,J 0] 116 none
 (.ite 116
 (.done (.tup [J 0,65,66,67,68,69,70,71,72,73,74,75,76,77,78,79,80,81,82,83,84,85,86,87,88,89,90,91,115]))
 (.lt Q3 [106,J 1] 117 none
 (.ite 117
 (.done (.tup [J 0,65,66,67,68,69,70,71,72,73,74,75,76,77,78,79,80,81,82,83,84,85,86,87,88,89,90,91,J 4]))
 (.callF 46 ft46 [64,86] 118
 (.cons 2
 (.lt Q6 [121,J 0] 122 none
 (.ite 122
 (.done (.tup [J 0,65,66,67,68,69,70,71,72,73,74,75,105,106,107,108,109,110,111,112,113,114,120,87,88,89,90,91,121]))
 (.callF 46 ft46 [64,87] 123
 (.cons 2
 (.done (.tup [J 0,65,66,67,68,69,70,71,72,73,74,75,105,106,107,108,109,110,111,112,113,114,120,125,88,89,90,91,126]))
 .nil))))
 .nil))))))
 .nil))))))
def c46:VC:=⟨⟨[],[]⟩,[],[(0,[⟨[(6,.slx 0 27 0),(7,.slx 1 0 0),(1,65),(0,64)],[],1,2,[⟨0,27,0,6,none⟩],[],[]⟩])],0,true,[(78,ft78)]⟩
def t46:VT:=
 (.loop 66 0 [.nsl,J 0]
 (.cons 2
 (.lt Za [65] 68 none
 (.lt Q5 [67,68] 69 none
 (.ite 69
 (.lt Qw [65,67] 70 none
 (.lt (.load 52) [70] 71 (some 27)
 (.callF 78 ft78 [64,71,72,73,74,75,76,77,78,79,80,81,82,83,84,85,86,87,88,89,90,91,92,93,94,95,96,97] 98
 (.cons 28
 (.lt Q6 [153,J 0] 154 none
 (.ite 154
 (.done (.tup [J 0,.nsl,153]))
 (.lt Zg [66,.agg [126,127,128,129,130,131,132,133,134,135,136,137,138,139,140,141,142,143,144,145,146,147,148,149,150,151,152]] 155 none
 (.lt Q2 [67,J 1] 156 none
 (.again 0 0 [155,156])))))
 .nil))))
 (.done (.tup [J 0,66,J 0])))))
 .nil))
theorem xh_ {nm fd:List UInt8} (h:(nm,fd)∈jW_\/nm=[107]):∃(s:List UInt8) (r k z a b:Int) (c:Nat) (d e:Int) (f:Nat) (g:Int),V_ Tryz.prog 153 [VARS,.str nm] (.tup [.agg [.str s,.int .i64 r,.int .i64 k,.int .i64 z,.int .i64 a,.int .i64 b,.flt .f64 c,.int .i64 d,.int .i64 e,.flt .f64 f],.int .i64 g,.bool true])/\(nm,r)∈uJ_:=by
 rcases h with h|rfl
 .simp only [jW_,List.mem_cons,Prod.mk.injEq,List.not_mem_nil,or_false]at h
  rcases h with ⟨rfl,rfl⟩|⟨rfl,rfl⟩|⟨rfl,rfl⟩|⟨rfl,rfl⟩|⟨rfl,rfl⟩|⟨rfl,rfl⟩|⟨rfl,rfl⟩|⟨rfl,rfl⟩|⟨rfl,rfl⟩|⟨rfl,rfl⟩|⟨rfl,rfl⟩
  .exact ⟨_,_,_,_,_,_,_,_,_,_,_,uX_,by decide⟩
  .exact ⟨_,_,_,_,_,_,_,_,_,_,_,so_,by decide⟩
  .exact ⟨_,_,_,_,_,_,_,_,_,_,_,cN_,by decide⟩
  .exact ⟨_,_,_,_,_,_,_,_,_,_,_,vm_,by decide⟩
  .exact ⟨_,_,_,_,_,_,_,_,_,_,_,sn_,by decide⟩
  .exact ⟨_,_,_,_,_,_,_,_,_,_,_,rt_,by decide⟩
  .exact ⟨_,_,_,_,_,_,_,_,_,_,_,qA_,by decide⟩
  .exact ⟨_,_,_,_,_,_,_,_,_,_,_,se_,by decide⟩
  .exact ⟨_,_,_,_,_,_,_,_,_,_,_,cN_,by decide⟩
  .exact ⟨_,_,_,_,_,_,_,_,_,_,_,rs_,by decide⟩
  .exact ⟨_,_,_,_,_,_,_,_,_,_,_,sq_,by decide⟩
 .exact ⟨_,_,_,_,_,_,_,_,_,_,_,nK_,by decide⟩
def Blk (kd ad:Int) (ks:List Int):Prop:=(kd=6/\ad=12/\ks=[1,4])\/(kd=9/\ad=16/\ks=[1,2])\/(kd=11/\ad=19/\ks=[1])
def TS:Nat->GS->Prop
 |0,_=>False
 |d+1,.mk op to e thn els nm kd ad args=>
  (op=1/\TX 5 to/\(to.op=2/\(to.ad,to.kd)∈wrL\/to.op=3)/\TX 6 e/\e.kd=to.kd/\thn=[]/\els=[])\/
  ((op=2\/op=3)/\TX 5 e/\e.kd=1/\thn.length<=5/\els.length<=5/\(∀s∈thn,TS d s)/\∀s∈els,TS d s)\/
  (op=4/\Blk kd ad (args.map GX.kd)/\(∀a∈args,TX 5 a)/\thn=[]/\els=[])
def LK (x y:GS):Prop:=match x,y with
 | .mk op to ..,.mk op' to' .. =>op=1->op'=1/\NT to to'
def RT (d:Nat) (x:GS):Nat->List AV->Prop:=λ_ ws=>∃(y:GS) (e:Int),ws=b5_ y++[.int .i64 e]/\(e=0->TS d y/\LK x y)
def LKs (l y:List GS):Prop:=∀(j:Nat) (h1:j<l.length) (h2:j<y.length),LK l[j] y[j]
def RU (d:Nat) (l:List GS):Nat->List AV->Prop:=λ_ ws=>∃(y:List GS) (e:Int),ws=[ck_ y,.int .i64 e]/\(e=0->y.length=l.length/\(∀s∈y,TS d s)/\LKs l y)
theorem cK_ {d j:Nat} {x y:GS} {e:Int} {hv:List AV} {Y:Sy} {L:List (Nat->List AV->Prop)} (h:e_ Y.v hv=b5_ y++[.int .i64 e]) (hw:e=0->TS d y/\LK x y):T_ Tryz.prog (QF (RT d x)) L Y (.done (.tup (.int .i64 (.ofNat j)::hv))):=
 VOK_fin (by rw [h];exact AI_ y e) ⟨y,e,h,hw⟩
theorem sC_ (x:GX):B_ (VARS::aH_ x)=true:=by rw [H_];exact okX x
theorem y5_ (x:GS):B_ (VARS::b5_ x)=true:=by rw [H_];exact okS x
theorem Cz_ (d:Nat) (to e:GX) (thn els:List GS) (nm:List UInt8) (kd ad:Int) (args:List GX) (ht:WX 5 to) (ho:to.op=2\/to.op=3) (he:WX 6 e) (hnil:thn=[]/\els=[]):
  CF Tryz.prog 119 vq_ (VARS::b5_ (.mk 1 to e thn els nm kd ad args)) (RT (d+1) (.mk 1 to e thn els nm kd ad args)):=by
 have h1:=qh_ 5 to ht
 have h2:=qh_ 6 e he
 obtain ⟨to1,to2,to3,to4,to5,to6,to7,to8,to9,to10⟩:=to
 obtain ⟨e1,e2,e3,e4,e5,e6,e7,e8,e9,e10⟩:=e
 refine A_ (c:=BG_) (n:=300) (t:=AL_) mo ov rfl (λY _=>l_ _) (by kernel_rfl) λY hf hg=>?_
 unfold AL_
 refine g_ h2 rfl (sC_ _) ⟨?_,trivial⟩
 rintro ws ⟨⟨y1,y2,y3,y4,y5,y6,y7,y8,y9,y10⟩,er,rfl,hy⟩
 (refine h_ rfl rfl ?_ ?_<;>intro h<;>simp only [nc]at h<;>try (exfalso;omega))
 ·(exact cK_ (y:=.mk _ (.mk _ _ _ _ _ _ _ _ _ _) (.mk _ _ _ _ _ _ _ _ _ _) _ _ _ _ _ _) rfl (λhe=>absurd he (by first|assumption|decide)))
 have hy:=(hy h).1
 refine g_ h1 rfl (sC_ _) ⟨?_,trivial⟩
 rintro ws ⟨⟨z1,z2,z3,z4,z5,z6,z7,z8,z9,z10⟩,er2,rfl,hz⟩
 (refine h_ rfl rfl ?_ ?_<;>intro h<;>simp only [nc]at h<;>try (exfalso;omega))
 ·(exact cK_ (y:=.mk _ (.mk _ _ _ _ _ _ _ _ _ _) (.mk _ _ _ _ _ _ _ _ _ _) _ _ _ _ _ _) rfl (λhe=>absurd he (by first|assumption|decide)))
 have hz:=hz h
 obtain ⟨s,r,k,z,a,b,c,d',e',f,g,hp,hro⟩:=xh_ (nm:=to3) (fd:=to4) (by
  have ht':Nod to1 to2 to3 to4 to7 to8 to9:=ht.2.2.1
  rcases ho with ho|ho
  .exact .inl (ht'.2.1 ho)
  .exact .inr (ht'.2.2.1 ho))
 refine c_ hp rfl rfl ?_
 refine b_ (xC_ ..) rfl (f_ rfl (λh=>?_) (λhfd=>?_))
 ·(exact cK_ (y:=.mk _ (.mk _ _ _ _ _ _ _ _ _ _) (.mk _ _ _ _ _ _ _ _ _ _) _ _ _ _ _ _) rfl (λhe=>absurd he (by first|assumption|decide)))
 (refine h_ rfl rfl ?_ ?_<;>intro h<;>simp only [nc]at h<;>try (exfalso;omega))
 ·(exact cK_ (y:=.mk _ (.mk _ _ _ _ _ _ _ _ _ _) (.mk _ _ _ _ _ _ _ _ _ _) _ _ _ _ _ _) rfl (λhe=>absurd he (by first|assumption|decide)))
 have hr1:=h
 obtain ⟨⟨yo1,yk1,ynm1,yfd1,yad1,yn1,yvk1,yvi1,yvf1,ya1⟩,hp1,hy1⟩:=tq_ _ z2 hy
 refine c_ hp1 rfl (tl_ _) ?_
 (refine h_ rfl rfl ?_ ?_<;>intro h<;>simp only [nc]at h<;>try (exfalso;omega))
 ·(exact cK_ (y:=.mk _ (.mk _ _ _ _ _ _ _ _ _ _) (.mk _ _ _ _ _ _ _ _ _ _) _ _ _ _ _ _) rfl (λhe=>absurd he (by first|assumption|decide)))
 .rcases ho with ho|ho
  .exact cK_ (y:=.mk 1 (.mk _ _ _ _ _ _ _ _ _ _) (.mk _ _ _ _ _ _ _ _ _ _) _ _ _ _ _ _) rfl (λ_=>⟨.inl ⟨rfl,hz.1,.inl ⟨hz.2.1.trans ho,tie_wr _ (hz.2.2 ho) _ hro (by simpa using hfd) rfl hr1⟩,hy1,h,hnil⟩,λ_=>⟨rfl,hz.2.2⟩⟩)
  .exact cK_ (y:=.mk 1 (.mk _ _ _ _ _ _ _ _ _ _) (.mk _ _ _ _ _ _ _ _ _ _) _ _ _ _ _ _) rfl (λ_=>⟨.inl ⟨rfl,hz.1,.inr (hz.2.1.trans ho),hy1,h,hnil⟩,λ_=>⟨rfl,hz.2.2⟩⟩)
theorem tx_ {d:Nat} {acc:List GX} {y:GX} (h:∀a∈acc,TX d a) (hy:TX d y):∀a∈acc++[y],TX d a:=λa ha=>by
 rcases List.mem_append.1 ha with ha|ha
 .exact h a ha
 .cases List.mem_singleton.1 ha;exact hy
theorem B5_ (d:Nat) (to e:GX) (thn els:List GS) (nm:List UInt8) (kd ad:Int) (args:List GX) (hn:nm=[116,109]\/nm=[99]\/nm=[101]) (hl:args.length<=2) (hW:∀a∈args,WX 5 a) (hnil:thn=[]/\els=[]):
  CF Tryz.prog 120 uQ_ (VARS::b5_ (.mk 4 to e thn els nm kd ad args)) (RT (d+1) (.mk 4 to e thn els nm kd ad args)):=by
 obtain ⟨to1,to2,to3,to4,to5,to6,to7,to8,to9,to10⟩:=to
 obtain ⟨e1,e2,e3,e4,e5,e6,e7,e8,e9,e10⟩:=e
 refine A_ (c:=BQ_) (n:=300) (t:=z6_) mo ov rfl (λY _=>l_ _) (by kernel_rfl) λY hf hg=>?_
 unfold z6_
 rcases hn with rfl|rfl|rfl
 .refine c_ cN_ rfl rfl (b_ rfl rfl (f_ rfl (λh=>by cases h) (λ_=>c_ vw_ rfl rfl ?_)))
  (refine h_ rfl rfl ?_ ?_<;>intro h<;>simp only [nc]at h<;>try (exfalso;omega));(refine h_ rfl rfl ?_ ?_<;>intro h<;>simp only [nc]at h<;>try (exfalso;omega));(refine h_ rfl rfl ?_ ?_<;>intro h<;>simp only [nc]at h<;>try (exfalso;omega));(refine h_ rfl rfl ?_ ?_<;>intro h<;>simp only [nc]at h<;>try (exfalso;omega));(refine h_ rfl rfl ?_ ?_<;>intro h<;>simp only [nc]at h<;>try (exfalso;omega))
  (
   refine Y_ (ι:=List GX×Nat) (λs=>[(.vsl 2 1 [.int .i64 1,.int .i64 4]),cy_ s.1,.int .i64 (s.2:Int)]) (λs=>s.1.length=s.2/\s.2<=args.length/\∀a∈s.1,TX 5 a) (λs=>args.length-s.2) ([],0) ⟨rfl,Nat.zero_le _,λa ha=>(List.not_mem_nil ha).elim⟩ rfl (λs _=>by simp only [B_,I_,okA]) (λs s' _ _ h=>by simp at h;omega) (λs hs=>?_)
   obtain ⟨acc,i⟩:=s
   obtain ⟨h1,h2,h3⟩:=hs
   simp only at h1 h2 h3⊢
   refine b_ (bL_ args) rfl ?_
   (refine h_ rfl rfl ?_ ?_<;>intro h<;>simp only [nc]at h<;>try (exfalso;omega))
   .have hi:i<args.length:=by omega
    have hld:=bW_ args hi
    have hz:=qh_ 5 args[i] (hW _ (List.getElem_mem hi))
    rcases hzz:args[i]with ⟨zo,zk,znm,zfd,zad,zn,zvk,zvi,zvf,za⟩
    rw [hzz]at hld hz
    refine b_ (bS_ args hi) (i_ okX _) (n_ hld rfl (okX _) ?_)
    refine g_ hz rfl (sC_ _) ⟨?_,trivial⟩
    rintro ws ⟨⟨yo,yk,ynm,yfd,yad,yn,yvk,yvi,yvf,ya⟩,e,rfl,hy⟩
    (refine h_ rfl rfl ?_ ?_<;>intro h<;>simp only [nc]at h<;>try (exfalso;omega))
    ·(exact cK_ (y:=.mk _ (.mk _ _ _ _ _ _ _ _ _ _) (.mk _ _ _ _ _ _ _ _ _ _) _ _ _ _ _ _) rfl (λhe=>absurd he (by first|assumption|decide)))
    have hy:=(hy h).1
    refine b_ (r:=.int .i64 2) rfl rfl ?_
    (refine h_ rfl rfl ?_ ?_<;>intro h<;>simp only [nc]at h<;>try (exfalso;omega))
    all_goals first
     |(have hi2:i=0\/i=1:=by omega
       rcases hi2 with rfl|rfl
       all_goals try (exfalso;omega)
       all_goals
        refine b_ rfl rfl (b_ rfl rfl ?_)
        obtain ⟨⟨yo1,yk1,ynm1,yfd1,yad1,yn1,yvk1,yvi1,yvf1,ya1⟩,hp1,hy1⟩:=tq_ _ _ hy
        refine c_ hp1 rfl (tl_ _) ?_
        refine b_ (cg_ acc (.mk yo1 yk1 ynm1 yfd1 yad1 yn1 yvk1 yvi1 yvf1 ya1) (by omega)) (okA _) (b_ (ax_ (by omega) (by omega)) rfl (s_ rfl ⟨(acc++[_],_),⟨by rw [List.length_append,h1];rfl,hi,tx_ h3 hy1⟩,rfl,by simp only;omega⟩)))
     |exact b_ (cg_ acc (.mk yo yk ynm yfd yad yn yvk yvi yvf ya) (by omega)) (okA _) (b_ (ax_ (by omega) (by omega)) rfl (s_ rfl ⟨(acc++[_],i+1),⟨by rw [List.length_append,h1];rfl,hi,tx_ h3 hy⟩,rfl,by simp only;omega⟩))
   have hi:i=args.length:=by omega
   subst hi
   refine b_ (bL_ acc) rfl (b_ (r:=.int .i64 2) rfl rfl ?_))
  (refine h_ rfl rfl ?_ ?_<;>intro h<;>simp only [nc]at h<;>try (exfalso;omega))
  ·(exact cK_ (y:=.mk _ (.mk _ _ _ _ _ _ _ _ _ _) (.mk _ _ _ _ _ _ _ _ _ _) _ _ _ _ _ _) rfl (λhe=>absurd he (by first|assumption|decide)))
  have ha:acc.length=2:=by
   have h':(acc.length:Int)=2:=h
   omega
  obtain ⟨y,z,rfl⟩:∃y z,acc=[y,z]:=by
   rcases acc with _|⟨y,_|⟨z,_|⟨w,t⟩⟩⟩<;>simp at ha
   exact ⟨y,z,rfl⟩
  obtain ⟨y1,y2,y3,y4,y5,y6,y7,y8,y9,y10⟩:=y
  obtain ⟨z1,z2,z3,z4,z5,z6,z7,z8,z9,z10⟩:=z
  refine Y_ (ι:=Nat) (λi=>[.int .i64 (i:Int),.vsl 2 1 [.int .i64 1,.int .i64 4],cy_ [.mk y1 y2 y3 y4 y5 y6 y7 y8 y9 y10,.mk z1 z2 z3 z4 z5 z6 z7 z8 z9 z10]]) (λi=>i<=2/\(1<=i->y2=1)/\(2<=i->z2=4)) (λi=>2-i) 0 ⟨by decide,λh=>by omega,λh=>by omega⟩ rfl (λs _=>by simp only [B_,I_,okA]) (λs s' _ _ h=>by simp at h;omega) (λi hi=>?_)
  obtain ⟨i1,i2,i3⟩:=hi
  refine b_ (r:=.int .i64 2) rfl rfl ?_
  (refine h_ rfl rfl ?_ ?_<;>intro h<;>simp only [nc]at h<;>try (exfalso;omega))
  .have hi2:i=0\/i=1:=by omega
   rcases hi2 with rfl|rfl
   .refine b_ (r:=.int .i64 0) rfl rfl (b_ (r:=.int .i64 y2) rfl rfl (b_ (r:=.int .i64 0) rfl rfl (b_ (r:=.int .i64 1) rfl rfl ?_)))
    (refine h_ rfl rfl ?_ ?_<;>intro h<;>simp only [nc]at h<;>try (exfalso;omega))
    ·(exact cK_ (y:=.mk _ (.mk _ _ _ _ _ _ _ _ _ _) (.mk _ _ _ _ _ _ _ _ _ _) _ _ _ _ _ _) rfl (λhe=>absurd he (by first|assumption|decide)))
    .exact b_ (ax_ (by omega) (by omega)) rfl (s_ rfl ⟨1,⟨by decide,λ_=>h,λh=>by omega⟩,rfl,by decide⟩)
   .refine b_ (r:=.int .i64 1) rfl rfl (b_ (r:=.int .i64 z2) rfl rfl (b_ (r:=.int .i64 1) rfl rfl (b_ (r:=.int .i64 4) rfl rfl ?_)))
    (refine h_ rfl rfl ?_ ?_<;>intro h<;>simp only [nc]at h<;>try (exfalso;omega))
    ·(exact cK_ (y:=.mk _ (.mk _ _ _ _ _ _ _ _ _ _) (.mk _ _ _ _ _ _ _ _ _ _) _ _ _ _ _ _) rfl (λhe=>absurd he (by first|assumption|decide)))
    .exact b_ (ax_ (by omega) (by omega)) rfl (s_ rfl ⟨2,⟨by decide,λ_=>i2 (by decide),λ_=>h⟩,rfl,by decide⟩)
  .refine cK_ (y:=.mk 4 (.mk _ _ _ _ _ _ _ _ _ _) (.mk _ _ _ _ _ _ _ _ _ _) _ _ _ _ _ [.mk _ _ _ _ _ _ _ _ _ _,.mk _ _ _ _ _ _ _ _ _ _]) rfl (λ_=>⟨.inr (.inr ⟨rfl,?_,h3,hnil⟩),λh=>by omega⟩)
   cases i2 (by omega)
   cases i3 (by omega)
   exact .inl ⟨rfl,rfl,rfl⟩
 .refine c_ qA_ rfl rfl (b_ rfl rfl (f_ rfl (λh=>by cases h) (λ_=>c_ yo_ rfl rfl ?_)))
  repeat (refine h_ rfl rfl ?_ ?_<;>intro h<;>simp only [nc]at h<;>try (exfalso;omega))
  (
   refine Y_ (ι:=List GX×Nat) (λs=>[(.vsl 2 1 [.int .i64 1,.int .i64 2]),cy_ s.1,.int .i64 (s.2:Int)]) (λs=>s.1.length=s.2/\s.2<=args.length/\∀a∈s.1,TX 5 a) (λs=>args.length-s.2) ([],0) ⟨rfl,Nat.zero_le _,λa ha=>(List.not_mem_nil ha).elim⟩ rfl (λs _=>by simp only [B_,I_,okA]) (λs s' _ _ h=>by simp at h;omega) (λs hs=>?_)
   obtain ⟨acc,i⟩:=s
   obtain ⟨h1,h2,h3⟩:=hs
   simp only at h1 h2 h3⊢
   refine b_ (bL_ args) rfl ?_
   (refine h_ rfl rfl ?_ ?_<;>intro h<;>simp only [nc]at h<;>try (exfalso;omega))
   .have hi:i<args.length:=by omega
    have hld:=bW_ args hi
    have hz:=qh_ 5 args[i] (hW _ (List.getElem_mem hi))
    rcases hzz:args[i]with ⟨zo,zk,znm,zfd,zad,zn,zvk,zvi,zvf,za⟩
    rw [hzz]at hld hz
    refine b_ (bS_ args hi) (i_ okX _) (n_ hld rfl (okX _) ?_)
    refine g_ hz rfl (sC_ _) ⟨?_,trivial⟩
    rintro ws ⟨⟨yo,yk,ynm,yfd,yad,yn,yvk,yvi,yvf,ya⟩,e,rfl,hy⟩
    (refine h_ rfl rfl ?_ ?_<;>intro h<;>simp only [nc]at h<;>try (exfalso;omega))
    ·(exact cK_ (y:=.mk _ (.mk _ _ _ _ _ _ _ _ _ _) (.mk _ _ _ _ _ _ _ _ _ _) _ _ _ _ _ _) rfl (λhe=>absurd he (by first|assumption|decide)))
    have hy:=(hy h).1
    refine b_ (r:=.int .i64 2) rfl rfl ?_
    (refine h_ rfl rfl ?_ ?_<;>intro h<;>simp only [nc]at h<;>try (exfalso;omega))
    all_goals first
     |(have hi2:i=0\/i=1:=by omega
       rcases hi2 with rfl|rfl
       all_goals try (exfalso;omega)
       all_goals
        refine b_ rfl rfl (b_ rfl rfl ?_)
        obtain ⟨⟨yo1,yk1,ynm1,yfd1,yad1,yn1,yvk1,yvi1,yvf1,ya1⟩,hp1,hy1⟩:=tq_ _ _ hy
        refine c_ hp1 rfl (tl_ _) ?_
        refine b_ (cg_ acc (.mk yo1 yk1 ynm1 yfd1 yad1 yn1 yvk1 yvi1 yvf1 ya1) (by omega)) (okA _) (b_ (ax_ (by omega) (by omega)) rfl (s_ rfl ⟨(acc++[_],_),⟨by rw [List.length_append,h1];rfl,hi,tx_ h3 hy1⟩,rfl,by simp only;omega⟩)))
     |exact b_ (cg_ acc (.mk yo yk ynm yfd yad yn yvk yvi yvf ya) (by omega)) (okA _) (b_ (ax_ (by omega) (by omega)) rfl (s_ rfl ⟨(acc++[_],i+1),⟨by rw [List.length_append,h1];rfl,hi,tx_ h3 hy⟩,rfl,by simp only;omega⟩))
   have hi:i=args.length:=by omega
   subst hi
   refine b_ (bL_ acc) rfl (b_ (r:=.int .i64 2) rfl rfl ?_))
  (refine h_ rfl rfl ?_ ?_<;>intro h<;>simp only [nc]at h<;>try (exfalso;omega))
  ·(exact cK_ (y:=.mk _ (.mk _ _ _ _ _ _ _ _ _ _) (.mk _ _ _ _ _ _ _ _ _ _) _ _ _ _ _ _) rfl (λhe=>absurd he (by first|assumption|decide)))
  have ha:acc.length=2:=by
   have h':(acc.length:Int)=2:=h
   omega
  obtain ⟨y,z,rfl⟩:∃y z,acc=[y,z]:=by
   rcases acc with _|⟨y,_|⟨z,_|⟨w,t⟩⟩⟩<;>simp at ha
   exact ⟨y,z,rfl⟩
  obtain ⟨y1,y2,y3,y4,y5,y6,y7,y8,y9,y10⟩:=y
  obtain ⟨z1,z2,z3,z4,z5,z6,z7,z8,z9,z10⟩:=z
  refine Y_ (ι:=Nat) (λi=>[.int .i64 (i:Int),.vsl 2 1 [.int .i64 1,.int .i64 2],cy_ [.mk y1 y2 y3 y4 y5 y6 y7 y8 y9 y10,.mk z1 z2 z3 z4 z5 z6 z7 z8 z9 z10]]) (λi=>i<=2/\(1<=i->y2=1)/\(2<=i->z2=2)) (λi=>2-i) 0 ⟨by decide,λh=>by omega,λh=>by omega⟩ rfl (λs _=>by simp only [B_,I_,okA]) (λs s' _ _ h=>by simp at h;omega) (λi hi=>?_)
  obtain ⟨i1,i2,i3⟩:=hi
  refine b_ (r:=.int .i64 2) rfl rfl ?_
  (refine h_ rfl rfl ?_ ?_<;>intro h<;>simp only [nc]at h<;>try (exfalso;omega))
  .have hi2:i=0\/i=1:=by omega
   rcases hi2 with rfl|rfl
   .refine b_ (r:=.int .i64 0) rfl rfl (b_ (r:=.int .i64 y2) rfl rfl (b_ (r:=.int .i64 0) rfl rfl (b_ (r:=.int .i64 1) rfl rfl ?_)))
    (refine h_ rfl rfl ?_ ?_<;>intro h<;>simp only [nc]at h<;>try (exfalso;omega))
    ·(exact cK_ (y:=.mk _ (.mk _ _ _ _ _ _ _ _ _ _) (.mk _ _ _ _ _ _ _ _ _ _) _ _ _ _ _ _) rfl (λhe=>absurd he (by first|assumption|decide)))
    .exact b_ (ax_ (by omega) (by omega)) rfl (s_ rfl ⟨1,⟨by decide,λ_=>h,λh=>by omega⟩,rfl,by decide⟩)
   .refine b_ (r:=.int .i64 1) rfl rfl (b_ (r:=.int .i64 z2) rfl rfl (b_ (r:=.int .i64 1) rfl rfl (b_ (r:=.int .i64 2) rfl rfl ?_)))
    (refine h_ rfl rfl ?_ ?_<;>intro h<;>simp only [nc]at h<;>try (exfalso;omega))
    ·(exact cK_ (y:=.mk _ (.mk _ _ _ _ _ _ _ _ _ _) (.mk _ _ _ _ _ _ _ _ _ _) _ _ _ _ _ _) rfl (λhe=>absurd he (by first|assumption|decide)))
    .exact b_ (ax_ (by omega) (by omega)) rfl (s_ rfl ⟨2,⟨by decide,λ_=>i2 (by decide),λ_=>h⟩,rfl,by decide⟩)
  .refine cK_ (y:=.mk 4 (.mk _ _ _ _ _ _ _ _ _ _) (.mk _ _ _ _ _ _ _ _ _ _) _ _ _ _ _ [.mk _ _ _ _ _ _ _ _ _ _,.mk _ _ _ _ _ _ _ _ _ _]) rfl (λ_=>⟨.inr (.inr ⟨rfl,?_,h3,hnil⟩),λh=>by omega⟩)
   cases i2 (by omega)
   cases i3 (by omega)
   exact .inr (.inl ⟨rfl,rfl,rfl⟩)
 .refine c_ wX_ rfl rfl (b_ rfl rfl (f_ rfl (λh=>by cases h) (λ_=>c_ yU_ rfl rfl ?_)))
  repeat (refine h_ rfl rfl ?_ ?_<;>intro h<;>simp only [nc]at h<;>try (exfalso;omega))
  (
   refine Y_ (ι:=List GX×Nat) (λs=>[(.vsl 1 1 [.int .i64 1]),cy_ s.1,.int .i64 (s.2:Int)]) (λs=>s.1.length=s.2/\s.2<=args.length/\∀a∈s.1,TX 5 a) (λs=>args.length-s.2) ([],0) ⟨rfl,Nat.zero_le _,λa ha=>(List.not_mem_nil ha).elim⟩ rfl (λs _=>by simp only [B_,I_,okA]) (λs s' _ _ h=>by simp at h;omega) (λs hs=>?_)
   obtain ⟨acc,i⟩:=s
   obtain ⟨h1,h2,h3⟩:=hs
   simp only at h1 h2 h3⊢
   refine b_ (bL_ args) rfl ?_
   (refine h_ rfl rfl ?_ ?_<;>intro h<;>simp only [nc]at h<;>try (exfalso;omega))
   .have hi:i<args.length:=by omega
    have hld:=bW_ args hi
    have hz:=qh_ 5 args[i] (hW _ (List.getElem_mem hi))
    rcases hzz:args[i]with ⟨zo,zk,znm,zfd,zad,zn,zvk,zvi,zvf,za⟩
    rw [hzz]at hld hz
    refine b_ (bS_ args hi) (i_ okX _) (n_ hld rfl (okX _) ?_)
    refine g_ hz rfl (sC_ _) ⟨?_,trivial⟩
    rintro ws ⟨⟨yo,yk,ynm,yfd,yad,yn,yvk,yvi,yvf,ya⟩,e,rfl,hy⟩
    (refine h_ rfl rfl ?_ ?_<;>intro h<;>simp only [nc]at h<;>try (exfalso;omega))
    ·(exact cK_ (y:=.mk _ (.mk _ _ _ _ _ _ _ _ _ _) (.mk _ _ _ _ _ _ _ _ _ _) _ _ _ _ _ _) rfl (λhe=>absurd he (by first|assumption|decide)))
    have hy:=(hy h).1
    refine b_ (r:=.int .i64 1) rfl rfl ?_
    (refine h_ rfl rfl ?_ ?_<;>intro h<;>simp only [nc]at h<;>try (exfalso;omega))
    all_goals first
     |(have hi2:i=0\/i=1:=by omega
       rcases hi2 with rfl|rfl
       all_goals try (exfalso;omega)
       all_goals
        refine b_ rfl rfl (b_ rfl rfl ?_)
        obtain ⟨⟨yo1,yk1,ynm1,yfd1,yad1,yn1,yvk1,yvi1,yvf1,ya1⟩,hp1,hy1⟩:=tq_ _ _ hy
        refine c_ hp1 rfl (tl_ _) ?_
        refine b_ (cg_ acc (.mk yo1 yk1 ynm1 yfd1 yad1 yn1 yvk1 yvi1 yvf1 ya1) (by omega)) (okA _) (b_ (ax_ (by omega) (by omega)) rfl (s_ rfl ⟨(acc++[_],_),⟨by rw [List.length_append,h1];rfl,hi,tx_ h3 hy1⟩,rfl,by simp only;omega⟩)))
     |exact b_ (cg_ acc (.mk yo yk ynm yfd yad yn yvk yvi yvf ya) (by omega)) (okA _) (b_ (ax_ (by omega) (by omega)) rfl (s_ rfl ⟨(acc++[_],i+1),⟨by rw [List.length_append,h1];rfl,hi,tx_ h3 hy⟩,rfl,by simp only;omega⟩))
   have hi:i=args.length:=by omega
   subst hi
   refine b_ (bL_ acc) rfl (b_ (r:=.int .i64 1) rfl rfl ?_))
  (refine h_ rfl rfl ?_ ?_<;>intro h<;>simp only [nc]at h<;>try (exfalso;omega))
  ·(exact cK_ (y:=.mk _ (.mk _ _ _ _ _ _ _ _ _ _) (.mk _ _ _ _ _ _ _ _ _ _) _ _ _ _ _ _) rfl (λhe=>absurd he (by first|assumption|decide)))
  have ha:acc.length=1:=by
   have h':(acc.length:Int)=1:=h
   omega
  obtain ⟨y,rfl⟩:=List.length_eq_one_iff.1 ha
  obtain ⟨y1,y2,y3,y4,y5,y6,y7,y8,y9,y10⟩:=y
  refine Y_ (ι:=Nat) (λi=>[.int .i64 (i:Int),.vsl 1 1 [.int .i64 1],cy_ [.mk y1 y2 y3 y4 y5 y6 y7 y8 y9 y10]]) (λi=>i<=1/\(1<=i->y2=1)) (λi=>1-i) 0 ⟨by decide,λh=>by omega⟩ rfl (λs _=>by simp only [B_,I_,okA]) (λs s' _ _ h=>by simp at h;omega) (λi hi=>?_)
  obtain ⟨i1,i2⟩:=hi
  refine b_ (r:=.int .i64 1) rfl rfl ?_
  (refine h_ rfl rfl ?_ ?_<;>intro h<;>simp only [nc]at h<;>try (exfalso;omega))
  .have hi2:i=0:=by omega
   subst hi2
   refine b_ (r:=.int .i64 0) rfl rfl (b_ (r:=.int .i64 y2) rfl rfl (b_ (r:=.int .i64 0) rfl rfl (b_ (r:=.int .i64 1) rfl rfl ?_)))
   (refine h_ rfl rfl ?_ ?_<;>intro h<;>simp only [nc]at h<;>try (exfalso;omega))
   ·(exact cK_ (y:=.mk _ (.mk _ _ _ _ _ _ _ _ _ _) (.mk _ _ _ _ _ _ _ _ _ _) _ _ _ _ _ _) rfl (λhe=>absurd he (by first|assumption|decide)))
   .exact b_ (ax_ (by omega) (by omega)) rfl (s_ rfl ⟨1,⟨by decide,λ_=>h⟩,rfl,by decide⟩)
  .refine cK_ (y:=.mk 4 (.mk _ _ _ _ _ _ _ _ _ _) (.mk _ _ _ _ _ _ _ _ _ _) _ _ _ _ _ [.mk _ _ _ _ _ _ _ _ _ _]) rfl (λ_=>⟨.inr (.inr ⟨rfl,?_,h3,hnil⟩),λh=>by omega⟩)
   cases i2 (by omega)
   exact .inr (.inr ⟨rfl,rfl,rfl⟩)
theorem lK_ (l:List GS):(XOp.len 26).run Tryz.prog [ck_ l]=some (.int .i64 (l.length:Int)):=by rw [fY_];exact gD_ Tryz.underlying26 l
theorem oQ_ (l:List GS) {i:Nat} (h:i<l.length):(XOp.iaddr 26).run Tryz.prog [ck_ l,.int .i64 (i:Int)]=some (.vptr (x_ b5_ (l.drop i))):=by
 rw [fY_];exact run_iaddr_sl (e:=52) (ti:=(Tryz.prog.info? 52).get!) Tryz.underlying26 (by kernel_rfl) (by kernel_rfl) wE_ h .i64
theorem o5_ (l:List GS) {i:Nat} (h:i<l.length):(XOp.load 52).run Tryz.prog [.vptr (x_ b5_ (l.drop i))]=some (.agg (b5_ l[i])):=
 run_load_agg (ti:=(Tryz.prog.info? 52).get!) Tryz.underlying52 rfl (by kernel_rfl) (by kernel_rfl) wE_ h
def PT (d:Nat):Prop:=∀x:GS,WS d x->CF Tryz.prog 78 ft78 (VARS::b5_ x) (RT d x)
theorem p46 (d:Nat) (hT:PT d) (l:List GS) (hl:l.length<=5) (hW:∀s∈l,WS d s):CF Tryz.prog 46 ft46 [VARS,ck_ l] (RU d l):=by
 refine A_ (c:=c46) (n:=300) (t:=t46) mo ov rfl (λY _=>l_ _) (by kernel_rfl) λY hf hg=>?_
 unfold t46
 refine Y_ (ι:=List GS×Nat) (λs=>[ck_ s.1,.int .i64 (s.2:Int)]) (λs=>s.1.length=s.2/\s.2<=l.length/\(∀a∈s.1,TS d a)/\LKs l s.1) (λs=>l.length-s.2) ([],0) ⟨rfl,Nat.zero_le _,λa ha=>(List.not_mem_nil ha).elim,λj _ h=>absurd h (Nat.not_lt_zero j)⟩ rfl (λs _=>by simp only [B_,I_,okB]) (λs s' _ _ h=>by simp at h;omega) (λs hs=>?_)
 obtain ⟨acc,i⟩:=s
 obtain ⟨h1,h2,h3,h5⟩:=hs
 simp only at h1 h2 h3 h5⊢
 refine b_ (lK_ l) rfl ?_
 (refine h_ rfl rfl ?_ ?_<;>intro h<;>simp only [nc]at h<;>try (exfalso;omega))
 .have hi:i<l.length:=by omega
  have hld:=o5_ l hi
  have hz:=hT l[i] (hW _ (List.getElem_mem hi))
  rcases hzz:l[i]with ⟨op,⟨to1,to2,to3,to4,to5,to6,to7,to8,to9,to10⟩,⟨e1,e2,e3,e4,e5,e6,e7,e8,e9,e10⟩,thn,els,nm,kd,ad,args⟩
  rw [hzz]at hld hz
  refine b_ (oQ_ l hi) (i_ okS _) (n_ hld rfl (okS _) ?_)
  refine g_ hz rfl (y5_ _) ⟨?_,trivial⟩
  rintro ws ⟨⟨op',⟨so1,so2,so3,so4,so5,so6,so7,so8,so9,so10⟩,⟨f1,f2,f3,f4,f5,f6,f7,f8,f9,f10⟩,thn',els',nm',kd',ad',args'⟩,e,rfl,hy⟩
  (refine h_ rfl rfl ?_ ?_<;>intro h<;>simp only [nc]at h<;>try (exfalso;omega))
  .exact VOK_fin rfl ⟨[],e,rfl,λhe=>absurd he h⟩
  .rename_i hh
   refine b_ (fW_ acc (.mk op' (.mk so1 so2 so3 so4 so5 so6 so7 so8 so9 so10) (.mk f1 f2 f3 f4 f5 f6 f7 f8 f9 f10) thn' els' nm' kd' ad' args') (by omega)) (okB _) (b_ (ax_ (by omega) (by omega)) rfl (s_ rfl ⟨(acc++[_],i+1),⟨by rw [List.length_append,h1];rfl,hi,?_,?_⟩,rfl,by simp only;omega⟩))
   .intro a ha
    rcases List.mem_append.1 ha with ha|ha
    .exact h3 a ha
    .cases List.mem_singleton.1 ha;exact (hy (by assumption)).1
   .intro j g1 g2
    by_cases e:j<acc.length
    .rw [List.getElem_append_left e];exact h5 j g1 e
    .have e:j=acc.length:=by rw [List.length_append,List.length_singleton]at g2;omega
     have e2:j=i:=by omega
     subst e2
     rw [List.getElem_append_right (by omega)]
     simp only [hzz]
     have:∀(k:Nat) (h:k<1),k=0:=λk h=>by omega
     simp only [e,Nat.sub_self,List.getElem_singleton]
     exact (hy (by assumption)).2
 .exact VOK_fin (by show B_ [ck_ acc,.int .i64 0]=true;simp only [B_,I_,okB]) ⟨acc,0,rfl,λ_=>⟨by omega,h3,h5⟩⟩
theorem xn_ (l:List GS):B_ [VARS,ck_ l]=true:=by rw [H_];simp only [B_,I_,okB];rfl
theorem p78:∀d:Nat,PT d
 |0,_,h=>h.elim
 |d+1,.mk op to e thn els nm kd ad args,hx=>by
  have ih:=p46 d (p78 d)
  have h1:op=1->_:=λh=>Cz_ d to e thn els nm kd ad args
  have h4:=B5_ d to e thn els nm kd ad args
  have h2:=qh_ 5 e
  obtain ⟨to1,to2,to3,to4,to5,to6,to7,to8,to9,to10⟩:=to
  obtain ⟨e1,e2,e3,e4,e5,e6,e7,e8,e9,e10⟩:=e
  refine A_ (c:=c78) (n:=300) (t:=t78) mo ov rfl (λY _=>l_ _) (by kernel_rfl) λY hf hg=>?_
  unfold t78
  rcases hx with ⟨rfl,a1,a2,a3,a4⟩|⟨ho,b1,b2,b3,b4,b5⟩|⟨rfl,a1,a2,a3,a4⟩
  ·(refine h_ rfl rfl ?_ ?_<;>intro h<;>simp only [nc]at h<;>try (exfalso;omega))
   refine g_ (h1 rfl a1 a2 a3 a4) rfl (y5_ _) ⟨?_,trivial⟩
   rintro ws ⟨⟨op',⟨so1,so2,so3,so4,so5,so6,so7,so8,so9,so10⟩,⟨f1,f2,f3,f4,f5,f6,f7,f8,f9,f10⟩,thn',els',nm',kd',ad',args'⟩,e,rfl,hy⟩
   exact cK_ (y:=.mk _ (.mk _ _ _ _ _ _ _ _ _ _) (.mk _ _ _ _ _ _ _ _ _ _) _ _ _ _ _ _) rfl hy
  ·(refine h_ rfl rfl ?_ ?_<;>intro h<;>simp only [nc]at h<;>try (exfalso;omega));(refine h_ rfl rfl ?_ ?_<;>intro h<;>simp only [nc]at h<;>try (exfalso;omega))
   refine g_ (h2 b1) rfl (sC_ _) ⟨?_,trivial⟩
   rintro ws ⟨⟨y1,y2,y3,y4,y5,y6,y7,y8,y9,y10⟩,er,rfl,hy⟩
   (refine h_ rfl rfl ?_ ?_<;>intro h<;>simp only [nc]at h<;>try (exfalso;omega))
   ·(exact cK_ (y:=.mk _ (.mk _ _ _ _ _ _ _ _ _ _) (.mk _ _ _ _ _ _ _ _ _ _) _ _ _ _ _ _) rfl (λhe=>absurd he (by first|assumption|decide)))
   have hy:=(hy h).1
   (refine h_ rfl rfl ?_ ?_<;>intro h<;>simp only [nc]at h<;>try (exfalso;omega))
   ·(exact cK_ (y:=.mk _ (.mk _ _ _ _ _ _ _ _ _ _) (.mk _ _ _ _ _ _ _ _ _ _) _ _ _ _ _ _) rfl (λhe=>absurd he (by first|assumption|decide)))
   have hk:=h
   refine g_ (ih thn b2 b4) rfl (xn_ _) ⟨?_,trivial⟩
   rintro ws ⟨thn',er1,rfl,ht⟩
   (refine h_ rfl rfl ?_ ?_<;>intro h<;>simp only [nc]at h<;>try (exfalso;omega))
   ·(exact cK_ (y:=.mk _ (.mk _ _ _ _ _ _ _ _ _ _) (.mk _ _ _ _ _ _ _ _ _ _) _ _ _ _ _ _) rfl (λhe=>absurd he (by first|assumption|decide)))
   have ht:=ht h
   refine g_ (ih els b3 b5) rfl (xn_ _) ⟨?_,trivial⟩
   rintro ws ⟨els',er2,rfl,hs⟩
   refine cK_ (y:=.mk _ (.mk _ _ _ _ _ _ _ _ _ _) (.mk _ _ _ _ _ _ _ _ _ _) _ _ _ _ _ _) rfl (λh0=>⟨.inr (.inl ⟨ho,hy,hk,by rw [ht.1];exact b2,by rw [(hs h0).1];exact b3,ht.2.1,(hs h0).2.1⟩),λh=>by omega⟩)
  ·(refine h_ rfl rfl ?_ ?_<;>intro h<;>simp only [nc]at h<;>try (exfalso;omega));(refine h_ rfl rfl ?_ ?_<;>intro h<;>simp only [nc]at h<;>try (exfalso;omega))
   refine g_ (h4 a1 a2 a3 a4) rfl (y5_ _) ⟨?_,trivial⟩
   rintro ws ⟨⟨op',⟨so1,so2,so3,so4,so5,so6,so7,so8,so9,so10⟩,⟨f1,f2,f3,f4,f5,f6,f7,f8,f9,f10⟩,thn',els',nm',kd',ad',args'⟩,e,rfl,hy⟩
   exact cK_ (y:=.mk _ (.mk _ _ _ _ _ _ _ _ _ _) (.mk _ _ _ _ _ _ _ _ _ _) _ _ _ _ _ _) rfl hy
end Go.Proofs.YtjconanknjgpnaaGreat.vars
