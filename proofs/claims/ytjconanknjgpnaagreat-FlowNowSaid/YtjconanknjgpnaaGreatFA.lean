/-
  A symbol as a number, a number as a value: short names for trees.
-/
import Derived.Test.YtjconanknjgpnaaGreatSyQ
import Derived.Test.YtjconanknjgpnaaGreatRows
import Derived.KernelRfl
import Derived.Test.YtjconanknjgpnaaGreatSyU
import Derived.Test.YtjconanknjgpnaaGreatSyG
import Derived.Test.YtjconanknjgpnaaGreatSzA
import Derived.WalkKit
import Derived.ProofKit
import Derived.Laws.Externs
import Derived.Lib.Hide
namespace Go.Proofs.YtjconanknjgpnaaGreat.vars
open Go Go.Sx
instance symN (n:Nat):OfNat AV n:=⟨.sym n⟩
abbrev J (n:Int):AV:=.int .i64 n
abbrev K (o:XOp) (a:List AV) (i:Nat) (t:VT):VT:=.lt o a i none t
abbrev Q0:XOp:=.bin .eql 3 false true
abbrev Q1:XOp:=.inb
abbrev Q2:XOp:=.bin .add 3 false true
abbrev Q3:XOp:=.un .not
abbrev Q4:XOp:=.bin .lss 3 false false
abbrev Q5:XOp:=.bin .neq 35 false true
abbrev Q6:XOp:=.bin .neq 3 false true
abbrev Q7:XOp:=.bin .neq 3 false false
abbrev Q8:XOp:=.bin .neq 2 false true
abbrev Q9:XOp:=.iaddr 47
abbrev Qa:XOp:=.ldx 46 3 0
abbrev Qb:XOp:=.load 49
abbrev Qc:XOp:=.len 47
abbrev Qd:XOp:=.len 127
abbrev Qe:XOp:=.bin .gtr 3 false true
abbrev Qf:XOp:=.bin .sub 3 false true
abbrev Qg:XOp:=.ldx 3 10 1
abbrev Qh:XOp:=.iaddr 31
abbrev Qi:XOp:=.app 10 112
abbrev Qj:XOp:=.bin .eql 3 false false
abbrev Qk:XOp:=.ldx 3 1 0
abbrev Ql:XOp:=.bin .eql 2 false false
abbrev Qm:XOp:=.load 46
abbrev Qn:XOp:=.app 3 24
abbrev Qo:XOp:=.ldx 2 3 1
abbrev Qp:XOp:=.len 22
abbrev Qq:XOp:=.bin .geq 2 false false
abbrev Qr:XOp:=.app 7 56
abbrev Qs:XOp:=.load 3
abbrev Qt:XOp:=.bin .eql 2 false true
abbrev Qu:XOp:=.len 31
abbrev Qv:XOp:=.bin .leq 3 false true
abbrev Qw:XOp:=.iaddr 26
abbrev Qx:XOp:=.conv 2 101
abbrev Qy:XOp:=.bin .add 3 false false
abbrev Qz:XOp:=.conv 5 3
abbrev Z0:XOp:=.bin .geq 3 false true
abbrev Z1:XOp:=.opn 21 3
abbrev Z2:XOp:=.len 61
abbrev Z3:XOp:=.bin .lss 3 false true
abbrev Z4:XOp:=.bin .add 3 true false
abbrev Z5:XOp:=.len 26
abbrev Z6:XOp:=.bin .eql 35 false true
abbrev Z7:XOp:=.un .neg
abbrev Z8:XOp:=.bin .lss 2 false true
abbrev Z9:XOp:=.stx 46 3 0
abbrev Za:XOp:=.faddr 49 1
abbrev Zb:XOp:=.bin .sub 2 false false
abbrev Zc:XOp:=.conv 2 44
abbrev Zd:XOp:=.ldx 3 3 0
abbrev Ze:XOp:=.bin .eql 35 false false
abbrev Zf:XOp:=.iaddr 40
abbrev Zg:XOp:=.load 9
abbrev Zh:XOp:=.bin .rem 2 false false
abbrev Zi:XOp:=.conv 23 2
abbrev Zj:XOp:=.faddr 46 0
abbrev Zk:XOp:=.app 27 336
abbrev Zl:XOp:=.mget 186 [(.str [111],J 2,0),(.str [120],J 2,1),(.str [113],J 1,2),(.str [121],J 3,3),(.str [122],J 5,4),(.str [119],J 4,5)]
abbrev Zm:XOp:=.ldx 49 10 0
abbrev Zn:XOp:=.stx 49 10 0
abbrev Zo:XOp:=.load 52
abbrev Zp:XOp:=.bin .leq 2 false false
abbrev Zq:XOp:=.bin .add 2 false false
abbrev Zr:XOp:=.bin .neq 44 false false
abbrev Zs:XOp:=.bin .sub 101 false false
abbrev Zt:XOp:=.mm false
abbrev Zu:XOp:=.conv 101 2
abbrev Zv:XOp:=.bin .eql 31 false true
abbrev Zw:XOp:=.load 26
abbrev Zx:XOp:=.stx 3 7 2
abbrev Zy:XOp:=.bin .neq 2 false false
abbrev Zz:XOp:=.bin .quo 2 false false
abbrev U0:XOp:=.bin .lss 44 false false
abbrev U1:XOp:=.bin .rem 5 false true
abbrev U2:XOp:=.bin .rem 3 false false
abbrev U5:XOp:=.bin .lss 2 false false
abbrev U6:XOp:=.bin .mul 2 false false
abbrev U7:XOp:=.bin .add 44 false false
abbrev U8:XOp:=.bin .sub 44 false false
abbrev U9:XOp:=.bin .mul 44 false false
abbrev Ua:XOp:=.bin .quo 44 false false
abbrev Ub:XOp:=.bin .eql 44 false false
abbrev Uc:XOp:=.bin .leq 44 false false
abbrev Uf:XOp:=.bin .gtr 2 false false
abbrev Ug:XOp:=.bin .add 2 false true
abbrev Uh:XOp:=.bin .eql 4 false false
abbrev Ui:XOp:=.bin .gtr 101 false false
end Go.Proofs.YtjconanknjgpnaaGreat.vars
set_option linter.unusedVariables false
namespace Go.Proofs.YtjconanknjgpnaaGreat.vars
open Go Go.Sx
def hs:Nat->Nat->List AV
 |_,0=>[]
 |j,n+1=>.slx j 0 0::hs (j+1) n
def pk (a b:AV):Nat×List AV:=(0,[a,b])
def ft39:FT:=⟨1,⟨[(0,.ptr 0 0),(1,.slx 2 0 0)],[pk (.slx 0 0 0) (.slx 1 0 0)],1,3,[],[],[]⟩,[(false,⟨[(0,.slx 0 0 0)],[pk (.sym 64) (.slx 1 0 0)],1,2,[],[],[]⟩)]⟩
def ftX:FT:=⟨1,⟨[(0,.ptr 0 0),(1,.slx 2 0 0),(2,.slx 3 0 0)],[pk (.slx 0 0 0) (.slx 1 0 0)],1,4,[],[],[]⟩,[(false,⟨[(0,.agg (hs 0 10))],[pk (.sym 64) (.slx 10 0 0)],1,11,[],[],[]⟩)]⟩
def k_:FT:=ftX
def v4_:FT:=ftX
def ft112:FT:=⟨1,⟨[(0,.ptr 0 0),(1,.slx 2 0 0)],[pk (.slx 0 0 0) (.slx 1 0 0)],1,3,[],[],[]⟩,[(false,⟨[(0,.agg (hs 0 27))],[pk (.sym 64) (.slx 27 0 0)],1,28,[],[],[]⟩)]⟩
def ft70:FT:=⟨1,⟨[(0,.ptr 0 0),(1,.slx 2 0 0),(2,.slx 3 0 0)],[pk (.slx 0 0 0) (.slx 1 0 0)],1,4,[],[],[]⟩,[(false,⟨[(0,.slx 1 27 0)],[pk (.sym 64) (.slx 1 0 0)],2,2,[⟨1,27,0,0,none⟩],[],[]⟩)]⟩
def ft38:FT:=⟨1,⟨[(0,.ptr 0 0)],[pk (.slx 0 0 0) (.slx 1 0 0)],1,2,[],[],[]⟩,[(false,⟨[(0,.agg (hs 0 2))],[pk (.sym 64) (.slx 2 0 0)],1,3,[],[],[]⟩)]⟩
def ft14:FT:=⟨0,⟨[(0,.slx 0 0 0)],[],0,1,[],[],[]⟩,[(false,⟨[(0,.ptr 0 0)],[pk (.sym 64) (.int .i64 0)],1,0,[],[],[]⟩)]⟩
def ft121:FT:=⟨0,⟨[(0,.slx 0 0 0),(1,.agg (hs 1 10))],[],0,11,[],[],[]⟩,[(false,⟨[(0,.tup [.agg (hs 0 10),.slx 10 0 0])],[],0,11,[],[],[]⟩)]⟩
def xz_:FT:=ft121
def ft156:FT:=⟨0,⟨[(0,.slx 0 0 0),(1,.agg (hs 1 10)),(2,.slx 11 0 0)],[],0,12,[],[],[]⟩,[(false,⟨[(0,.tup [.agg (hs 0 10),.slx 10 0 0])],[],0,11,[],[],[]⟩)]⟩
def ft78:FT:=⟨0,⟨[(0,.slx 0 0 0),(1,.agg (hs 1 27))],[],0,28,[],[],[]⟩,[(false,⟨[(0,.tup [.agg (hs 0 27),.slx 27 0 0])],[],0,28,[],[],[]⟩)]⟩
def xx_:FT:=ft78
def xy_:FT:=ft78
def ft46:FT:=⟨0,⟨[(0,.slx 0 0 0),(1,.slx 1 0 0)],[],0,2,[],[],[]⟩,[(false,⟨[(0,.tup [.slx 0 0 0,.slx 1 0 0])],[],0,2,[],[],[]⟩)]⟩
def ft19:FT:=⟨0,⟨[(0,.agg (hs 0 2))],[],0,2,[],[],[]⟩,[(false,⟨[(0,.tup [.agg (hs 0 2),.slx 2 0 0])],[],0,3,[],[],[]⟩)]⟩
def ft13:FT:=⟨0,⟨[(0,.slx 0 0 0)],[],0,1,[],[],[]⟩,[(false,⟨[(0,.tup [.agg (hs 0 2),.slx 2 0 0])],[],0,3,[],[],[]⟩)]⟩
def ft163:FT:=⟨0,⟨[(0,.slx 0 0 0)],[],0,1,[],[],[]⟩,[(true,⟨[(0,.iface 226 (.agg [.slx 0 0 0]))],[],0,1,[],[],[]⟩)]⟩
def ft165:FT:=⟨0,⟨[(0,.slx 0 0 0),(1,.slx 1 0 0),(2,.slx 2 0 0)],[],0,3,[],[],[]⟩,[(false,⟨[(0,.slx 0 0 0)],[],0,1,[],[],[]⟩),(true,⟨[(0,.iface 226 (.agg [.slx 0 0 0]))],[],0,1,[],[],[]⟩)]⟩
def w1_:FT:=ft165
def ft113:FT:=⟨0,⟨[(0,.slx 0 0 0)],[],0,1,[],[],[]⟩,[(false,⟨[(0,.tup [])],[],0,0,[],[],[]⟩),(true,⟨[(0,.iface 134 (.agg [.slx 0 0 0]))],[],0,1,[],[],[]⟩)]⟩
def ft82:FT:=⟨0,⟨[(0,.slx 0 0 0),(1,.agg (hs 1 3))],[],0,4,[],[],[]⟩,[(false,⟨[(0,.agg (hs 0 3))],[],0,3,[],[],[]⟩),(true,⟨[(0,.iface 134 (.agg [.slx 0 0 0]))],[],0,1,[],[],[]⟩)]⟩
def ft83:FT:=⟨0,⟨[(0,.slx 0 0 0),(1,.slx 1 0 0)],[],0,2,[],[],[]⟩,[(false,⟨[(0,.agg (hs 0 3))],[],0,3,[],[],[]⟩),(true,⟨[(0,.iface 134 (.agg [.slx 0 0 0]))],[],0,1,[],[],[]⟩)]⟩
def ftM (sl:List (Nat×AV)) (nv:Nat) (exs:List (Bool×Nat×AV)):FT:=⟨2,⟨(0,.ptr 0 0)::sl,[(0,[.slx 1 3 0,.slx 1 0 0,.slx 2 0 0])],2,nv+3,[⟨1,3,0,0,some 0⟩],[],[]⟩,
 exs.map λ(b,n,a)=>(b,⟨[(0,a)],[(0,[.ptx 1 64 3 0,.sym 65,.sym 66])],2,n,[],[],[(1,64)]⟩)⟩
def et_:FT:=ftM [(1,.agg (hs 3 10))] 10 [(false,3,.agg (hs 0 3)),(true,1,.iface 134 (.agg [.slx 0 0 0]))]
def xi_:FT:=ftM [(1,.agg (hs 3 10))] 10 [(false,1,.slx 0 0 0),(true,1,.iface 134 (.agg [.slx 0 0 0]))]
def ft40:FT:=⟨1,⟨[(0,.ptr 0 0),(1,.slx 2 0 0)],[pk (.slx 0 0 0) (.slx 1 0 0)],1,3,[],[],[]⟩,[(false,⟨[(0,.agg (hs 0 3))],[pk (.sym 64) (.slx 3 0 0)],1,4,[],[],[]⟩)]⟩
def ft71:FT:=⟨1,⟨[(0,.ptr 0 0)],[pk (.slx 0 0 0) (.slx 1 0 0)],1,2,[],[],[]⟩,[(false,⟨[(0,.slx 0 0 0)],[pk (.sym 64) (.slx 1 0 0)],1,2,[],[],[]⟩)]⟩
def zc_:FT:=ft39
def ft15:FT:=⟨1,⟨[(0,.ptr 0 0)],[pk (.slx 0 0 0) (.slx 1 0 0)],1,2,[],[],[]⟩,[(false,⟨[(0,.slx 1 3 0)],[pk (.sym 64) (.slx 1 0 0)],2,2,[⟨1,3,0,0,none⟩],[],[]⟩)]⟩
def ftS (sl:List (Nat×AV)) (nv:Nat):FT:=⟨2,⟨(0,.ptr 0 0)::sl,[(0,[.slx 1 3 0,.slx 1 0 0,.slx 2 0 0])],2,nv+3,[⟨1,3,0,0,some 0⟩],[],[]⟩,
 [(false,⟨[(0,.tup [])],[(0,[.slx 1 3 0,.sym 65,.slx 1 0 0])],2,2,[⟨1,3,0,0,some 0⟩],[],[]⟩),(true,⟨[(0,.iface 134 (.agg [.slx 2 0 0]))],[(0,[.slx 1 3 0,.sym 65,.slx 1 0 0])],2,3,[⟨1,3,0,0,some 0⟩],[],[]⟩)]⟩
def vN_:FT:=ftS [(1,.slx 3 0 0)] 1
def xA_:FT:=ftS [(1,.agg (hs 3 27))] 27
def zd_:FT:=xA_
def wy_:FT:=xA_
def ft16:FT:=⟨0,⟨[(0,.agg (hs 0 2)),(1,.slx 2 0 0),(2,.slx 3 0 0),(3,.slx 4 0 0)],[],0,5,[],[],[]⟩,[(false,⟨[(0,.tup [.slx 0 3 0,.slx 1 0 0])],[],1,2,[⟨0,3,0,600,some 0⟩],[],[]⟩)]⟩
def sy (n m:Nat):List AV:=ai_ n m
def wo_ (kd ad:Int):List AV:=[.ptr 0 0,.agg (sy 67 24++[.int .i64 kd,.int .i64 ad,.sym 93])]
def heap75:AHeap:=wy_.ent.heap 64
def ftB (kd off n w:Nat) (tm:Bool):FT:=⟨1,⟨[(0,.int .i64 (.ofNat kd)),(1,.sl 0 off n 3 none),(2,.slx 63 0 0),(3,.slx 64 0 0)]++(match tm with|true=>[(4,.slx 65 0 0)]|false=>[]),[(0,hs 0 63)],1,(match tm with|true=>66|false=>65),[],[],[]⟩,
 [(false,⟨[(0,.sl 1 0 n 3 none)],[(0,ai_ 64 63),(1,hs 0 w)],2,w,[],[],[]⟩)]⟩
def xD_:FT:=ftB 6 36 4 12 true
def xB_:FT:=ftB 9 48 3 9 false
def xC_:FT:=ftB 11 57 2 6 false
end Go.Proofs.YtjconanknjgpnaaGreat.vars
set_option maxRecDepth 100000
set_option linter.unusedVariables false
set_option linter.unusedSimpArgs false
namespace Go.Proofs.YtjconanknjgpnaaGreat.vars
open Go Go.Sx
instance gI:Gl:=glT gl0 nr0 []
theorem mo:Tryz.prog.follows .mixedOrders=true:=by kernel_rfl
theorem ov:kQ_ Tryz.prog:=vI_ gl0 nr0 _
inductive GX where
 |mk (op kd:Int) (nm fd:List UInt8) (ad n vk vi:Int) (vf:Nat) (args:List GX)
mutual
def j_:GX->List AV
 | .mk op kd nm fd ad n vk vi vf args=>[.int .i64 op,.int .i64 kd,.str nm,.str fd,.int .i64 ad,.int .i64 n,.int .i64 vk,.int .i64 vi,.flt .f64 vf,y_ args]
def y_:List GX->AV
 |[]=>.nsl
 |a::r=>.vsl (r.length+1) 10 (j_ a++vv_ r)
def vv_:List GX->List AV
 |[]=>[]
 |a::r=>j_ a++vv_ r
end
theorem ww_:∀l:List GX,vv_ l=bA_ j_ l
 |[]=>rfl
 |a::r=>by simp only [vv_,bA_,ww_ r]
theorem nv_ (l:List GX):y_ l=c2_ j_ 10 l:=by
 cases l with
 |nil=>rfl
 |cons a r=>simp only [y_,c2_,bA_,ww_]
theorem nZ_ (x:GX):(j_ x).length=10:=by cases x;simp [j_]
mutual
theorem okX:∀x:GX,okL (j_ x)=true
 | .mk op kd nm fd ad n vk vi vf args=>by simp only [j_,okL,okC,okA args]
theorem okA:∀l:List GX,okC (y_ l)=true
 |[]=>rfl
 |a::r=>by simp only [y_,okC];exact oL_.okL_join (okX a) (yv_ r)
theorem yv_:∀l:List GX,okL (vv_ l)=true
 |[]=>rfl
 |a::r=>by simp only [vv_];exact oL_.okL_join (okX a) (yv_ r)
end
inductive GS where
 |mk (op:Int) (to e:GX) (thn els:List GS) (nm:List UInt8) (kd ad:Int) (args:List GX)
mutual
def o_:GS->List AV
 | .mk op to e thn els nm kd ad args=>.int .i64 op::(j_ to++(j_ e++[q_ thn,q_ els,.str nm,.int .i64 kd,.int .i64 ad,y_ args]))
def q_:List GS->AV
 |[]=>.nsl
 |a::r=>.vsl (r.length+1) 27 (o_ a++wb_ r)
def wb_:List GS->List AV
 |[]=>[]
 |a::r=>o_ a++wb_ r
end
theorem wv_:∀l:List GS,wb_ l=bA_ o_ l
 |[]=>rfl
 |a::r=>by simp only [wb_,bA_,wv_ r]
theorem nw_ (l:List GS):q_ l=c2_ o_ 27 l:=by
 cases l with
 |nil=>rfl
 |cons a r=>simp only [q_,c2_,bA_,wv_]
theorem yq_ (x:GS):(o_ x).length=27:=by cases x;simp [o_,nZ_]
mutual
theorem okS:∀x:GS,okL (o_ x)=true
 | .mk op to e thn els nm kd ad args=>by
   simp only [o_]
   refine oL_.okL_join (a:=[_]) rfl (oL_.okL_join (okX to) (oL_.okL_join (okX e) ?_))
   simp only [okL,okC,okA args,okB thn,okB els]
theorem okB:∀l:List GS,okC (q_ l)=true
 |[]=>rfl
 |a::r=>by simp only [q_,okC];exact oL_.okL_join (okS a) (zZ_ r)
theorem zZ_:∀l:List GS,okL (wb_ l)=true
 |[]=>rfl
 |a::r=>by simp only [wb_];exact oL_.okL_join (okS a) (zZ_ r)
end
def Ari (op:Int) (n:Nat):Prop:=(op=1\/op=2)/\n=0\/(op=3\/op=15\/op=16\/op=17)/\n=1\/(4<=op/\op<=14)/\n=2
def xs_ (f:Nat):Prop:=f=0\/f=4609434218613702656\/f=4611686018427387904\/f=4598175219545276416
def GX.op:GX->Int| .mk op .. =>op
def GX.kd:GX->Int| .mk _ kd .. =>kd
def vP_:List (List UInt8×List UInt8):=[([98],[]),([113],[]),([116,109],[113]),([97],[]),([120],[]),([111],[]),([99],[99,118]),([121],[]),([116,109],[101,116]),([119],[]),([122],[])]
def Q_ (vk vi:Int) (vf:Nat):Prop:=(vk=1\/vk=3\/vk=4\/vk=5)/\0<=vi/\vi<50/\(vk=1->vi<=1)/\(vk=5->vi=0)/\(vk≠5->vf=0)
def Nod (op kd:Int) (nm fd:List UInt8) (vk vi:Int) (vf:Nat):Prop:=(op=1->Q_ vk vi vf)/\(op=2->(nm,fd)∈vP_)/\(op=3->nm=[107])/\(op=17->2<=kd/\kd<=5)
def WX:Nat->GX->Prop
 |0,_=>False
 |d+1,.mk op kd nm fd _ _ vk vi vf args=>Ari op args.length/\xs_ vf/\Nod op kd nm fd vk vi vf/\∀a∈args,WX d a
theorem c_:∀{d e:Nat} {x:GX},d<=e->WX d x->WX e x
 |0,_,_,_,h=>h.elim
 |d+1,0,_,h,_=>by omega
 |d+1,e+1,.mk ..,h,⟨h1,h2,h3,h4⟩=>⟨h1,h2,h3,λa ha=>c_ (by omega) (h4 a ha)⟩
def WS:Nat->GS->Prop
 |0,_=>False
 |d+1,.mk op to e thn els nm kd ad args=>
  (op=1/\WX 5 to/\(to.op=2\/to.op=3)/\WX 6 e/\thn=[]/\els=[])\/
  ((op=2\/op=3)/\WX 5 e/\thn.length<=5/\els.length<=5/\(∀s∈thn,WS d s)/\∀s∈els,WS d s)\/
  (op=4/\(nm=[116,109]\/nm=[99]\/nm=[101])/\args.length<=2/\(∀a∈args,WX 5 a)/\thn=[]/\els=[])
def tX_ (c:UInt8):List AV:=[.int .u8 (c.toNat:Int)]
theorem Bt_ (c:UInt8):(tX_ c).length=1:=rfl
theorem vj_ (c:UInt8):okL (tX_ c)=true:=rfl
def Pk (l:List UInt8) (a:AV):Prop:=SlV tX_ 1 l a/\l.length<=9223372036854775807
section
variable {l:List UInt8} {a:AV}
theorem xI_ (h:Pk l a):(XOp.len 22).run Tryz.prog [a]=some (.int .i64 (l.length:Int)):=h.1.len Tryz.underlying22
theorem Bs_ (h:Pk l a) {i:Nat} (hi:i<l.length) {k:IntKind}:(XOp.iaddr 22).run Tryz.prog [a,.int k (i:Int)]=some (.vptr (bA_ tX_ (l.drop i))):=h.1.ia (e:=5) Tryz.underlying22 (ti:=(Tryz.prog.info? 5).get!) (by kernel_rfl) (by kernel_rfl) Bt_ hi k
theorem ld5 {i:Nat} (hi:i<l.length):(XOp.load 5).run Tryz.prog [.vptr (bA_ tX_ (l.drop i))]=some (.int .u8 (l[i].toNat:Int)):=by
 rw [List.drop_eq_getElem_cons hi]
 exact s2_ Tryz.underlying5 rfl _ _
end
theorem zO_ (n:Nat) (h:n<256):(XOp.conv 5 3).run Tryz.prog [.int .u8 (n:Int)]=some (.int .i64 (n:Int)):=by
 rw [tH_ Tryz.underlying5 Tryz.underlying3,vM_ (by omega) (by omega)]
theorem yC_ (x m:Nat) (h:0<m) (h2:m<9223372036854775808) (t:TypeId) (cx cy:Bool):(XOp.bin .rem t cx cy).run Tryz.prog [.int .i64 (x:Int),.int .i64 (m:Int)]=some (.int .i64 ((x%m:Nat):Int)):=by
 have:(x:Int).tmod (m:Int)=((x%m:Nat):Int):=by
  rw [Int.tmod_eq_emod_of_nonneg (by omega)];rfl
 show bJ_ Tryz.prog .rem t cx cy (.int .i64 (x:Int)) (.int .i64 (m:Int))=_
 exact s1_ (by omega) this t cx cy
theorem h_ {x y:Int} {t:TypeId} {cx cy:Bool} (h1: -9223372036854775807<=x+y) (h2:x+y<=9223372036854775807):(XOp.bin .add t cx cy).run Tryz.prog [.int .i64 x,.int .i64 y]=some (.int .i64 (x+y)):=by
 rw [run_add,vM_ (by omega) (by omega)]
theorem s_ {x y z:Int} {t:TypeId} {cx cy:Bool} (h:x-y=z) (h1: -9223372036854775807<=z) (h2:z<=9223372036854775807):(XOp.bin .sub t cx cy).run Tryz.prog [.int .i64 x,.int .i64 y]=some (.int .i64 z):=by
 rw [run_sub,h,vM_ (by omega) (by omega)]
def RN (l:List UInt8) (m:Nat):Nat->List AV->Prop:=λ_ ws=>∃v n:Nat,ws=[.int .i64 (v:Int),.int .i64 (n:Int)]/\v<m/\n<=l.length
def c39:VC:=⟨⟨[],[]⟩,[],[],1,true,[]⟩
def t39:VT:=
 (.lt Qp [64] 67 none
 (.lt (.bin .geq 3 false false) [65,67] 68 none
 (.ite 68
 (.done (.tup [J 0,J 0,65]))
 (.lt Q2 [65,J 1] 69 none
 (.lt Qf [69,J 1] 70 none
 (.lt (.iaddr 22) [64,70] 71 none
 (.lt (.load 5) [71] 72 none
 (.lt Qz [72] 73 none
 (.lt U2 [73,66] 74 none
 (.done (.tup [J 0,74,69])))))))))))
theorem p39 {l:List UInt8} {a:AV} {n m:Nat} (h:Pk l a) (hn:n<=l.length) (hm:0<m) (hm2:m<=1000):CF Tryz.prog 39 ft39 [a,.int .i64 (n:Int),.int .i64 (m:Int)] (RN l m):=by
 have hb:=h.2
 refine vh_ (c:=c39) (n:=300) (t:=t39) mo ov rfl (λY _=>vE_ _) (by kernel_rfl) λY hf hg=>?_
 unfold t39
 refine vx_ (xI_ h) rfl (vx_ (run_geq ..) rfl (ve_ rfl (λh1=>VOK_fin rfl ⟨0,n,rfl,hm,hn⟩) (λh1=>?_)))
 have h1:n<l.length:=by simpa using h1
 refine vx_ (h_ (by omega) (by omega)) rfl (vx_ (s_ (z:=n) (by omega) (by omega) (by omega)) rfl (vx_ (Bs_ h h1) (oL_ vj_ _) (vx_ (ld5 h1) rfl (vx_ (zO_ _ (UInt8.toNat_lt _)) rfl (vx_ (yC_ _ _ hm (by omega) ..) rfl (VOK_fin rfl ⟨l[n].toNat%m,n+1,rfl,Nat.mod_lt _ hm,h1⟩))))))
end Go.Proofs.YtjconanknjgpnaaGreat.vars
set_option maxRecDepth 100000
set_option linter.unusedVariables false
set_option linter.unusedSimpArgs false
namespace Go.Proofs.YtjconanknjgpnaaGreat.vars
open Go Go.Sx
def RI (l:List UInt8) (m:Int):Nat->List AV->Prop:=λ_ ws=>∃v n:Nat,ws=[.int .i64 (v:Int),.int .i64 (n:Int)]/\(v:Int)<m/\n<=l.length
theorem yk_ {f:FuncId} {ft:FT} {vs:List AV} {R R':Nat->List AV->Prop} (h:CF Tryz.prog f ft vs R) (hr:∀j ws,R j ws->R' j ws):CF Tryz.prog f ft vs R':=
 ⟨h.1,λY hf B pr E w us h1 h2 h3 h4=>(h.2 Y hf B pr E w us h1 h2 h3 h4).mono λe w' ⟨Y',r,⟨j,ws,b,tp,q1,q2,q3⟩,hp⟩=>⟨Y',r,⟨j,ws,b,tp,q1,hr _ _ q2,q3⟩,hp⟩⟩
theorem I_ {l:List UInt8} {a:AV} {n:Nat} {m:Int} (h:Pk l a) (hn:n<=l.length) (hm:0<m) (hm2:m<=1000):CF Tryz.prog 39 ft39 [a,.int .i64 (n:Int),.int .i64 m] (RI l m):=by
 have e:m=((m.toNat:Nat):Int):=by omega
 have:=p39 h hn (m:=m.toNat) (by omega) (by omega)
 rw [←e]at this
 exact yk_ this λj ws ⟨v,n,h1,h2,h3⟩=>⟨v,n,h1,by omega,h3⟩
def RX (l:List UInt8) (d:Nat):Nat->List AV->Prop:=λ_ ws=>∃(x:GX) (n:Nat),ws=j_ x++[.int .i64 (n:Int)]/\WX (d+1) x/\n<=l.length
def PX (l:List UInt8) (a:AV) (f:FuncId) (d:Nat):Prop:=∀(n:Nat) (k:Int),n<=l.length->1<=k/\k<=5->CF Tryz.prog f ftX [a,.int .i64 (n:Int),.int .i64 k,.int .i64 (d:Int)] (RX l d)
theorem C_ {d:Nat} {kd ad n vk vi:Int} {nm fd:List UInt8} {vf:Nat} (ho:Q_ vk vi vf) (hf:xs_ vf):WX (d+1) (.mk 1 kd nm fd ad n vk vi vf []):=⟨.inl ⟨.inl rfl,rfl⟩,hf,⟨λ_=>ho,λh=>by omega,λh=>by omega,λh=>by omega⟩,λa ha=>(List.not_mem_nil ha).elim⟩
theorem n_ {d:Nat} {kd ad n vk vi:Int} {nm fd:List UInt8} (ho:(nm,fd)∈vP_):WX (d+1) (.mk 2 kd nm fd ad n vk vi 0 []):=⟨.inl ⟨.inr rfl,rfl⟩,.inl rfl,⟨λh=>by omega,λ_=>ho,λh=>by omega,λh=>by omega⟩,λa ha=>(List.not_mem_nil ha).elim⟩
theorem wm_ {d:Nat} {op kd ad n vk vi:Int} {nm fd:List UInt8} {x:GX} (ho:op=3/\nm=[107]\/op=15\/op=16\/op=17/\2<=kd/\kd<=5) (h:WX d x):WX (d+1) (.mk op kd nm fd ad n vk vi 0 [x]):=by
 refine ⟨.inr (.inl ⟨by omega,rfl⟩),.inl rfl,⟨λh=>by omega,λh=>by omega,λh=>?_,λh=>by omega⟩,λa ha=>by cases List.mem_singleton.1 ha;exact h⟩
 rcases ho with ho|ho|ho|ho
 .exact ho.2
 all_goals omega
theorem wn_ {d:Nat} {op kd ad n vk vi:Int} {nm fd:List UInt8} {x y:GX} (ho:4<=op/\op<=14) (h:WX d x) (h2:WX d y):WX (d+1) (.mk op kd nm fd ad n vk vi 0 [x,y]):=
 ⟨.inr (.inr ⟨ho,rfl⟩),.inl rfl,⟨λh=>by omega,λh=>by omega,λh=>by omega,λh=>by omega⟩,λa ha=>by rcases List.mem_cons.1 ha with rfl|ha;exact h;cases List.mem_singleton.1 ha;exact h2⟩
theorem a_ {P:Program} {Q:AV->Prop} {L:List (Nat->List AV->Prop)} {Y:Sy} {f:FuncId} {ft:FT} {hv vs:List AV} {n:Nat} {bs:VTs} {R:Nat->List AV->Prop} (h1:CF P f ft vs R) (h0:ab_ Y.v hv=vs) (h2:okL vs=true) (h3:sn_ P Q R L (Y.puts n vs) (Nat.add n ft.ent.nv) 0 bs):VOK P Q L Y (.callF f ft hv n bs):=by
 subst h0;exact uw_ h1 h2 h3
theorem okP {a:AV} (h:okC a=true) {n m:Int}:okL [a,.int .i64 n,.int .i64 m]=true:=by simp only [okL,okC,h]
theorem H_ {a:AV} (h:okC a=true) {n m k:Int}:okL [a,.int .i64 n,.int .i64 m,.int .i64 k]=true:=by simp only [okL,okC,h]
theorem hU_ (x:GX) (n:Int):okL (j_ x++[.int .i64 n])=true:=oL_.okL_join (okX x) rfl
theorem t_ {l:List UInt8} {d n j:Nat} {x:GX} {hv:List AV} {Y:Sy} {L:List (Nat->List AV->Prop)} (h:ab_ Y.v hv=j_ x++[.int .i64 (n:Int)]) (hw:WX (d+1) x) (hn:n<=l.length):VOK Tryz.prog (QF (RX l d)) L Y (.done (.tup (.int .i64 (.ofNat j)::hv))):=
 VOK_fin (by rw [h];exact hU_ x n) ⟨x,n,h,hw,hn⟩
section
variable {P:Program} {Q:AV->Prop} {L:List (Nat->List AV->Prop)} {Y:Sy} {t:TypeId} {cx cy:Bool} {args:List AV} {n:Nat} {A B:VT} {k:IntKind} {a b:Int}
def i_:BinOp->Int->Int->Bool
 | .eql,a,b=>decide (a=b)
 | .neq,a,b=> !decide (a=b)
 | .lss,a,b=>decide (a<b)
 | .gtr,a,b=>decide (b<a)
 | .leq,a,b=>decide (a<=b)
 |_,_,_=>false
theorem l_ {op:BinOp} (h0:ab_ Y.v args=[.int k a,.int k b]) (ho:(match op with| .eql=>true| .neq=>true| .lss=>true| .gtr=>true| .leq=>true|_=>false)=true)
  (h1:i_ op a b=true->VOK P Q L (Y.put n (.bool (i_ op a b))) A) (h2:i_ op a b=false->VOK P Q L (Y.put n (.bool (i_ op a b))) B):VOK P Q L Y (.lt (.bin op t cx cy) args n none (.ite n A B)):=by
 have hr:(XOp.bin op t cx cy).run P [.int k a,.int k b]=some (.bool (i_ op a b)):=by
  cases op<;>simp only at ho<;>first|(cases ho;done)|skip
  .exact run_eql ..
  .exact run_neq ..
  .exact run_lss ..
  .exact run_leq ..
  .exact run_gtr ..
 exact vx_ (by rw [h0];exact hr) rfl (ve_ (t:=i_ op a b) (by rw [vS_,if_pos rfl]) h1 h2)
end
def c48:VC:=⟨⟨[],[]⟩,[],[],1,true,[(39,ft39),(21,k_)]⟩
def t48:VT:=
 (.callF 39 ft39 [64,65,J 4] 68
 (.cons 2
 (.lt Q0 [66,J 1] 73 none
 (.ite 73
 (.callF 39 ft39 [64,72,J 2] 74
 (.cons 2
 (.lt Q9 [.vsl 4 10 [J 2,J 0,.str [98],.str [],J 0,J 0,J 0,J 0,.flt .f64 0,.nsl,J 2,J 0,.str [113],.str [],J 0,J 0,J 0,J 0,.flt .f64 0,.nsl,J 2,J 0,.str [116,109],.str [113],J 0,J 0,J 0,J 0,.flt .f64 0,.nsl,J 1,J 0,.str [],.str [],J 0,J 0,J 1,77,.flt .f64 0,.nsl],71] 79 none
 (.lt Qb [79] 80 (some 10)
 (.done (.tup [J 0,80,81,82,83,84,85,86,87,88,89,78]))))
 .nil))
 (.lt Q0 [66,J 2] 74 none
 (.ite 74
 (.lt Q0 [71,J 0] 75 none
 (.ite 75
 (.lt Qe [67,J 1] 76 none
 (.ite 76
 (.lt Qf [67,J 1] 77 none
 (.callF 21 k_ [64,72,J 2,77] 78
 (.cons 11
 (.done (.tup [J 0,J 3,J 0,.str [107],.str [],J 0,J 0,J 0,J 0,.flt .f64 0,.vsl 1 10 [82,83,84,85,86,87,88,89,90,91],92]))
 .nil)))
 (.lt Z3 [71,J 2] 77 none
 (.ite 77
 (.callF 39 ft39 [64,72,J 7] 78
 (.cons 2
 (.done (.tup [J 0,J 17,J 2,.str [],.str [],J 0,J 0,J 0,J 0,.flt .f64 0,.vsl 1 10 [J 1,J 0,.str [],.str [],J 0,J 0,J 3,81,.flt .f64 0,.nsl],82]))
 .nil))
 (.callF 39 ft39 [64,72,J 4] 78
 (.cons 2
 (.lt Q9 [.vsl 4 10 [J 2,J 0,.str [97],.str [],J 0,J 0,J 0,J 0,.flt .f64 0,.nsl,J 2,J 0,.str [120],.str [],J 0,J 0,J 0,J 0,.flt .f64 0,.nsl,J 2,J 0,.str [111],.str [],J 0,J 0,J 0,J 0,.flt .f64 0,.nsl,J 2,J 0,.str [99],.str [99,118],J 0,J 0,J 0,J 0,.flt .f64 0,.nsl],81] 83 none
 (.lt Qb [83] 84 (some 10)
 (.done (.tup [J 0,84,85,86,87,88,89,90,91,92,93,82]))))
 .nil))))))
 (.lt Z3 [71,J 2] 76 none
 (.ite 76
 (.callF 39 ft39 [64,72,J 7] 77
 (.cons 2
 (.done (.tup [J 0,J 17,J 2,.str [],.str [],J 0,J 0,J 0,J 0,.flt .f64 0,.vsl 1 10 [J 1,J 0,.str [],.str [],J 0,J 0,J 3,80,.flt .f64 0,.nsl],81]))
 .nil))
 (.callF 39 ft39 [64,72,J 4] 77
 (.cons 2
 (.lt Q9 [.vsl 4 10 [J 2,J 0,.str [97],.str [],J 0,J 0,J 0,J 0,.flt .f64 0,.nsl,J 2,J 0,.str [120],.str [],J 0,J 0,J 0,J 0,.flt .f64 0,.nsl,J 2,J 0,.str [111],.str [],J 0,J 0,J 0,J 0,.flt .f64 0,.nsl,J 2,J 0,.str [99],.str [99,118],J 0,J 0,J 0,J 0,.flt .f64 0,.nsl],80] 82 none
 (.lt Qb [82] 83 (some 10)
 (.done (.tup [J 0,83,84,85,86,87,88,89,90,91,92,81]))))
 .nil))))))
 (.lt Q0 [66,J 3] 75 none
 (.ite 75
 (.lt Z3 [71,J 2] 76 none
 (.ite 76
 (.callF 39 ft39 [64,72,J 9] 77
 (.cons 2
 (.done (.tup [J 0,J 1,J 0,.str [],.str [],J 0,J 0,J 3,80,.flt .f64 0,.nsl,81]))
 .nil))
 (.done (.tup [J 0,J 2,J 0,.str [121],.str [],J 0,J 0,J 0,J 0,.flt .f64 0,.nsl,72]))))
 (.lt Q0 [66,J 4] 76 none
 (.ite 76
 (.lt Q0 [71,J 0] 77 none
 (.ite 77
 (.done (.tup [J 0,J 2,J 0,.str [116,109],.str [101,116],J 0,J 0,J 0,J 0,.flt .f64 0,.nsl,72]))
 (.lt Q0 [71,J 1] 78 none
 (.ite 78
 (.callF 39 ft39 [64,72,J 50] 79
 (.cons 2
 (.done (.tup [J 0,J 1,J 0,.str [],.str [],J 0,J 0,J 4,82,.flt .f64 0,.nsl,83]))
 .nil))
 (.done (.tup [J 0,J 2,J 0,.str [119],.str [],J 0,J 0,J 0,J 0,.flt .f64 0,.nsl,72]))))))
 (.lt Z3 [71,J 2] 77 none
 (.ite 77
 (.callF 39 ft39 [64,72,J 4] 78
 (.cons 2
 (.lt (.iaddr 143) [.vsl 4 1 [.flt .f64 0,.flt .f64 4609434218613702656,.flt .f64 4611686018427387904,.flt .f64 4598175219545276416],81] 83 none
 (.lt (.load 44) [83] 84 none
 (.done (.tup [J 0,J 1,J 0,.str [],.str [],J 0,J 0,J 5,J 0,84,.nsl,82]))))
 .nil))
 (.done (.tup [J 0,J 2,J 0,.str [122],.str [],J 0,J 0,J 0,J 0,.flt .f64 0,.nsl,72]))))))))))))
 .nil))
def c21:VC:=⟨⟨[],[]⟩,[],[],1,true,[(39,ft39),(21,k_),(48,v4_)]⟩
def t21:VT:=
 (.lt Qv [67,J 1] 68 none
 (.ite 68
 (.callF 48 v4_ [64,65,66,67] 69
 (.cons 11
 (.done (.tup [J 0,73,74,75,76,77,78,79,80,81,82,83]))
 .nil))
 (.callF 39 ft39 [64,65,J 4] 69
 (.cons 2
 (.lt Q0 [72,J 0] 74 none
 (.ite 74
 (.callF 48 v4_ [64,73,66,67] 75
 (.cons 11
 (.done (.tup [J 0,79,80,81,82,83,84,85,86,87,88,89]))
 .nil))
 (.lt Q0 [66,J 1] 75 none
 (.ite 75
 (.callF 39 ft39 [64,73,J 5] 76
 (.cons 2
 (.lt Q0 [79,J 0] 81 none
 (.ite 81
 (.lt Qf [67,J 1] 82 none
 (.callF 21 k_ [64,80,J 1,82] 83
 (.cons 11
 (.done (.tup [J 0,J 15,J 0,.str [],.str [],J 0,J 0,J 0,J 0,.flt .f64 0,.vsl 1 10 [87,88,89,90,91,92,93,94,95,96],97]))
 .nil)))
 (.lt Q0 [79,J 1] 82 none
 (.ite 82
 (.callF 39 ft39 [64,80,J 2] 83
 (.cons 2
 (.lt Z4 [J 13,86] 88 none
 (.lt Qf [67,J 1] 89 none
 (.callF 21 k_ [64,87,J 1,89] 90
 (.cons 11
 (.lt Qf [67,J 1] 105 none
 (.callF 21 k_ [64,104,J 1,105] 106
 (.cons 11
 (.done (.tup [J 0,88,J 0,.str [],.str [],J 0,J 0,J 0,J 0,.flt .f64 0,.vsl 2 10 [94,95,96,97,98,99,100,101,102,103,110,111,112,113,114,115,116,117,118,119],120]))
 .nil)))
 .nil))))
 .nil))
 (.callF 39 ft39 [64,80,J 4] 83
 (.cons 2
 (.lt Z4 [J 2,86] 88 none
 (.callF 39 ft39 [64,87,J 4] 89
 (.cons 2
 (.lt Z4 [J 9,92] 94 none
 (.lt Qf [67,J 1] 95 none
 (.callF 21 k_ [64,93,88,95] 96
 (.cons 11
 (.lt Qf [67,J 1] 111 none
 (.callF 21 k_ [64,110,88,111] 112
 (.cons 11
 (.done (.tup [J 0,94,J 0,.str [],.str [],J 0,J 0,J 0,J 0,.flt .f64 0,.vsl 2 10 [100,101,102,103,104,105,106,107,108,109,116,117,118,119,120,121,122,123,124,125],126]))
 .nil)))
 .nil))))
 .nil)))
 .nil))))))
 .nil))
 (.callF 39 ft39 [64,73,J 9] 76
 (.cons 2
 (.lt Q0 [79,J 0] 81 none
 (.ite 81
 (.lt Qf [67,J 1] 82 none
 (.callF 21 k_ [64,80,66,82] 83
 (.cons 11
 (.done (.tup [J 0,J 16,J 0,.str [],.str [],J 0,J 0,J 0,J 0,.flt .f64 0,.vsl 1 10 [87,88,89,90,91,92,93,94,95,96],97]))
 .nil)))
 (.lt Q0 [79,J 1] 82 none
 (.ite 82
 (.callF 39 ft39 [64,80,J 4] 83
 (.cons 2
 (.lt Z4 [J 2,86] 88 none
 (.lt Qf [67,J 1] 89 none
 (.callF 21 k_ [64,87,88,89] 90
 (.cons 11
 (.done (.tup [J 0,J 17,66,.str [],.str [],J 0,J 0,J 0,J 0,.flt .f64 0,.vsl 1 10 [94,95,96,97,98,99,100,101,102,103],104]))
 .nil))))
 .nil))
 (.lt Q0 [79,J 2] 83 none
 (.ite 83
 (.lt Q6 [66,J 5] 84 none
 (.ite 84
 (.lt Qf [67,J 1] 85 none
 (.callF 21 k_ [64,80,66,85] 86
 (.cons 11
 (.lt Qf [67,J 1] 101 none
 (.callF 21 k_ [64,100,66,101] 102
 (.cons 11
 (.done (.tup [J 0,J 8,J 0,.str [],.str [],J 0,J 0,J 0,J 0,.flt .f64 0,.vsl 2 10 [90,91,92,93,94,95,96,97,98,99,106,107,108,109,110,111,112,113,114,115],116]))
 .nil)))
 .nil)))
 (.callF 39 ft39 [64,80,J 4] 85
 (.cons 2
 (.lt Z4 [J 4,88] 90 none
 (.lt Qf [67,J 1] 91 none
 (.callF 21 k_ [64,89,66,91] 92
 (.cons 11
 (.lt Qf [67,J 1] 107 none
 (.callF 21 k_ [64,106,66,107] 108
 (.cons 11
 (.done (.tup [J 0,90,J 0,.str [],.str [],J 0,J 0,J 0,J 0,.flt .f64 0,.vsl 2 10 [96,97,98,99,100,101,102,103,104,105,112,113,114,115,116,117,118,119,120,121],122]))
 .nil)))
 .nil))))
 .nil))))
 (.callF 39 ft39 [64,80,J 4] 84
 (.cons 2
 (.lt Z4 [J 4,87] 89 none
 (.lt Qf [67,J 1] 90 none
 (.callF 21 k_ [64,88,66,90] 91
 (.cons 11
 (.lt Qf [67,J 1] 106 none
 (.callF 21 k_ [64,105,66,106] 107
 (.cons 11
 (.done (.tup [J 0,89,J 0,.str [],.str [],J 0,J 0,J 0,J 0,.flt .f64 0,.vsl 2 10 [95,96,97,98,99,100,101,102,103,104,111,112,113,114,115,116,117,118,119,120],121]))
 .nil)))
 .nil))))
 .nil))))))))
 .nil))))))
 .nil))))
theorem p48 {l:List UInt8} {a:AV} (hp:Pk l a) (d:Nat) (hd2:d<=100) (hX:1<=d->PX l a 21 d):PX l a 48 (d+1):=by
 intro n k hn hk
 have hA:=hp.1.ok vj_
 refine vh_ (c:=c48) (n:=300) (t:=t48) mo ov rfl (λY _=>vE_ _) (by kernel_rfl) λY hf hg=>?_
 unfold t48
 have f7:∀v:Nat,(v:Int)<7->WX (d+1+1) (.mk 17 2 [] [] 0 0 0 0 0 [.mk 1 0 [] [] 0 0 3 (v:Int) 0 []]):=λv hv=>wm_ (by decide) (C_ (by unfold Q_;omega) (.inl rfl))
 (refine a_ (I_ hp hn (by first|decide|omega) (by first|decide|omega)) rfl (okP hA) ⟨?_,trivial⟩;intro ws hw;rcases hw with ⟨v,n,rfl,hv,hn⟩)
 (refine l_ rfl rfl (λh=>?_) (λh=>?_)<;>rw [i_]at h)
 ·((have e4:v=0\/v=1\/v=2\/v=3:=by omega);rcases e4 with rfl|rfl|rfl|rfl)
  all_goals (refine a_ (I_ hp hn (by first|decide|omega) (by first|decide|omega)) rfl (okP hA) ⟨?_,trivial⟩;intro ws hw;rcases hw with ⟨v,n,rfl,hv,hn⟩);refine vx_ rfl rfl (vf_ rfl rfl rfl ?_);(first
                                                                                                                                                                                                               |exact t_ (x:=.mk 2 _ _ _ _ _ _ _ _ []) rfl (n_ (by decide)) hn
                                                                                                                                                                                                               |exact t_ (x:=.mk 1 _ _ _ _ _ _ _ _ []) rfl (C_ (by unfold Q_;omega) (by first|exact .inl rfl|exact .inr (.inl rfl)|exact .inr (.inr (.inl rfl))|exact .inr (.inr (.inr rfl)))) hn)
 (refine l_ rfl rfl (λh=>?_) (λh=>?_)<;>rw [i_]at h)
 ·(refine l_ rfl rfl (λh=>?_) (λh=>?_)<;>rw [i_]at h)
  ·(refine l_ rfl rfl (λh=>?_) (λh=>?_)<;>rw [i_]at h)
   .have hd1:1<=d:=by simp at h;omega
    refine vx_ (s_ (z:=(d:Int)) (by omega) (by omega) (by omega)) rfl ?_
    (refine a_ ((hX hd1) _ _ hn (by first|decide|(simp only [decide_eq_true_eq,decide_eq_false_iff_not]at *; omega))) rfl (H_ hA) ⟨?_,trivial⟩;intro ws hw;obtain ⟨⟨op,kd,nm,fd,ad,nn,vk,vi,vf,args⟩,n,rfl,hx,hn⟩:=hw)
    (exact t_ (x:=.mk _ _ _ _ _ _ _ _ _ [.mk _ _ _ _ _ _ _ _ _ _]) rfl (wm_ (by first|decide|(refine .inr (.inr (.inr ⟨rfl,?_,?_⟩))<;>(simp only [decide_eq_true_eq,decide_eq_false_iff_not]at *; omega))) (by assumption)) hn)
   ·(refine l_ rfl rfl (λh=>?_) (λh=>?_)<;>rw [i_]at h)
    ·(refine a_ (I_ hp hn (by first|decide|omega) (by first|decide|omega)) rfl (okP hA) ⟨?_,trivial⟩;intro ws hw;rcases hw with ⟨v,n,rfl,hv,hn⟩)
     exact t_ (x:=.mk _ _ _ _ _ _ _ _ _ [.mk _ _ _ _ _ _ _ _ _ []]) rfl (f7 _ hv) hn
    ·(refine a_ (I_ hp hn (by first|decide|omega) (by first|decide|omega)) rfl (okP hA) ⟨?_,trivial⟩;intro ws hw;rcases hw with ⟨v,n,rfl,hv,hn⟩);((have e4:v=0\/v=1\/v=2\/v=3:=by omega);rcases e4 with rfl|rfl|rfl|rfl)
     all_goals refine vx_ rfl rfl (vf_ rfl rfl rfl ?_);(first
                                                                |exact t_ (x:=.mk 2 _ _ _ _ _ _ _ _ []) rfl (n_ (by decide)) hn
                                                                |exact t_ (x:=.mk 1 _ _ _ _ _ _ _ _ []) rfl (C_ (by unfold Q_;omega) (by first|exact .inl rfl|exact .inr (.inl rfl)|exact .inr (.inr (.inl rfl))|exact .inr (.inr (.inr rfl)))) hn)
  ·(refine l_ rfl rfl (λh=>?_) (λh=>?_)<;>rw [i_]at h)
   ·(refine a_ (I_ hp hn (by first|decide|omega) (by first|decide|omega)) rfl (okP hA) ⟨?_,trivial⟩;intro ws hw;rcases hw with ⟨v,n,rfl,hv,hn⟩)
    exact t_ (x:=.mk _ _ _ _ _ _ _ _ _ [.mk _ _ _ _ _ _ _ _ _ []]) rfl (f7 _ hv) hn
   ·(refine a_ (I_ hp hn (by first|decide|omega) (by first|decide|omega)) rfl (okP hA) ⟨?_,trivial⟩;intro ws hw;rcases hw with ⟨v,n,rfl,hv,hn⟩);((have e4:v=0\/v=1\/v=2\/v=3:=by omega);rcases e4 with rfl|rfl|rfl|rfl)
    all_goals refine vx_ rfl rfl (vf_ rfl rfl rfl ?_);(first
                                                               |exact t_ (x:=.mk 2 _ _ _ _ _ _ _ _ []) rfl (n_ (by decide)) hn
                                                               |exact t_ (x:=.mk 1 _ _ _ _ _ _ _ _ []) rfl (C_ (by unfold Q_;omega) (by first|exact .inl rfl|exact .inr (.inl rfl)|exact .inr (.inr (.inl rfl))|exact .inr (.inr (.inr rfl)))) hn)
 (refine l_ rfl rfl (λh=>?_) (λh=>?_)<;>rw [i_]at h)
 ·(refine l_ rfl rfl (λh=>?_) (λh=>?_)<;>rw [i_]at h)
  ·(refine a_ (I_ hp hn (by first|decide|omega) (by first|decide|omega)) rfl (okP hA) ⟨?_,trivial⟩;intro ws hw;rcases hw with ⟨v,n,rfl,hv,hn⟩);(first
                                                                                                                                                       |exact t_ (x:=.mk 2 _ _ _ _ _ _ _ _ []) rfl (n_ (by decide)) hn
                                                                                                                                                       |exact t_ (x:=.mk 1 _ _ _ _ _ _ _ _ []) rfl (C_ (by unfold Q_;omega) (by first|exact .inl rfl|exact .inr (.inl rfl)|exact .inr (.inr (.inl rfl))|exact .inr (.inr (.inr rfl)))) hn)
  ·(first
     |exact t_ (x:=.mk 2 _ _ _ _ _ _ _ _ []) rfl (n_ (by decide)) hn
     |exact t_ (x:=.mk 1 _ _ _ _ _ _ _ _ []) rfl (C_ (by unfold Q_;omega) (by first|exact .inl rfl|exact .inr (.inl rfl)|exact .inr (.inr (.inl rfl))|exact .inr (.inr (.inr rfl)))) hn)
 (refine l_ rfl rfl (λh=>?_) (λh=>?_)<;>rw [i_]at h)
 ·(refine l_ rfl rfl (λh=>?_) (λh=>?_)<;>rw [i_]at h)
  ·(first
     |exact t_ (x:=.mk 2 _ _ _ _ _ _ _ _ []) rfl (n_ (by decide)) hn
     |exact t_ (x:=.mk 1 _ _ _ _ _ _ _ _ []) rfl (C_ (by unfold Q_;omega) (by first|exact .inl rfl|exact .inr (.inl rfl)|exact .inr (.inr (.inl rfl))|exact .inr (.inr (.inr rfl)))) hn)
  ·(refine l_ rfl rfl (λh=>?_) (λh=>?_)<;>rw [i_]at h)
   ·(refine a_ (I_ hp hn (by first|decide|omega) (by first|decide|omega)) rfl (okP hA) ⟨?_,trivial⟩;intro ws hw;rcases hw with ⟨v,n,rfl,hv,hn⟩);(first
                                                                                                                                                        |exact t_ (x:=.mk 2 _ _ _ _ _ _ _ _ []) rfl (n_ (by decide)) hn
                                                                                                                                                        |exact t_ (x:=.mk 1 _ _ _ _ _ _ _ _ []) rfl (C_ (by unfold Q_;omega) (by first|exact .inl rfl|exact .inr (.inl rfl)|exact .inr (.inr (.inl rfl))|exact .inr (.inr (.inr rfl)))) hn)
   ·(first
      |exact t_ (x:=.mk 2 _ _ _ _ _ _ _ _ []) rfl (n_ (by decide)) hn
      |exact t_ (x:=.mk 1 _ _ _ _ _ _ _ _ []) rfl (C_ (by unfold Q_;omega) (by first|exact .inl rfl|exact .inr (.inl rfl)|exact .inr (.inr (.inl rfl))|exact .inr (.inr (.inr rfl)))) hn)
 (refine l_ rfl rfl (λh=>?_) (λh=>?_)<;>rw [i_]at h)
 ·(refine a_ (I_ hp hn (by first|decide|omega) (by first|decide|omega)) rfl (okP hA) ⟨?_,trivial⟩;intro ws hw;rcases hw with ⟨v,n,rfl,hv,hn⟩);((have e4:v=0\/v=1\/v=2\/v=3:=by omega);rcases e4 with rfl|rfl|rfl|rfl)
  all_goals refine vx_ rfl rfl (vx_ rfl rfl ?_);(first
                                                        |exact t_ (x:=.mk 2 _ _ _ _ _ _ _ _ []) rfl (n_ (by decide)) hn
                                                        |exact t_ (x:=.mk 1 _ _ _ _ _ _ _ _ []) rfl (C_ (by unfold Q_;omega) (by first|exact .inl rfl|exact .inr (.inl rfl)|exact .inr (.inr (.inl rfl))|exact .inr (.inr (.inr rfl)))) hn)
 ·(first
    |exact t_ (x:=.mk 2 _ _ _ _ _ _ _ _ []) rfl (n_ (by decide)) hn
    |exact t_ (x:=.mk 1 _ _ _ _ _ _ _ _ []) rfl (C_ (by unfold Q_;omega) (by first|exact .inl rfl|exact .inr (.inl rfl)|exact .inr (.inr (.inl rfl))|exact .inr (.inr (.inr rfl)))) hn)
theorem p21 {l:List UInt8} {a:AV} (hp:Pk l a) (d:Nat) (hd2:d<=100) (h83:PX l a 48 (d+1)) (h81:1<=d->PX l a 21 d):PX l a 21 (d+1):=by
 intro n k hn hk
 have hA:=hp.1.ok vj_
 refine vh_ (c:=c21) (n:=300) (t:=t21) mo ov rfl (λY _=>vE_ _) (by kernel_rfl) λY hf hg=>?_
 unfold t21
 (refine l_ rfl rfl (λh=>?_) (λh=>?_)<;>rw [i_]at h)
 ·(refine a_ (h83 _ _ hn (by first|decide|(simp only [decide_eq_true_eq,decide_eq_false_iff_not]at *; omega))) rfl (H_ hA) ⟨?_,trivial⟩;intro ws hw;obtain ⟨⟨op,kd,nm,fd,ad,nn,vk,vi,vf,args⟩,n,rfl,hx,hn⟩:=hw);exact t_ (x:=.mk _ _ _ _ _ _ _ _ _ _) rfl hx hn
 have hX:=h81 (by simp at h;omega)
 (refine a_ (I_ hp hn (by first|decide|omega) (by first|decide|omega)) rfl (okP hA) ⟨?_,trivial⟩;intro ws hw;rcases hw with ⟨v,n,rfl,hv,hn⟩);(refine l_ rfl rfl (λh=>?_) (λh=>?_)<;>rw [i_]at h)
 ·(refine a_ (h83 _ _ hn (by first|decide|(simp only [decide_eq_true_eq,decide_eq_false_iff_not]at *; omega))) rfl (H_ hA) ⟨?_,trivial⟩;intro ws hw;obtain ⟨⟨op,kd,nm,fd,ad,nn,vk,vi,vf,args⟩,n,rfl,hx,hn⟩:=hw);exact t_ (x:=.mk _ _ _ _ _ _ _ _ _ _) rfl hx hn
 (refine l_ rfl rfl (λh=>?_) (λh=>?_)<;>rw [i_]at h)
 ·(refine a_ (I_ hp hn (by first|decide|omega) (by first|decide|omega)) rfl (okP hA) ⟨?_,trivial⟩;intro ws hw;rcases hw with ⟨v,n,rfl,hv,hn⟩);(refine l_ rfl rfl (λh=>?_) (λh=>?_)<;>rw [i_]at h)
  ·(refine vx_ (s_ (z:=(d:Int)) (by omega) (by omega) (by omega)) rfl ?_);(refine a_ (hX _ _ hn (by first|decide|(simp only [decide_eq_true_eq,decide_eq_false_iff_not]at *; omega))) rfl (H_ hA) ⟨?_,trivial⟩;intro ws hw;obtain ⟨⟨op,kd,nm,fd,ad,nn,vk,vi,vf,args⟩,n,rfl,hx,hn⟩:=hw);(exact t_ (x:=.mk _ _ _ _ _ _ _ _ _ [.mk _ _ _ _ _ _ _ _ _ _]) rfl (wm_ (by first|decide|(refine .inr (.inr (.inr ⟨rfl,?_,?_⟩))<;>(simp only [decide_eq_true_eq,decide_eq_false_iff_not]at *; omega))) (by assumption)) hn)
  (refine l_ rfl rfl (λh=>?_) (λh=>?_)<;>rw [i_]at h)
  ·(refine a_ (I_ hp hn (by first|decide|omega) (by first|decide|omega)) rfl (okP hA) ⟨?_,trivial⟩;intro ws hw;rcases hw with ⟨v,n,rfl,hv,hn⟩);(refine vx_ (h_ (by omega) (by omega)) rfl ?_);(refine vx_ (s_ (z:=(d:Int)) (by omega) (by omega) (by omega)) rfl ?_);(refine a_ (hX _ _ hn (by first|decide|(simp only [decide_eq_true_eq,decide_eq_false_iff_not]at *; omega))) rfl (H_ hA) ⟨?_,trivial⟩;intro ws hw;obtain ⟨⟨op,kd,nm,fd,ad,nn,vk,vi,vf,args⟩,n,rfl,hx,hn⟩:=hw);(refine vx_ (s_ (z:=(d:Int)) (by omega) (by omega) (by omega)) rfl ?_);(refine a_ (hX _ _ hn (by first|decide|(simp only [decide_eq_true_eq,decide_eq_false_iff_not]at *; omega))) rfl (H_ hA) ⟨?_,trivial⟩;intro ws hw;obtain ⟨⟨op,kd,nm,fd,ad,nn,vk,vi,vf,args⟩,n,rfl,hx,hn⟩:=hw);(exact t_ (x:=.mk _ _ _ _ _ _ _ _ _ [.mk _ _ _ _ _ _ _ _ _ _,.mk _ _ _ _ _ _ _ _ _ _]) rfl (wn_ (by omega) (by assumption) (by assumption)) hn)
  ·(refine a_ (I_ hp hn (by first|decide|omega) (by first|decide|omega)) rfl (okP hA) ⟨?_,trivial⟩;intro ws hw;rcases hw with ⟨v,n,rfl,hv,hn⟩);(refine vx_ (h_ (by omega) (by omega)) rfl ?_);(refine a_ (I_ hp hn (by first|decide|omega) (by first|decide|omega)) rfl (okP hA) ⟨?_,trivial⟩;intro ws hw;rcases hw with ⟨v,n,rfl,hv,hn⟩);(refine vx_ (h_ (by omega) (by omega)) rfl ?_);(refine vx_ (s_ (z:=(d:Int)) (by omega) (by omega) (by omega)) rfl ?_);(refine a_ (hX _ _ hn (by first|decide|(simp only [decide_eq_true_eq,decide_eq_false_iff_not]at *; omega))) rfl (H_ hA) ⟨?_,trivial⟩;intro ws hw;obtain ⟨⟨op,kd,nm,fd,ad,nn,vk,vi,vf,args⟩,n,rfl,hx,hn⟩:=hw);(refine vx_ (s_ (z:=(d:Int)) (by omega) (by omega) (by omega)) rfl ?_);(refine a_ (hX _ _ hn (by first|decide|(simp only [decide_eq_true_eq,decide_eq_false_iff_not]at *; omega))) rfl (H_ hA) ⟨?_,trivial⟩;intro ws hw;obtain ⟨⟨op,kd,nm,fd,ad,nn,vk,vi,vf,args⟩,n,rfl,hx,hn⟩:=hw);(exact t_ (x:=.mk _ _ _ _ _ _ _ _ _ [.mk _ _ _ _ _ _ _ _ _ _,.mk _ _ _ _ _ _ _ _ _ _]) rfl (wn_ (by omega) (by assumption) (by assumption)) hn)
 ·(refine a_ (I_ hp hn (by first|decide|omega) (by first|decide|omega)) rfl (okP hA) ⟨?_,trivial⟩;intro ws hw;rcases hw with ⟨v,n,rfl,hv,hn⟩);(refine l_ rfl rfl (λh=>?_) (λh=>?_)<;>rw [i_]at h)
  ·(refine vx_ (s_ (z:=(d:Int)) (by omega) (by omega) (by omega)) rfl ?_);(refine a_ (hX _ _ hn (by first|decide|(simp only [decide_eq_true_eq,decide_eq_false_iff_not]at *; omega))) rfl (H_ hA) ⟨?_,trivial⟩;intro ws hw;obtain ⟨⟨op,kd,nm,fd,ad,nn,vk,vi,vf,args⟩,n,rfl,hx,hn⟩:=hw);(exact t_ (x:=.mk _ _ _ _ _ _ _ _ _ [.mk _ _ _ _ _ _ _ _ _ _]) rfl (wm_ (by first|decide|(refine .inr (.inr (.inr ⟨rfl,?_,?_⟩))<;>(simp only [decide_eq_true_eq,decide_eq_false_iff_not]at *; omega))) (by assumption)) hn)
  (refine l_ rfl rfl (λh=>?_) (λh=>?_)<;>rw [i_]at h)
  ·(refine a_ (I_ hp hn (by first|decide|omega) (by first|decide|omega)) rfl (okP hA) ⟨?_,trivial⟩;intro ws hw;rcases hw with ⟨v,n,rfl,hv,hn⟩);(refine vx_ (h_ (by omega) (by omega)) rfl ?_);(refine vx_ (s_ (z:=(d:Int)) (by omega) (by omega) (by omega)) rfl ?_);(refine a_ (hX _ _ hn (by first|decide|(simp only [decide_eq_true_eq,decide_eq_false_iff_not]at *; omega))) rfl (H_ hA) ⟨?_,trivial⟩;intro ws hw;obtain ⟨⟨op,kd,nm,fd,ad,nn,vk,vi,vf,args⟩,n,rfl,hx,hn⟩:=hw);(exact t_ (x:=.mk _ _ _ _ _ _ _ _ _ [.mk _ _ _ _ _ _ _ _ _ _]) rfl (wm_ (by first|decide|(refine .inr (.inr (.inr ⟨rfl,?_,?_⟩))<;>(simp only [decide_eq_true_eq,decide_eq_false_iff_not]at *; omega))) (by assumption)) hn)
  (refine l_ rfl rfl (λh=>?_) (λh=>?_)<;>rw [i_]at h)
  ·(refine l_ rfl rfl (λh=>?_) (λh=>?_)<;>rw [i_]at h)
   ·(refine vx_ (s_ (z:=(d:Int)) (by omega) (by omega) (by omega)) rfl ?_);(refine a_ (hX _ _ hn (by first|decide|(simp only [decide_eq_true_eq,decide_eq_false_iff_not]at *; omega))) rfl (H_ hA) ⟨?_,trivial⟩;intro ws hw;obtain ⟨⟨op,kd,nm,fd,ad,nn,vk,vi,vf,args⟩,n,rfl,hx,hn⟩:=hw);(refine vx_ (s_ (z:=(d:Int)) (by omega) (by omega) (by omega)) rfl ?_);(refine a_ (hX _ _ hn (by first|decide|(simp only [decide_eq_true_eq,decide_eq_false_iff_not]at *; omega))) rfl (H_ hA) ⟨?_,trivial⟩;intro ws hw;obtain ⟨⟨op,kd,nm,fd,ad,nn,vk,vi,vf,args⟩,n,rfl,hx,hn⟩:=hw);(exact t_ (x:=.mk _ _ _ _ _ _ _ _ _ [.mk _ _ _ _ _ _ _ _ _ _,.mk _ _ _ _ _ _ _ _ _ _]) rfl (wn_ (by omega) (by assumption) (by assumption)) hn)
   ·(refine a_ (I_ hp hn (by first|decide|omega) (by first|decide|omega)) rfl (okP hA) ⟨?_,trivial⟩;intro ws hw;rcases hw with ⟨v,n,rfl,hv,hn⟩);(refine vx_ (h_ (by omega) (by omega)) rfl ?_);(refine vx_ (s_ (z:=(d:Int)) (by omega) (by omega) (by omega)) rfl ?_);(refine a_ (hX _ _ hn (by first|decide|(simp only [decide_eq_true_eq,decide_eq_false_iff_not]at *; omega))) rfl (H_ hA) ⟨?_,trivial⟩;intro ws hw;obtain ⟨⟨op,kd,nm,fd,ad,nn,vk,vi,vf,args⟩,n,rfl,hx,hn⟩:=hw);(refine vx_ (s_ (z:=(d:Int)) (by omega) (by omega) (by omega)) rfl ?_);(refine a_ (hX _ _ hn (by first|decide|(simp only [decide_eq_true_eq,decide_eq_false_iff_not]at *; omega))) rfl (H_ hA) ⟨?_,trivial⟩;intro ws hw;obtain ⟨⟨op,kd,nm,fd,ad,nn,vk,vi,vf,args⟩,n,rfl,hx,hn⟩:=hw);(exact t_ (x:=.mk _ _ _ _ _ _ _ _ _ [.mk _ _ _ _ _ _ _ _ _ _,.mk _ _ _ _ _ _ _ _ _ _]) rfl (wn_ (by omega) (by assumption) (by assumption)) hn)
  ·(refine a_ (I_ hp hn (by first|decide|omega) (by first|decide|omega)) rfl (okP hA) ⟨?_,trivial⟩;intro ws hw;rcases hw with ⟨v,n,rfl,hv,hn⟩);(refine vx_ (h_ (by omega) (by omega)) rfl ?_);(refine vx_ (s_ (z:=(d:Int)) (by omega) (by omega) (by omega)) rfl ?_);(refine a_ (hX _ _ hn (by first|decide|(simp only [decide_eq_true_eq,decide_eq_false_iff_not]at *; omega))) rfl (H_ hA) ⟨?_,trivial⟩;intro ws hw;obtain ⟨⟨op,kd,nm,fd,ad,nn,vk,vi,vf,args⟩,n,rfl,hx,hn⟩:=hw);(refine vx_ (s_ (z:=(d:Int)) (by omega) (by omega) (by omega)) rfl ?_);(refine a_ (hX _ _ hn (by first|decide|(simp only [decide_eq_true_eq,decide_eq_false_iff_not]at *; omega))) rfl (H_ hA) ⟨?_,trivial⟩;intro ws hw;obtain ⟨⟨op,kd,nm,fd,ad,nn,vk,vi,vf,args⟩,n,rfl,hx,hn⟩:=hw);(exact t_ (x:=.mk _ _ _ _ _ _ _ _ _ [.mk _ _ _ _ _ _ _ _ _ _,.mk _ _ _ _ _ _ _ _ _ _]) rfl (wn_ (by omega) (by assumption) (by assumption)) hn)
theorem pX {l:List UInt8} {a:AV} (hp:Pk l a):∀d:Nat,d<=100->PX l a 48 (d+1)/\PX l a 21 (d+1)
 |0,h=>by
  have h1:=p48 hp 0 h (λh=>by omega)
  exact ⟨h1,p21 hp 0 h h1 (λh=>by omega)⟩
 |d+1,h=>by
  have ih:=pX hp d (by omega)
  have h1:=p48 hp (d+1) h (λ_=>ih.2)
  exact ⟨h1,p21 hp (d+1) h h1 (λ_=>ih.2)⟩
end Go.Proofs.YtjconanknjgpnaaGreat.vars
set_option maxRecDepth 100000
set_option linter.unusedVariables false
set_option linter.unusedSimpArgs false
namespace Go.Proofs.YtjconanknjgpnaaGreat.vars
open Go Go.Sx
def RS (l:List UInt8) (d:Nat):Nat->List AV->Prop:=λ_ ws=>∃(x:GS) (n:Nat),ws=o_ x++[.int .i64 (n:Int)]/\WS d x/\n<=l.length
def RB (l:List UInt8) (d m:Nat):Nat->List AV->Prop:=λ_ ws=>∃(x:List GS) (n:Nat),ws=[q_ x,.int .i64 (n:Int)]/\(x.length<=m/\∀s∈x,WS d s)/\n<=l.length
def PS (l:List UInt8) (a:AV) (d:Nat):Prop:=∀n:Nat,n<=l.length->CF Tryz.prog 112 ft112 [a,.int .i64 (n:Int),.int .i64 (d:Int)] (RS l (d+1))
def PB (l:List UInt8) (a:AV) (d:Nat):Prop:=∀(n m:Nat),n<=l.length->1<=m->m<=10->CF Tryz.prog 70 ft70 [a,.int .i64 (n:Int),.int .i64 (m:Int),.int .i64 (d:Int)] (RB l (d+1) m)
theorem zY_ (x:GS) (n:Int):okL (o_ x++[.int .i64 n])=true:=oL_.okL_join (okS x) rfl
theorem M_ {l:List UInt8} {d n j:Nat} {x:GS} {hv:List AV} {Y:Sy} {L:List (Nat->List AV->Prop)} (h:ab_ Y.v hv=o_ x++[.int .i64 (n:Int)]) (hw:WS d x) (hn:n<=l.length):VOK Tryz.prog (QF (RS l d)) L Y (.done (.tup (.int .i64 (.ofNat j)::hv))):=
 VOK_fin (by rw [h];exact zY_ x n) ⟨x,n,h,hw,hn⟩
theorem T_ {d:Nat} {to e:GX} (h1:WX 5 to) (h2:to.op=2\/to.op=3) (h3:WX 5 e):WS (d+1) (.mk 1 to e [] [] [] 0 0 []):=.inl ⟨rfl,h1,h2,c_ (by omega) h3,rfl,rfl⟩
theorem x_ {d:Nat} {to e:GX} {nm:List UInt8} {kd ad:Int} {args:List GX} (h0:nm=[116,109]\/nm=[99]\/nm=[101]) (h1:args.length<=2) (h2:∀a∈args,WX 5 a):WS (d+1) (.mk 4 to e [] [] nm kd ad args):=.inr (.inr ⟨rfl,h0,h1,h2,rfl,rfl⟩)
theorem wY_ {d:Nat} {op:Int} {to e:GX} {thn els:List GS} {nm:List UInt8} {kd ad:Int} {args:List GX} (h1:op=2\/op=3) (h:WX 5 e) (h2:thn.length<=5) (h3:els.length<=5) (h4:∀s∈thn,WS d s) (h5:∀s∈els,WS d s):WS (d+1) (.mk op to e thn els nm kd ad args):=.inr (.inl ⟨h1,h,h2,h3,h4,h5⟩)
theorem xt_ {x:GX} (h:WX 5 x):∀a∈[x],WX 5 a:=λa ha=>by cases List.mem_singleton.1 ha;exact h
theorem wu_ {x y:GX} (h:WX 5 x) (h2:WX 5 y):∀a∈[x,y],WX 5 a:=λa ha=>by rcases List.mem_cons.1 ha with rfl|ha;exact h;exact xt_ h2 a ha
theorem on_ {s:List UInt8} (h:(s,[])∈vP_):WX 5 (.mk 2 0 s [] 0 0 0 0 0 []):=n_ h
def c79:VC:=⟨⟨[],[]⟩,[],[],0,true,[]⟩
def t79:VT:=
 (.done (.agg [J 2,J 0,64,.str [],J 0,J 0,J 0,J 0,.flt .f64 0,.nsl]))
def c80:VC:=⟨⟨[],[]⟩,[],[],0,true,[]⟩
def t80:VT:=
 (.done (.agg [J 1,J 0,.str [],.str [],J 0,J 0,64,65,66,.nsl]))
theorem p79 (s:List UInt8):jA_ Tryz.prog 79 [.str s] (.agg (j_ (.mk 2 0 s [] 0 0 0 0 0 []))):=by
 refine t8_ (sh:=[none]) (ls:=[.str s]) (c:=c79) (n:=300) (t:=t79) mo ov rfl rfl rfl (λY _=>vE_ _) rfl (by kernel_rfl) λY hf hg=>?_
 unfold t79
 exact uJ_ rfl
theorem p80:jA_ Tryz.prog 80 [.agg [.int .i64 3,.int .i64 1,.flt .f64 0]] (.agg (j_ (.mk 1 0 [] [] 0 0 3 1 0 []))):=by
 refine t8_ (sh:=[some 3]) (ls:=[.int .i64 3,.int .i64 1,.flt .f64 0]) (c:=c80) (n:=300) (t:=t80) mo ov rfl rfl rfl (λY _=>vE_ _) rfl (by kernel_rfl) λY hf hg=>?_
 unfold t80
 exact uJ_ rfl
def AZ_:VC:=⟨⟨[],[]⟩,[(79,[(some 10)]),(80,[(some 10)])],[],1,true,[(39,ft39),(21,k_),(48,v4_),(70,ft70)]⟩
def Ae_:VT:=
 (.callF 39 ft39 [64,65,J 12] 67
 (.cons 2
 (.lt Q0 [70,J 0] 72 none
 (.ite 72
 (.lt Qe [66,J 0] 73 none
 (.ite 73
 (.callF 21 k_ [64,71,J 1,J 3] 74
 (.cons 11
 (.lt Qf [66,J 1] 89 none
 (.callF 70 ft70 [64,88,J 2,89] 90
 (.cons 2
 (.callF 39 ft39 [64,95,J 2] 96
 (.cons 2
 (.lt Q0 [99,J 0] 101 none
 (.ite 101
 (.lt Qf [66,J 1] 102 none
 (.callF 70 ft70 [64,100,J 2,102] 103
 (.cons 2
 (.done (.tup [J 0,J 2,J 0,J 0,.str [],.str [],J 0,J 0,J 0,J 0,.flt .f64 0,.nsl,78,79,80,81,82,83,84,85,86,87,94,107,.str [],J 0,J 0,.nsl,108]))
 .nil)))
 (.done (.tup [J 0,J 2,J 0,J 0,.str [],.str [],J 0,J 0,J 0,J 0,.flt .f64 0,.nsl,78,79,80,81,82,83,84,85,86,87,94,.nsl,.str [],J 0,J 0,.nsl,100]))))
 .nil))
 .nil)))
 .nil))
 (.lt Q0 [70,J 1] 74 none
 (.ite 74
 (.lt Qe [66,J 0] 75 none
 (.ite 75
 (.call 79 [.str [120]] 76 [(some 10)]
 (.callF 48 v4_ [64,71,J 2,J 1] 86
 (.cons 11
 (.lt Qf [66,J 1] 101 none
 (.callF 70 ft70 [64,100,J 1,101] 102
 (.cons 2
 (.call 79 [.str [120]] 108 [(some 10)]
 (.call 79 [.str [120]] 118 [(some 10)]
 (.call 80 [.agg [J 3,J 1,.flt .f64 0]] 128 [(some 10)]
 (.lt Zk [106,.agg [J 1,108,109,110,111,112,113,114,115,116,117,J 4,J 0,.str [],.str [],J 0,J 0,J 0,J 0,.flt .f64 0,.vsl 2 10 [118,119,120,121,122,123,124,125,126,127,128,129,130,131,132,133,134,135,136,137],.nsl,.nsl,.str [],J 0,J 0,.nsl]] 138 none
 (.done (.tup [J 0,J 3,J 0,J 0,.str [],.str [],J 0,J 0,J 0,J 0,.flt .f64 0,.nsl,J 11,J 0,.str [],.str [],J 0,J 0,J 0,J 0,.flt .f64 0,.vsl 2 10 [76,77,78,79,80,81,82,83,84,85,90,91,92,93,94,95,96,97,98,99],138,.nsl,.str [],J 0,J 0,.nsl,107]))))))
 .nil)))
 .nil)))
 (.lt Q0 [70,J 2] 76 none
 (.ite 76
 (.callF 21 k_ [64,71,J 1,J 2] 77
 (.cons 11
 (.callF 21 k_ [64,91,J 4,J 2] 92
 (.cons 11
 (.done (.tup [J 0,J 4,J 0,J 0,.str [],.str [],J 0,J 0,J 0,J 0,.flt .f64 0,.nsl,J 0,J 0,.str [],.str [],J 0,J 0,J 0,J 0,.flt .f64 0,.nsl,.nsl,.nsl,.str [116,109],J 0,J 0,.vsl 2 10 [81,82,83,84,85,86,87,88,89,90,96,97,98,99,100,101,102,103,104,105],106]))
 .nil))
 .nil))
 (.lt Q0 [70,J 3] 77 none
 (.ite 77
 (.callF 21 k_ [64,71,J 1,J 2] 78
 (.cons 11
 (.callF 48 v4_ [64,92,J 2,J 1] 93
 (.cons 11
 (.done (.tup [J 0,J 4,J 0,J 0,.str [],.str [],J 0,J 0,J 0,J 0,.flt .f64 0,.nsl,J 0,J 0,.str [],.str [],J 0,J 0,J 0,J 0,.flt .f64 0,.nsl,.nsl,.nsl,.str [99],J 0,J 0,.vsl 2 10 [82,83,84,85,86,87,88,89,90,91,97,98,99,100,101,102,103,104,105,106],107]))
 .nil))
 .nil))
 (.lt Q0 [70,J 4] 78 none
 (.ite 78
 (.callF 21 k_ [64,71,J 1,J 2] 79
 (.cons 11
 (.done (.tup [J 0,J 4,J 0,J 0,.str [],.str [],J 0,J 0,J 0,J 0,.flt .f64 0,.nsl,J 0,J 0,.str [],.str [],J 0,J 0,J 0,J 0,.flt .f64 0,.nsl,.nsl,.nsl,.str [101],J 0,J 0,.vsl 1 10 [83,84,85,86,87,88,89,90,91,92],93]))
 .nil))
 (.lt Q0 [70,J 5] 79 none
 (.ite 79
 (.callF 21 k_ [64,71,J 2,J 2] 80
 (.cons 11
 (.callF 21 k_ [64,94,J 2,J 3] 95
 (.cons 11
 (.done (.tup [J 0,J 1,J 3,J 0,.str [107],.str [],J 0,J 0,J 0,J 0,.flt .f64 0,.vsl 1 10 [84,85,86,87,88,89,90,91,92,93],99,100,101,102,103,104,105,106,107,108,.nsl,.nsl,.str [],J 0,J 0,.nsl,109]))
 .nil))
 .nil))
 (.callF 39 ft39 [64,71,J 6] 80
 (.cons 2
 (.lt Zf [.vsl 6 1 [.str [111],.str [120],.str [113],.str [121],.str [122],.str [119]],83] 85 none
 (.lt Zg [85] 86 none
 (.lt Zl [86] 87 none
 (.call 79 [86] 88 [(some 10)]
 (.callF 21 k_ [64,84,87,J 4] 98
 (.cons 11
 (.done (.tup [J 0,J 1,88,89,90,91,92,93,94,95,96,97,102,103,104,105,106,107,108,109,110,111,.nsl,.nsl,.str [],J 0,J 0,.nsl,112]))
 .nil))))))
 .nil))))))))))))
 (.lt Q0 [70,J 2] 75 none
 (.ite 75
 (.callF 21 k_ [64,71,J 1,J 2] 76
 (.cons 11
 (.callF 21 k_ [64,90,J 4,J 2] 91
 (.cons 11
 (.done (.tup [J 0,J 4,J 0,J 0,.str [],.str [],J 0,J 0,J 0,J 0,.flt .f64 0,.nsl,J 0,J 0,.str [],.str [],J 0,J 0,J 0,J 0,.flt .f64 0,.nsl,.nsl,.nsl,.str [116,109],J 0,J 0,.vsl 2 10 [80,81,82,83,84,85,86,87,88,89,95,96,97,98,99,100,101,102,103,104],105]))
 .nil))
 .nil))
 (.lt Q0 [70,J 3] 76 none
 (.ite 76
 (.callF 21 k_ [64,71,J 1,J 2] 77
 (.cons 11
 (.callF 48 v4_ [64,91,J 2,J 1] 92
 (.cons 11
 (.done (.tup [J 0,J 4,J 0,J 0,.str [],.str [],J 0,J 0,J 0,J 0,.flt .f64 0,.nsl,J 0,J 0,.str [],.str [],J 0,J 0,J 0,J 0,.flt .f64 0,.nsl,.nsl,.nsl,.str [99],J 0,J 0,.vsl 2 10 [81,82,83,84,85,86,87,88,89,90,96,97,98,99,100,101,102,103,104,105],106]))
 .nil))
 .nil))
 (.lt Q0 [70,J 4] 77 none
 (.ite 77
 (.callF 21 k_ [64,71,J 1,J 2] 78
 (.cons 11
 (.done (.tup [J 0,J 4,J 0,J 0,.str [],.str [],J 0,J 0,J 0,J 0,.flt .f64 0,.nsl,J 0,J 0,.str [],.str [],J 0,J 0,J 0,J 0,.flt .f64 0,.nsl,.nsl,.nsl,.str [101],J 0,J 0,.vsl 1 10 [82,83,84,85,86,87,88,89,90,91],92]))
 .nil))
 (.lt Q0 [70,J 5] 78 none
 (.ite 78
 (.callF 21 k_ [64,71,J 2,J 2] 79
 (.cons 11
 (.callF 21 k_ [64,93,J 2,J 3] 94
 (.cons 11
 (.done (.tup [J 0,J 1,J 3,J 0,.str [107],.str [],J 0,J 0,J 0,J 0,.flt .f64 0,.vsl 1 10 [83,84,85,86,87,88,89,90,91,92],98,99,100,101,102,103,104,105,106,107,.nsl,.nsl,.str [],J 0,J 0,.nsl,108]))
 .nil))
 .nil))
 (.callF 39 ft39 [64,71,J 6] 79
 (.cons 2
 (.lt Zf [.vsl 6 1 [.str [111],.str [120],.str [113],.str [121],.str [122],.str [119]],82] 84 none
 (.lt Zg [84] 85 none
 (.lt Zl [85] 86 none
 (.call 79 [85] 87 [(some 10)]
 (.callF 21 k_ [64,83,86,J 4] 97
 (.cons 11
 (.done (.tup [J 0,J 1,87,88,89,90,91,92,93,94,95,96,101,102,103,104,105,106,107,108,109,110,.nsl,.nsl,.str [],J 0,J 0,.nsl,111]))
 .nil))))))
 .nil))))))))))))))
 (.lt Q0 [70,J 1] 73 none
 (.ite 73
 (.lt Qe [66,J 0] 74 none
 (.ite 74
 (.call 79 [.str [120]] 75 [(some 10)]
 (.callF 48 v4_ [64,71,J 2,J 1] 85
 (.cons 11
 (.lt Qf [66,J 1] 100 none
 (.callF 70 ft70 [64,99,J 1,100] 101
 (.cons 2
 (.call 79 [.str [120]] 107 [(some 10)]
 (.call 79 [.str [120]] 117 [(some 10)]
 (.call 80 [.agg [J 3,J 1,.flt .f64 0]] 127 [(some 10)]
 (.lt Zk [105,.agg [J 1,107,108,109,110,111,112,113,114,115,116,J 4,J 0,.str [],.str [],J 0,J 0,J 0,J 0,.flt .f64 0,.vsl 2 10 [117,118,119,120,121,122,123,124,125,126,127,128,129,130,131,132,133,134,135,136],.nsl,.nsl,.str [],J 0,J 0,.nsl]] 137 none
 (.done (.tup [J 0,J 3,J 0,J 0,.str [],.str [],J 0,J 0,J 0,J 0,.flt .f64 0,.nsl,J 11,J 0,.str [],.str [],J 0,J 0,J 0,J 0,.flt .f64 0,.vsl 2 10 [75,76,77,78,79,80,81,82,83,84,89,90,91,92,93,94,95,96,97,98],137,.nsl,.str [],J 0,J 0,.nsl,106]))))))
 .nil)))
 .nil)))
 (.lt Q0 [70,J 2] 75 none
 (.ite 75
 (.callF 21 k_ [64,71,J 1,J 2] 76
 (.cons 11
 (.callF 21 k_ [64,90,J 4,J 2] 91
 (.cons 11
 (.done (.tup [J 0,J 4,J 0,J 0,.str [],.str [],J 0,J 0,J 0,J 0,.flt .f64 0,.nsl,J 0,J 0,.str [],.str [],J 0,J 0,J 0,J 0,.flt .f64 0,.nsl,.nsl,.nsl,.str [116,109],J 0,J 0,.vsl 2 10 [80,81,82,83,84,85,86,87,88,89,95,96,97,98,99,100,101,102,103,104],105]))
 .nil))
 .nil))
 (.lt Q0 [70,J 3] 76 none
 (.ite 76
 (.callF 21 k_ [64,71,J 1,J 2] 77
 (.cons 11
 (.callF 48 v4_ [64,91,J 2,J 1] 92
 (.cons 11
 (.done (.tup [J 0,J 4,J 0,J 0,.str [],.str [],J 0,J 0,J 0,J 0,.flt .f64 0,.nsl,J 0,J 0,.str [],.str [],J 0,J 0,J 0,J 0,.flt .f64 0,.nsl,.nsl,.nsl,.str [99],J 0,J 0,.vsl 2 10 [81,82,83,84,85,86,87,88,89,90,96,97,98,99,100,101,102,103,104,105],106]))
 .nil))
 .nil))
 (.lt Q0 [70,J 4] 77 none
 (.ite 77
 (.callF 21 k_ [64,71,J 1,J 2] 78
 (.cons 11
 (.done (.tup [J 0,J 4,J 0,J 0,.str [],.str [],J 0,J 0,J 0,J 0,.flt .f64 0,.nsl,J 0,J 0,.str [],.str [],J 0,J 0,J 0,J 0,.flt .f64 0,.nsl,.nsl,.nsl,.str [101],J 0,J 0,.vsl 1 10 [82,83,84,85,86,87,88,89,90,91],92]))
 .nil))
 (.lt Q0 [70,J 5] 78 none
 (.ite 78
 (.callF 21 k_ [64,71,J 2,J 2] 79
 (.cons 11
 (.callF 21 k_ [64,93,J 2,J 3] 94
 (.cons 11
 (.done (.tup [J 0,J 1,J 3,J 0,.str [107],.str [],J 0,J 0,J 0,J 0,.flt .f64 0,.vsl 1 10 [83,84,85,86,87,88,89,90,91,92],98,99,100,101,102,103,104,105,106,107,.nsl,.nsl,.str [],J 0,J 0,.nsl,108]))
 .nil))
 .nil))
 (.callF 39 ft39 [64,71,J 6] 79
 (.cons 2
 (.lt Zf [.vsl 6 1 [.str [111],.str [120],.str [113],.str [121],.str [122],.str [119]],82] 84 none
 (.lt Zg [84] 85 none
 (.lt Zl [85] 86 none
 (.call 79 [85] 87 [(some 10)]
 (.callF 21 k_ [64,83,86,J 4] 97
 (.cons 11
 (.done (.tup [J 0,J 1,87,88,89,90,91,92,93,94,95,96,101,102,103,104,105,106,107,108,109,110,.nsl,.nsl,.str [],J 0,J 0,.nsl,111]))
 .nil))))))
 .nil))))))))))))
 (.lt Q0 [70,J 2] 74 none
 (.ite 74
 (.callF 21 k_ [64,71,J 1,J 2] 75
 (.cons 11
 (.callF 21 k_ [64,89,J 4,J 2] 90
 (.cons 11
 (.done (.tup [J 0,J 4,J 0,J 0,.str [],.str [],J 0,J 0,J 0,J 0,.flt .f64 0,.nsl,J 0,J 0,.str [],.str [],J 0,J 0,J 0,J 0,.flt .f64 0,.nsl,.nsl,.nsl,.str [116,109],J 0,J 0,.vsl 2 10 [79,80,81,82,83,84,85,86,87,88,94,95,96,97,98,99,100,101,102,103],104]))
 .nil))
 .nil))
 (.lt Q0 [70,J 3] 75 none
 (.ite 75
 (.callF 21 k_ [64,71,J 1,J 2] 76
 (.cons 11
 (.callF 48 v4_ [64,90,J 2,J 1] 91
 (.cons 11
 (.done (.tup [J 0,J 4,J 0,J 0,.str [],.str [],J 0,J 0,J 0,J 0,.flt .f64 0,.nsl,J 0,J 0,.str [],.str [],J 0,J 0,J 0,J 0,.flt .f64 0,.nsl,.nsl,.nsl,.str [99],J 0,J 0,.vsl 2 10 [80,81,82,83,84,85,86,87,88,89,95,96,97,98,99,100,101,102,103,104],105]))
 .nil))
 .nil))
 (.lt Q0 [70,J 4] 76 none
 (.ite 76
 (.callF 21 k_ [64,71,J 1,J 2] 77
 (.cons 11
 (.done (.tup [J 0,J 4,J 0,J 0,.str [],.str [],J 0,J 0,J 0,J 0,.flt .f64 0,.nsl,J 0,J 0,.str [],.str [],J 0,J 0,J 0,J 0,.flt .f64 0,.nsl,.nsl,.nsl,.str [101],J 0,J 0,.vsl 1 10 [81,82,83,84,85,86,87,88,89,90],91]))
 .nil))
 (.lt Q0 [70,J 5] 77 none
 (.ite 77
 (.callF 21 k_ [64,71,J 2,J 2] 78
 (.cons 11
 (.callF 21 k_ [64,92,J 2,J 3] 93
 (.cons 11
 (.done (.tup [J 0,J 1,J 3,J 0,.str [107],.str [],J 0,J 0,J 0,J 0,.flt .f64 0,.vsl 1 10 [82,83,84,85,86,87,88,89,90,91],97,98,99,100,101,102,103,104,105,106,.nsl,.nsl,.str [],J 0,J 0,.nsl,107]))
 .nil))
 .nil))
 (.callF 39 ft39 [64,71,J 6] 78
 (.cons 2
 (.lt Zf [.vsl 6 1 [.str [111],.str [120],.str [113],.str [121],.str [122],.str [119]],81] 83 none
 (.lt Zg [83] 84 none
 (.lt Zl [84] 85 none
 (.call 79 [84] 86 [(some 10)]
 (.callF 21 k_ [64,82,85,J 4] 96
 (.cons 11
 (.done (.tup [J 0,J 1,86,87,88,89,90,91,92,93,94,95,100,101,102,103,104,105,106,107,108,109,.nsl,.nsl,.str [],J 0,J 0,.nsl,110]))
 .nil))))))
 .nil))))))))))))))
 .nil))
def c70:VC:=⟨⟨[],[]⟩,[],[(0,[⟨[(8,.slx 0 0 0),(2,67),(0,.ptr 0 0),(7,.slx 1 27 1)],[(0,[64,.slx 2 0 0])],2,3,[⟨1,27,1,7,none⟩],[],[]⟩])],1,true,[(39,ft39),(112,ft112)]⟩
def t70:VT:=
 (.callF 39 ft39 [64,65,66] 68
 (.cons 2
 (.lt Q2 [71,J 1] 73 none
 (.loop 74 0 [73,.nsl,72]
 (.cons 3
 (.lt Qe [74,J 0] 77 none
 (.ite 77
 (.callF 112 ft112 [64,76,67] 78
 (.cons 28
 (.lt Zk [75,.agg [81,82,83,84,85,86,87,88,89,90,91,92,93,94,95,96,97,98,99,100,101,102,103,104,105,106,107]] 109 none
 (.lt Qf [74,J 1] 110 none
 (.again 0 0 [110,109,108])))
 .nil))
 (.done (.tup [J 0,75,76]))))
 .nil)))
 .nil))
theorem o0_ (l:List GS) (s:GS) (hl:l.length<=1000):(XOp.app 27 336).run Tryz.prog [q_ l,.agg (o_ s)]=some (q_ (l++[s])):=by
 rw [nw_,nw_]
 exact ub_ yq_ (by decide) (by decide) l s (by omega)
theorem okR {a:AV} (h:okC a=true) {n m k:Int}:okL [a,.int .i64 n,.int .i64 m,.int .i64 k]=true:=by simp only [okL,okC,h]
theorem z2_ {l:List UInt8} {a:AV} (hp:Pk l a) (d:Nat) (hd2:d<=100) (hB:∀e,d=e+1->PB l a e):PS l a d:=by
 intro n hn
 have hA:=hp.1.ok vj_
 have h2:∀(n:Nat) (k:Int),n<=l.length->1<=k/\k<=5->CF Tryz.prog 21 ftX [a,.int .i64 (n:Int),.int .i64 k,.int .i64 2] (RX l 2):=(pX hp 1 (by decide)).2
 have h3:∀(n:Nat) (k:Int),n<=l.length->1<=k/\k<=5->CF Tryz.prog 21 ftX [a,.int .i64 (n:Int),.int .i64 k,.int .i64 3] (RX l 3):=(pX hp 2 (by decide)).2
 have h4:∀(n:Nat) (k:Int),n<=l.length->1<=k/\k<=5->CF Tryz.prog 21 ftX [a,.int .i64 (n:Int),.int .i64 k,.int .i64 4] (RX l 4):=(pX hp 3 (by decide)).2
 have h31:∀(n:Nat) (k:Int),n<=l.length->1<=k/\k<=5->CF Tryz.prog 48 ftX [a,.int .i64 (n:Int),.int .i64 k,.int .i64 1] (RX l 1):=(pX hp 0 (by decide)).1
 refine vh_ (c:=AZ_) (n:=300) (t:=Ae_) mo ov rfl (λY _=>vE_ _) (by kernel_rfl) λY hf hg=>?_
 unfold Ae_
 (refine a_ (I_ hp hn (by first|decide|omega) (by first|decide|omega)) rfl (okP hA) ⟨?_,trivial⟩;intro ws hw;rcases hw with ⟨v,n,rfl,hv,hn⟩)
 (refine l_ rfl rfl (λh=>?_) (λh=>?_)<;>rw [i_]at h)
 ·(refine l_ rfl rfl (λh=>?_) (λh=>?_)<;>rw [i_]at h)
  .obtain ⟨e,rfl⟩:∃e,d=e+1:=⟨d-1,by simp at h;omega⟩
   have hB:=hB e rfl
   (refine a_ (h3 _ _ hn (by decide)) rfl (H_ hA) ⟨?_,trivial⟩;intro ws hw;obtain ⟨⟨op,kd,nm,fd,ad,nn,vk,vi,vf,args⟩,n,rfl,hx,hn⟩:=hw;replace hx:=c_ (e:=5) (by decide) hx)
   refine vx_ (s_ (z:=(e:Int)) (by omega) (by omega) (by omega)) rfl ?_
   refine a_ (hB _ 2 hn (by decide) (by decide)) rfl (okR hA) ⟨?_,trivial⟩
   rintro ws ⟨thn,n,rfl,⟨ht,hts⟩,hn⟩
   (refine a_ (I_ hp hn (by first|decide|omega) (by first|decide|omega)) rfl (okP hA) ⟨?_,trivial⟩;intro ws hw;rcases hw with ⟨v,n,rfl,hv,hn⟩)
   (refine l_ rfl rfl (λh=>?_) (λh=>?_)<;>rw [i_]at h)
   .refine vx_ (s_ (z:=(e:Int)) (by omega) (by omega) (by omega)) rfl ?_
    refine a_ (hB _ 2 hn (by decide) (by decide)) rfl (okR hA) ⟨?_,trivial⟩
    rintro ws ⟨els,n,rfl,⟨he,hes⟩,hn⟩
    exact M_ (x:=.mk _ (.mk _ _ _ _ _ _ _ _ _ []) (.mk _ _ _ _ _ _ _ _ _ _) thn els _ _ _ []) rfl (wY_ (.inl rfl) (by assumption) (by omega) (by omega) hts hes) hn
   .exact M_ (x:=.mk _ (.mk _ _ _ _ _ _ _ _ _ []) (.mk _ _ _ _ _ _ _ _ _ _) thn [] _ _ _ []) rfl (wY_ (.inl rfl) (by assumption) (by omega) (by decide) hts (λs hs=>(List.not_mem_nil hs).elim)) hn
  ·(
    (refine l_ rfl rfl (λh=>?_) (λh=>?_)<;>rw [i_]at h)
    ·(refine l_ rfl rfl (λh=>?_) (λh=>?_)<;>rw [i_]at h)
     .obtain ⟨e,rfl⟩:∃e,d=e+1:=⟨d-1,by simp at h;omega⟩
      have hB:=hB e rfl
      refine uI_ (p79 _) rfl rfl ?_
      (refine a_ (h31 _ _ hn (by first|decide|(simp only [decide_eq_true_eq,decide_eq_false_iff_not]at *; omega))) rfl (H_ hA) ⟨?_,trivial⟩;intro ws hw;obtain ⟨⟨op,kd,nm,fd,ad,nn,vk,vi,vf,args⟩,n,rfl,hx,hn⟩:=hw)
      refine vx_ (s_ (z:=(e:Int)) (by omega) (by omega) (by omega)) rfl ?_
      refine a_ (hB _ 1 hn (by decide) (by decide)) rfl (okR hA) ⟨?_,trivial⟩
      rintro ws ⟨thn,n,rfl,⟨ht,hts⟩,hn⟩
      refine uI_ (p79 _) rfl rfl (uI_ (p79 _) rfl rfl (uI_ p80 rfl rfl ?_))
      refine vx_ (o0_ thn (.mk 1 (.mk _ _ _ _ _ _ _ _ _ []) (.mk _ _ _ _ _ _ _ _ _ [.mk _ _ _ _ _ _ _ _ _ [],.mk _ _ _ _ _ _ _ _ _ []]) [] [] _ _ _ []) (by omega)) (okB _) ?_
      refine M_ (x:=.mk _ (.mk _ _ _ _ _ _ _ _ _ []) (.mk _ _ _ _ _ _ _ _ _ [.mk _ _ _ _ _ _ _ _ _ [],.mk _ _ _ _ _ _ _ _ _ _]) (thn++[_]) [] _ _ _ []) rfl (wY_ (.inr rfl) ?_ ?_ (by decide) ?_ (λs hs=>(List.not_mem_nil hs).elim)) hn
      .exact wn_ (by decide) (n_ (by decide)) (c_ (e:=4) (by decide) hx)
      .rw [List.length_append];simp;omega
      .intro s hs
       rcases List.mem_append.1 hs with hs|hs
       .exact hts s hs
       .cases List.mem_singleton.1 hs
        exact T_ (on_ (by decide)) (.inl rfl) (wn_ (by decide) (n_ (by decide)) (C_ (by unfold Q_;omega) (.inl rfl)))
     ·(
       (refine l_ rfl rfl (λh=>?_) (λh=>?_)<;>rw [i_]at h)
       ·(refine a_ (h2 _ _ hn (by decide)) rfl (H_ hA) ⟨?_,trivial⟩;intro ws hw;obtain ⟨⟨op,kd,nm,fd,ad,nn,vk,vi,vf,args⟩,n,rfl,hx,hn⟩:=hw;replace hx:=c_ (e:=5) (by decide) hx);(refine a_ (h2 _ _ hn (by decide)) rfl (H_ hA) ⟨?_,trivial⟩;intro ws hw;obtain ⟨⟨op,kd,nm,fd,ad,nn,vk,vi,vf,args⟩,n,rfl,hx,hn⟩:=hw;replace hx:=c_ (e:=5) (by decide) hx);exact M_ (x:=.mk _ (.mk _ _ _ _ _ _ _ _ _ []) (.mk _ _ _ _ _ _ _ _ _ []) [] [] _ _ _ [.mk _ _ _ _ _ _ _ _ _ _,.mk _ _ _ _ _ _ _ _ _ _]) rfl (x_ (by decide) (by simp) (wu_ (by assumption) (by assumption))) hn
       (refine l_ rfl rfl (λh=>?_) (λh=>?_)<;>rw [i_]at h)
       ·(refine a_ (h2 _ _ hn (by decide)) rfl (H_ hA) ⟨?_,trivial⟩;intro ws hw;obtain ⟨⟨op,kd,nm,fd,ad,nn,vk,vi,vf,args⟩,n,rfl,hx,hn⟩:=hw;replace hx:=c_ (e:=5) (by decide) hx);(refine a_ (h31 _ _ hn (by decide)) rfl (H_ hA) ⟨?_,trivial⟩;intro ws hw;obtain ⟨⟨op,kd,nm,fd,ad,nn,vk,vi,vf,args⟩,n,rfl,hx,hn⟩:=hw;replace hx:=c_ (e:=5) (by decide) hx);exact M_ (x:=.mk _ (.mk _ _ _ _ _ _ _ _ _ []) (.mk _ _ _ _ _ _ _ _ _ []) [] [] _ _ _ [.mk _ _ _ _ _ _ _ _ _ _,.mk _ _ _ _ _ _ _ _ _ _]) rfl (x_ (by decide) (by simp) (wu_ (by assumption) (by assumption))) hn
       (refine l_ rfl rfl (λh=>?_) (λh=>?_)<;>rw [i_]at h)
       ·(refine a_ (h2 _ _ hn (by decide)) rfl (H_ hA) ⟨?_,trivial⟩;intro ws hw;obtain ⟨⟨op,kd,nm,fd,ad,nn,vk,vi,vf,args⟩,n,rfl,hx,hn⟩:=hw;replace hx:=c_ (e:=5) (by decide) hx);exact M_ (x:=.mk _ (.mk _ _ _ _ _ _ _ _ _ []) (.mk _ _ _ _ _ _ _ _ _ []) [] [] _ _ _ [.mk _ _ _ _ _ _ _ _ _ _]) rfl (x_ (by decide) (by simp) (xt_ (by assumption))) hn
       (refine l_ rfl rfl (λh=>?_) (λh=>?_)<;>rw [i_]at h)
       ·(refine a_ (h2 _ _ hn (by first|decide|(simp only [decide_eq_true_eq,decide_eq_false_iff_not]at *; omega))) rfl (H_ hA) ⟨?_,trivial⟩;intro ws hw;obtain ⟨⟨op,kd,nm,fd,ad,nn,vk,vi,vf,args⟩,n,rfl,hx,hn⟩:=hw);rename WX _ _=>hx0;(refine a_ (h3 _ _ hn (by decide)) rfl (H_ hA) ⟨?_,trivial⟩;intro ws hw;obtain ⟨⟨op,kd,nm,fd,ad,nn,vk,vi,vf,args⟩,n,rfl,hx,hn⟩:=hw;replace hx:=c_ (e:=5) (by decide) hx)
        exact M_ (x:=.mk _ (.mk _ _ _ _ _ _ _ _ _ [.mk _ _ _ _ _ _ _ _ _ _]) (.mk _ _ _ _ _ _ _ _ _ _) [] [] _ _ _ []) rfl (T_ (c_ (d:=4) (by decide) (wm_ (by decide) hx0)) (.inr rfl) (by assumption)) hn
       ·(refine a_ (I_ hp hn (by first|decide|omega) (by first|decide|omega)) rfl (okP hA) ⟨?_,trivial⟩;intro ws hw;rcases hw with ⟨v,n,rfl,hv,hn⟩)
        have e6:v=0\/v=1\/v=2\/v=3\/v=4\/v=5:=by omega
        rcases e6 with rfl|rfl|rfl|rfl|rfl|rfl
        all_goals
         refine vx_ rfl rfl (vx_ rfl rfl (vx_ rfl rfl (uI_ (p79 _) rfl rfl ?_)))
         (refine a_ (h4 _ _ hn (by decide)) rfl (H_ hA) ⟨?_,trivial⟩;intro ws hw;obtain ⟨⟨op,kd,nm,fd,ad,nn,vk,vi,vf,args⟩,n,rfl,hx,hn⟩:=hw;replace hx:=c_ (e:=5) (by decide) hx)
         exact M_ (x:=.mk _ (.mk _ _ _ _ _ _ _ _ _ []) (.mk _ _ _ _ _ _ _ _ _ _) [] [] _ _ _ []) rfl (T_ (on_ (by decide)) (.inl rfl) (by assumption)) hn)
    ·(
              (refine l_ rfl rfl (λh=>?_) (λh=>?_)<;>rw [i_]at h)
              ·(refine a_ (h2 _ _ hn (by decide)) rfl (H_ hA) ⟨?_,trivial⟩;intro ws hw;obtain ⟨⟨op,kd,nm,fd,ad,nn,vk,vi,vf,args⟩,n,rfl,hx,hn⟩:=hw;replace hx:=c_ (e:=5) (by decide) hx);(refine a_ (h2 _ _ hn (by decide)) rfl (H_ hA) ⟨?_,trivial⟩;intro ws hw;obtain ⟨⟨op,kd,nm,fd,ad,nn,vk,vi,vf,args⟩,n,rfl,hx,hn⟩:=hw;replace hx:=c_ (e:=5) (by decide) hx);exact M_ (x:=.mk _ (.mk _ _ _ _ _ _ _ _ _ []) (.mk _ _ _ _ _ _ _ _ _ []) [] [] _ _ _ [.mk _ _ _ _ _ _ _ _ _ _,.mk _ _ _ _ _ _ _ _ _ _]) rfl (x_ (by decide) (by simp) (wu_ (by assumption) (by assumption))) hn
              (refine l_ rfl rfl (λh=>?_) (λh=>?_)<;>rw [i_]at h)
              ·(refine a_ (h2 _ _ hn (by decide)) rfl (H_ hA) ⟨?_,trivial⟩;intro ws hw;obtain ⟨⟨op,kd,nm,fd,ad,nn,vk,vi,vf,args⟩,n,rfl,hx,hn⟩:=hw;replace hx:=c_ (e:=5) (by decide) hx);(refine a_ (h31 _ _ hn (by decide)) rfl (H_ hA) ⟨?_,trivial⟩;intro ws hw;obtain ⟨⟨op,kd,nm,fd,ad,nn,vk,vi,vf,args⟩,n,rfl,hx,hn⟩:=hw;replace hx:=c_ (e:=5) (by decide) hx);exact M_ (x:=.mk _ (.mk _ _ _ _ _ _ _ _ _ []) (.mk _ _ _ _ _ _ _ _ _ []) [] [] _ _ _ [.mk _ _ _ _ _ _ _ _ _ _,.mk _ _ _ _ _ _ _ _ _ _]) rfl (x_ (by decide) (by simp) (wu_ (by assumption) (by assumption))) hn
              (refine l_ rfl rfl (λh=>?_) (λh=>?_)<;>rw [i_]at h)
              ·(refine a_ (h2 _ _ hn (by decide)) rfl (H_ hA) ⟨?_,trivial⟩;intro ws hw;obtain ⟨⟨op,kd,nm,fd,ad,nn,vk,vi,vf,args⟩,n,rfl,hx,hn⟩:=hw;replace hx:=c_ (e:=5) (by decide) hx);exact M_ (x:=.mk _ (.mk _ _ _ _ _ _ _ _ _ []) (.mk _ _ _ _ _ _ _ _ _ []) [] [] _ _ _ [.mk _ _ _ _ _ _ _ _ _ _]) rfl (x_ (by decide) (by simp) (xt_ (by assumption))) hn
              (refine l_ rfl rfl (λh=>?_) (λh=>?_)<;>rw [i_]at h)
              ·(refine a_ (h2 _ _ hn (by first|decide|(simp only [decide_eq_true_eq,decide_eq_false_iff_not]at *; omega))) rfl (H_ hA) ⟨?_,trivial⟩;intro ws hw;obtain ⟨⟨op,kd,nm,fd,ad,nn,vk,vi,vf,args⟩,n,rfl,hx,hn⟩:=hw);rename WX _ _=>hx0;(refine a_ (h3 _ _ hn (by decide)) rfl (H_ hA) ⟨?_,trivial⟩;intro ws hw;obtain ⟨⟨op,kd,nm,fd,ad,nn,vk,vi,vf,args⟩,n,rfl,hx,hn⟩:=hw;replace hx:=c_ (e:=5) (by decide) hx)
               exact M_ (x:=.mk _ (.mk _ _ _ _ _ _ _ _ _ [.mk _ _ _ _ _ _ _ _ _ _]) (.mk _ _ _ _ _ _ _ _ _ _) [] [] _ _ _ []) rfl (T_ (c_ (d:=4) (by decide) (wm_ (by decide) hx0)) (.inr rfl) (by assumption)) hn
              ·(refine a_ (I_ hp hn (by first|decide|omega) (by first|decide|omega)) rfl (okP hA) ⟨?_,trivial⟩;intro ws hw;rcases hw with ⟨v,n,rfl,hv,hn⟩)
               have e6:v=0\/v=1\/v=2\/v=3\/v=4\/v=5:=by omega
               rcases e6 with rfl|rfl|rfl|rfl|rfl|rfl
               all_goals
                refine vx_ rfl rfl (vx_ rfl rfl (vx_ rfl rfl (uI_ (p79 _) rfl rfl ?_)))
                (refine a_ (h4 _ _ hn (by decide)) rfl (H_ hA) ⟨?_,trivial⟩;intro ws hw;obtain ⟨⟨op,kd,nm,fd,ad,nn,vk,vi,vf,args⟩,n,rfl,hx,hn⟩:=hw;replace hx:=c_ (e:=5) (by decide) hx)
                exact M_ (x:=.mk _ (.mk _ _ _ _ _ _ _ _ _ []) (.mk _ _ _ _ _ _ _ _ _ _) [] [] _ _ _ []) rfl (T_ (on_ (by decide)) (.inl rfl) (by assumption)) hn))
 ·(
   (refine l_ rfl rfl (λh=>?_) (λh=>?_)<;>rw [i_]at h)
   ·(refine l_ rfl rfl (λh=>?_) (λh=>?_)<;>rw [i_]at h)
    .obtain ⟨e,rfl⟩:∃e,d=e+1:=⟨d-1,by simp at h;omega⟩
     have hB:=hB e rfl
     refine uI_ (p79 _) rfl rfl ?_
     (refine a_ (h31 _ _ hn (by first|decide|(simp only [decide_eq_true_eq,decide_eq_false_iff_not]at *; omega))) rfl (H_ hA) ⟨?_,trivial⟩;intro ws hw;obtain ⟨⟨op,kd,nm,fd,ad,nn,vk,vi,vf,args⟩,n,rfl,hx,hn⟩:=hw)
     refine vx_ (s_ (z:=(e:Int)) (by omega) (by omega) (by omega)) rfl ?_
     refine a_ (hB _ 1 hn (by decide) (by decide)) rfl (okR hA) ⟨?_,trivial⟩
     rintro ws ⟨thn,n,rfl,⟨ht,hts⟩,hn⟩
     refine uI_ (p79 _) rfl rfl (uI_ (p79 _) rfl rfl (uI_ p80 rfl rfl ?_))
     refine vx_ (o0_ thn (.mk 1 (.mk _ _ _ _ _ _ _ _ _ []) (.mk _ _ _ _ _ _ _ _ _ [.mk _ _ _ _ _ _ _ _ _ [],.mk _ _ _ _ _ _ _ _ _ []]) [] [] _ _ _ []) (by omega)) (okB _) ?_
     refine M_ (x:=.mk _ (.mk _ _ _ _ _ _ _ _ _ []) (.mk _ _ _ _ _ _ _ _ _ [.mk _ _ _ _ _ _ _ _ _ [],.mk _ _ _ _ _ _ _ _ _ _]) (thn++[_]) [] _ _ _ []) rfl (wY_ (.inr rfl) ?_ ?_ (by decide) ?_ (λs hs=>(List.not_mem_nil hs).elim)) hn
     .exact wn_ (by decide) (n_ (by decide)) (c_ (e:=4) (by decide) hx)
     .rw [List.length_append];simp;omega
     .intro s hs
      rcases List.mem_append.1 hs with hs|hs
      .exact hts s hs
      .cases List.mem_singleton.1 hs
       exact T_ (on_ (by decide)) (.inl rfl) (wn_ (by decide) (n_ (by decide)) (C_ (by unfold Q_;omega) (.inl rfl)))
    ·(
              (refine l_ rfl rfl (λh=>?_) (λh=>?_)<;>rw [i_]at h)
              ·(refine a_ (h2 _ _ hn (by decide)) rfl (H_ hA) ⟨?_,trivial⟩;intro ws hw;obtain ⟨⟨op,kd,nm,fd,ad,nn,vk,vi,vf,args⟩,n,rfl,hx,hn⟩:=hw;replace hx:=c_ (e:=5) (by decide) hx);(refine a_ (h2 _ _ hn (by decide)) rfl (H_ hA) ⟨?_,trivial⟩;intro ws hw;obtain ⟨⟨op,kd,nm,fd,ad,nn,vk,vi,vf,args⟩,n,rfl,hx,hn⟩:=hw;replace hx:=c_ (e:=5) (by decide) hx);exact M_ (x:=.mk _ (.mk _ _ _ _ _ _ _ _ _ []) (.mk _ _ _ _ _ _ _ _ _ []) [] [] _ _ _ [.mk _ _ _ _ _ _ _ _ _ _,.mk _ _ _ _ _ _ _ _ _ _]) rfl (x_ (by decide) (by simp) (wu_ (by assumption) (by assumption))) hn
              (refine l_ rfl rfl (λh=>?_) (λh=>?_)<;>rw [i_]at h)
              ·(refine a_ (h2 _ _ hn (by decide)) rfl (H_ hA) ⟨?_,trivial⟩;intro ws hw;obtain ⟨⟨op,kd,nm,fd,ad,nn,vk,vi,vf,args⟩,n,rfl,hx,hn⟩:=hw;replace hx:=c_ (e:=5) (by decide) hx);(refine a_ (h31 _ _ hn (by decide)) rfl (H_ hA) ⟨?_,trivial⟩;intro ws hw;obtain ⟨⟨op,kd,nm,fd,ad,nn,vk,vi,vf,args⟩,n,rfl,hx,hn⟩:=hw;replace hx:=c_ (e:=5) (by decide) hx);exact M_ (x:=.mk _ (.mk _ _ _ _ _ _ _ _ _ []) (.mk _ _ _ _ _ _ _ _ _ []) [] [] _ _ _ [.mk _ _ _ _ _ _ _ _ _ _,.mk _ _ _ _ _ _ _ _ _ _]) rfl (x_ (by decide) (by simp) (wu_ (by assumption) (by assumption))) hn
              (refine l_ rfl rfl (λh=>?_) (λh=>?_)<;>rw [i_]at h)
              ·(refine a_ (h2 _ _ hn (by decide)) rfl (H_ hA) ⟨?_,trivial⟩;intro ws hw;obtain ⟨⟨op,kd,nm,fd,ad,nn,vk,vi,vf,args⟩,n,rfl,hx,hn⟩:=hw;replace hx:=c_ (e:=5) (by decide) hx);exact M_ (x:=.mk _ (.mk _ _ _ _ _ _ _ _ _ []) (.mk _ _ _ _ _ _ _ _ _ []) [] [] _ _ _ [.mk _ _ _ _ _ _ _ _ _ _]) rfl (x_ (by decide) (by simp) (xt_ (by assumption))) hn
              (refine l_ rfl rfl (λh=>?_) (λh=>?_)<;>rw [i_]at h)
              ·(refine a_ (h2 _ _ hn (by first|decide|(simp only [decide_eq_true_eq,decide_eq_false_iff_not]at *; omega))) rfl (H_ hA) ⟨?_,trivial⟩;intro ws hw;obtain ⟨⟨op,kd,nm,fd,ad,nn,vk,vi,vf,args⟩,n,rfl,hx,hn⟩:=hw);rename WX _ _=>hx0;(refine a_ (h3 _ _ hn (by decide)) rfl (H_ hA) ⟨?_,trivial⟩;intro ws hw;obtain ⟨⟨op,kd,nm,fd,ad,nn,vk,vi,vf,args⟩,n,rfl,hx,hn⟩:=hw;replace hx:=c_ (e:=5) (by decide) hx)
               exact M_ (x:=.mk _ (.mk _ _ _ _ _ _ _ _ _ [.mk _ _ _ _ _ _ _ _ _ _]) (.mk _ _ _ _ _ _ _ _ _ _) [] [] _ _ _ []) rfl (T_ (c_ (d:=4) (by decide) (wm_ (by decide) hx0)) (.inr rfl) (by assumption)) hn
              ·(refine a_ (I_ hp hn (by first|decide|omega) (by first|decide|omega)) rfl (okP hA) ⟨?_,trivial⟩;intro ws hw;rcases hw with ⟨v,n,rfl,hv,hn⟩)
               have e6:v=0\/v=1\/v=2\/v=3\/v=4\/v=5:=by omega
               rcases e6 with rfl|rfl|rfl|rfl|rfl|rfl
               all_goals
                refine vx_ rfl rfl (vx_ rfl rfl (vx_ rfl rfl (uI_ (p79 _) rfl rfl ?_)))
                (refine a_ (h4 _ _ hn (by decide)) rfl (H_ hA) ⟨?_,trivial⟩;intro ws hw;obtain ⟨⟨op,kd,nm,fd,ad,nn,vk,vi,vf,args⟩,n,rfl,hx,hn⟩:=hw;replace hx:=c_ (e:=5) (by decide) hx)
                exact M_ (x:=.mk _ (.mk _ _ _ _ _ _ _ _ _ []) (.mk _ _ _ _ _ _ _ _ _ _) [] [] _ _ _ []) rfl (T_ (on_ (by decide)) (.inl rfl) (by assumption)) hn)
   ·(
     (refine l_ rfl rfl (λh=>?_) (λh=>?_)<;>rw [i_]at h)
     ·(refine a_ (h2 _ _ hn (by decide)) rfl (H_ hA) ⟨?_,trivial⟩;intro ws hw;obtain ⟨⟨op,kd,nm,fd,ad,nn,vk,vi,vf,args⟩,n,rfl,hx,hn⟩:=hw;replace hx:=c_ (e:=5) (by decide) hx);(refine a_ (h2 _ _ hn (by decide)) rfl (H_ hA) ⟨?_,trivial⟩;intro ws hw;obtain ⟨⟨op,kd,nm,fd,ad,nn,vk,vi,vf,args⟩,n,rfl,hx,hn⟩:=hw;replace hx:=c_ (e:=5) (by decide) hx);exact M_ (x:=.mk _ (.mk _ _ _ _ _ _ _ _ _ []) (.mk _ _ _ _ _ _ _ _ _ []) [] [] _ _ _ [.mk _ _ _ _ _ _ _ _ _ _,.mk _ _ _ _ _ _ _ _ _ _]) rfl (x_ (by decide) (by simp) (wu_ (by assumption) (by assumption))) hn
     (refine l_ rfl rfl (λh=>?_) (λh=>?_)<;>rw [i_]at h)
     ·(refine a_ (h2 _ _ hn (by decide)) rfl (H_ hA) ⟨?_,trivial⟩;intro ws hw;obtain ⟨⟨op,kd,nm,fd,ad,nn,vk,vi,vf,args⟩,n,rfl,hx,hn⟩:=hw;replace hx:=c_ (e:=5) (by decide) hx);(refine a_ (h31 _ _ hn (by decide)) rfl (H_ hA) ⟨?_,trivial⟩;intro ws hw;obtain ⟨⟨op,kd,nm,fd,ad,nn,vk,vi,vf,args⟩,n,rfl,hx,hn⟩:=hw;replace hx:=c_ (e:=5) (by decide) hx);exact M_ (x:=.mk _ (.mk _ _ _ _ _ _ _ _ _ []) (.mk _ _ _ _ _ _ _ _ _ []) [] [] _ _ _ [.mk _ _ _ _ _ _ _ _ _ _,.mk _ _ _ _ _ _ _ _ _ _]) rfl (x_ (by decide) (by simp) (wu_ (by assumption) (by assumption))) hn
     (refine l_ rfl rfl (λh=>?_) (λh=>?_)<;>rw [i_]at h)
     ·(refine a_ (h2 _ _ hn (by decide)) rfl (H_ hA) ⟨?_,trivial⟩;intro ws hw;obtain ⟨⟨op,kd,nm,fd,ad,nn,vk,vi,vf,args⟩,n,rfl,hx,hn⟩:=hw;replace hx:=c_ (e:=5) (by decide) hx);exact M_ (x:=.mk _ (.mk _ _ _ _ _ _ _ _ _ []) (.mk _ _ _ _ _ _ _ _ _ []) [] [] _ _ _ [.mk _ _ _ _ _ _ _ _ _ _]) rfl (x_ (by decide) (by simp) (xt_ (by assumption))) hn
     (refine l_ rfl rfl (λh=>?_) (λh=>?_)<;>rw [i_]at h)
     ·(refine a_ (h2 _ _ hn (by first|decide|(simp only [decide_eq_true_eq,decide_eq_false_iff_not]at *; omega))) rfl (H_ hA) ⟨?_,trivial⟩;intro ws hw;obtain ⟨⟨op,kd,nm,fd,ad,nn,vk,vi,vf,args⟩,n,rfl,hx,hn⟩:=hw);rename WX _ _=>hx0;(refine a_ (h3 _ _ hn (by decide)) rfl (H_ hA) ⟨?_,trivial⟩;intro ws hw;obtain ⟨⟨op,kd,nm,fd,ad,nn,vk,vi,vf,args⟩,n,rfl,hx,hn⟩:=hw;replace hx:=c_ (e:=5) (by decide) hx)
      exact M_ (x:=.mk _ (.mk _ _ _ _ _ _ _ _ _ [.mk _ _ _ _ _ _ _ _ _ _]) (.mk _ _ _ _ _ _ _ _ _ _) [] [] _ _ _ []) rfl (T_ (c_ (d:=4) (by decide) (wm_ (by decide) hx0)) (.inr rfl) (by assumption)) hn
     ·(refine a_ (I_ hp hn (by first|decide|omega) (by first|decide|omega)) rfl (okP hA) ⟨?_,trivial⟩;intro ws hw;rcases hw with ⟨v,n,rfl,hv,hn⟩)
      have e6:v=0\/v=1\/v=2\/v=3\/v=4\/v=5:=by omega
      rcases e6 with rfl|rfl|rfl|rfl|rfl|rfl
      all_goals
       refine vx_ rfl rfl (vx_ rfl rfl (vx_ rfl rfl (uI_ (p79 _) rfl rfl ?_)))
       (refine a_ (h4 _ _ hn (by decide)) rfl (H_ hA) ⟨?_,trivial⟩;intro ws hw;obtain ⟨⟨op,kd,nm,fd,ad,nn,vk,vi,vf,args⟩,n,rfl,hx,hn⟩:=hw;replace hx:=c_ (e:=5) (by decide) hx)
       exact M_ (x:=.mk _ (.mk _ _ _ _ _ _ _ _ _ []) (.mk _ _ _ _ _ _ _ _ _ _) [] [] _ _ _ []) rfl (T_ (on_ (by decide)) (.inl rfl) (by assumption)) hn))
theorem p70 {l:List UInt8} {a:AV} (hp:Pk l a) (d:Nat) (hd2:d<=100) (hS:PS l a d):PB l a d:=by
 intro n m hn hm1 hm2
 have hA:=hp.1.ok vj_
 refine vh_ (c:=c70) (n:=300) (t:=t70) mo ov rfl (λY _=>vE_ _) (by kernel_rfl) λY hf hg=>?_
 unfold t70
 (refine a_ (I_ hp hn (by first|decide|omega) (by first|decide|omega)) rfl (okP hA) ⟨?_,trivial⟩;intro ws hw;rcases hw with ⟨v,n,rfl,hv,hn⟩)
 refine vx_ (h_ (by omega) (by omega)) rfl ?_
 refine uK_ (ι:=Nat×List GS×Nat) (λx=>[.int .i64 (x.1:Int),q_ x.2.1,.int .i64 (x.2.2:Int)]) (λx=>x.1+x.2.1.length<=m/\(∀s∈x.2.1,WS (d+1) s)/\x.2.2<=l.length) (λx=>x.1) (v+1,[],n)
  ⟨by simp;omega,λs hs=>(List.not_mem_nil hs).elim,hn⟩ rfl (λx _=>by simp only [okL,okC,okB]) (λx y _ _ h=>by simp at h;omega) (λx hx=>?_)
 obtain ⟨i,ss,n⟩:=x
 obtain ⟨h1,h2,hn⟩:=hx
 simp only at h1 hn h2⊢
 (refine l_ rfl rfl (λh=>?_) (λh=>?_)<;>rw [i_]at h)
 .refine a_ (hS _ hn) rfl (okP hA) ⟨?_,trivial⟩
  rintro ws ⟨⟨op,⟨op1,kd1,nm1,fd1,ad1,nn1,vk1,vi1,vf1,args1⟩,⟨op2,kd2,nm2,fd2,ad2,nn2,vk2,vi2,vf2,args2⟩,thn,els,nm,kd,ad,args⟩,n,rfl,hx,hn⟩
  refine vx_ (o0_ ss (.mk op (.mk op1 kd1 nm1 fd1 ad1 nn1 vk1 vi1 vf1 args1) (.mk op2 kd2 nm2 fd2 ad2 nn2 vk2 vi2 vf2 args2) thn els nm kd ad args) (by omega)) (okB _) ?_
  obtain ⟨i,rfl⟩:∃e,i=e+1:=⟨i-1,by simp at h;omega⟩
  refine vx_ (s_ (z:=(i:Int)) (by omega) (by omega) (by omega)) rfl ?_
  refine uv_ rfl ⟨(i,ss++[_],n),⟨?_,?_,hn⟩,rfl,by simp⟩
  .simp;omega
  .intro s hs
   rcases List.mem_append.1 hs with hs|hs
   .exact h2 s hs
   .cases List.mem_singleton.1 hs;exact hx
 .exact VOK_fin (by show okL [q_ ss,.int .i64 (n:Int)]=true;simp only [okL,okC,okB]) ⟨ss,n,rfl,⟨by omega,h2⟩,hn⟩
theorem pS {l:List UInt8} {a:AV} (hp:Pk l a):∀d:Nat,d<=100->PS l a d/\PB l a d
 |0,h=>by
  have h1:=z2_ hp 0 h (λe h=>by omega)
  exact ⟨h1,p70 hp 0 h h1⟩
 |d+1,h=>by
  have ih:=pS hp d (by omega)
  have h1:=z2_ hp (d+1) h (λe h=>by cases h;exact ih.2)
  exact ⟨h1,p70 hp (d+1) h h1⟩
end Go.Proofs.YtjconanknjgpnaaGreat.vars
set_option maxRecDepth 100000
set_option linter.unusedVariables false
set_option linter.unusedSimpArgs false
namespace Go.Proofs.YtjconanknjgpnaaGreat.vars
open Go Go.Sx
def VARS:AV:=.vsl 12 10 [.str [97],.int .i64 1,.int .i64 2,.int .i64 0,.int .i64 2,.int .i64 0,.flt .f64 0,.int .i64 0,.int .i64 0,.flt .f64 0,.str [98],.int .i64 1,.int .i64 1,.int .i64 0,.int .i64 1,.int .i64 0,.flt .f64 0,.int .i64 0,.int .i64 0,.flt .f64 0,.str [111],.int .i64 2,.int .i64 2,.int .i64 0,.int .i64 2,.int .i64 0,.flt .f64 0,.int .i64 2,.int .i64 7,.flt .f64 0,.str [113],.int .i64 2,.int .i64 1,.int .i64 0,.int .i64 1,.int .i64 0,.flt .f64 0,.int .i64 1,.int .i64 1,.flt .f64 0,.str [120],.int .i64 3,.int .i64 2,.int .i64 0,.int .i64 2,.int .i64 5,.flt .f64 0,.int .i64 0,.int .i64 0,.flt .f64 0,.str [121],.int .i64 3,.int .i64 3,.int .i64 0,.int .i64 3,.int .i64 0,.flt .f64 0,.int .i64 0,.int .i64 0,.flt .f64 0,.str [122],.int .i64 3,.int .i64 5,.int .i64 0,.int .i64 5,.int .i64 0,.flt .f64 0,.int .i64 0,.int .i64 0,.flt .f64 0,.str [119],.int .i64 3,.int .i64 4,.int .i64 0,.int .i64 4,.int .i64 0,.flt .f64 0,.int .i64 0,.int .i64 0,.flt .f64 0,.str [107],.int .i64 3,.int .i64 2,.int .i64 4,.int .i64 2,.int .i64 0,.flt .f64 0,.int .i64 0,.int .i64 0,.flt .f64 0,.str [116,109],.int .i64 3,.int .i64 6,.int .i64 0,.int .i64 0,.int .i64 0,.flt .f64 0,.int .i64 0,.int .i64 0,.flt .f64 0,.str [99],.int .i64 3,.int .i64 9,.int .i64 0,.int .i64 0,.int .i64 0,.flt .f64 0,.int .i64 0,.int .i64 0,.flt .f64 0,.str [101],.int .i64 3,.int .i64 11,.int .i64 0,.int .i64 0,.int .i64 0,.flt .f64 0,.int .i64 0,.int .i64 0,.flt .f64 0]
theorem xG_:jA_ Tryz.prog 153 [VARS,.str [97]] (.tup [.agg [.str [97],.int .i64 1,.int .i64 2,.int .i64 0,.int .i64 2,.int .i64 0,.flt .f64 0,.int .i64 0,.int .i64 0,.flt .f64 0],.int .i64 0,.bool true]):=vk_ mo ov (n:=3000) (by kernel_rfl)
theorem xH_:jA_ Tryz.prog 153 [VARS,.str [98]] (.tup [.agg [.str [98],.int .i64 1,.int .i64 1,.int .i64 0,.int .i64 1,.int .i64 0,.flt .f64 0,.int .i64 0,.int .i64 0,.flt .f64 0],.int .i64 1,.bool true]):=vk_ mo ov (n:=3000) (by kernel_rfl)
theorem w2_:jA_ Tryz.prog 153 [VARS,.str [111]] (.tup [.agg [.str [111],.int .i64 2,.int .i64 2,.int .i64 0,.int .i64 2,.int .i64 0,.flt .f64 0,.int .i64 2,.int .i64 7,.flt .f64 0],.int .i64 2,.bool true]):=vk_ mo ov (n:=3000) (by kernel_rfl)
theorem w3_:jA_ Tryz.prog 153 [VARS,.str [113]] (.tup [.agg [.str [113],.int .i64 2,.int .i64 1,.int .i64 0,.int .i64 1,.int .i64 0,.flt .f64 0,.int .i64 1,.int .i64 1,.flt .f64 0],.int .i64 3,.bool true]):=vk_ mo ov (n:=3000) (by kernel_rfl)
theorem w5_:jA_ Tryz.prog 153 [VARS,.str [120]] (.tup [.agg [.str [120],.int .i64 3,.int .i64 2,.int .i64 0,.int .i64 2,.int .i64 5,.flt .f64 0,.int .i64 0,.int .i64 0,.flt .f64 0],.int .i64 4,.bool true]):=vk_ mo ov (n:=3000) (by kernel_rfl)
theorem w6_:jA_ Tryz.prog 153 [VARS,.str [121]] (.tup [.agg [.str [121],.int .i64 3,.int .i64 3,.int .i64 0,.int .i64 3,.int .i64 0,.flt .f64 0,.int .i64 0,.int .i64 0,.flt .f64 0],.int .i64 5,.bool true]):=vk_ mo ov (n:=3000) (by kernel_rfl)
theorem w7_:jA_ Tryz.prog 153 [VARS,.str [122]] (.tup [.agg [.str [122],.int .i64 3,.int .i64 5,.int .i64 0,.int .i64 5,.int .i64 0,.flt .f64 0,.int .i64 0,.int .i64 0,.flt .f64 0],.int .i64 6,.bool true]):=vk_ mo ov (n:=3000) (by kernel_rfl)
theorem w4_:jA_ Tryz.prog 153 [VARS,.str [119]] (.tup [.agg [.str [119],.int .i64 3,.int .i64 4,.int .i64 0,.int .i64 4,.int .i64 0,.flt .f64 0,.int .i64 0,.int .i64 0,.flt .f64 0],.int .i64 7,.bool true]):=vk_ mo ov (n:=3000) (by kernel_rfl)
theorem wr_:jA_ Tryz.prog 153 [VARS,.str [107]] (.tup [.agg [.str [107],.int .i64 3,.int .i64 2,.int .i64 4,.int .i64 2,.int .i64 0,.flt .f64 0,.int .i64 0,.int .i64 0,.flt .f64 0],.int .i64 8,.bool true]):=vk_ mo ov (n:=3000) (by kernel_rfl)
theorem F_:jA_ Tryz.prog 153 [VARS,.str [116,109]] (.tup [.agg [.str [116,109],.int .i64 3,.int .i64 6,.int .i64 0,.int .i64 0,.int .i64 0,.flt .f64 0,.int .i64 0,.int .i64 0,.flt .f64 0],.int .i64 12,.bool true]):=vk_ mo ov (n:=3000) (by kernel_rfl)
theorem wQ_:jA_ Tryz.prog 153 [VARS,.str [99]] (.tup [.agg [.str [99],.int .i64 3,.int .i64 9,.int .i64 0,.int .i64 0,.int .i64 0,.flt .f64 0,.int .i64 0,.int .i64 0,.flt .f64 0],.int .i64 16,.bool true]):=vk_ mo ov (n:=3000) (by kernel_rfl)
theorem yo_:jA_ Tryz.prog 153 [VARS,.str [101]] (.tup [.agg [.str [101],.int .i64 3,.int .i64 11,.int .i64 0,.int .i64 0,.int .i64 0,.flt .f64 0,.int .i64 0,.int .i64 0,.flt .f64 0],.int .i64 19,.bool true]):=vk_ mo ov (n:=3000) (by kernel_rfl)
theorem s7_:jA_ Tryz.prog 178 [VARS,.str [116,109,46,113]] (.tup [.agg [.str [116,109,46,113],.int .i64 12,.int .i64 1,.int .i64 3],.bool true]):=vk_ mo ov (n:=3000) (by kernel_rfl)
theorem u7_:jA_ Tryz.prog 178 [VARS,.str [99,46,99,118]] (.tup [.agg [.str [99,46,99,118],.int .i64 17,.int .i64 2,.int .i64 3],.bool true]):=vk_ mo ov (n:=3000) (by kernel_rfl)
theorem aZ_:jA_ Tryz.prog 178 [VARS,.str [116,109,46,101,116]] (.tup [.agg [.str [116,109,46,101,116],.int .i64 13,.int .i64 4,.int .i64 3],.bool true]):=vk_ mo ov (n:=3000) (by kernel_rfl)
theorem k35:jA_ Tryz.prog 45 [VARS] (.int .i64 0):=vk_ mo ov (n:=3000) (by kernel_rfl)
theorem k37:jA_ Tryz.prog 20 [] VARS:=vk_ mo ov (n:=3000) (by kernel_rfl)
theorem k67 (v:Nat) (h:v<50):jA_ Tryz.prog 55 [.int .i64 2,.int .i64 (v:Int)] (.int .i64 (v:Int)):=by
 have:∀v∈List.range 50,jA_ Tryz.prog 55 [.int .i64 2,.int .i64 (v:Int)] (.int .i64 (v:Int)):=by
  simp only [List.range,List.range.loop,List.forall_mem_cons]
  repeat' apply And.intro
  all_goals first|exact (λx hx=>(List.not_mem_nil hx).elim)|exact vk_ mo ov (n:=3000) (by kernel_rfl)
 exact this v (List.mem_range.2 h)
theorem yL_:jA_ Tryz.prog 53 [.int .i64 1] (.int .i64 1):=vk_ mo ov (n:=3000) (by kernel_rfl)
theorem xE_:jA_ Tryz.prog 53 [.int .i64 2] (.int .i64 1):=vk_ mo ov (n:=3000) (by kernel_rfl)
theorem zS_:jA_ Tryz.prog 53 [.int .i64 3] (.int .i64 1):=vk_ mo ov (n:=3000) (by kernel_rfl)
theorem zT_:jA_ Tryz.prog 53 [.int .i64 4] (.int .i64 1):=vk_ mo ov (n:=3000) (by kernel_rfl)
theorem zU_:jA_ Tryz.prog 53 [.int .i64 5] (.int .i64 1):=vk_ mo ov (n:=3000) (by kernel_rfl)
theorem xF_:jA_ Tryz.prog 53 [.int .i64 6] (.int .i64 4):=vk_ mo ov (n:=3000) (by kernel_rfl)
theorem yM_:jA_ Tryz.prog 53 [.int .i64 9] (.int .i64 3):=vk_ mo ov (n:=3000) (by kernel_rfl)
theorem ze_:jA_ Tryz.prog 53 [.int .i64 11] (.int .i64 2):=vk_ mo ov (n:=3000) (by kernel_rfl)
def Ba_:VC:=⟨⟨[],[]⟩,[],[],0,true,[]⟩
def Ap_:VT:=
 (.ite 64
 (.done (J 0))
 (.done (J 4)))
def Bb_:VC:=⟨⟨[],[]⟩,[],[],0,true,[]⟩
def Aq_:VT:=
 (.lt Q0 [64,J 2] 65 none
 (.ite 65
 (.done (.bool true))
 (.lt Q0 [64,J 3] 66 none
 (.ite 66
 (.done (.bool true))
 (.lt Q0 [64,J 4] 67 none
 (.done (67)))))))
def zG_:VC:=⟨⟨[],[]⟩,[(55,[none])],[],0,true,[]⟩
def yE_:VT:=
 (.lt Q0 [74,J 2] 75 none
 (.ite 75
 (.lt Q0 [64,J 1] 76 none
 (.ite 76
 (.lt Q0 [65,J 3] 77 none
 (.ite 77
 (.call 55 [J 2,71] 78 [none]
 (.done (.agg [64,J 2,66,67,68,69,J 2,78,.flt .f64 0,73])))
 (.done (.agg [64,65,66,67,68,69,70,71,72,73]))))
 (.done (.agg [64,65,66,67,68,69,70,71,72,73]))))
 (.done (.agg [64,65,66,67,68,69,70,71,72,73]))))
def A8_:VC:=⟨⟨[],[]⟩,[(153,[(some 10),none,none]),(178,[(some 4),none]),(53,[none]),(157,[none])],[],0,true,[]⟩
def An_:VT:=
 (.call 153 [64,67] 75 [(some 10),none,none]
 (.lt Q3 [86] 87 none
 (.ite 87
 (.done (.tup [J 0,65,66,67,68,69,70,71,72,73,74,J 3]))
 (.lt (.bin .eql 9 false true) [68,.str []] 88 none
 (.ite 88
 (.call 53 [77] 89 [none]
 (.lt Q0 [89,J 1] 90 none
 (.ite 90
 (.lt Q0 [78,J 0] 91 none
 (.call 157 [91] 92 [none]
 (.done (.tup [J 0,65,77,67,68,85,70,71,72,73,74,92]))))
 (.call 157 [.bool false] 91 [none]
 (.done (.tup [J 0,65,77,67,68,85,70,71,72,73,74,91]))))))
 (.call 53 [77] 89 [none]
 (.lt Z3 [89,J 2] 90 none
 (.ite 90
 (.done (.tup [J 0,65,66,67,68,69,70,71,72,73,74,J 4]))
 (.lt (.bin .add 9 false true) [67,.str [46]] 91 none
 (.lt (.bin .add 9 false false) [91,68] 92 none
 (.call 178 [64,92] 93 [(some 4),none]
 (.lt Q3 [97] 98 none
 (.ite 98
 (.done (.tup [J 0,65,66,67,68,69,70,71,72,73,74,J 3]))
 (.done (.tup [J 0,65,95,67,68,94,70,71,72,73,74,J 0])))))))))))))))
def A9_:VC:=⟨⟨[],[]⟩,[(153,[(some 10),none,none]),(157,[none])],[],0,true,[]⟩
def Ao_:VT:=
 (.call 153 [64,67] 76 [(some 10),none,none]
 (.lt Q3 [87] 88 none
 (.ite 88
 (.done (.tup [J 0,65,66,67,68,69,70,71,72,73,74,J 3]))
 (.lt Qe [79,J 0] 89 none
 (.ite 89
 (.lt Q9 [75,J 0] 90 none
 (.lt Za [90] 91 none
 (.lt Qs [91] 92 none
 (.lt Q0 [92,J 2] 93 none
 (.ite 93
 (.call 157 [.bool true] 94 [none]
 (.done (.tup [J 0,65,78,67,68,86,79,71,72,73,75,94])))
 (.lt Q9 [75,J 0] 94 none
 (.lt Za [94] 95 none
 (.lt Qs [95] 96 none
 (.lt Q0 [96,J 3] 97 none
 (.call 157 [97] 98 [none]
 (.done (.tup [J 0,65,78,67,68,86,79,71,72,73,75,98]))))))))))))
 (.call 157 [.bool false] 90 [none]
 (.done (.tup [J 0,65,78,67,68,86,79,71,72,73,75,90]))))))))
theorem vR_ (b:Bool):jA_ Tryz.prog 157 [.bool b] (.int .i64 (if b=true then 0 else 4)):=by
 refine t8_ (sh:=[none]) (ls:=[.bool b]) (c:=Ba_) (n:=300) (t:=Ap_) mo ov rfl rfl rfl (λY _=>vE_ _) rfl (by kernel_rfl) λY hf hg=>?_
 unfold Ap_
 refine ve_ rfl (λh=>uJ_ ?_) (λh=>uJ_ ?_)
 .rw [h];rfl
 .rw [h];rfl
section
variable {P:Program} {Q:AV->Prop} {L:List (Nat->List AV->Prop)} {Y:Sy} {t:TypeId} {cx cy:Bool} {args:List AV} {n:Nat} {A B:VT} {k:IntKind} {a b:Int}
def Cmp:BinOp->Int->Int->Prop
 | .eql,a,b=>a=b
 | .neq,a,b=>¬a=b
 | .lss,a,b=>a<b
 | .gtr,a,b=>b<a
 | .leq,a,b=>a<=b
 | .geq,a,b=>b<=a
 |_,_,_=>False
open Classical in
theorem b_ {op:BinOp} (h0:ab_ Y.v args=[.int k a,.int k b]) (ho:(match op with| .eql=>true| .neq=>true| .lss=>true| .gtr=>true| .leq=>true| .geq=>true|_=>false)=true)
  (h1:Cmp op a b->VOK P Q L (Y.put n (.bool (decide (Cmp op a b)))) A) (h2:¬Cmp op a b->VOK P Q L (Y.put n (.bool (decide (Cmp op a b)))) B):VOK P Q L Y (.lt (.bin op t cx cy) args n none (.ite n A B)):=by
 have hr:(XOp.bin op t cx cy).run P [.int k a,.int k b]=some (.bool (decide (Cmp op a b))):=by
  cases op<;>simp only at ho<;>first|(cases ho;done)|skip
  .rw [run_eql];refine congrArg (λx=>some (AV.bool x)) ?_;by_cases h:a=b<;>simp [Cmp,h]
  .rw [run_neq];refine congrArg (λx=>some (AV.bool x)) ?_;by_cases h:a=b<;>simp [Cmp,h]
  .rw [run_lss];refine congrArg (λx=>some (AV.bool x)) ?_;by_cases h:a<b<;>simp [Cmp,h]
  .rw [run_leq];refine congrArg (λx=>some (AV.bool x)) ?_;by_cases h:a<=b<;>simp [Cmp,h]
  .rw [run_gtr];refine congrArg (λx=>some (AV.bool x)) ?_;by_cases h:b<a<;>simp [Cmp,h]
  .rw [run_geq];refine congrArg (λx=>some (AV.bool x)) ?_;by_cases h:b<=a<;>simp [Cmp,h]
 exact vx_ (by rw [h0];exact hr) rfl (ve_ (t:=decide (Cmp op a b)) (by rw [vS_,if_pos rfl]) (λh=>h1 (of_decide_eq_true h)) (λh=>h2 (of_decide_eq_false h)))
end
theorem nc:(∀a b,Cmp .eql a b=(a=b))/\(∀a b,Cmp .neq a b=¬a=b)/\(∀a b,Cmp .lss a b=(a<b))/\(∀a b,Cmp .gtr a b=(b<a))/\(∀a b,Cmp .leq a b=(a<=b))/\(∀a b,Cmp .geq a b=(b<=a))/\(∀p:Prop,(¬¬p)=p)/\(∀a b:Int,(¬a<b)=(b<=a))/\(∀a b:Int,(¬a<=b)=(b<a))/\(¬True)=False:=
 ⟨λ_ _=>rfl,λ_ _=>rfl,λ_ _=>rfl,λ_ _=>rfl,λ_ _=>rfl,λ_ _=>rfl,λp=>propext ⟨Classical.not_not.1,λh k=>k h⟩,λ_ _=>propext Int.not_lt,λ_ _=>propext Int.not_le,propext ⟨λh=>h trivial,False.elim⟩⟩
def uQ_:List (Int×Int):=[(1,1),(3,1),(12,1),(0,2),(4,2),(2,2),(17,2),(5,3),(13,4),(7,4),(6,5)]
def yF_:List (List UInt8×List UInt8×Int×Int):=[([98],[],1,1),([113],[],3,1),([116,109],[113],12,1),([97],[],0,2),([120],[],4,2),([111],[],2,2),([99],[99,118],17,2),([121],[],5,3),([116,109],[101,116],13,4),([119],[],7,4),([122],[],6,5)]
def xT_:List (List UInt8×Int):=[([98],1),([113],2),([116,109],3),([97],1),([120],3),([111],2),([99],3),([121],3),([119],3),([122],3),([107],3)]
def wrL:List (Int×Int):=[(3,1),(4,2),(2,2),(5,3),(7,4),(6,5)]
theorem tie_cells:∀t∈yF_,(t.2.2.1,t.2.2.2)∈uQ_:=by decide
theorem tie_wr:∀t∈yF_,∀q∈xT_,t.2.1=[]->t.1=q.1->q.2≠1->(t.2.2.1,t.2.2.2)∈wrL:=by decide
def GX.ad:GX->Int| .mk _ _ _ _ ad .. =>ad
def NT (x y:GX):Prop:=match x,y with
 | .mk op _ nm fd ..,.mk _ kd _ _ ad .. =>op=2->(nm,fd,ad,kd)∈yF_
def KX (op kd ad n vk vi:Int) (vf:Nat) (ks:List Int):Prop:=
 (op=1->kd=vk/\1<=vk/\vk<=5/\0<=vi/\vi<50/\(vk=1->vi<=1)/\(vk=5->vi=0)/\(vk≠5->vf=0))/\
 (op=2->(ad,kd)∈uQ_)/\
 (op=3->ad=8/\n=4/\kd=2/\∃k,ks=[k]/\(k=2\/k=3))/\
 (4<=op/\op<=14->∃k,ks=[k,k]/\1<=k/\k<=5/\(op<=8->kd=k/\k≠1)/\(9<=op->kd=1)/\(op=8->k≠5)/\(op=11\/op=12->k≠1)/\(13<=op->k=1))/\
 (op=15->kd=1/\ks=[1])/\
 (op=16->ks=[kd]/\2<=kd/\kd<=5)/\
 (op=17->2<=kd/\kd<=5/\∃k,ks=[k]/\2<=k/\k<=5)
def TX:Nat->GX->Prop
 |0,_=>False
 |d+1,.mk op kd nm fd ad n vk vi vf args=>Ari op args.length/\xs_ vf/\1<=kd/\kd<=5/\KX op kd ad n vk vi vf (args.map GX.kd)/\∀a∈args,TX d a
theorem yK_:∀{d:Nat} {x:GX},TX d x->1<=x.kd/\x.kd<=5
 |0,_,h=>h.elim
 |d+1,.mk ..,h=>⟨h.2.2.1,h.2.2.2.1⟩
theorem q2_ {l:List AV} (h:okL l=true):aT_ (.agg l)=true:=by simp only [aT_];exact cb_ h
theorem xm_ {d:Nat} (x:GX) (k:Int) (hx:TX d x):∃y,jA_ Tryz.prog 154 [.agg (j_ x),.int .i64 k] (.agg (j_ y))/\TX d y:=by
 obtain ⟨op,kd,nm,fd,ad,n,vk,vi,vf,args⟩:=x
 obtain ⟨d,rfl⟩:∃e,d=e+1:=by cases d with|zero=>exact hx.elim|succ d=>exact ⟨d,rfl⟩
 by_cases hc:k=2/\op=1/\kd=3
 .obtain ⟨rfl,rfl,rfl⟩:=hc
  obtain ⟨h1,h2,h3,h4,h5,h6⟩:=hx
  obtain ⟨q1,q2,q3,q4,q5,q6,q7,q8⟩:=h5.1 rfl
  obtain ⟨v,rfl⟩:∃v:Nat,vi=(v:Int):=⟨vi.toNat,by omega⟩
  refine ⟨.mk 1 2 nm fd ad n 2 v 0 args,?_,h1,.inl rfl,by decide,by decide,⟨λ_=>⟨rfl,by decide,by decide,q4,q5,λh=>by omega,λh=>by omega,λ_=>rfl⟩,λh=>by omega,λh=>by omega,λh=>by omega,λh=>by omega,λh=>by omega,λh=>by omega⟩,h6⟩
  refine t8_ (sh:=[some 10,none]) (ls:=j_ (.mk 1 3 nm fd ad n vk v vf args)++[.int .i64 2]) (c:=zG_) (n:=300) (t:=yE_) mo ov rfl (hU_ _ _) (q2_ (okX _)) (λY _=>vE_ _) rfl (by kernel_rfl) λY hf hg=>?_
  unfold yE_
  (refine b_ rfl rfl ?_ ?_<;>intro h<;>simp only [nc]at h<;>try (exfalso;omega));(refine b_ rfl rfl ?_ ?_<;>intro h<;>simp only [nc]at h<;>try (exfalso;omega));(refine b_ rfl rfl ?_ ?_<;>intro h<;>simp only [nc]at h<;>try (exfalso;omega))
  refine uI_ (k67 v (by omega)) rfl rfl (uJ_ rfl)
 .refine ⟨_,?_,hx⟩
  refine t8_ (sh:=[some 10,none]) (ls:=j_ (.mk op kd nm fd ad n vk vi vf args)++[.int .i64 k]) (c:=zG_) (n:=300) (t:=yE_) mo ov rfl (hU_ _ _) (q2_ (okX _)) (λY _=>vE_ _) rfl (by kernel_rfl) λY hf hg=>?_
  unfold yE_
  (refine b_ rfl rfl ?_ ?_<;>intro h<;>simp only [nc]at h<;>try (exfalso;omega))
  ·(refine b_ rfl rfl ?_ ?_<;>intro h<;>simp only [nc]at h<;>try (exfalso;omega))
   ·(refine b_ rfl rfl ?_ ?_<;>intro h<;>simp only [nc]at h<;>try (exfalso;omega))
    exact uJ_ rfl
   .exact uJ_ rfl
  .exact uJ_ rfl
def GX.nm:GX->List UInt8| .mk _ _ nm .. =>nm
def GX.fd:GX->List UInt8| .mk _ _ _ fd .. =>fd
def RL (x:GX):Nat->List AV->Prop:=λ_ ws=>∃ad kd:Int,ws=(match x with| .mk op _ nm fd _ n vk vi vf args=>j_ (.mk op kd nm fd ad n vk vi vf args))++[.int .i64 0]/\(x.nm,x.fd,ad,kd)∈yF_
theorem BF_ (op kd:Int) (nm fd:List UInt8) (ad n vk vi:Int) (vf:Nat) (args:List GX) (h:(nm,fd)∈vP_):CF Tryz.prog 155 xz_ (VARS::j_ (.mk op kd nm fd ad n vk vi vf args)) (RL (.mk op kd nm fd ad n vk vi vf args)):=by
 refine vh_ (c:=A8_) (n:=300) (t:=An_) mo ov rfl (λY _=>vE_ _) (by kernel_rfl) λY hf hg=>?_
 unfold An_
 simp only [vP_,List.mem_cons,Prod.mk.injEq,List.not_mem_nil,or_false]at h
 rcases h with ⟨rfl,rfl⟩|⟨rfl,rfl⟩|⟨rfl,rfl⟩|⟨rfl,rfl⟩|⟨rfl,rfl⟩|⟨rfl,rfl⟩|⟨rfl,rfl⟩|⟨rfl,rfl⟩|⟨rfl,rfl⟩|⟨rfl,rfl⟩|⟨rfl,rfl⟩
 ·(
   refine uI_ xH_ rfl rfl (vx_ rfl rfl (ve_ rfl (λh=>by cases h) (λ_=>vx_ rfl rfl (ve_ rfl (λ_=>?_) (λh=>by cases h)))))
   refine uI_ yL_ rfl rfl (vx_ rfl rfl (ve_ rfl (λ_=>vx_ rfl rfl (uI_ (vR_ true) rfl rfl (VOK_fin ?_ ⟨1,1,rfl,by simp only [GX.nm,GX.fd];decide⟩))) (λh=>by cases h)))
   exact hU_ (.mk _ _ _ _ _ _ _ _ _ args) _)
 ·(
   refine uI_ w3_ rfl rfl (vx_ rfl rfl (ve_ rfl (λh=>by cases h) (λ_=>vx_ rfl rfl (ve_ rfl (λ_=>?_) (λh=>by cases h)))))
   refine uI_ yL_ rfl rfl (vx_ rfl rfl (ve_ rfl (λ_=>vx_ rfl rfl (uI_ (vR_ true) rfl rfl (VOK_fin ?_ ⟨3,1,rfl,by simp only [GX.nm,GX.fd];decide⟩))) (λh=>by cases h)))
   exact hU_ (.mk _ _ _ _ _ _ _ _ _ args) _)
 ·(
   refine uI_ F_ rfl rfl (vx_ rfl rfl (ve_ rfl (λh=>by cases h) (λ_=>vx_ rfl rfl (ve_ rfl (λh=>by cases h) (λ_=>?_)))))
   refine uI_ xF_ rfl rfl (vx_ rfl rfl (ve_ rfl (λh=>by cases h) (λ_=>vx_ rfl rfl (vx_ rfl rfl (uI_ s7_ rfl rfl (vx_ rfl rfl (ve_ rfl (λh=>by cases h) (λ_=>VOK_fin ?_ ⟨12,1,rfl,by simp only [GX.nm,GX.fd];decide⟩))))))))
   exact hU_ (.mk _ _ _ _ _ _ _ _ _ args) _)
 ·(
   refine uI_ xG_ rfl rfl (vx_ rfl rfl (ve_ rfl (λh=>by cases h) (λ_=>vx_ rfl rfl (ve_ rfl (λ_=>?_) (λh=>by cases h)))))
   refine uI_ xE_ rfl rfl (vx_ rfl rfl (ve_ rfl (λ_=>vx_ rfl rfl (uI_ (vR_ true) rfl rfl (VOK_fin ?_ ⟨0,2,rfl,by simp only [GX.nm,GX.fd];decide⟩))) (λh=>by cases h)))
   exact hU_ (.mk _ _ _ _ _ _ _ _ _ args) _)
 ·(
   refine uI_ w5_ rfl rfl (vx_ rfl rfl (ve_ rfl (λh=>by cases h) (λ_=>vx_ rfl rfl (ve_ rfl (λ_=>?_) (λh=>by cases h)))))
   refine uI_ xE_ rfl rfl (vx_ rfl rfl (ve_ rfl (λ_=>vx_ rfl rfl (uI_ (vR_ true) rfl rfl (VOK_fin ?_ ⟨4,2,rfl,by simp only [GX.nm,GX.fd];decide⟩))) (λh=>by cases h)))
   exact hU_ (.mk _ _ _ _ _ _ _ _ _ args) _)
 ·(
   refine uI_ w2_ rfl rfl (vx_ rfl rfl (ve_ rfl (λh=>by cases h) (λ_=>vx_ rfl rfl (ve_ rfl (λ_=>?_) (λh=>by cases h)))))
   refine uI_ xE_ rfl rfl (vx_ rfl rfl (ve_ rfl (λ_=>vx_ rfl rfl (uI_ (vR_ true) rfl rfl (VOK_fin ?_ ⟨2,2,rfl,by simp only [GX.nm,GX.fd];decide⟩))) (λh=>by cases h)))
   exact hU_ (.mk _ _ _ _ _ _ _ _ _ args) _)
 ·(
   refine uI_ wQ_ rfl rfl (vx_ rfl rfl (ve_ rfl (λh=>by cases h) (λ_=>vx_ rfl rfl (ve_ rfl (λh=>by cases h) (λ_=>?_)))))
   refine uI_ yM_ rfl rfl (vx_ rfl rfl (ve_ rfl (λh=>by cases h) (λ_=>vx_ rfl rfl (vx_ rfl rfl (uI_ u7_ rfl rfl (vx_ rfl rfl (ve_ rfl (λh=>by cases h) (λ_=>VOK_fin ?_ ⟨17,2,rfl,by simp only [GX.nm,GX.fd];decide⟩))))))))
   exact hU_ (.mk _ _ _ _ _ _ _ _ _ args) _)
 ·(
   refine uI_ w6_ rfl rfl (vx_ rfl rfl (ve_ rfl (λh=>by cases h) (λ_=>vx_ rfl rfl (ve_ rfl (λ_=>?_) (λh=>by cases h)))))
   refine uI_ zS_ rfl rfl (vx_ rfl rfl (ve_ rfl (λ_=>vx_ rfl rfl (uI_ (vR_ true) rfl rfl (VOK_fin ?_ ⟨5,3,rfl,by simp only [GX.nm,GX.fd];decide⟩))) (λh=>by cases h)))
   exact hU_ (.mk _ _ _ _ _ _ _ _ _ args) _)
 ·(
   refine uI_ F_ rfl rfl (vx_ rfl rfl (ve_ rfl (λh=>by cases h) (λ_=>vx_ rfl rfl (ve_ rfl (λh=>by cases h) (λ_=>?_)))))
   refine uI_ xF_ rfl rfl (vx_ rfl rfl (ve_ rfl (λh=>by cases h) (λ_=>vx_ rfl rfl (vx_ rfl rfl (uI_ aZ_ rfl rfl (vx_ rfl rfl (ve_ rfl (λh=>by cases h) (λ_=>VOK_fin ?_ ⟨13,4,rfl,by simp only [GX.nm,GX.fd];decide⟩))))))))
   exact hU_ (.mk _ _ _ _ _ _ _ _ _ args) _)
 ·(
   refine uI_ w4_ rfl rfl (vx_ rfl rfl (ve_ rfl (λh=>by cases h) (λ_=>vx_ rfl rfl (ve_ rfl (λ_=>?_) (λh=>by cases h)))))
   refine uI_ zT_ rfl rfl (vx_ rfl rfl (ve_ rfl (λ_=>vx_ rfl rfl (uI_ (vR_ true) rfl rfl (VOK_fin ?_ ⟨7,4,rfl,by simp only [GX.nm,GX.fd];decide⟩))) (λh=>by cases h)))
   exact hU_ (.mk _ _ _ _ _ _ _ _ _ args) _)
 ·(
   refine uI_ w7_ rfl rfl (vx_ rfl rfl (ve_ rfl (λh=>by cases h) (λ_=>vx_ rfl rfl (ve_ rfl (λ_=>?_) (λh=>by cases h)))))
   refine uI_ zU_ rfl rfl (vx_ rfl rfl (ve_ rfl (λ_=>vx_ rfl rfl (uI_ (vR_ true) rfl rfl (VOK_fin ?_ ⟨6,5,rfl,by simp only [GX.nm,GX.fd];decide⟩))) (λh=>by cases h)))
   exact hU_ (.mk _ _ _ _ _ _ _ _ _ args) _)
end Go.Proofs.YtjconanknjgpnaaGreat.vars
set_option linter.unusedVariables false
set_option linter.unusedSimpArgs false
namespace Go.Sx
section
variable {P:Program} {t:TypeId} {ti:TypeInfo} {α:Type} {enc:α->List AV} {w:Nat}
theorem vn_:∀(a xs b c:List AV),b.length=xs.length->cP_ a.length xs (a++(b++c))=some (a++(xs++c))
 |[],[],[],c,_=>by cases c<;>rfl
 |[],x::xs,y::b,c,h=>by
  have ih:=vn_ [] xs b c (by simpa using h)
  simp only [List.nil_append,List.length_nil,List.cons_append]at ih⊢
  simp only [cP_,ih]
 |[],x::xs,[],c,h=>by simp at h
 |[],[],y::b,c,h=>by simp at h
 |x::a,xs,b,c,h=>by
  simp only [List.cons_append,List.length_cons,cP_,vn_ a xs b c h]
theorem wN_ (hw:∀a,(enc a).length=w) (l:List α) {i:Nat} (hi:i<l.length):∃a b,bA_ enc l=a++(enc l[i]++b)/\a.length=i*w/\∀x,bA_ enc (l.set i x)=a++(enc x++b):=by
 refine ⟨bA_ enc (l.take i),bA_ enc (l.drop (i+1)),?_,?_,λx=>?_⟩
 .have h1:l=l.take i++l[i]::l.drop (i+1):=by rw [List.getElem_cons_drop,List.take_append_drop]
  have h2:=congrArg (bA_ enc) h1
  rw [eA_]at h2
  exact h2
 .rw [du_ hw,List.length_take];congr 1;omega
 .rw [List.set_eq_take_append_cons_drop,if_pos hi,eA_];rfl
theorem run_stx (hw:∀a,(enc a).length=w) {l:List α} {i:Nat} (hi:i<l.length) {off:Nat} {v:AV} {xs p q r:List AV} {y:α} (hc:v.cells=xs) (ho:v=.agg xs\/(∃k n,v=.int k n)) (hinf:P.info? t=some ti) (hs:ti.size=xs.length) (h1:a8_ xs=true)
  (he:enc l[i]=p++(q++r)) (hp:p.length=off) (hq:q.length=xs.length) (hy:enc y=p++(xs++r)) (k:IntKind):(XOp.stx t w off).run P [c2_ enc w l,.int k (i:Int),v]=some (c2_ enc w (l.set i y)):=by
 obtain ⟨a,b,e1,e2,e3⟩:=wN_ hw l hi
 obtain ⟨x0,l',rfl⟩:∃x l',l=x::l':=by cases l with|nil=>simp at hi|cons x l'=>exact ⟨x,l',rfl⟩
 have cD_:∃z l'',(x0::l').set i y=z::l''/\l''.length=l'.length:=by
  cases i with
  |zero=>exact ⟨y,l',rfl,rfl⟩
  |succ i=>exact ⟨x0,l'.set i y,rfl,by simp⟩
 obtain ⟨z,l'',e4,e5⟩:=cD_
 have hst:ch_ P (qk_ (bA_ enc (x0::l'))) t (.ptr 0 (i*w+off)) v=some (.tup [],(qk_ (bA_ enc (x0::l'))).set 0 (.cells (bA_ enc ((x0::l').set i y)))):=by
  have hg:(qk_ (bA_ enc (x0::l'))).get 0=some (.cells (bA_ enc (x0::l'))):=rfl
  have hsa:cP_ (i*w+off) xs (bA_ enc (x0::l'))=some (bA_ enc ((x0::l').set i y)):=by
   have:=vn_ (a++p) xs q (r++b) hq
   rw [List.length_append,e2,hp]at this
   rw [e1,he,e3,hy]
   simpa [List.append_assoc]using this
  have hb:Nat.beq xs.length ti.size=true:=by rw [hs];exact Nat.beq_refl _
  rcases ho with rfl|⟨k',n,rfl⟩
  .simp only [ch_,hinf]
   have hc':(AV.agg xs).cells=xs:=hc
   simp only [hc',hb,h1,hg,hsa]
  .simp only [ch_,hinf]
   simp only [hc,hb,h1,hg,hsa]
 show (match ch_ P (qk_ (bA_ enc (x0::l'))) t (.ptr 0 (Nat.add (Nat.mul i w) off)) v with
  |some r=>match r.2.get 0 with
   |some (.cells cs')=>some (AV.vsl (l'.length+1) w cs')
   |_=>none
  |none=>none)=_
 have e6:Nat.add (Nat.mul i w) off=i*w+off:=rfl
 rw [e6,hst]
 have hg2:∀c:List AV,((qk_ (bA_ enc (x0::l'))).set 0 (.cells c)).get 0=some (.cells c):=λc=>rfl
 simp only [hg2]
 rw [e4]
 show _=some (AV.vsl (l''.length+1) w (bA_ enc (z::l'')))
 rw [e5]
theorem yB_ {l:List α} {i:Nat} (hi:i<l.length) (k:IntKind):(XOp.inb).run P [c2_ enc w l,.int k (i:Int)]=some (.int .i64 (i:Int)):=by
 cases l with
 |nil=>simp at hi
 |cons x r=>
  show (match Sx.idx (i:Int) (r.length+1)with|some n=>some (AV.int .i64 (.ofNat n))|none=>none)=_
  have hb:Nat.blt i (r.length+1)=true:=by simpa [Nat.blt_eq]using hi
  have:Sx.idx (i:Int) (r.length+1)=some i:=by
   show (match Nat.blt i (r.length+1)with|true=>some i|false=>none)=some i
   rw [hb]
  rw [this];rfl
end
theorem uP_:∀{l:List AV},okL l=true->a8_ l=true
 |[],_=>rfl
 |a::r,h=>by
  rw [aY_]at h
  obtain ⟨h1,h2⟩:=aa_ h
  have:a.one=true:=by cases a<;>first|rfl|(simp [okC]at h1)
  simp only [a8_,this,uP_ h2]
end Go.Sx
set_option maxRecDepth 100000
set_option linter.unusedVariables false
set_option linter.unusedSimpArgs false
namespace Go.Proofs.YtjconanknjgpnaaGreat.vars
open Go Go.Sx
def A3_:VC:=⟨⟨[],[]⟩,[(153,[(some 10),none,none]),(154,[(some 10)]),(157,[none]),(158,[none])],[(1,[⟨[(4,.ptr 1 0),(3,.ptr 0 0),(9,.slx 2 10 0),(10,.slx 1 0 0),(0,64)],[(1,[J 0,J 0,.str [],.str [],J 0,J 0,J 0,J 0,.flt .f64 0,.nsl]),(0,[65,66,67,68,69,70,71,72,73,74])],3,2,[⟨2,10,0,9,none⟩],[],[]⟩])],0,true,[(121,ft121),(155,xz_),(156,ft156)]⟩
def Ai_:VT:=
 (.lt Q0 [65,J 1] 75 none
 (.ite 75
 (.done (.tup [J 0,65,71,67,68,69,70,71,72,73,74,J 0]))
 (.lt Q0 [65,J 2] 76 none
 (.ite 76
 (.callF 155 xz_ [64,65,66,67,68,69,70,71,72,73,74] 77
 (.cons 11
 (.done (.tup [J 0,88,89,90,91,92,93,94,95,96,97,98]))
 .nil))
 (.lt Q0 [65,J 3] 77 none
 (.ite 77
 (.call 153 [64,67] 78 [(some 10),none,none]
 (.lt Q3 [89] 90 none
 (.ite 90
 (.done (.tup [J 0,65,66,67,68,69,70,71,72,73,74,J 3]))
 (.lt Q0 [81,J 0] 91 none
 (.ite 91
 (.done (.tup [J 0,65,66,67,68,69,70,71,72,73,74,J 4]))
 (.loop 92 0 [.nsl,J 0]
 (.cons 2
 (.lt Qc [74] 94 none
 (.lt Q4 [93,94] 95 none
 (.ite 95
 (.lt Q9 [74,93] 96 none
 (.lt Qb [96] 97 (some 10)
 (.callF 121 ft121 [64,97,98,99,100,101,102,103,104,105,106] 107
 (.cons 11
 (.lt Q5 [128,J 0] 129 none
 (.ite 129
 (.done (.tup [J 0,65,66,67,68,69,70,71,72,73,74,128]))
 (.lt Qi [92,.agg [118,119,120,121,122,123,124,125,126,127]] 130 none
 (.lt Q2 [93,J 1] 131 none
 (.again 0 0 [130,131])))))
 .nil))))
 (.lt Q0 [65,J 3] 96 none
 (.ite 96
 (.callF 156 ft156 [64,65,66,67,68,69,70,71,72,73,74,92] 97
 (.cons 11
 (.done (.tup [J 0,109,110,111,112,113,114,115,116,117,118,119]))
 .nil))
 (.lt Q1 [92,J 0] 97 none
 (.lt Qg [92,97] 98 none
 (.lt Q0 [65,J 17] 99 none
 (.ite 99
 (.lt Q0 [98,J 1] 100 none
 (.ite 100
 (.done (.tup [J 0,65,66,67,68,69,70,71,72,73,74,J 4]))
 (.lt Q0 [66,J 1] 101 none
 (.ite 101
 (.done (.tup [J 0,65,66,67,68,69,70,71,72,73,74,J 4]))
 (.done (.tup [J 0,65,66,67,68,69,70,71,72,73,92,J 0]))))))
 (.lt Q0 [65,J 15] 100 none
 (.ite 100
 (.lt Q0 [98,J 1] 101 none
 (.call 157 [101] 102 [none]
 (.done (.tup [J 0,65,J 1,67,68,69,70,71,72,73,92,102]))))
 (.lt Q0 [65,J 16] 101 none
 (.ite 101
 (.lt Q6 [98,J 1] 102 none
 (.call 157 [102] 103 [none]
 (.done (.tup [J 0,65,98,67,68,69,70,71,72,73,92,103]))))
 (.lt Z0 [65,J 4] 102 none
 (.ite 102
 (.lt Qv [65,J 12] 103 none
 (.ite 103
 (.lt Q1 [92,J 0] 104 none
 (.lt Zm [92,104] 105 (some 10)
 (.lt Q1 [92,J 1] 115 none
 (.lt Qg [92,115] 116 none
 (.call 154 [.agg [105,106,107,108,109,110,111,112,113,114],116] 117 [(some 10)]
 (.lt Q1 [92,J 1] 127 none
 (.lt Zm [92,127] 128 (some 10)
 (.lt Q1 [92,J 0] 138 none
 (.lt Qg [92,138] 139 none
 (.call 154 [.agg [128,129,130,131,132,133,134,135,136,137],139] 140 [(some 10)]
 (.lt Q1 [92,J 0] 150 none
 (.lt Zn [92,150,.agg [117,118,119,120,121,122,123,124,125,126]] 151 none
 (.lt Q1 [92,J 1] 152 none
 (.lt Zn [151,152,.agg [140,141,142,143,144,145,146,147,148,149]] 153 none
 (.lt Q1 [92,J 0] 154 none
 (.lt Qg [153,154] 155 none
 (.lt Q1 [92,J 1] 156 none
 (.lt Qg [153,156] 157 none
 (.lt Qj [155,157] 158 none
 (.lt Q0 [65,J 4] 159 none
 (.ite 159
 (.ite 158
 (.lt Q6 [155,J 1] 160 none
 (.call 157 [160] 161 [none]
 (.chk (.same 92 153)
 (.done (.tup [J 0,65,155,67,68,69,70,71,72,73,153,161])))))
 (.call 157 [.bool false] 160 [none]
 (.chk (.same 92 153)
 (.done (.tup [J 0,65,155,67,68,69,70,71,72,73,153,160])))))
 (.lt Q0 [65,J 5] 160 none
 (.ite 160
 (.ite 158
 (.lt Q6 [155,J 1] 161 none
 (.call 157 [161] 162 [none]
 (.chk (.same 92 153)
 (.done (.tup [J 0,65,155,67,68,69,70,71,72,73,153,162])))))
 (.call 157 [.bool false] 161 [none]
 (.chk (.same 92 153)
 (.done (.tup [J 0,65,155,67,68,69,70,71,72,73,153,161])))))
 (.lt Q0 [65,J 6] 161 none
 (.ite 161
 (.ite 158
 (.lt Q6 [155,J 1] 162 none
 (.call 157 [162] 163 [none]
 (.chk (.same 92 153)
 (.done (.tup [J 0,65,155,67,68,69,70,71,72,73,153,163])))))
 (.call 157 [.bool false] 162 [none]
 (.chk (.same 92 153)
 (.done (.tup [J 0,65,155,67,68,69,70,71,72,73,153,162])))))
 (.lt Q0 [65,J 7] 162 none
 (.ite 162
 (.ite 158
 (.lt Q6 [155,J 1] 163 none
 (.call 157 [163] 164 [none]
 (.chk (.same 92 153)
 (.done (.tup [J 0,65,155,67,68,69,70,71,72,73,153,164])))))
 (.call 157 [.bool false] 163 [none]
 (.chk (.same 92 153)
 (.done (.tup [J 0,65,155,67,68,69,70,71,72,73,153,163])))))
 (.lt Q0 [65,J 8] 163 none
 (.ite 163
 (.ite 158
 (.call 158 [155] 164 [none]
 (.call 157 [164] 165 [none]
 (.chk (.same 92 153)
 (.done (.tup [J 0,65,155,67,68,69,70,71,72,73,153,165])))))
 (.call 157 [.bool false] 164 [none]
 (.chk (.same 92 153)
 (.done (.tup [J 0,65,155,67,68,69,70,71,72,73,153,164])))))
 (.lt Q0 [65,J 9] 164 none
 (.ite 164
 (.call 157 [158] 165 [none]
 (.chk (.same 92 153)
 (.done (.tup [J 0,65,J 1,67,68,69,70,71,72,73,153,165]))))
 (.lt Q0 [65,J 10] 165 none
 (.ite 165
 (.call 157 [158] 166 [none]
 (.chk (.same 92 153)
 (.done (.tup [J 0,65,J 1,67,68,69,70,71,72,73,153,166]))))
 (.lt Q0 [65,J 11] 166 none
 (.ite 166
 (.ite 158
 (.lt Q6 [155,J 1] 167 none
 (.call 157 [167] 168 [none]
 (.chk (.same 92 153)
 (.done (.tup [J 0,65,J 1,67,68,69,70,71,72,73,153,168])))))
 (.call 157 [.bool false] 167 [none]
 (.chk (.same 92 153)
 (.done (.tup [J 0,65,J 1,67,68,69,70,71,72,73,153,167])))))
 (.lt Q0 [65,J 12] 167 none
 (.ite 167
 (.ite 158
 (.lt Q6 [155,J 1] 168 none
 (.call 157 [168] 169 [none]
 (.chk (.same 92 153)
 (.done (.tup [J 0,65,J 1,67,68,69,70,71,72,73,153,169])))))
 (.call 157 [.bool false] 168 [none]
 (.chk (.same 92 153)
 (.done (.tup [J 0,65,J 1,67,68,69,70,71,72,73,153,168])))))
 (.ite 158
 (.lt Q0 [155,J 1] 168 none
 (.call 157 [168] 169 [none]
 (.chk (.same 92 153)
 (.done (.tup [J 0,65,J 1,67,68,69,70,71,72,73,153,169])))))
 (.call 157 [.bool false] 168 [none]
 (.chk (.same 92 153)
 (.done (.tup [J 0,65,J 1,67,68,69,70,71,72,73,153,168]))))))))))))))))))))))))))))))))))))))))))
 (.lt Q1 [92,J 1] 104 none
 (.lt Qg [92,104] 105 none
 (.lt Qj [98,105] 106 none
 (.lt Q0 [65,J 4] 107 none
 (.ite 107
 (.ite 106
 (.lt Q6 [98,J 1] 108 none
 (.call 157 [108] 109 [none]
 (.done (.tup [J 0,65,98,67,68,69,70,71,72,73,92,109]))))
 (.call 157 [.bool false] 108 [none]
 (.done (.tup [J 0,65,98,67,68,69,70,71,72,73,92,108]))))
 (.lt Q0 [65,J 5] 108 none
 (.ite 108
 (.ite 106
 (.lt Q6 [98,J 1] 109 none
 (.call 157 [109] 110 [none]
 (.done (.tup [J 0,65,98,67,68,69,70,71,72,73,92,110]))))
 (.call 157 [.bool false] 109 [none]
 (.done (.tup [J 0,65,98,67,68,69,70,71,72,73,92,109]))))
 (.lt Q0 [65,J 6] 109 none
 (.ite 109
 (.ite 106
 (.lt Q6 [98,J 1] 110 none
 (.call 157 [110] 111 [none]
 (.done (.tup [J 0,65,98,67,68,69,70,71,72,73,92,111]))))
 (.call 157 [.bool false] 110 [none]
 (.done (.tup [J 0,65,98,67,68,69,70,71,72,73,92,110]))))
 (.lt Q0 [65,J 7] 110 none
 (.ite 110
 (.ite 106
 (.lt Q6 [98,J 1] 111 none
 (.call 157 [111] 112 [none]
 (.done (.tup [J 0,65,98,67,68,69,70,71,72,73,92,112]))))
 (.call 157 [.bool false] 111 [none]
 (.done (.tup [J 0,65,98,67,68,69,70,71,72,73,92,111]))))
 (.lt Q0 [65,J 8] 111 none
 (.ite 111
 (.ite 106
 (.call 158 [98] 112 [none]
 (.call 157 [112] 113 [none]
 (.done (.tup [J 0,65,98,67,68,69,70,71,72,73,92,113]))))
 (.call 157 [.bool false] 112 [none]
 (.done (.tup [J 0,65,98,67,68,69,70,71,72,73,92,112]))))
 (.lt Q0 [65,J 9] 112 none
 (.ite 112
 (.call 157 [106] 113 [none]
 (.done (.tup [J 0,65,J 1,67,68,69,70,71,72,73,92,113])))
 (.lt Q0 [65,J 10] 113 none
 (.ite 113
 (.call 157 [106] 114 [none]
 (.done (.tup [J 0,65,J 1,67,68,69,70,71,72,73,92,114])))
 (.lt Q0 [65,J 11] 114 none
 (.ite 114
 (.ite 106
 (.lt Q6 [98,J 1] 115 none
 (.call 157 [115] 116 [none]
 (.done (.tup [J 0,65,J 1,67,68,69,70,71,72,73,92,116]))))
 (.call 157 [.bool false] 115 [none]
 (.done (.tup [J 0,65,J 1,67,68,69,70,71,72,73,92,115]))))
 (.lt Q0 [65,J 12] 115 none
 (.ite 115
 (.ite 106
 (.lt Q6 [98,J 1] 116 none
 (.call 157 [116] 117 [none]
 (.done (.tup [J 0,65,J 1,67,68,69,70,71,72,73,92,117]))))
 (.call 157 [.bool false] 116 [none]
 (.done (.tup [J 0,65,J 1,67,68,69,70,71,72,73,92,116]))))
 (.ite 106
 (.lt Q0 [98,J 1] 116 none
 (.call 157 [116] 117 [none]
 (.done (.tup [J 0,65,J 1,67,68,69,70,71,72,73,92,117]))))
 (.call 157 [.bool false] 116 [none]
 (.done (.tup [J 0,65,J 1,67,68,69,70,71,72,73,92,116])))))))))))))))))))))))))))
 (.lt Q1 [92,J 1] 103 none
 (.lt Qg [92,103] 104 none
 (.lt Qj [98,104] 105 none
 (.lt Q0 [65,J 4] 106 none
 (.ite 106
 (.ite 105
 (.lt Q6 [98,J 1] 107 none
 (.call 157 [107] 108 [none]
 (.done (.tup [J 0,65,98,67,68,69,70,71,72,73,92,108]))))
 (.call 157 [.bool false] 107 [none]
 (.done (.tup [J 0,65,98,67,68,69,70,71,72,73,92,107]))))
 (.lt Q0 [65,J 5] 107 none
 (.ite 107
 (.ite 105
 (.lt Q6 [98,J 1] 108 none
 (.call 157 [108] 109 [none]
 (.done (.tup [J 0,65,98,67,68,69,70,71,72,73,92,109]))))
 (.call 157 [.bool false] 108 [none]
 (.done (.tup [J 0,65,98,67,68,69,70,71,72,73,92,108]))))
 (.lt Q0 [65,J 6] 108 none
 (.ite 108
 (.ite 105
 (.lt Q6 [98,J 1] 109 none
 (.call 157 [109] 110 [none]
 (.done (.tup [J 0,65,98,67,68,69,70,71,72,73,92,110]))))
 (.call 157 [.bool false] 109 [none]
 (.done (.tup [J 0,65,98,67,68,69,70,71,72,73,92,109]))))
 (.lt Q0 [65,J 7] 109 none
 (.ite 109
 (.ite 105
 (.lt Q6 [98,J 1] 110 none
 (.call 157 [110] 111 [none]
 (.done (.tup [J 0,65,98,67,68,69,70,71,72,73,92,111]))))
 (.call 157 [.bool false] 110 [none]
 (.done (.tup [J 0,65,98,67,68,69,70,71,72,73,92,110]))))
 (.lt Q0 [65,J 8] 110 none
 (.ite 110
 (.ite 105
 (.call 158 [98] 111 [none]
 (.call 157 [111] 112 [none]
 (.done (.tup [J 0,65,98,67,68,69,70,71,72,73,92,112]))))
 (.call 157 [.bool false] 111 [none]
 (.done (.tup [J 0,65,98,67,68,69,70,71,72,73,92,111]))))
 (.lt Q0 [65,J 9] 111 none
 (.ite 111
 (.call 157 [105] 112 [none]
 (.done (.tup [J 0,65,J 1,67,68,69,70,71,72,73,92,112])))
 (.lt Q0 [65,J 10] 112 none
 (.ite 112
 (.call 157 [105] 113 [none]
 (.done (.tup [J 0,65,J 1,67,68,69,70,71,72,73,92,113])))
 (.lt Q0 [65,J 11] 113 none
 (.ite 113
 (.ite 105
 (.lt Q6 [98,J 1] 114 none
 (.call 157 [114] 115 [none]
 (.done (.tup [J 0,65,J 1,67,68,69,70,71,72,73,92,115]))))
 (.call 157 [.bool false] 114 [none]
 (.done (.tup [J 0,65,J 1,67,68,69,70,71,72,73,92,114]))))
 (.lt Q0 [65,J 12] 114 none
 (.ite 114
 (.ite 105
 (.lt Q6 [98,J 1] 115 none
 (.call 157 [115] 116 [none]
 (.done (.tup [J 0,65,J 1,67,68,69,70,71,72,73,92,116]))))
 (.call 157 [.bool false] 115 [none]
 (.done (.tup [J 0,65,J 1,67,68,69,70,71,72,73,92,115]))))
 (.ite 105
 (.lt Q0 [98,J 1] 115 none
 (.call 157 [115] 116 [none]
 (.done (.tup [J 0,65,J 1,67,68,69,70,71,72,73,92,116]))))
 (.call 157 [.bool false] 115 [none]
 (.done (.tup [J 0,65,J 1,67,68,69,70,71,72,73,92,115]))))))))))))))))))))))))))))))))))))))))
 .nil)))))))
 (.loop 78 0 [.nsl,J 0]
 (.cons 2
 (.lt Qc [74] 80 none
 (.lt Q4 [79,80] 81 none
 (.ite 81
 (.lt Q9 [74,79] 82 none
 (.lt Qb [82] 83 (some 10)
 (.callF 121 ft121 [64,83,84,85,86,87,88,89,90,91,92] 93
 (.cons 11
 (.lt Q5 [114,J 0] 115 none
 (.ite 115
 (.done (.tup [J 0,65,66,67,68,69,70,71,72,73,74,114]))
 (.lt Qi [78,.agg [104,105,106,107,108,109,110,111,112,113]] 116 none
 (.lt Q2 [79,J 1] 117 none
 (.again 0 0 [116,117])))))
 .nil))))
 (.lt Q0 [65,J 3] 82 none
 (.ite 82
 (.callF 156 ft156 [64,65,66,67,68,69,70,71,72,73,74,78] 83
 (.cons 11
 (.done (.tup [J 0,95,96,97,98,99,100,101,102,103,104,105]))
 .nil))
 (.lt Q1 [78,J 0] 83 none
 (.lt Qg [78,83] 84 none
 (.lt Q0 [65,J 17] 85 none
 (.ite 85
 (.lt Q0 [84,J 1] 86 none
 (.ite 86
 (.done (.tup [J 0,65,66,67,68,69,70,71,72,73,74,J 4]))
 (.lt Q0 [66,J 1] 87 none
 (.ite 87
 (.done (.tup [J 0,65,66,67,68,69,70,71,72,73,74,J 4]))
 (.done (.tup [J 0,65,66,67,68,69,70,71,72,73,78,J 0]))))))
 (.lt Q0 [65,J 15] 86 none
 (.ite 86
 (.lt Q0 [84,J 1] 87 none
 (.call 157 [87] 88 [none]
 (.done (.tup [J 0,65,J 1,67,68,69,70,71,72,73,78,88]))))
 (.lt Q0 [65,J 16] 87 none
 (.ite 87
 (.lt Q6 [84,J 1] 88 none
 (.call 157 [88] 89 [none]
 (.done (.tup [J 0,65,84,67,68,69,70,71,72,73,78,89]))))
 (.lt Z0 [65,J 4] 88 none
 (.ite 88
 (.lt Qv [65,J 12] 89 none
 (.ite 89
 (.lt Q1 [78,J 0] 90 none
 (.lt Zm [78,90] 91 (some 10)
 (.lt Q1 [78,J 1] 101 none
 (.lt Qg [78,101] 102 none
 (.call 154 [.agg [91,92,93,94,95,96,97,98,99,100],102] 103 [(some 10)]
 (.lt Q1 [78,J 1] 113 none
 (.lt Zm [78,113] 114 (some 10)
 (.lt Q1 [78,J 0] 124 none
 (.lt Qg [78,124] 125 none
 (.call 154 [.agg [114,115,116,117,118,119,120,121,122,123],125] 126 [(some 10)]
 (.lt Q1 [78,J 0] 136 none
 (.lt Zn [78,136,.agg [103,104,105,106,107,108,109,110,111,112]] 137 none
 (.lt Q1 [78,J 1] 138 none
 (.lt Zn [137,138,.agg [126,127,128,129,130,131,132,133,134,135]] 139 none
 (.lt Q1 [78,J 0] 140 none
 (.lt Qg [139,140] 141 none
 (.lt Q1 [78,J 1] 142 none
 (.lt Qg [139,142] 143 none
 (.lt Qj [141,143] 144 none
 (.lt Q0 [65,J 4] 145 none
 (.ite 145
 (.ite 144
 (.lt Q6 [141,J 1] 146 none
 (.call 157 [146] 147 [none]
 (.chk (.same 78 139)
 (.done (.tup [J 0,65,141,67,68,69,70,71,72,73,139,147])))))
 (.call 157 [.bool false] 146 [none]
 (.chk (.same 78 139)
 (.done (.tup [J 0,65,141,67,68,69,70,71,72,73,139,146])))))
 (.lt Q0 [65,J 5] 146 none
 (.ite 146
 (.ite 144
 (.lt Q6 [141,J 1] 147 none
 (.call 157 [147] 148 [none]
 (.chk (.same 78 139)
 (.done (.tup [J 0,65,141,67,68,69,70,71,72,73,139,148])))))
 (.call 157 [.bool false] 147 [none]
 (.chk (.same 78 139)
 (.done (.tup [J 0,65,141,67,68,69,70,71,72,73,139,147])))))
 (.lt Q0 [65,J 6] 147 none
 (.ite 147
 (.ite 144
 (.lt Q6 [141,J 1] 148 none
 (.call 157 [148] 149 [none]
 (.chk (.same 78 139)
 (.done (.tup [J 0,65,141,67,68,69,70,71,72,73,139,149])))))
 (.call 157 [.bool false] 148 [none]
 (.chk (.same 78 139)
 (.done (.tup [J 0,65,141,67,68,69,70,71,72,73,139,148])))))
 (.lt Q0 [65,J 7] 148 none
 (.ite 148
 (.ite 144
 (.lt Q6 [141,J 1] 149 none
 (.call 157 [149] 150 [none]
 (.chk (.same 78 139)
 (.done (.tup [J 0,65,141,67,68,69,70,71,72,73,139,150])))))
 (.call 157 [.bool false] 149 [none]
 (.chk (.same 78 139)
 (.done (.tup [J 0,65,141,67,68,69,70,71,72,73,139,149])))))
 (.lt Q0 [65,J 8] 149 none
 (.ite 149
 (.ite 144
 (.call 158 [141] 150 [none]
 (.call 157 [150] 151 [none]
 (.chk (.same 78 139)
 (.done (.tup [J 0,65,141,67,68,69,70,71,72,73,139,151])))))
 (.call 157 [.bool false] 150 [none]
 (.chk (.same 78 139)
 (.done (.tup [J 0,65,141,67,68,69,70,71,72,73,139,150])))))
 (.lt Q0 [65,J 9] 150 none
 (.ite 150
 (.call 157 [144] 151 [none]
 (.chk (.same 78 139)
 (.done (.tup [J 0,65,J 1,67,68,69,70,71,72,73,139,151]))))
 (.lt Q0 [65,J 10] 151 none
 (.ite 151
 (.call 157 [144] 152 [none]
 (.chk (.same 78 139)
 (.done (.tup [J 0,65,J 1,67,68,69,70,71,72,73,139,152]))))
 (.lt Q0 [65,J 11] 152 none
 (.ite 152
 (.ite 144
 (.lt Q6 [141,J 1] 153 none
 (.call 157 [153] 154 [none]
 (.chk (.same 78 139)
 (.done (.tup [J 0,65,J 1,67,68,69,70,71,72,73,139,154])))))
 (.call 157 [.bool false] 153 [none]
 (.chk (.same 78 139)
 (.done (.tup [J 0,65,J 1,67,68,69,70,71,72,73,139,153])))))
 (.lt Q0 [65,J 12] 153 none
 (.ite 153
 (.ite 144
 (.lt Q6 [141,J 1] 154 none
 (.call 157 [154] 155 [none]
 (.chk (.same 78 139)
 (.done (.tup [J 0,65,J 1,67,68,69,70,71,72,73,139,155])))))
 (.call 157 [.bool false] 154 [none]
 (.chk (.same 78 139)
 (.done (.tup [J 0,65,J 1,67,68,69,70,71,72,73,139,154])))))
 (.ite 144
 (.lt Q0 [141,J 1] 154 none
 (.call 157 [154] 155 [none]
 (.chk (.same 78 139)
 (.done (.tup [J 0,65,J 1,67,68,69,70,71,72,73,139,155])))))
 (.call 157 [.bool false] 154 [none]
 (.chk (.same 78 139)
 (.done (.tup [J 0,65,J 1,67,68,69,70,71,72,73,139,154]))))))))))))))))))))))))))))))))))))))))))
 (.lt Q1 [78,J 1] 90 none
 (.lt Qg [78,90] 91 none
 (.lt Qj [84,91] 92 none
 (.lt Q0 [65,J 4] 93 none
 (.ite 93
 (.ite 92
 (.lt Q6 [84,J 1] 94 none
 (.call 157 [94] 95 [none]
 (.done (.tup [J 0,65,84,67,68,69,70,71,72,73,78,95]))))
 (.call 157 [.bool false] 94 [none]
 (.done (.tup [J 0,65,84,67,68,69,70,71,72,73,78,94]))))
 (.lt Q0 [65,J 5] 94 none
 (.ite 94
 (.ite 92
 (.lt Q6 [84,J 1] 95 none
 (.call 157 [95] 96 [none]
 (.done (.tup [J 0,65,84,67,68,69,70,71,72,73,78,96]))))
 (.call 157 [.bool false] 95 [none]
 (.done (.tup [J 0,65,84,67,68,69,70,71,72,73,78,95]))))
 (.lt Q0 [65,J 6] 95 none
 (.ite 95
 (.ite 92
 (.lt Q6 [84,J 1] 96 none
 (.call 157 [96] 97 [none]
 (.done (.tup [J 0,65,84,67,68,69,70,71,72,73,78,97]))))
 (.call 157 [.bool false] 96 [none]
 (.done (.tup [J 0,65,84,67,68,69,70,71,72,73,78,96]))))
 (.lt Q0 [65,J 7] 96 none
 (.ite 96
 (.ite 92
 (.lt Q6 [84,J 1] 97 none
 (.call 157 [97] 98 [none]
 (.done (.tup [J 0,65,84,67,68,69,70,71,72,73,78,98]))))
 (.call 157 [.bool false] 97 [none]
 (.done (.tup [J 0,65,84,67,68,69,70,71,72,73,78,97]))))
 (.lt Q0 [65,J 8] 97 none
 (.ite 97
 (.ite 92
 (.call 158 [84] 98 [none]
 (.call 157 [98] 99 [none]
 (.done (.tup [J 0,65,84,67,68,69,70,71,72,73,78,99]))))
 (.call 157 [.bool false] 98 [none]
 (.done (.tup [J 0,65,84,67,68,69,70,71,72,73,78,98]))))
 (.lt Q0 [65,J 9] 98 none
 (.ite 98
 (.call 157 [92] 99 [none]
 (.done (.tup [J 0,65,J 1,67,68,69,70,71,72,73,78,99])))
 (.lt Q0 [65,J 10] 99 none
 (.ite 99
 (.call 157 [92] 100 [none]
 (.done (.tup [J 0,65,J 1,67,68,69,70,71,72,73,78,100])))
 (.lt Q0 [65,J 11] 100 none
 (.ite 100
 (.ite 92
 (.lt Q6 [84,J 1] 101 none
 (.call 157 [101] 102 [none]
 (.done (.tup [J 0,65,J 1,67,68,69,70,71,72,73,78,102]))))
 (.call 157 [.bool false] 101 [none]
 (.done (.tup [J 0,65,J 1,67,68,69,70,71,72,73,78,101]))))
 (.lt Q0 [65,J 12] 101 none
 (.ite 101
 (.ite 92
 (.lt Q6 [84,J 1] 102 none
 (.call 157 [102] 103 [none]
 (.done (.tup [J 0,65,J 1,67,68,69,70,71,72,73,78,103]))))
 (.call 157 [.bool false] 102 [none]
 (.done (.tup [J 0,65,J 1,67,68,69,70,71,72,73,78,102]))))
 (.ite 92
 (.lt Q0 [84,J 1] 102 none
 (.call 157 [102] 103 [none]
 (.done (.tup [J 0,65,J 1,67,68,69,70,71,72,73,78,103]))))
 (.call 157 [.bool false] 102 [none]
 (.done (.tup [J 0,65,J 1,67,68,69,70,71,72,73,78,102])))))))))))))))))))))))))))
 (.lt Q1 [78,J 1] 89 none
 (.lt Qg [78,89] 90 none
 (.lt Qj [84,90] 91 none
 (.lt Q0 [65,J 4] 92 none
 (.ite 92
 (.ite 91
 (.lt Q6 [84,J 1] 93 none
 (.call 157 [93] 94 [none]
 (.done (.tup [J 0,65,84,67,68,69,70,71,72,73,78,94]))))
 (.call 157 [.bool false] 93 [none]
 (.done (.tup [J 0,65,84,67,68,69,70,71,72,73,78,93]))))
 (.lt Q0 [65,J 5] 93 none
 (.ite 93
 (.ite 91
 (.lt Q6 [84,J 1] 94 none
 (.call 157 [94] 95 [none]
 (.done (.tup [J 0,65,84,67,68,69,70,71,72,73,78,95]))))
 (.call 157 [.bool false] 94 [none]
 (.done (.tup [J 0,65,84,67,68,69,70,71,72,73,78,94]))))
 (.lt Q0 [65,J 6] 94 none
 (.ite 94
 (.ite 91
 (.lt Q6 [84,J 1] 95 none
 (.call 157 [95] 96 [none]
 (.done (.tup [J 0,65,84,67,68,69,70,71,72,73,78,96]))))
 (.call 157 [.bool false] 95 [none]
 (.done (.tup [J 0,65,84,67,68,69,70,71,72,73,78,95]))))
 (.lt Q0 [65,J 7] 95 none
 (.ite 95
 (.ite 91
 (.lt Q6 [84,J 1] 96 none
 (.call 157 [96] 97 [none]
 (.done (.tup [J 0,65,84,67,68,69,70,71,72,73,78,97]))))
 (.call 157 [.bool false] 96 [none]
 (.done (.tup [J 0,65,84,67,68,69,70,71,72,73,78,96]))))
 (.lt Q0 [65,J 8] 96 none
 (.ite 96
 (.ite 91
 (.call 158 [84] 97 [none]
 (.call 157 [97] 98 [none]
 (.done (.tup [J 0,65,84,67,68,69,70,71,72,73,78,98]))))
 (.call 157 [.bool false] 97 [none]
 (.done (.tup [J 0,65,84,67,68,69,70,71,72,73,78,97]))))
 (.lt Q0 [65,J 9] 97 none
 (.ite 97
 (.call 157 [91] 98 [none]
 (.done (.tup [J 0,65,J 1,67,68,69,70,71,72,73,78,98])))
 (.lt Q0 [65,J 10] 98 none
 (.ite 98
 (.call 157 [91] 99 [none]
 (.done (.tup [J 0,65,J 1,67,68,69,70,71,72,73,78,99])))
 (.lt Q0 [65,J 11] 99 none
 (.ite 99
 (.ite 91
 (.lt Q6 [84,J 1] 100 none
 (.call 157 [100] 101 [none]
 (.done (.tup [J 0,65,J 1,67,68,69,70,71,72,73,78,101]))))
 (.call 157 [.bool false] 100 [none]
 (.done (.tup [J 0,65,J 1,67,68,69,70,71,72,73,78,100]))))
 (.lt Q0 [65,J 12] 100 none
 (.ite 100
 (.ite 91
 (.lt Q6 [84,J 1] 101 none
 (.call 157 [101] 102 [none]
 (.done (.tup [J 0,65,J 1,67,68,69,70,71,72,73,78,102]))))
 (.call 157 [.bool false] 101 [none]
 (.done (.tup [J 0,65,J 1,67,68,69,70,71,72,73,78,101]))))
 (.ite 91
 (.lt Q0 [84,J 1] 101 none
 (.call 157 [101] 102 [none]
 (.done (.tup [J 0,65,J 1,67,68,69,70,71,72,73,78,102]))))
 (.call 157 [.bool false] 101 [none]
 (.done (.tup [J 0,65,J 1,67,68,69,70,71,72,73,78,101]))))))))))))))))))))))))))))))))))))))))
 .nil))))))))
theorem xO_ (k:Int):jA_ Tryz.prog 158 [.int .i64 k] (.bool (decide (k=2\/k=3\/k=4))):=by
 refine t8_ (sh:=[none]) (ls:=[.int .i64 k]) (c:=Bb_) (n:=300) (t:=Aq_) mo ov rfl rfl rfl (λY _=>vE_ _) rfl (by kernel_rfl) λY hf hg=>?_
 unfold Aq_
 (refine b_ rfl rfl ?_ ?_<;>intro h<;>simp only [nc]at h<;>try (exfalso;omega))
 .refine uJ_ ?_
  show AV.bool _=_
  congr 1;symm;simp only [decide_eq_true_eq];omega
 (refine b_ rfl rfl ?_ ?_<;>intro h<;>simp only [nc]at h<;>try (exfalso;omega))
 .refine uJ_ ?_
  show AV.bool _=_
  congr 1;symm;simp only [decide_eq_true_eq];omega
 refine vx_ (run_eql ..) rfl (uJ_ ?_)
 show AV.bool _=_
 congr 1
 refine decide_eq_decide.2 ?_
 omega
theorem x9_ {b:Bool} (h:(if b=true then (0:Int)else 4)=0):b=true:=by
 cases b with
 |true=>rfl
 |false=>simp at h
section
variable {P:Program} {Q:AV->Prop} {L:List (Nat->List AV->Prop)} {Y:Sy} {i:Nat} {A B:VT}
theorem v6_ {p:Prop} [Decidable p] (h0:Y.v i=some (.bool (decide p))) (h1:p->VOK P Q L Y A) (h2:¬p->VOK P Q L Y B):VOK P Q L Y (.ite i A B):=
 ve_ h0 (λh=>h1 (of_decide_eq_true h)) (λh=>h2 (of_decide_eq_false h))
end
def RE (d:Nat) (x:GX):Nat->List AV->Prop:=λ_ ws=>∃(y:GX) (e:Int),ws=j_ y++[.int .i64 e]/\(e=0->TX d y/\y.op=x.op/\NT x y)
theorem pM_ {d j:Nat} {x y:GX} {e:Int} {hv:List AV} {Y:Sy} {L:List (Nat->List AV->Prop)} (h:ab_ Y.v hv=j_ y++[.int .i64 e]) (hw:e=0->TX d y/\y.op=x.op/\NT x y):VOK Tryz.prog (QF (RE d x)) L Y (.done (.tup (.int .i64 (.ofNat j)::hv))):=
 VOK_fin (by rw [h];exact hU_ y e) ⟨y,e,h,hw⟩
def RM (x:GX) (k:Int):Nat->List AV->Prop:=λ_ ws=>∃e:Int,ws=(match x with| .mk op _ nm fd _ _ vk vi vf args=>j_ (.mk op 2 nm fd 8 4 vk vi vf args))++[.int .i64 e]/\(e=0->k=2\/k=3)
theorem BG_ (op kd:Int) (nm fd:List UInt8) (ad n vk vi:Int) (vf:Nat) (args:List GX) (y:GX) (h:nm=[107]):CF Tryz.prog 156 ft156 (VARS::(j_ (.mk op kd nm fd ad n vk vi vf args)++[y_ [y]])) (RM (.mk op kd nm fd ad n vk vi vf [y]) y.kd):=by
 subst h
 obtain ⟨yo,yk,ynm,yfd,yad,yn,yvk,yvi,yvf,ya⟩:=y
 refine vh_ (c:=A9_) (n:=300) (t:=Ao_) mo ov rfl (λY _=>vE_ _) (by kernel_rfl) λY hf hg=>?_
 unfold Ao_
 refine uI_ wr_ rfl rfl (vx_ rfl rfl (ve_ rfl (λh=>by cases h) (λ_=>vx_ rfl rfl (ve_ rfl (λ_=>?_) (λh=>by cases h)))))
 refine vx_ (r:=.vptr (j_ (.mk yo yk ynm yfd yad yn yvk yvi yvf ya)++vv_ [])) rfl (by show okL _=true;exact oL_.okL_join (okX _) (yv_ _)) ?_
 refine vx_ (r:=.vptr [.int .i64 yk,.str ynm,.str yfd,.int .i64 yad,.int .i64 yn,.int .i64 yvk,.int .i64 yvi,.flt .f64 yvf,y_ ya]) rfl (by simp only [okC,okL,okA]) (vx_ (r:=.int .i64 yk) rfl rfl ?_)
 (refine b_ rfl rfl ?_ ?_<;>intro h<;>simp only [nc]at h<;>try (exfalso;omega))
 .refine uI_ (vR_ true) rfl rfl (VOK_fin (by show okL (j_ (.mk op 2 [107] fd 8 4 vk vi vf [_])++[_])=true;exact hU_ _ _) ⟨_,rfl,λ_=>.inl h⟩)
 .refine vx_ (r:=.vptr (j_ (.mk yo yk ynm yfd yad yn yvk yvi yvf ya)++vv_ [])) rfl (by show okL _=true;exact oL_.okL_join (okX _) (yv_ _)) ?_
  refine vx_ (r:=.vptr [.int .i64 yk,.str ynm,.str yfd,.int .i64 yad,.int .i64 yn,.int .i64 yvk,.int .i64 yvi,.flt .f64 yvf,y_ ya]) rfl (by simp only [okC,okL,okA]) (vx_ (r:=.int .i64 yk) rfl rfl ?_)
  refine vx_ (run_eql ..) rfl (uI_ (vR_ _) rfl rfl (VOK_fin (by show okL (j_ (.mk op 2 [107] fd 8 4 vk vi vf [_])++[_])=true;exact hU_ _ _) ⟨_,rfl,λh=>.inr ?_⟩))
  exact of_decide_eq_true (x9_ h)
theorem r_ (l:List GX):(XOp.len 47).run Tryz.prog [y_ l]=some (.int .i64 (l.length:Int)):=by rw [nv_];exact ue_ Tryz.underlying47 l
theorem u_ (l:List GX) {i:Nat} (h:i<l.length):(XOp.iaddr 47).run Tryz.prog [y_ l,.int .i64 (i:Int)]=some (.vptr (bA_ j_ (l.drop i))):=by
 rw [nv_];exact run_iaddr_sl (e:=49) (ti:=(Tryz.prog.info? 49).get!) Tryz.underlying47 (by kernel_rfl) (by kernel_rfl) nZ_ h .i64
theorem v_ (l:List GX) {i:Nat} (h:i<l.length):(XOp.load 49).run Tryz.prog [.vptr (bA_ j_ (l.drop i))]=some (.agg (j_ l[i])):=
 run_load_agg (ti:=(Tryz.prog.info? 49).get!) Tryz.underlying49 rfl (by kernel_rfl) (by kernel_rfl) nZ_ h
theorem A_ (l:List GX) (s:GX) (hl:l.length<=100000):(XOp.app 10 112).run Tryz.prog [y_ l,.agg (j_ s)]=some (y_ (l++[s])):=by
 rw [nv_,nv_]
 exact ub_ nZ_ (by decide) (by decide) l s (by omega)
theorem wg_ (l:List GX) {i:Nat} (hi:i<l.length) (y:GX) (k:IntKind):(XOp.stx 49 10 0).run Tryz.prog [y_ l,.int k (i:Int),.agg (j_ y)]=some (y_ (l.set i y)):=by
 rw [nv_,nv_]
 exact run_stx (ti:=(Tryz.prog.info? 49).get!) nZ_ hi (p:=[]) (q:=j_ l[i]) (r:=[]) (xs:=j_ y) rfl (.inl rfl) (by kernel_rfl) (by rw [nZ_];kernel_rfl) (uP_ (okX _)) (by simp) rfl (by rw [nZ_,nZ_]) (by simp) k
theorem xl_ (x:GX):okL (j_ x++[])=true:=by rw [List.append_nil];exact okX x
def typ (b:Bool):Int:=if b=true then 0 else 4
theorem x8_ {b:Bool} (h:typ b=0):b=true:=x9_ h
theorem xP_ (b:Bool):jA_ Tryz.prog 157 [.bool b] (.int .i64 (typ b)):=vR_ b
attribute [irreducible] typ
theorem TX1 {d:Nat} {op kd ad n vk vi:Int} {nm fd:List UInt8} {vf:Nat} {y:GX} (hf:xs_ vf) (hy:TX d y) (ho:op=15/\kd=1/\y.kd=1\/op=16/\kd=y.kd/\y.kd≠1\/op=17/\2<=kd/\kd<=5/\y.kd≠1):TX (d+1) (.mk op kd nm fd ad n vk vi vf [y]):=by
 have hk:=yK_ hy
 refine ⟨.inr (.inl ⟨by omega,rfl⟩),hf,by omega,by omega,⟨λh=>by omega,λh=>by omega,λh=>by omega,λh=>by omega,λh=>?_,λh=>?_,λh=>?_⟩,λa ha=>by cases List.mem_singleton.1 ha;exact hy⟩
 .exact ⟨by omega,by show [y.kd]=[1];congr 1;omega⟩
 .exact ⟨by show [y.kd]=[kd];congr 1;omega,by omega,by omega⟩
 .exact ⟨by omega,by omega,y.kd,rfl,by omega,by omega⟩
theorem TX2 {d:Nat} {op kd ad n vk vi:Int} {nm fd:List UInt8} {vf:Nat} {y z:GX} (hf:xs_ vf) (hy:TX d y) (hz:TX d z) (ho:4<=op/\op<=14) (hk:y.kd=z.kd) (h1:op<=8->kd=y.kd/\y.kd≠1) (h2:9<=op->kd=1) (h3:op=8->y.kd≠5) (h4:op=11\/op=12->y.kd≠1) (h5:13<=op->y.kd=1):TX (d+1) (.mk op kd nm fd ad n vk vi vf [y,z]):=by
 have hy1:=yK_ hy
 refine ⟨.inr (.inr ⟨ho,rfl⟩),hf,by omega,by omega,⟨λh=>by omega,λh=>by omega,λh=>by omega,λh=>?_,λh=>by omega,λh=>by omega,λh=>by omega⟩,λa ha=>by
  rcases List.mem_cons.1 ha with rfl|ha
  .exact hy
  .cases List.mem_singleton.1 ha;exact hz⟩
 exact ⟨y.kd,by show [y.kd,z.kd]=_;rw [←hk],hy1.1,hy1.2,h1,h2,h3,h4,h5⟩
theorem wS_:∀(d:Nat) (x:GX),WX d x->CF Tryz.prog 121 ft121 (VARS::j_ x) (RE d x)
 |0,_,h=>h.elim
 |d+1,.mk op kd nm fd ad n vk vi vf args,hx=>by
  obtain ⟨hA,hF,⟨n1,n2,n3,n4⟩,hW⟩:=hx
  have ih:=λ(z:GX) (hz:z∈args)=>wS_ d z (hW z hz)
  have hal:args.length<=2:=by unfold Ari at hA;omega
  refine vh_ (c:=A3_) (n:=300) (t:=Ai_) mo ov rfl (λY _=>vE_ _) (by kernel_rfl) λY hf hg=>?_
  unfold Ai_
  (refine b_ rfl rfl ?_ ?_<;>intro h<;>simp only [nc]at h<;>try (exfalso;omega))
  .subst h
   have hl:args=[]:=by unfold Ari at hA;exact List.length_eq_zero_iff.1 (by omega)
   subst hl
   refine pM_ (y:=.mk 1 vk nm fd ad n vk vi vf []) rfl (λ_=>⟨⟨hA,hF,?_,?_,?_,λa ha=>(List.not_mem_nil ha).elim⟩,rfl,λh=>by omega⟩)
   all_goals obtain ⟨m1,m2,m3,m4,m5,m6⟩:=n1 rfl
   .omega
   .omega
   .exact ⟨λ_=>⟨rfl,by omega,by omega,m2,m3,m4,m5,m6⟩,λh=>by omega,λh=>by omega,λh=>by omega,λh=>by omega,λh=>by omega,λh=>by omega⟩
  (refine b_ rfl rfl ?_ ?_<;>intro h<;>simp only [nc]at h<;>try (exfalso;omega))
  .subst h
   have hl:args=[]:=by unfold Ari at hA;exact List.length_eq_zero_iff.1 (by omega)
   subst hl
   refine a_ (BF_ 2 kd nm fd ad n vk vi vf [] (n2 rfl)) rfl (by show okL (VARS::j_ (.mk 2 kd nm fd ad n vk vi vf []))=true;rw [aY_];exact okX _) ⟨?_,trivial⟩
   rintro ws ⟨ad1,kd1,rfl,hc⟩
   have hc':(ad1,kd1)∈uQ_:=tie_cells _ hc
   refine pM_ (y:=.mk 2 kd1 nm fd ad1 n vk vi vf []) rfl (λ_=>⟨⟨hA,hF,?_,?_,⟨λh=>by omega,λ_=>hc',λh=>by omega,λh=>by omega,λh=>by omega,λh=>by omega,λh=>by omega⟩,λa ha=>(List.not_mem_nil ha).elim⟩,rfl,λ_=>hc⟩)
   .simp [uQ_]at hc';omega
   .simp [uQ_]at hc';omega
  (refine b_ rfl rfl ?_ ?_<;>intro h<;>simp only [nc]at h<;>try (exfalso;omega))
  .subst h
   cases n3 rfl
   refine uI_ wr_ rfl rfl (vx_ rfl rfl (ve_ rfl (λh=>by cases h) (λ_=>vx_ rfl rfl (ve_ rfl (λh=>by cases h) (λ_=>?_)))))
   refine uK_ (ι:=List GX×Nat) (λs=>[y_ s.1,.int .i64 (s.2:Int)]) (λs=>s.1.length=s.2/\s.2<=args.length/\∀a∈s.1,TX d a) (λs=>args.length-s.2) ([],0) ⟨rfl,Nat.zero_le _,λa ha=>(List.not_mem_nil ha).elim⟩ rfl (λs _=>by simp only [okL,okC,okA]) (λs s' _ _ h=>by simp at h;omega) (λs hs=>?_)
   obtain ⟨acc,i⟩:=s
   obtain ⟨h1,h2,h3⟩:=hs
   simp only at h1 h2 h3⊢
   refine vx_ (r_ args) rfl ?_
   (refine b_ rfl rfl ?_ ?_<;>intro h<;>simp only [nc]at h<;>try (exfalso;omega))
   .have hi:i<args.length:=by omega
    have hld:=v_ args hi
    have hz:=ih args[i] (List.getElem_mem hi)
    rcases hzz:args[i]with ⟨zo,zk,znm,zfd,zad,zn,zvk,zvi,zvf,za⟩
    rw [hzz]at hld hz
    refine vx_ (u_ args hi) (oL_ okX _) (vf_ hld rfl (okX _) ?_)
    refine a_ hz rfl (by show okL (VARS::j_ (.mk zo zk znm zfd zad zn zvk zvi zvf za))=true;rw [aY_];exact okX _) ⟨?_,trivial⟩
    rintro ws ⟨⟨yo,yk,ynm,yfd,yad,yn,yvk,yvi,yvf,ya⟩,e,rfl,hy⟩
    (refine b_ rfl rfl ?_ ?_<;>intro h<;>simp only [nc]at h<;>try (exfalso;omega))
    .exact pM_ (y:=.mk _ _ _ _ _ _ _ _ _ _) rfl (λhe=>absurd he h)
    .refine vx_ (A_ acc (.mk yo yk ynm yfd yad yn yvk yvi yvf ya) (by omega)) (okA _) (vx_ (h_ (by omega) (by omega)) rfl (uv_ rfl ⟨(acc++[_],i+1),⟨by simp;omega,hi,?_⟩,rfl,by simp only;omega⟩))
     intro a ha
     rcases List.mem_append.1 ha with ha|ha
     .exact h3 a ha
     .cases List.mem_singleton.1 ha;exact (hy h).1
   have hi:i=args.length:=by omega
   subst hi
   have ha1:acc.length=1:=by unfold Ari at hA;omega
   obtain ⟨y,rfl⟩:=List.length_eq_one_iff.1 ha1
   have hy:=h3 y (List.mem_singleton.2 rfl)
   obtain ⟨yo,yk,ynm,yfd,yad,yn,yvk,yvi,yvf,ya⟩:=y
   (refine b_ rfl rfl ?_ ?_<;>intro h<;>simp only [nc]at h<;>try (exfalso;omega))
   refine a_ (BG_ 3 kd [107] fd ad n vk vi vf args _ rfl) rfl (by show okL (VARS::(j_ (.mk 3 kd [107] fd ad n vk vi vf args)++[y_ _]))=true;rw [aY_];exact oL_.okL_join (okX _) (by simp only [okL,okA])) ⟨?_,trivial⟩
   rintro ws ⟨e,rfl,he⟩
   refine pM_ (y:=.mk 3 2 [107] fd 8 4 vk vi vf [.mk _ _ _ _ _ _ _ _ _ _]) rfl (λh=>⟨⟨.inr (.inl ⟨.inl rfl,rfl⟩),hF,by decide,by decide,⟨λh=>by omega,λh=>by omega,λ_=>⟨rfl,rfl,rfl,_,rfl,he h⟩,λh=>by omega,λh=>by omega,λh=>by omega,λh=>by omega⟩,λa ha=>by cases List.mem_singleton.1 ha;exact hy⟩,rfl,λh=>by omega⟩)
  .refine uK_ (ι:=List GX×Nat) (λs=>[y_ s.1,.int .i64 (s.2:Int)]) (λs=>s.1.length=s.2/\s.2<=args.length/\∀a∈s.1,TX d a) (λs=>args.length-s.2) ([],0) ⟨rfl,Nat.zero_le _,λa ha=>(List.not_mem_nil ha).elim⟩ rfl (λs _=>by simp only [okL,okC,okA]) (λs s' _ _ h=>by simp at h;omega) (λs hs=>?_)
   obtain ⟨acc,i⟩:=s
   obtain ⟨h1,h2,h3⟩:=hs
   simp only at h1 h2 h3⊢
   refine vx_ (r_ args) rfl ?_
   (refine b_ rfl rfl ?_ ?_<;>intro h<;>simp only [nc]at h<;>try (exfalso;omega))
   .have hi:i<args.length:=by omega
    have hld:=v_ args hi
    have hz:=ih args[i] (List.getElem_mem hi)
    rcases hzz:args[i]with ⟨zo,zk,znm,zfd,zad,zn,zvk,zvi,zvf,za⟩
    rw [hzz]at hld hz
    refine vx_ (u_ args hi) (oL_ okX _) (vf_ hld rfl (okX _) ?_)
    refine a_ hz rfl (by show okL (VARS::j_ (.mk zo zk znm zfd zad zn zvk zvi zvf za))=true;rw [aY_];exact okX _) ⟨?_,trivial⟩
    rintro ws ⟨⟨yo,yk,ynm,yfd,yad,yn,yvk,yvi,yvf,ya⟩,e,rfl,hy⟩
    (refine b_ rfl rfl ?_ ?_<;>intro h<;>simp only [nc]at h<;>try (exfalso;omega))
    .exact pM_ (y:=.mk _ _ _ _ _ _ _ _ _ _) rfl (λhe=>absurd he h)
    .refine vx_ (A_ acc (.mk yo yk ynm yfd yad yn yvk yvi yvf ya) (by omega)) (okA _) (vx_ (h_ (by omega) (by omega)) rfl (uv_ rfl ⟨(acc++[_],i+1),⟨by simp;omega,hi,?_⟩,rfl,by simp only;omega⟩))
     intro a ha
     rcases List.mem_append.1 ha with ha|ha
     .exact h3 a ha
     .cases List.mem_singleton.1 ha;exact (hy h).1
   have hi:i=args.length:=by omega
   subst hi
   by_cases hop:15<=op
   .have hop2:op=15\/op=16\/op=17:=by unfold Ari at hA;omega
    have ha1:acc.length=1:=by unfold Ari at hA;omega
    obtain ⟨y,rfl⟩:=List.length_eq_one_iff.1 ha1
    have hy:=h3 y (List.mem_singleton.2 rfl)
    obtain ⟨yo,yk,ynm,yfd,yad,yn,yvk,yvi,yvf,ya⟩:=y
    have n4':op=17->2<=kd/\kd<=5:=n4
    rcases hop2 with rfl|rfl|rfl
    ·(refine b_ rfl rfl ?_ ?_<;>intro h<;>simp only [nc]at h<;>try (exfalso;omega))
     refine vx_ (r:=.int .i64 0) rfl rfl (vx_ (r:=.int .i64 yk) rfl rfl ?_)
     repeat' (first
               |(refine b_ rfl rfl ?_ ?_<;>intro h<;>simp only [nc]at h<;>try (exfalso;omega))
               |refine uI_ (xP_ _) rfl rfl ?_
               |refine uI_ (xO_ _) rfl rfl ?_
               |refine vd_ (.inr ⟨_,_,_,_,rfl,rfl⟩) ?_
               |refine v6_ rfl (λh=>?_) (λh=>?_)
               |refine vx_ (run_eql ..) rfl ?_
               |refine vx_ (run_neq ..) rfl ?_)
     all_goals (first
                 |exact pM_ (y:=.mk _ _ _ _ _ _ _ _ _ _) rfl (λhe=>absurd he (by decide))
                 |(refine pM_ (y:=.mk _ _ _ _ _ _ _ _ _ [.mk _ _ _ _ _ _ _ _ _ _]) rfl (λhe=>?_)
                   have he2:=x8_ he
                   simp only [decide_eq_true_eq,Bool.not_eq_true',decide_eq_false_iff_not]at he2
                   refine ⟨TX1 hF hy ?_,rfl,λh=>by omega⟩
                   dsimp only [GX.kd]
                   omega)
                 |(refine pM_ (y:=.mk _ _ _ _ _ _ _ _ _ [.mk _ _ _ _ _ _ _ _ _ _]) rfl (λhe=>?_)
                   refine ⟨TX1 hF hy ?_,rfl,λh=>by omega⟩
                   dsimp only [GX.kd]
                   omega))
    ·(refine b_ rfl rfl ?_ ?_<;>intro h<;>simp only [nc]at h<;>try (exfalso;omega))
     refine vx_ (r:=.int .i64 0) rfl rfl (vx_ (r:=.int .i64 yk) rfl rfl ?_)
     repeat' (first
               |(refine b_ rfl rfl ?_ ?_<;>intro h<;>simp only [nc]at h<;>try (exfalso;omega))
               |refine uI_ (xP_ _) rfl rfl ?_
               |refine uI_ (xO_ _) rfl rfl ?_
               |refine vd_ (.inr ⟨_,_,_,_,rfl,rfl⟩) ?_
               |refine v6_ rfl (λh=>?_) (λh=>?_)
               |refine vx_ (run_eql ..) rfl ?_
               |refine vx_ (run_neq ..) rfl ?_)
     all_goals (first
                 |exact pM_ (y:=.mk _ _ _ _ _ _ _ _ _ _) rfl (λhe=>absurd he (by decide))
                 |(refine pM_ (y:=.mk _ _ _ _ _ _ _ _ _ [.mk _ _ _ _ _ _ _ _ _ _]) rfl (λhe=>?_)
                   have he2:=x8_ he
                   simp only [decide_eq_true_eq,Bool.not_eq_true',decide_eq_false_iff_not]at he2
                   refine ⟨TX1 hF hy ?_,rfl,λh=>by omega⟩
                   dsimp only [GX.kd]
                   omega)
                 |(refine pM_ (y:=.mk _ _ _ _ _ _ _ _ _ [.mk _ _ _ _ _ _ _ _ _ _]) rfl (λhe=>?_)
                   refine ⟨TX1 hF hy ?_,rfl,λh=>by omega⟩
                   dsimp only [GX.kd]
                   omega))
    ·(refine b_ rfl rfl ?_ ?_<;>intro h<;>simp only [nc]at h<;>try (exfalso;omega))
     have n5:=n4 rfl
     refine vx_ (r:=.int .i64 0) rfl rfl (vx_ (r:=.int .i64 yk) rfl rfl ?_)
     repeat' (first
               |(refine b_ rfl rfl ?_ ?_<;>intro h<;>simp only [nc]at h<;>try (exfalso;omega))
               |refine uI_ (xP_ _) rfl rfl ?_
               |refine uI_ (xO_ _) rfl rfl ?_
               |refine vd_ (.inr ⟨_,_,_,_,rfl,rfl⟩) ?_
               |refine v6_ rfl (λh=>?_) (λh=>?_)
               |refine vx_ (run_eql ..) rfl ?_
               |refine vx_ (run_neq ..) rfl ?_)
     all_goals (first
                 |exact pM_ (y:=.mk _ _ _ _ _ _ _ _ _ _) rfl (λhe=>absurd he (by decide))
                 |(refine pM_ (y:=.mk _ _ _ _ _ _ _ _ _ [.mk _ _ _ _ _ _ _ _ _ _]) rfl (λhe=>?_)
                   have he2:=x8_ he
                   simp only [decide_eq_true_eq,Bool.not_eq_true',decide_eq_false_iff_not]at he2
                   refine ⟨TX1 hF hy ?_,rfl,λh=>by omega⟩
                   dsimp only [GX.kd]
                   omega)
                 |(refine pM_ (y:=.mk _ _ _ _ _ _ _ _ _ [.mk _ _ _ _ _ _ _ _ _ _]) rfl (λhe=>?_)
                   refine ⟨TX1 hF hy ?_,rfl,λh=>by omega⟩
                   dsimp only [GX.kd]
                   omega))
   .have hop2:4<=op/\op<=14:=by unfold Ari at hA;omega
    have ha1:acc.length=2:=by unfold Ari at hA;omega
    obtain ⟨y,z,rfl⟩:∃y z,acc=[y,z]:=by
     rcases acc with _|⟨y,_|⟨z,_|⟨w,t⟩⟩⟩<;>simp at ha1
     exact ⟨y,z,rfl⟩
    have hy:=h3 y (List.mem_cons_self ..)
    have hz:=h3 z (List.mem_cons_of_mem _ (List.mem_singleton.2 rfl))
    obtain ⟨yo,yk,ynm,yfd,yad,yn,yvk,yvi,yvf,ya⟩:=y
    obtain ⟨zo,zk,znm,zfd,zad,zn,zvk,zvi,zvf,za⟩:=z
    (refine b_ rfl rfl ?_ ?_<;>intro h<;>simp only [nc]at h<;>try (exfalso;omega))
    refine vx_ (r:=.int .i64 0) rfl rfl (vx_ (r:=.int .i64 yk) rfl rfl ?_)
    (refine b_ rfl rfl ?_ ?_<;>intro h<;>simp only [nc]at h<;>try (exfalso;omega));(refine b_ rfl rfl ?_ ?_<;>intro h<;>simp only [nc]at h<;>try (exfalso;omega));(refine b_ rfl rfl ?_ ?_<;>intro h<;>simp only [nc]at h<;>try (exfalso;omega));(refine b_ rfl rfl ?_ ?_<;>intro h<;>simp only [nc]at h<;>try (exfalso;omega))
    (refine b_ rfl rfl ?_ ?_<;>intro h<;>simp only [nc]at h<;>try (exfalso;omega))
    .refine vx_ (r:=.int .i64 0) rfl rfl (vf_ (cs:=j_ (.mk yo yk ynm yfd yad yn yvk yvi yvf ya)) rfl rfl (okX _) (vx_ (r:=.int .i64 1) rfl rfl (vx_ (r:=.int .i64 zk) rfl rfl ?_)))
     obtain ⟨⟨yo1,yk1,ynm1,yfd1,yad1,yn1,yvk1,yvi1,yvf1,ya1⟩,hp1,hy1⟩:=xm_ _ zk hy
     refine uI_ hp1 rfl (xl_ _) ?_
     refine vx_ (r:=.int .i64 1) rfl rfl (vf_ (cs:=j_ (.mk zo zk znm zfd zad zn zvk zvi zvf za)) rfl rfl (okX _) (vx_ (r:=.int .i64 0) rfl rfl (vx_ (r:=.int .i64 yk) rfl rfl ?_)))
     obtain ⟨⟨zo1,zk1,znm1,zfd1,zad1,zn1,zvk1,zvi1,zvf1,za1⟩,hp2,hz1⟩:=xm_ _ yk hz
     refine uI_ hp2 rfl (xl_ _) ?_
     clear hy hz
     have hy:=hy1
     have hz:=hz1
     refine vx_ (r:=.int .i64 0) rfl rfl (vx_ (r:=y_ [.mk yo1 yk1 ynm1 yfd1 yad1 yn1 yvk1 yvi1 yvf1 ya1,.mk zo zk znm zfd zad zn zvk zvi zvf za]) (wg_ [(.mk yo yk ynm yfd yad yn yvk yvi yvf ya),(.mk zo zk znm zfd zad zn zvk zvi zvf za)] (i:=0) (by simp) (.mk yo1 yk1 ynm1 yfd1 yad1 yn1 yvk1 yvi1 yvf1 ya1) .i64) (okA _) (vx_ (r:=.int .i64 1) rfl rfl (vx_ (r:=y_ [.mk yo1 yk1 ynm1 yfd1 yad1 yn1 yvk1 yvi1 yvf1 ya1,.mk zo1 zk1 znm1 zfd1 zad1 zn1 zvk1 zvi1 zvf1 za1]) (wg_ [(.mk yo1 yk1 ynm1 yfd1 yad1 yn1 yvk1 yvi1 yvf1 ya1),(.mk zo zk znm zfd zad zn zvk zvi zvf za)] (i:=1) (by simp) (.mk zo1 zk1 znm1 zfd1 zad1 zn1 zvk1 zvi1 zvf1 za1) .i64) (okA _) ?_)))
     refine vx_ (r:=.int .i64 0) rfl rfl (vx_ (r:=.int .i64 yk1) rfl rfl (vx_ (r:=.int .i64 1) rfl rfl (vx_ (r:=.int .i64 zk1) rfl rfl ?_)))
     repeat' (first
               |(refine b_ rfl rfl ?_ ?_<;>intro h<;>simp only [nc]at h<;>try (exfalso;omega))
               |refine uI_ (xP_ _) rfl rfl ?_
               |refine uI_ (xO_ _) rfl rfl ?_
               |refine vd_ (.inr ⟨_,_,_,_,rfl,rfl⟩) ?_
               |refine v6_ rfl (λh=>?_) (λh=>?_)
               |refine vx_ (run_eql ..) rfl ?_
               |refine vx_ (run_neq ..) rfl ?_)
     all_goals (
                refine pM_ (y:=.mk _ _ _ _ _ _ _ _ _ [.mk _ _ _ _ _ _ _ _ _ _,.mk _ _ _ _ _ _ _ _ _ _]) rfl (λhe=>?_)
                have he2:=x8_ he
                first
                 |(exact absurd he2 (by decide))
                 |(simp only [decide_eq_true_eq,Bool.not_eq_true',decide_eq_false_iff_not]at he2
                   exact ⟨TX2 hF hy hz (by omega) (by dsimp only [GX.kd];omega) (by dsimp only [GX.kd];omega) (by omega) (by dsimp only [GX.kd];omega) (by dsimp only [GX.kd];omega) (by dsimp only [GX.kd];omega),rfl,λh=>by omega⟩))
    .refine vx_ (r:=.int .i64 1) rfl rfl (vx_ (r:=.int .i64 zk) rfl rfl ?_)
     repeat' (first
               |(refine b_ rfl rfl ?_ ?_<;>intro h<;>simp only [nc]at h<;>try (exfalso;omega))
               |refine uI_ (xP_ _) rfl rfl ?_
               |refine uI_ (xO_ _) rfl rfl ?_
               |refine vd_ (.inr ⟨_,_,_,_,rfl,rfl⟩) ?_
               |refine v6_ rfl (λh=>?_) (λh=>?_)
               |refine vx_ (run_eql ..) rfl ?_
               |refine vx_ (run_neq ..) rfl ?_)
     all_goals (
                refine pM_ (y:=.mk _ _ _ _ _ _ _ _ _ [.mk _ _ _ _ _ _ _ _ _ _,.mk _ _ _ _ _ _ _ _ _ _]) rfl (λhe=>?_)
                have he2:=x8_ he
                first
                 |(exact absurd he2 (by decide))
                 |(simp only [decide_eq_true_eq,Bool.not_eq_true',decide_eq_false_iff_not]at he2
                   exact ⟨TX2 hF hy hz (by omega) (by dsimp only [GX.kd];omega) (by dsimp only [GX.kd];omega) (by omega) (by dsimp only [GX.kd];omega) (by dsimp only [GX.kd];omega) (by dsimp only [GX.kd];omega),rfl,λh=>by omega⟩))
end Go.Proofs.YtjconanknjgpnaaGreat.vars
set_option linter.unusedVariables false
set_option linter.unusedSimpArgs false
namespace Go.Proofs.YtjconanknjgpnaaGreat.vars
open Go Go.Sx
structure FV where
 k:Int
 i:Int
 f:Option Nat
def FV.z:FV:=⟨0,0,some 0⟩
def g_ (v:FV):List AV:=[.int .i64 v.k,.int .i64 v.i,fv v.f]
theorem v7_ (v:FV):(g_ v).length=3:=rfl
theorem okV (v:FV):okL (g_ v)=true:=by
 simp only [g_,okL,okC,vO_]
def InK (k i:Int):Prop:=(k=1/\0<=i/\i<=1)\/(k=2/\ -32768<=i/\i<=32767)\/(k=3/\ -2147483648<=i/\i<=2147483647)\/(k=4/\ -9223372036854775808<=i/\i<=9223372036854775807)\/(k=5/\i=0)
def TV (v:FV):Prop:=InK v.k v.i/\(v.k≠5->v.f=some 0)
theorem InK.kd {k i:Int} (h:InK k i):1<=k/\k<=5:=by
 rcases h with h|h|h|h|h<;>omega
theorem InK.i64 {k i:Int} (h:InK k i): -9223372036854775808<=i/\i<=9223372036854775807:=by
 rcases h with h|h|h|h|h<;>omega
def w_ (k i:Int):Int:=if k=1 then (if i=0 then 0 else 1)else if k=2 then IntKind.i16.wrap i else if k=3 then IntKind.i32.wrap i else if k=4 then i else 0
theorem wj_ (i:Int): -32768<=IntKind.i16.wrap i/\IntKind.i16.wrap i<=32767:=by
 simp [IntKind.wrap,IntKind.bits,IntKind.signed];omega
theorem wk_ (i:Int): -2147483648<=IntKind.i32.wrap i/\IntKind.i32.wrap i<=2147483647:=by
 simp [IntKind.wrap,IntKind.bits,IntKind.signed];omega
theorem wl_ (i:Int): -9223372036854775808<=IntKind.i64.wrap i/\IntKind.i64.wrap i<=9223372036854775807:=by
 simp [IntKind.wrap,IntKind.bits,IntKind.signed];omega
theorem xq_ {i:Int} (h1: -32768<=i) (h2:i<=32767):IntKind.i16.wrap i=i:=by
 simp [IntKind.wrap,IntKind.bits,IntKind.signed];omega
theorem xr_ {i:Int} (h1: -2147483648<=i) (h2:i<=2147483647):IntKind.i32.wrap i=i:=by
 simp [IntKind.wrap,IntKind.bits,IntKind.signed];omega
theorem v2_ {k i:Int} (h1:1<=k) (h2:k<=4) (h3: -9223372036854775808<=i) (h4:i<=9223372036854775807):InK k (w_ k i):=by
 have a:=wj_ i
 have b:=wk_ i
 unfold InK w_
 rcases (by omega:k=1\/k=2\/k=3\/k=4)with rfl|rfl|rfl|rfl
 .simp only [if_true]
  split
  .exact .inl ⟨trivial,by decide,by decide⟩
  .exact .inl ⟨trivial,by decide,by decide⟩
 .exact .inr (.inl ⟨rfl,a⟩)
 .exact .inr (.inr (.inl ⟨rfl,b⟩))
 .exact .inr (.inr (.inr (.inl ⟨rfl,h3,h4⟩)))
theorem yb_ {k i:Int} (h:InK k i) (hk:k≠5):w_ k i=i:=by
 unfold w_
 rcases h with ⟨rfl,h,h'⟩|⟨rfl,h,h'⟩|⟨rfl,h,h'⟩|⟨rfl,h,h'⟩|⟨rfl,h⟩
 .simp only [if_true]
  split<;>omega
 .simp [xq_ h h']
 .simp [xr_ h h']
 .simp
 .exact absurd rfl hk
def tI (b:Bool):Int:=if b=true then 1 else 0
def w64 (i:Int):Int:=IntKind.i64.wrap i
def v5_ (op k a b:Int):Int:=
 if op=4 then w_ k (w64 (a+b))else if op=5 then w_ k (w64 (a-b))else if op=6 then w_ k (w64 (a*b))else if op=7 then w_ k (w64 (a.tdiv b))else if op=8 then w_ k (a.tmod b)
 else if op=9 then tI (decide (a=b))else if op=10 then tI (decide (¬a=b))else if op=11 then tI (decide (a<b))else if op=12 then tI (decide (a<=b))
 else if op=13 then tI (decide (¬a=0)&&decide (¬b=0))else if op=14 then tI (decide (¬a=0)||decide (¬b=0))else if op=15 then tI (decide (a=0))else w_ k (w64 (0-a))
def s0_ (op b:Int):Int:=if (op=7\/op=8)/\b=0 then 5 else 0
def OpK (op k:Int):Prop:=4<=op/\op<=16/\1<=k/\k<=5/\(op<=8\/op=16\/op=11\/op=12->k≠1)/\(op=8->k≠5)/\(13<=op/\op<=15->k=1)
theorem uE_ (b:Bool):InK 1 (tI b):=by
 cases b
 .exact .inl ⟨rfl,by decide,by decide⟩
 .exact .inl ⟨rfl,by decide,by decide⟩
theorem yG_ {k a b:Int} (h:InK k a) (hk:k≠5) (hk1:k≠1):InK k (a.tmod b):=by
 have h1:(a.tmod b).natAbs<=a.natAbs:=by
  rw [Int.natAbs_tmod]
  exact Nat.mod_le _ _
 have h2:0<=a->0<=a.tmod b:=λh=>Int.tmod_nonneg _ h
 have h3:¬(a<0/\0<a.tmod b):=λ⟨p,q⟩=>by
  have:=Int.tmod_nonneg (a:= -a) b (by omega)
  rw [Int.neg_tmod]at this
  omega
 rcases h with h|h|h|h|h
 .omega
 .exact .inr (.inl (by omega))
 .exact .inr (.inr (.inl (by omega)))
 .exact .inr (.inr (.inr (.inl (by omega))))
 .omega
theorem ym_ {op k a b:Int} (h:OpK op k) (hk:k≠5) (ha:InK k a):InK (if 9<=op/\op<=12 then 1 else k) (v5_ op k a b):=by
 obtain ⟨h1,h2,h3,h4,h5,h6,h7⟩:=h
 have hw:∀i,InK k (w_ k (w64 i)):=λi=>v2_ h3 (by omega) (wl_ i).1 (wl_ i).2
 unfold v5_
 by_cases c4:op=4
 .subst c4;simp only [if_true,if_false,show ¬((9:Int)<=4/\(4:Int)<=12) by omega];exact hw _
 rw [if_neg c4]
 by_cases c5:op=5
 .subst c5;simp only [if_true,if_false,show ¬((9:Int)<=5/\(5:Int)<=12) by omega];exact hw _
 rw [if_neg c5]
 by_cases c6:op=6
 .subst c6;simp only [if_true,if_false,show ¬((9:Int)<=6/\(6:Int)<=12) by omega];exact hw _
 rw [if_neg c6]
 by_cases c7:op=7
 .subst c7;simp only [if_true,if_false,show ¬((9:Int)<=7/\(7:Int)<=12) by omega];exact hw _
 rw [if_neg c7]
 by_cases c8:op=8
 .subst c8
  simp only [if_true,if_false,show ¬((9:Int)<=8/\(8:Int)<=12) by omega]
  have:=yG_ (b:=b) ha hk (h5 (by omega))
  rw [yb_ this hk]
  exact this
 rw [if_neg c8]
 by_cases c9:op=9
 .subst c9;simp only [if_true,show ((9:Int)<=9/\(9:Int)<=12) by omega];exact uE_ _
 rw [if_neg c9]
 by_cases c10:op=10
 .subst c10;simp only [if_true,show ((9:Int)<=10/\(10:Int)<=12) by omega];exact uE_ _
 rw [if_neg c10]
 by_cases c11:op=11
 .subst c11;simp only [if_true,show ((9:Int)<=11/\(11:Int)<=12) by omega];exact uE_ _
 rw [if_neg c11]
 by_cases c12:op=12
 .subst c12;simp only [if_true,show ((9:Int)<=12/\(12:Int)<=12) by omega];exact uE_ _
 rw [if_neg c12,if_neg (show ¬(9<=op/\op<=12) by omega)]
 by_cases c13:op=13
 .rw [if_pos c13,h7 (by omega)];exact uE_ _
 rw [if_neg c13]
 by_cases c14:op=14
 .rw [if_pos c14,h7 (by omega)];exact uE_ _
 rw [if_neg c14]
 by_cases c15:op=15
 .rw [if_pos c15,h7 (by omega)];exact uE_ _
 rw [if_neg c15]
 exact hw _
def z1_ (op:Int) (o:Option Ordering):Bool:=if op=9 then o==some .eq else if op=10 then o !=some .eq else if op=11 then o==some .lt else o==some .lt||o==some .eq
def we_ (op:Int) (a b:Option Nat):FV:=
 if op=4 then ⟨5,0,gM_ FloatKind.f64.format.add a b⟩else if op=5 then ⟨5,0,gM_ FloatKind.f64.format.sub a b⟩else if op=6 then ⟨5,0,gM_ FloatKind.f64.format.mul a b⟩else if op=7 then ⟨5,0,gM_ FloatKind.f64.format.div a b⟩
 else if op=16 then ⟨5,0,a.map (Op.negFloat .f64)⟩else ⟨1,tI (z1_ op (ordF a b)),some 0⟩
def opV (op k:Int) (a b:FV):FV:=if k=5 then we_ op a.f b.f else ⟨if 9<=op/\op<=12 then 1 else k,v5_ op k a.i b.i,some 0⟩
def opE (op k:Int) (b:FV):Int:=if k=5 then 0 else s0_ op b.i
theorem xQ_ (op:Int) (a b:Option Nat):TV (we_ op a b):=by
 have r:∀f,TV ⟨5,0,f⟩:=λf=>⟨.inr (.inr (.inr (.inr ⟨rfl,rfl⟩))),λh=>absurd rfl h⟩
 unfold we_
 split;· exact r _
 split;· exact r _
 split;· exact r _
 split;· exact r _
 split;· exact r _
 exact ⟨uE_ _,λ_=>rfl⟩
theorem zk_ {op k:Int} {a b:FV} (h:OpK op k) (ha:TV a) (hk:a.k=k):TV (opV op k a b):=by
 unfold opV
 split
 .exact xQ_ ..
 .rename_i h5
  exact ⟨ym_ h h5 (hk▸ha.1),λ_=>rfl⟩
theorem z0_ {op k:Int} {a b:FV} (h:OpK op k):(opV op k a b).k=if (9<=op/\op<=12)then 1 else k:=by
 obtain ⟨h1,h2,h3,h4,h5,h6,h7⟩:=h
 unfold opV
 split
 .rename_i e
  unfold we_
  split;· rw [if_neg (by omega),e]
  split;· rw [if_neg (by omega),e]
  split;· rw [if_neg (by omega),e]
  split;· rw [if_neg (by omega),e]
  split;· rw [if_neg (by omega),e]
  rw [if_pos (by omega)]
 .rfl
def hiK (k:Int):Nat:=if k=2 then 4674736413210574848 else if k=3 then 4746794007248502784 else 4890909195324358656
def loK (k:Int):Nat:=if k=2 then 13898108450065350656 else if k=3 then 13970166044103278592 else 14114281232179134464
def z_ (k:Int) (f:Option Nat):Option Int:=
 if n7_ f=true then none else if ordF (uj_ f) (some (loK k))=some .lt then none else if ordF (uj_ f) (some (hiK k))=some .lt then sj_ (uj_ f)else none
theorem wi_ {k:Int} {f:Option Nat} {n:Int} (hk:2<=k/\k<=4) (h:z_ k f=some n):InK k n:=by
 unfold z_ at h
 split at h;· cases h
 split at h;· cases h
 rename_i h1
 split at h
 .rename_i h2
  rcases (by omega:k=2\/k=3\/k=4)with rfl|rfl|rfl
  .obtain ⟨m,e,a,b⟩:=tl_ (k:=15) (j:= -37) rfl (by kernel_rfl) (by kernel_rfl) h1 h2
   rw [h]at e;cases e
   exact .inr (.inl ⟨rfl,by omega,by omega⟩)
  .obtain ⟨m,e,a,b⟩:=tl_ (k:=31) (j:= -21) rfl (by kernel_rfl) (by kernel_rfl) h1 h2
   rw [h]at e;cases e
   exact .inr (.inr (.inl ⟨rfl,by omega,by omega⟩))
  .obtain ⟨m,e,a,b⟩:=tl_ (k:=63) (j:=11) rfl (by kernel_rfl) (by kernel_rfl) h1 h2
   rw [h]at e;cases e
   exact .inr (.inr (.inr (.inl ⟨rfl,by omega,by omega⟩)))
 .cases h
def es_ (kd:Int) (v:FV):Except Int FV:=
 if kd=5 then (if v.k=5 then .ok v else .ok ⟨5,0,some (FloatKind.f64.nearest v.i)⟩)
 else if v.k=5 then (match z_ kd v.f with|some n=>.ok ⟨kd,n,some 0⟩|none=>.error 7)
 else .ok ⟨kd,w_ kd v.i,some 0⟩
theorem xu_ {kd:Int} {v w:FV} (hk:2<=kd/\kd<=5) (hv:TV v) (h:es_ kd v=.ok w):TV w/\w.k=kd:=by
 unfold es_ at h
 split at h
 .rename_i e
  split at h
  .rename_i e'
   cases h
   exact ⟨hv,by omega⟩
  .cases h
   exact ⟨⟨.inr (.inr (.inr (.inr ⟨rfl,rfl⟩))),λh=>absurd rfl h⟩,e.symm⟩
 .split at h
  .split at h
   .rename_i n hn
    cases h
    exact ⟨⟨wi_ (k:=kd) (by omega) hn,λ_=>rfl⟩,rfl⟩
   .cases h
  .cases h
   have:=hv.1.i64
   exact ⟨⟨v2_ (k:=kd) (by omega) (by omega) this.1 this.2,λ_=>rfl⟩,rfl⟩
end Go.Proofs.YtjconanknjgpnaaGreat.vars
set_option maxRecDepth 100000
set_option linter.unusedVariables false
set_option linter.unusedSimpArgs false
namespace Go.Proofs.YtjconanknjgpnaaGreat.vars
open Go Go.Sx
def Bd_:VC:=⟨⟨[],[]⟩,[],[],0,true,[]⟩
def As_:VT:=
 (.ite 64
 (.done (J 1))
 (.done (J 0)))
def Be_:VC:=⟨⟨[],[]⟩,[],[],0,true,[]⟩
def At_:VT:=
 (.lt Q0 [64,J 9] 67 none
 (.ite 67
 (.lt Ql [65,66] 68 none
 (.done (.tup [.bool true,68])))
 (.lt Q0 [64,J 10] 68 none
 (.ite 68
 (.lt Zy [65,66] 69 none
 (.done (.tup [.bool true,69])))
 (.lt Q0 [64,J 11] 69 none
 (.ite 69
 (.lt U5 [65,66] 70 none
 (.done (.tup [.bool true,70])))
 (.lt Q0 [64,J 12] 70 none
 (.ite 70
 (.lt Zp [65,66] 71 none
 (.done (.tup [.bool true,71])))
 (.done (.tup [.bool false,.bool false]))))))))))
def Bg_:VC:=⟨⟨[],[]⟩,[(160,[none])],[],0,true,[]⟩
def Av_:VT:=
 (.lt Q0 [64,J 13] 67 none
 (.ite 67
 (.lt Q8 [65,J 0] 68 none
 (.ite 68
 (.lt Q8 [66,J 0] 69 none
 (.call 160 [69] 70 [none]
 (.done (70))))
 (.call 160 [.bool false] 69 [none]
 (.done (69)))))
 (.lt Q0 [64,J 14] 68 none
 (.ite 68
 (.lt Q8 [65,J 0] 69 none
 (.ite 69
 (.call 160 [.bool true] 70 [none]
 (.done (70)))
 (.lt Q8 [66,J 0] 70 none
 (.call 160 [70] 71 [none]
 (.done (71))))))
 (.lt Q0 [64,J 15] 69 none
 (.ite 69
 (.lt Qt [65,J 0] 70 none
 (.call 160 [70] 71 [none]
 (.done (71))))
 (.done (J 0))))))))
def A5_:VC:=⟨⟨[],[]⟩,[(160,[none])],[],0,true,[]⟩
def Ak_:VT:=
 (.lt Q0 [64,J 1] 66 none
 (.ite 66
 (.lt Q8 [65,J 0] 67 none
 (.call 160 [67] 68 [none]
 (.done (68))))
 (.lt Q0 [64,J 2] 67 none
 (.ite 67
 (.lt (.conv 2 206) [65] 68 none
 (.lt (.conv 206 2) [68] 69 none
 (.done (69))))
 (.lt Q0 [64,J 3] 68 none
 (.ite 68
 (.lt (.conv 2 21) [65] 69 none
 (.lt (.conv 21 2) [69] 70 none
 (.done (70))))
 (.lt Q0 [64,J 4] 69 none
 (.ite 69
 (.done (65))
 (.done (J 0))))))))))
def Bf_:VC:=⟨⟨[],[]⟩,[],[],0,true,[]⟩
def Au_:VT:=
 (.done (.tup [J 0,64]))
def Bk_:VC:=⟨⟨[],[]⟩,[],[],0,true,[(163,ft163)]⟩
def Az_:VT:=
 (.lt Qt [66,J 0] 67 none
 (.ite 67
 (.callF 163 ft163 [J 5] 68
 (.cons 1
 (.done (.tup [J 1,69]))
 .nil))
 (.lt Q0 [64,J 8] 68 none
 (.ite 68
 (.lt Zh [65,66] 69 none
 (.done (.tup [J 0,69])))
 (.lt Zz [65,66] 69 none
 (.done (.tup [J 0,69])))))))
def Bh_:VC:=⟨⟨[],[]⟩,[],[],0,true,[(163,ft163),(179,w1_)]⟩
def Aw_:VT:=
 (.lt Q0 [64,J 4] 67 none
 (.ite 67
 (.lt Zq [65,66] 68 none
 (.done (.tup [J 0,68])))
 (.lt Q0 [64,J 5] 68 none
 (.ite 68
 (.lt Zb [65,66] 69 none
 (.done (.tup [J 0,69])))
 (.lt Q0 [64,J 6] 69 none
 (.ite 69
 (.lt U6 [65,66] 70 none
 (.done (.tup [J 0,70])))
 (.lt Q0 [64,J 16] 70 none
 (.ite 70
 (.lt Z7 [65] 71 none
 (.done (.tup [J 0,71])))
 (.lt Q0 [64,J 7] 71 none
 (.ite 71
 (.callF 179 w1_ [64,65,66] 72
 (.cons 1
 (.done (.tup [J 0,75]))
 (.cons 1
 (.done (.tup [J 1,75]))
 .nil)))
 (.lt Q0 [64,J 8] 72 none
 (.ite 72
 (.callF 179 w1_ [64,65,66] 73
 (.cons 1
 (.done (.tup [J 0,76]))
 (.cons 1
 (.done (.tup [J 1,76]))
 .nil)))
 (.callF 163 ft163 [J 4] 73
 (.cons 1
 (.done (.tup [J 1,74]))
 .nil))))))))))))))
def y2_:VC:=⟨⟨[],[]⟩,[(162,[none,none]),(164,[none]),(160,[none]),(123,[none])],[],0,true,[(163,ft163),(165,ft165)]⟩
def xY_:VT:=
 (.call 162 [64,65,66] 67 [none,none]
 (.lt Q0 [64,J 13] 69 none
 (.ite 69
 (.call 164 [64,65,66] 70 [none]
 (.done (.tup [70,J 0])))
 (.lt Q0 [64,J 14] 70 none
 (.ite 70
 (.call 164 [64,65,66] 71 [none]
 (.done (.tup [71,J 0])))
 (.lt Q0 [64,J 15] 71 none
 (.ite 71
 (.call 164 [64,65,66] 72 [none]
 (.done (.tup [72,J 0])))
 (.lt Q6 [64,J 9] 72 none
 (.ite 72
 (.lt Q6 [64,J 10] 73 none
 (.ite 73
 (.callF 163 ft163 [J 4] 74
 (.cons 1
 (.done (.tup [J 0,75]))
 .nil))
 (.ite 67
 (.call 160 [68] 74 [none]
 (.done (.tup [74,J 0])))
 (.callF 165 ft165 [64,65,66] 74
 (.cons 1
 (.call 123 [J 1,77] 78 [none]
 (.done (.tup [78,J 0])))
 (.cons 1
 (.done (.tup [J 0,77]))
 .nil))))))
 (.ite 67
 (.call 160 [68] 73 [none]
 (.done (.tup [73,J 0])))
 (.callF 165 ft165 [64,65,66] 73
 (.cons 1
 (.call 123 [J 1,76] 77 [none]
 (.done (.tup [77,J 0])))
 (.cons 1
 (.done (.tup [J 0,76]))
 .nil)))))))))))))
def y3_:VC:=⟨⟨[],[]⟩,[(162,[none,none]),(164,[none]),(160,[none]),(123,[none])],[],0,true,[(163,ft163),(165,ft165)]⟩
def xZ_:VT:=
 (.call 162 [64,65,66] 67 [none,none]
 (.ite 67
 (.call 160 [68] 69 [none]
 (.done (.tup [69,J 0])))
 (.callF 165 ft165 [64,65,66] 69
 (.cons 1
 (.call 123 [J 2,72] 73 [none]
 (.done (.tup [73,J 0])))
 (.cons 1
 (.done (.tup [J 0,72]))
 .nil)))))
def y4_:VC:=⟨⟨[],[]⟩,[(162,[none,none]),(164,[none]),(160,[none]),(123,[none])],[],0,true,[(163,ft163),(165,ft165)]⟩
def x0_:VT:=
 (.call 162 [64,65,66] 67 [none,none]
 (.ite 67
 (.call 160 [68] 69 [none]
 (.done (.tup [69,J 0])))
 (.callF 165 ft165 [64,65,66] 69
 (.cons 1
 (.call 123 [J 3,72] 73 [none]
 (.done (.tup [73,J 0])))
 (.cons 1
 (.done (.tup [J 0,72]))
 .nil)))))
def y5_:VC:=⟨⟨[],[]⟩,[(162,[none,none]),(164,[none]),(160,[none]),(123,[none])],[],0,true,[(163,ft163),(165,ft165)]⟩
def x1_:VT:=
 (.call 162 [64,65,66] 67 [none,none]
 (.ite 67
 (.call 160 [68] 69 [none]
 (.done (.tup [69,J 0])))
 (.callF 165 ft165 [64,65,66] 69
 (.cons 1
 (.call 123 [J 4,72] 73 [none]
 (.done (.tup [73,J 0])))
 (.cons 1
 (.done (.tup [J 0,72]))
 .nil)))))
theorem vT_ (b:Bool):jA_ Tryz.prog 160 [.bool b] (.int .i64 (tI b)):=by
 refine t8_ (sh:=[none]) (ls:=[.bool b]) (c:=Bd_) (n:=300) (t:=As_) mo ov rfl rfl rfl (λY _=>vE_ _) rfl (by kernel_rfl) λY hf hg=>?_
 unfold As_
 cases b
 .exact ve_ (t:=false) rfl (λh=>by cases h) (λh=>uJ_ rfl)
 .exact ve_ (t:=true) rfl (λh=>uJ_ rfl) (λh=>by cases h)
def xf_ (op a b:Int):Bool:=if op=9 then decide (a=b)else if op=10 then decide (¬a=b)else if op=11 then decide (a<b)else if op=12 then decide (a<=b)else false
theorem yx_ (op a b:Int):jA_ Tryz.prog 162 [.int .i64 op,.int .i64 a,.int .i64 b] (.tup [.bool (decide (9<=op/\op<=12)),.bool (xf_ op a b)]):=by
 refine t8_ (sh:=[none,none,none]) (ls:=[.int .i64 op,.int .i64 a,.int .i64 b]) (c:=Be_) (n:=300) (t:=At_) mo ov rfl rfl rfl (λY _=>vE_ _) rfl (by kernel_rfl) λY hf hg=>?_
 unfold At_
 (refine b_ rfl rfl ?_ ?_<;>intro h<;>simp only [nc]at h<;>try (exfalso;omega))
 .subst h;exact vx_ (run_eql ..) rfl (uJ_ (by rfl))
 (refine b_ rfl rfl ?_ ?_<;>intro h<;>simp only [nc]at h<;>try (exfalso;omega))
 .subst h;exact vx_ (run_neq ..) rfl (uJ_ (by rw [show xf_ 10 a b=decide (¬a=b) from rfl];simp;rfl))
 (refine b_ rfl rfl ?_ ?_<;>intro h<;>simp only [nc]at h<;>try (exfalso;omega))
 .subst h;exact vx_ (run_lss ..) rfl (uJ_ (by rfl))
 (refine b_ rfl rfl ?_ ?_<;>intro h<;>simp only [nc]at h<;>try (exfalso;omega))
 .subst h;exact vx_ (run_leq ..) rfl (uJ_ (by rfl))
 refine uJ_ ?_
 have e1:decide (9<=op/\op<=12)=false:=decide_eq_false (by omega)
 have e2:xf_ op a b=false:=by unfold xf_;simp only [*,if_false]
 rw [e1,e2]
 rfl
theorem zl_ (op a b:Int) (ho:13<=op/\op<=15):jA_ Tryz.prog 164 [.int .i64 op,.int .i64 a,.int .i64 b] (.int .i64 (v5_ op 1 a b)):=by
 refine t8_ (sh:=[none,none,none]) (ls:=[.int .i64 op,.int .i64 a,.int .i64 b]) (c:=Bg_) (n:=300) (t:=Av_) mo ov rfl rfl rfl (λY _=>vE_ _) rfl (by kernel_rfl) λY hf hg=>?_
 unfold Av_
 (refine b_ rfl rfl ?_ ?_<;>intro h<;>simp only [nc]at h<;>try (exfalso;omega))
 .subst h
  have e:v5_ 13 1 a b=tI (decide (¬a=0)&&decide (¬b=0)):=rfl
  rw [e]
  (refine b_ rfl rfl ?_ ?_<;>intro h<;>simp only [nc]at h<;>try (exfalso;omega))
  .refine vx_ (run_neq ..) rfl (uI_ (vT_ _) rfl rfl (uJ_ ?_))
   rw [decide_eq_true h,Bool.true_and]
   by_cases hb:b=0<;>simp [hb]<;>rfl
  .rw [decide_eq_false (by omega),Bool.false_and]
   exact uI_ (vT_ false) rfl rfl (uJ_ rfl)
 (refine b_ rfl rfl ?_ ?_<;>intro h<;>simp only [nc]at h<;>try (exfalso;omega))
 .subst h
  have e:v5_ 14 1 a b=tI (decide (¬a=0)||decide (¬b=0)):=rfl
  rw [e]
  (refine b_ rfl rfl ?_ ?_<;>intro h<;>simp only [nc]at h<;>try (exfalso;omega))
  .rw [decide_eq_true h,Bool.true_or]
   exact uI_ (vT_ true) rfl rfl (uJ_ rfl)
  .refine vx_ (run_neq ..) rfl (uI_ (vT_ _) rfl rfl (uJ_ ?_))
   rw [decide_eq_false (p:=¬a=0) (by omega),Bool.false_or]
   by_cases hb:b=0<;>simp [hb]<;>rfl
 (refine b_ rfl rfl ?_ ?_<;>intro h<;>simp only [nc]at h<;>try (exfalso;omega))
 subst h
 exact vx_ (run_eql ..) rfl (uI_ (vT_ _) rfl rfl (uJ_ rfl))
theorem Bl_ (i:Int):(XOp.conv 2 206).run Tryz.prog [.int .i64 i]=some (.int .i16 (IntKind.i16.wrap i)):=tH_ Tryz.underlying2 Tryz.underlying206 i
theorem zM_ (i:Int):(XOp.conv 206 2).run Tryz.prog [.int .i16 (IntKind.i16.wrap i)]=some (.int .i64 (IntKind.i16.wrap i)):=by
 have:=wj_ i
 rw [tH_ Tryz.underlying206 Tryz.underlying2,vM_ (by omega) (by omega)]
theorem Bn_ (i:Int):(XOp.conv 2 21).run Tryz.prog [.int .i64 i]=some (.int .i32 (IntKind.i32.wrap i)):=tH_ Tryz.underlying2 Tryz.underlying21 i
theorem zN_ (i:Int):(XOp.conv 21 2).run Tryz.prog [.int .i32 (IntKind.i32.wrap i)]=some (.int .i64 (IntKind.i32.wrap i)):=by
 have:=wk_ i
 rw [tH_ Tryz.underlying21 Tryz.underlying2,vM_ (by omega) (by omega)]
theorem yw_ (k i:Int):jA_ Tryz.prog 123 [.int .i64 k,.int .i64 i] (.int .i64 (w_ k i)):=by
 refine t8_ (sh:=[none,none]) (ls:=[.int .i64 k,.int .i64 i]) (c:=A5_) (n:=300) (t:=Ak_) mo ov rfl rfl rfl (λY _=>vE_ _) rfl (by kernel_rfl) λY hf hg=>?_
 unfold Ak_
 (refine b_ rfl rfl ?_ ?_<;>intro h<;>simp only [nc]at h<;>try (exfalso;omega))
 .subst h
  refine vx_ (run_neq ..) rfl (uI_ (vT_ _) rfl rfl (uJ_ ?_))
  by_cases hi:i=0<;>simp [hi,w_,tI]<;>rfl
 (refine b_ rfl rfl ?_ ?_<;>intro h<;>simp only [nc]at h<;>try (exfalso;omega))
 .subst h
  exact vx_ (Bl_ i) rfl (vx_ (zM_ i) rfl (uJ_ rfl))
 (refine b_ rfl rfl ?_ ?_<;>intro h<;>simp only [nc]at h<;>try (exfalso;omega))
 .subst h
  exact vx_ (Bn_ i) rfl (vx_ (zN_ i) rfl (uJ_ rfl))
 (refine b_ rfl rfl ?_ ?_<;>intro h<;>simp only [nc]at h<;>try (exfalso;omega))
 .subst h
  exact uJ_ rfl
 .refine uJ_ ?_
  have:w_ k i=0:=by unfold w_;simp only [*,if_false]
  rw [this]
  rfl
def RF (e:Int):Nat->List AV->Prop:=λj ws=>j=0/\ws=[.int .i64 e]
theorem BI_ (e:Int):CF Tryz.prog 163 ft163 [.int .i64 e] (RF e):=by
 refine vh_ (c:=Bf_) (n:=300) (t:=Au_) mo ov rfl (λY _=>vE_ _) (by kernel_rfl) λY hf hg=>?_
 unfold Au_
 exact VOK_fin rfl ⟨rfl,rfl⟩
def ofV (op a b:Int):Int:=if op=4 then w64 (a+b)else if op=5 then w64 (a-b)else if op=6 then w64 (a*b)else if op=16 then w64 (0-a)else if op=7 then w64 (a.tdiv b)else a.tmod b
theorem wq_ {op k a b:Int} (h:(4<=op/\op<=8)\/op=16):v5_ op k a b=w_ k (ofV op a b):=by
 rcases (by omega:op=4\/op=5\/op=6\/op=7\/op=8\/op=16)with rfl|rfl|rfl|rfl|rfl|rfl<;>rfl
def RO (op a b:Int):Nat->List AV->Prop:=λj ws=>(j=0/\s0_ op b=0/\ws=[.int .i64 (ofV op a b)])\/(j=1/\s0_ op b=5/\ws=[.int .i64 5])
theorem z7_ (op a b:Int) (ho:op=7\/op=8):CF Tryz.prog 179 w1_ [.int .i64 op,.int .i64 a,.int .i64 b] (RO op a b):=by
 refine vh_ (c:=Bk_) (n:=300) (t:=Az_) mo ov rfl (λY _=>vE_ _) (by kernel_rfl) λY hf hg=>?_
 unfold Az_
 (refine b_ rfl rfl ?_ ?_<;>intro h<;>simp only [nc]at h<;>try (exfalso;omega))
 .subst h
  refine uw_ (BI_ 5) rfl ⟨?_,trivial⟩
  rintro ws ⟨_,rfl⟩
  refine VOK_fin rfl (.inr ⟨rfl,?_,rfl⟩)
  unfold s0_
  rw [if_pos ⟨ho,rfl⟩]
 have hb:s0_ op b=0:=by unfold s0_;rw [if_neg (by omega)]
 (refine b_ rfl rfl ?_ ?_<;>intro h<;>simp only [nc]at h<;>try (exfalso;omega))
 .subst h
  exact vx_ (u5_ (by omega) ..) rfl (VOK_fin rfl (.inl ⟨rfl,hb,rfl⟩))
 .obtain rfl:op=7:=by omega
  exact vx_ (vt_ (by omega) ..) rfl (VOK_fin rfl (.inl ⟨rfl,hb,rfl⟩))
theorem zm_ (op a b:Int) (ho:(4<=op/\op<=8)\/op=16):CF Tryz.prog 165 ft165 [.int .i64 op,.int .i64 a,.int .i64 b] (RO op a b):=by
 refine vh_ (c:=Bh_) (n:=300) (t:=Aw_) mo ov rfl (λY _=>vE_ _) (by kernel_rfl) λY hf hg=>?_
 unfold Aw_
 (refine b_ rfl rfl ?_ ?_<;>intro h<;>simp only [nc]at h<;>try (exfalso;omega))
 .subst h;exact vx_ (run_add ..) rfl (VOK_fin rfl (.inl ⟨rfl,rfl,rfl⟩))
 (refine b_ rfl rfl ?_ ?_<;>intro h<;>simp only [nc]at h<;>try (exfalso;omega))
 .subst h;exact vx_ (run_sub ..) rfl (VOK_fin rfl (.inl ⟨rfl,rfl,rfl⟩))
 (refine b_ rfl rfl ?_ ?_<;>intro h<;>simp only [nc]at h<;>try (exfalso;omega))
 .subst h;exact vx_ (run_mul ..) rfl (VOK_fin rfl (.inl ⟨rfl,rfl,rfl⟩))
 (refine b_ rfl rfl ?_ ?_<;>intro h<;>simp only [nc]at h<;>try (exfalso;omega))
 .subst h;exact vx_ (vq_ ..) rfl (VOK_fin rfl (.inl ⟨rfl,rfl,rfl⟩))
 (refine b_ rfl rfl ?_ ?_<;>intro h<;>simp only [nc]at h<;>try (exfalso;omega))
 .subst h
  refine uw_ (z7_ 7 a b (.inl rfl)) rfl ⟨?_,?_,trivial⟩
  .rintro ws (⟨_,h1,rfl⟩|⟨h0,_⟩)
   .exact VOK_fin rfl (.inl ⟨rfl,h1,rfl⟩)
   .cases h0
  .rintro ws (⟨h0,_⟩|⟨_,h1,rfl⟩)
   .cases h0
   .exact VOK_fin rfl (.inr ⟨rfl,h1,rfl⟩)
 (refine b_ rfl rfl ?_ ?_<;>intro h<;>simp only [nc]at h<;>try (exfalso;omega))
 .subst h
  refine uw_ (z7_ 8 a b (.inr rfl)) rfl ⟨?_,?_,trivial⟩
  .rintro ws (⟨_,h1,rfl⟩|⟨h0,_⟩)
   .exact VOK_fin rfl (.inl ⟨rfl,h1,rfl⟩)
   .cases h0
  .rintro ws (⟨h0,_⟩|⟨_,h1,rfl⟩)
   .cases h0
   .exact VOK_fin rfl (.inr ⟨rfl,h1,rfl⟩)
def N_ (op k a b:Int):Int:=if s0_ op b=0 then v5_ op k a b else 0
theorem O_ {op k a b:Int} (h:9<=op/\op<=12):v5_ op k a b=tI (xf_ op a b):=by
 rcases (by omega:op=9\/op=10\/op=11\/op=12)with rfl|rfl|rfl|rfl<;>rfl
theorem K_ {op b:Int} (h:op≠7/\op≠8):s0_ op b=0:=by unfold s0_;rw [if_neg (by omega)]
theorem BD_ (op k a b:Int) (ho:OpK op k) (hk:k≠5):jA_ Tryz.prog 126 [.int .i64 op,.int .i64 k,.int .i64 a,.int .i64 b] (.tup [.int .i64 (N_ op k a b),.int .i64 (s0_ op b)]):=by
 obtain ⟨h1,h2,h3,h4,h5,h6,h7⟩:=ho
 rcases (by omega:k=1\/k=2\/k=3\/k=4)with hk|hk|hk|hk
 ·(refine uZ_ (args':=[.sym 64,.int .i64 k,.sym 65,.sym 66]) (ls:=[.int .i64 op,.int .i64 a,.int .i64 b]) (c:=y2_) (n:=300) (t:=xY_) mo ov rfl rfl rfl rfl (λY _=>rfl) (λY _=>vE_ _) rfl (by subst hk;kernel_rfl) λY hf hg=>?_)
  unfold xY_
  refine uI_ (yx_ op a b) rfl rfl ?_
  (refine b_ rfl rfl ?_ ?_<;>intro h<;>simp only [nc]at h<;>try (exfalso;omega))
  .subst h
   refine uI_ (zl_ 13 a b (by omega)) rfl rfl (uJ_ ?_)
   rw [N_,if_pos (K_ (by omega)),K_ (by omega),hk]
   rfl
  (refine b_ rfl rfl ?_ ?_<;>intro h<;>simp only [nc]at h<;>try (exfalso;omega))
  .subst h
   refine uI_ (zl_ 14 a b (by omega)) rfl rfl (uJ_ ?_)
   rw [N_,if_pos (K_ (by omega)),K_ (by omega),hk]
   rfl
  (refine b_ rfl rfl ?_ ?_<;>intro h<;>simp only [nc]at h<;>try (exfalso;omega))
  .subst h
   refine uI_ (zl_ 15 a b (by omega)) rfl rfl (uJ_ ?_)
   rw [N_,if_pos (K_ (by omega)),K_ (by omega),hk]
   rfl
  (refine b_ rfl rfl ?_ ?_<;>intro h<;>simp only [nc]at h<;>try (exfalso;omega))
  ·(refine b_ rfl rfl ?_ ?_<;>intro h<;>simp only [nc]at h<;>try (exfalso;omega))
   refine v6_ rfl (λh=>?_) (λh=>?_)
   ·(
     refine uI_ (vT_ _) rfl rfl (uJ_ ?_)
     rw [N_,if_pos (K_ (by omega)),K_ (by omega),O_ (by omega)]
     rfl)
   .exfalso;omega
  .refine v6_ rfl (λh=>?_) (λh=>?_)
   ·(
     refine uI_ (vT_ _) rfl rfl (uJ_ ?_)
     rw [N_,if_pos (K_ (by omega)),K_ (by omega),O_ (by omega)]
     rfl)
   .exfalso;omega
 all_goals have hk1:k≠1:=by omega
 ·(refine uZ_ (args':=[.sym 64,.int .i64 k,.sym 65,.sym 66]) (ls:=[.int .i64 op,.int .i64 a,.int .i64 b]) (c:=y3_) (n:=300) (t:=xZ_) mo ov rfl rfl rfl rfl (λY _=>rfl) (λY _=>vE_ _) rfl (by subst hk;kernel_rfl) λY hf hg=>?_)
  unfold xZ_
  refine uI_ (yx_ op a b) rfl rfl (v6_ rfl (λh=>?_) (λh=>?_))
  ·(
    refine uI_ (vT_ _) rfl rfl (uJ_ ?_)
    rw [N_,if_pos (K_ (by omega)),K_ (by omega),O_ (by omega)]
    rfl)
  ·(
    refine uw_ (zm_ op a b (by omega)) rfl ⟨?_,?_,trivial⟩
    .rintro ws (⟨_,h1,rfl⟩|⟨h0,_⟩)
     .refine uI_ (yw_ _ _) rfl rfl (uJ_ ?_)
      rw [N_,if_pos h1,h1,wq_ (by omega),hk]
      rfl
     .cases h0
    .rintro ws (⟨h0,_⟩|⟨_,h1,rfl⟩)
     .cases h0
     .refine uJ_ ?_
      rw [N_,if_neg (by omega),h1]
      rfl)
 ·(refine uZ_ (args':=[.sym 64,.int .i64 k,.sym 65,.sym 66]) (ls:=[.int .i64 op,.int .i64 a,.int .i64 b]) (c:=y4_) (n:=300) (t:=x0_) mo ov rfl rfl rfl rfl (λY _=>rfl) (λY _=>vE_ _) rfl (by subst hk;kernel_rfl) λY hf hg=>?_)
  unfold x0_
  refine uI_ (yx_ op a b) rfl rfl (v6_ rfl (λh=>?_) (λh=>?_))
  ·(
    refine uI_ (vT_ _) rfl rfl (uJ_ ?_)
    rw [N_,if_pos (K_ (by omega)),K_ (by omega),O_ (by omega)]
    rfl)
  ·(
    refine uw_ (zm_ op a b (by omega)) rfl ⟨?_,?_,trivial⟩
    .rintro ws (⟨_,h1,rfl⟩|⟨h0,_⟩)
     .refine uI_ (yw_ _ _) rfl rfl (uJ_ ?_)
      rw [N_,if_pos h1,h1,wq_ (by omega),hk]
      rfl
     .cases h0
    .rintro ws (⟨h0,_⟩|⟨_,h1,rfl⟩)
     .cases h0
     .refine uJ_ ?_
      rw [N_,if_neg (by omega),h1]
      rfl)
 ·(refine uZ_ (args':=[.sym 64,.int .i64 k,.sym 65,.sym 66]) (ls:=[.int .i64 op,.int .i64 a,.int .i64 b]) (c:=y5_) (n:=300) (t:=x1_) mo ov rfl rfl rfl rfl (λY _=>rfl) (λY _=>vE_ _) rfl (by subst hk;kernel_rfl) λY hf hg=>?_)
  unfold x1_
  refine uI_ (yx_ op a b) rfl rfl (v6_ rfl (λh=>?_) (λh=>?_))
  ·(
    refine uI_ (vT_ _) rfl rfl (uJ_ ?_)
    rw [N_,if_pos (K_ (by omega)),K_ (by omega),O_ (by omega)]
    rfl)
  ·(
    refine uw_ (zm_ op a b (by omega)) rfl ⟨?_,?_,trivial⟩
    .rintro ws (⟨_,h1,rfl⟩|⟨h0,_⟩)
     .refine uI_ (yw_ _ _) rfl rfl (uJ_ ?_)
      rw [N_,if_pos h1,h1,wq_ (by omega),hk]
      rfl
     .cases h0
    .rintro ws (⟨h0,_⟩|⟨_,h1,rfl⟩)
     .cases h0
     .refine uJ_ ?_
      rw [N_,if_neg (by omega),h1]
      rfl)
end Go.Proofs.YtjconanknjgpnaaGreat.vars
set_option maxRecDepth 100000
set_option linter.unusedVariables false
set_option linter.unusedSimpArgs false
namespace Go.Proofs.YtjconanknjgpnaaGreat.vars
open Go Go.Sx
def c89:VC:=⟨⟨[],[]⟩,[],[],0,true,[]⟩
def t89:VT:=
 (.ite 64
 (.done (J 1))
 (.done (J 0)))
def zH_:VC:=⟨⟨[],[]⟩,[(89,[none])],[],0,true,[]⟩
def yV_:VT:=
 (.lt Q8 [64,J 0] 65 none
 (.call 89 [65] 66 [none]
 (.done (66))))
def zI_:VC:=⟨⟨[],[]⟩,[(89,[none])],[],0,true,[]⟩
def yW_:VT:=
 (.lt Zh [64,J 65536] 65 none
 (.lt Z8 [65,J 0] 66 none
 (.ite 66
 (.lt Zq [65,J 65536] 67 none
 (.lt Qq [67,J 32768] 68 none
 (.ite 68
 (.lt Zb [67,J 65536] 69 none
 (.done (69)))
 (.done (67)))))
 (.lt Qq [65,J 32768] 67 none
 (.ite 67
 (.lt Zb [65,J 65536] 68 none
 (.done (68)))
 (.done (65)))))))
def zJ_:VC:=⟨⟨[],[]⟩,[(89,[none])],[],0,true,[]⟩
def yX_:VT:=
 (.lt Zh [64,J 4294967296] 65 none
 (.lt Z8 [65,J 0] 66 none
 (.ite 66
 (.lt Zq [65,J 4294967296] 67 none
 (.lt Qq [67,J 2147483648] 68 none
 (.ite 68
 (.lt Zb [67,J 4294967296] 69 none
 (.done (69)))
 (.done (67)))))
 (.lt Qq [65,J 2147483648] 67 none
 (.ite 67
 (.lt Zb [65,J 4294967296] 68 none
 (.done (68)))
 (.done (65)))))))
def zK_:VC:=⟨⟨[],[]⟩,[(89,[none])],[],0,true,[]⟩
def yY_:VT:=
 (.done (64))
def zL_:VC:=⟨⟨[],[]⟩,[(89,[none])],[],0,true,[]⟩
def yZ_:VT:=
 (.done (J 0))
theorem p89 (b:Bool):jA_ Tryz.prog 89 [.bool b] (.int .i64 (tI b)):=by
 refine t8_ (sh:=[none]) (ls:=[.bool b]) (c:=c89) (n:=300) (t:=t89) mo ov rfl rfl rfl (λY _=>vE_ _) rfl (by kernel_rfl) λY hf hg=>?_
 unfold t89
 cases b
 .exact ve_ (t:=false) rfl (λh=>by cases h) (λh=>uJ_ rfl)
 .exact ve_ (t:=true) rfl (λh=>uJ_ rfl) (λh=>by cases h)
def vA_ (n x:Int):Int:=if x.tmod n<0 then (if n/2<=x.tmod n+n then x.tmod n+n-n else x.tmod n+n)else (if n/2<=x.tmod n then x.tmod n-n else x.tmod n)
theorem vJ_ (x n:Int) (hn:0<n): -n<x.tmod n/\x.tmod n<n:=by
 refine ⟨?_,Int.tmod_lt_of_pos x hn⟩
 have:=Int.tmod_lt_of_pos (-x) hn
 rw [Int.neg_tmod]at this
 omega
theorem xc_ (x n:Int) (hn:0<n):x.tmod n=x%n\/(x.tmod n=x%n-n/\x%n≠0):=by
 rw [Int.tmod_eq_emod]
 split
 .left;omega
 .rename_i h
  right
  have h2:¬n ∣ x:=λhd=>h (.inr hd)
  have:x%n≠0:=λe=>h2 (Int.dvd_of_emod_eq_zero e)
  omega
theorem yI_ (x:Int):vA_ 65536 x=IntKind.i16.wrap x:=by
 have h:=xc_ x 65536 (by omega)
 have hb:=vJ_ x 65536 (by omega)
 simp only [IntKind.wrap,IntKind.bits,IntKind.signed,vA_]
 simp
 generalize x.tmod 65536=r at*
 omega
theorem yJ_ (x:Int):vA_ 4294967296 x=IntKind.i32.wrap x:=by
 have h:=xc_ x 4294967296 (by omega)
 have hb:=vJ_ x 4294967296 (by omega)
 simp only [IntKind.wrap,IntKind.bits,IntKind.signed,vA_]
 simp
 generalize x.tmod 4294967296=r at*
 omega
theorem z9_ (x:Int):jA_ Tryz.prog 55 [.int .i64 1,.int .i64 x] (.int .i64 (w_ 1 x)):=by
 refine uZ_ (args':=[.int .i64 1,.sym 64]) (ls:=[.int .i64 x]) (c:=zH_) (n:=300) (t:=yV_) mo ov rfl rfl rfl rfl (λY _=>rfl) (λY _=>vE_ _) rfl (by kernel_rfl) λY hf hg=>?_
 unfold yV_
 refine vx_ (run_neq ..) rfl (uI_ (p89 _) rfl rfl (uJ_ ?_))
 by_cases hi:x=0<;>simp [hi,w_,tI]<;>rfl
theorem Ac_ (x:Int):jA_ Tryz.prog 55 [.int .i64 4,.int .i64 x] (.int .i64 x):=by
 refine uZ_ (args':=[.int .i64 4,.sym 64]) (ls:=[.int .i64 x]) (c:=zK_) (n:=300) (t:=yY_) mo ov rfl rfl rfl rfl (λY _=>rfl) (λY _=>vE_ _) rfl (by kernel_rfl) λY hf hg=>?_
 unfold yY_
 exact uJ_ rfl
theorem Ad_ (x:Int):jA_ Tryz.prog 55 [.int .i64 5,.int .i64 x] (.int .i64 0):=by
 refine uZ_ (args':=[.int .i64 5,.sym 64]) (ls:=[.int .i64 x]) (c:=zL_) (n:=300) (t:=yZ_) mo ov rfl rfl rfl rfl (λY _=>rfl) (λY _=>vE_ _) rfl (by kernel_rfl) λY hf hg=>?_
 unfold yZ_
 exact uJ_ rfl
theorem Aa_ (x:Int):jA_ Tryz.prog 55 [.int .i64 2,.int .i64 x] (.int .i64 (vA_ 65536 x)):=by
 have hb:=vJ_ x 65536 (by omega)
 refine uZ_ (args':=[.int .i64 2,.sym 64]) (ls:=[.int .i64 x]) (c:=zI_) (n:=300) (t:=yW_) mo ov rfl rfl rfl rfl (λY _=>rfl) (λY _=>vE_ _) rfl (by kernel_rfl) λY hf hg=>?_
 unfold yW_
 have hr:=u5_ (P:=Tryz.prog) (k:=.i64) (x:=x) (c:=65536) (by omega) 2 false false
 unfold vA_
 generalize x.tmod 65536=r at*
 refine vx_ hr rfl ?_
 repeat' (first
  |refine vx_ (run_lss ..) rfl ?_
  |refine vx_ (run_geq ..) rfl ?_
  |refine vx_ (run_add ..) rfl ?_
  |refine vx_ (run_sub ..) rfl ?_
  |refine ve_ rfl (λh=>?_) (λh=>?_)
  |refine uJ_ ?_)
 all_goals (simp only [decide_eq_true_eq,decide_eq_false_iff_not]at *)
 all_goals (try rw [vM_ (x:=r+65536) (by omega) (by omega)]at *)
 all_goals
  (show AV.int .i64 _=AV.int .i64 _
   congr 1
   repeat' split
   all_goals first
    |(exfalso;omega)
    |rfl
    |(rw [vM_ (x:=r+65536-65536) (by omega) (by omega)])
    |(rw [vM_ (x:=r-65536) (by omega) (by omega)])
    |omega)
theorem Ab_ (x:Int):jA_ Tryz.prog 55 [.int .i64 3,.int .i64 x] (.int .i64 (vA_ 4294967296 x)):=by
 have hb:=vJ_ x 4294967296 (by omega)
 refine uZ_ (args':=[.int .i64 3,.sym 64]) (ls:=[.int .i64 x]) (c:=zJ_) (n:=300) (t:=yX_) mo ov rfl rfl rfl rfl (λY _=>rfl) (λY _=>vE_ _) rfl (by kernel_rfl) λY hf hg=>?_
 unfold yX_
 have hr:=u5_ (P:=Tryz.prog) (k:=.i64) (x:=x) (c:=4294967296) (by omega) 2 false false
 unfold vA_
 generalize x.tmod 4294967296=r at*
 refine vx_ hr rfl ?_
 repeat' (first
  |refine vx_ (run_lss ..) rfl ?_
  |refine vx_ (run_geq ..) rfl ?_
  |refine vx_ (run_add ..) rfl ?_
  |refine vx_ (run_sub ..) rfl ?_
  |refine ve_ rfl (λh=>?_) (λh=>?_)
  |refine uJ_ ?_)
 all_goals (simp only [decide_eq_true_eq,decide_eq_false_iff_not]at *)
 all_goals (try rw [vM_ (x:=r+4294967296) (by omega) (by omega)]at *)
 all_goals
  (show AV.int .i64 _=AV.int .i64 _
   congr 1
   repeat' split
   all_goals first
    |(exfalso;omega)
    |rfl
    |(rw [vM_ (x:=r+4294967296-4294967296) (by omega) (by omega)])
    |(rw [vM_ (x:=r-4294967296) (by omega) (by omega)])
    |omega)
theorem p55 {k:Int} (h:1<=k/\k<=5) (x:Int):jA_ Tryz.prog 55 [.int .i64 k,.int .i64 x] (.int .i64 (w_ k x)):=by
 rcases (by omega:k=1\/k=2\/k=3\/k=4\/k=5)with rfl|rfl|rfl|rfl|rfl
 .exact z9_ x
 .have:=Aa_ x;rw [yI_]at this;exact this
 .have:=Ab_ x;rw [yJ_]at this;exact this
 .exact Ac_ x
 .exact Ad_ x
end Go.Proofs.YtjconanknjgpnaaGreat.vars
set_option maxRecDepth 100000
set_option linter.unusedVariables false
set_option linter.unusedSimpArgs false
namespace Go.Proofs.YtjconanknjgpnaaGreat.vars
open Go.Sx Go
theorem wd_ (s:Bool) (t:Nat):((FloatKind.f64.format).read (FloatKind.f64.encode (.nan s (FloatKind.f64.format.quiet t)))).isNaN=true:=by
 refine je_ ?_ (by decide +kernel)
 have h51:(Ieee.Format.quiet Ieee.double t%Ieee.double.binade).testBit 51=true:=by
  have hb:Ieee.double.binade=2^52:=by decide +kernel
  rw [hb,Nat.testBit_mod_two_pow]
  show (decide (51<52)&&(t|||2^(Ieee.double.fractionBits-1)).testBit 51)=true
  have hf:Ieee.double.fractionBits-1=51:=by decide +kernel
  rw [hf,Nat.testBit_or,Nat.testBit_two_pow_self]
  simp
 have hpos:0<Ieee.Format.quiet Ieee.double t%Ieee.double.binade:=by
  rcases Nat.eq_zero_or_pos (Ieee.Format.quiet Ieee.double t%Ieee.double.binade)with h|h
  .rw [h]at h51;simp at h51
  .exact h
 have hlt:Ieee.Format.quiet Ieee.double t%Ieee.double.binade<Ieee.double.binade:=Nat.mod_lt _ (by decide +kernel)
 show Ieee.double.infRung<(Ieee.double.word s (Ieee.double.infRung+Ieee.Format.quiet Ieee.double t%Ieee.double.binade))%Ieee.double.signWeight
 generalize Ieee.Format.quiet Ieee.double t%Ieee.double.binade=q at*
 have e1:Ieee.double.infRung=9218868437227405312:=by decide +kernel
 have e2:Ieee.double.signWeight=9223372036854775808:=by decide +kernel
 have e3:Ieee.double.binade=4503599627370496:=by decide +kernel
 unfold Ieee.Format.word
 rw [e1,e2]
 rw [e3]at hlt
 cases s<;>simp<;>omega
theorem x7_ (b:Nat):∃q:Question,Extern.MathFloor.toIntegral "math.archTrunc" .zero #[.float .f64 b]=(match FloatKind.f64.format.read b with
 | .nan s t=>if FloatKind.f64.format.quiet t=t then pure (.float .f64 b)else do
    let kept←choose q
    pure (.float .f64 (if kept==1 then b else FloatKind.f64.encode (.nan s (FloatKind.f64.format.quiet t))))
 |d=>pure (.float .f64 (FloatKind.f64.encode (d.integral .zero)))):=⟨_,rfl⟩
def zA_ (b b':Nat):Prop:=(dk_ b=true->((FloatKind.f64.format).read b').isNaN=true)/\(dk_ b=false->b'=js_ b)
theorem xp_ {P:Program} (b:Nat) (w:World):
  ∃b' n,(Extern.MathFloor.toIntegral "math.archTrunc" .zero #[.float .f64 b]).run P w=.ok (.float .f64 b') { w with drawn:=n }/\zA_ b b':=by
 obtain ⟨q,e⟩:=x7_ b
 rw [e]
 have hn:(FloatKind.f64.format.read b).isNaN=dk_ b:=uA_
 cases hd:FloatKind.f64.format.read b with
 |number s m i=>
  rw [hd]at hn
  refine ⟨js_ b,w.drawn,?_,λh=>(Bool.false_ne_true (hn.trans h)).elim,λ_=>rfl⟩
  unfold js_
  rw [show Ieee.double.read b=_ from hd]
  rfl
 |infinity s=>
  rw [hd]at hn
  refine ⟨js_ b,w.drawn,?_,λh=>(Bool.false_ne_true (hn.trans h)).elim,λ_=>rfl⟩
  unfold js_
  rw [show Ieee.double.read b=_ from hd]
  rfl
 |nan s t=>
  rw [hd]at hn
  have hf:dk_ b≠false:=λh=>by rw [←hn]at h;cases h
  simp only
  split
  .exact ⟨b,w.drawn,rfl,λ_=>by rw [hd];rfl,λh=>absurd h hf⟩
  .simp only [Sem.run_bind,choose,Sem.run,Result.andThen]
   by_cases hq:q.forced=true
   .rw [if_pos hq]
    exact ⟨_,w.drawn,rfl,λ_=>wd_ s t,λh=>absurd h hf⟩
   .rw [if_neg hq]
    refine ⟨_,_,rfl,λ_=>?_,λh=>absurd h hf⟩
    split
    .rw [hd];rfl
    .exact wd_ s t
theorem wU_ (b:Nat) (w:World):
  Calls Tryz.prog 127 #[.float .f64 b] w λe w'=>∃b' n,e=.returned (.float .f64 b')/\w'={ w with drawn:=n }/\zA_ b b':=by
 obtain ⟨b',n,h1,h2⟩:=xp_ (P:=Tryz.prog) b w
 have h3:(callFunc 166 #[.float .f64 b]).run Tryz.prog w=.ok (.value (.float .f64 b')) { w with drawn:=n }:=by
  rw [run_callFunc_extern (P:=Tryz.prog) (f:=166) (e:=Extern.MathFloor.toIntegral "math.archTrunc" .zero) Tryz.func166 (by kernel_rfl) (by kernel_rfl) (by kernel_rfl) (by kernel_rfl),h1]
  rfl
 have H2:=Lib.hid h2
 clear h2 h1
 generalize hw1:({ w with drawn:=n }:World)=w1 at*
 have H3:=Lib.hid hw1
 clear hw1
 go_enter Tryz.func127,Tryz.ntmps127
 go_wp2
 go_ret
 exact ⟨b',n,rfl,H3.out.symm,H2.out⟩
theorem BE_ (o:Option Nat):jA_ Tryz.prog 127 [fv o] (fv (uj_ o)):=by
 intro H B pr E w vs hg hr hc
 have key:∃b,vs=[.float .f64 b]/\(dk_ b=n7_ o)/\(n7_ o=false->o=some b):=by
  cases o with
  |none=>
   simp only [fv,mkF,ConL,Con]at hc
   obtain ⟨v,r,rfl,⟨b,rfl,hb⟩,rfl⟩:=hc
   exact ⟨b,rfl,by rw [←uA_];exact hb,λh=>by cases h⟩
  |some b=>
   simp only [fv,mkF,ConL,Con]at hc
   obtain ⟨v,r,rfl,rfl,rfl⟩:=hc
   exact ⟨b,rfl,rfl,λ_=>rfl⟩
 obtain ⟨b,rfl,hn,ho⟩:=key
 refine (wU_ b w).mono λe w' he=>?_
 obtain ⟨b',n,rfl,rfl,h1,h2⟩:=he
 refine ⟨E,Env.le_refl E,_,rfl,?_,hr.drawn n⟩
 cases hb:n7_ o with
 |true=>
  have e:uj_ o=none:=by
   cases o with
   |none=>rfl
   |some x=>show (if dk_ x=true then none else some (js_ x))=none;exact if_pos hb
  rw [e]
  simp only [fv,mkF,Con]
  exact ⟨b',rfl,h1 (hn.trans hb)⟩
 |false=>
  rw [ho hb]
  have hb':dk_ b=false:=hn.trans hb
  have e:uj_ (some b)=some (js_ b):=by
   show (if dk_ b=true then none else some (js_ b))=_
   rw [if_neg (by rw [hb'];exact Bool.false_ne_true)]
  rw [e,←h2 hb']
  simp only [fv,mkF,Con]
end Go.Proofs.YtjconanknjgpnaaGreat.vars
set_option maxRecDepth 100000
set_option linter.unusedVariables false
set_option linter.unusedSimpArgs false
namespace Go.Proofs.YtjconanknjgpnaaGreat.vars
open Go Go.Sx
def A6_:VC:=⟨⟨[],[]⟩,[],[],0,true,[]⟩
def Al_:VT:=
 (.lt Q0 [64,J 4] 67 none
 (.ite 67
 (.lt U7 [65,66] 68 none
 (.done (.tup [68,.bool false,.bool true])))
 (.lt Q0 [64,J 5] 68 none
 (.ite 68
 (.lt U8 [65,66] 69 none
 (.done (.tup [69,.bool false,.bool true])))
 (.lt Q0 [64,J 6] 69 none
 (.ite 69
 (.lt U9 [65,66] 70 none
 (.done (.tup [70,.bool false,.bool true])))
 (.lt Q0 [64,J 7] 70 none
 (.ite 70
 (.lt Ua [65,66] 71 none
 (.done (.tup [71,.bool false,.bool true])))
 (.lt Q0 [64,J 16] 71 none
 (.ite 71
 (.lt Z7 [65] 72 none
 (.done (.tup [72,.bool false,.bool true])))
 (.lt Q0 [64,J 9] 72 none
 (.ite 72
 (.lt Ub [65,66] 73 none
 (.done (.tup [.flt .f64 0,73,.bool true])))
 (.lt Q0 [64,J 10] 73 none
 (.ite 73
 (.lt Zr [65,66] 74 none
 (.done (.tup [.flt .f64 0,74,.bool true])))
 (.lt Q0 [64,J 11] 74 none
 (.ite 74
 (.lt U0 [65,66] 75 none
 (.done (.tup [.flt .f64 0,75,.bool true])))
 (.lt Q0 [64,J 12] 75 none
 (.ite 75
 (.lt Uc [65,66] 76 none
 (.done (.tup [.flt .f64 0,76,.bool true])))
 (.done (.tup [.flt .f64 0,.bool false,.bool false]))))))))))))))))))))
def A7_:VC:=⟨⟨[],[]⟩,[],[],0,true,[]⟩
def Am_:VT:=
 (.ite 64
 (.done (.agg [J 1,J 1,.flt .f64 0]))
 (.done (.agg [J 1,J 0,.flt .f64 0])))
def Bc_:VC:=⟨⟨[],[]⟩,[],[],0,true,[]⟩
def Ar_:VT:=
 (.lt Q0 [64,J 2] 65 none
 (.ite 65
 (.done (.tup [.flt .f64 13898108450065350656,.bool true]))
 (.lt Q0 [64,J 3] 66 none
 (.ite 66
 (.done (.tup [.flt .f64 13970166044103278592,.bool true]))
 (.lt Q0 [64,J 4] 67 none
 (.ite 67
 (.done (.tup [.flt .f64 14114281232179134464,.bool true]))
 (.done (.tup [.flt .f64 0,.bool false]))))))))
def A4_:VC:=⟨⟨[],[]⟩,[(159,[none,none]),(127,[none])],[],0,true,[]⟩
def Aj_:VT:=
 (.call 159 [64] 66 [none,none]
 (.lt Q3 [67] 68 none
 (.ite 68
 (.done (.tup [J 0,J 4]))
 (.call 127 [65] 69 [none]
 (.lt (.bin .geq 44 false false) [69,66] 70 none
 (.ite 70
 (.lt Z7 [66] 71 none
 (.lt U0 [69,71] 72 none
 (.ite 72
 (.lt (.conv 44 2) [69] 73 none
 (.done (.tup [73,J 0])))
 (.done (.tup [J 0,J 7])))))
 (.done (.tup [J 0,J 7]))))))))
def A0_:VC:=⟨⟨[],[]⟩,[],[],0,true,[]⟩
def Af_:VT:=
 (.lt Q5 [64,J 0] 65 none
 (.ite 65
 (.done (.tup [J 1,64]))
 (.done (.tup [J 0]))))
def c82:VC:=⟨⟨[],[]⟩,[(122,[none,none]),(123,[none])],[],0,true,[(113,ft113)]⟩
def t82:VT:=
 (.lt Q0 [64,J 5] 68 none
 (.ite 68
 (.lt Q0 [65,J 5] 69 none
 (.ite 69
 (.done (.tup [J 0,65,66,67]))
 (.lt Q0 [64,J 5] 70 none
 (.ite 70
 (.lt Zc [66] 71 none
 (.done (.tup [J 0,64,J 0,71])))
 (.lt Q0 [65,J 5] 71 none
 (.ite 71
 (.call 122 [64,67] 72 [none,none]
 (.callF 113 ft113 [73] 74
 (.cons 0
 (.done (.tup [J 0,64,72,.flt .f64 0]))
 (.cons 1
 (.done (.tup [J 1,75]))
 .nil))))
 (.call 123 [64,66] 72 [none]
 (.done (.tup [J 0,64,72,.flt .f64 0])))))))))
 (.lt Q0 [64,J 5] 69 none
 (.ite 69
 (.lt Zc [66] 70 none
 (.done (.tup [J 0,64,J 0,70])))
 (.lt Q0 [65,J 5] 70 none
 (.ite 70
 (.call 122 [64,67] 71 [none,none]
 (.callF 113 ft113 [72] 73
 (.cons 0
 (.done (.tup [J 0,64,71,.flt .f64 0]))
 (.cons 1
 (.done (.tup [J 1,74]))
 .nil))))
 (.call 123 [64,66] 71 [none]
 (.done (.tup [J 0,64,71,.flt .f64 0])))))))))
def c83:VC:=⟨⟨[],[]⟩,[(124,[none,none,none]),(126,[none,none]),(125,[(some 3)])],[],0,true,[(113,ft113)]⟩
def t83:VT:=
 (.lt Qh [65,J 0] 66 none
 (.lt Qm [66] 67 (some 3)
 (.lt Qu [65] 70 none
 (.lt Qf [70,J 1] 71 none
 (.lt Qh [65,71] 72 none
 (.lt Qm [72] 73 (some 3)
 (.lt Q0 [67,J 5] 76 none
 (.ite 76
 (.call 124 [64,69,75] 77 [none,none,none]
 (.lt Q3 [79] 80 none
 (.ite 80
 (.callF 113 ft113 [J 4] 81
 (.cons 0
 (.lt Z0 [64,J 9] 82 none
 (.ite 82
 (.lt Qv [64,J 12] 83 none
 (.ite 83
 (.call 125 [78] 84 [(some 3)]
 (.done (.tup [J 0,84,85,86])))
 (.done (.tup [J 0,J 5,J 0,77]))))
 (.done (.tup [J 0,J 5,J 0,77]))))
 (.cons 1
 (.done (.tup [J 1,82]))
 .nil)))
 (.lt Z0 [64,J 9] 81 none
 (.ite 81
 (.lt Qv [64,J 12] 82 none
 (.ite 82
 (.call 125 [78] 83 [(some 3)]
 (.done (.tup [J 0,83,84,85])))
 (.done (.tup [J 0,J 5,J 0,77]))))
 (.done (.tup [J 0,J 5,J 0,77])))))))
 (.call 126 [64,67,68,74] 77 [none,none]
 (.callF 113 ft113 [78] 79
 (.cons 0
 (.lt Z0 [64,J 9] 80 none
 (.ite 80
 (.lt Qv [64,J 12] 81 none
 (.ite 81
 (.lt Q8 [77,J 0] 82 none
 (.call 125 [82] 83 [(some 3)]
 (.done (.tup [J 0,83,84,85]))))
 (.done (.tup [J 0,67,77,.flt .f64 0]))))
 (.done (.tup [J 0,67,77,.flt .f64 0]))))
 (.cons 1
 (.done (.tup [J 1,80]))
 .nil))))))))))))
theorem vW_ (a:Option Nat):(XOp.un .neg).run Tryz.prog [fv a]=some (fv (a.map (Op.negFloat .f64))):=by cases a<;>rfl
theorem wD_ (t:TypeId) (cx cy:Bool) (a b:Option Nat):(XOp.bin .add t cx cy).run Tryz.prog [fv a,fv b]=some (fv (gM_ FloatKind.f64.format.add a b)):=by rw [u4_];rfl
theorem wI_ (t:TypeId) (cx cy:Bool) (a b:Option Nat):(XOp.bin .sub t cx cy).run Tryz.prog [fv a,fv b]=some (fv (gM_ FloatKind.f64.format.sub a b)):=by rw [u4_];rfl
theorem wG_ (t:TypeId) (cx cy:Bool) (a b:Option Nat):(XOp.bin .mul t cx cy).run Tryz.prog [fv a,fv b]=some (fv (gM_ FloatKind.f64.format.mul a b)):=by rw [u4_];rfl
theorem wH_ (t:TypeId) (cx cy:Bool) (a b:Option Nat):(XOp.bin .quo t cx cy).run Tryz.prog [fv a,fv b]=some (fv (gM_ FloatKind.f64.format.div a b)):=by rw [u4_];rfl
theorem wE_ (t:TypeId) (cx cy:Bool) (a b:Option Nat):(XOp.bin .eql t cx cy).run Tryz.prog [fv a,fv b]=some (.bool (ordF a b==some .eq)):=by rw [u4_];rfl
theorem vX_ (t:TypeId) (cx cy:Bool) (a b:Option Nat):(XOp.bin .neq t cx cy).run Tryz.prog [fv a,fv b]=some (.bool (ordF a b !=some .eq)):=by rw [u4_];rfl
theorem vV_ (t:TypeId) (cx cy:Bool) (a b:Option Nat):(XOp.bin .lss t cx cy).run Tryz.prog [fv a,fv b]=some (.bool (ordF a b==some .lt)):=by rw [u4_];rfl
theorem wF_ (t:TypeId) (cx cy:Bool) (a b:Option Nat):(XOp.bin .leq t cx cy).run Tryz.prog [fv a,fv b]=some (.bool (ordF a b==some .lt||ordF a b==some .eq)):=by rw [u4_];rfl
theorem xV_ (t:TypeId) (cx cy:Bool) (a b:Option Nat):(XOp.bin .geq t cx cy).run Tryz.prog [fv a,fv b]=some (.bool (ordF a b==some .gt||ordF a b==some .eq)):=by rw [u4_];rfl
def OpR (op:Int):Prop:=(4<=op/\op<=7)\/op=16\/(9<=op/\op<=12)
def w8_ (op:Int) (a b:Option Nat):Option Nat:=
 if op=4 then gM_ FloatKind.f64.format.add a b else if op=5 then gM_ FloatKind.f64.format.sub a b else if op=6 then gM_ FloatKind.f64.format.mul a b else if op=7 then gM_ FloatKind.f64.format.div a b
 else if op=16 then a.map (Op.negFloat .f64)else some 0
def yR_ (op:Int) (a b:Option Nat):Bool:=if 9<=op/\op<=12 then z1_ op (ordF a b)else false
theorem yz_ {op:Int} {a b:Option Nat} (h:OpR op):we_ op a b=if 9<=op/\op<=12 then ⟨1,tI (yR_ op a b),some 0⟩else ⟨5,0,w8_ op a b⟩:=by
 rcases (by unfold OpR at h;omega:op=4\/op=5\/op=6\/op=7\/op=16\/op=9\/op=10\/op=11\/op=12)with rfl|rfl|rfl|rfl|rfl|rfl|rfl|rfl|rfl<;>rfl
theorem Bx_ (f:Option Nat) (b c:Bool):aT_ (.tup [fv f,.bool b,.bool c])=true:=by
 cases f<;>rfl
theorem Bv_ (k:Int) (f:Option Nat):okL [.int .i64 k,fv f]=true:=by cases f<;>rfl
theorem zW_ (op:Int) (a b:Option Nat):okL [.int .i64 op,fv a,fv b]=true:=by cases a<;>cases b<;>rfl
theorem BC_ (op:Int) (a b:Option Nat) (h:OpR op):jA_ Tryz.prog 124 [.int .i64 op,fv a,fv b] (.tup [fv (w8_ op a b),.bool (yR_ op a b),.bool true]):=by
 unfold OpR at h
 refine t8_ (sh:=[none,none,none]) (ls:=[.int .i64 op,fv a,fv b]) (c:=A6_) (n:=300) (t:=Al_) mo ov rfl (zW_ ..) (Bx_ ..) (λY _=>vE_ _) rfl (by kernel_rfl) λY hf hg=>?_
 unfold Al_
 (refine b_ rfl rfl ?_ ?_<;>intro h<;>simp only [nc]at h<;>try (exfalso;omega))
 .subst op;(first
             |exact vx_ (wD_ ..) (vO_ _) (uJ_ (by rfl))
             |exact vx_ (wD_ ..) rfl (uJ_ (by rfl)))
 (refine b_ rfl rfl ?_ ?_<;>intro h<;>simp only [nc]at h<;>try (exfalso;omega))
 .subst op;(first
             |exact vx_ (wI_ ..) (vO_ _) (uJ_ (by rfl))
             |exact vx_ (wI_ ..) rfl (uJ_ (by rfl)))
 (refine b_ rfl rfl ?_ ?_<;>intro h<;>simp only [nc]at h<;>try (exfalso;omega))
 .subst op;(first
             |exact vx_ (wG_ ..) (vO_ _) (uJ_ (by rfl))
             |exact vx_ (wG_ ..) rfl (uJ_ (by rfl)))
 (refine b_ rfl rfl ?_ ?_<;>intro h<;>simp only [nc]at h<;>try (exfalso;omega))
 .subst op;(first
             |exact vx_ (wH_ ..) (vO_ _) (uJ_ (by rfl))
             |exact vx_ (wH_ ..) rfl (uJ_ (by rfl)))
 (refine b_ rfl rfl ?_ ?_<;>intro h<;>simp only [nc]at h<;>try (exfalso;omega))
 .subst op;(first
             |exact vx_ (vW_ ..) (vO_ _) (uJ_ (by rfl))
             |exact vx_ (vW_ ..) rfl (uJ_ (by rfl)))
 (refine b_ rfl rfl ?_ ?_<;>intro h<;>simp only [nc]at h<;>try (exfalso;omega))
 .subst op;(first
             |exact vx_ (wE_ ..) (vO_ _) (uJ_ (by rfl))
             |exact vx_ (wE_ ..) rfl (uJ_ (by rfl)))
 (refine b_ rfl rfl ?_ ?_<;>intro h<;>simp only [nc]at h<;>try (exfalso;omega))
 .subst op;(first
             |exact vx_ (vX_ ..) (vO_ _) (uJ_ (by rfl))
             |exact vx_ (vX_ ..) rfl (uJ_ (by rfl)))
 (refine b_ rfl rfl ?_ ?_<;>intro h<;>simp only [nc]at h<;>try (exfalso;omega))
 .subst op;(first
             |exact vx_ (vV_ ..) (vO_ _) (uJ_ (by rfl))
             |exact vx_ (vV_ ..) rfl (uJ_ (by rfl)))
 (refine b_ rfl rfl ?_ ?_<;>intro h<;>simp only [nc]at h<;>try (exfalso;omega))
 subst op;(first
            |exact vx_ (wF_ ..) (vO_ _) (uJ_ (by rfl))
            |exact vx_ (wF_ ..) rfl (uJ_ (by rfl)))
theorem z6_ (b:Bool):jA_ Tryz.prog 125 [.bool b] (.agg (g_ ⟨1,tI b,some 0⟩)):=by
 refine t8_ (sh:=[none]) (ls:=[.bool b]) (c:=A7_) (n:=300) (t:=Am_) mo ov rfl rfl rfl (λY _=>vE_ _) rfl (by kernel_rfl) λY hf hg=>?_
 unfold Am_
 cases b
 .exact ve_ (t:=false) rfl (λh=>by cases h) (λh=>uJ_ rfl)
 .exact ve_ (t:=true) rfl (λh=>uJ_ rfl) (λh=>by cases h)
theorem BH_ {k:Int} (h:2<=k/\k<=4):jA_ Tryz.prog 159 [.int .i64 k] (.tup [fv (some (loK k)),.bool true]):=by
 refine t8_ (sh:=[none]) (ls:=[.int .i64 k]) (c:=Bc_) (n:=300) (t:=Ar_) mo ov rfl rfl rfl (λY _=>vE_ _) rfl (by kernel_rfl) λY hf hg=>?_
 unfold Ar_
 (refine b_ rfl rfl ?_ ?_<;>intro h<;>simp only [nc]at h<;>try (exfalso;omega))
 .subst k;exact uJ_ rfl
 (refine b_ rfl rfl ?_ ?_<;>intro h<;>simp only [nc]at h<;>try (exfalso;omega))
 .subst k;exact uJ_ rfl
 (refine b_ rfl rfl ?_ ?_<;>intro h<;>simp only [nc]at h<;>try (exfalso;omega))
 subst k;exact uJ_ rfl
theorem xK_ {k:Int} (h:2<=k/\k<=4):Op.negFloat .f64 (loK k)=hiK k:=by
 rcases (by omega:k=2\/k=3\/k=4)with rfl|rfl|rfl<;>kernel_rfl
def mX_ (k:Int) (f:Option Nat):Int:=(z_ k f).getD 0
def ca_ (k:Int) (f:Option Nat):Int:=if (z_ k f).isSome then 0 else 7
theorem cvW {k:Int} {f:Option Nat} {n:Int} (h:2<=k/\k<=4) (hn:z_ k f=some n):(XOp.conv 44 2).run Tryz.prog [fv (uj_ f)]=some (.int .i64 n):=by
 have hi:=(wi_ h hn).i64
 unfold z_ at hn
 split at hn;· cases hn
 split at hn;· cases hn
 split at hn
 .exact uc_ Tryz.underlying44 Tryz.underlying2 hn hi.1 hi.2
 .cases hn
theorem wW_ {k:Int} {f:Option Nat} (h:2<=k/\k<=4) (h0:n7_ f=false) (h1:ordF (uj_ f) (some (loK k))≠some .lt) (h2:ordF (uj_ f) (some (hiK k))=some .lt):∃n,z_ k f=some n:=by
 unfold z_
 rw [h0,if_neg (by decide),if_neg h1,if_pos h2]
 rcases (by omega:k=2\/k=3\/k=4)with rfl|rfl|rfl
 .obtain ⟨m,e,a,b⟩:=tl_ (k:=15) (j:= -37) rfl (by kernel_rfl) (by kernel_rfl) h1 h2
  exact ⟨m,e⟩
 .obtain ⟨m,e,a,b⟩:=tl_ (k:=31) (j:= -21) rfl (by kernel_rfl) (by kernel_rfl) h1 h2
  exact ⟨m,e⟩
 .obtain ⟨m,e,a,b⟩:=tl_ (k:=63) (j:=11) rfl (by kernel_rfl) (by kernel_rfl) h1 h2
  exact ⟨m,e⟩
theorem zg_ {k:Int} (h:2<=k/\k<=4):n7_ (some (loK k))=false/\n7_ (some (hiK k))=false:=by
 rcases (by omega:k=2\/k=3\/k=4)with rfl|rfl|rfl<;>exact ⟨by kernel_rfl,by kernel_rfl⟩
theorem wV_ {k:Int} {f:Option Nat} {n:Int} (h:z_ k f=some n):AV.tup [.int .i64 n,.int .i64 0]=.tup [.int .i64 (mX_ k f),.int .i64 (ca_ k f)]:=by
 unfold mX_ ca_
 rw [h];rfl
theorem v1_ {k:Int} {f:Option Nat} (h:z_ k f=none):AV.tup [.int .i64 0,.int .i64 7]=.tup [.int .i64 (mX_ k f),.int .i64 (ca_ k f)]:=by
 unfold mX_ ca_
 rw [h];rfl
theorem xM_ {k:Int} (h:2<=k/\k<=4) {f:Option Nat} (hn:n7_ f=false):(ordF (uj_ f) (some (loK k))==some .gt||ordF (uj_ f) (some (loK k))==some .eq)= !(ordF (uj_ f) (some (loK k))==some .lt):=by
 obtain ⟨o,e⟩:=uD_ (a:=uj_ f) (b:=some (loK k)) (by rw [uk_];exact hn) (zg_ h).1
 rw [e]
 cases o<;>rfl
theorem BB_ {k:Int} (h:2<=k/\k<=4) (f:Option Nat):jA_ Tryz.prog 122 [.int .i64 k,fv f] (.tup [.int .i64 (mX_ k f),.int .i64 (ca_ k f)]):=by
 refine t8_ (sh:=[none,none]) (ls:=[.int .i64 k,fv f]) (c:=A4_) (n:=300) (t:=Aj_) mo ov rfl (Bv_ ..) rfl (λY _=>vE_ _) rfl (by kernel_rfl) λY hf hg=>?_
 unfold Aj_
 refine uI_ (BH_ h) rfl rfl (vx_ rfl rfl (ve_ (t:=false) rfl (λh=>by cases h) (λ_=>?_)))
 refine uI_ (BE_ f) rfl (by simp only [okL,vO_]) (vx_ (xV_ ..) rfl (ve_ rfl (λh1=>?_) (λh1=>?_)))
 .refine vx_ (vW_ ..) (vO_ _) (vx_ (vV_ ..) rfl (ve_ rfl (λh2=>?_) (λh2=>?_)))
  .have h2:(ordF (uj_ f) (some (Op.negFloat .f64 (loK k)))==some .lt)=true:=h2
   rw [xK_ h]at h2
   have hn:n7_ f=false:=by
    cases hc:n7_ f with
    |false=>rfl
    |true=>
     rw [uY_ (by rw [uk_];exact hc)]at h2
     cases h2
   rw [xM_ h hn]at h1
   obtain ⟨n,hw⟩:=wW_ h hn (λe=>by rw [e]at h1;cases h1) (by simpa using h2)
   exact vx_ (cvW h hw) rfl (uJ_ (wV_ hw))
  .have h2:(ordF (uj_ f) (some (Op.negFloat .f64 (loK k)))==some .lt)=false:=h2
   rw [xK_ h]at h2
   refine uJ_ (v1_ ?_)
   unfold z_
   split;· rfl
   split;· rfl
   split
   .rename_i e;rw [e]at h2;cases h2
   .rfl
 .refine uJ_ (v1_ ?_)
  unfold z_
  split;· rfl
  rename_i hn
  have hn:n7_ f=false:=by simpa using hn
  rw [xM_ h hn]at h1
  rw [if_pos (by simpa using h1)]
theorem Bu_ (f:Option Nat):okL [fv f]=true:=by cases f<;>rfl
theorem w0_ (f:Option Nat):(ordF f f !=some .eq)=n7_ f:=by
 show (!(ordF f f==some .eq))=_
 rw [uC_,Bool.not_not]
theorem By_ (v:FV) (e:Int):okL (g_ v++[.int .i64 e])=true:=oL_.okL_join (okV v) rfl
theorem yA_ (i:Int):(XOp.conv 2 44).run Tryz.prog [.int .i64 i]=some (fv (some (FloatKind.f64.nearest i))):=rfl
end Go.Proofs.YtjconanknjgpnaaGreat.vars
set_option linter.unusedVariables false
set_option linter.unusedSimpArgs false
namespace Go.Proofs.YtjconanknjgpnaaGreat.vars
open Go Go.Sx
def hm_:List Int:=[2,1,2,1,2,3,5,4,2,2,2,2,1,4,1,4,1,2,1,1,1]
def MemOk (mem:List FV):Prop:=mem.map FV.k=hm_/\∀v∈mem,TV v
def cell (mem:List FV) (n:Int):FV:=mem.getD n.toNat FV.z
def R_ (mem:List FV) (op kd ad n:Int) (a b:FV):Except Int FV:=
 if op=3 then (if a.i<0\/n<=a.i then .error 6 else .ok (cell mem (ad+a.i)))
 else if op=17 then es_ kd a
 else if opE op a.k b=0 then .ok (opV op a.k a b)else .error (opE op a.k b)
mutual
def e_ (mem:List FV):GX->Except Int FV
 | .mk op kd nm fd ad n vk vi vf args=>if op=1 then .ok ⟨vk,vi,some vf⟩else if op=2 then .ok (cell mem ad)else match f_ mem args with
   | .error e=>.error e
   | .ok l=>R_ mem op kd ad n (l.headD FV.z) (l.getLastD FV.z)
def f_ (mem:List FV):List GX->Except Int (List FV)
 |[]=>.ok []
 |a::r=>match e_ mem a with
  | .error e=>.error e
  | .ok v=>match f_ mem r with
    | .error e=>.error e
    | .ok l=>.ok (v::l)
end
section
variable {mem:List FV}
theorem MemOk.len (h:MemOk mem):mem.length=21:=by
 have:=congrArg List.length h.1
 rw [List.length_map]at this
 exact this
theorem wp_ {n:Nat} (h:n<mem.length):cell mem (n:Int)=mem[n]:=by
 unfold cell
 rw [Int.toNat_natCast,List.getD_eq_getElem?_getD,List.getElem?_eq_getElem h]
 rfl
theorem MemOk.cell (h:MemOk mem) {n:Int} (h1:0<=n) (h2:n<21):TV (cell mem n)/\(cell mem n).k=hm_.getD n.toNat 0:=by
 obtain ⟨m,rfl⟩:∃m:Nat,n=(m:Int):=⟨n.toNat,by omega⟩
 have hl:=h.len
 have hm:m<mem.length:=by omega
 rw [wp_ hm]
 refine ⟨h.2 _ (List.getElem_mem hm),?_⟩
 have:hm_=mem.map FV.k:=h.1.symm
 rw [this,Int.toNat_natCast,List.getD_eq_getElem?_getD,List.getElem?_map,List.getElem?_eq_getElem hm]
 rfl
theorem cells_k:∀t∈uQ_,0<=t.1/\t.1<21/\hm_.getD t.1.toNat 0=t.2:=by decide
theorem zz_ {d:Nat} {op kd:Int} {nm fd:List UInt8} {ad n vk vi:Int} {vf:Nat} {args:List GX} (h:TX d (.mk op kd nm fd ad n vk vi vf args)):1<=op/\op<=17:=by
 cases d with
 |zero=>exact h.elim
 |succ d=>
  have:=h.1
  unfold Ari at this
  omega
theorem yl_ {op b:Int}:s0_ op b=0\/s0_ op b=5:=by
 unfold s0_
 split
 .exact .inr rfl
 .exact .inl rfl
theorem zj_ {op k:Int} {b:FV}:opE op k b=0\/opE op k b=5:=by
 unfold opE
 split
 .exact .inl rfl
 .exact yl_
def zB_ (l:List GX) (vs:List FV):Prop:=vs.map FV.k=l.map GX.kd/\∀v∈vs,TV v
theorem ut_ {d:Nat} (hx:∀x,TX d x->∀v,e_ mem x=.ok v->TV v/\v.k=x.kd):∀(l:List GX),(∀a∈l,TX d a)->∀vs,f_ mem l=.ok vs->zB_ l vs
 |[],_,vs,h=>by
  simp only [f_,Except.ok.injEq]at h
  subst h
  exact ⟨rfl,λv hv=>(List.not_mem_nil hv).elim⟩
 |a::r,hl,vs,h=>by
  simp only [f_]at h
  split at h
  .cases h
  .rename_i v hv
   split at h
   .cases h
   .rename_i ws hw
    cases h
    obtain ⟨h1,h2⟩:=ut_ hx r (λb hb=>hl b (List.mem_cons_of_mem _ hb)) ws hw
    obtain ⟨h3,h4⟩:=hx a (hl a List.mem_cons_self) v hv
    refine ⟨by simp only [List.map_cons,h4,h1],λu hu=>?_⟩
    rcases List.mem_cons.1 hu with rfl|hu
    .exact h3
    .exact h2 u hu
theorem y1_ {op:Int} {n:Nat} (h:Ari op n) (h1:op≠1) (h2:op≠2):op=3\/op=17\/op=15\/op=16\/(4<=op/\op<=14):=by
 unfold Ari at h
 omega
theorem ws_ {vs:List FV} {k:Int} (h:vs.map FV.k=[k]):∃a,vs=[a]/\a.k=k:=by
 match vs,h with
 |[],h=>cases h
 |[a],h=>exact ⟨a,rfl,by simpa using h⟩
 |_::_::_,h=>simp at h
theorem zt_ {vs:List FV} {k l:Int} (h:vs.map FV.k=[k,l]):∃a b,vs=[a,b]/\a.k=k/\b.k=l:=by
 match vs,h with
 |[],h=>cases h
 |[a],h=>simp at h
 |[a,b],h=>exact ⟨a,b,rfl,by simpa using h⟩
 |_::_::_::_,h=>simp at h
theorem wz_ {d:Nat} {op kd:Int} {nm fd:List UInt8} {ad n vk vi:Int} {vf:Nat} {args:List GX} (hm:MemOk mem) (h:TX (d+1) (.mk op kd nm fd ad n vk vi vf args)) (h1:op≠1) (h2:op≠2) {vs:List FV} (hv:zB_ args vs):
  ∃a b:FV,vs.headD FV.z=a/\vs.getLastD FV.z=b/\TV a/\TV b/\(op=3->(a.k=2\/a.k=3)/\vs=[a])/\(op=17->2<=a.k/\a.k<=5/\vs=[a])/\(op≠3->op≠17->OpK op a.k/\b.k=a.k/\(if 9<=op/\op<=12 then 1 else a.k)=kd/\(vs=[a]/\(op=15\/op=16)\/vs=[a,b]/\op<=14))/\
   ∀v,R_ mem op kd ad n a b=.ok v->TV v/\v.k=kd:=by
 obtain ⟨a1,a2,a3,a4,⟨k1,k2,k3,k4,k5,k6,k7⟩,a6⟩:=h
 have hop:=y1_ a1 h1 h2
 have hks:=hv.1
 have key:∀a b:FV,TV a->TV b->(op=3->ad=8/\n=4/\kd=2)->(op=17->2<=kd/\kd<=5)->(op≠3->op≠17->OpK op a.k/\b.k=a.k/\(if 9<=op/\op<=12 then 1 else a.k)=kd)->∀v,R_ mem op kd ad n a b=.ok v->TV v/\v.k=kd:=by
  intro a b ha hb e3 e17 eo v hf
  unfold R_ at hf
  split at hf
  .rename_i e
   obtain ⟨rfl,rfl,rfl⟩:=e3 e
   split at hf
   .cases hf
   .rename_i hr
    cases hf
    have hr1:0<=a.i/\a.i<4:=by omega
    obtain ⟨p,q⟩:=hm.cell (n:=8+a.i) (by omega) (by omega)
    refine ⟨p,?_⟩
    rw [q]
    rcases (by omega:a.i=0\/a.i=1\/a.i=2\/a.i=3)with e|e|e|e<;>rw [e]<;>rfl
  .rename_i n3
   split at hf
   .rename_i e
    exact xu_ (e17 e) ha hf
   .rename_i n17
    obtain ⟨q1,q2,q3⟩:=eo n3 n17
    split at hf
    .cases hf
     exact ⟨zk_ q1 ha rfl,by rw [z0_ q1,q3]⟩
    .cases hf
 rcases hop with e|e|e|e|e
 .obtain ⟨r1,r2,r3,k,r4,r5⟩:=k3 e
  rw [r4]at hks
  obtain ⟨a,rfl,hk⟩:=ws_ hks
  .clear k1 k2 k3 k4 k5 k6 k7
   have ha:=hv.2 a List.mem_cons_self
   exact ⟨a,a,rfl,rfl,ha,ha,λ_=>⟨by omega,rfl⟩,λh=>by omega,λh=>absurd e h,key a a ha ha (λ_=>⟨r1,r2,r3⟩) (λh=>by omega) (λh=>absurd e h)⟩
 .obtain ⟨r1,r2,k,r4,r5⟩:=k7 e
  rw [r4]at hks
  obtain ⟨a,rfl,hk⟩:=ws_ hks
  .clear k1 k2 k3 k4 k5 k6 k7
   have ha:=hv.2 a List.mem_cons_self
   exact ⟨a,a,rfl,rfl,ha,ha,λh=>by omega,λ_=>⟨by omega,by omega,rfl⟩,λ_ h=>absurd e h,key a a ha ha (λh=>by omega) (λ_=>⟨r1,r2⟩) (λ_ h=>absurd e h)⟩
 .obtain ⟨r1,r4⟩:=k5 e
  rw [r4]at hks
  obtain ⟨a,rfl,hk⟩:=ws_ hks
  .clear k1 k2 k3 k4 k5 k6 k7
   have ha:=hv.2 a List.mem_cons_self
   have ho:OpK op a.k:=by unfold OpK;omega
   have hi:(if 9<=op/\op<=12 then 1 else a.k)=kd:=by rw [if_neg (by omega)];omega
   exact ⟨a,a,rfl,rfl,ha,ha,λh=>by omega,λh=>by omega,λ_ _=>⟨ho,rfl,hi,.inl ⟨rfl,.inl e⟩⟩,key a a ha ha (λh=>by omega) (λh=>by omega) (λ_ _=>⟨ho,rfl,hi⟩)⟩
 .obtain ⟨r4,r1,r2⟩:=k6 e
  rw [r4]at hks
  obtain ⟨a,rfl,hk⟩:=ws_ hks
  .clear k1 k2 k3 k4 k5 k6 k7
   have ha:=hv.2 a List.mem_cons_self
   have ho:OpK op a.k:=by unfold OpK;omega
   have hi:(if 9<=op/\op<=12 then 1 else a.k)=kd:=by rw [if_neg (by omega)];omega
   exact ⟨a,a,rfl,rfl,ha,ha,λh=>by omega,λh=>by omega,λ_ _=>⟨ho,rfl,hi,.inl ⟨rfl,.inr e⟩⟩,key a a ha ha (λh=>by omega) (λh=>by omega) (λ_ _=>⟨ho,rfl,hi⟩)⟩
 .obtain ⟨k,r4,r1,r2,r5,r6,r7,r8,r9⟩:=k4 e
  rw [r4]at hks
  obtain ⟨a,b,rfl,hk⟩:=zt_ hks
  .clear k1 k2 k3 k4 k5 k6 k7
   have ha:=hv.2 a List.mem_cons_self
   have hb:=hv.2 b (List.mem_cons_of_mem _ List.mem_cons_self)
   have ho:OpK op a.k:=by unfold OpK;omega
   have hi:(if 9<=op/\op<=12 then 1 else a.k)=kd:=by
    by_cases h9:9<=op/\op<=12
    .rw [if_pos h9];omega
    .rw [if_neg h9];omega
   exact ⟨a,b,rfl,rfl,ha,hb,λh=>by omega,λh=>by omega,λ_ _=>⟨ho,by omega,hi,.inr ⟨rfl,by omega⟩⟩,key a b ha hb (λh=>by omega) (λh=>by omega) (λ_ _=>⟨ho,by omega,hi⟩)⟩
theorem zf_ {d:Nat} {op kd:Int} {nm fd:List UInt8} {ad n vk vi:Int} {vf:Nat} {args:List GX} (h:TX (d+1) (.mk op kd nm fd ad n vk vi vf args)) (h1:op=1):TV ⟨vk,vi,some vf⟩/\vk=kd:=by
 obtain ⟨q1,q2,q3,q4,q5,q6,q7,q8⟩:=h.2.2.2.2.1.1 h1
 refine ⟨⟨?_,λh=>by rw [q8 h]⟩,q1.symm⟩
 show InK vk vi
 unfold InK
 omega
theorem wZ_ {d:Nat} {op kd:Int} {nm fd:List UInt8} {ad n vk vi:Int} {vf:Nat} {args:List GX} (hm:MemOk mem) (h:TX (d+1) (.mk op kd nm fd ad n vk vi vf args)) (h2:op=2):TV (cell mem ad)/\(cell mem ad).k=kd/\0<=ad/\ad<21:=by
 have:=cells_k _ (h.2.2.2.2.1.2.1 h2)
 obtain ⟨p,q⟩:=hm.cell this.1 this.2.1
 exact ⟨p,by rw [q];exact this.2.2,this.1,this.2.1⟩
theorem X_ (hm:MemOk mem):∀(d:Nat) (x:GX),TX d x->∀v,e_ mem x=.ok v->TV v/\v.k=x.kd
 |0,_,h,_,_=>h.elim
 |d+1,.mk op kd nm fd ad n vk vi vf args,h,v,hv=>by
  simp only [e_]at hv
  split at hv
  .rename_i e
   cases hv
   exact zf_ h e
  .rename_i n1
   split at hv
   .rename_i e
    cases hv
    obtain ⟨p,q,_⟩:=wZ_ hm h e
    exact ⟨p,q⟩
   .rename_i n2
    split at hv
    .cases hv
    .rename_i vs hvs
     have hV:=ut_ (X_ hm d) args h.2.2.2.2.2 vs hvs
     obtain ⟨a,b,e1,e2,_,_,_,_,_,hf⟩:=wz_ hm h n1 n2 hV
     rw [e1,e2]at hv
     exact hf v hv
theorem xg_ {k e:Int} {v:FV} (h:es_ k v=.error e):e=7:=by
 unfold es_ at h
 split at h
 .split at h<;>cases h
 .split at h
  .split at h
   .cases h
   .cases h;rfl
  .cases h
theorem xj_ {op kd ad n:Int} {a b:FV} {e:Int} (h:R_ mem op kd ad n a b=.error e):e=5\/e=6\/e=7:=by
 unfold R_ at h
 split at h
 .split at h
  .cases h;exact .inr (.inl rfl)
  .cases h
 .split at h
  .exact .inr (.inr (xg_ h))
  .split at h
   .cases h
   .rename_i hne
    cases h
    rcases zj_ (op:=op) (k:=a.k) (b:=b)with h0|h0
    .exact absurd h0 hne
    .exact .inl h0
mutual
theorem p_:∀(x:GX) (e:Int),e_ mem x=.error e->e=5\/e=6\/e=7
 | .mk op kd nm fd ad n vk vi vf args,e,h=>by
   simp only [e_]at h
   split at h
   .cases h
   .split at h
    .cases h
    .split at h
     .rename_i e' he
      cases h
      exact V_ args e he
     .exact xj_ h
theorem V_:∀(l:List GX) (e:Int),f_ mem l=.error e->e=5\/e=6\/e=7
 |[],e,h=>by simp [f_]at h
 |a::r,e,h=>by
  simp only [f_]at h
  split at h
  .rename_i e' he
   cases h
   exact p_ a e he
  .split at h
   .rename_i e' he
    cases h
    exact V_ r e he
   .cases h
end
end
end Go.Proofs.YtjconanknjgpnaaGreat.vars
set_option maxRecDepth 100000
set_option linter.unusedVariables false
set_option linter.unusedSimpArgs false
namespace Go.Proofs.YtjconanknjgpnaaGreat.vars
open Go Go.Sx
def d_ (l:List FV):AV:=c2_ g_ 3 l
theorem p8_ (l:List FV):okC (d_ l)=true:=by
 unfold d_
 cases l with
 |nil=>rfl
 |cons a r=>
  simp only [c2_,okC]
  exact oL_ okV (a::r)
theorem ak_ (l:List FV):(XOp.len 31).run Tryz.prog [d_ l]=some (.int .i64 (l.length:Int)):=ue_ Tryz.underlying31 l
theorem uy_ (l:List FV) {i:Nat} (h:i<l.length):(XOp.iaddr 31).run Tryz.prog [d_ l,.int .i64 (i:Int)]=some (.vptr (bA_ g_ (l.drop i))):=
 run_iaddr_sl (e:=46) (ti:=(Tryz.prog.info? 46).get!) Tryz.underlying31 (by kernel_rfl) (by kernel_rfl) v7_ h .i64
theorem uz_ (l:List FV) {i:Nat} (h:i<l.length):(XOp.load 46).run Tryz.prog [.vptr (bA_ g_ (l.drop i))]=some (.agg (g_ l[i])):=
 run_load_agg (ti:=(Tryz.prog.info? 46).get!) Tryz.underlying46 rfl (by kernel_rfl) (by kernel_rfl) v7_ h
theorem xL_ {op:Int} (h:OpK op 5):OpR op:=by
 unfold OpK at h
 unfold OpR
 omega
def RE0 (e:Int):Nat->List AV->Prop:=λj ws=>(j=0/\e=0/\ws=[])\/(j=1/\e≠0/\ws=[.int .i64 e])
theorem xN_ (e:Int):CF Tryz.prog 113 ft113 [.int .i64 e] (RE0 e):=by
 refine vh_ (c:=A0_) (n:=300) (t:=Af_) mo ov rfl (λY _=>vE_ _) (by kernel_rfl) λY hf hg=>?_
 unfold Af_
 (refine b_ rfl rfl ?_ ?_<;>intro h<;>simp only [nc]at h<;>try (exfalso;omega))
 .exact VOK_fin rfl (.inr ⟨rfl,h,rfl⟩)
 .exact VOK_fin rfl (.inl ⟨rfl,h,rfl⟩)
def RV (r:Except Int FV):Nat->List AV->Prop:=λj ws=>(∃v,r=.ok v/\j=0/\ws=g_ v)\/(∃e,r=.error e/\j=1/\ws=[.int .i64 e])
theorem sJ_ {r:Except Int FV} {v:FV} {hv:List AV} {Y:Sy} {L:List (Nat->List AV->Prop)} (h:ab_ Y.v hv=g_ v) (hr:r=.ok v):VOK Tryz.prog (QF (RV r)) L Y (.done (.tup (.int .i64 0::hv))):=
 VOK_fin (j:=0) (by rw [h];exact okV v) (.inl ⟨v,hr,rfl,h⟩)
theorem wP_ {r:Except Int FV} {e:Int} {hv:List AV} {Y:Sy} {L:List (Nat->List AV->Prop)} (h:ab_ Y.v hv=[.int .i64 e]) (hr:r=.error e):VOK Tryz.prog (QF (RV r)) L Y (.done (.tup (.int .i64 1::hv))):=
 VOK_fin (j:=1) (by rw [h];rfl) (.inr ⟨e,hr,rfl,h⟩)
theorem p82 {k:Int} (h:2<=k/\k<=5) (v:FV) (hv:1<=v.k/\v.k<=5):CF Tryz.prog 82 ft82 (.int .i64 k::g_ v) (RV (es_ k v)):=by
 refine vh_ (c:=c82) (n:=300) (t:=t82) mo ov rfl (λY _=>vE_ _) (by kernel_rfl) λY hf hg=>?_
 unfold t82
 (refine b_ rfl rfl ?_ ?_<;>intro h<;>simp only [nc]at h<;>try (exfalso;omega))
 .subst h
  (refine b_ rfl rfl ?_ ?_<;>intro h<;>simp only [nc]at h<;>try (exfalso;omega))
  .exact sJ_ (v:=v) rfl (by unfold es_;rw [if_pos rfl,if_pos h])
  .have h5:=h
   (refine b_ rfl rfl ?_ ?_<;>intro h<;>simp only [nc]at h<;>try (exfalso;omega))
   exact vx_ (yA_ _) rfl (sJ_ (v:=⟨5,0,some (FloatKind.f64.nearest v.i)⟩) rfl (by unfold es_;rw [if_pos rfl,if_neg h5]))
 have hk:2<=k/\k<=4:=by omega
 (refine b_ rfl rfl ?_ ?_<;>intro h<;>simp only [nc]at h<;>try (exfalso;omega))
 (refine b_ rfl rfl ?_ ?_<;>intro h<;>simp only [nc]at h<;>try (exfalso;omega))
 .have h5:=h
  refine uI_ (BB_ hk v.f) rfl rfl ?_
  refine uw_ (xN_ _) rfl ⟨?_,?_,trivial⟩
  .rintro ws (⟨_,h0,rfl⟩|⟨h0,_⟩)
   .cases hw:z_ k v.f with
    |some n=>
     have e2:mX_ k v.f=n:=by unfold mX_;rw [hw];rfl
     rw [←e2]at hw
     exact sJ_ (v:=⟨k,mX_ k v.f,some 0⟩) rfl (by unfold es_;rw [if_neg (by omega),if_pos h5,hw])
    |none=>
     unfold ca_ at h0
     rw [hw]at h0
     cases h0
   .cases h0
  .rintro ws (⟨h0,_⟩|⟨_,h0,rfl⟩)
   .cases h0
   .cases hw:z_ k v.f with
    |some n=>
     unfold ca_ at h0
     rw [hw]at h0
     exact absurd rfl h0
    |none=>
     have e1:ca_ k v.f=7:=by unfold ca_;rw [hw];rfl
     exact wP_ (e:=7) (by rw [←e1];rfl) (by unfold es_;rw [if_neg (by omega),if_pos h5,hw])
 .have h5:=h
  exact uI_ (yw_ _ _) rfl rfl (sJ_ (v:=⟨k,w_ k v.i,some 0⟩) rfl (by unfold es_;rw [if_neg (by omega),if_neg h5]))
def opX (op:Int) (a b:FV):Except Int FV:=if opE op a.k b=0 then .ok (opV op a.k a b)else .error (opE op a.k b)
theorem p83 {op:Int} {a b:FV} {l:List FV} (ho:OpK op a.k) (ha:TV a) (h0:∃h:0<l.length,l[0]=a) (h1:∃h:l.length-1<l.length,l[l.length-1]=b) (hl:l.length<=2):CF Tryz.prog 83 ft83 [.int .i64 op,d_ l] (RV (opX op a b)):=by
 obtain ⟨q0,e0⟩:=h0
 obtain ⟨q1,e1⟩:=h1
 refine vh_ (c:=c83) (n:=300) (t:=t83) mo ov rfl (λY _=>vE_ _) (by kernel_rfl) λY hf hg=>?_
 unfold t83
 refine vx_ (uy_ l (i:=0) q0) (oL_ okV _) (vf_ (uz_ l q0) rfl (okV _) (vx_ (ak_ l) rfl ?_))
 refine vx_ (s_ (z:=((l.length-1:Nat):Int)) (by omega) (by omega) (by omega)) rfl (vx_ (uy_ l q1) (oL_ okV _) (vf_ (uz_ l q1) rfl (okV _) ?_))
 rw [e0,e1]
 (refine b_ rfl rfl ?_ ?_<;>intro h<;>simp only [nc]at h<;>try (exfalso;omega))
 .have h5:=h
  have hr:=xL_ (h5▸ho)
  have hw:opX op a b=.ok (we_ op a.f b.f):=by unfold opX opE opV;rw [if_pos h5,if_pos rfl,if_pos h5]
  rw [yz_ hr]at hw
  refine uI_ (BC_ op a.f b.f hr) rfl (by simp only [okL,okC,vO_]) (vx_ rfl rfl (ve_ (t:=false) rfl (λh=>by cases h) (λ_=>?_)))
  (refine b_ rfl rfl ?_ ?_<;>intro h<;>simp only [nc]at h<;>try (exfalso;omega))
  ·(refine b_ rfl rfl ?_ ?_<;>intro h<;>simp only [nc]at h<;>try (exfalso;omega))
   .rw [if_pos (by omega)]at hw
    exact uI_ (z6_ _) rfl rfl (sJ_ rfl hw)
   .rw [if_neg (by omega)]at hw
    exact sJ_ (v:=⟨5,0,w8_ op a.f b.f⟩) rfl hw
  .rw [if_neg (by omega)]at hw
   exact sJ_ (v:=⟨5,0,w8_ op a.f b.f⟩) rfl hw
 have h5:=h
 refine uI_ (BD_ op a.k a.i b.i ho h5) rfl rfl ?_
 have he:opE op a.k b=s0_ op b.i:=by unfold opE;rw [if_neg h5]
 refine uw_ (xN_ _) rfl ⟨?_,?_,trivial⟩
 .rintro ws (⟨_,h0,rfl⟩|⟨h0,_⟩)
  .have hi:N_ op a.k a.i b.i=v5_ op a.k a.i b.i:=by unfold N_;rw [if_pos h0]
   have hw:opX op a b=.ok ⟨if 9<=op/\op<=12 then 1 else a.k,N_ op a.k a.i b.i,some 0⟩:=by
    unfold opX opV;rw [he,if_pos h0,if_neg h5,hi]
   (refine b_ rfl rfl ?_ ?_<;>intro h<;>simp only [nc]at h<;>try (exfalso;omega))
   ·(refine b_ rfl rfl ?_ ?_<;>intro h<;>simp only [nc]at h<;>try (exfalso;omega))
    .rw [if_pos (by omega)]at hw
     have ht:tI (decide (¬N_ op a.k a.i b.i=0))=N_ op a.k a.i b.i:=by
      rw [hi,O_ (by omega)]
      cases xf_ op a.i b.i<;>rfl
     refine vx_ (run_neq ..) rfl (uI_ (z6_ _) rfl rfl (sJ_ (v:=⟨1,tI (decide (¬N_ op a.k a.i b.i=0)),some 0⟩) ?_ (by rw [ht];exact hw)))
     by_cases hb:N_ op a.k a.i b.i=0<;>simp [hb]<;>rfl
    .rw [if_neg (by omega)]at hw
     exact sJ_ (v:=⟨a.k,N_ op a.k a.i b.i,some 0⟩) rfl hw
   .rw [if_neg (by omega)]at hw
    exact sJ_ (v:=⟨a.k,N_ op a.k a.i b.i,some 0⟩) rfl hw
  .cases h0
 .rintro ws (⟨h0,_⟩|⟨_,h0,rfl⟩)
  .cases h0
  .exact wP_ (e:=s0_ op b.i) rfl (by unfold opX;rw [he,if_neg h0])
end Go.Proofs.YtjconanknjgpnaaGreat.vars
set_option maxRecDepth 100000
set_option linter.unusedVariables false
set_option linter.unusedSimpArgs false
namespace Go.Proofs.YtjconanknjgpnaaGreat.vars
open Go Go.Sx
theorem xU_ (l:List FV) (s:FV) (hl:l.length<=100000):(XOp.app 3 24).run Tryz.prog [d_ l,.agg (g_ s)]=some (d_ (l++[s])):=
 ub_ v7_ (by decide) (by decide) l s (by omega)
def v3_ (mem:List FV) (args:List GX) (acc:List FV) (i:Nat):Prop:=f_ mem args=(match f_ mem (args.drop i)with
 | .error e=>.error e
 | .ok l=>.ok (acc++l))
theorem xR_ (mem:List FV) (args:List GX):v3_ mem args [] 0:=by
 unfold v3_
 rw [List.drop_zero]
 cases f_ mem args<;>rfl
theorem w9_ {mem:List FV} {args:List GX} {acc:List FV} {i:Nat} {e:Int} (h:v3_ mem args acc i) (hi:i<args.length) (he:e_ mem args[i]=.error e):f_ mem args=.error e:=by
 unfold v3_ at h
 rw [h,List.drop_eq_getElem_cons hi,f_,he]
theorem xa_ {mem:List FV} {args:List GX} {acc:List FV} {i:Nat} {v:FV} (h:v3_ mem args acc i) (hi:i<args.length) (he:e_ mem args[i]=.ok v):v3_ mem args (acc++[v]) (i+1):=by
 unfold v3_ at*
 rw [h,List.drop_eq_getElem_cons hi,f_,he]
 cases f_ mem (args.drop (i+1))with
 |error e=>rfl
 |ok l=>simp
theorem xS_ {mem:List FV} {args:List GX} {acc:List FV} (h:v3_ mem args acc args.length):f_ mem args=.ok acc:=by
 unfold v3_ at h
 rw [List.drop_length,f_]at h
 simpa using h
theorem aO_ {mem:List FV} {op kd:Int} {nm fd:List UInt8} {ad n vk vi:Int} {vf:Nat} {args:List GX} (h1:op≠1) (h2:op≠2) {l:List FV} (h:f_ mem args=.ok l):e_ mem (.mk op kd nm fd ad n vk vi vf args)=R_ mem op kd ad n (l.headD FV.z) (l.getLastD FV.z):=by
 rw [e_,if_neg h1,if_neg h2,h]
theorem sm_ {mem:List FV} {op kd:Int} {nm fd:List UInt8} {ad n vk vi:Int} {vf:Nat} {args:List GX} (h1:op≠1) (h2:op≠2) {e:Int} (h:f_ mem args=.error e):e_ mem (.mk op kd nm fd ad n vk vi vf args)=.error e:=by
 rw [e_,if_neg h1,if_neg h2,h]
theorem xh_ {mem:List FV} {op kd:Int} {nm fd:List UInt8} {ad n vk vi:Int} {vf:Nat} {args:List GX} (h1:op=1):e_ mem (.mk op kd nm fd ad n vk vi vf args)=.ok ⟨vk,vi,some vf⟩:=by
 rw [e_,if_pos h1]
theorem wO_ {mem:List FV} {op kd:Int} {nm fd:List UInt8} {ad n vk vi:Int} {vf:Nat} {args:List GX} (h1:op=2):e_ mem (.mk op kd nm fd ad n vk vi vf args)=.ok (cell mem ad):=by
 rw [e_,if_neg (by omega),if_pos h1]
theorem wA_ {l:List GX} {k:Int} (h:l.map GX.kd=[k]):∃y,l=[y]/\y.kd=k:=by
 match l,h with
 |[],h=>cases h
 |[a],h=>exact ⟨a,rfl,by simpa using h⟩
 |_::_::_,h=>simp at h
end Go.Proofs.YtjconanknjgpnaaGreat.vars
set_option linter.unusedVariables false
set_option linter.unusedSimpArgs false
namespace Go.Sx
section
variable {P:Program} {t:TypeId} {ti:TypeInfo} {α:Type} {enc:α->List AV} {w:Nat}
theorem run_ldx1 {d:TypeDesc} (ht:P.underlying t=some d) (ha:lS_ d=false) (hw:∀a,(enc a).length=w) {l:List α} {i:Nat} (hi:i<l.length) {off:Nat} {v:AV} {p r:List AV} (he:enc l[i]=p++(v::r)) (hp:p.length=off) (k:IntKind):(XOp.ldx t w off).run P [c2_ enc w l,.int k (i:Int)]=some v:=by
 obtain ⟨a,b,e1,e2,_⟩:=wN_ hw l hi
 obtain ⟨x0,l',rfl⟩:∃x l',l=x::l':=by cases l with|nil=>simp at hi|cons x l'=>exact ⟨x,l',rfl⟩
 show bl_ P (qk_ (bA_ enc (x0::l'))) t (.ptr 0 (i*w+off))=_
 unfold bl_
 simp only [ht,ha]
 have hg:(qk_ (bA_ enc (x0::l'))).get 0=some (.cells (bA_ enc (x0::l'))):=rfl
 unfold aV_
 simp only [hg]
 have hd:af_ (i*w+off) (bA_ enc (x0::l'))=v::(r++b):=by
  rw [aq_,e1,he,←e2,←hp]
  rw [show a++(p++v::r++b)=(a++p)++(v::(r++b)) by simp [List.append_assoc]]
  rw [←List.length_append,List.drop_left]
 rw [hd]
 rfl
theorem run_ldxN {d:TypeDesc} (ht:P.underlying t=some d) (ha:lS_ d=true) (hinf:P.info? t=some ti) (hs:ti.size=w) (hw:∀a,(enc a).length=w) {l:List α} {i:Nat} (hi:i<l.length) (k:IntKind):(XOp.ldx t w 0).run P [c2_ enc w l,.int k (i:Int)]=some (.agg (enc l[i])):=by
 obtain ⟨a,b,e1,e2,_⟩:=wN_ hw l hi
 obtain ⟨x0,l',rfl⟩:∃x l',l=x::l':=by cases l with|nil=>simp at hi|cons x l'=>exact ⟨x,l',rfl⟩
 show bl_ P (qk_ (bA_ enc (x0::l'))) t (.ptr 0 (i*w+0))=_
 unfold bl_
 simp only [ht,ha,hinf]
 have hg:(qk_ (bA_ enc (x0::l'))).get 0=some (.cells (bA_ enc (x0::l'))):=rfl
 unfold aV_
 simp only [hg]
 have hd:af_ (i*w+0) (bA_ enc (x0::l'))=enc (x0::l')[i]++b:=by
  rw [aq_,e1,Nat.add_zero,←e2,List.drop_left]
 have hl:ti.size=(enc (x0::l')[i]).length:=by rw [hs,hw]
 rw [hd,hl,eW_]
end
end Go.Sx
set_option maxRecDepth 100000
set_option linter.unusedVariables false
set_option linter.unusedSimpArgs false
namespace Go.Proofs.YtjconanknjgpnaaGreat.vars
open Go Go.Sx
def c81:VC:=⟨⟨[],[]⟩,[],[],2,true,[(49,et_),(113,ft113)]⟩
def t81:VT:=
 (.lt Q9 [76,J 0] 77 none
 (.lt Qb [77] 78 (some 10)
 (.callF 49 et_ [64,65,66,78,79,80,81,82,83,84,85,86,87] 88
 (.cons 3
 (.lt Z8 [102,J 0] 104 none
 (.ite 104
 (.callF 113 ft113 [J 6] 105
 (.cons 0
 (.lt Qy [71,102] 106 none
 (.done (.tup [J 0,106])))
 (.cons 1
 (.done (.tup [J 1,106]))
 .nil)))
 (.lt Qq [102,72] 105 none
 (.ite 105
 (.callF 113 ft113 [J 6] 106
 (.cons 0
 (.lt Qy [71,102] 107 none
 (.done (.tup [J 0,107])))
 (.cons 1
 (.done (.tup [J 1,107]))
 .nil)))
 (.lt Qy [71,102] 106 none
 (.done (.tup [J 0,106])))))))
 (.cons 1
 (.done (.tup [J 1,101]))
 .nil)))))
def c49:VC:=⟨⟨[],[]⟩,[],[(1,[⟨[(49,.slx 0 0 0),(0,.ptr 0 0),(5,.slx 4 3 1),(47,76),(3,.ptr 2 0),(4,.ptr 3 0),(48,81)],[(0,[.ptx 1 64 3 0,65,66]),(2,[67,68,69,70,71,72,73,74,75,76]),(3,[J 0,J 0,.flt .f64 0])],5,2,[⟨4,3,1,5,none⟩],[],[(1,64)]⟩])],2,true,[(49,et_),(81,xi_),(82,ft82),(83,ft83)]⟩
def t49:VT:=
 (.lt Q0 [67,J 1] 77 none
 (.ite 77
 (.done (.tup [J 0,73,74,75]))
 (.lt Q0 [67,J 2] 78 none
 (.ite 78
 (.lt Q1 [64,71] 79 none
 (.lt Qa [64,79] 80 (some 3)
 (.done (.tup [J 0,80,81,82]))))
 (.lt Q0 [67,J 3] 79 none
 (.ite 79
 (.callF 81 xi_ [64,65,66,67,68,69,70,71,72,73,74,75,76] 80
 (.cons 1
 (.lt Q1 [64,93] 94 none
 (.lt Qa [64,94] 95 (some 3)
 (.done (.tup [J 0,95,96,97]))))
 (.cons 1
 (.done (.tup [J 1,93]))
 .nil)))
 (.lt Q0 [67,J 17] 80 none
 (.ite 80
 (.lt Q9 [76,J 0] 81 none
 (.lt Qb [81] 82 (some 10)
 (.callF 49 et_ [64,65,66,82,83,84,85,86,87,88,89,90,91] 92
 (.cons 3
 (.callF 82 ft82 [68,105,106,107] 108
 (.cons 3
 (.done (.tup [J 0,112,113,114]))
 (.cons 1
 (.done (.tup [J 1,112]))
 .nil)))
 (.cons 1
 (.done (.tup [J 1,105]))
 .nil)))))
 (.lt Qc [76] 81 none
 (.loop 82 0 [J 0,.nsl]
 (.cons 2
 (.lt Q4 [82,81] 84 none
 (.ite 84
 (.lt Q9 [76,82] 85 none
 (.lt Qb [85] 86 (some 10)
 (.callF 49 et_ [64,65,66,86,87,88,89,90,91,92,93,94,95] 96
 (.cons 3
 (.lt Qn [83,.agg [109,110,111]] 112 none
 (.lt Q2 [82,J 1] 113 none
 (.again 0 0 [113,112])))
 (.cons 1
 (.done (.tup [J 1,109]))
 .nil)))))
 (.callF 83 ft83 [67,83] 85
 (.cons 3
 (.done (.tup [J 0,87,88,89]))
 (.cons 1
 (.done (.tup [J 1,87]))
 .nil)))))
 .nil)))))))))))
theorem Z_ (l:List FV) {i:Nat} (hi:i<l.length):(XOp.inb).run Tryz.prog [d_ l,.int .i64 (i:Int)]=some (.int .i64 (i:Int)):=yB_ (enc:=g_) hi .i64
theorem wK_ (l:List FV) {i:Nat} (hi:i<l.length):(XOp.ldx 46 3 0).run Tryz.prog [d_ l,.int .i64 (i:Int)]=some (.agg (g_ l[i])):=
 run_ldxN (ti:=(Tryz.prog.info? 46).get!) Tryz.underlying46 rfl (by kernel_rfl) (by kernel_rfl) v7_ hi .i64
def MR (mem:List FV) (now left:Int):List AV:=[d_ mem,.int .i64 now,.int .i64 left]
theorem yt_ (mem:List FV) (now left:Int) {l:List AV} (h:okL l=true):okL (MR mem now left++l)=true:=oL_.okL_join (by simp only [MR,okL,okC,p8_]) h
theorem v8_ (mem:List FV) (now left:Int) (x:GX):okL (MR mem now left++j_ x)=true:=yt_ _ _ _ (okX x)
def RP (mem:List FV) (x:GX):Nat->List AV->Prop:=λj ws=>(match x with| .mk op kd nm fd ad n vk vi vf args=>∃a,f_ mem args=.ok [a]/\0<=a.i/\a.i<n/\j=0/\ws=[.int .i64 (ad+a.i)])\/(∃e,e_ mem x=.error e/\j=1/\ws=[.int .i64 e])
def P49 (mem:List FV) (now left:Int) (d:Nat):Prop:=∀x,TX d x->CF Tryz.prog 49 et_ (MR mem now left++j_ x) (RV (e_ mem x))
theorem W_ {mem:List FV} {y:GX} {v:FV} (h:e_ mem y=.ok v):f_ mem [y]=.ok [v]:=by simp only [f_,h]
theorem rM_ {mem:List FV} {y:GX} {e:Int} (h:e_ mem y=.error e):f_ mem [y]=.error e:=by simp only [f_,h]
theorem p81 {mem:List FV} {now left:Int} {d:Nat} (hm:MemOk mem) (ih:P49 mem now left d) {op kd:Int} {nm fd:List UInt8} {ad n vk vi:Int} {vf:Nat} {args:List GX} (hx:TX (d+1) (.mk op kd nm fd ad n vk vi vf args)) (h3:op=3):
  CF Tryz.prog 81 xi_ (MR mem now left++j_ (.mk op kd nm fd ad n vk vi vf args)) (RP mem (.mk op kd nm fd ad n vk vi vf args)):=by
 have n1:op≠1:=by omega
 have n2:op≠2:=by omega
 obtain ⟨q1,q2,q3,k,q4,q5⟩:=hx.2.2.2.2.1.2.2.1 h3
 obtain ⟨y,rfl,yk⟩:=wA_ q4
 have hy:=hx.2.2.2.2.2 y (List.mem_singleton.2 rfl)
 have hz:=ih y hy
 have hX:∀a,e_ mem y=.ok a->e_ mem (.mk op kd nm fd ad n vk vi vf [y])=(if a.i<0\/n<=a.i then .error 6 else .ok (cell mem (ad+a.i))):=λa ha=>by
  rw [aO_ n1 n2 (W_ ha)]
  show R_ mem op kd ad n a a=_
  rw [R_,if_pos h3]
 refine vh_ (c:=c81) (n:=300) (t:=t81) mo ov rfl (λY _=>vE_ _) (by kernel_rfl) λY hf hg=>?_
 unfold t81
 refine vx_ (u_ [y] (i:=0) (by simp)) (oL_ okX _) ?_
 have hld:=v_ [y] (i:=0) (by simp)
 rcases hzz:y with ⟨zo,zk,znm,zfd,zad,zn,zvk,zvi,zvf,za⟩
 rw [hzz]at hld hz hX
 refine vf_ hld rfl (okX _) (uw_ hz (v8_ mem now left (.mk zo zk znm zfd zad zn zvk zvi zvf za)) ⟨?_,?_,trivial⟩)
 .rintro ws (⟨a,ha,_,rfl⟩|⟨_,_,h0,_⟩)
  ·(refine b_ rfl rfl ?_ ?_<;>intro h<;>simp only [nc]at h<;>try (exfalso;omega))
   .refine uw_ (xN_ 6) rfl ⟨?_,?_,trivial⟩
    .rintro ws (⟨_,h0,_⟩|⟨h0,_⟩)
     .cases h0
     .cases h0
    .rintro ws (⟨h0,_⟩|⟨_,_,rfl⟩)
     .cases h0
     .exact VOK_fin rfl (.inr ⟨6,by rw [hX a ha,if_pos (.inl h)],rfl,rfl⟩)
   (refine b_ rfl rfl ?_ ?_<;>intro h<;>simp only [nc]at h<;>try (exfalso;omega))
   .refine uw_ (xN_ 6) rfl ⟨?_,?_,trivial⟩
    .rintro ws (⟨_,h0,_⟩|⟨h0,_⟩)
     .cases h0
     .cases h0
    .rintro ws (⟨h0,_⟩|⟨_,_,rfl⟩)
     .cases h0
     .exact VOK_fin rfl (.inr ⟨6,by rw [hX a ha,if_pos (.inr h)],rfl,rfl⟩)
   .exact vx_ (h_ (by omega) (by omega)) rfl (VOK_fin rfl (.inl ⟨a,by rw [W_ ha],by omega,by omega,rfl,rfl⟩))
  .cases h0
 .rintro ws (⟨_,_,h0,_⟩|⟨e,he,_,rfl⟩)
  .cases h0
  .exact VOK_fin rfl (.inr ⟨e,sm_ n1 n2 (rM_ he),rfl,rfl⟩)
theorem p49 {mem:List FV} (hm:MemOk mem) (now left:Int):∀d:Nat,P49 mem now left d
 |0,_,h=>h.elim
 |d+1,.mk op kd nm fd ad n vk vi vf args,hx=>by
  have hlen:=hm.len
  have ih:=p49 hm now left d
  have hA:=hx.1
  have hal:args.length<=2:=by unfold Ari at hA;omega
  have hop:=zz_ hx
  refine vh_ (c:=c49) (n:=300) (t:=t49) mo ov rfl (λY _=>vE_ _) (by kernel_rfl) λY hf hg=>?_
  unfold t49
  (refine b_ rfl rfl ?_ ?_<;>intro h<;>simp only [nc]at h<;>try (exfalso;omega))
  .exact sJ_ (v:=⟨vk,vi,some vf⟩) rfl (xh_ h)
  have n1:=h
  (refine b_ rfl rfl ?_ ?_<;>intro h<;>simp only [nc]at h<;>try (exfalso;omega))
  .obtain ⟨_,_,a0,a1⟩:=wZ_ hm hx h
   obtain ⟨m,rfl⟩:∃m:Nat,ad=(m:Int):=⟨ad.toNat,by omega⟩
   have hml:m<mem.length:=by omega
   refine vx_ (Z_ mem hml) rfl (vf_ (wK_ mem hml) rfl (okV _) ?_)
   exact sJ_ (v:=mem[m]) rfl (by rw [wO_ h,wp_ hml])
  have n2:=h
  (refine b_ rfl rfl ?_ ?_<;>intro h<;>simp only [nc]at h<;>try (exfalso;omega))
  .have e3:=h
   refine uw_ (p81 hm ih hx e3) (v8_ mem now left (.mk op kd nm fd ad n vk vi vf args)) ⟨?_,?_,trivial⟩
   .rintro ws (⟨a,ha,a0,a1,_,rfl⟩|⟨_,_,h0,_⟩)
    .obtain ⟨q1,q2,_⟩:=hx.2.2.2.2.1.2.2.1 e3
     obtain ⟨m,em⟩:∃m:Nat,ad+a.i=(m:Int):=⟨(ad+a.i).toNat,by omega⟩
     have hml:m<mem.length:=by omega
     rw [em]
     refine vx_ (Z_ mem hml) rfl (vf_ (wK_ mem hml) rfl (okV _) ?_)
     refine sJ_ (v:=mem[m]) rfl ?_
     rw [aO_ n1 n2 ha]
     show R_ mem op kd ad n a a=_
     rw [R_,if_pos e3,if_neg (by omega),em,wp_ hml]
    .cases h0
   .rintro ws (⟨_,_,_,_,h0,_⟩|⟨e,he,_,rfl⟩)
    .cases h0
    .exact wP_ rfl he
  have n3:=h
  (refine b_ rfl rfl ?_ ?_<;>intro h<;>simp only [nc]at h<;>try (exfalso;omega))
  .have e17:=h
   obtain ⟨q1,q2,k,q4,q5,q6⟩:=hx.2.2.2.2.1.2.2.2.2.2.2 e17
   obtain ⟨y,rfl,yk⟩:=wA_ q4
   have hy:=hx.2.2.2.2.2 y (List.mem_singleton.2 rfl)
   have hz:=ih y hy
   have hT:=X_ hm d y hy
   have hX:∀a,e_ mem y=.ok a->e_ mem (.mk op kd nm fd ad n vk vi vf [y])=es_ kd a:=λa ha=>by
    rw [aO_ n1 n2 (W_ ha)]
    show R_ mem op kd ad n a a=_
    rw [R_,if_neg n3,if_pos e17]
   have hE:∀e,e_ mem y=.error e->e_ mem (.mk op kd nm fd ad n vk vi vf [y])=.error e:=λe he=>sm_ n1 n2 (rM_ he)
   refine vx_ (u_ [y] (i:=0) (by simp)) (oL_ okX _) ?_
   have hld:=v_ [y] (i:=0) (by simp)
   rcases hzz:y with ⟨zo,zk,znm,zfd,zad,zn,zvk,zvi,zvf,za⟩
   rw [hzz]at hld hz hX hE hT
   refine vf_ hld rfl (okX _) (uw_ hz (v8_ mem now left (.mk zo zk znm zfd zad zn zvk zvi zvf za)) ⟨?_,?_,trivial⟩)
   .rintro ws (⟨a,ha,_,rfl⟩|⟨_,_,h0,_⟩)
    .refine uw_ (p82 ⟨q1,q2⟩ a (hT a ha).1.1.kd) (by show okL (.int .i64 kd::g_ a)=true;rw [aY_];exact okV a) ⟨?_,?_,trivial⟩
     .rintro ws (⟨w,hw,_,rfl⟩|⟨_,_,h0,_⟩)
      .exact sJ_ (v:=w) rfl ((hX a ha).trans hw)
      .cases h0
     .rintro ws (⟨_,_,h0,_⟩|⟨e,he,_,rfl⟩)
      .cases h0
      .exact wP_ rfl ((hX a ha).trans he)
    .cases h0
   .rintro ws (⟨_,_,h0,_⟩|⟨e,he,_,rfl⟩)
    .cases h0
    .exact wP_ rfl (hE e he)
  have n17:=h
  refine vx_ (r_ args) rfl ?_
  refine uK_ (ι:=List FV×Nat) (λs=>[.int .i64 (s.2:Int),d_ s.1]) (λs=>s.1.length=s.2/\s.2<=args.length/\v3_ mem args s.1 s.2) (λs=>args.length-s.2) ([],0) ⟨rfl,Nat.zero_le _,xR_ _ _⟩ rfl (λs _=>by simp only [okL,okC,p8_]) (λs s' _ _ h=>by simp at h;omega) (λs hs=>?_)
  obtain ⟨acc,i⟩:=s
  obtain ⟨h1,h2,h3⟩:=hs
  simp only at h1 h2 h3⊢
  (refine b_ rfl rfl ?_ ?_<;>intro h<;>simp only [nc]at h<;>try (exfalso;omega))
  .have hi:i<args.length:=by omega
   have hld:=v_ args hi
   have hz:=ih args[i] (hx.2.2.2.2.2 _ (List.getElem_mem hi))
   have hrx:=λv=>xa_ (v:=v) h3 hi
   have hre:=λe=>w9_ (e:=e) h3 hi
   rcases hzz:args[i]with ⟨zo,zk,znm,zfd,zad,zn,zvk,zvi,zvf,za⟩
   rw [hzz]at hld hz hrx hre
   refine vx_ (u_ args hi) (oL_ okX _) (vf_ hld rfl (okX _) (uw_ hz (v8_ mem now left (.mk zo zk znm zfd zad zn zvk zvi zvf za)) ⟨?_,?_,trivial⟩))
   .rintro ws (⟨a,ha,_,rfl⟩|⟨_,_,h0,_⟩)
    .exact vx_ (xU_ acc a (by omega)) (p8_ _) (vx_ (h_ (by omega) (by omega)) rfl (uv_ rfl ⟨(acc++[a],i+1),⟨by simp;omega,hi,hrx a ha⟩,rfl,by simp only;omega⟩))
    .cases h0
   .rintro ws (⟨_,_,h0,_⟩|⟨e,he,_,rfl⟩)
    .cases h0
    .exact wP_ rfl (sm_ n1 n2 (hre e he))
  have hi:i=args.length:=by omega
  subst hi
  have hL:=xS_ h3
  have hV:=ut_ (X_ hm d) args hx.2.2.2.2.2 acc hL
  have hX:=aO_ (mem:=mem) (kd:=kd) (nm:=nm) (fd:=fd) (ad:=ad) (n:=n) (vk:=vk) (vi:=vi) (vf:=vf) n1 n2 hL
  obtain ⟨a,b,ea,eb,ta,tb,_,_,ko,_⟩:=wz_ hm hx n1 n2 hV
  obtain ⟨oK,bk,ok,hvs⟩:=ko n3 n17
  rw [ea,eb,R_,if_neg n3,if_neg n17]at hX
  have hX:e_ mem (.mk op kd nm fd ad n vk vi vf args)=opX op a b:=hX
  have hc:CF Tryz.prog 83 ft83 [.int .i64 op,d_ acc] (RV (opX op a b)):=by
   rcases hvs with ⟨rfl,hu⟩|⟨rfl,hu⟩
   .cases eb
    exact p83 oK ta ⟨by simp,rfl⟩ ⟨by simp,rfl⟩ (by simp)
   .exact p83 oK ta ⟨by simp,rfl⟩ ⟨by simp,rfl⟩ (by simp)
  refine uw_ hc (by show okL [.int .i64 op,d_ acc]=true;simp only [okL,okC,p8_]) ⟨?_,?_,trivial⟩
  .rintro ws (⟨w,hw,_,rfl⟩|⟨_,_,h0,_⟩)
   .exact sJ_ (v:=w) rfl (hX.trans hw)
   .cases h0
  .rintro ws (⟨_,_,h0,_⟩|⟨e,he,_,rfl⟩)
   .cases h0
   .exact wP_ rfl (hX.trans he)
end Go.Proofs.YtjconanknjgpnaaGreat.vars
set_option maxRecDepth 100000
set_option linter.unusedVariables false
set_option linter.unusedSimpArgs false
namespace Go.Proofs.YtjconanknjgpnaaGreat.vars
open Go Go.Sx
def c72:VC:=⟨⟨[],[]⟩,[(55,[none])],[],1,true,[(39,ft39)]⟩
def t72:VT:=
 (.callF 39 ft39 [64,65,J 13] 67
 (.cons 2
 (.lt (.iaddr 172) [.vsl 13 1 [J 0,J 1,J 2,J 3,.int .i64 (-1),J 7,J 32767,.int .i64 (-32768),J 2147483647,.int .i64 (-2147483648),J 100,J 9223372036854775807,.int .i64 (-9223372036854775808)],70] 72 none
 (.lt (.load 2) [72] 73 none
 (.call 55 [66,73] 74 [none]
 (.done (.tup [J 0,74,71])))))
 .nil))
def c71:VC:=⟨⟨[],[]⟩,[],[],1,true,[(39,ft39)]⟩
def t71:VT:=
 (.callF 39 ft39 [64,65,J 15] 66
 (.cons 2
 (.lt (.iaddr 143) [.vsl 15 1 [.flt .f64 0,.flt .f64 9223372036854775808,.flt .f64 4607182418800017408,.flt .f64 13830554455654793216,.flt .f64 4602678819172646912,.flt .f64 4612811918334230528,.flt .f64 13838998704956112896,.flt .f64 9094988921128908188,.flt .f64 2024,.flt .f64 9218868437227405312,.flt .f64 18442240474082181120,.nan .f64,.flt .f64 4674736413210574848,.flt .f64 4891288408196988160,.flt .f64 4636737291354636288],69] 71 none
 (.lt (.load 44) [71] 72 none
 (.done (.tup [J 0,72,70]))))
 .nil))
def c40:VC:=⟨⟨[],[]⟩,[],[],1,true,[(39,ft39),(71,ft71),(72,zc_)]⟩
def t40:VT:=
 (.lt Q0 [66,J 1] 67 none
 (.ite 67
 (.callF 39 ft39 [64,65,J 2] 68
 (.cons 2
 (.done (.tup [J 0,J 1,71,.flt .f64 0,72]))
 .nil))
 (.lt Q0 [66,J 5] 68 none
 (.ite 68
 (.callF 71 ft71 [64,65] 69
 (.cons 2
 (.done (.tup [J 0,J 5,J 0,71,72]))
 .nil))
 (.callF 72 zc_ [64,65,66] 69
 (.cons 2
 (.done (.tup [J 0,66,72,.flt .f64 0,73]))
 .nil))))))
def c15:VC:=⟨⟨[],[]⟩,[],[(0,[⟨[(4,.slx 0 0 0),(3,.slx 134 3 2),(0,.ptr 0 0)],[(0,[64,.slx 1 0 0])],135,3,[⟨134,3,2,3,none⟩],[],[]⟩])],1,true,[(39,ft39),(40,ft40)]⟩
def t15:VT:=
 (.loop 66 0 [J 0,65,.vsl 21 3 [J 2,J 0,.flt .f64 0,J 1,J 0,.flt .f64 0,J 2,J 0,.flt .f64 0,J 1,J 0,.flt .f64 0,J 2,J 5,.flt .f64 0,J 3,J 0,.flt .f64 0,J 5,J 0,.flt .f64 0,J 4,J 0,.flt .f64 0,J 2,J 0,.flt .f64 0,J 2,J 0,.flt .f64 0,J 2,J 0,.flt .f64 0,J 2,J 0,.flt .f64 0,J 1,J 0,.flt .f64 0,J 4,J 0,.flt .f64 0,J 1,J 0,.flt .f64 0,J 4,J 0,.flt .f64 0,J 1,J 0,.flt .f64 0,J 2,J 0,.flt .f64 0,J 1,J 0,.flt .f64 0,J 1,J 0,.flt .f64 0,J 1,J 0,.flt .f64 0]]
 (.cons 3
 (.lt Qu [68] 69 none
 (.lt Q4 [66,69] 70 none
 (.ite 70
 (.callF 39 ft39 [64,67,J 3] 71
 (.cons 2
 (.lt Qe [74,J 0] 76 none
 (.ite 76
 (.lt Q1 [68,66] 77 none
 (.lt Zd [68,77] 78 none
 (.callF 40 ft40 [64,75,78] 79
 (.cons 4
 (.lt Q1 [68,66] 86 none
 (.lt Z9 [68,86,.agg [82,83,84]] 87 none
 (.lt Q2 [66,J 1] 88 none
 (.chk (.same 68 87)
 (.again 0 0 [88,85,87])))))
 .nil))))
 (.lt Q2 [66,J 1] 77 none
 (.again 0 0 [77,75,68]))))
 .nil))
 (.done (.tup [J 0,68,67])))))
 .nil))
def Bq_ (n:Int):List AV:=[.int .i64 n]
def zP_ (o:Option Nat):List AV:=[fv o]
def W13:List Int:=[0,1,2,3,-1,7,32767,-32768,2147483647,-2147483648,100,9223372036854775807,-9223372036854775808]
def R15:List (Option Nat):=[some 0,some 9223372036854775808,some 4607182418800017408,some 13830554455654793216,some 4602678819172646912,some 4612811918334230528,some 13838998704956112896,some 9094988921128908188,some 2024,some 9218868437227405312,some 18442240474082181120,none,some 4674736413210574848,some 4891288408196988160,some 4636737291354636288]
theorem yH_:∀x∈W13,-9223372036854775808<=x/\x<=9223372036854775807:=by decide
theorem p72 {l:List UInt8} {a:AV} {n:Nat} {k:Int} (hp:Pk l a) (hn:n<=l.length) (hk:2<=k/\k<=4):CF Tryz.prog 72 zc_ [a,.int .i64 (n:Int),.int .i64 k] (λ_ ws=>∃(r:Int) (n':Nat),ws=[.int .i64 r,.int .i64 (n':Int)]/\InK k r/\n'<=l.length):=by
 have hA:=hp.1.ok vj_
 refine vh_ (c:=c72) (n:=300) (t:=t72) mo ov rfl (λY _=>vE_ _) (by kernel_rfl) λY hf hg=>?_
 unfold t72
 refine a_ (p39 (m:=13) hp hn (by decide) (by decide)) rfl (by simp only [okL,okC,hA]) ⟨?_,trivial⟩
 rintro ws ⟨v,n',rfl,hv,hn'⟩
 have hv':v<W13.length:=hv
 have hi:=yH_ _ (List.getElem_mem hv')
 refine vx_ (run_iaddr_sl (enc:=Bq_) (w:=1) (e:=2) (ti:=(Tryz.prog.info? 2).get!) (l:=W13) Tryz.underlying172 (by kernel_rfl) (by kernel_rfl) (λ_=>rfl) hv' .i64) (oL_ (λ_=>rfl) _) ?_
 rw [List.drop_eq_getElem_cons hv']
 exact vx_ (s2_ Tryz.underlying2 rfl _ _) rfl (uI_ (p55 (by omega) _) rfl rfl (VOK_fin rfl ⟨_,n',rfl,v2_ (by omega) (by omega) hi.1 hi.2,hn'⟩))
theorem zV_ (o:Option Nat) (n:Int):okL [fv o,.int .i64 n]=true:=by cases o<;>rfl
theorem p71 {l:List UInt8} {a:AV} {n:Nat} (hp:Pk l a) (hn:n<=l.length):CF Tryz.prog 71 ft71 [a,.int .i64 (n:Int)] (λ_ ws=>∃(o:Option Nat) (n':Nat),ws=[fv o,.int .i64 (n':Int)]/\n'<=l.length):=by
 have hA:=hp.1.ok vj_
 refine vh_ (c:=c71) (n:=300) (t:=t71) mo ov rfl (λY _=>vE_ _) (by kernel_rfl) λY hf hg=>?_
 unfold t71
 refine a_ (p39 (m:=15) hp hn (by decide) (by decide)) rfl (by simp only [okL,okC,hA]) ⟨?_,trivial⟩
 rintro ws ⟨v,n',rfl,hv,hn'⟩
 have hv':v<R15.length:=hv
 refine vx_ (run_iaddr_sl (enc:=zP_) (w:=1) (e:=44) (ti:=(Tryz.prog.info? 44).get!) (l:=R15) Tryz.underlying143 (by kernel_rfl) (by kernel_rfl) (λ_=>rfl) hv' .i64) (oL_ (λo=>by simp only [zP_,okL,vO_]) _) ?_
 rw [List.drop_eq_getElem_cons hv']
 exact vx_ (s2_ Tryz.underlying44 rfl _ _) (vO_ _) (VOK_fin (zV_ _ _) ⟨_,n',rfl,hn'⟩)
def AQ_ (l:List UInt8) (k:Int):Nat->List AV->Prop:=λ_ ws=>∃(v:FV) (n':Nat),ws=g_ v++[.int .i64 (n':Int)]/\TV v/\v.k=k/\n'<=l.length
theorem p40 {l:List UInt8} {a:AV} {n:Nat} {k:Int} (hp:Pk l a) (hn:n<=l.length) (hk:1<=k/\k<=5):CF Tryz.prog 40 ft40 [a,.int .i64 (n:Int),.int .i64 k] (AQ_ l k):=by
 have hA:=hp.1.ok vj_
 refine vh_ (c:=c40) (n:=300) (t:=t40) mo ov rfl (λY _=>vE_ _) (by kernel_rfl) λY hf hg=>?_
 unfold t40
 (refine b_ rfl rfl ?_ ?_<;>intro h<;>simp only [nc]at h<;>try (exfalso;omega))
 .subst h
  refine a_ (p39 (m:=2) hp hn (by decide) (by decide)) rfl (by simp only [okL,okC,hA]) ⟨?_,trivial⟩
  rintro ws ⟨v,n',rfl,hv,hn'⟩
  exact VOK_fin rfl ⟨⟨1,v,some 0⟩,n',rfl,⟨.inl ⟨rfl,by show (0:Int)<=(v:Int);omega,by show (v:Int)<=1;omega⟩,λ_=>rfl⟩,rfl,hn'⟩
 (refine b_ rfl rfl ?_ ?_<;>intro h<;>simp only [nc]at h<;>try (exfalso;omega))
 .subst h
  refine a_ (p71 hp hn) rfl (by simp only [okL,okC,hA]) ⟨?_,trivial⟩
  rintro ws ⟨o,n',rfl,hn'⟩
  exact VOK_fin (By_ ⟨5,0,o⟩ _) ⟨⟨5,0,o⟩,n',rfl,⟨.inr (.inr (.inr (.inr ⟨rfl,rfl⟩))),λh=>absurd rfl h⟩,rfl,hn'⟩
 refine a_ (p72 hp hn (by omega)) rfl (by simp only [okL,okC,hA]) ⟨?_,trivial⟩
 rintro ws ⟨r,n',rfl,hr,hn'⟩
 exact VOK_fin rfl ⟨⟨k,r,some 0⟩,n',rfl,⟨hr,λ_=>rfl⟩,rfl,hn'⟩
def yr_:List FV:=[⟨2,0,some 0⟩,⟨1,0,some 0⟩,⟨2,0,some 0⟩,⟨1,0,some 0⟩,⟨2,5,some 0⟩,⟨3,0,some 0⟩,⟨5,0,some 0⟩,⟨4,0,some 0⟩,⟨2,0,some 0⟩,⟨2,0,some 0⟩,⟨2,0,some 0⟩,⟨2,0,some 0⟩,⟨1,0,some 0⟩,⟨4,0,some 0⟩,⟨1,0,some 0⟩,⟨4,0,some 0⟩,⟨1,0,some 0⟩,⟨2,0,some 0⟩,⟨1,0,some 0⟩,⟨1,0,some 0⟩,⟨1,0,some 0⟩]
theorem ys_:MemOk yr_:=by
 refine ⟨rfl,λv hv=>?_⟩
 have:∀v∈yr_,(v.k=1\/v.k=2\/v.k=3\/v.k=4\/v.k=5)/\(v.i=0\/(v.i=5/\v.k=2))/\v.f=some 0:=by
  intro v hv
  simp only [yr_,List.mem_cons,List.not_mem_nil,or_false]at hv
  rcases hv with rfl|rfl|rfl|rfl|rfl|rfl|rfl|rfl|rfl|rfl|rfl|rfl|rfl|rfl|rfl|rfl|rfl|rfl|rfl|rfl|rfl<;>simp
 obtain ⟨h1,h2,h3⟩:=this v hv
 refine ⟨?_,λ_=>h3⟩
 unfold InK
 omega
theorem MemOk.set {mem:List FV} (h:MemOk mem) {i:Nat} (hi:i<mem.length) {v:FV} (hv:TV v) (hk:v.k=mem[i].k):MemOk (mem.set i v):=by
 refine ⟨?_,λu hu=>?_⟩
 .rw [←h.1,List.map_set,hk]
  apply List.ext_getElem (by simp)
  intro j h1 h2
  rw [List.getElem_set]
  split
  .rename_i e;subst e;simp
  .rfl
 .rcases List.mem_or_eq_of_mem_set hu with hu|rfl
  .exact h.2 u hu
  .exact hv
def AP_ (l:List UInt8):Nat->List AV->Prop:=λ_ ws=>∃(mem:List FV) (n':Nat),ws=[d_ mem,.int .i64 (n':Int)]/\MemOk mem/\n'<=l.length
theorem xW_ (l:List FV) {i:Nat} (hi:i<l.length):(XOp.ldx 3 3 0).run Tryz.prog [d_ l,.int .i64 (i:Int)]=some (.int .i64 l[i].k):=
 run_ldx1 (enc:=g_) Tryz.underlying3 rfl v7_ hi (p:=[]) (r:=[.int .i64 l[i].i,fv l[i].f]) rfl rfl .i64
theorem vZ_ (l:List FV) {i:Nat} (hi:i<l.length) (y:FV):(XOp.stx 46 3 0).run Tryz.prog [d_ l,.int .i64 (i:Int),.agg (g_ y)]=some (d_ (l.set i y)):=
 run_stx (ti:=(Tryz.prog.info? 46).get!) v7_ hi (p:=[]) (q:=g_ l[i]) (r:=[]) (xs:=g_ y) rfl (.inl rfl) (by kernel_rfl) (by rw [v7_];kernel_rfl) (uP_ (okV _)) (by simp) rfl (by rw [v7_,v7_]) (by simp) .i64
theorem v0_ (l:List FV) (i:Nat) (v:FV):(some (d_ l)=some .nsl/\some (d_ (l.set i v))=some .nsl)\/∃n z cs ds,some (d_ l)=some (.vsl n z cs)/\some (d_ (l.set i v))=some (.vsl n z ds):=by
 cases l with
 |nil=>exact .inl ⟨rfl,rfl⟩
 |cons x r=>
  cases i with
  |zero=>exact .inr ⟨_,_,_,_,rfl,rfl⟩
  |succ i=>
   refine .inr ⟨r.length+1,3,bA_ g_ (x::r),bA_ g_ (x::r.set i v),rfl,?_⟩
   show some (AV.vsl ((r.set i v).length+1) 3 _)=_
   rw [List.length_set]
theorem p15 {l:List UInt8} {a:AV} {n:Nat} (hp:Pk l a) (hn:n<=l.length):CF Tryz.prog 15 ft15 [a,.int .i64 (n:Int)] (AP_ l):=by
 have hA:=hp.1.ok vj_
 refine vh_ (c:=c15) (n:=300) (t:=t15) mo ov rfl (λY _=>vE_ _) (by kernel_rfl) λY hf hg=>?_
 unfold t15
 refine uK_ (ι:=Nat×Nat×List FV) (λs=>[.int .i64 (s.1:Int),.int .i64 (s.2.1:Int),d_ s.2.2]) (λs=>s.1<=21/\s.2.1<=l.length/\MemOk s.2.2) (λs=>21-s.1) (0,n,yr_) ⟨Nat.zero_le _,hn,ys_⟩ rfl (λs _=>by simp only [okL,okC,p8_]) (λs s' _ _ h=>by simp at h;omega) (λs hs=>?_)
 obtain ⟨i,m,mem⟩:=s
 obtain ⟨h1,h2,h3⟩:=hs
 simp only at h1 h2 h3⊢
 have hlen:=h3.len
 refine vx_ (ak_ mem) rfl ?_
 (refine b_ rfl rfl ?_ ?_<;>intro h<;>simp only [nc]at h<;>try (exfalso;omega))
 .have hi:i<mem.length:=by omega
  refine a_ (p39 (n:=m) (m:=3) hp h2 (by decide) (by decide)) rfl (by simp only [okL,okC,hA]) ⟨?_,trivial⟩
  rintro ws ⟨v,n',rfl,hv,hn'⟩
  (refine b_ rfl rfl ?_ ?_<;>intro h<;>simp only [nc]at h<;>try (exfalso;omega))
  .have ⟨q1,q2⟩:=(h3.2 mem[i] (List.getElem_mem hi)).1.kd
   refine vx_ (Z_ mem hi) rfl (vx_ (xW_ mem hi) rfl ?_)
   refine a_ (p40 hp hn' ⟨q1,q2⟩) rfl (by simp only [okL,okC,hA]) ⟨?_,trivial⟩
   rintro ws ⟨w,n2,rfl,tw,wk,hn2⟩
   refine vx_ (Z_ mem hi) rfl (vx_ (vZ_ mem hi w) (p8_ _) (vx_ (h_ (by omega) (by omega)) rfl ?_))
   refine vd_ (v0_ mem i w) (uv_ rfl ⟨(i+1,n2,mem.set i w),⟨by omega,hn2,h3.set hi tw wk⟩,rfl,by simp only;omega⟩)
  .exact vx_ (h_ (by omega) (by omega)) rfl (uv_ rfl ⟨(i+1,n',mem),⟨by omega,hn',h3⟩,rfl,by simp only;omega⟩)
 .exact VOK_fin (by show okL [d_ mem,.int .i64 (m:Int)]=true;simp only [okL,okC,p8_]) ⟨mem,m,rfl,h3,h2⟩
end Go.Proofs.YtjconanknjgpnaaGreat.vars
set_option maxRecDepth 100000
set_option linter.unusedVariables false
set_option linter.unusedSimpArgs false
namespace Go.Proofs.YtjconanknjgpnaaGreat.vars
open Go Go.Sx
def A1_:VC:=⟨⟨[],[]⟩,[(153,[(some 10),none,none]),(154,[(some 10)])],[],0,true,[(121,ft121)]⟩
def Ag_:VT:=
 (.callF 121 ft121 [64,76,77,78,79,80,81,82,83,84,85] 92
 (.cons 11
 (.lt Q5 [113,J 0] 114 none
 (.ite 114
 (.done (.tup [J 0,65,66,67,68,69,70,71,72,73,74,75,76,77,78,79,80,81,82,83,84,85,86,87,88,89,90,91,113]))
 (.callF 121 ft121 [64,66,67,68,69,70,71,72,73,74,75] 115
 (.cons 11
 (.lt Q5 [136,J 0] 137 none
 (.ite 137
 (.done (.tup [J 0,65,66,67,68,69,70,71,72,73,74,75,76,77,78,79,80,81,82,83,84,85,86,87,88,89,90,91,136]))
 (.call 153 [64,68] 138 [(some 10),none,none]
 (.lt (.bin .neq 9 false true) [69,.str []] 150 none
 (.ite 150
 (.done (.tup [J 0,65,66,67,68,69,70,71,72,73,74,75,76,77,78,79,80,81,82,83,84,85,86,87,88,89,90,91,J 4]))
 (.lt Q0 [139,J 1] 151 none
 (.ite 151
 (.done (.tup [J 0,65,66,67,68,69,70,71,72,73,74,75,76,77,78,79,80,81,82,83,84,85,86,87,88,89,90,91,J 13]))
 (.call 154 [.agg [103,104,105,106,107,108,109,110,111,112],127] 152 [(some 10)]
 (.lt Q7 [153,127] 162 none
 (.ite 162
 (.done (.tup [J 0,65,66,67,68,69,70,71,72,73,74,75,76,77,78,79,80,81,82,83,84,85,86,87,88,89,90,91,J 4]))
 (.done (.tup [J 0,65,126,127,128,129,130,131,132,133,134,135,152,153,154,155,156,157,158,159,160,161,86,87,88,89,90,91,J 0]))))))))))))
 .nil))))
 .nil))
def A2_:VC:=⟨⟨[],[]⟩,[(153,[(some 10),none,none]),(154,[(some 10)]),(53,[none])],[(0,[⟨[(4,.ptr 1 0),(3,.ptr 0 0),(9,.slx 3 1 0),(10,.slx 4 10 1),(11,.slx 2 0 0),(0,64),(7,102),(6,.ptr 2 0)],[(1,[J 0,J 0,J 0,.str [],.str [],J 0,J 0,J 0,J 0,.flt .f64 0,.nsl,J 0,J 0,.str [],.str [],J 0,J 0,J 0,J 0,.flt .f64 0,.nsl,.nsl,.nsl,.str [],J 0,J 0,.nsl]),(0,[65,66,67,68,69,70,71,72,73,74,75,76,77,78,79,80,81,82,83,84,85,86,87,88,89,90,91]),(2,[92,93,94,95,96,97,98,99,100,101])],5,3,[⟨3,1,0,9,none⟩,⟨4,10,1,10,none⟩],[],[]⟩]),(2,[⟨[(4,.ptr 1 0),(3,.ptr 0 0),(14,.slx 0 0 0),(9,.slx 3 1 1),(10,.slx 4 10 2),(6,.ptr 2 0),(7,102)],[(1,[J 0,J 0,J 0,.str [],.str [],J 0,J 0,J 0,J 0,.flt .f64 0,.nsl,J 0,J 0,.str [],.str [],J 0,J 0,J 0,J 0,.flt .f64 0,.nsl,.nsl,.nsl,.str [],J 0,J 0,.nsl]),(0,[65,66,67,68,69,70,71,72,73,74,75,76,77,78,79,80,81,82,83,84,85,86,87,88,89,90,91]),(2,[92,93,94,95,96,97,98,99,100,101])],5,3,[⟨3,1,1,9,none⟩,⟨4,10,2,10,none⟩],[],[]⟩])],0,true,[(121,ft121)]⟩
def Ah_:VT:=
 (.call 153 [64,88] 92 [(some 10),none,none]
 (.lt Q3 [103] 104 none
 (.ite 104
 (.done (.tup [J 0,65,66,67,68,69,70,71,72,73,74,75,76,77,78,79,80,81,82,83,84,85,86,87,88,89,90,91,J 3]))
 (.call 53 [94] 105 [none]
 (.lt Z3 [105,J 2] 106 none
 (.ite 106
 (.done (.tup [J 0,65,66,67,68,69,70,71,72,73,74,75,76,77,78,79,80,81,82,83,84,85,86,87,88,89,90,91,J 4]))
 (.lt Q0 [94,J 9] 107 none
 (.ite 107
 (.lt Q0 [94,J 11] 108 none
 (.ite 108
 (.loop 109 0 [.vsl 1 1 [J 1],.nsl,J 0]
 (.cons 3
 (.lt Qc [91] 112 none
 (.lt Q4 [111,112] 113 none
 (.ite 113
 (.lt Q9 [91,111] 114 none
 (.lt Qb [114] 115 (some 10)
 (.callF 121 ft121 [64,115,116,117,118,119,120,121,122,123,124] 125
 (.cons 11
 (.lt Q5 [146,J 0] 147 none
 (.ite 147
 (.done (.tup [J 0,65,66,67,68,69,70,71,72,73,74,75,76,77,78,79,80,81,82,83,84,85,86,87,88,89,90,91,146]))
 (.lt Qd [109] 148 none
 (.lt Q4 [111,148] 149 none
 (.ite 149
 (.lt Q1 [109,111] 150 none
 (.lt Qk [109,150] 151 none
 (.call 154 [.agg [136,137,138,139,140,141,142,143,144,145],151] 152 [(some 10)]
 (.lt Qi [110,.agg [152,153,154,155,156,157,158,159,160,161]] 162 none
 (.lt Q2 [111,J 1] 163 none
 (.again 0 0 [109,162,163]))))))
 (.lt Qi [110,.agg [136,137,138,139,140,141,142,143,144,145]] 150 none
 (.lt Q2 [111,J 1] 151 none
 (.again 0 0 [109,150,151]))))))))
 .nil))))
 (.lt Qc [110] 114 none
 (.lt Qd [109] 115 none
 (.lt Q7 [114,115] 116 none
 (.ite 116
 (.done (.tup [J 0,65,66,67,68,69,70,71,72,73,74,75,76,77,78,79,80,81,82,83,84,85,86,87,88,89,90,91,J 4]))
 (.loop 117 0 [J 0,109,110]
 (.cons 3
 (.lt Qd [118] 120 none
 (.lt Q4 [117,120] 121 none
 (.ite 121
 (.lt Q1 [119,117] 122 none
 (.lt Qg [119,122] 123 none
 (.lt Q1 [118,117] 124 none
 (.lt Qk [118,124] 125 none
 (.lt Q7 [123,125] 126 none
 (.ite 126
 (.done (.tup [J 0,65,66,67,68,69,70,71,72,73,74,75,76,77,78,79,80,81,82,83,84,85,86,87,88,89,90,91,J 4]))
 (.lt Q2 [117,J 1] 127 none
 (.again 1 0 [127,118,119]))))))))
 (.done (.tup [J 0,65,66,67,68,69,70,71,72,73,74,75,76,77,78,79,80,81,82,83,84,85,86,87,88,94,102,119,J 0])))))
 .nil)))))))))
 .nil))
 (.lt Q0 [94,J 12] 109 none
 (.ite 109
 (.loop 110 0 [.vsl 1 1 [J 1],.nsl,J 0]
 (.cons 3
 (.lt Qc [91] 113 none
 (.lt Q4 [112,113] 114 none
 (.ite 114
 (.lt Q9 [91,112] 115 none
 (.lt Qb [115] 116 (some 10)
 (.callF 121 ft121 [64,116,117,118,119,120,121,122,123,124,125] 126
 (.cons 11
 (.lt Q5 [147,J 0] 148 none
 (.ite 148
 (.done (.tup [J 0,65,66,67,68,69,70,71,72,73,74,75,76,77,78,79,80,81,82,83,84,85,86,87,88,89,90,91,147]))
 (.lt Qd [110] 149 none
 (.lt Q4 [112,149] 150 none
 (.ite 150
 (.lt Q1 [110,112] 151 none
 (.lt Qk [110,151] 152 none
 (.call 154 [.agg [137,138,139,140,141,142,143,144,145,146],152] 153 [(some 10)]
 (.lt Qi [111,.agg [153,154,155,156,157,158,159,160,161,162]] 163 none
 (.lt Q2 [112,J 1] 164 none
 (.again 0 0 [110,163,164]))))))
 (.lt Qi [111,.agg [137,138,139,140,141,142,143,144,145,146]] 151 none
 (.lt Q2 [112,J 1] 152 none
 (.again 0 0 [110,151,152]))))))))
 .nil))))
 (.lt Qc [111] 115 none
 (.lt Qd [110] 116 none
 (.lt Q7 [115,116] 117 none
 (.ite 117
 (.done (.tup [J 0,65,66,67,68,69,70,71,72,73,74,75,76,77,78,79,80,81,82,83,84,85,86,87,88,89,90,91,J 4]))
 (.loop 118 0 [J 0,110,111]
 (.cons 3
 (.lt Qd [119] 121 none
 (.lt Q4 [118,121] 122 none
 (.ite 122
 (.lt Q1 [120,118] 123 none
 (.lt Qg [120,123] 124 none
 (.lt Q1 [119,118] 125 none
 (.lt Qk [119,125] 126 none
 (.lt Q7 [124,126] 127 none
 (.ite 127
 (.done (.tup [J 0,65,66,67,68,69,70,71,72,73,74,75,76,77,78,79,80,81,82,83,84,85,86,87,88,89,90,91,J 4]))
 (.lt Q2 [118,J 1] 128 none
 (.again 1 0 [128,119,120]))))))))
 (.done (.tup [J 0,65,66,67,68,69,70,71,72,73,74,75,76,77,78,79,80,81,82,83,84,85,86,87,88,94,102,120,J 0])))))
 .nil)))))))))
 .nil))
 (.loop 110 0 [.vsl 2 1 [J 1,J 2],.nsl,J 0]
 (.cons 3
 (.lt Qc [91] 113 none
 (.lt Q4 [112,113] 114 none
 (.ite 114
 (.lt Q9 [91,112] 115 none
 (.lt Qb [115] 116 (some 10)
 (.callF 121 ft121 [64,116,117,118,119,120,121,122,123,124,125] 126
 (.cons 11
 (.lt Q5 [147,J 0] 148 none
 (.ite 148
 (.done (.tup [J 0,65,66,67,68,69,70,71,72,73,74,75,76,77,78,79,80,81,82,83,84,85,86,87,88,89,90,91,147]))
 (.lt Qd [110] 149 none
 (.lt Q4 [112,149] 150 none
 (.ite 150
 (.lt Q1 [110,112] 151 none
 (.lt Qk [110,151] 152 none
 (.call 154 [.agg [137,138,139,140,141,142,143,144,145,146],152] 153 [(some 10)]
 (.lt Qi [111,.agg [153,154,155,156,157,158,159,160,161,162]] 163 none
 (.lt Q2 [112,J 1] 164 none
 (.again 0 0 [110,163,164]))))))
 (.lt Qi [111,.agg [137,138,139,140,141,142,143,144,145,146]] 151 none
 (.lt Q2 [112,J 1] 152 none
 (.again 0 0 [110,151,152]))))))))
 .nil))))
 (.lt Qc [111] 115 none
 (.lt Qd [110] 116 none
 (.lt Q7 [115,116] 117 none
 (.ite 117
 (.done (.tup [J 0,65,66,67,68,69,70,71,72,73,74,75,76,77,78,79,80,81,82,83,84,85,86,87,88,89,90,91,J 4]))
 (.loop 118 0 [J 0,110,111]
 (.cons 3
 (.lt Qd [119] 121 none
 (.lt Q4 [118,121] 122 none
 (.ite 122
 (.lt Q1 [120,118] 123 none
 (.lt Qg [120,123] 124 none
 (.lt Q1 [119,118] 125 none
 (.lt Qk [119,125] 126 none
 (.lt Q7 [124,126] 127 none
 (.ite 127
 (.done (.tup [J 0,65,66,67,68,69,70,71,72,73,74,75,76,77,78,79,80,81,82,83,84,85,86,87,88,89,90,91,J 4]))
 (.lt Q2 [118,J 1] 128 none
 (.again 1 0 [128,119,120]))))))))
 (.done (.tup [J 0,65,66,67,68,69,70,71,72,73,74,75,76,77,78,79,80,81,82,83,84,85,86,87,88,94,102,120,J 0])))))
 .nil)))))))))
 .nil))))))
 (.lt Q0 [94,J 10] 108 none
 (.ite 108
 (.lt Q0 [94,J 11] 109 none
 (.ite 109
 (.loop 110 0 [.vsl 1 1 [J 1],.nsl,J 0]
 (.cons 3
 (.lt Qc [91] 113 none
 (.lt Q4 [112,113] 114 none
 (.ite 114
 (.lt Q9 [91,112] 115 none
 (.lt Qb [115] 116 (some 10)
 (.callF 121 ft121 [64,116,117,118,119,120,121,122,123,124,125] 126
 (.cons 11
 (.lt Q5 [147,J 0] 148 none
 (.ite 148
 (.done (.tup [J 0,65,66,67,68,69,70,71,72,73,74,75,76,77,78,79,80,81,82,83,84,85,86,87,88,89,90,91,147]))
 (.lt Qd [110] 149 none
 (.lt Q4 [112,149] 150 none
 (.ite 150
 (.lt Q1 [110,112] 151 none
 (.lt Qk [110,151] 152 none
 (.call 154 [.agg [137,138,139,140,141,142,143,144,145,146],152] 153 [(some 10)]
 (.lt Qi [111,.agg [153,154,155,156,157,158,159,160,161,162]] 163 none
 (.lt Q2 [112,J 1] 164 none
 (.again 0 0 [110,163,164]))))))
 (.lt Qi [111,.agg [137,138,139,140,141,142,143,144,145,146]] 151 none
 (.lt Q2 [112,J 1] 152 none
 (.again 0 0 [110,151,152]))))))))
 .nil))))
 (.lt Qc [111] 115 none
 (.lt Qd [110] 116 none
 (.lt Q7 [115,116] 117 none
 (.ite 117
 (.done (.tup [J 0,65,66,67,68,69,70,71,72,73,74,75,76,77,78,79,80,81,82,83,84,85,86,87,88,89,90,91,J 4]))
 (.loop 118 0 [J 0,110,111]
 (.cons 3
 (.lt Qd [119] 121 none
 (.lt Q4 [118,121] 122 none
 (.ite 122
 (.lt Q1 [120,118] 123 none
 (.lt Qg [120,123] 124 none
 (.lt Q1 [119,118] 125 none
 (.lt Qk [119,125] 126 none
 (.lt Q7 [124,126] 127 none
 (.ite 127
 (.done (.tup [J 0,65,66,67,68,69,70,71,72,73,74,75,76,77,78,79,80,81,82,83,84,85,86,87,88,89,90,91,J 4]))
 (.lt Q2 [118,J 1] 128 none
 (.again 1 0 [128,119,120]))))))))
 (.done (.tup [J 0,65,66,67,68,69,70,71,72,73,74,75,76,77,78,79,80,81,82,83,84,85,86,87,88,94,102,120,J 0])))))
 .nil)))))))))
 .nil))
 (.lt Q0 [94,J 12] 110 none
 (.ite 110
 (.loop 111 0 [.vsl 1 1 [J 1],.nsl,J 0]
 (.cons 3
 (.lt Qc [91] 114 none
 (.lt Q4 [113,114] 115 none
 (.ite 115
 (.lt Q9 [91,113] 116 none
 (.lt Qb [116] 117 (some 10)
 (.callF 121 ft121 [64,117,118,119,120,121,122,123,124,125,126] 127
 (.cons 11
 (.lt Q5 [148,J 0] 149 none
 (.ite 149
 (.done (.tup [J 0,65,66,67,68,69,70,71,72,73,74,75,76,77,78,79,80,81,82,83,84,85,86,87,88,89,90,91,148]))
 (.lt Qd [111] 150 none
 (.lt Q4 [113,150] 151 none
 (.ite 151
 (.lt Q1 [111,113] 152 none
 (.lt Qk [111,152] 153 none
 (.call 154 [.agg [138,139,140,141,142,143,144,145,146,147],153] 154 [(some 10)]
 (.lt Qi [112,.agg [154,155,156,157,158,159,160,161,162,163]] 164 none
 (.lt Q2 [113,J 1] 165 none
 (.again 0 0 [111,164,165]))))))
 (.lt Qi [112,.agg [138,139,140,141,142,143,144,145,146,147]] 152 none
 (.lt Q2 [113,J 1] 153 none
 (.again 0 0 [111,152,153]))))))))
 .nil))))
 (.lt Qc [112] 116 none
 (.lt Qd [111] 117 none
 (.lt Q7 [116,117] 118 none
 (.ite 118
 (.done (.tup [J 0,65,66,67,68,69,70,71,72,73,74,75,76,77,78,79,80,81,82,83,84,85,86,87,88,89,90,91,J 4]))
 (.loop 119 0 [J 0,111,112]
 (.cons 3
 (.lt Qd [120] 122 none
 (.lt Q4 [119,122] 123 none
 (.ite 123
 (.lt Q1 [121,119] 124 none
 (.lt Qg [121,124] 125 none
 (.lt Q1 [120,119] 126 none
 (.lt Qk [120,126] 127 none
 (.lt Q7 [125,127] 128 none
 (.ite 128
 (.done (.tup [J 0,65,66,67,68,69,70,71,72,73,74,75,76,77,78,79,80,81,82,83,84,85,86,87,88,89,90,91,J 4]))
 (.lt Q2 [119,J 1] 129 none
 (.again 1 0 [129,120,121]))))))))
 (.done (.tup [J 0,65,66,67,68,69,70,71,72,73,74,75,76,77,78,79,80,81,82,83,84,85,86,87,88,94,102,121,J 0])))))
 .nil)))))))))
 .nil))
 (.loop 111 0 [.vsl 2 1 [J 1,J 2],.nsl,J 0]
 (.cons 3
 (.lt Qc [91] 114 none
 (.lt Q4 [113,114] 115 none
 (.ite 115
 (.lt Q9 [91,113] 116 none
 (.lt Qb [116] 117 (some 10)
 (.callF 121 ft121 [64,117,118,119,120,121,122,123,124,125,126] 127
 (.cons 11
 (.lt Q5 [148,J 0] 149 none
 (.ite 149
 (.done (.tup [J 0,65,66,67,68,69,70,71,72,73,74,75,76,77,78,79,80,81,82,83,84,85,86,87,88,89,90,91,148]))
 (.lt Qd [111] 150 none
 (.lt Q4 [113,150] 151 none
 (.ite 151
 (.lt Q1 [111,113] 152 none
 (.lt Qk [111,152] 153 none
 (.call 154 [.agg [138,139,140,141,142,143,144,145,146,147],153] 154 [(some 10)]
 (.lt Qi [112,.agg [154,155,156,157,158,159,160,161,162,163]] 164 none
 (.lt Q2 [113,J 1] 165 none
 (.again 0 0 [111,164,165]))))))
 (.lt Qi [112,.agg [138,139,140,141,142,143,144,145,146,147]] 152 none
 (.lt Q2 [113,J 1] 153 none
 (.again 0 0 [111,152,153]))))))))
 .nil))))
 (.lt Qc [112] 116 none
 (.lt Qd [111] 117 none
 (.lt Q7 [116,117] 118 none
 (.ite 118
 (.done (.tup [J 0,65,66,67,68,69,70,71,72,73,74,75,76,77,78,79,80,81,82,83,84,85,86,87,88,89,90,91,J 4]))
 (.loop 119 0 [J 0,111,112]
 (.cons 3
 (.lt Qd [120] 122 none
 (.lt Q4 [119,122] 123 none
 (.ite 123
 (.lt Q1 [121,119] 124 none
 (.lt Qg [121,124] 125 none
 (.lt Q1 [120,119] 126 none
 (.lt Qk [120,126] 127 none
 (.lt Q7 [125,127] 128 none
 (.ite 128
 (.done (.tup [J 0,65,66,67,68,69,70,71,72,73,74,75,76,77,78,79,80,81,82,83,84,85,86,87,88,89,90,91,J 4]))
 (.lt Q2 [119,J 1] 129 none
 (.again 1 0 [129,120,121]))))))))
 (.done (.tup [J 0,65,66,67,68,69,70,71,72,73,74,75,76,77,78,79,80,81,82,83,84,85,86,87,88,94,102,121,J 0])))))
 .nil)))))))))
 .nil))))))
 (.lt Q0 [94,J 11] 109 none
 (.ite 109
 (.loop 110 0 [.vsl 1 1 [J 1],.nsl,J 0]
 (.cons 3
 (.lt Qc [91] 113 none
 (.lt Q4 [112,113] 114 none
 (.ite 114
 (.lt Q9 [91,112] 115 none
 (.lt Qb [115] 116 (some 10)
 (.callF 121 ft121 [64,116,117,118,119,120,121,122,123,124,125] 126
 (.cons 11
 (.lt Q5 [147,J 0] 148 none
 (.ite 148
 (.done (.tup [J 0,65,66,67,68,69,70,71,72,73,74,75,76,77,78,79,80,81,82,83,84,85,86,87,88,89,90,91,147]))
 (.lt Qd [110] 149 none
 (.lt Q4 [112,149] 150 none
 (.ite 150
 (.lt Q1 [110,112] 151 none
 (.lt Qk [110,151] 152 none
 (.call 154 [.agg [137,138,139,140,141,142,143,144,145,146],152] 153 [(some 10)]
 (.lt Qi [111,.agg [153,154,155,156,157,158,159,160,161,162]] 163 none
 (.lt Q2 [112,J 1] 164 none
 (.again 0 0 [110,163,164]))))))
 (.lt Qi [111,.agg [137,138,139,140,141,142,143,144,145,146]] 151 none
 (.lt Q2 [112,J 1] 152 none
 (.again 0 0 [110,151,152]))))))))
 .nil))))
 (.lt Qc [111] 115 none
 (.lt Qd [110] 116 none
 (.lt Q7 [115,116] 117 none
 (.ite 117
 (.done (.tup [J 0,65,66,67,68,69,70,71,72,73,74,75,76,77,78,79,80,81,82,83,84,85,86,87,88,89,90,91,J 4]))
 (.loop 118 0 [J 0,110,111]
 (.cons 3
 (.lt Qd [119] 121 none
 (.lt Q4 [118,121] 122 none
 (.ite 122
 (.lt Q1 [120,118] 123 none
 (.lt Qg [120,123] 124 none
 (.lt Q1 [119,118] 125 none
 (.lt Qk [119,125] 126 none
 (.lt Q7 [124,126] 127 none
 (.ite 127
 (.done (.tup [J 0,65,66,67,68,69,70,71,72,73,74,75,76,77,78,79,80,81,82,83,84,85,86,87,88,89,90,91,J 4]))
 (.lt Q2 [118,J 1] 128 none
 (.again 1 0 [128,119,120]))))))))
 (.done (.tup [J 0,65,66,67,68,69,70,71,72,73,74,75,76,77,78,79,80,81,82,83,84,85,86,87,88,94,102,120,J 0])))))
 .nil)))))))))
 .nil))
 (.lt Q0 [94,J 12] 110 none
 (.ite 110
 (.loop 111 0 [.vsl 1 1 [J 1],.nsl,J 0]
 (.cons 3
 (.lt Qc [91] 114 none
 (.lt Q4 [113,114] 115 none
 (.ite 115
 (.lt Q9 [91,113] 116 none
 (.lt Qb [116] 117 (some 10)
 (.callF 121 ft121 [64,117,118,119,120,121,122,123,124,125,126] 127
 (.cons 11
 (.lt Q5 [148,J 0] 149 none
 (.ite 149
 (.done (.tup [J 0,65,66,67,68,69,70,71,72,73,74,75,76,77,78,79,80,81,82,83,84,85,86,87,88,89,90,91,148]))
 (.lt Qd [111] 150 none
 (.lt Q4 [113,150] 151 none
 (.ite 151
 (.lt Q1 [111,113] 152 none
 (.lt Qk [111,152] 153 none
 (.call 154 [.agg [138,139,140,141,142,143,144,145,146,147],153] 154 [(some 10)]
 (.lt Qi [112,.agg [154,155,156,157,158,159,160,161,162,163]] 164 none
 (.lt Q2 [113,J 1] 165 none
 (.again 0 0 [111,164,165]))))))
 (.lt Qi [112,.agg [138,139,140,141,142,143,144,145,146,147]] 152 none
 (.lt Q2 [113,J 1] 153 none
 (.again 0 0 [111,152,153]))))))))
 .nil))))
 (.lt Qc [112] 116 none
 (.lt Qd [111] 117 none
 (.lt Q7 [116,117] 118 none
 (.ite 118
 (.done (.tup [J 0,65,66,67,68,69,70,71,72,73,74,75,76,77,78,79,80,81,82,83,84,85,86,87,88,89,90,91,J 4]))
 (.loop 119 0 [J 0,111,112]
 (.cons 3
 (.lt Qd [120] 122 none
 (.lt Q4 [119,122] 123 none
 (.ite 123
 (.lt Q1 [121,119] 124 none
 (.lt Qg [121,124] 125 none
 (.lt Q1 [120,119] 126 none
 (.lt Qk [120,126] 127 none
 (.lt Q7 [125,127] 128 none
 (.ite 128
 (.done (.tup [J 0,65,66,67,68,69,70,71,72,73,74,75,76,77,78,79,80,81,82,83,84,85,86,87,88,89,90,91,J 4]))
 (.lt Q2 [119,J 1] 129 none
 (.again 1 0 [129,120,121]))))))))
 (.done (.tup [J 0,65,66,67,68,69,70,71,72,73,74,75,76,77,78,79,80,81,82,83,84,85,86,87,88,94,102,121,J 0])))))
 .nil)))))))))
 .nil))
 (.loop 111 0 [.vsl 2 1 [J 1,J 4],.nsl,J 0]
 (.cons 3
 (.lt Qc [91] 114 none
 (.lt Q4 [113,114] 115 none
 (.ite 115
 (.lt Q9 [91,113] 116 none
 (.lt Qb [116] 117 (some 10)
 (.callF 121 ft121 [64,117,118,119,120,121,122,123,124,125,126] 127
 (.cons 11
 (.lt Q5 [148,J 0] 149 none
 (.ite 149
 (.done (.tup [J 0,65,66,67,68,69,70,71,72,73,74,75,76,77,78,79,80,81,82,83,84,85,86,87,88,89,90,91,148]))
 (.lt Qd [111] 150 none
 (.lt Q4 [113,150] 151 none
 (.ite 151
 (.lt Q1 [111,113] 152 none
 (.lt Qk [111,152] 153 none
 (.call 154 [.agg [138,139,140,141,142,143,144,145,146,147],153] 154 [(some 10)]
 (.lt Qi [112,.agg [154,155,156,157,158,159,160,161,162,163]] 164 none
 (.lt Q2 [113,J 1] 165 none
 (.again 0 0 [111,164,165]))))))
 (.lt Qi [112,.agg [138,139,140,141,142,143,144,145,146,147]] 152 none
 (.lt Q2 [113,J 1] 153 none
 (.again 0 0 [111,152,153]))))))))
 .nil))))
 (.lt Qc [112] 116 none
 (.lt Qd [111] 117 none
 (.lt Q7 [116,117] 118 none
 (.ite 118
 (.done (.tup [J 0,65,66,67,68,69,70,71,72,73,74,75,76,77,78,79,80,81,82,83,84,85,86,87,88,89,90,91,J 4]))
 (.loop 119 0 [J 0,111,112]
 (.cons 3
 (.lt Qd [120] 122 none
 (.lt Q4 [119,122] 123 none
 (.ite 123
 (.lt Q1 [121,119] 124 none
 (.lt Qg [121,124] 125 none
 (.lt Q1 [120,119] 126 none
 (.lt Qk [120,126] 127 none
 (.lt Q7 [125,127] 128 none
 (.ite 128
 (.done (.tup [J 0,65,66,67,68,69,70,71,72,73,74,75,76,77,78,79,80,81,82,83,84,85,86,87,88,89,90,91,J 4]))
 (.lt Q2 [119,J 1] 129 none
 (.again 1 0 [129,120,121]))))))))
 (.done (.tup [J 0,65,66,67,68,69,70,71,72,73,74,75,76,77,78,79,80,81,82,83,84,85,86,87,88,94,102,121,J 0])))))
 .nil)))))))))
 .nil))))))))))))))))
def c78:VC:=⟨⟨[],[]⟩,[],[],0,true,[(121,ft121),(119,xx_),(120,xy_),(46,ft46)]⟩
def t78:VT:=
 (.lt Q0 [65,J 1] 92 none
 (.ite 92
 (.callF 119 xx_ [64,65,66,67,68,69,70,71,72,73,74,75,76,77,78,79,80,81,82,83,84,85,86,87,88,89,90,91] 93
 (.cons 28
 (.done (.tup [J 0,121,122,123,124,125,126,127,128,129,130,131,132,133,134,135,136,137,138,139,140,141,142,143,144,145,146,147,148]))
 .nil))
 (.lt Q0 [65,J 4] 93 none
 (.ite 93
 (.callF 120 xy_ [64,65,66,67,68,69,70,71,72,73,74,75,76,77,78,79,80,81,82,83,84,85,86,87,88,89,90,91] 94
 (.cons 28
 (.done (.tup [J 0,122,123,124,125,126,127,128,129,130,131,132,133,134,135,136,137,138,139,140,141,142,143,144,145,146,147,148,149]))
 .nil))
 (.callF 121 ft121 [64,76,77,78,79,80,81,82,83,84,85] 94
 (.cons 11
 (.lt Q5 [115,J 0] 116 none
 (.ite 116
 (.done (.tup [J 0,65,66,67,68,69,70,71,72,73,74,75,76,77,78,79,80,81,82,83,84,85,86,87,88,89,90,91,115]))
 (.lt Q6 [106,J 1] 117 none
 (.ite 117
 (.done (.tup [J 0,65,66,67,68,69,70,71,72,73,74,75,76,77,78,79,80,81,82,83,84,85,86,87,88,89,90,91,J 4]))
 (.callF 46 ft46 [64,86] 118
 (.cons 2
 (.lt Q5 [121,J 0] 122 none
 (.ite 122
 (.done (.tup [J 0,65,66,67,68,69,70,71,72,73,74,75,105,106,107,108,109,110,111,112,113,114,120,87,88,89,90,91,121]))
 (.callF 46 ft46 [64,87] 123
 (.cons 2
 (.done (.tup [J 0,65,66,67,68,69,70,71,72,73,74,75,105,106,107,108,109,110,111,112,113,114,120,125,88,89,90,91,126]))
 .nil))))
 .nil))))))
 .nil))))))
def c46:VC:=⟨⟨[],[]⟩,[],[(0,[⟨[(6,.slx 0 27 0),(7,.slx 1 0 0),(1,65),(0,64)],[],1,2,[⟨0,27,0,6,none⟩],[],[]⟩])],0,true,[(78,ft78)]⟩
def t46:VT:=
 (.loop 66 0 [.nsl,J 0]
 (.cons 2
 (.lt Z5 [65] 68 none
 (.lt Q4 [67,68] 69 none
 (.ite 69
 (.lt Qw [65,67] 70 none
 (.lt Zo [70] 71 (some 27)
 (.callF 78 ft78 [64,71,72,73,74,75,76,77,78,79,80,81,82,83,84,85,86,87,88,89,90,91,92,93,94,95,96,97] 98
 (.cons 28
 (.lt Q5 [153,J 0] 154 none
 (.ite 154
 (.done (.tup [J 0,.nsl,153]))
 (.lt Zk [66,.agg [126,127,128,129,130,131,132,133,134,135,136,137,138,139,140,141,142,143,144,145,146,147,148,149,150,151,152]] 155 none
 (.lt Q2 [67,J 1] 156 none
 (.again 0 0 [155,156])))))
 .nil))))
 (.done (.tup [J 0,66,J 0])))))
 .nil))
theorem yp_ {nm fd:List UInt8} (h:(nm,fd)∈vP_\/nm=[107]):∃(s:List UInt8) (r k z a b:Int) (c:Nat) (d e:Int) (f:Nat) (g:Int),jA_ Tryz.prog 153 [VARS,.str nm] (.tup [.agg [.str s,.int .i64 r,.int .i64 k,.int .i64 z,.int .i64 a,.int .i64 b,.flt .f64 c,.int .i64 d,.int .i64 e,.flt .f64 f],.int .i64 g,.bool true])/\(nm,r)∈xT_:=by
 rcases h with h|rfl
 .simp only [vP_,List.mem_cons,Prod.mk.injEq,List.not_mem_nil,or_false]at h
  rcases h with ⟨rfl,rfl⟩|⟨rfl,rfl⟩|⟨rfl,rfl⟩|⟨rfl,rfl⟩|⟨rfl,rfl⟩|⟨rfl,rfl⟩|⟨rfl,rfl⟩|⟨rfl,rfl⟩|⟨rfl,rfl⟩|⟨rfl,rfl⟩|⟨rfl,rfl⟩
  .exact ⟨_,_,_,_,_,_,_,_,_,_,_,xH_,by decide⟩
  .exact ⟨_,_,_,_,_,_,_,_,_,_,_,w3_,by decide⟩
  .exact ⟨_,_,_,_,_,_,_,_,_,_,_,F_,by decide⟩
  .exact ⟨_,_,_,_,_,_,_,_,_,_,_,xG_,by decide⟩
  .exact ⟨_,_,_,_,_,_,_,_,_,_,_,w5_,by decide⟩
  .exact ⟨_,_,_,_,_,_,_,_,_,_,_,w2_,by decide⟩
  .exact ⟨_,_,_,_,_,_,_,_,_,_,_,wQ_,by decide⟩
  .exact ⟨_,_,_,_,_,_,_,_,_,_,_,w6_,by decide⟩
  .exact ⟨_,_,_,_,_,_,_,_,_,_,_,F_,by decide⟩
  .exact ⟨_,_,_,_,_,_,_,_,_,_,_,w4_,by decide⟩
  .exact ⟨_,_,_,_,_,_,_,_,_,_,_,w7_,by decide⟩
 .exact ⟨_,_,_,_,_,_,_,_,_,_,_,wr_,by decide⟩
def Blk (kd ad:Int) (ks:List Int):Prop:=(kd=6/\ad=12/\ks=[1,4])\/(kd=9/\ad=16/\ks=[1,2])\/(kd=11/\ad=19/\ks=[1])
def TS:Nat->GS->Prop
 |0,_=>False
 |d+1,.mk op to e thn els nm kd ad args=>
  (op=1/\TX 5 to/\(to.op=2/\(to.ad,to.kd)∈wrL\/to.op=3)/\TX 6 e/\e.kd=to.kd/\thn=[]/\els=[])\/
  ((op=2\/op=3)/\TX 5 e/\e.kd=1/\thn.length<=5/\els.length<=5/\(∀s∈thn,TS d s)/\∀s∈els,TS d s)\/
  (op=4/\Blk kd ad (args.map GX.kd)/\(∀a∈args,TX 5 a)/\thn=[]/\els=[])
def LK (x y:GS):Prop:=match x,y with
 | .mk op to ..,.mk op' to' .. =>op=1->op'=1/\NT to to'
def RT (d:Nat) (x:GS):Nat->List AV->Prop:=λ_ ws=>∃(y:GS) (e:Int),ws=o_ y++[.int .i64 e]/\(e=0->TS d y/\LK x y)
def LKs (l y:List GS):Prop:=∀(j:Nat) (h1:j<l.length) (h2:j<y.length),LK l[j] y[j]
def RU (d:Nat) (l:List GS):Nat->List AV->Prop:=λ_ ws=>∃(y:List GS) (e:Int),ws=[q_ y,.int .i64 e]/\(e=0->y.length=l.length/\(∀s∈y,TS d s)/\LKs l y)
theorem D_ {d j:Nat} {x y:GS} {e:Int} {hv:List AV} {Y:Sy} {L:List (Nat->List AV->Prop)} (h:ab_ Y.v hv=o_ y++[.int .i64 e]) (hw:e=0->TS d y/\LK x y):VOK Tryz.prog (QF (RT d x)) L Y (.done (.tup (.int .i64 (.ofNat j)::hv))):=
 VOK_fin (by rw [h];exact zY_ y e) ⟨y,e,h,hw⟩
theorem xk_ (x:GX):okL (VARS::j_ x)=true:=by rw [aY_];exact okX x
theorem zi_ (x:GS):okL (VARS::o_ x)=true:=by rw [aY_];exact okS x
theorem Bz_ (d:Nat) (to e:GX) (thn els:List GS) (nm:List UInt8) (kd ad:Int) (args:List GX) (ht:WX 5 to) (ho:to.op=2\/to.op=3) (he:WX 6 e) (hnil:thn=[]/\els=[]):
  CF Tryz.prog 119 xx_ (VARS::o_ (.mk 1 to e thn els nm kd ad args)) (RT (d+1) (.mk 1 to e thn els nm kd ad args)):=by
 have h1:=wS_ 5 to ht
 have h2:=wS_ 6 e he
 obtain ⟨to1,to2,to3,to4,to5,to6,to7,to8,to9,to10⟩:=to
 obtain ⟨e1,e2,e3,e4,e5,e6,e7,e8,e9,e10⟩:=e
 refine vh_ (c:=A1_) (n:=300) (t:=Ag_) mo ov rfl (λY _=>vE_ _) (by kernel_rfl) λY hf hg=>?_
 unfold Ag_
 refine a_ h2 rfl (xk_ _) ⟨?_,trivial⟩
 rintro ws ⟨⟨y1,y2,y3,y4,y5,y6,y7,y8,y9,y10⟩,er,rfl,hy⟩
 (refine b_ rfl rfl ?_ ?_<;>intro h<;>simp only [nc]at h<;>try (exfalso;omega))
 ·(exact D_ (y:=.mk _ (.mk _ _ _ _ _ _ _ _ _ _) (.mk _ _ _ _ _ _ _ _ _ _) _ _ _ _ _ _) rfl (λhe=>absurd he (by first|assumption|decide)))
 have hy:=(hy h).1
 refine a_ h1 rfl (xk_ _) ⟨?_,trivial⟩
 rintro ws ⟨⟨z1,z2,z3,z4,z5,z6,z7,z8,z9,z10⟩,er2,rfl,hz⟩
 (refine b_ rfl rfl ?_ ?_<;>intro h<;>simp only [nc]at h<;>try (exfalso;omega))
 ·(exact D_ (y:=.mk _ (.mk _ _ _ _ _ _ _ _ _ _) (.mk _ _ _ _ _ _ _ _ _ _) _ _ _ _ _ _) rfl (λhe=>absurd he (by first|assumption|decide)))
 have hz:=hz h
 obtain ⟨s,r,k,z,a,b,c,d',e',f,g,hp,hro⟩:=yp_ (nm:=to3) (fd:=to4) (by
  have ht':Nod to1 to2 to3 to4 to7 to8 to9:=ht.2.2.1
  rcases ho with ho|ho
  .exact .inl (ht'.2.1 ho)
  .exact .inr (ht'.2.2.1 ho))
 refine uI_ hp rfl rfl ?_
 refine vx_ (vr_ ..) rfl (ve_ rfl (λh=>?_) (λhfd=>?_))
 ·(exact D_ (y:=.mk _ (.mk _ _ _ _ _ _ _ _ _ _) (.mk _ _ _ _ _ _ _ _ _ _) _ _ _ _ _ _) rfl (λhe=>absurd he (by first|assumption|decide)))
 (refine b_ rfl rfl ?_ ?_<;>intro h<;>simp only [nc]at h<;>try (exfalso;omega))
 ·(exact D_ (y:=.mk _ (.mk _ _ _ _ _ _ _ _ _ _) (.mk _ _ _ _ _ _ _ _ _ _) _ _ _ _ _ _) rfl (λhe=>absurd he (by first|assumption|decide)))
 have hr1:=h
 obtain ⟨⟨yo1,yk1,ynm1,yfd1,yad1,yn1,yvk1,yvi1,yvf1,ya1⟩,hp1,hy1⟩:=xm_ _ z2 hy
 refine uI_ hp1 rfl (xl_ _) ?_
 (refine b_ rfl rfl ?_ ?_<;>intro h<;>simp only [nc]at h<;>try (exfalso;omega))
 ·(exact D_ (y:=.mk _ (.mk _ _ _ _ _ _ _ _ _ _) (.mk _ _ _ _ _ _ _ _ _ _) _ _ _ _ _ _) rfl (λhe=>absurd he (by first|assumption|decide)))
 .rcases ho with ho|ho
  .exact D_ (y:=.mk 1 (.mk _ _ _ _ _ _ _ _ _ _) (.mk _ _ _ _ _ _ _ _ _ _) _ _ _ _ _ _) rfl (λ_=>⟨.inl ⟨rfl,hz.1,.inl ⟨hz.2.1.trans ho,tie_wr _ (hz.2.2 ho) _ hro (by simpa using hfd) rfl hr1⟩,hy1,h,hnil⟩,λ_=>⟨rfl,hz.2.2⟩⟩)
  .exact D_ (y:=.mk 1 (.mk _ _ _ _ _ _ _ _ _ _) (.mk _ _ _ _ _ _ _ _ _ _) _ _ _ _ _ _) rfl (λ_=>⟨.inl ⟨rfl,hz.1,.inr (hz.2.1.trans ho),hy1,h,hnil⟩,λ_=>⟨rfl,hz.2.2⟩⟩)
theorem xd_ {d:Nat} {acc:List GX} {y:GX} (h:∀a∈acc,TX d a) (hy:TX d y):∀a∈acc++[y],TX d a:=λa ha=>by
 rcases List.mem_append.1 ha with ha|ha
 .exact h a ha
 .cases List.mem_singleton.1 ha;exact hy
theorem BA_ (d:Nat) (to e:GX) (thn els:List GS) (nm:List UInt8) (kd ad:Int) (args:List GX) (hn:nm=[116,109]\/nm=[99]\/nm=[101]) (hl:args.length<=2) (hW:∀a∈args,WX 5 a) (hnil:thn=[]/\els=[]):
  CF Tryz.prog 120 xy_ (VARS::o_ (.mk 4 to e thn els nm kd ad args)) (RT (d+1) (.mk 4 to e thn els nm kd ad args)):=by
 obtain ⟨to1,to2,to3,to4,to5,to6,to7,to8,to9,to10⟩:=to
 obtain ⟨e1,e2,e3,e4,e5,e6,e7,e8,e9,e10⟩:=e
 refine vh_ (c:=A2_) (n:=300) (t:=Ah_) mo ov rfl (λY _=>vE_ _) (by kernel_rfl) λY hf hg=>?_
 unfold Ah_
 rcases hn with rfl|rfl|rfl
 .refine uI_ F_ rfl rfl (vx_ rfl rfl (ve_ rfl (λh=>by cases h) (λ_=>uI_ xF_ rfl rfl ?_)))
  (refine b_ rfl rfl ?_ ?_<;>intro h<;>simp only [nc]at h<;>try (exfalso;omega));(refine b_ rfl rfl ?_ ?_<;>intro h<;>simp only [nc]at h<;>try (exfalso;omega));(refine b_ rfl rfl ?_ ?_<;>intro h<;>simp only [nc]at h<;>try (exfalso;omega));(refine b_ rfl rfl ?_ ?_<;>intro h<;>simp only [nc]at h<;>try (exfalso;omega));(refine b_ rfl rfl ?_ ?_<;>intro h<;>simp only [nc]at h<;>try (exfalso;omega))
  (
   refine uK_ (ι:=List GX×Nat) (λs=>[(.vsl 2 1 [.int .i64 1,.int .i64 4]),y_ s.1,.int .i64 (s.2:Int)]) (λs=>s.1.length=s.2/\s.2<=args.length/\∀a∈s.1,TX 5 a) (λs=>args.length-s.2) ([],0) ⟨rfl,Nat.zero_le _,λa ha=>(List.not_mem_nil ha).elim⟩ rfl (λs _=>by simp only [okL,okC,okA]) (λs s' _ _ h=>by simp at h;omega) (λs hs=>?_)
   obtain ⟨acc,i⟩:=s
   obtain ⟨h1,h2,h3⟩:=hs
   simp only at h1 h2 h3⊢
   refine vx_ (r_ args) rfl ?_
   (refine b_ rfl rfl ?_ ?_<;>intro h<;>simp only [nc]at h<;>try (exfalso;omega))
   .have hi:i<args.length:=by omega
    have hld:=v_ args hi
    have hz:=wS_ 5 args[i] (hW _ (List.getElem_mem hi))
    rcases hzz:args[i]with ⟨zo,zk,znm,zfd,zad,zn,zvk,zvi,zvf,za⟩
    rw [hzz]at hld hz
    refine vx_ (u_ args hi) (oL_ okX _) (vf_ hld rfl (okX _) ?_)
    refine a_ hz rfl (xk_ _) ⟨?_,trivial⟩
    rintro ws ⟨⟨yo,yk,ynm,yfd,yad,yn,yvk,yvi,yvf,ya⟩,e,rfl,hy⟩
    (refine b_ rfl rfl ?_ ?_<;>intro h<;>simp only [nc]at h<;>try (exfalso;omega))
    ·(exact D_ (y:=.mk _ (.mk _ _ _ _ _ _ _ _ _ _) (.mk _ _ _ _ _ _ _ _ _ _) _ _ _ _ _ _) rfl (λhe=>absurd he (by first|assumption|decide)))
    have hy:=(hy h).1
    refine vx_ (r:=.int .i64 2) rfl rfl ?_
    (refine b_ rfl rfl ?_ ?_<;>intro h<;>simp only [nc]at h<;>try (exfalso;omega))
    all_goals first
     |(have hi2:i=0\/i=1:=by omega
       rcases hi2 with rfl|rfl
       all_goals try (exfalso;omega)
       all_goals
        refine vx_ rfl rfl (vx_ rfl rfl ?_)
        obtain ⟨⟨yo1,yk1,ynm1,yfd1,yad1,yn1,yvk1,yvi1,yvf1,ya1⟩,hp1,hy1⟩:=xm_ _ _ hy
        refine uI_ hp1 rfl (xl_ _) ?_
        refine vx_ (A_ acc (.mk yo1 yk1 ynm1 yfd1 yad1 yn1 yvk1 yvi1 yvf1 ya1) (by omega)) (okA _) (vx_ (h_ (by omega) (by omega)) rfl (uv_ rfl ⟨(acc++[_],_),⟨by rw [List.length_append,h1];rfl,hi,xd_ h3 hy1⟩,rfl,by simp only;omega⟩)))
     |exact vx_ (A_ acc (.mk yo yk ynm yfd yad yn yvk yvi yvf ya) (by omega)) (okA _) (vx_ (h_ (by omega) (by omega)) rfl (uv_ rfl ⟨(acc++[_],i+1),⟨by rw [List.length_append,h1];rfl,hi,xd_ h3 hy⟩,rfl,by simp only;omega⟩))
   have hi:i=args.length:=by omega
   subst hi
   refine vx_ (r_ acc) rfl (vx_ (r:=.int .i64 2) rfl rfl ?_))
  (refine b_ rfl rfl ?_ ?_<;>intro h<;>simp only [nc]at h<;>try (exfalso;omega))
  ·(exact D_ (y:=.mk _ (.mk _ _ _ _ _ _ _ _ _ _) (.mk _ _ _ _ _ _ _ _ _ _) _ _ _ _ _ _) rfl (λhe=>absurd he (by first|assumption|decide)))
  have ha:acc.length=2:=by
   have h':(acc.length:Int)=2:=h
   omega
  obtain ⟨y,z,rfl⟩:∃y z,acc=[y,z]:=by
   rcases acc with _|⟨y,_|⟨z,_|⟨w,t⟩⟩⟩<;>simp at ha
   exact ⟨y,z,rfl⟩
  obtain ⟨y1,y2,y3,y4,y5,y6,y7,y8,y9,y10⟩:=y
  obtain ⟨z1,z2,z3,z4,z5,z6,z7,z8,z9,z10⟩:=z
  refine uK_ (ι:=Nat) (λi=>[.int .i64 (i:Int),.vsl 2 1 [.int .i64 1,.int .i64 4],y_ [.mk y1 y2 y3 y4 y5 y6 y7 y8 y9 y10,.mk z1 z2 z3 z4 z5 z6 z7 z8 z9 z10]]) (λi=>i<=2/\(1<=i->y2=1)/\(2<=i->z2=4)) (λi=>2-i) 0 ⟨by decide,λh=>by omega,λh=>by omega⟩ rfl (λs _=>by simp only [okL,okC,okA]) (λs s' _ _ h=>by simp at h;omega) (λi hi=>?_)
  obtain ⟨i1,i2,i3⟩:=hi
  refine vx_ (r:=.int .i64 2) rfl rfl ?_
  (refine b_ rfl rfl ?_ ?_<;>intro h<;>simp only [nc]at h<;>try (exfalso;omega))
  .have hi2:i=0\/i=1:=by omega
   rcases hi2 with rfl|rfl
   .refine vx_ (r:=.int .i64 0) rfl rfl (vx_ (r:=.int .i64 y2) rfl rfl (vx_ (r:=.int .i64 0) rfl rfl (vx_ (r:=.int .i64 1) rfl rfl ?_)))
    (refine b_ rfl rfl ?_ ?_<;>intro h<;>simp only [nc]at h<;>try (exfalso;omega))
    ·(exact D_ (y:=.mk _ (.mk _ _ _ _ _ _ _ _ _ _) (.mk _ _ _ _ _ _ _ _ _ _) _ _ _ _ _ _) rfl (λhe=>absurd he (by first|assumption|decide)))
    .exact vx_ (h_ (by omega) (by omega)) rfl (uv_ rfl ⟨1,⟨by decide,λ_=>h,λh=>by omega⟩,rfl,by decide⟩)
   .refine vx_ (r:=.int .i64 1) rfl rfl (vx_ (r:=.int .i64 z2) rfl rfl (vx_ (r:=.int .i64 1) rfl rfl (vx_ (r:=.int .i64 4) rfl rfl ?_)))
    (refine b_ rfl rfl ?_ ?_<;>intro h<;>simp only [nc]at h<;>try (exfalso;omega))
    ·(exact D_ (y:=.mk _ (.mk _ _ _ _ _ _ _ _ _ _) (.mk _ _ _ _ _ _ _ _ _ _) _ _ _ _ _ _) rfl (λhe=>absurd he (by first|assumption|decide)))
    .exact vx_ (h_ (by omega) (by omega)) rfl (uv_ rfl ⟨2,⟨by decide,λ_=>i2 (by decide),λ_=>h⟩,rfl,by decide⟩)
  .refine D_ (y:=.mk 4 (.mk _ _ _ _ _ _ _ _ _ _) (.mk _ _ _ _ _ _ _ _ _ _) _ _ _ _ _ [.mk _ _ _ _ _ _ _ _ _ _,.mk _ _ _ _ _ _ _ _ _ _]) rfl (λ_=>⟨.inr (.inr ⟨rfl,?_,h3,hnil⟩),λh=>by omega⟩)
   cases i2 (by omega)
   cases i3 (by omega)
   exact .inl ⟨rfl,rfl,rfl⟩
 .refine uI_ wQ_ rfl rfl (vx_ rfl rfl (ve_ rfl (λh=>by cases h) (λ_=>uI_ yM_ rfl rfl ?_)))
  repeat (refine b_ rfl rfl ?_ ?_<;>intro h<;>simp only [nc]at h<;>try (exfalso;omega))
  (
   refine uK_ (ι:=List GX×Nat) (λs=>[(.vsl 2 1 [.int .i64 1,.int .i64 2]),y_ s.1,.int .i64 (s.2:Int)]) (λs=>s.1.length=s.2/\s.2<=args.length/\∀a∈s.1,TX 5 a) (λs=>args.length-s.2) ([],0) ⟨rfl,Nat.zero_le _,λa ha=>(List.not_mem_nil ha).elim⟩ rfl (λs _=>by simp only [okL,okC,okA]) (λs s' _ _ h=>by simp at h;omega) (λs hs=>?_)
   obtain ⟨acc,i⟩:=s
   obtain ⟨h1,h2,h3⟩:=hs
   simp only at h1 h2 h3⊢
   refine vx_ (r_ args) rfl ?_
   (refine b_ rfl rfl ?_ ?_<;>intro h<;>simp only [nc]at h<;>try (exfalso;omega))
   .have hi:i<args.length:=by omega
    have hld:=v_ args hi
    have hz:=wS_ 5 args[i] (hW _ (List.getElem_mem hi))
    rcases hzz:args[i]with ⟨zo,zk,znm,zfd,zad,zn,zvk,zvi,zvf,za⟩
    rw [hzz]at hld hz
    refine vx_ (u_ args hi) (oL_ okX _) (vf_ hld rfl (okX _) ?_)
    refine a_ hz rfl (xk_ _) ⟨?_,trivial⟩
    rintro ws ⟨⟨yo,yk,ynm,yfd,yad,yn,yvk,yvi,yvf,ya⟩,e,rfl,hy⟩
    (refine b_ rfl rfl ?_ ?_<;>intro h<;>simp only [nc]at h<;>try (exfalso;omega))
    ·(exact D_ (y:=.mk _ (.mk _ _ _ _ _ _ _ _ _ _) (.mk _ _ _ _ _ _ _ _ _ _) _ _ _ _ _ _) rfl (λhe=>absurd he (by first|assumption|decide)))
    have hy:=(hy h).1
    refine vx_ (r:=.int .i64 2) rfl rfl ?_
    (refine b_ rfl rfl ?_ ?_<;>intro h<;>simp only [nc]at h<;>try (exfalso;omega))
    all_goals first
     |(have hi2:i=0\/i=1:=by omega
       rcases hi2 with rfl|rfl
       all_goals try (exfalso;omega)
       all_goals
        refine vx_ rfl rfl (vx_ rfl rfl ?_)
        obtain ⟨⟨yo1,yk1,ynm1,yfd1,yad1,yn1,yvk1,yvi1,yvf1,ya1⟩,hp1,hy1⟩:=xm_ _ _ hy
        refine uI_ hp1 rfl (xl_ _) ?_
        refine vx_ (A_ acc (.mk yo1 yk1 ynm1 yfd1 yad1 yn1 yvk1 yvi1 yvf1 ya1) (by omega)) (okA _) (vx_ (h_ (by omega) (by omega)) rfl (uv_ rfl ⟨(acc++[_],_),⟨by rw [List.length_append,h1];rfl,hi,xd_ h3 hy1⟩,rfl,by simp only;omega⟩)))
     |exact vx_ (A_ acc (.mk yo yk ynm yfd yad yn yvk yvi yvf ya) (by omega)) (okA _) (vx_ (h_ (by omega) (by omega)) rfl (uv_ rfl ⟨(acc++[_],i+1),⟨by rw [List.length_append,h1];rfl,hi,xd_ h3 hy⟩,rfl,by simp only;omega⟩))
   have hi:i=args.length:=by omega
   subst hi
   refine vx_ (r_ acc) rfl (vx_ (r:=.int .i64 2) rfl rfl ?_))
  (refine b_ rfl rfl ?_ ?_<;>intro h<;>simp only [nc]at h<;>try (exfalso;omega))
  ·(exact D_ (y:=.mk _ (.mk _ _ _ _ _ _ _ _ _ _) (.mk _ _ _ _ _ _ _ _ _ _) _ _ _ _ _ _) rfl (λhe=>absurd he (by first|assumption|decide)))
  have ha:acc.length=2:=by
   have h':(acc.length:Int)=2:=h
   omega
  obtain ⟨y,z,rfl⟩:∃y z,acc=[y,z]:=by
   rcases acc with _|⟨y,_|⟨z,_|⟨w,t⟩⟩⟩<;>simp at ha
   exact ⟨y,z,rfl⟩
  obtain ⟨y1,y2,y3,y4,y5,y6,y7,y8,y9,y10⟩:=y
  obtain ⟨z1,z2,z3,z4,z5,z6,z7,z8,z9,z10⟩:=z
  refine uK_ (ι:=Nat) (λi=>[.int .i64 (i:Int),.vsl 2 1 [.int .i64 1,.int .i64 2],y_ [.mk y1 y2 y3 y4 y5 y6 y7 y8 y9 y10,.mk z1 z2 z3 z4 z5 z6 z7 z8 z9 z10]]) (λi=>i<=2/\(1<=i->y2=1)/\(2<=i->z2=2)) (λi=>2-i) 0 ⟨by decide,λh=>by omega,λh=>by omega⟩ rfl (λs _=>by simp only [okL,okC,okA]) (λs s' _ _ h=>by simp at h;omega) (λi hi=>?_)
  obtain ⟨i1,i2,i3⟩:=hi
  refine vx_ (r:=.int .i64 2) rfl rfl ?_
  (refine b_ rfl rfl ?_ ?_<;>intro h<;>simp only [nc]at h<;>try (exfalso;omega))
  .have hi2:i=0\/i=1:=by omega
   rcases hi2 with rfl|rfl
   .refine vx_ (r:=.int .i64 0) rfl rfl (vx_ (r:=.int .i64 y2) rfl rfl (vx_ (r:=.int .i64 0) rfl rfl (vx_ (r:=.int .i64 1) rfl rfl ?_)))
    (refine b_ rfl rfl ?_ ?_<;>intro h<;>simp only [nc]at h<;>try (exfalso;omega))
    ·(exact D_ (y:=.mk _ (.mk _ _ _ _ _ _ _ _ _ _) (.mk _ _ _ _ _ _ _ _ _ _) _ _ _ _ _ _) rfl (λhe=>absurd he (by first|assumption|decide)))
    .exact vx_ (h_ (by omega) (by omega)) rfl (uv_ rfl ⟨1,⟨by decide,λ_=>h,λh=>by omega⟩,rfl,by decide⟩)
   .refine vx_ (r:=.int .i64 1) rfl rfl (vx_ (r:=.int .i64 z2) rfl rfl (vx_ (r:=.int .i64 1) rfl rfl (vx_ (r:=.int .i64 2) rfl rfl ?_)))
    (refine b_ rfl rfl ?_ ?_<;>intro h<;>simp only [nc]at h<;>try (exfalso;omega))
    ·(exact D_ (y:=.mk _ (.mk _ _ _ _ _ _ _ _ _ _) (.mk _ _ _ _ _ _ _ _ _ _) _ _ _ _ _ _) rfl (λhe=>absurd he (by first|assumption|decide)))
    .exact vx_ (h_ (by omega) (by omega)) rfl (uv_ rfl ⟨2,⟨by decide,λ_=>i2 (by decide),λ_=>h⟩,rfl,by decide⟩)
  .refine D_ (y:=.mk 4 (.mk _ _ _ _ _ _ _ _ _ _) (.mk _ _ _ _ _ _ _ _ _ _) _ _ _ _ _ [.mk _ _ _ _ _ _ _ _ _ _,.mk _ _ _ _ _ _ _ _ _ _]) rfl (λ_=>⟨.inr (.inr ⟨rfl,?_,h3,hnil⟩),λh=>by omega⟩)
   cases i2 (by omega)
   cases i3 (by omega)
   exact .inr (.inl ⟨rfl,rfl,rfl⟩)
 .refine uI_ yo_ rfl rfl (vx_ rfl rfl (ve_ rfl (λh=>by cases h) (λ_=>uI_ ze_ rfl rfl ?_)))
  repeat (refine b_ rfl rfl ?_ ?_<;>intro h<;>simp only [nc]at h<;>try (exfalso;omega))
  (
   refine uK_ (ι:=List GX×Nat) (λs=>[(.vsl 1 1 [.int .i64 1]),y_ s.1,.int .i64 (s.2:Int)]) (λs=>s.1.length=s.2/\s.2<=args.length/\∀a∈s.1,TX 5 a) (λs=>args.length-s.2) ([],0) ⟨rfl,Nat.zero_le _,λa ha=>(List.not_mem_nil ha).elim⟩ rfl (λs _=>by simp only [okL,okC,okA]) (λs s' _ _ h=>by simp at h;omega) (λs hs=>?_)
   obtain ⟨acc,i⟩:=s
   obtain ⟨h1,h2,h3⟩:=hs
   simp only at h1 h2 h3⊢
   refine vx_ (r_ args) rfl ?_
   (refine b_ rfl rfl ?_ ?_<;>intro h<;>simp only [nc]at h<;>try (exfalso;omega))
   .have hi:i<args.length:=by omega
    have hld:=v_ args hi
    have hz:=wS_ 5 args[i] (hW _ (List.getElem_mem hi))
    rcases hzz:args[i]with ⟨zo,zk,znm,zfd,zad,zn,zvk,zvi,zvf,za⟩
    rw [hzz]at hld hz
    refine vx_ (u_ args hi) (oL_ okX _) (vf_ hld rfl (okX _) ?_)
    refine a_ hz rfl (xk_ _) ⟨?_,trivial⟩
    rintro ws ⟨⟨yo,yk,ynm,yfd,yad,yn,yvk,yvi,yvf,ya⟩,e,rfl,hy⟩
    (refine b_ rfl rfl ?_ ?_<;>intro h<;>simp only [nc]at h<;>try (exfalso;omega))
    ·(exact D_ (y:=.mk _ (.mk _ _ _ _ _ _ _ _ _ _) (.mk _ _ _ _ _ _ _ _ _ _) _ _ _ _ _ _) rfl (λhe=>absurd he (by first|assumption|decide)))
    have hy:=(hy h).1
    refine vx_ (r:=.int .i64 1) rfl rfl ?_
    (refine b_ rfl rfl ?_ ?_<;>intro h<;>simp only [nc]at h<;>try (exfalso;omega))
    all_goals first
     |(have hi2:i=0\/i=1:=by omega
       rcases hi2 with rfl|rfl
       all_goals try (exfalso;omega)
       all_goals
        refine vx_ rfl rfl (vx_ rfl rfl ?_)
        obtain ⟨⟨yo1,yk1,ynm1,yfd1,yad1,yn1,yvk1,yvi1,yvf1,ya1⟩,hp1,hy1⟩:=xm_ _ _ hy
        refine uI_ hp1 rfl (xl_ _) ?_
        refine vx_ (A_ acc (.mk yo1 yk1 ynm1 yfd1 yad1 yn1 yvk1 yvi1 yvf1 ya1) (by omega)) (okA _) (vx_ (h_ (by omega) (by omega)) rfl (uv_ rfl ⟨(acc++[_],_),⟨by rw [List.length_append,h1];rfl,hi,xd_ h3 hy1⟩,rfl,by simp only;omega⟩)))
     |exact vx_ (A_ acc (.mk yo yk ynm yfd yad yn yvk yvi yvf ya) (by omega)) (okA _) (vx_ (h_ (by omega) (by omega)) rfl (uv_ rfl ⟨(acc++[_],i+1),⟨by rw [List.length_append,h1];rfl,hi,xd_ h3 hy⟩,rfl,by simp only;omega⟩))
   have hi:i=args.length:=by omega
   subst hi
   refine vx_ (r_ acc) rfl (vx_ (r:=.int .i64 1) rfl rfl ?_))
  (refine b_ rfl rfl ?_ ?_<;>intro h<;>simp only [nc]at h<;>try (exfalso;omega))
  ·(exact D_ (y:=.mk _ (.mk _ _ _ _ _ _ _ _ _ _) (.mk _ _ _ _ _ _ _ _ _ _) _ _ _ _ _ _) rfl (λhe=>absurd he (by first|assumption|decide)))
  have ha:acc.length=1:=by
   have h':(acc.length:Int)=1:=h
   omega
  obtain ⟨y,rfl⟩:=List.length_eq_one_iff.1 ha
  obtain ⟨y1,y2,y3,y4,y5,y6,y7,y8,y9,y10⟩:=y
  refine uK_ (ι:=Nat) (λi=>[.int .i64 (i:Int),.vsl 1 1 [.int .i64 1],y_ [.mk y1 y2 y3 y4 y5 y6 y7 y8 y9 y10]]) (λi=>i<=1/\(1<=i->y2=1)) (λi=>1-i) 0 ⟨by decide,λh=>by omega⟩ rfl (λs _=>by simp only [okL,okC,okA]) (λs s' _ _ h=>by simp at h;omega) (λi hi=>?_)
  obtain ⟨i1,i2⟩:=hi
  refine vx_ (r:=.int .i64 1) rfl rfl ?_
  (refine b_ rfl rfl ?_ ?_<;>intro h<;>simp only [nc]at h<;>try (exfalso;omega))
  .have hi2:i=0:=by omega
   subst hi2
   refine vx_ (r:=.int .i64 0) rfl rfl (vx_ (r:=.int .i64 y2) rfl rfl (vx_ (r:=.int .i64 0) rfl rfl (vx_ (r:=.int .i64 1) rfl rfl ?_)))
   (refine b_ rfl rfl ?_ ?_<;>intro h<;>simp only [nc]at h<;>try (exfalso;omega))
   ·(exact D_ (y:=.mk _ (.mk _ _ _ _ _ _ _ _ _ _) (.mk _ _ _ _ _ _ _ _ _ _) _ _ _ _ _ _) rfl (λhe=>absurd he (by first|assumption|decide)))
   .exact vx_ (h_ (by omega) (by omega)) rfl (uv_ rfl ⟨1,⟨by decide,λ_=>h⟩,rfl,by decide⟩)
  .refine D_ (y:=.mk 4 (.mk _ _ _ _ _ _ _ _ _ _) (.mk _ _ _ _ _ _ _ _ _ _) _ _ _ _ _ [.mk _ _ _ _ _ _ _ _ _ _]) rfl (λ_=>⟨.inr (.inr ⟨rfl,?_,h3,hnil⟩),λh=>by omega⟩)
   cases i2 (by omega)
   exact .inr (.inr ⟨rfl,rfl,rfl⟩)
theorem vl_ (l:List GS):(XOp.len 26).run Tryz.prog [q_ l]=some (.int .i64 (l.length:Int)):=by rw [nw_];exact ue_ Tryz.underlying26 l
theorem vY_ (l:List GS) {i:Nat} (h:i<l.length):(XOp.iaddr 26).run Tryz.prog [q_ l,.int .i64 (i:Int)]=some (.vptr (bA_ o_ (l.drop i))):=by
 rw [nw_];exact run_iaddr_sl (e:=52) (ti:=(Tryz.prog.info? 52).get!) Tryz.underlying26 (by kernel_rfl) (by kernel_rfl) yq_ h .i64
theorem wJ_ (l:List GS) {i:Nat} (h:i<l.length):(XOp.load 52).run Tryz.prog [.vptr (bA_ o_ (l.drop i))]=some (.agg (o_ l[i])):=
 run_load_agg (ti:=(Tryz.prog.info? 52).get!) Tryz.underlying52 rfl (by kernel_rfl) (by kernel_rfl) yq_ h
def PT (d:Nat):Prop:=∀x:GS,WS d x->CF Tryz.prog 78 ft78 (VARS::o_ x) (RT d x)
theorem p46 (d:Nat) (hT:PT d) (l:List GS) (hl:l.length<=5) (hW:∀s∈l,WS d s):CF Tryz.prog 46 ft46 [VARS,q_ l] (RU d l):=by
 refine vh_ (c:=c46) (n:=300) (t:=t46) mo ov rfl (λY _=>vE_ _) (by kernel_rfl) λY hf hg=>?_
 unfold t46
 refine uK_ (ι:=List GS×Nat) (λs=>[q_ s.1,.int .i64 (s.2:Int)]) (λs=>s.1.length=s.2/\s.2<=l.length/\(∀a∈s.1,TS d a)/\LKs l s.1) (λs=>l.length-s.2) ([],0) ⟨rfl,Nat.zero_le _,λa ha=>(List.not_mem_nil ha).elim,λj _ h=>absurd h (Nat.not_lt_zero j)⟩ rfl (λs _=>by simp only [okL,okC,okB]) (λs s' _ _ h=>by simp at h;omega) (λs hs=>?_)
 obtain ⟨acc,i⟩:=s
 obtain ⟨h1,h2,h3,h5⟩:=hs
 simp only at h1 h2 h3 h5⊢
 refine vx_ (vl_ l) rfl ?_
 (refine b_ rfl rfl ?_ ?_<;>intro h<;>simp only [nc]at h<;>try (exfalso;omega))
 .have hi:i<l.length:=by omega
  have hld:=wJ_ l hi
  have hz:=hT l[i] (hW _ (List.getElem_mem hi))
  rcases hzz:l[i]with ⟨op,⟨to1,to2,to3,to4,to5,to6,to7,to8,to9,to10⟩,⟨e1,e2,e3,e4,e5,e6,e7,e8,e9,e10⟩,thn,els,nm,kd,ad,args⟩
  rw [hzz]at hld hz
  refine vx_ (vY_ l hi) (oL_ okS _) (vf_ hld rfl (okS _) ?_)
  refine a_ hz rfl (zi_ _) ⟨?_,trivial⟩
  rintro ws ⟨⟨op',⟨so1,so2,so3,so4,so5,so6,so7,so8,so9,so10⟩,⟨f1,f2,f3,f4,f5,f6,f7,f8,f9,f10⟩,thn',els',nm',kd',ad',args'⟩,e,rfl,hy⟩
  (refine b_ rfl rfl ?_ ?_<;>intro h<;>simp only [nc]at h<;>try (exfalso;omega))
  .exact VOK_fin rfl ⟨[],e,rfl,λhe=>absurd he h⟩
  .rename_i hh
   refine vx_ (o0_ acc (.mk op' (.mk so1 so2 so3 so4 so5 so6 so7 so8 so9 so10) (.mk f1 f2 f3 f4 f5 f6 f7 f8 f9 f10) thn' els' nm' kd' ad' args') (by omega)) (okB _) (vx_ (h_ (by omega) (by omega)) rfl (uv_ rfl ⟨(acc++[_],i+1),⟨by rw [List.length_append,h1];rfl,hi,?_,?_⟩,rfl,by simp only;omega⟩))
   .intro a ha
    rcases List.mem_append.1 ha with ha|ha
    .exact h3 a ha
    .cases List.mem_singleton.1 ha;exact (hy (by assumption)).1
   .intro j g1 g2
    by_cases e:j<acc.length
    .rw [List.getElem_append_left e];exact h5 j g1 e
    .have e:j=acc.length:=by rw [List.length_append,List.length_singleton]at g2;omega
     have e2:j=i:=by omega
     subst e2
     rw [List.getElem_append_right (by omega)]
     simp only [hzz]
     have:∀(k:Nat) (h:k<1),k=0:=λk h=>by omega
     simp only [e,Nat.sub_self,List.getElem_singleton]
     exact (hy (by assumption)).2
 .exact VOK_fin (by show okL [q_ acc,.int .i64 0]=true;simp only [okL,okC,okB]) ⟨acc,0,rfl,λ_=>⟨by omega,h3,h5⟩⟩
theorem yu_ (l:List GS):okL [VARS,q_ l]=true:=by rw [aY_];simp only [okL,okC,okB];rfl
theorem p78:∀d:Nat,PT d
 |0,_,h=>h.elim
 |d+1,.mk op to e thn els nm kd ad args,hx=>by
  have ih:=p46 d (p78 d)
  have h1:op=1->_:=λh=>Bz_ d to e thn els nm kd ad args
  have h4:=BA_ d to e thn els nm kd ad args
  have h2:=wS_ 5 e
  obtain ⟨to1,to2,to3,to4,to5,to6,to7,to8,to9,to10⟩:=to
  obtain ⟨e1,e2,e3,e4,e5,e6,e7,e8,e9,e10⟩:=e
  refine vh_ (c:=c78) (n:=300) (t:=t78) mo ov rfl (λY _=>vE_ _) (by kernel_rfl) λY hf hg=>?_
  unfold t78
  rcases hx with ⟨rfl,a1,a2,a3,a4⟩|⟨ho,b1,b2,b3,b4,b5⟩|⟨rfl,a1,a2,a3,a4⟩
  ·(refine b_ rfl rfl ?_ ?_<;>intro h<;>simp only [nc]at h<;>try (exfalso;omega))
   refine a_ (h1 rfl a1 a2 a3 a4) rfl (zi_ _) ⟨?_,trivial⟩
   rintro ws ⟨⟨op',⟨so1,so2,so3,so4,so5,so6,so7,so8,so9,so10⟩,⟨f1,f2,f3,f4,f5,f6,f7,f8,f9,f10⟩,thn',els',nm',kd',ad',args'⟩,e,rfl,hy⟩
   exact D_ (y:=.mk _ (.mk _ _ _ _ _ _ _ _ _ _) (.mk _ _ _ _ _ _ _ _ _ _) _ _ _ _ _ _) rfl hy
  ·(refine b_ rfl rfl ?_ ?_<;>intro h<;>simp only [nc]at h<;>try (exfalso;omega));(refine b_ rfl rfl ?_ ?_<;>intro h<;>simp only [nc]at h<;>try (exfalso;omega))
   refine a_ (h2 b1) rfl (xk_ _) ⟨?_,trivial⟩
   rintro ws ⟨⟨y1,y2,y3,y4,y5,y6,y7,y8,y9,y10⟩,er,rfl,hy⟩
   (refine b_ rfl rfl ?_ ?_<;>intro h<;>simp only [nc]at h<;>try (exfalso;omega))
   ·(exact D_ (y:=.mk _ (.mk _ _ _ _ _ _ _ _ _ _) (.mk _ _ _ _ _ _ _ _ _ _) _ _ _ _ _ _) rfl (λhe=>absurd he (by first|assumption|decide)))
   have hy:=(hy h).1
   (refine b_ rfl rfl ?_ ?_<;>intro h<;>simp only [nc]at h<;>try (exfalso;omega))
   ·(exact D_ (y:=.mk _ (.mk _ _ _ _ _ _ _ _ _ _) (.mk _ _ _ _ _ _ _ _ _ _) _ _ _ _ _ _) rfl (λhe=>absurd he (by first|assumption|decide)))
   have hk:=h
   refine a_ (ih thn b2 b4) rfl (yu_ _) ⟨?_,trivial⟩
   rintro ws ⟨thn',er1,rfl,ht⟩
   (refine b_ rfl rfl ?_ ?_<;>intro h<;>simp only [nc]at h<;>try (exfalso;omega))
   ·(exact D_ (y:=.mk _ (.mk _ _ _ _ _ _ _ _ _ _) (.mk _ _ _ _ _ _ _ _ _ _) _ _ _ _ _ _) rfl (λhe=>absurd he (by first|assumption|decide)))
   have ht:=ht h
   refine a_ (ih els b3 b5) rfl (yu_ _) ⟨?_,trivial⟩
   rintro ws ⟨els',er2,rfl,hs⟩
   refine D_ (y:=.mk _ (.mk _ _ _ _ _ _ _ _ _ _) (.mk _ _ _ _ _ _ _ _ _ _) _ _ _ _ _ _) rfl (λh0=>⟨.inr (.inl ⟨ho,hy,hk,by rw [ht.1];exact b2,by rw [(hs h0).1];exact b3,ht.2.1,(hs h0).2.1⟩),λh=>by omega⟩)
  ·(refine b_ rfl rfl ?_ ?_<;>intro h<;>simp only [nc]at h<;>try (exfalso;omega));(refine b_ rfl rfl ?_ ?_<;>intro h<;>simp only [nc]at h<;>try (exfalso;omega))
   refine a_ (h4 a1 a2 a3 a4) rfl (zi_ _) ⟨?_,trivial⟩
   rintro ws ⟨⟨op',⟨so1,so2,so3,so4,so5,so6,so7,so8,so9,so10⟩,⟨f1,f2,f3,f4,f5,f6,f7,f8,f9,f10⟩,thn',els',nm',kd',ad',args'⟩,e,rfl,hy⟩
   exact D_ (y:=.mk _ (.mk _ _ _ _ _ _ _ _ _ _) (.mk _ _ _ _ _ _ _ _ _ _) _ _ _ _ _ _) rfl hy
end Go.Proofs.YtjconanknjgpnaaGreat.vars
